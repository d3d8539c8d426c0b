/- The links of the run, reckoned, part 1. -/
import Derived.Test.YtcnnmnmeingcmaaGreatDoorRBnD0
import Derived.KernelRfl
namespace Go.Proofs.YtcnnmnmeingcmaaGreatDoorR.Bn
open Go Go.RowKit Go.Proofs Go.Proofs.YtcnnmnmeingcmaaGreatDoorR.X
theorem kx116_0 : kinAllK (withToldL (withKinL cz fuel xk116) fuel xu116) fuel 116 x116_0 = true := by kernel_rfl
theorem k32 : chunkK (withMemo (withToldL (withKinL cx fuel y32) fuel v32) fuel t32) fuel 24 e32 = true := by kernel_rfl
theorem k2 : chunkK (withMemo (withToldL (withKinL cx fuel y2) fuel v2) fuel t2) fuel 80 e2 = true := by kernel_rfl
theorem ku88_0 : toldAllK (withTold cz fuel tu88) fuel 88 u88_0 = true := by kernel_rfl
theorem kx66_0 : kinAllK (withToldL (withKinL cz fuel xk66) fuel xu66) fuel 66 x66_0 = true := by kernel_rfl
theorem ku87_0 : toldAllK (withTold cz fuel tu87) fuel 87 u87_0 = true := by kernel_rfl
theorem ku293_0 : toldAllK (withTold cz fuel tu293) fuel 293 u293_0 = true := by kernel_rfl
theorem kx301_0 : kinAllK (withToldL (withKinL cz fuel xk301) fuel xu301) fuel 301 x301_0 = true := by kernel_rfl
theorem ku110_0 : toldAllK (withTold cz fuel tu110) fuel 110 u110_0 = true := by kernel_rfl
theorem kx191_0 : kinAllK (withToldL (withKinL cz fuel xk191) fuel xu191) fuel 191 x191_0 = true := by kernel_rfl
theorem ku30_0 : toldAllK (withTold cz fuel tu30) fuel 30 u30_0 = true := by kernel_rfl
theorem ku90_0 : toldAllK (withTold cz fuel tu90) fuel 90 u90_0 = true := by kernel_rfl
theorem ku48_0 : toldAllK (withTold cz fuel tu48) fuel 48 u48_0 = true := by kernel_rfl
theorem ku173_0 : toldAllK (withTold cz fuel tu173) fuel 173 u173_0 = true := by kernel_rfl
end Go.Proofs.YtcnnmnmeingcmaaGreatDoorR.Bn
