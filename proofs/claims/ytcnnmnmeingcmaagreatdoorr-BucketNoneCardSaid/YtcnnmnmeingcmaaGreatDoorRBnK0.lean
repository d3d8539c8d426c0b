/- The links of the run, reckoned, part 0. -/
import Derived.Test.YtcnnmnmeingcmaaGreatDoorRBnD0
import Derived.KernelRfl
namespace Go.Proofs.YtcnnmnmeingcmaaGreatDoorR.Bn
open Go Go.RowKit Go.Proofs Go.Proofs.YtcnnmnmeingcmaaGreatDoorR.X
theorem k70 : chunkK (withMemo (withToldL (withKinL cx fuel y70) fuel v70) fuel t70) fuel 6 e70 = true := by kernel_rfl
theorem k143 (p0 : ByteArray) : chunkK (withMemo (withToldL (withKinL cx fuel y143) fuel v143) fuel t143) fuel 3 (e143 p0) = true := by kernel_rfl
theorem k106 : chunkK (withMemo (withToldL (withKinL cx fuel y106) fuel v106) fuel t106) fuel 6 e106 = true := by kernel_rfl
theorem k8 : chunkK (withMemo (withToldL (withKinL cx fuel y8) fuel v8) fuel t8) fuel 80 e8 = true := by kernel_rfl
theorem kx116_1 : kinAllK (withToldL (withKinL cz fuel xk116) fuel xu116) fuel 116 x116_1 = true := by kernel_rfl
theorem ku175_0 : toldAllK (withTold cz fuel tu175) fuel 175 u175_0 = true := by kernel_rfl
theorem ku215_0 : toldAllK (withTold cz fuel tu215) fuel 215 u215_0 = true := by kernel_rfl
theorem ku310_0 : toldAllK (withTold cz fuel tu310) fuel 310 u310_0 = true := by kernel_rfl
theorem kx266_0 : kinAllK (withToldL (withKinL cz fuel xk266) fuel xu266) fuel 266 x266_0 = true := by kernel_rfl
theorem ku26_0 : toldAllK (withTold cz fuel tu26) fuel 26 u26_0 = true := by kernel_rfl
theorem ku49_0 : toldAllK (withTold cz fuel tu49) fuel 49 u49_0 = true := by kernel_rfl
theorem ku153_0 : toldAllK (withTold cz fuel tu153) fuel 153 u153_0 = true := by kernel_rfl
theorem ku292_0 : toldAllK (withTold cz fuel tu292) fuel 292 u292_0 = true := by kernel_rfl
end Go.Proofs.YtcnnmnmeingcmaaGreatDoorR.Bn
