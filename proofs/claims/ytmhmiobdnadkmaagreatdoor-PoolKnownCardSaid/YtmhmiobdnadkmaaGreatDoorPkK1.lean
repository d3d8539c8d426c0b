/- The links of the run, reckoned, part 1. -/
import Derived.Test.YtmhmiobdnadkmaaGreatDoorPkD0
import Derived.KernelRfl
namespace Go.Proofs.YtmhmiobdnadkmaaGreatDoor.Pk
open Go Go.RowKit Go.Proofs Go.Proofs.YtmhmiobdnadkmaaGreatDoor.X
theorem k424 : chunkK (withMemo (withTold cx fuel v424) fuel t424) fuel 30 e424 = true := by kernel_rfl
theorem k90 : chunkK (withMemo (withTold cx fuel v90) fuel t90) fuel 54 e90 = true := by kernel_rfl
theorem k624 : chunkK (withMemo (withTold cx fuel v624) fuel t624) fuel 37 e624 = true := by kernel_rfl
theorem k148 : chunkK (withMemo (withTold cx fuel v148) fuel t148) fuel 49 e148 = true := by kernel_rfl
theorem k581 : chunkK (withMemo (withTold cx fuel v581) fuel t581) fuel 49 e581 = true := by kernel_rfl
theorem k316 : chunkK (withMemo (withTold cx fuel v316) fuel t316) fuel 49 e316 = true := by kernel_rfl
theorem k126 : chunkK (withMemo (withTold cx fuel v126) fuel t126) fuel 33 e126 = true := by kernel_rfl
theorem k113 : chunkK (withMemo (withTold cx fuel v113) fuel t113) fuel 53 e113 = true := by kernel_rfl
theorem k207 : chunkK (withMemo (withTold cx fuel v207) fuel t207) fuel 134 e207 = true := by kernel_rfl
theorem k439 : chunkK (withMemo (withTold cx fuel v439) fuel t439) fuel 53 e439 = true := by kernel_rfl
theorem ku220_0 : toldAllK (withTold cx fuel tu220) fuel 220 u220_0 = true := by kernel_rfl
theorem k237 : chunkK (withMemo (withTold cx fuel v237) fuel t237) fuel 143 e237 = true := by kernel_rfl
theorem k11 : chunkK (withMemo (withTold cx fuel v11) fuel t11) fuel 88 e11 = true := by kernel_rfl
theorem k371 : chunkK (withMemo (withTold cx fuel v371) fuel t371) fuel 88 e371 = true := by kernel_rfl
theorem ku106_0 : toldAllK (withTold cx fuel tu106) fuel 106 u106_0 = true := by kernel_rfl
theorem k368 : chunkK (withMemo (withTold cx fuel v368) fuel t368) fuel 89 e368 = true := by kernel_rfl
theorem ku229_0 : toldAllK (withTold cx fuel tu229) fuel 229 u229_0 = true := by kernel_rfl
theorem ku14_0 : toldAllK (withTold cx fuel tu14) fuel 14 u14_0 = true := by kernel_rfl
theorem ku156_0 : toldAllK (withTold cx fuel tu156) fuel 156 u156_0 = true := by kernel_rfl
end Go.Proofs.YtmhmiobdnadkmaaGreatDoor.Pk
