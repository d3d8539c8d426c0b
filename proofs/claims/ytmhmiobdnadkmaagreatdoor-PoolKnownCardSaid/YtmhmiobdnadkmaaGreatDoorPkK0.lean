/- The links of the run, reckoned, part 0. -/
import Derived.Test.YtmhmiobdnadkmaaGreatDoorPkD0
import Derived.KernelRfl
namespace Go.Proofs.YtmhmiobdnadkmaaGreatDoor.Pk
open Go Go.RowKit Go.Proofs Go.Proofs.YtmhmiobdnadkmaaGreatDoor.X
theorem k64 : chunkK (withMemo (withTold cx fuel v64) fuel t64) fuel 30 e64 = true := by kernel_rfl
theorem k501 : chunkK (withMemo (withTold cx fuel v501) fuel t501) fuel 77 e501 = true := by kernel_rfl
theorem k248 : chunkK (withMemo (withTold cx fuel v248) fuel t248) fuel 30 e248 = true := by kernel_rfl
theorem k198 : chunkK (withMemo (withTold cx fuel v198) fuel t198) fuel 49 e198 = true := by kernel_rfl
theorem k331 : chunkK (withMemo (withTold cx fuel v331) fuel t331) fuel 57 e331 = true := by kernel_rfl
theorem k344 : chunkK (withMemo (withTold cx fuel v344) fuel t344) fuel 124 e344 = true := by kernel_rfl
theorem k516 : chunkK (withMemo (withTold cx fuel v516) fuel t516) fuel 139 e516 = true := by kernel_rfl
theorem k291 : chunkK (withMemo (withTold cx fuel v291) fuel t291) fuel 53 e291 = true := by kernel_rfl
theorem k488 : chunkK (withMemo (withTold cx fuel v488) fuel t488) fuel 134 e488 = true := by kernel_rfl
theorem k473 : chunkK (withMemo (withTold cx fuel v473) fuel t473) fuel 85 e473 = true := by kernel_rfl
theorem k304 : chunkK (withMemo (withTold cx fuel v304) fuel t304) fuel 33 e304 = true := by kernel_rfl
theorem k459 : chunkK (withMemo (withTold cx fuel v459) fuel t459) fuel 143 e459 = true := by kernel_rfl
theorem k17 : chunkK (withMemo (withTold cx fuel v17) fuel t17) fuel 88 e17 = true := by kernel_rfl
theorem k377 : chunkK (withMemo (withTold cx fuel v377) fuel t377) fuel 88 e377 = true := by kernel_rfl
theorem ku63_0 : toldAllK (withTold cx fuel tu63) fuel 63 u63_0 = true := by kernel_rfl
theorem k26 : chunkK (withMemo (withTold cx fuel v26) fuel t26) fuel 89 e26 = true := by kernel_rfl
theorem k386 : chunkK (withMemo (withTold cx fuel v386) fuel t386) fuel 89 e386 = true := by kernel_rfl
theorem ku261_0 : toldAllK (withTold cx fuel tu261) fuel 261 u261_0 = true := by kernel_rfl
theorem ku93_0 : toldAllK (withTold cx fuel tu93) fuel 93 u93_0 = true := by kernel_rfl
theorem ku104_0 : toldAllK (withTold cx fuel tu104) fuel 104 u104_0 = true := by kernel_rfl
end Go.Proofs.YtmhmiobdnadkmaaGreatDoor.Pk
