/- The links of the run, reckoned, part 0. -/
import Derived.Test.YtmhmiobdnadkmaaGreatDoorPnD0
import Derived.KernelRfl
namespace Go.Proofs.YtmhmiobdnadkmaaGreatDoor.Pn
open Go Go.RowKit Go.Proofs Go.Proofs.YtmhmiobdnadkmaaGreatDoor.X
theorem k78 : chunkK (withMemo (withTold cx fuel v78) fuel t78) fuel 119 e78 = true := by kernel_rfl
theorem k124 : chunkK (withMemo (withTold cx fuel v124) fuel t124) fuel 189 e124 = true := by kernel_rfl
theorem k214 : chunkK (withMemo (withTold cx fuel v214) fuel t214) fuel 189 e214 = true := by kernel_rfl
theorem k201 : chunkK (withMemo (withTold cx fuel v201) fuel t201) fuel 30 e201 = true := by kernel_rfl
theorem k199 : chunkK (withMemo (withTold cx fuel v199) fuel t199) fuel 26 e199 = true := by kernel_rfl
theorem k189 : chunkK (withMemo (withTold cx fuel v189) fuel t189) fuel 139 e189 = true := by kernel_rfl
theorem k113 : chunkK (withMemo (withTold cx fuel v113) fuel t113) fuel 85 e113 = true := by kernel_rfl
theorem ku220_0 : toldAllK (withTold cx fuel tu220) fuel 220 u220_0 = true := by kernel_rfl
theorem k17 : chunkK (withMemo (withTold cx fuel v17) fuel t17) fuel 88 e17 = true := by kernel_rfl
theorem k248 : chunkK (withMemo (withTold cx fuel v248) fuel t248) fuel 47 e248 = true := by kernel_rfl
theorem ku229_0 : toldAllK (withTold cx fuel tu229) fuel 229 u229_0 = true := by kernel_rfl
theorem ku63_0 : toldAllK (withTold cx fuel tu63) fuel 63 u63_0 = true := by kernel_rfl
theorem ku156_0 : toldAllK (withTold cx fuel tu156) fuel 156 u156_0 = true := by kernel_rfl
theorem ku60_0 : toldAllK (withTold cx fuel tu60) fuel 60 u60_0 = true := by kernel_rfl
end Go.Proofs.YtmhmiobdnadkmaaGreatDoor.Pn
