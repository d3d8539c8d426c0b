/- The links of the run, reckoned, part 3. -/
import Derived.Test.YtmhmiobdnadkmaaGreatDoorEkD0
import Derived.KernelRfl
namespace Go.Proofs.YtmhmiobdnadkmaaGreatDoor.Ek
open Go Go.RowKit Go.Proofs Go.Proofs.YtmhmiobdnadkmaaGreatDoor.X
theorem k496 : chunkK (withMemo (withTold cx fuel v496) fuel t496) fuel 10 e496 = true := by kernel_rfl
theorem k40 : chunkK (withMemo (withTold cx fuel v40) fuel t40) fuel 189 e40 = true := by kernel_rfl
theorem k85 : chunkK (withMemo (withTold cx fuel v85) fuel t85) fuel 189 e85 = true := by kernel_rfl
theorem k217 : chunkK (withMemo (withTold cx fuel v217) fuel t217) fuel 189 e217 = true := by kernel_rfl
theorem k315 : chunkK (withMemo (withTold cx fuel v315) fuel t315) fuel 189 e315 = true := by kernel_rfl
theorem k396 : chunkK (withMemo (withTold cx fuel v396) fuel t396) fuel 189 e396 = true := by kernel_rfl
theorem k510 : chunkK (withMemo (withTold cx fuel v510) fuel t510) fuel 189 e510 = true := by kernel_rfl
theorem k714 : chunkK (withMemo (withTold cx fuel v714) fuel t714) fuel 189 e714 = true := by kernel_rfl
theorem k121 : chunkK (withMemo (withTold cx fuel v121) fuel t121) fuel 8 e121 = true := by kernel_rfl
theorem k390 : chunkK (withMemo (withTold cx fuel v390) fuel t390) fuel 12 e390 = true := by kernel_rfl
theorem k657 : chunkK (withMemo (withTold cx fuel v657) fuel t657) fuel 18 e657 = true := by kernel_rfl
theorem k826 : chunkK (withMemo (withTold cx fuel v826) fuel t826) fuel 57 e826 = true := by kernel_rfl
theorem k604 : chunkK (withMemo (withTold cx fuel v604) fuel t604) fuel 17 e604 = true := by kernel_rfl
theorem k275 : chunkK (withMemo (withTold cx fuel v275) fuel t275) fuel 124 e275 = true := by kernel_rfl
theorem ku229_0 : toldAllK (withTold cx fuel tu229) fuel 229 u229_0 = true := by kernel_rfl
theorem k576 : chunkK (withMemo (withTold cx fuel v576) fuel t576) fuel 134 e576 = true := by kernel_rfl
theorem k612 : chunkK (withMemo (withTold cx fuel v612) fuel t612) fuel 134 e612 = true := by kernel_rfl
theorem k150 : chunkK (withMemo (withTold cx fuel v150) fuel t150) fuel 235 e150 = true := by kernel_rfl
theorem k330 : chunkK (withMemo (withTold cx fuel v330) fuel t330) fuel 235 e330 = true := by kernel_rfl
theorem k466 : chunkK (withMemo (withTold cx fuel v466) fuel t466) fuel 235 e466 = true := by kernel_rfl
theorem k832 : chunkK (withMemo (withTold cx fuel v832) fuel t832) fuel 235 e832 = true := by kernel_rfl
theorem k190 : chunkK (withMemo (withTold cx fuel v190) fuel t190) fuel 180 e190 = true := by kernel_rfl
theorem k349 : chunkK (withMemo (withTold cx fuel v349) fuel t349) fuel 180 e349 = true := by kernel_rfl
theorem k669 : chunkK (withMemo (withTold cx fuel v669) fuel t669) fuel 180 e669 = true := by kernel_rfl
theorem k851 : chunkK (withMemo (withTold cx fuel v851) fuel t851) fuel 180 e851 = true := by kernel_rfl
theorem k253 : chunkK (withMemo (withTold cx fuel v253) fuel t253) fuel 47 e253 = true := by kernel_rfl
theorem k473 : chunkK (withMemo (withTold cx fuel v473) fuel t473) fuel 47 e473 = true := by kernel_rfl
theorem k845 : chunkK (withMemo (withTold cx fuel v845) fuel t845) fuel 47 e845 = true := by kernel_rfl
theorem ku106_0 : toldAllK (withTold cx fuel tu106) fuel 106 u106_0 = true := by kernel_rfl
theorem ku63_0 : toldAllK (withTold cx fuel tu63) fuel 63 u63_0 = true := by kernel_rfl
theorem ku48_0 : toldAllK (withTold cx fuel tu48) fuel 48 u48_0 = true := by kernel_rfl
theorem ku14_0 : toldAllK (withTold cx fuel tu14) fuel 14 u14_0 = true := by kernel_rfl
end Go.Proofs.YtmhmiobdnadkmaaGreatDoor.Ek
