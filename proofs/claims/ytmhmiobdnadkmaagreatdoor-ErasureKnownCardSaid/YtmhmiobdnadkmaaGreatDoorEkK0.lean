/- The links of the run, reckoned, part 0. -/
import Derived.Test.YtmhmiobdnadkmaaGreatDoorEkD0
import Derived.KernelRfl
namespace Go.Proofs.YtmhmiobdnadkmaaGreatDoor.Ek
open Go Go.RowKit Go.Proofs Go.Proofs.YtmhmiobdnadkmaaGreatDoor.X
theorem k25 : chunkK (withMemo (withTold cx fuel v25) fuel t25) fuel 120 e25 = true := by kernel_rfl
theorem k48 : chunkK (withMemo (withTold cx fuel v48) fuel t48) fuel 189 e48 = true := by kernel_rfl
theorem k127 : chunkK (withMemo (withTold cx fuel v127) fuel t127) fuel 189 e127 = true := by kernel_rfl
theorem k225 : chunkK (withMemo (withTold cx fuel v225) fuel t225) fuel 189 e225 = true := by kernel_rfl
theorem k366 : chunkK (withMemo (withTold cx fuel v366) fuel t366) fuel 189 e366 = true := by kernel_rfl
theorem k404 : chunkK (withMemo (withTold cx fuel v404) fuel t404) fuel 189 e404 = true := by kernel_rfl
theorem k518 : chunkK (withMemo (withTold cx fuel v518) fuel t518) fuel 189 e518 = true := by kernel_rfl
theorem k788 : chunkK (withMemo (withTold cx fuel v788) fuel t788) fuel 189 e788 = true := by kernel_rfl
theorem k203 : chunkK (withMemo (withTold cx fuel v203) fuel t203) fuel 10 e203 = true := by kernel_rfl
theorem k866 : chunkK (withMemo (withTold cx fuel v866) fuel t866) fuel 3 e866 = true := by kernel_rfl
theorem k603 : chunkK (withMemo (withTold cx fuel v603) fuel t603) fuel 54 e603 = true := by kernel_rfl
theorem k185 : chunkK (withMemo (withTold cx fuel v185) fuel t185) fuel 124 e185 = true := by kernel_rfl
theorem k255 : chunkK (withMemo (withTold cx fuel v255) fuel t255) fuel 57 e255 = true := by kernel_rfl
theorem k764 : chunkK (withMemo (withTold cx fuel v764) fuel t764) fuel 124 e764 = true := by kernel_rfl
theorem k108 : chunkK (withMemo (withTold cx fuel v108) fuel t108) fuel 53 e108 = true := by kernel_rfl
theorem k548 : chunkK (withMemo (withTold cx fuel v548) fuel t548) fuel 134 e548 = true := by kernel_rfl
theorem k21 : chunkK (withMemo (withTold cx fuel v21) fuel t21) fuel 53 e21 = true := by kernel_rfl
theorem k640 : chunkK (withMemo (withTold cx fuel v640) fuel t640) fuel 134 e640 = true := by kernel_rfl
theorem k240 : chunkK (withMemo (withTold cx fuel v240) fuel t240) fuel 235 e240 = true := by kernel_rfl
theorem k439 : chunkK (withMemo (withTold cx fuel v439) fuel t439) fuel 235 e439 = true := by kernel_rfl
theorem k750 : chunkK (withMemo (withTold cx fuel v750) fuel t750) fuel 235 e750 = true := by kernel_rfl
theorem k102 : chunkK (withMemo (withTold cx fuel v102) fuel t102) fuel 180 e102 = true := by kernel_rfl
theorem k194 : chunkK (withMemo (withTold cx fuel v194) fuel t194) fuel 180 e194 = true := by kernel_rfl
theorem k353 : chunkK (withMemo (withTold cx fuel v353) fuel t353) fuel 180 e353 = true := by kernel_rfl
theorem k673 : chunkK (withMemo (withTold cx fuel v673) fuel t673) fuel 180 e673 = true := by kernel_rfl
theorem k855 : chunkK (withMemo (withTold cx fuel v855) fuel t855) fuel 180 e855 = true := by kernel_rfl
theorem k274 : chunkK (withMemo (withTold cx fuel v274) fuel t274) fuel 47 e274 = true := by kernel_rfl
theorem k742 : chunkK (withMemo (withTold cx fuel v742) fuel t742) fuel 47 e742 = true := by kernel_rfl
theorem k539 : chunkK (withMemo (withTold cx fuel v539) fuel t539) fuel 8 e539 = true := by kernel_rfl
theorem ku27_0 : toldAllK (withTold cx fuel tu27) fuel 27 u27_0 = true := by kernel_rfl
end Go.Proofs.YtmhmiobdnadkmaaGreatDoor.Ek
