/- The links of the run, reckoned, part 2. -/
import Derived.Test.YtmhmiobdnadkmaaGreatDoorEkD0
import Derived.KernelRfl
namespace Go.Proofs.YtmhmiobdnadkmaaGreatDoor.Ek
open Go Go.RowKit Go.Proofs Go.Proofs.YtmhmiobdnadkmaaGreatDoor.X
theorem k683 : chunkK (withMemo (withTold cx fuel v683) fuel t683) fuel 120 e683 = true := by kernel_rfl
theorem k77 : chunkK (withMemo (withTold cx fuel v77) fuel t77) fuel 189 e77 = true := by kernel_rfl
theorem k209 : chunkK (withMemo (withTold cx fuel v209) fuel t209) fuel 189 e209 = true := by kernel_rfl
theorem k307 : chunkK (withMemo (withTold cx fuel v307) fuel t307) fuel 189 e307 = true := by kernel_rfl
theorem k382 : chunkK (withMemo (withTold cx fuel v382) fuel t382) fuel 189 e382 = true := by kernel_rfl
theorem k502 : chunkK (withMemo (withTold cx fuel v502) fuel t502) fuel 189 e502 = true := by kernel_rfl
theorem k706 : chunkK (withMemo (withTold cx fuel v706) fuel t706) fuel 189 e706 = true := by kernel_rfl
theorem k293 : chunkK (withMemo (withTold cx fuel v293) fuel t293) fuel 10 e293 = true := by kernel_rfl
theorem k782 : chunkK (withMemo (withTold cx fuel v782) fuel t782) fuel 10 e782 = true := by kernel_rfl
theorem k34 : chunkK (withMemo (withTold cx fuel v34) fuel t34) fuel 8 e34 = true := by kernel_rfl
theorem k165 : chunkK (withMemo (withTold cx fuel v165) fuel t165) fuel 57 e165 = true := by kernel_rfl
theorem k846 : chunkK (withMemo (withTold cx fuel v846) fuel t846) fuel 124 e846 = true := by kernel_rfl
theorem k744 : chunkK (withMemo (withTold cx fuel v744) fuel t744) fuel 57 e744 = true := by kernel_rfl
theorem k567 : chunkK (withMemo (withTold cx fuel v567) fuel t567) fuel 10 e567 = true := by kernel_rfl
theorem k360 : chunkK (withMemo (withTold cx fuel v360) fuel t360) fuel 61 e360 = true := by kernel_rfl
theorem k555 : chunkK (withMemo (withTold cx fuel v555) fuel t555) fuel 134 e555 = true := by kernel_rfl
theorem k679 : chunkK (withMemo (withTold cx fuel v679) fuel t679) fuel 53 e679 = true := by kernel_rfl
theorem k646 : chunkK (withMemo (withTold cx fuel v646) fuel t646) fuel 134 e646 = true := by kernel_rfl
theorem k261 : chunkK (withMemo (withTold cx fuel v261) fuel t261) fuel 235 e261 = true := by kernel_rfl
theorem k460 : chunkK (withMemo (withTold cx fuel v460) fuel t460) fuel 235 e460 = true := by kernel_rfl
theorem k811 : chunkK (withMemo (withTold cx fuel v811) fuel t811) fuel 235 e811 = true := by kernel_rfl
theorem k11 : chunkK (withMemo (withTold cx fuel v11) fuel t11) fuel 180 e11 = true := by kernel_rfl
theorem k280 : chunkK (withMemo (withTold cx fuel v280) fuel t280) fuel 180 e280 = true := by kernel_rfl
theorem k479 : chunkK (withMemo (withTold cx fuel v479) fuel t479) fuel 180 e479 = true := by kernel_rfl
theorem k769 : chunkK (withMemo (withTold cx fuel v769) fuel t769) fuel 180 e769 = true := by kernel_rfl
theorem k163 : chunkK (withMemo (withTold cx fuel v163) fuel t163) fuel 47 e163 = true := by kernel_rfl
theorem k343 : chunkK (withMemo (withTold cx fuel v343) fuel t343) fuel 47 e343 = true := by kernel_rfl
theorem k763 : chunkK (withMemo (withTold cx fuel v763) fuel t763) fuel 47 e763 = true := by kernel_rfl
theorem k65 : chunkK (withMemo (withTold cx fuel v65) fuel t65) fuel 10 e65 = true := by kernel_rfl
theorem ku105_0 : toldAllK (withTold cx fuel tu105) fuel 105 u105_0 = true := by kernel_rfl
theorem ku104_0 : toldAllK (withTold cx fuel tu104) fuel 104 u104_0 = true := by kernel_rfl
end Go.Proofs.YtmhmiobdnadkmaaGreatDoor.Ek
