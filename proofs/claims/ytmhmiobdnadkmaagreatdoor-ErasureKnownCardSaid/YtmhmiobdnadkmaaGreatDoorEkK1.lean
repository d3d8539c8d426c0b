/- The links of the run, reckoned, part 1. -/
import Derived.Test.YtmhmiobdnadkmaaGreatDoorEkD0
import Derived.KernelRfl
namespace Go.Proofs.YtmhmiobdnadkmaaGreatDoor.Ek
open Go Go.RowKit Go.Proofs Go.Proofs.YtmhmiobdnadkmaaGreatDoor.X
theorem k112 : chunkK (withMemo (withTold cx fuel v112) fuel t112) fuel 120 e112 = true := by kernel_rfl
theorem k56 : chunkK (withMemo (withTold cx fuel v56) fuel t56) fuel 189 e56 = true := by kernel_rfl
theorem k135 : chunkK (withMemo (withTold cx fuel v135) fuel t135) fuel 189 e135 = true := by kernel_rfl
theorem k299 : chunkK (withMemo (withTold cx fuel v299) fuel t299) fuel 189 e299 = true := by kernel_rfl
theorem k374 : chunkK (withMemo (withTold cx fuel v374) fuel t374) fuel 189 e374 = true := by kernel_rfl
theorem k412 : chunkK (withMemo (withTold cx fuel v412) fuel t412) fuel 189 e412 = true := by kernel_rfl
theorem k698 : chunkK (withMemo (withTold cx fuel v698) fuel t698) fuel 189 e698 = true := by kernel_rfl
theorem k796 : chunkK (withMemo (withTold cx fuel v796) fuel t796) fuel 189 e796 = true := by kernel_rfl
theorem k864 : chunkK (withMemo (withTold cx fuel v864) fuel t864) fuel 10 e864 = true := by kernel_rfl
theorem k865 : chunkK (withMemo (withTold cx fuel v865) fuel t865) fuel 20 e865 = true := by kernel_rfl
theorem k535 : chunkK (withMemo (withTold cx fuel v535) fuel t535) fuel 54 e535 = true := by kernel_rfl
theorem k448 : chunkK (withMemo (withTold cx fuel v448) fuel t448) fuel 57 e448 = true := by kernel_rfl
theorem k474 : chunkK (withMemo (withTold cx fuel v474) fuel t474) fuel 124 e474 = true := by kernel_rfl
theorem k344 : chunkK (withMemo (withTold cx fuel v344) fuel t344) fuel 124 e344 = true := by kernel_rfl
theorem k629 : chunkK (withMemo (withTold cx fuel v629) fuel t629) fuel 10 e629 = true := by kernel_rfl
theorem k583 : chunkK (withMemo (withTold cx fuel v583) fuel t583) fuel 134 e583 = true := by kernel_rfl
theorem k618 : chunkK (withMemo (withTold cx fuel v618) fuel t618) fuel 134 e618 = true := by kernel_rfl
theorem k171 : chunkK (withMemo (withTold cx fuel v171) fuel t171) fuel 235 e171 = true := by kernel_rfl
theorem k433 : chunkK (withMemo (withTold cx fuel v433) fuel t433) fuel 235 e433 = true := by kernel_rfl
theorem k729 : chunkK (withMemo (withTold cx fuel v729) fuel t729) fuel 235 e729 = true := by kernel_rfl
theorem k98 : chunkK (withMemo (withTold cx fuel v98) fuel t98) fuel 180 e98 = true := by kernel_rfl
theorem k15 : chunkK (withMemo (withTold cx fuel v15) fuel t15) fuel 180 e15 = true := by kernel_rfl
theorem k284 : chunkK (withMemo (withTold cx fuel v284) fuel t284) fuel 180 e284 = true := by kernel_rfl
theorem k483 : chunkK (withMemo (withTold cx fuel v483) fuel t483) fuel 180 e483 = true := by kernel_rfl
theorem k773 : chunkK (withMemo (withTold cx fuel v773) fuel t773) fuel 180 e773 = true := by kernel_rfl
theorem k184 : chunkK (withMemo (withTold cx fuel v184) fuel t184) fuel 47 e184 = true := by kernel_rfl
theorem k446 : chunkK (withMemo (withTold cx fuel v446) fuel t446) fuel 47 e446 = true := by kernel_rfl
theorem k824 : chunkK (withMemo (withTold cx fuel v824) fuel t824) fuel 47 e824 = true := by kernel_rfl
theorem ku79_0 : toldAllK (withTold cx fuel tu79) fuel 79 u79_0 = true := by kernel_rfl
theorem ku261_0 : toldAllK (withTold cx fuel tu261) fuel 261 u261_0 = true := by kernel_rfl
theorem ku228_0 : toldAllK (withTold cx fuel tu228) fuel 228 u228_0 = true := by kernel_rfl
theorem ku60_0 : toldAllK (withTold cx fuel tu60) fuel 60 u60_0 = true := by kernel_rfl
end Go.Proofs.YtmhmiobdnadkmaaGreatDoor.Ek
