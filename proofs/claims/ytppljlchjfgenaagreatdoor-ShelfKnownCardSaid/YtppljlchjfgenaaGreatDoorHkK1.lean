/- The links of the run, reckoned, part 1. -/
import Derived.Test.YtppljlchjfgenaaGreatDoorHkD0
import Derived.KernelRfl
namespace Go.Proofs.YtppljlchjfgenaaGreatDoor.Hk
open Go Go.RowKit Go.Proofs Go.Proofs.YtppljlchjfgenaaGreatDoor.X
theorem k624 : chunkK (withMemo (withTabs cx fuel v624) fuel t624) fuel 8 e624 = true := by kernel_rfl
theorem k378 : chunkK (withMemo (withTabs cx fuel v378) fuel t378) fuel 214 e378 = true := by kernel_rfl
theorem kx116_3 : kinAllK (withTabs cz fuel xb116) fuel 116 x116_3 = true := by kernel_rfl
theorem kx116_6 : kinAllK (withTabs cz fuel xb116) fuel 116 x116_6 = true := by kernel_rfl
theorem kx116_9 : kinAllK (withTabs cz fuel xb116) fuel 116 x116_9 = true := by kernel_rfl
theorem k499 : chunkK (withMemo (withTabs cx fuel v499) fuel t499) fuel 22 e499 = true := by kernel_rfl
theorem k198 : chunkK (withMemo (withTabs cx fuel v198) fuel t198) fuel 7 e198 = true := by kernel_rfl
theorem k440 : chunkK (withMemo (withTabs cx fuel v440) fuel t440) fuel 8 e440 = true := by kernel_rfl
theorem k853 : chunkK (withMemo (withTabs cx fuel v853) fuel t853) fuel 48 e853 = true := by kernel_rfl
theorem k139 : chunkK (withMemo (withTabs cx fuel v139) fuel t139) fuel 21 e139 = true := by kernel_rfl
theorem k560 : chunkK (withMemo (withTabs cx fuel v560) fuel t560) fuel 9 e560 = true := by kernel_rfl
theorem k980 : chunkK (withMemo (withTabs cx fuel v980) fuel t980) fuel 3 e980 = true := by kernel_rfl
theorem k500 : chunkK (withMemo (withTabs cx fuel v500) fuel t500) fuel 7 e500 = true := by kernel_rfl
theorem ku368_0 : toldAllK (withTold cz fuel tu368) fuel 368 u368_0 = true := by kernel_rfl
theorem kx314_0 : kinAllK (withTabs cz fuel xb314) fuel 314 x314_0 = true := by kernel_rfl
theorem kx281_0 : kinAllK (withTabs cz fuel xb281) fuel 281 x281_0 = true := by kernel_rfl
theorem ku383_0 : toldAllK (withTold cz fuel tu383) fuel 383 u383_0 = true := by kernel_rfl
theorem ku261_0 : toldAllK (withTold cz fuel tu261) fuel 261 u261_0 = true := by kernel_rfl
theorem ku110_0 : toldAllK (withTold cz fuel tu110) fuel 110 u110_0 = true := by kernel_rfl
theorem ku184_0 : toldAllK (withTold cz fuel tu184) fuel 184 u184_0 = true := by kernel_rfl
theorem ku221_0 : toldAllK (withTold cz fuel tu221) fuel 221 u221_0 = true := by kernel_rfl
theorem ku103_0 : toldAllK (withTold cz fuel tu103) fuel 103 u103_0 = true := by kernel_rfl
end Go.Proofs.YtppljlchjfgenaaGreatDoor.Hk
