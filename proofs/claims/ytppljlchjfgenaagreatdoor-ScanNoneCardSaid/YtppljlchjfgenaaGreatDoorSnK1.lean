/- The links of the run, reckoned, part 1. -/
import Derived.Test.YtppljlchjfgenaaGreatDoorSnD0
import Derived.KernelRfl
namespace Go.Proofs.YtppljlchjfgenaaGreatDoor.Sn
open Go Go.RowKit Go.Proofs Go.Proofs.YtppljlchjfgenaaGreatDoor.X
theorem k149 : chunkK (withMemo (withTabs cx fuel v149) fuel t149) fuel 60 e149 = true := by kernel_rfl
theorem k752 : chunkK (withMemo (withTabs cx fuel v752) fuel t752) fuel 214 e752 = true := by kernel_rfl
theorem kx116_2 : kinAllK (withTabs cz fuel xb116) fuel 116 x116_2 = true := by kernel_rfl
theorem kx116_4 : kinAllK (withTabs cz fuel xb116) fuel 116 x116_4 = true := by kernel_rfl
theorem kx116_6 : kinAllK (withTabs cz fuel xb116) fuel 116 x116_6 = true := by kernel_rfl
theorem k69 : chunkK (withMemo (withTabs cx fuel v69) fuel t69) fuel 20 e69 = true := by kernel_rfl
theorem k32 : chunkK (withMemo (withTabs cx fuel v32) fuel t32) fuel 19 e32 = true := by kernel_rfl
theorem k236 : chunkK (withMemo (withTabs cx fuel v236) fuel t236) fuel 39 e236 = true := by kernel_rfl
theorem k486 : chunkK (withMemo (withTabs cx fuel v486) fuel t486) fuel 10 e486 = true := by kernel_rfl
theorem k675 : chunkK (withMemo (withTabs cx fuel v675) fuel t675) fuel 10 e675 = true := by kernel_rfl
theorem k489 : chunkK (withMemo (withTabs cx fuel v489) fuel t489) fuel 16 e489 = true := by kernel_rfl
theorem k715 : chunkK (withMemo (withTabs cx fuel v715) fuel t715) fuel 24 e715 = true := by kernel_rfl
theorem k440 : chunkK (withMemo (withTabs cx fuel v440) fuel t440) fuel 31 e440 = true := by kernel_rfl
theorem k593 : chunkK (withMemo (withTabs cx fuel v593) fuel t593) fuel 31 e593 = true := by kernel_rfl
theorem k762 : chunkK (withMemo (withTabs cx fuel v762) fuel t762) fuel 9 e762 = true := by kernel_rfl
theorem k490 : chunkK (withMemo (withTabs cx fuel v490) fuel t490) fuel 15 e490 = true := by kernel_rfl
theorem k2 : chunkK (withMemo (withTabs cx fuel v2) fuel t2) fuel 96 e2 = true := by kernel_rfl
theorem k8 : chunkK (withMemo (withTabs cx fuel v8) fuel t8) fuel 96 e8 = true := by kernel_rfl
theorem ku194_1 : toldAllK (withTold cz fuel tu194) fuel 194 u194_1 = true := by kernel_rfl
theorem ku325_0 : toldAllK (withTold cz fuel tu325) fuel 325 u325_0 = true := by kernel_rfl
theorem ku368_0 : toldAllK (withTold cz fuel tu368) fuel 368 u368_0 = true := by kernel_rfl
theorem kx314_0 : kinAllK (withTabs cz fuel xb314) fuel 314 x314_0 = true := by kernel_rfl
theorem kx377_0 : kinAllK (withTabs cz fuel xb377) fuel 377 x377_0 = true := by kernel_rfl
theorem ku383_0 : toldAllK (withTold cz fuel tu383) fuel 383 u383_0 = true := by kernel_rfl
theorem ku33_0 : toldAllK (withTold cz fuel tu33) fuel 33 u33_0 = true := by kernel_rfl
theorem ku51_0 : toldAllK (withTold cz fuel tu51) fuel 51 u51_0 = true := by kernel_rfl
theorem ku110_0 : toldAllK (withTold cz fuel tu110) fuel 110 u110_0 = true := by kernel_rfl
theorem ku109_0 : toldAllK (withTold cz fuel tu109) fuel 109 u109_0 = true := by kernel_rfl
theorem ku184_0 : toldAllK (withTold cz fuel tu184) fuel 184 u184_0 = true := by kernel_rfl
theorem ku38_0 : toldAllK (withTold cz fuel tu38) fuel 38 u38_0 = true := by kernel_rfl
theorem ku11_0 : toldAllK (withTold cz fuel tu11) fuel 11 u11_0 = true := by kernel_rfl
theorem ku367_0 : toldAllK (withTold cz fuel tu367) fuel 367 u367_0 = true := by kernel_rfl
end Go.Proofs.YtppljlchjfgenaaGreatDoor.Sn
