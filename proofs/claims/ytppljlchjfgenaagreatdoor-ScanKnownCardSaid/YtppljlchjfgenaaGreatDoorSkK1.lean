/- The links of the run, reckoned, part 1. -/
import Derived.Test.YtppljlchjfgenaaGreatDoorSkD0
import Derived.KernelRfl
namespace Go.Proofs.YtppljlchjfgenaaGreatDoor.Sk
open Go Go.RowKit Go.Proofs Go.Proofs.YtppljlchjfgenaaGreatDoor.X
theorem k284 : chunkK (withMemo (withTabs cx fuel v284) fuel t284) fuel 7 e284 = true := by kernel_rfl
theorem kx116_2 : kinAllK (withTabs cz fuel xb116) fuel 116 x116_2 = true := by kernel_rfl
theorem kx116_6 : kinAllK (withTabs cz fuel xb116) fuel 116 x116_6 = true := by kernel_rfl
theorem kx116_10 : kinAllK (withTabs cz fuel xb116) fuel 116 x116_10 = true := by kernel_rfl
theorem k745 : chunkK (withMemo (withTabs cx fuel v745) fuel t745) fuel 10 e745 = true := by kernel_rfl
theorem k219 : chunkK (withMemo (withTabs cx fuel v219) fuel t219) fuel 48 e219 = true := by kernel_rfl
theorem k469 : chunkK (withMemo (withTabs cx fuel v469) fuel t469) fuel 10 e469 = true := by kernel_rfl
theorem k551 : chunkK (withMemo (withTabs cx fuel v551) fuel t551) fuel 43 e551 = true := by kernel_rfl
theorem k1968 : chunkK (withMemo (withTabs cx fuel v1968) fuel t1968) fuel 16 e1968 = true := by kernel_rfl
theorem k423 : chunkK (withMemo (withTabs cx fuel v423) fuel t423) fuel 31 e423 = true := by kernel_rfl
theorem k855 : chunkK (withMemo (withTabs cx fuel v855) fuel t855) fuel 31 e855 = true := by kernel_rfl
theorem k1177 : chunkK (withMemo (withTabs cx fuel v1177) fuel t1177) fuel 31 e1177 = true := by kernel_rfl
theorem k1838 : chunkK (withMemo (withTabs cx fuel v1838) fuel t1838) fuel 31 e1838 = true := by kernel_rfl
theorem k221 : chunkK (withMemo (withTabs cx fuel v221) fuel t221) fuel 39 e221 = true := by kernel_rfl
theorem k750 : chunkK (withMemo (withTabs cx fuel v750) fuel t750) fuel 15 e750 = true := by kernel_rfl
theorem k2025 : chunkK (withMemo (withTabs cx fuel v2025) fuel t2025) fuel 18 e2025 = true := by kernel_rfl
theorem k2026 : chunkK (withMemo (withTabs cx fuel v2026) fuel t2026) fuel 4 e2026 = true := by kernel_rfl
theorem kx54_1 : kinAllK (withTabs cz fuel xb54) fuel 54 x54_1 = true := by kernel_rfl
theorem ku325_0 : toldAllK (withTold cz fuel tu325) fuel 325 u325_0 = true := by kernel_rfl
theorem kx314_0 : kinAllK (withTabs cz fuel xb314) fuel 314 x314_0 = true := by kernel_rfl
theorem kx23_0 : kinAllK (withTabs cz fuel xb23) fuel 23 x23_0 = true := by kernel_rfl
theorem ku261_0 : toldAllK (withTold cz fuel tu261) fuel 261 u261_0 = true := by kernel_rfl
theorem ku72_0 : toldAllK (withTold cz fuel tu72) fuel 72 u72_0 = true := by kernel_rfl
theorem ku184_0 : toldAllK (withTold cz fuel tu184) fuel 184 u184_0 = true := by kernel_rfl
theorem ku221_0 : toldAllK (withTold cz fuel tu221) fuel 221 u221_0 = true := by kernel_rfl
theorem ku160_0 : toldAllK (withTold cz fuel tu160) fuel 160 u160_0 = true := by kernel_rfl
theorem ku367_0 : toldAllK (withTold cz fuel tu367) fuel 367 u367_0 = true := by kernel_rfl
end Go.Proofs.YtppljlchjfgenaaGreatDoor.Sk
