/- The links of the run, reckoned, part 2. -/
import Derived.Test.YtppljlchjfgenaaGreatDoorHkD0
import Derived.KernelRfl
namespace Go.Proofs.YtppljlchjfgenaaGreatDoor.Hk
open Go Go.RowKit Go.Proofs Go.Proofs.YtppljlchjfgenaaGreatDoor.X
theorem k978 : chunkK (withMemo (withTabs cx fuel v978) fuel t978) fuel 8 e978 = true := by kernel_rfl
theorem kx54_0 : kinAllK (withTabs cz fuel xb54) fuel 54 x54_0 = true := by kernel_rfl
theorem kx116_2 : kinAllK (withTabs cz fuel xb116) fuel 116 x116_2 = true := by kernel_rfl
theorem kx116_5 : kinAllK (withTabs cz fuel xb116) fuel 116 x116_5 = true := by kernel_rfl
theorem kx116_8 : kinAllK (withTabs cz fuel xb116) fuel 116 x116_8 = true := by kernel_rfl
theorem k559 : chunkK (withMemo (withTabs cx fuel v559) fuel t559) fuel 29 e559 = true := by kernel_rfl
theorem k979 : chunkK (withMemo (withTabs cx fuel v979) fuel t979) fuel 13 e979 = true := by kernel_rfl
theorem k140 : chunkK (withMemo (withTabs cx fuel v140) fuel t140) fuel 6 e140 = true := by kernel_rfl
theorem k137 : chunkK (withMemo (withTabs cx fuel v137) fuel t137) fuel 48 e137 = true := by kernel_rfl
theorem k715 : chunkK (withMemo (withTabs cx fuel v715) fuel t715) fuel 10 e715 = true := by kernel_rfl
theorem k388 : chunkK (withMemo (withTabs cx fuel v388) fuel t388) fuel 9 e388 = true := by kernel_rfl
theorem k657 : chunkK (withMemo (withTabs cx fuel v657) fuel t657) fuel 31 e657 = true := by kernel_rfl
theorem ku194_1 : toldAllK (withTold cz fuel tu194) fuel 194 u194_1 = true := by kernel_rfl
theorem ku325_0 : toldAllK (withTold cz fuel tu325) fuel 325 u325_0 = true := by kernel_rfl
theorem kx64_0 : kinAllK (withTabs cz fuel xb64) fuel 64 x64_0 = true := by kernel_rfl
theorem ku53_0 : toldAllK (withTold cz fuel tu53) fuel 53 u53_0 = true := by kernel_rfl
theorem ku51_0 : toldAllK (withTold cz fuel tu51) fuel 51 u51_0 = true := by kernel_rfl
theorem ku72_0 : toldAllK (withTold cz fuel tu72) fuel 72 u72_0 = true := by kernel_rfl
theorem ku119_0 : toldAllK (withTold cz fuel tu119) fuel 119 u119_0 = true := by kernel_rfl
theorem ku118_0 : toldAllK (withTold cz fuel tu118) fuel 118 u118_0 = true := by kernel_rfl
theorem ku160_0 : toldAllK (withTold cz fuel tu160) fuel 160 u160_0 = true := by kernel_rfl
theorem ku367_0 : toldAllK (withTold cz fuel tu367) fuel 367 u367_0 = true := by kernel_rfl
end Go.Proofs.YtppljlchjfgenaaGreatDoor.Hk
