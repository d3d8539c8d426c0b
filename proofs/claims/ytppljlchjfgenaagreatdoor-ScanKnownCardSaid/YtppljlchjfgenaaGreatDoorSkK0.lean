/- The links of the run, reckoned, part 0. -/
import Derived.Test.YtppljlchjfgenaaGreatDoorSkD0
import Derived.KernelRfl
namespace Go.Proofs.YtppljlchjfgenaaGreatDoor.Sk
open Go Go.RowKit Go.Proofs Go.Proofs.YtppljlchjfgenaaGreatDoor.X
theorem kx54_0 : kinAllK (withTabs cz fuel xb54) fuel 54 x54_0 = true := by kernel_rfl
theorem kx116_4 : kinAllK (withTabs cz fuel xb116) fuel 116 x116_4 = true := by kernel_rfl
theorem kx116_8 : kinAllK (withTabs cz fuel xb116) fuel 116 x116_8 = true := by kernel_rfl
theorem kx116_12 : kinAllK (withTabs cz fuel xb116) fuel 116 x116_12 = true := by kernel_rfl
theorem k222 : chunkK (withMemo (withTabs cx fuel v222) fuel t222) fuel 14 e222 = true := by kernel_rfl
theorem k137 : chunkK (withMemo (withTabs cx fuel v137) fuel t137) fuel 48 e137 = true := by kernel_rfl
theorem k1363 : chunkK (withMemo (withTabs cx fuel v1363) fuel t1363) fuel 48 e1363 = true := by kernel_rfl
theorem k749 : chunkK (withMemo (withTabs cx fuel v749) fuel t749) fuel 16 e749 = true := by kernel_rfl
theorem k553 : chunkK (withMemo (withTabs cx fuel v553) fuel t553) fuel 16 e553 = true := by kernel_rfl
theorem k350 : chunkK (withMemo (withTabs cx fuel v350) fuel t350) fuel 31 e350 = true := by kernel_rfl
theorem k695 : chunkK (withMemo (withTabs cx fuel v695) fuel t695) fuel 31 e695 = true := by kernel_rfl
theorem k1046 : chunkK (withMemo (withTabs cx fuel v1046) fuel t1046) fuel 31 e1046 = true := by kernel_rfl
theorem k1649 : chunkK (withMemo (withTabs cx fuel v1649) fuel t1649) fuel 31 e1649 = true := by kernel_rfl
theorem k1092 : chunkK (withMemo (withTabs cx fuel v1092) fuel t1092) fuel 10 e1092 = true := by kernel_rfl
theorem k819 : chunkK (withMemo (withTabs cx fuel v819) fuel t819) fuel 41 e819 = true := by kernel_rfl
theorem k1969 : chunkK (withMemo (withTabs cx fuel v1969) fuel t1969) fuel 15 e1969 = true := by kernel_rfl
theorem ku194_1 : toldAllK (withTold cz fuel tu194) fuel 194 u194_1 = true := by kernel_rfl
theorem ku193_0 : toldAllK (withTold cz fuel tu193) fuel 193 u193_0 = true := by kernel_rfl
theorem ku368_0 : toldAllK (withTold cz fuel tu368) fuel 368 u368_0 = true := by kernel_rfl
theorem ku53_0 : toldAllK (withTold cz fuel tu53) fuel 53 u53_0 = true := by kernel_rfl
theorem ku102_0 : toldAllK (withTold cz fuel tu102) fuel 102 u102_0 = true := by kernel_rfl
theorem ku33_0 : toldAllK (withTold cz fuel tu33) fuel 33 u33_0 = true := by kernel_rfl
theorem ku109_0 : toldAllK (withTold cz fuel tu109) fuel 109 u109_0 = true := by kernel_rfl
theorem ku82_0 : toldAllK (withTold cz fuel tu82) fuel 82 u82_0 = true := by kernel_rfl
theorem ku11_0 : toldAllK (withTold cz fuel tu11) fuel 11 u11_0 = true := by kernel_rfl
end Go.Proofs.YtppljlchjfgenaaGreatDoor.Sk
