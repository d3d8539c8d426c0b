/- The links of the run, reckoned, part 2. -/
import Derived.Test.YtoddlefhlicfiaaGreatDoorRAwD0
import Derived.KernelRfl
namespace Go.Proofs.YtoddlefhlicfiaaGreatDoorR.Aw
open Go Go.RowKit Go.Proofs Go.Proofs.YtoddlefhlicfiaaGreatDoorR.X
theorem k32 : chunkK (withMemo (withTabs cx fuel v32) fuel t32) fuel 11 e32 = true := by kernel_rfl
theorem k106 : chunkK (withMemo (withTabs cx fuel v106) fuel t106) fuel 12 e106 = true := by kernel_rfl
theorem k8 : chunkK (withMemo (withTabs cx fuel v8) fuel t8) fuel 38 e8 = true := by kernel_rfl
theorem kx72_0 : kinAllK (withTabs cz fuel xb72) fuel 72 x72_0 = true := by kernel_rfl
theorem ku296_0 : toldAllK (withTold cz fuel tu296) fuel 296 u296_0 = true := by kernel_rfl
theorem ku143_0 : toldAllK (withTold cz fuel tu143) fuel 143 u143_0 = true := by kernel_rfl
theorem ku14_0 : toldAllK (withTold cz fuel tu14) fuel 14 u14_0 = true := by kernel_rfl
theorem ku154_0 : toldAllK (withTold cz fuel tu154) fuel 154 u154_0 = true := by kernel_rfl
theorem ku198_0 : toldAllK (withTold cz fuel tu198) fuel 198 u198_0 = true := by kernel_rfl
end Go.Proofs.YtoddlefhlicfiaaGreatDoorR.Aw
