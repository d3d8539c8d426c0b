/- The links of the run, reckoned, part 1. -/
import Derived.Test.YtoddlefhlicfiaaGreatDoorRAwD0
import Derived.KernelRfl
namespace Go.Proofs.YtoddlefhlicfiaaGreatDoorR.Aw
open Go Go.RowKit Go.Proofs Go.Proofs.YtoddlefhlicfiaaGreatDoorR.X
theorem kx112_0 : kinAllK (withTabs cz fuel xb112) fuel 112 x112_0 = true := by kernel_rfl
theorem k142 : chunkK (withMemo (withTabs cx fuel v142) fuel t142) fuel 4 e142 = true := by kernel_rfl
theorem kx112_1 : kinAllK (withTabs cz fuel xb112) fuel 112 x112_1 = true := by kernel_rfl
theorem ku115_0 : toldAllK (withTold cz fuel tu115) fuel 115 u115_0 = true := by kernel_rfl
theorem ku265_0 : toldAllK (withTold cz fuel tu265) fuel 265 u265_0 = true := by kernel_rfl
theorem kx299_0 : kinAllK (withTabs cz fuel xb299) fuel 299 x299_0 = true := by kernel_rfl
theorem kx238_0 : kinAllK (withTabs cz fuel xb238) fuel 238 x238_0 = true := by kernel_rfl
theorem ku102_0 : toldAllK (withTold cz fuel tu102) fuel 102 u102_0 = true := by kernel_rfl
theorem ku84_0 : toldAllK (withTold cz fuel tu84) fuel 84 u84_0 = true := by kernel_rfl
end Go.Proofs.YtoddlefhlicfiaaGreatDoorR.Aw
