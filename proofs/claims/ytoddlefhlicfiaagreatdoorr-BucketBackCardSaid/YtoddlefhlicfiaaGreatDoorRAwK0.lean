/- The links of the run, reckoned, part 0. -/
import Derived.Test.YtoddlefhlicfiaaGreatDoorRAwD0
import Derived.KernelRfl
namespace Go.Proofs.YtoddlefhlicfiaaGreatDoorR.Aw
open Go Go.RowKit Go.Proofs Go.Proofs.YtoddlefhlicfiaaGreatDoorR.X
theorem k70 : chunkK (withMemo (withTabs cx fuel v70) fuel t70) fuel 12 e70 = true := by kernel_rfl
theorem k2 : chunkK (withMemo (withTabs cx fuel v2) fuel t2) fuel 38 e2 = true := by kernel_rfl
theorem ku152_0 : toldAllK (withTold cz fuel tu152) fuel 152 u152_0 = true := by kernel_rfl
theorem ku200_0 : toldAllK (withTold cz fuel tu200) fuel 200 u200_0 = true := by kernel_rfl
theorem ku285_0 : toldAllK (withTold cz fuel tu285) fuel 285 u285_0 = true := by kernel_rfl
theorem kx178_0 : kinAllK (withTabs cz fuel xb178) fuel 178 x178_0 = true := by kernel_rfl
theorem ku24_0 : toldAllK (withTold cz fuel tu24) fuel 24 u24_0 = true := by kernel_rfl
theorem ku216_0 : toldAllK (withTold cz fuel tu216) fuel 216 u216_0 = true := by kernel_rfl
theorem ku284_0 : toldAllK (withTold cz fuel tu284) fuel 284 u284_0 = true := by kernel_rfl
end Go.Proofs.YtoddlefhlicfiaaGreatDoorR.Aw
