/- The links of the run, reckoned, part 2. -/
import Derived.Test.YtipdbmnlfggndaaGreatDoorBkD0
import Derived.KernelRfl
namespace Go.Proofs.YtipdbmnlfggndaaGreatDoor.Bk
open Go Go.RowKit Go.Proofs Go.Proofs.YtipdbmnlfggndaaGreatDoor.X
theorem kx111_0 : kinAllK (withTabs cz fuel xb111) fuel 111 x111_0 = true := by kernel_rfl
theorem kx111_1 : kinAllK (withTabs cz fuel xb111) fuel 111 x111_1 = true := by kernel_rfl
theorem kx111_4 : kinAllK (withTabs cz fuel xb111) fuel 111 x111_4 = true := by kernel_rfl
theorem k481 : chunkK (withMemo (withTabs cx fuel v481) fuel t481) fuel 8 e481 = true := by kernel_rfl
theorem k139 : chunkK (withMemo (withTabs cx fuel v139) fuel t139) fuel 6 e139 = true := by kernel_rfl
theorem k339 : chunkK (withMemo (withTabs cx fuel v339) fuel t339) fuel 14 e339 = true := by kernel_rfl
theorem k607 : chunkK (withMemo (withTabs cx fuel v607) fuel t607) fuel 14 e607 = true := by kernel_rfl
theorem k369 : chunkK (withMemo (withTabs cx fuel v369) fuel t369) fuel 15 e369 = true := by kernel_rfl
theorem k58 : chunkK (withMemo (withTabs cx fuel v58) fuel t58) fuel 5 e58 = true := by kernel_rfl
theorem ku211_0 : toldAllK (withTold cz fuel tu211) fuel 211 u211_0 = true := by kernel_rfl
theorem kx182_0 : kinAllK (withTabs cz fuel xb182) fuel 182 x182_0 = true := by kernel_rfl
theorem ku147_0 : toldAllK (withTold cz fuel tu147) fuel 147 u147_0 = true := by kernel_rfl
theorem ku52_0 : toldAllK (withTold cz fuel tu52) fuel 52 u52_0 = true := by kernel_rfl
theorem ku99_0 : toldAllK (withTold cz fuel tu99) fuel 99 u99_0 = true := by kernel_rfl
theorem ku162_0 : toldAllK (withTold cz fuel tu162) fuel 162 u162_0 = true := by kernel_rfl
theorem ku125_0 : toldAllK (withTold cz fuel tu125) fuel 125 u125_0 = true := by kernel_rfl
theorem ku293_0 : toldAllK (withTold cz fuel tu293) fuel 293 u293_0 = true := by kernel_rfl
end Go.Proofs.YtipdbmnlfggndaaGreatDoor.Bk
