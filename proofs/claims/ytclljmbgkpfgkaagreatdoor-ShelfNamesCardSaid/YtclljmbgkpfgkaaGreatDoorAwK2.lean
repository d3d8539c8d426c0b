/- The links of the run, reckoned, part 2. -/
import Derived.Test.YtclljmbgkpfgkaaGreatDoorAwD0
import Derived.KernelRfl
namespace Go.Proofs.YtclljmbgkpfgkaaGreatDoor.Aw
open Go Go.RowKit Go.Proofs Go.Proofs.YtclljmbgkpfgkaaGreatDoor.X
theorem kx95_1 : kinAllK (withTabs cz fuel xb95) fuel 95 x95_1 = true := by kernel_rfl
theorem kx95_3 : kinAllK (withTabs cz fuel xb95) fuel 95 x95_3 = true := by kernel_rfl
theorem k32 : chunkK (withMemo (withTabs cx fuel v32) fuel t32) fuel 86 e32 = true := by kernel_rfl
theorem k153 : chunkK (withMemo (withTabs cx fuel v153) fuel t153) fuel 40 e153 = true := by kernel_rfl
theorem k8 : chunkK (withMemo (withTabs cx fuel v8) fuel t8) fuel 205 e8 = true := by kernel_rfl
theorem k282 : chunkK (withMemo (withTabs cx fuel v282) fuel t282) fuel 15 e282 = true := by kernel_rfl
theorem ku281_0 : toldAllK (withTold cz fuel tu281) fuel 281 u281_0 = true := by kernel_rfl
theorem ku326_0 : toldAllK (withTold cz fuel tu326) fuel 326 u326_0 = true := by kernel_rfl
theorem ku23_0 : toldAllK (withTold cz fuel tu23) fuel 23 u23_0 = true := by kernel_rfl
theorem ku21_0 : toldAllK (withTold cz fuel tu21) fuel 21 u21_0 = true := by kernel_rfl
theorem ku162_0 : toldAllK (withTold cz fuel tu162) fuel 162 u162_0 = true := by kernel_rfl
theorem ku57_0 : toldAllK (withTold cz fuel tu57) fuel 57 u57_0 = true := by kernel_rfl
theorem ku50_0 : toldAllK (withTold cz fuel tu50) fuel 50 u50_0 = true := by kernel_rfl
end Go.Proofs.YtclljmbgkpfgkaaGreatDoor.Aw
