/- The links of the run, reckoned, part 0. -/
import Derived.Test.YtipdbmnlfggndaaGreatDoorBkD0
import Derived.KernelRfl
namespace Go.Proofs.YtipdbmnlfggndaaGreatDoor.Bk
open Go Go.RowKit Go.Proofs Go.Proofs.YtipdbmnlfggndaaGreatDoor.X
theorem k136 : chunkK (withMemo (withTabs cx fuel v136) fuel t136) fuel 50 e136 = true := by kernel_rfl
theorem kx111_3 : kinAllK (withTabs cz fuel xb111) fuel 111 x111_3 = true := by kernel_rfl
theorem kx111_6 : kinAllK (withTabs cz fuel xb111) fuel 111 x111_6 = true := by kernel_rfl
theorem k202 : chunkK (withMemo (withTabs cx fuel v202) fuel t202) fuel 16 e202 = true := by kernel_rfl
theorem k608 : chunkK (withMemo (withTabs cx fuel v608) fuel t608) fuel 9 e608 = true := by kernel_rfl
theorem k268 : chunkK (withMemo (withTabs cx fuel v268) fuel t268) fuel 14 e268 = true := by kernel_rfl
theorem k304 : chunkK (withMemo (withTabs cx fuel v304) fuel t304) fuel 8 e304 = true := by kernel_rfl
theorem ku154_0 : toldAllK (withTold cz fuel tu154) fuel 154 u154_0 = true := by kernel_rfl
theorem k203 : chunkK (withMemo (withTabs cx fuel v203) fuel t203) fuel 5 e203 = true := by kernel_rfl
theorem ku114_0 : toldAllK (withTold cz fuel tu114) fuel 114 u114_0 = true := by kernel_rfl
theorem kx40_0 : kinAllK (withTabs cz fuel xb40) fuel 40 x40_0 = true := by kernel_rfl
theorem kx308_0 : kinAllK (withTabs cz fuel xb308) fuel 308 x308_0 = true := by kernel_rfl
theorem kx228_0 : kinAllK (withTabs cz fuel xb228) fuel 228 x228_0 = true := by kernel_rfl
theorem ku305_0 : toldAllK (withTold cz fuel tu305) fuel 305 u305_0 = true := by kernel_rfl
theorem ku231_0 : toldAllK (withTold cz fuel tu231) fuel 231 u231_0 = true := by kernel_rfl
theorem ku261_0 : toldAllK (withTold cz fuel tu261) fuel 261 u261_0 = true := by kernel_rfl
theorem ku58_0 : toldAllK (withTold cz fuel tu58) fuel 58 u58_0 = true := by kernel_rfl
theorem ku209_0 : toldAllK (withTold cz fuel tu209) fuel 209 u209_0 = true := by kernel_rfl
end Go.Proofs.YtipdbmnlfggndaaGreatDoor.Bk
