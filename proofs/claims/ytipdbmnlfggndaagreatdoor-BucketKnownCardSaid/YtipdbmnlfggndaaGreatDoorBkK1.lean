/- The links of the run, reckoned, part 1. -/
import Derived.Test.YtipdbmnlfggndaaGreatDoorBkD0
import Derived.KernelRfl
namespace Go.Proofs.YtipdbmnlfggndaaGreatDoor.Bk
open Go Go.RowKit Go.Proofs Go.Proofs.YtipdbmnlfggndaaGreatDoor.X
theorem k424 : chunkK (withMemo (withTabs cx fuel v424) fuel t424) fuel 7 e424 = true := by kernel_rfl
theorem kx111_2 : kinAllK (withTabs cz fuel xb111) fuel 111 x111_2 = true := by kernel_rfl
theorem kx111_5 : kinAllK (withTabs cz fuel xb111) fuel 111 x111_5 = true := by kernel_rfl
theorem k609 : chunkK (withMemo (withTabs cx fuel v609) fuel t609) fuel 3 e609 = true := by kernel_rfl
theorem kx65_0 : kinAllK (withTabs cz fuel xb65) fuel 65 x65_0 = true := by kernel_rfl
theorem k303 : chunkK (withMemo (withTabs cx fuel v303) fuel t303) fuel 14 e303 = true := by kernel_rfl
theorem k574 : chunkK (withMemo (withTabs cx fuel v574) fuel t574) fuel 5 e574 = true := by kernel_rfl
theorem ku154_2 : toldAllK (withTold cz fuel tu154) fuel 154 u154_2 = true := by kernel_rfl
theorem ku154_1 : toldAllK (withTold cz fuel tu154) fuel 154 u154_1 = true := by kernel_rfl
theorem ku294_0 : toldAllK (withTold cz fuel tu294) fuel 294 u294_0 = true := by kernel_rfl
theorem ku275_0 : toldAllK (withTold cz fuel tu275) fuel 275 u275_0 = true := by kernel_rfl
theorem kx127_0 : kinAllK (withTabs cz fuel xb127) fuel 127 x127_0 = true := by kernel_rfl
theorem ku38_0 : toldAllK (withTold cz fuel tu38) fuel 38 u38_0 = true := by kernel_rfl
theorem kx51_0 : kinAllK (withTabs cz fuel xb51) fuel 51 x51_0 = true := by kernel_rfl
theorem ku145_0 : toldAllK (withTold cz fuel tu145) fuel 145 u145_0 = true := by kernel_rfl
theorem ku77_0 : toldAllK (withTold cz fuel tu77) fuel 77 u77_0 = true := by kernel_rfl
theorem ku204_0 : toldAllK (withTold cz fuel tu204) fuel 204 u204_0 = true := by kernel_rfl
end Go.Proofs.YtipdbmnlfggndaaGreatDoor.Bk
