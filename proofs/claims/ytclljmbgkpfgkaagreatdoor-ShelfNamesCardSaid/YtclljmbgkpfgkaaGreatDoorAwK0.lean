/- The links of the run, reckoned, part 0. -/
import Derived.Test.YtclljmbgkpfgkaaGreatDoorAwD0
import Derived.KernelRfl
namespace Go.Proofs.YtclljmbgkpfgkaaGreatDoor.Aw
open Go Go.RowKit Go.Proofs Go.Proofs.YtclljmbgkpfgkaaGreatDoor.X
theorem k149 : chunkK (withMemo (withTabs cx fuel v149) fuel t149) fuel 65 e149 = true := by kernel_rfl
theorem kx95_4 : kinAllK (withTabs cz fuel xb95) fuel 95 x95_4 = true := by kernel_rfl
theorem k213 : chunkK (withMemo (withTabs cx fuel v213) fuel t213) fuel 24 e213 = true := by kernel_rfl
theorem k215 : chunkK (withMemo (withTabs cx fuel v215) fuel t215) fuel 6 e215 = true := by kernel_rfl
theorem kx48_0 : kinAllK (withTabs cz fuel xb48) fuel 48 x48_0 = true := by kernel_rfl
theorem ku160_1 : toldAllK (withTold cz fuel tu160) fuel 160 u160_1 = true := by kernel_rfl
theorem ku159_0 : toldAllK (withTold cz fuel tu159) fuel 159 u159_0 = true := by kernel_rfl
theorem kx365_0 : kinAllK (withTabs cz fuel xb365) fuel 365 x365_0 = true := by kernel_rfl
theorem kx233_0 : kinAllK (withTabs cz fuel xb233) fuel 233 x233_0 = true := by kernel_rfl
theorem ku42_0 : toldAllK (withTold cz fuel tu42) fuel 42 u42_0 = true := by kernel_rfl
theorem ku122_0 : toldAllK (withTold cz fuel tu122) fuel 122 u122_0 = true := by kernel_rfl
theorem ku97_0 : toldAllK (withTold cz fuel tu97) fuel 97 u97_0 = true := by kernel_rfl
end Go.Proofs.YtclljmbgkpfgkaaGreatDoor.Aw
