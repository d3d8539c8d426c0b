/- The links of the run, reckoned, part 1. -/
import Derived.Test.YtclljmbgkpfgkaaGreatDoorAwD0
import Derived.KernelRfl
namespace Go.Proofs.YtclljmbgkpfgkaaGreatDoor.Aw
open Go Go.RowKit Go.Proofs Go.Proofs.YtclljmbgkpfgkaaGreatDoor.X
theorem kx95_0 : kinAllK (withTabs cz fuel xb95) fuel 95 x95_0 = true := by kernel_rfl
theorem kx95_2 : kinAllK (withTabs cz fuel xb95) fuel 95 x95_2 = true := by kernel_rfl
theorem k69 : chunkK (withMemo (withTabs cx fuel v69) fuel t69) fuel 87 e69 = true := by kernel_rfl
theorem k251 : chunkK (withMemo (withTabs cx fuel v251) fuel t251) fuel 19 e251 = true := by kernel_rfl
theorem k2 : chunkK (withMemo (withTabs cx fuel v2) fuel t2) fuel 205 e2 = true := by kernel_rfl
theorem ku160_0 : toldAllK (withTold cz fuel tu160) fuel 160 u160_0 = true := by kernel_rfl
theorem ku59_0 : toldAllK (withTold cz fuel tu59) fuel 59 u59_0 = true := by kernel_rfl
theorem kx339_0 : kinAllK (withTabs cz fuel xb339) fuel 339 x339_0 = true := by kernel_rfl
theorem ku359_0 : toldAllK (withTold cz fuel tu359) fuel 359 u359_0 = true := by kernel_rfl
theorem ku218_0 : toldAllK (withTold cz fuel tu218) fuel 218 u218_0 = true := by kernel_rfl
theorem ku111_0 : toldAllK (withTold cz fuel tu111) fuel 111 u111_0 = true := by kernel_rfl
theorem ku110_0 : toldAllK (withTold cz fuel tu110) fuel 110 u110_0 = true := by kernel_rfl
theorem ku325_0 : toldAllK (withTold cz fuel tu325) fuel 325 u325_0 = true := by kernel_rfl
end Go.Proofs.YtclljmbgkpfgkaaGreatDoor.Aw
