/- The links of the run, reckoned, part 0. -/
import Derived.Test.YtlemfpipiooiaaaGreatDoorUnD0
import Derived.KernelRfl
namespace Go.Proofs.YtlemfpipiooiaaaGreatDoor.Un
open Go Go.RowKit Go.Proofs Go.Proofs.YtlemfpipiooiaaaGreatDoor.X
theorem k598 : chunkK (withMemo (withTabs cx fuel v598) fuel t598) fuel 31 e598 = true := by kernel_rfl
theorem k888 : chunkK (withMemo (withTabs cx fuel v888) fuel t888) fuel 8 e888 = true := by kernel_rfl
theorem kx62_0 : kinAllK (withTabs cz fuel xb62) fuel 62 x62_0 = true := by kernel_rfl
theorem kx118_2 : kinAllK (withTabs cz fuel xb118) fuel 118 x118_2 = true := by kernel_rfl
theorem kx118_5 : kinAllK (withTabs cz fuel xb118) fuel 118 x118_5 = true := by kernel_rfl
theorem k69 : chunkK (withMemo (withTabs cx fuel v69) fuel t69) fuel 16 e69 = true := by kernel_rfl
theorem k183 : chunkK (withMemo (withTabs cx fuel v183) fuel t183) fuel 20 e183 = true := by kernel_rfl
theorem k468 : chunkK (withMemo (withTabs cx fuel v468) fuel t468) fuel 20 e468 = true := by kernel_rfl
theorem ku203_0 : toldAllK (withTold cz fuel tu203) fuel 203 u203_0 = true := by kernel_rfl
theorem k469 : chunkK (withMemo (withTabs cx fuel v469) fuel t469) fuel 6 e469 = true := by kernel_rfl
theorem k312 : chunkK (withMemo (withTabs cx fuel v312) fuel t312) fuel 6 e312 = true := by kernel_rfl
theorem k503 : chunkK (withMemo (withTabs cx fuel v503) fuel t503) fuel 37 e503 = true := by kernel_rfl
theorem ku204_2 : toldAllK (withTold cz fuel tu204) fuel 204 u204_2 = true := by kernel_rfl
theorem ku133_0 : toldAllK (withTold cz fuel tu133) fuel 133 u133_0 = true := by kernel_rfl
theorem k780 : chunkK (withMemo (withTabs cx fuel v780) fuel t780) fuel 46 e780 = true := by kernel_rfl
theorem kx74_0 : kinAllK (withTabs cz fuel xb74) fuel 74 x74_0 = true := by kernel_rfl
theorem kx297_0 : kinAllK (withTabs cz fuel xb297) fuel 297 x297_0 = true := by kernel_rfl
theorem ku277_0 : toldAllK (withTold cz fuel tu277) fuel 277 u277_0 = true := by kernel_rfl
theorem ku206_0 : toldAllK (withTold cz fuel tu206) fuel 206 u206_0 = true := by kernel_rfl
theorem ku140_0 : toldAllK (withTold cz fuel tu140) fuel 140 u140_0 = true := by kernel_rfl
theorem ku131_0 : toldAllK (withTold cz fuel tu131) fuel 131 u131_0 = true := by kernel_rfl
theorem ku359_0 : toldAllK (withTold cz fuel tu359) fuel 359 u359_0 = true := by kernel_rfl
end Go.Proofs.YtlemfpipiooiaaaGreatDoor.Un
