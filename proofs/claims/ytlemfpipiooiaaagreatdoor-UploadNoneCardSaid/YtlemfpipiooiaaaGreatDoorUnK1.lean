/- The links of the run, reckoned, part 1. -/
import Derived.Test.YtlemfpipiooiaaaGreatDoorUnD0
import Derived.KernelRfl
namespace Go.Proofs.YtlemfpipiooiaaaGreatDoor.Un
open Go Go.RowKit Go.Proofs Go.Proofs.YtlemfpipiooiaaaGreatDoor.X
theorem ku204_0 : toldAllK (withTold cz fuel tu204) fuel 204 u204_0 = true := by kernel_rfl
theorem k445 : chunkK (withMemo (withTabs cx fuel v445) fuel t445) fuel 18 e445 = true := by kernel_rfl
theorem kx118_1 : kinAllK (withTabs cz fuel xb118) fuel 118 x118_1 = true := by kernel_rfl
theorem kx118_4 : kinAllK (withTabs cz fuel xb118) fuel 118 x118_4 = true := by kernel_rfl
theorem kx118_7 : kinAllK (withTabs cz fuel xb118) fuel 118 x118_7 = true := by kernel_rfl
theorem k32 : chunkK (withMemo (withTabs cx fuel v32) fuel t32) fuel 15 e32 = true := by kernel_rfl
theorem k841 : chunkK (withMemo (withTabs cx fuel v841) fuel t841) fuel 31 e841 = true := by kernel_rfl
theorem k887 : chunkK (withMemo (withTabs cx fuel v887) fuel t887) fuel 28 e887 = true := by kernel_rfl
theorem k951 : chunkK (withMemo (withTabs cx fuel v951) fuel t951) fuel 25 e951 = true := by kernel_rfl
theorem k185 : chunkK (withMemo (withTabs cx fuel v185) fuel t185) fuel 5 e185 = true := by kernel_rfl
theorem k256 : chunkK (withMemo (withTabs cx fuel v256) fuel t256) fuel 17 e256 = true := by kernel_rfl
theorem k219 : chunkK (withMemo (withTabs cx fuel v219) fuel t219) fuel 37 e219 = true := by kernel_rfl
theorem k2 : chunkK (withMemo (withTabs cx fuel v2) fuel t2) fuel 103 e2 = true := by kernel_rfl
theorem k631 : chunkK (withMemo (withTabs cx fuel v631) fuel t631) fuel 24 e631 = true := by kernel_rfl
theorem ku360_0 : toldAllK (withTold cz fuel tu360) fuel 360 u360_0 = true := by kernel_rfl
theorem ku336_0 : toldAllK (withTold cz fuel tu336) fuel 336 u336_0 = true := by kernel_rfl
theorem kx317_0 : kinAllK (withTabs cz fuel xb317) fuel 317 x317_0 = true := by kernel_rfl
theorem kx257_0 : kinAllK (withTabs cz fuel xb257) fuel 257 x257_0 = true := by kernel_rfl
theorem kx23_0 : kinAllK (withTabs cz fuel xb23) fuel 23 x23_0 = true := by kernel_rfl
theorem ku373_0 : toldAllK (withTold cz fuel tu373) fuel 373 u373_0 = true := by kernel_rfl
theorem ku69_0 : toldAllK (withTold cz fuel tu69) fuel 69 u69_0 = true := by kernel_rfl
theorem ku214_0 : toldAllK (withTold cz fuel tu214) fuel 214 u214_0 = true := by kernel_rfl
theorem ku85_0 : toldAllK (withTold cz fuel tu85) fuel 85 u85_0 = true := by kernel_rfl
end Go.Proofs.YtlemfpipiooiaaaGreatDoor.Un
