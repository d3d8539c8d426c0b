/- The links of the run, reckoned, part 3. -/
import Derived.Test.YtlemfpipiooiaaaGreatDoorUkD0
import Derived.KernelRfl
namespace Go.Proofs.YtlemfpipiooiaaaGreatDoor.Uk
open Go Go.RowKit Go.Proofs Go.Proofs.YtlemfpipiooiaaaGreatDoor.X
theorem k581 : chunkK (withMemo (withTabs cx fuel v581) fuel t581) fuel 31 e581 = true := by kernel_rfl
theorem k815 : chunkK (withMemo (withTabs cx fuel v815) fuel t815) fuel 31 e815 = true := by kernel_rfl
theorem ku204_0 : toldAllK (withTold cz fuel tu204) fuel 204 u204_0 = true := by kernel_rfl
theorem k1421 : chunkK (withMemo (withTabs cx fuel v1421) fuel t1421) fuel 8 e1421 = true := by kernel_rfl
theorem kx118_0 : kinAllK (withTabs cz fuel xb118) fuel 118 x118_0 = true := by kernel_rfl
theorem kx118_4 : kinAllK (withTabs cz fuel xb118) fuel 118 x118_4 = true := by kernel_rfl
theorem kx118_8 : kinAllK (withTabs cz fuel xb118) fuel 118 x118_8 = true := by kernel_rfl
theorem kx118_12 : kinAllK (withTabs cz fuel xb118) fuel 118 x118_12 = true := by kernel_rfl
theorem k2501 : chunkK (withMemo (withTabs cx fuel v2501) fuel t2501) fuel 27 e2501 = true := by kernel_rfl
theorem k2584 : chunkK (withMemo (withTabs cx fuel v2584) fuel t2584) fuel 31 e2584 = true := by kernel_rfl
theorem k2067 : chunkK (withMemo (withTabs cx fuel v2067) fuel t2067) fuel 6 e2067 = true := by kernel_rfl
theorem k144 : chunkK (withMemo (withTabs cx fuel v144) fuel t144) fuel 10 e144 = true := by kernel_rfl
theorem k2694 : chunkK (withMemo (withTabs cx fuel v2694) fuel t2694) fuel 25 e2694 = true := by kernel_rfl
theorem k1464 : chunkK (withMemo (withTabs cx fuel v1464) fuel t1464) fuel 7 e1464 = true := by kernel_rfl
theorem kx62_1 : kinAllK (withTabs cz fuel xb62) fuel 62 x62_1 = true := by kernel_rfl
theorem k243 : chunkK (withMemo (withTabs cx fuel v243) fuel t243) fuel 17 e243 = true := by kernel_rfl
theorem k2293 : chunkK (withMemo (withTabs cx fuel v2293) fuel t2293) fuel 17 e2293 = true := by kernel_rfl
theorem k331 : chunkK (withMemo (withTabs cx fuel v331) fuel t331) fuel 37 e331 = true := by kernel_rfl
theorem k883 : chunkK (withMemo (withTabs cx fuel v883) fuel t883) fuel 37 e883 = true := by kernel_rfl
theorem k2256 : chunkK (withMemo (withTabs cx fuel v2256) fuel t2256) fuel 37 e2256 = true := by kernel_rfl
theorem k2384 : chunkK (withMemo (withTabs cx fuel v2384) fuel t2384) fuel 24 e2384 = true := by kernel_rfl
theorem k2552 : chunkK (withMemo (withTabs cx fuel v2552) fuel t2552) fuel 155 e2552 = true := by kernel_rfl
theorem ku71_0 : toldAllK (withTold cz fuel tu71) fuel 71 u71_0 = true := by kernel_rfl
theorem kx257_0 : kinAllK (withTabs cz fuel xb257) fuel 257 x257_0 = true := by kernel_rfl
theorem ku122_0 : toldAllK (withTold cz fuel tu122) fuel 122 u122_0 = true := by kernel_rfl
theorem ku93_0 : toldAllK (withTold cz fuel tu93) fuel 93 u93_0 = true := by kernel_rfl
theorem ku85_0 : toldAllK (withTold cz fuel tu85) fuel 85 u85_0 = true := by kernel_rfl
theorem ku126_0 : toldAllK (withTold cz fuel tu126) fuel 126 u126_0 = true := by kernel_rfl
end Go.Proofs.YtlemfpipiooiaaaGreatDoor.Uk
