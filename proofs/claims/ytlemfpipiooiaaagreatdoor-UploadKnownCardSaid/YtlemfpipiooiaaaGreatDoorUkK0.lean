/- The links of the run, reckoned, part 0. -/
import Derived.Test.YtlemfpipiooiaaaGreatDoorUkD0
import Derived.KernelRfl
namespace Go.Proofs.YtlemfpipiooiaaaGreatDoor.Uk
open Go Go.RowKit Go.Proofs Go.Proofs.YtlemfpipiooiaaaGreatDoor.X
theorem k1012 : chunkK (withMemo (withTabs cx fuel v1012) fuel t1012) fuel 8 e1012 = true := by kernel_rfl
theorem k2351 : chunkK (withMemo (withTabs cx fuel v2351) fuel t2351) fuel 31 e2351 = true := by kernel_rfl
theorem ku204_2 : toldAllK (withTold cz fuel tu204) fuel 204 u204_2 = true := by kernel_rfl
theorem k430 : chunkK (withMemo (withTabs cx fuel v430) fuel t430) fuel 18 e430 = true := by kernel_rfl
theorem kx118_2 : kinAllK (withTabs cz fuel xb118) fuel 118 x118_2 = true := by kernel_rfl
theorem kx118_6 : kinAllK (withTabs cz fuel xb118) fuel 118 x118_6 = true := by kernel_rfl
theorem kx118_10 : kinAllK (withTabs cz fuel xb118) fuel 118 x118_10 = true := by kernel_rfl
theorem kx118_14 : kinAllK (withTabs cz fuel xb118) fuel 118 x118_14 = true := by kernel_rfl
theorem ku203_0 : toldAllK (withTold cz fuel tu203) fuel 203 u203_0 = true := by kernel_rfl
theorem k452 : chunkK (withMemo (withTabs cx fuel v452) fuel t452) fuel 6 e452 = true := by kernel_rfl
theorem k172 : chunkK (withMemo (withTabs cx fuel v172) fuel t172) fuel 5 e172 = true := by kernel_rfl
theorem k1539 : chunkK (withMemo (withTabs cx fuel v1539) fuel t1539) fuel 31 e1539 = true := by kernel_rfl
theorem k1914 : chunkK (withMemo (withTabs cx fuel v1914) fuel t1914) fuel 10 e1914 = true := by kernel_rfl
theorem k1553 : chunkK (withMemo (withTabs cx fuel v1553) fuel t1553) fuel 11 e1553 = true := by kernel_rfl
theorem k686 : chunkK (withMemo (withTabs cx fuel v686) fuel t686) fuel 8 e686 = true := by kernel_rfl
theorem k1083 : chunkK (withMemo (withTabs cx fuel v1083) fuel t1083) fuel 17 e1083 = true := by kernel_rfl
theorem k1663 : chunkK (withMemo (withTabs cx fuel v1663) fuel t1663) fuel 10 e1663 = true := by kernel_rfl
theorem k648 : chunkK (withMemo (withTabs cx fuel v648) fuel t648) fuel 37 e648 = true := by kernel_rfl
theorem k1976 : chunkK (withMemo (withTabs cx fuel v1976) fuel t1976) fuel 37 e1976 = true := by kernel_rfl
theorem k849 : chunkK (withMemo (withTabs cx fuel v849) fuel t849) fuel 8 e849 = true := by kernel_rfl
theorem ku133_0 : toldAllK (withTold cz fuel tu133) fuel 133 u133_0 = true := by kernel_rfl
theorem kx26_0 : kinAllK (withTabs cz fuel xb26) fuel 26 x26_0 = true := by kernel_rfl
theorem kx317_0 : kinAllK (withTabs cz fuel xb317) fuel 317 x317_0 = true := by kernel_rfl
theorem kx74_0 : kinAllK (withTabs cz fuel xb74) fuel 74 x74_0 = true := by kernel_rfl
theorem kx9_0 : kinAllK (withTabs cz fuel xb9) fuel 9 x9_0 = true := by kernel_rfl
theorem ku277_0 : toldAllK (withTold cz fuel tu277) fuel 277 u277_0 = true := by kernel_rfl
theorem ku153_0 : toldAllK (withTold cz fuel tu153) fuel 153 u153_0 = true := by kernel_rfl
theorem ku140_0 : toldAllK (withTold cz fuel tu140) fuel 140 u140_0 = true := by kernel_rfl
theorem ku165_0 : toldAllK (withTold cz fuel tu165) fuel 165 u165_0 = true := by kernel_rfl
end Go.Proofs.YtlemfpipiooiaaaGreatDoor.Uk
