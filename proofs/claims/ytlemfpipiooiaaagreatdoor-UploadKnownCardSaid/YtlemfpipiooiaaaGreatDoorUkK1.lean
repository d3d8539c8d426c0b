/- The links of the run, reckoned, part 1. -/
import Derived.Test.YtlemfpipiooiaaaGreatDoorUkD0
import Derived.KernelRfl
namespace Go.Proofs.YtlemfpipiooiaaaGreatDoor.Uk
open Go Go.RowKit Go.Proofs Go.Proofs.YtlemfpipiooiaaaGreatDoor.X
theorem k1769 : chunkK (withMemo (withTabs cx fuel v1769) fuel t1769) fuel 6 e1769 = true := by kernel_rfl
theorem k1141 : chunkK (withMemo (withTabs cx fuel v1141) fuel t1141) fuel 31 e1141 = true := by kernel_rfl
theorem k614 : chunkK (withMemo (withTabs cx fuel v614) fuel t614) fuel 7 e614 = true := by kernel_rfl
theorem k2200 : chunkK (withMemo (withTabs cx fuel v2200) fuel t2200) fuel 18 e2200 = true := by kernel_rfl
theorem kx118_3 : kinAllK (withTabs cz fuel xb118) fuel 118 x118_3 = true := by kernel_rfl
theorem kx118_7 : kinAllK (withTabs cz fuel xb118) fuel 118 x118_7 = true := by kernel_rfl
theorem kx118_11 : kinAllK (withTabs cz fuel xb118) fuel 118 x118_11 = true := by kernel_rfl
theorem k1291 : chunkK (withMemo (withTabs cx fuel v1291) fuel t1291) fuel 27 e1291 = true := by kernel_rfl
theorem k1941 : chunkK (withMemo (withTabs cx fuel v1941) fuel t1941) fuel 11 e1941 = true := by kernel_rfl
theorem k2222 : chunkK (withMemo (withTabs cx fuel v2222) fuel t2222) fuel 6 e2222 = true := by kernel_rfl
theorem k1942 : chunkK (withMemo (withTabs cx fuel v1942) fuel t1942) fuel 5 e1942 = true := by kernel_rfl
theorem k1691 : chunkK (withMemo (withTabs cx fuel v1691) fuel t1691) fuel 20 e1691 = true := by kernel_rfl
theorem k1420 : chunkK (withMemo (withTabs cx fuel v1420) fuel t1420) fuel 28 e1420 = true := by kernel_rfl
theorem k2739 : chunkK (withMemo (withTabs cx fuel v2739) fuel t2739) fuel 13 e2739 = true := by kernel_rfl
theorem k2696 : chunkK (withMemo (withTabs cx fuel v2696) fuel t2696) fuel 12 e2696 = true := by kernel_rfl
theorem k757 : chunkK (withMemo (withTabs cx fuel v757) fuel t757) fuel 17 e757 = true := by kernel_rfl
theorem k1540 : chunkK (withMemo (withTabs cx fuel v1540) fuel t1540) fuel 10 e1540 = true := by kernel_rfl
theorem k486 : chunkK (withMemo (withTabs cx fuel v486) fuel t486) fuel 37 e486 = true := by kernel_rfl
theorem k1046 : chunkK (withMemo (withTabs cx fuel v1046) fuel t1046) fuel 37 e1046 = true := by kernel_rfl
theorem k2740 : chunkK (withMemo (withTabs cx fuel v2740) fuel t2740) fuel 3 e2740 = true := by kernel_rfl
theorem k2523 : chunkK (withMemo (withTabs cx fuel v2523) fuel t2523) fuel 46 e2523 = true := by kernel_rfl
theorem ku360_0 : toldAllK (withTold cz fuel tu360) fuel 360 u360_0 = true := by kernel_rfl
theorem kx376_0 : kinAllK (withTabs cz fuel xb376) fuel 376 x376_0 = true := by kernel_rfl
theorem ku336_0 : toldAllK (withTold cz fuel tu336) fuel 336 u336_0 = true := by kernel_rfl
theorem kx297_0 : kinAllK (withTabs cz fuel xb297) fuel 297 x297_0 = true := by kernel_rfl
theorem ku373_0 : toldAllK (withTold cz fuel tu373) fuel 373 u373_0 = true := by kernel_rfl
theorem ku206_0 : toldAllK (withTold cz fuel tu206) fuel 206 u206_0 = true := by kernel_rfl
theorem ku225_0 : toldAllK (withTold cz fuel tu225) fuel 225 u225_0 = true := by kernel_rfl
theorem ku359_0 : toldAllK (withTold cz fuel tu359) fuel 359 u359_0 = true := by kernel_rfl
end Go.Proofs.YtlemfpipiooiaaaGreatDoor.Uk
