/- The links of the run, reckoned, part 2. -/
import Derived.Test.YtlemfpipiooiaaaGreatDoorUkD0
import Derived.KernelRfl
namespace Go.Proofs.YtlemfpipiooiaaaGreatDoor.Uk
open Go Go.RowKit Go.Proofs Go.Proofs.YtlemfpipiooiaaaGreatDoor.X
theorem kx62_0 : kinAllK (withTabs cz fuel xb62) fuel 62 x62_0 = true := by kernel_rfl
theorem k978 : chunkK (withMemo (withTabs cx fuel v978) fuel t978) fuel 31 e978 = true := by kernel_rfl
theorem ku204_1 : toldAllK (withTold cz fuel tu204) fuel 204 u204_1 = true := by kernel_rfl
theorem k2631 : chunkK (withMemo (withTabs cx fuel v2631) fuel t2631) fuel 8 e2631 = true := by kernel_rfl
theorem kx118_1 : kinAllK (withTabs cz fuel xb118) fuel 118 x118_1 = true := by kernel_rfl
theorem kx118_5 : kinAllK (withTabs cz fuel xb118) fuel 118 x118_5 = true := by kernel_rfl
theorem kx118_9 : kinAllK (withTabs cz fuel xb118) fuel 118 x118_9 = true := by kernel_rfl
theorem kx118_13 : kinAllK (withTabs cz fuel xb118) fuel 118 x118_13 = true := by kernel_rfl
theorem k171 : chunkK (withMemo (withTabs cx fuel v171) fuel t171) fuel 11 e171 = true := by kernel_rfl
theorem k1374 : chunkK (withMemo (withTabs cx fuel v1374) fuel t1374) fuel 31 e1374 = true := by kernel_rfl
theorem k297 : chunkK (withMemo (withTabs cx fuel v297) fuel t297) fuel 6 e297 = true := by kernel_rfl
theorem k1662 : chunkK (withMemo (withTabs cx fuel v1662) fuel t1662) fuel 31 e1662 = true := by kernel_rfl
theorem k2630 : chunkK (withMemo (withTabs cx fuel v2630) fuel t2630) fuel 28 e2630 = true := by kernel_rfl
theorem k1692 : chunkK (withMemo (withTabs cx fuel v1692) fuel t1692) fuel 11 e1692 = true := by kernel_rfl
theorem k1767 : chunkK (withMemo (withTabs cx fuel v1767) fuel t1767) fuel 52 e1767 = true := by kernel_rfl
theorem k2013 : chunkK (withMemo (withTabs cx fuel v2013) fuel t2013) fuel 17 e2013 = true := by kernel_rfl
theorem k206 : chunkK (withMemo (withTabs cx fuel v206) fuel t206) fuel 37 e206 = true := by kernel_rfl
theorem k720 : chunkK (withMemo (withTabs cx fuel v720) fuel t720) fuel 37 e720 = true := by kernel_rfl
theorem k2101 : chunkK (withMemo (withTabs cx fuel v2101) fuel t2101) fuel 37 e2101 = true := by kernel_rfl
theorem k1174 : chunkK (withMemo (withTabs cx fuel v1174) fuel t1174) fuel 24 e1174 = true := by kernel_rfl
theorem k1313 : chunkK (withMemo (withTabs cx fuel v1313) fuel t1313) fuel 46 e1313 = true := by kernel_rfl
theorem k1342 : chunkK (withMemo (withTabs cx fuel v1342) fuel t1342) fuel 155 e1342 = true := by kernel_rfl
theorem kx23_0 : kinAllK (withTabs cz fuel xb23) fuel 23 x23_0 = true := by kernel_rfl
theorem kx319_0 : kinAllK (withTabs cz fuel xb319) fuel 319 x319_0 = true := by kernel_rfl
theorem ku121_0 : toldAllK (withTold cz fuel tu121) fuel 121 u121_0 = true := by kernel_rfl
theorem ku69_0 : toldAllK (withTold cz fuel tu69) fuel 69 u69_0 = true := by kernel_rfl
theorem ku214_0 : toldAllK (withTold cz fuel tu214) fuel 214 u214_0 = true := by kernel_rfl
theorem ku131_0 : toldAllK (withTold cz fuel tu131) fuel 131 u131_0 = true := by kernel_rfl
end Go.Proofs.YtlemfpipiooiaaaGreatDoor.Uk
