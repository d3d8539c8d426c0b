/- The links of the run, reckoned, part 2. -/
import Derived.Test.YtppljlchjfgenaaGreatDoorSkD0
import Derived.KernelRfl
namespace Go.Proofs.YtppljlchjfgenaaGreatDoor.Sk
open Go Go.RowKit Go.Proofs Go.Proofs.YtppljlchjfgenaaGreatDoor.X
theorem k1510 : chunkK (withMemo (withTabs cx fuel v1510) fuel t1510) fuel 7 e1510 = true := by kernel_rfl
theorem kx116_3 : kinAllK (withTabs cz fuel xb116) fuel 116 x116_3 = true := by kernel_rfl
theorem kx116_7 : kinAllK (withTabs cz fuel xb116) fuel 116 x116_7 = true := by kernel_rfl
theorem kx116_11 : kinAllK (withTabs cz fuel xb116) fuel 116 x116_11 = true := by kernel_rfl
theorem k941 : chunkK (withMemo (withTabs cx fuel v941) fuel t941) fuel 10 e941 = true := by kernel_rfl
theorem k1445 : chunkK (withMemo (withTabs cx fuel v1445) fuel t1445) fuel 48 e1445 = true := by kernel_rfl
theorem k1695 : chunkK (withMemo (withTabs cx fuel v1695) fuel t1695) fuel 10 e1695 = true := by kernel_rfl
theorem k1966 : chunkK (withMemo (withTabs cx fuel v1966) fuel t1966) fuel 43 e1966 = true := by kernel_rfl
theorem k506 : chunkK (withMemo (withTabs cx fuel v506) fuel t506) fuel 24 e506 = true := by kernel_rfl
theorem k1921 : chunkK (withMemo (withTabs cx fuel v1921) fuel t1921) fuel 24 e1921 = true := by kernel_rfl
theorem k818 : chunkK (withMemo (withTabs cx fuel v818) fuel t818) fuel 31 e818 = true := by kernel_rfl
theorem k1141 : chunkK (withMemo (withTabs cx fuel v1141) fuel t1141) fuel 31 e1141 = true := by kernel_rfl
theorem k1765 : chunkK (withMemo (withTabs cx fuel v1765) fuel t1765) fuel 31 e1765 = true := by kernel_rfl
theorem k1105 : chunkK (withMemo (withTabs cx fuel v1105) fuel t1105) fuel 16 e1105 = true := by kernel_rfl
theorem k1365 : chunkK (withMemo (withTabs cx fuel v1365) fuel t1365) fuel 21 e1365 = true := by kernel_rfl
theorem k1699 : chunkK (withMemo (withTabs cx fuel v1699) fuel t1699) fuel 15 e1699 = true := by kernel_rfl
theorem ku194_0 : toldAllK (withTold cz fuel tu194) fuel 194 u194_0 = true := by kernel_rfl
theorem ku88_0 : toldAllK (withTold cz fuel tu88) fuel 88 u88_0 = true := by kernel_rfl
theorem kx377_0 : kinAllK (withTabs cz fuel xb377) fuel 377 x377_0 = true := by kernel_rfl
theorem ku196_0 : toldAllK (withTold cz fuel tu196) fuel 196 u196_0 = true := by kernel_rfl
theorem ku110_0 : toldAllK (withTold cz fuel tu110) fuel 110 u110_0 = true := by kernel_rfl
theorem ku118_0 : toldAllK (withTold cz fuel tu118) fuel 118 u118_0 = true := by kernel_rfl
theorem ku140_0 : toldAllK (withTold cz fuel tu140) fuel 140 u140_0 = true := by kernel_rfl
theorem ku103_0 : toldAllK (withTold cz fuel tu103) fuel 103 u103_0 = true := by kernel_rfl
end Go.Proofs.YtppljlchjfgenaaGreatDoor.Sk
