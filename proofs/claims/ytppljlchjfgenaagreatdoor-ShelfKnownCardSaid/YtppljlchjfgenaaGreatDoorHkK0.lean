/- The links of the run, reckoned, part 0. -/
import Derived.Test.YtppljlchjfgenaaGreatDoorHkD0
import Derived.KernelRfl
namespace Go.Proofs.YtppljlchjfgenaaGreatDoor.Hk
open Go Go.RowKit Go.Proofs Go.Proofs.YtppljlchjfgenaaGreatDoor.X
theorem k262 : chunkK (withMemo (withTabs cx fuel v262) fuel t262) fuel 8 e262 = true := by kernel_rfl
theorem kx116_0 : kinAllK (withTabs cz fuel xb116) fuel 116 x116_0 = true := by kernel_rfl
theorem kx116_1 : kinAllK (withTabs cz fuel xb116) fuel 116 x116_1 = true := by kernel_rfl
theorem kx116_4 : kinAllK (withTabs cz fuel xb116) fuel 116 x116_4 = true := by kernel_rfl
theorem kx116_7 : kinAllK (withTabs cz fuel xb116) fuel 116 x116_7 = true := by kernel_rfl
theorem kx116_10 : kinAllK (withTabs cz fuel xb116) fuel 116 x116_10 = true := by kernel_rfl
theorem k914 : chunkK (withMemo (withTabs cx fuel v914) fuel t914) fuel 7 e914 = true := by kernel_rfl
theorem k703 : chunkK (withMemo (withTabs cx fuel v703) fuel t703) fuel 10 e703 = true := by kernel_rfl
theorem k312 : chunkK (withMemo (withTabs cx fuel v312) fuel t312) fuel 8 e312 = true := by kernel_rfl
theorem k387 : chunkK (withMemo (withTabs cx fuel v387) fuel t387) fuel 27 e387 = true := by kernel_rfl
theorem k855 : chunkK (withMemo (withTabs cx fuel v855) fuel t855) fuel 21 e855 = true := by kernel_rfl
theorem ku194_0 : toldAllK (withTold cz fuel tu194) fuel 194 u194_0 = true := by kernel_rfl
theorem ku111_0 : toldAllK (withTold cz fuel tu111) fuel 111 u111_0 = true := by kernel_rfl
theorem ku193_0 : toldAllK (withTold cz fuel tu193) fuel 193 u193_0 = true := by kernel_rfl
theorem kx377_0 : kinAllK (withTabs cz fuel xb377) fuel 377 x377_0 = true := by kernel_rfl
theorem kx23_0 : kinAllK (withTabs cz fuel xb23) fuel 23 x23_0 = true := by kernel_rfl
theorem ku102_0 : toldAllK (withTold cz fuel tu102) fuel 102 u102_0 = true := by kernel_rfl
theorem ku196_0 : toldAllK (withTold cz fuel tu196) fuel 196 u196_0 = true := by kernel_rfl
theorem ku109_0 : toldAllK (withTold cz fuel tu109) fuel 109 u109_0 = true := by kernel_rfl
theorem ku38_0 : toldAllK (withTold cz fuel tu38) fuel 38 u38_0 = true := by kernel_rfl
theorem ku11_0 : toldAllK (withTold cz fuel tu11) fuel 11 u11_0 = true := by kernel_rfl
end Go.Proofs.YtppljlchjfgenaaGreatDoor.Hk
