/- The links of the run, reckoned, part 0. -/
import Derived.Test.YtppljlchjfgenaaGreatDoorSnD0
import Derived.KernelRfl
namespace Go.Proofs.YtppljlchjfgenaaGreatDoor.Sn
open Go Go.RowKit Go.Proofs Go.Proofs.YtppljlchjfgenaaGreatDoor.X
theorem k233 : chunkK (withMemo (withTabs cx fuel v233) fuel t233) fuel 60 e233 = true := by kernel_rfl
theorem kx116_0 : kinAllK (withTabs cz fuel xb116) fuel 116 x116_0 = true := by kernel_rfl
theorem kx116_1 : kinAllK (withTabs cz fuel xb116) fuel 116 x116_1 = true := by kernel_rfl
theorem kx116_3 : kinAllK (withTabs cz fuel xb116) fuel 116 x116_3 = true := by kernel_rfl
theorem kx116_5 : kinAllK (withTabs cz fuel xb116) fuel 116 x116_5 = true := by kernel_rfl
theorem kx116_7 : kinAllK (withTabs cz fuel xb116) fuel 116 x116_7 = true := by kernel_rfl
theorem k821 : chunkK (withMemo (withTabs cx fuel v821) fuel t821) fuel 44 e821 = true := by kernel_rfl
theorem k299 : chunkK (withMemo (withTabs cx fuel v299) fuel t299) fuel 27 e299 = true := by kernel_rfl
theorem k237 : chunkK (withMemo (withTabs cx fuel v237) fuel t237) fuel 14 e237 = true := by kernel_rfl
theorem kx54_0 : kinAllK (withTabs cz fuel xb54) fuel 54 x54_0 = true := by kernel_rfl
theorem k301 : chunkK (withMemo (withTabs cx fuel v301) fuel t301) fuel 7 e301 = true := by kernel_rfl
theorem k367 : chunkK (withMemo (withTabs cx fuel v367) fuel t367) fuel 31 e367 = true := by kernel_rfl
theorem k556 : chunkK (withMemo (withTabs cx fuel v556) fuel t556) fuel 31 e556 = true := by kernel_rfl
theorem k629 : chunkK (withMemo (withTabs cx fuel v629) fuel t629) fuel 31 e629 = true := by kernel_rfl
theorem k765 : chunkK (withMemo (withTabs cx fuel v765) fuel t765) fuel 16 e765 = true := by kernel_rfl
theorem k823 (p0 p1 : ByteArray) : chunkK (withMemo (withTabs cx fuel v823) fuel t823) fuel 5 (e823 p0 p1) = true := by kernel_rfl
theorem k766 : chunkK (withMemo (withTabs cx fuel v766) fuel t766) fuel 15 e766 = true := by kernel_rfl
theorem ku194_0 : toldAllK (withTold cz fuel tu194) fuel 194 u194_0 = true := by kernel_rfl
theorem ku111_0 : toldAllK (withTold cz fuel tu111) fuel 111 u111_0 = true := by kernel_rfl
theorem ku193_0 : toldAllK (withTold cz fuel tu193) fuel 193 u193_0 = true := by kernel_rfl
theorem kx281_0 : kinAllK (withTabs cz fuel xb281) fuel 281 x281_0 = true := by kernel_rfl
theorem ku53_0 : toldAllK (withTold cz fuel tu53) fuel 53 u53_0 = true := by kernel_rfl
theorem ku261_0 : toldAllK (withTold cz fuel tu261) fuel 261 u261_0 = true := by kernel_rfl
theorem ku196_0 : toldAllK (withTold cz fuel tu196) fuel 196 u196_0 = true := by kernel_rfl
theorem ku72_0 : toldAllK (withTold cz fuel tu72) fuel 72 u72_0 = true := by kernel_rfl
theorem ku119_0 : toldAllK (withTold cz fuel tu119) fuel 119 u119_0 = true := by kernel_rfl
theorem ku102_0 : toldAllK (withTold cz fuel tu102) fuel 102 u102_0 = true := by kernel_rfl
theorem ku118_0 : toldAllK (withTold cz fuel tu118) fuel 118 u118_0 = true := by kernel_rfl
theorem ku82_0 : toldAllK (withTold cz fuel tu82) fuel 82 u82_0 = true := by kernel_rfl
theorem ku103_0 : toldAllK (withTold cz fuel tu103) fuel 103 u103_0 = true := by kernel_rfl
end Go.Proofs.YtppljlchjfgenaaGreatDoor.Sn
