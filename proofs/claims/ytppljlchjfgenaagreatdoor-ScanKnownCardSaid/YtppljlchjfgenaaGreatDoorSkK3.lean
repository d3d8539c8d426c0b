/- The links of the run, reckoned, part 3. -/
import Derived.Test.YtppljlchjfgenaaGreatDoorSkD0
import Derived.KernelRfl
namespace Go.Proofs.YtppljlchjfgenaaGreatDoor.Sk
open Go Go.RowKit Go.Proofs Go.Proofs.YtppljlchjfgenaaGreatDoor.X
theorem kx116_0 : kinAllK (withTabs cz fuel xb116) fuel 116 x116_0 = true := by kernel_rfl
theorem kx116_1 : kinAllK (withTabs cz fuel xb116) fuel 116 x116_1 = true := by kernel_rfl
theorem kx116_5 : kinAllK (withTabs cz fuel xb116) fuel 116 x116_5 = true := by kernel_rfl
theorem kx116_9 : kinAllK (withTabs cz fuel xb116) fuel 116 x116_9 = true := by kernel_rfl
theorem k2024 : chunkK (withMemo (withTabs cx fuel v2024) fuel t2024) fuel 44 e2024 = true := by kernel_rfl
theorem k1448 : chunkK (withMemo (withTabs cx fuel v1448) fuel t1448) fuel 14 e1448 = true := by kernel_rfl
theorem k1884 : chunkK (withMemo (withTabs cx fuel v1884) fuel t1884) fuel 10 e1884 = true := by kernel_rfl
theorem k1698 : chunkK (withMemo (withTabs cx fuel v1698) fuel t1698) fuel 16 e1698 = true := by kernel_rfl
theorem k979 : chunkK (withMemo (withTabs cx fuel v979) fuel t979) fuel 24 e979 = true := by kernel_rfl
theorem k622 : chunkK (withMemo (withTabs cx fuel v622) fuel t622) fuel 31 e622 = true := by kernel_rfl
theorem k891 : chunkK (withMemo (withTabs cx fuel v891) fuel t891) fuel 31 e891 = true := by kernel_rfl
theorem k1576 : chunkK (withMemo (withTabs cx fuel v1576) fuel t1576) fuel 31 e1576 = true := by kernel_rfl
theorem k1225 : chunkK (withMemo (withTabs cx fuel v1225) fuel t1225) fuel 17 e1225 = true := by kernel_rfl
theorem k1447 : chunkK (withMemo (withTabs cx fuel v1447) fuel t1447) fuel 39 e1447 = true := by kernel_rfl
theorem k139 : chunkK (withMemo (withTabs cx fuel v139) fuel t139) fuel 21 e139 = true := by kernel_rfl
theorem k554 : chunkK (withMemo (withTabs cx fuel v554) fuel t554) fuel 15 e554 = true := by kernel_rfl
theorem k1010 : chunkK (withMemo (withTabs cx fuel v1010) fuel t1010) fuel 15 e1010 = true := by kernel_rfl
theorem ku111_0 : toldAllK (withTold cz fuel tu111) fuel 111 u111_0 = true := by kernel_rfl
theorem kx281_0 : kinAllK (withTabs cz fuel xb281) fuel 281 x281_0 = true := by kernel_rfl
theorem ku383_0 : toldAllK (withTold cz fuel tu383) fuel 383 u383_0 = true := by kernel_rfl
theorem ku51_0 : toldAllK (withTold cz fuel tu51) fuel 51 u51_0 = true := by kernel_rfl
theorem ku119_0 : toldAllK (withTold cz fuel tu119) fuel 119 u119_0 = true := by kernel_rfl
theorem ku38_0 : toldAllK (withTold cz fuel tu38) fuel 38 u38_0 = true := by kernel_rfl
theorem ku294_0 : toldAllK (withTold cz fuel tu294) fuel 294 u294_0 = true := by kernel_rfl
theorem ku71_0 : toldAllK (withTold cz fuel tu71) fuel 71 u71_0 = true := by kernel_rfl
end Go.Proofs.YtppljlchjfgenaaGreatDoor.Sk
