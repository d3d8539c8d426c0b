/- The links of the run, reckoned, part 2. -/
import Derived.Test.YtmhmiobdnadkmaaGreatDoorPkD0
import Derived.KernelRfl
namespace Go.Proofs.YtmhmiobdnadkmaaGreatDoor.Pk
open Go Go.RowKit Go.Proofs Go.Proofs.YtmhmiobdnadkmaaGreatDoor.X
theorem k561 : chunkK (withMemo (withTold cx fuel v561) fuel t561) fuel 30 e561 = true := by kernel_rfl
theorem k626 : chunkK (withMemo (withTold cx fuel v626) fuel t626) fuel 5 e626 = true := by kernel_rfl
theorem k450 : chunkK (withMemo (withTold cx fuel v450) fuel t450) fuel 54 e450 = true := by kernel_rfl
theorem k168 : chunkK (withMemo (withTold cx fuel v168) fuel t168) fuel 49 e168 = true := by kernel_rfl
theorem k359 : chunkK (withMemo (withTold cx fuel v359) fuel t359) fuel 37 e359 = true := by kernel_rfl
theorem k596 : chunkK (withMemo (withTold cx fuel v596) fuel t596) fuel 57 e596 = true := by kernel_rfl
theorem k302 : chunkK (withMemo (withTold cx fuel v302) fuel t302) fuel 54 e302 = true := by kernel_rfl
theorem k137 : chunkK (withMemo (withTold cx fuel v137) fuel t137) fuel 134 e137 = true := by kernel_rfl
theorem k187 : chunkK (withMemo (withTold cx fuel v187) fuel t187) fuel 134 e187 = true := by kernel_rfl
theorem k79 : chunkK (withMemo (withTold cx fuel v79) fuel t79) fuel 53 e79 = true := by kernel_rfl
theorem k92 : chunkK (withMemo (withTold cx fuel v92) fuel t92) fuel 33 e92 = true := by kernel_rfl
theorem k463 : chunkK (withMemo (withTold cx fuel v463) fuel t463) fuel 143 e463 = true := by kernel_rfl
theorem k23 : chunkK (withMemo (withTold cx fuel v23) fuel t23) fuel 88 e23 = true := by kernel_rfl
theorem k383 : chunkK (withMemo (withTold cx fuel v383) fuel t383) fuel 88 e383 = true := by kernel_rfl
theorem k8 : chunkK (withMemo (withTold cx fuel v8) fuel t8) fuel 89 e8 = true := by kernel_rfl
theorem k14 : chunkK (withMemo (withTold cx fuel v14) fuel t14) fuel 89 e14 = true := by kernel_rfl
theorem k374 : chunkK (withMemo (withTold cx fuel v374) fuel t374) fuel 89 e374 = true := by kernel_rfl
theorem ku48_0 : toldAllK (withTold cx fuel tu48) fuel 48 u48_0 = true := by kernel_rfl
theorem ku60_0 : toldAllK (withTold cx fuel tu60) fuel 60 u60_0 = true := by kernel_rfl
theorem ku228_0 : toldAllK (withTold cx fuel tu228) fuel 228 u228_0 = true := by kernel_rfl
end Go.Proofs.YtmhmiobdnadkmaaGreatDoor.Pk
