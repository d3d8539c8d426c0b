/- The links of the run, reckoned, part 2. -/
import Derived.Test.YtlemfpipiooiaaaGreatDoorUnD0
import Derived.KernelRfl
namespace Go.Proofs.YtlemfpipiooiaaaGreatDoor.Un
open Go Go.RowKit Go.Proofs Go.Proofs.YtlemfpipiooiaaaGreatDoor.X
theorem k747 : chunkK (withMemo (withTabs cx fuel v747) fuel t747) fuel 239 e747 = true := by kernel_rfl
theorem ku204_1 : toldAllK (withTold cz fuel tu204) fuel 204 u204_1 = true := by kernel_rfl
theorem kx118_0 : kinAllK (withTabs cz fuel xb118) fuel 118 x118_0 = true := by kernel_rfl
theorem kx118_3 : kinAllK (withTabs cz fuel xb118) fuel 118 x118_3 = true := by kernel_rfl
theorem kx118_6 : kinAllK (withTabs cz fuel xb118) fuel 118 x118_6 = true := by kernel_rfl
theorem k758 : chunkK (withMemo (withTabs cx fuel v758) fuel t758) fuel 27 e758 = true := by kernel_rfl
theorem k155 : chunkK (withMemo (withTabs cx fuel v155) fuel t155) fuel 10 e155 = true := by kernel_rfl
theorem k311 : chunkK (withMemo (withTabs cx fuel v311) fuel t311) fuel 20 e311 = true := by kernel_rfl
theorem k695 : chunkK (withMemo (withTabs cx fuel v695) fuel t695) fuel 26 e695 = true := by kernel_rfl
theorem k954 (p0 p1 p2 : ByteArray) : chunkK (withMemo (withTabs cx fuel v954) fuel t954) fuel 4 (e954 p0 p1 p2) = true := by kernel_rfl
theorem k540 : chunkK (withMemo (withTabs cx fuel v540) fuel t540) fuel 17 e540 = true := by kernel_rfl
theorem k346 : chunkK (withMemo (withTabs cx fuel v346) fuel t346) fuel 37 e346 = true := by kernel_rfl
theorem k8 : chunkK (withMemo (withTabs cx fuel v8) fuel t8) fuel 103 e8 = true := by kernel_rfl
theorem kx118_8 : kinAllK (withTabs cz fuel xb118) fuel 118 x118_8 = true := by kernel_rfl
theorem k809 : chunkK (withMemo (withTabs cx fuel v809) fuel t809) fuel 155 e809 = true := by kernel_rfl
theorem kx376_0 : kinAllK (withTabs cz fuel xb376) fuel 376 x376_0 = true := by kernel_rfl
theorem ku71_0 : toldAllK (withTold cz fuel tu71) fuel 71 u71_0 = true := by kernel_rfl
theorem ku122_0 : toldAllK (withTold cz fuel tu122) fuel 122 u122_0 = true := by kernel_rfl
theorem ku121_0 : toldAllK (withTold cz fuel tu121) fuel 121 u121_0 = true := by kernel_rfl
theorem ku93_0 : toldAllK (withTold cz fuel tu93) fuel 93 u93_0 = true := by kernel_rfl
theorem ku153_0 : toldAllK (withTold cz fuel tu153) fuel 153 u153_0 = true := by kernel_rfl
theorem ku126_0 : toldAllK (withTold cz fuel tu126) fuel 126 u126_0 = true := by kernel_rfl
end Go.Proofs.YtlemfpipiooiaaaGreatDoor.Un
