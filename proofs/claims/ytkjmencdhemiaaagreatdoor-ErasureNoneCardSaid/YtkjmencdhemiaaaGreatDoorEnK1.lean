/- The links of the run, reckoned, part 1. -/
import Derived.Test.YtkjmencdhemiaaaGreatDoorEnD0
import Derived.KernelRfl
namespace Go.Proofs.YtkjmencdhemiaaaGreatDoor.En
open Go Go.RowKit Go.Proofs Go.Proofs.YtkjmencdhemiaaaGreatDoor.X
theorem kx60_1 : kinAllK (withToldL (withKinL cz fuel xk60) fuel xu60) fuel 60 x60_1 = true := by kernel_rfl
theorem k19 : chunkK (withMemo (withToldL (withKinL cx fuel y19) fuel v19) fuel t19) fuel 6 e19 = true := by kernel_rfl
theorem k61 : chunkK (withMemo (withToldL (withKinL cx fuel y61) fuel v61) fuel t61) fuel 7 e61 = true := by kernel_rfl
theorem ku158_0 : toldAllK (withTold cz fuel tu158) fuel 158 u158_0 = true := by kernel_rfl
theorem ku195_0 : toldAllK (withTold cz fuel tu195) fuel 195 u195_0 = true := by kernel_rfl
theorem ku63_0 : toldAllK (withTold cz fuel tu63) fuel 63 u63_0 = true := by kernel_rfl
theorem ku134_0 : toldAllK (withTold cz fuel tu134) fuel 134 u134_0 = true := by kernel_rfl
theorem ku24_0 : toldAllK (withTold cz fuel tu24) fuel 24 u24_0 = true := by kernel_rfl
theorem ku157_0 : toldAllK (withTold cz fuel tu157) fuel 157 u157_0 = true := by kernel_rfl
theorem ku61_0 : toldAllK (withTold cz fuel tu61) fuel 61 u61_0 = true := by kernel_rfl
end Go.Proofs.YtkjmencdhemiaaaGreatDoor.En
