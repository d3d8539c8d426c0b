/- The links of the run, reckoned, part 0. -/
import Derived.Test.YtkjmencdhemiaaaGreatDoorEnD0
import Derived.KernelRfl
namespace Go.Proofs.YtkjmencdhemiaaaGreatDoor.En
open Go Go.RowKit Go.Proofs Go.Proofs.YtkjmencdhemiaaaGreatDoor.X
theorem kx60_0 : kinAllK (withToldL (withKinL cz fuel xk60) fuel xu60) fuel 60 x60_0 = true := by kernel_rfl
theorem kx60_2 : kinAllK (withToldL (withKinL cz fuel xk60) fuel xu60) fuel 60 x60_2 = true := by kernel_rfl
theorem k101 (p0 p1 : ByteArray) : answerOf (runK (withMemo (withToldL (withKinL cx fuel y101) fuel v101) fuel t101) fuel 3 [.string p0, .string p1] emptyS) = .bool (pathB 400 p0 == pathB 400 p0) := by kernel_rfl
theorem kx23_0 : kinAllK (withToldL (withKinL cz fuel xk23) fuel xu23) fuel 23 x23_0 = true := by kernel_rfl
theorem ku55_0 : toldAllK (withTold cz fuel tu55) fuel 55 u55_0 = true := by kernel_rfl
theorem kx219_0 : kinAllK (withToldL (withKinL cz fuel xk219) fuel xu219) fuel 219 x219_0 = true := by kernel_rfl
theorem kx141_0 : kinAllK (withToldL (withKinL cz fuel xk141) fuel xu141) fuel 141 x141_0 = true := by kernel_rfl
theorem kx113_0 : kinAllK (withToldL (withKinL cz fuel xk113) fuel xu113) fuel 113 x113_0 = true := by kernel_rfl
theorem ku86_0 : toldAllK (withTold cz fuel tu86) fuel 86 u86_0 = true := by kernel_rfl
theorem ku38_0 : toldAllK (withTold cz fuel tu38) fuel 38 u38_0 = true := by kernel_rfl
end Go.Proofs.YtkjmencdhemiaaaGreatDoor.En
