/- The links of the run, reckoned, part 2. -/
import Derived.Test.YtmhmiobdnadkmaaGreatDoorPnD0
import Derived.KernelRfl
namespace Go.Proofs.YtmhmiobdnadkmaaGreatDoor.Pn
open Go Go.RowKit Go.Proofs Go.Proofs.YtmhmiobdnadkmaaGreatDoor.X
theorem k64 : chunkK (withMemo (withTold cx fuel v64) fuel t64) fuel 30 e64 = true := by kernel_rfl
theorem k83 : chunkK (withMemo (withTold cx fuel v83) fuel t83) fuel 120 e83 = true := by kernel_rfl
theorem k206 : chunkK (withMemo (withTold cx fuel v206) fuel t206) fuel 189 e206 = true := by kernel_rfl
theorem k266 (p0 p1 : ByteArray) : chunkK (withMemo (withTold cx fuel v266) fuel t266) fuel 6 (e266 p0 p1) = true := by kernel_rfl
theorem k44 : chunkK (withMemo (withTold cx fuel v44) fuel t44) fuel 26 e44 = true := by kernel_rfl
theorem k148 : chunkK (withMemo (withTold cx fuel v148) fuel t148) fuel 195 e148 = true := by kernel_rfl
theorem k99 : chunkK (withMemo (withTold cx fuel v99) fuel t99) fuel 143 e99 = true := by kernel_rfl
theorem k107 : chunkK (withMemo (withTold cx fuel v107) fuel t107) fuel 143 e107 = true := by kernel_rfl
theorem k11 : chunkK (withMemo (withTold cx fuel v11) fuel t11) fuel 88 e11 = true := by kernel_rfl
theorem k234 : chunkK (withMemo (withTold cx fuel v234) fuel t234) fuel 47 e234 = true := by kernel_rfl
theorem ku106_0 : toldAllK (withTold cx fuel tu106) fuel 106 u106_0 = true := by kernel_rfl
theorem ku261_0 : toldAllK (withTold cx fuel tu261) fuel 261 u261_0 = true := by kernel_rfl
theorem ku27_0 : toldAllK (withTold cx fuel tu27) fuel 27 u27_0 = true := by kernel_rfl
theorem ku14_0 : toldAllK (withTold cx fuel tu14) fuel 14 u14_0 = true := by kernel_rfl
theorem ku104_0 : toldAllK (withTold cx fuel tu104) fuel 104 u104_0 = true := by kernel_rfl
end Go.Proofs.YtmhmiobdnadkmaaGreatDoor.Pn
