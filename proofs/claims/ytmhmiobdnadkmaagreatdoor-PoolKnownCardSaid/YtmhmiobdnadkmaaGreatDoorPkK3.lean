/- The links of the run, reckoned, part 3. -/
import Derived.Test.YtmhmiobdnadkmaaGreatDoorPkD0
import Derived.KernelRfl
namespace Go.Proofs.YtmhmiobdnadkmaaGreatDoor.Pk
open Go Go.RowKit Go.Proofs Go.Proofs.YtmhmiobdnadkmaaGreatDoor.X
theorem k226 : chunkK (withMemo (withTold cx fuel v226) fuel t226) fuel 35 e226 = true := by kernel_rfl
theorem k176 : chunkK (withMemo (withTold cx fuel v176) fuel t176) fuel 35 e176 = true := by kernel_rfl
theorem k124 : chunkK (withMemo (withTold cx fuel v124) fuel t124) fuel 54 e124 = true := by kernel_rfl
theorem k265 : chunkK (withMemo (withTold cx fuel v265) fuel t265) fuel 30 e265 = true := by kernel_rfl
theorem k218 : chunkK (withMemo (withTold cx fuel v218) fuel t218) fuel 49 e218 = true := by kernel_rfl
theorem k279 : chunkK (withMemo (withTold cx fuel v279) fuel t279) fuel 49 e279 = true := by kernel_rfl
theorem k609 : chunkK (withMemo (withTold cx fuel v609) fuel t609) fuel 124 e609 = true := by kernel_rfl
theorem k549 : chunkK (withMemo (withTold cx fuel v549) fuel t549) fuel 139 e549 = true := by kernel_rfl
theorem k157 : chunkK (withMemo (withTold cx fuel v157) fuel t157) fuel 134 e157 = true := by kernel_rfl
theorem k570 : chunkK (withMemo (withTold cx fuel v570) fuel t570) fuel 134 e570 = true := by kernel_rfl
theorem k625 : chunkK (withMemo (withTold cx fuel v625) fuel t625) fuel 38 e625 = true := by kernel_rfl
theorem k233 : chunkK (withMemo (withTold cx fuel v233) fuel t233) fuel 143 e233 = true := by kernel_rfl
theorem k5 : chunkK (withMemo (withTold cx fuel v5) fuel t5) fuel 88 e5 = true := by kernel_rfl
theorem k365 : chunkK (withMemo (withTold cx fuel v365) fuel t365) fuel 88 e365 = true := by kernel_rfl
theorem ku79_0 : toldAllK (withTold cx fuel tu79) fuel 79 u79_0 = true := by kernel_rfl
theorem k20 : chunkK (withMemo (withTold cx fuel v20) fuel t20) fuel 89 e20 = true := by kernel_rfl
theorem k380 : chunkK (withMemo (withTold cx fuel v380) fuel t380) fuel 89 e380 = true := by kernel_rfl
theorem ku146_0 : toldAllK (withTold cx fuel tu146) fuel 146 u146_0 = true := by kernel_rfl
theorem ku27_0 : toldAllK (withTold cx fuel tu27) fuel 27 u27_0 = true := by kernel_rfl
theorem ku141_0 : toldAllK (withTold cx fuel tu141) fuel 141 u141_0 = true := by kernel_rfl
end Go.Proofs.YtmhmiobdnadkmaaGreatDoor.Pk
