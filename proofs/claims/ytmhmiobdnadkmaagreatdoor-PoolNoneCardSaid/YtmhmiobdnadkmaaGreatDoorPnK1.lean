/- The links of the run, reckoned, part 1. -/
import Derived.Test.YtmhmiobdnadkmaaGreatDoorPnD0
import Derived.KernelRfl
namespace Go.Proofs.YtmhmiobdnadkmaaGreatDoor.Pn
open Go Go.RowKit Go.Proofs Go.Proofs.YtmhmiobdnadkmaaGreatDoor.X
theorem k259 : chunkK (withMemo (withTold cx fuel v259) fuel t259) fuel 119 e259 = true := by kernel_rfl
theorem k132 : chunkK (withMemo (withTold cx fuel v132) fuel t132) fuel 189 e132 = true := by kernel_rfl
theorem k166 : chunkK (withMemo (withTold cx fuel v166) fuel t166) fuel 26 e166 = true := by kernel_rfl
theorem k264 : chunkK (withMemo (withTold cx fuel v264) fuel t264) fuel 37 e264 = true := by kernel_rfl
theorem k261 : chunkK (withMemo (withTold cx fuel v261) fuel t261) fuel 61 e261 = true := by kernel_rfl
theorem k156 : chunkK (withMemo (withTold cx fuel v156) fuel t156) fuel 139 e156 = true := by kernel_rfl
theorem k181 : chunkK (withMemo (withTold cx fuel v181) fuel t181) fuel 195 e181 = true := by kernel_rfl
theorem k103 : chunkK (withMemo (withTold cx fuel v103) fuel t103) fuel 143 e103 = true := by kernel_rfl
theorem k5 : chunkK (withMemo (withTold cx fuel v5) fuel t5) fuel 88 e5 = true := by kernel_rfl
theorem k23 : chunkK (withMemo (withTold cx fuel v23) fuel t23) fuel 88 e23 = true := by kernel_rfl
theorem ku79_0 : toldAllK (withTold cx fuel tu79) fuel 79 u79_0 = true := by kernel_rfl
theorem ku48_0 : toldAllK (withTold cx fuel tu48) fuel 48 u48_0 = true := by kernel_rfl
theorem ku93_0 : toldAllK (withTold cx fuel tu93) fuel 93 u93_0 = true := by kernel_rfl
theorem ku141_0 : toldAllK (withTold cx fuel tu141) fuel 141 u141_0 = true := by kernel_rfl
theorem ku228_0 : toldAllK (withTold cx fuel tu228) fuel 228 u228_0 = true := by kernel_rfl
end Go.Proofs.YtmhmiobdnadkmaaGreatDoor.Pn
