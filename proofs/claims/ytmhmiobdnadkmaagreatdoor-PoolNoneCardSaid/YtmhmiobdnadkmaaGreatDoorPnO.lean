/- The run: its links joined. -/
import Derived.Test.YtmhmiobdnadkmaaGreatDoorPnK0
import Derived.Test.YtmhmiobdnadkmaaGreatDoorPnK1
import Derived.Test.YtmhmiobdnadkmaaGreatDoorPnK2
import Derived.KernelRfl
namespace Go.Proofs.YtmhmiobdnadkmaaGreatDoor.Pn
open Go Go.RowKit Go.Proofs Go.Proofs.YtmhmiobdnadkmaaGreatDoor.X
theorem hu63 : TldsOk cx 63 u63 := (tlds_ok cx_ok cx_names cx_intr cx_mixed rfl (utbl := tu63) trivial ku63_0)
theorem hu229 : TldsOk cx 229 u229 := (tlds_ok cx_ok cx_names cx_intr cx_mixed rfl (utbl := tu229) trivial ku229_0)
theorem hu106 : TldsOk cx 106 u106 := (tlds_ok cx_ok cx_names cx_intr cx_mixed rfl (utbl := tu106) trivial ku106_0)
theorem hu104 : TldsOk cx 104 u104 := (tlds_ok cx_ok cx_names cx_intr cx_mixed rfl (utbl := tu104) ⟨hu106, trivial⟩ ku104_0)
theorem hu220 : TldsOk cx 220 u220 := (tlds_ok cx_ok cx_names cx_intr cx_mixed rfl (utbl := tu220) trivial ku220_0)
theorem hu14 : TldsOk cx 14 u14 := (tlds_ok cx_ok cx_names cx_intr cx_mixed rfl (utbl := tu14) ⟨hu63, trivial⟩ ku14_0)
theorem hu261 : TldsOk cx 261 u261 := (tlds_ok cx_ok cx_names cx_intr cx_mixed rfl (utbl := tu261) ⟨hu229, trivial⟩ ku261_0)
theorem hu93 : TldsOk cx 93 u93 := (tlds_ok cx_ok cx_names cx_intr cx_mixed rfl (utbl := tu93) trivial ku93_0)
theorem hu48 : TldsOk cx 48 u48 := (tlds_ok cx_ok cx_names cx_intr cx_mixed rfl (utbl := tu48) ⟨hu104, ⟨hu106, trivial⟩⟩ ku48_0)
theorem hu27 : TldsOk cx 27 u27 := (tlds_ok cx_ok cx_names cx_intr cx_mixed rfl (utbl := tu27) trivial ku27_0)
theorem hu156 : TldsOk cx 156 u156 := (tlds_ok cx_ok cx_names cx_intr cx_mixed rfl (utbl := tu156) ⟨hu220, trivial⟩ ku156_0)
theorem hu141 : TldsOk cx 141 u141 := (tlds_ok cx_ok cx_names cx_intr cx_mixed rfl (utbl := tu141) trivial ku141_0)
theorem hu60 : TldsOk cx 60 u60 := (tlds_ok cx_ok cx_names cx_intr cx_mixed rfl (utbl := tu60) ⟨hu14, trivial⟩ ku60_0)
theorem hu228 : TldsOk cx 228 u228 := (tlds_ok cx_ok cx_names cx_intr cx_mixed rfl (utbl := tu228) ⟨hu261, trivial⟩ ku228_0)
theorem hu79 : TldsOk cx 79 u79 := (tlds_ok cx_ok cx_names cx_intr cx_mixed rfl (utbl := tu79) trivial ku79_0)
theorem o5 : EntryOk cx 88 e5 := chain2 cx_ok cx_names cx_intr cx_mixed (utbl := v5) (tbl := t5) ⟨hu141, trivial⟩ trivial k5
theorem o11 : EntryOk cx 88 e11 := chain2 cx_ok cx_names cx_intr cx_mixed (utbl := v11) (tbl := t11) ⟨hu141, trivial⟩ trivial k11
theorem o17 : EntryOk cx 88 e17 := chain2 cx_ok cx_names cx_intr cx_mixed (utbl := v17) (tbl := t17) ⟨hu141, trivial⟩ trivial k17
theorem o23 : EntryOk cx 88 e23 := chain2 cx_ok cx_names cx_intr cx_mixed (utbl := v23) (tbl := t23) ⟨hu141, trivial⟩ trivial k23
theorem o44 : EntryOk cx 26 e44 := chain2 cx_ok cx_names cx_intr cx_mixed (utbl := v44) (tbl := t44) ⟨hu79, ⟨hu93, trivial⟩⟩ trivial k44
theorem o64 : EntryOk cx 30 e64 := chain2 cx_ok cx_names cx_intr cx_mixed (utbl := v64) (tbl := t64) ⟨hu79, ⟨hu141, ⟨hu93, trivial⟩⟩⟩ ⟨⟨o5, ⟨o11, ⟨o17, ⟨o23, trivial⟩⟩⟩⟩, ⟨⟨o44, trivial⟩, trivial⟩⟩ k64
theorem o78 : EntryOk cx 119 e78 := chain2 cx_ok cx_names cx_intr cx_mixed (utbl := v78) (tbl := t78) trivial trivial k78
theorem o83 : EntryOk cx 120 e83 := chain2 cx_ok cx_names cx_intr cx_mixed (utbl := v83) (tbl := t83) ⟨hu48, trivial⟩ trivial k83
theorem o99 : EntryOk cx 143 e99 := chain2 cx_ok cx_names cx_intr cx_mixed (utbl := v99) (tbl := t99) ⟨hu141, trivial⟩ trivial k99
theorem o103 : EntryOk cx 143 e103 := chain2 cx_ok cx_names cx_intr cx_mixed (utbl := v103) (tbl := t103) ⟨hu141, trivial⟩ trivial k103
theorem o107 : EntryOk cx 143 e107 := chain2 cx_ok cx_names cx_intr cx_mixed (utbl := v107) (tbl := t107) ⟨hu141, trivial⟩ trivial k107
theorem o113 : EntryOk cx 85 e113 := chain2 cx_ok cx_names cx_intr cx_mixed (utbl := v113) (tbl := t113) ⟨hu141, trivial⟩ ⟨⟨o99, ⟨o103, ⟨o107, trivial⟩⟩⟩, trivial⟩ k113
theorem o124 : EntryOk cx 189 e124 := chain2 cx_ok cx_names cx_intr cx_mixed (utbl := v124) (tbl := t124) trivial trivial k124
theorem o132 : EntryOk cx 189 e132 := chain2 cx_ok cx_names cx_intr cx_mixed (utbl := v132) (tbl := t132) trivial trivial k132
theorem o148 : EntryOk cx 195 e148 := chain2 cx_ok cx_names cx_intr cx_mixed (utbl := v148) (tbl := t148) ⟨hu79, trivial⟩ trivial k148
theorem o156 : EntryOk cx 139 e156 := chain2 cx_ok cx_names cx_intr cx_mixed (utbl := v156) (tbl := t156) ⟨hu79, trivial⟩ ⟨⟨o148, trivial⟩, trivial⟩ k156
theorem o166 : EntryOk cx 26 e166 := chain2 cx_ok cx_names cx_intr cx_mixed (utbl := v166) (tbl := t166) ⟨hu48, ⟨hu79, ⟨hu60, ⟨hu93, ⟨hu27, trivial⟩⟩⟩⟩⟩ ⟨⟨o124, ⟨o132, trivial⟩⟩, ⟨⟨o156, trivial⟩, trivial⟩⟩ k166
theorem o181 : EntryOk cx 195 e181 := chain2 cx_ok cx_names cx_intr cx_mixed (utbl := v181) (tbl := t181) ⟨hu79, trivial⟩ trivial k181
theorem o189 : EntryOk cx 139 e189 := chain2 cx_ok cx_names cx_intr cx_mixed (utbl := v189) (tbl := t189) ⟨hu79, trivial⟩ ⟨⟨o181, trivial⟩, trivial⟩ k189
theorem o199 : EntryOk cx 26 e199 := chain2 cx_ok cx_names cx_intr cx_mixed (utbl := v199) (tbl := t199) ⟨hu79, ⟨hu93, trivial⟩⟩ ⟨⟨o189, trivial⟩, trivial⟩ k199
theorem o201 : EntryOk cx 30 e201 := chain2 cx_ok cx_names cx_intr cx_mixed (utbl := v201) (tbl := t201) ⟨hu141, ⟨hu79, trivial⟩⟩ ⟨⟨o113, trivial⟩, ⟨⟨o166, ⟨o199, trivial⟩⟩, trivial⟩⟩ k201
theorem o206 : EntryOk cx 189 e206 := chain2 cx_ok cx_names cx_intr cx_mixed (utbl := v206) (tbl := t206) trivial trivial k206
theorem o214 : EntryOk cx 189 e214 := chain2 cx_ok cx_names cx_intr cx_mixed (utbl := v214) (tbl := t214) trivial trivial k214
theorem o234 : EntryOk cx 47 e234 := chain2 cx_ok cx_names cx_intr cx_mixed (utbl := v234) (tbl := t234) trivial trivial k234
theorem o248 : EntryOk cx 47 e248 := chain2 cx_ok cx_names cx_intr cx_mixed (utbl := v248) (tbl := t248) trivial trivial k248
theorem o259 : EntryOk cx 119 e259 := chain2 cx_ok cx_names cx_intr cx_mixed (utbl := v259) (tbl := t259) trivial trivial k259
theorem o261 : EntryOk cx 61 e261 := chain2 cx_ok cx_names cx_intr cx_mixed (utbl := v261) (tbl := t261) ⟨hu229, ⟨hu48, ⟨hu228, trivial⟩⟩⟩ ⟨⟨o248, trivial⟩, ⟨⟨o259, trivial⟩, trivial⟩⟩ k261
theorem o264 : EntryOk cx 37 e264 := chain2 cx_ok cx_names cx_intr cx_mixed (utbl := v264) (tbl := t264) ⟨hu229, ⟨hu48, ⟨hu60, ⟨hu156, ⟨hu79, ⟨hu27, ⟨hu228, trivial⟩⟩⟩⟩⟩⟩⟩ ⟨⟨o206, ⟨o214, trivial⟩⟩, ⟨⟨o234, trivial⟩, ⟨⟨o261, trivial⟩, trivial⟩⟩⟩ k264
theorem o266 (p0 p1 : ByteArray) : EntryOk cx 6 (e266 p0 p1) := chain2 cx_ok cx_names cx_intr cx_mixed (utbl := v266) (tbl := t266) ⟨hu229, ⟨hu79, ⟨hu48, ⟨hu60, ⟨hu156, ⟨hu27, ⟨hu228, trivial⟩⟩⟩⟩⟩⟩⟩ ⟨⟨o64, ⟨o201, trivial⟩⟩, ⟨⟨o78, trivial⟩, ⟨⟨o83, trivial⟩, ⟨⟨o264, trivial⟩, trivial⟩⟩⟩⟩ (k266 p0 p1)
theorem known (p0 p1 : ByteArray) (w : World) : Calls Tryz.prog 6 #[.string p0, .string p1] w fun e w' => e = .returned (.bool true) ∧ Below w.heap.size w w' := chain_args (C := cx) rfl (args := [.string p0, .string p1]) rfl (o266 p0 p1) rfl w
end Go.Proofs.YtmhmiobdnadkmaaGreatDoor.Pn
