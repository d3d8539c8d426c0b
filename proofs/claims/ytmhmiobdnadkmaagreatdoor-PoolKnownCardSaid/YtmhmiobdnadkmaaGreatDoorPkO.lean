/- The run: its links joined. -/
import Derived.Test.YtmhmiobdnadkmaaGreatDoorPkK0
import Derived.Test.YtmhmiobdnadkmaaGreatDoorPkK1
import Derived.Test.YtmhmiobdnadkmaaGreatDoorPkK2
import Derived.Test.YtmhmiobdnadkmaaGreatDoorPkK3
import Derived.KernelRfl
namespace Go.Proofs.YtmhmiobdnadkmaaGreatDoor.Pk
open Go Go.RowKit Go.Proofs Go.Proofs.YtmhmiobdnadkmaaGreatDoor.X
theorem hu229 : TldsOk cx 229 u229 := (tlds_ok cx_ok cx_names cx_intr cx_mixed rfl (utbl := tu229) trivial ku229_0)
theorem hu63 : TldsOk cx 63 u63 := (tlds_ok cx_ok cx_names cx_intr cx_mixed rfl (utbl := tu63) trivial ku63_0)
theorem hu106 : TldsOk cx 106 u106 := (tlds_ok cx_ok cx_names cx_intr cx_mixed rfl (utbl := tu106) trivial ku106_0)
theorem hu104 : TldsOk cx 104 u104 := (tlds_ok cx_ok cx_names cx_intr cx_mixed rfl (utbl := tu104) ⟨hu106, trivial⟩ ku104_0)
theorem hu220 : TldsOk cx 220 u220 := (tlds_ok cx_ok cx_names cx_intr cx_mixed rfl (utbl := tu220) trivial ku220_0)
theorem hu141 : TldsOk cx 141 u141 := (tlds_ok cx_ok cx_names cx_intr cx_mixed rfl (utbl := tu141) trivial ku141_0)
theorem hu14 : TldsOk cx 14 u14 := (tlds_ok cx_ok cx_names cx_intr cx_mixed rfl (utbl := tu14) ⟨hu63, trivial⟩ ku14_0)
theorem hu261 : TldsOk cx 261 u261 := (tlds_ok cx_ok cx_names cx_intr cx_mixed rfl (utbl := tu261) ⟨hu229, trivial⟩ ku261_0)
theorem hu93 : TldsOk cx 93 u93 := (tlds_ok cx_ok cx_names cx_intr cx_mixed rfl (utbl := tu93) trivial ku93_0)
theorem hu27 : TldsOk cx 27 u27 := (tlds_ok cx_ok cx_names cx_intr cx_mixed rfl (utbl := tu27) trivial ku27_0)
theorem hu146 : TldsOk cx 146 u146 := (tlds_ok cx_ok cx_names cx_intr cx_mixed rfl (utbl := tu146) ⟨hu141, trivial⟩ ku146_0)
theorem hu156 : TldsOk cx 156 u156 := (tlds_ok cx_ok cx_names cx_intr cx_mixed rfl (utbl := tu156) ⟨hu220, trivial⟩ ku156_0)
theorem hu228 : TldsOk cx 228 u228 := (tlds_ok cx_ok cx_names cx_intr cx_mixed rfl (utbl := tu228) ⟨hu261, trivial⟩ ku228_0)
theorem hu79 : TldsOk cx 79 u79 := (tlds_ok cx_ok cx_names cx_intr cx_mixed rfl (utbl := tu79) trivial ku79_0)
theorem hu60 : TldsOk cx 60 u60 := (tlds_ok cx_ok cx_names cx_intr cx_mixed rfl (utbl := tu60) ⟨hu14, trivial⟩ ku60_0)
theorem hu48 : TldsOk cx 48 u48 := (tlds_ok cx_ok cx_names cx_intr cx_mixed rfl (utbl := tu48) ⟨hu104, ⟨hu106, trivial⟩⟩ ku48_0)
theorem o5 : EntryOk cx 88 e5 := chain2 cx_ok cx_names cx_intr cx_mixed (utbl := v5) (tbl := t5) ⟨hu146, trivial⟩ trivial k5
theorem o8 : EntryOk cx 89 e8 := chain2 cx_ok cx_names cx_intr cx_mixed (utbl := v8) (tbl := t8) ⟨hu79, trivial⟩ trivial k8
theorem o11 : EntryOk cx 88 e11 := chain2 cx_ok cx_names cx_intr cx_mixed (utbl := v11) (tbl := t11) ⟨hu146, trivial⟩ trivial k11
theorem o14 : EntryOk cx 89 e14 := chain2 cx_ok cx_names cx_intr cx_mixed (utbl := v14) (tbl := t14) ⟨hu79, trivial⟩ trivial k14
theorem o17 : EntryOk cx 88 e17 := chain2 cx_ok cx_names cx_intr cx_mixed (utbl := v17) (tbl := t17) ⟨hu146, trivial⟩ trivial k17
theorem o20 : EntryOk cx 89 e20 := chain2 cx_ok cx_names cx_intr cx_mixed (utbl := v20) (tbl := t20) ⟨hu79, trivial⟩ trivial k20
theorem o23 : EntryOk cx 88 e23 := chain2 cx_ok cx_names cx_intr cx_mixed (utbl := v23) (tbl := t23) ⟨hu146, trivial⟩ trivial k23
theorem o26 : EntryOk cx 89 e26 := chain2 cx_ok cx_names cx_intr cx_mixed (utbl := v26) (tbl := t26) ⟨hu79, trivial⟩ trivial k26
theorem o64 : EntryOk cx 30 e64 := chain2 cx_ok cx_names cx_intr cx_mixed (utbl := v64) (tbl := t64) ⟨hu79, ⟨hu141, ⟨hu93, trivial⟩⟩⟩ ⟨⟨o5, ⟨o11, ⟨o17, ⟨o23, trivial⟩⟩⟩⟩, ⟨⟨o8, ⟨o14, ⟨o20, ⟨o26, trivial⟩⟩⟩⟩, trivial⟩⟩ k64
theorem o79 : EntryOk cx 53 e79 := chain2 cx_ok cx_names cx_intr cx_mixed (utbl := v79) (tbl := t79) ⟨hu229, ⟨hu228, trivial⟩⟩ trivial k79
theorem o90 : EntryOk cx 54 e90 := chain2 cx_ok cx_names cx_intr cx_mixed (utbl := v90) (tbl := t90) ⟨hu48, ⟨hu79, ⟨hu60, trivial⟩⟩⟩ trivial k90
theorem o92 : EntryOk cx 33 e92 := chain2 cx_ok cx_names cx_intr cx_mixed (utbl := v92) (tbl := t92) ⟨hu48, ⟨hu156, ⟨hu79, ⟨hu27, trivial⟩⟩⟩⟩ ⟨⟨o79, trivial⟩, ⟨⟨o90, trivial⟩, trivial⟩⟩ k92
theorem o113 : EntryOk cx 53 e113 := chain2 cx_ok cx_names cx_intr cx_mixed (utbl := v113) (tbl := t113) ⟨hu228, trivial⟩ trivial k113
theorem o124 : EntryOk cx 54 e124 := chain2 cx_ok cx_names cx_intr cx_mixed (utbl := v124) (tbl := t124) ⟨hu60, ⟨hu79, ⟨hu48, trivial⟩⟩⟩ trivial k124
theorem o126 : EntryOk cx 33 e126 := chain2 cx_ok cx_names cx_intr cx_mixed (utbl := v126) (tbl := t126) ⟨hu48, ⟨hu27, ⟨hu79, trivial⟩⟩⟩ ⟨⟨o113, trivial⟩, ⟨⟨o124, trivial⟩, trivial⟩⟩ k126
theorem o137 : EntryOk cx 134 e137 := chain2 cx_ok cx_names cx_intr cx_mixed (utbl := v137) (tbl := t137) ⟨hu48, trivial⟩ trivial k137
theorem o148 : EntryOk cx 49 e148 := chain2 cx_ok cx_names cx_intr cx_mixed (utbl := v148) (tbl := t148) ⟨hu48, ⟨hu79, ⟨hu27, trivial⟩⟩⟩ ⟨⟨o137, trivial⟩, trivial⟩ k148
theorem o157 : EntryOk cx 134 e157 := chain2 cx_ok cx_names cx_intr cx_mixed (utbl := v157) (tbl := t157) ⟨hu48, trivial⟩ trivial k157
theorem o168 : EntryOk cx 49 e168 := chain2 cx_ok cx_names cx_intr cx_mixed (utbl := v168) (tbl := t168) ⟨hu48, ⟨hu27, ⟨hu79, trivial⟩⟩⟩ ⟨⟨o157, trivial⟩, trivial⟩ k168
theorem o176 : EntryOk cx 35 e176 := chain2 cx_ok cx_names cx_intr cx_mixed (utbl := v176) (tbl := t176) ⟨hu93, ⟨hu27, trivial⟩⟩ ⟨⟨o148, ⟨o168, trivial⟩⟩, trivial⟩ k176
theorem o187 : EntryOk cx 134 e187 := chain2 cx_ok cx_names cx_intr cx_mixed (utbl := v187) (tbl := t187) ⟨hu48, trivial⟩ trivial k187
theorem o198 : EntryOk cx 49 e198 := chain2 cx_ok cx_names cx_intr cx_mixed (utbl := v198) (tbl := t198) ⟨hu48, ⟨hu79, ⟨hu27, trivial⟩⟩⟩ ⟨⟨o187, trivial⟩, trivial⟩ k198
theorem o207 : EntryOk cx 134 e207 := chain2 cx_ok cx_names cx_intr cx_mixed (utbl := v207) (tbl := t207) ⟨hu48, trivial⟩ trivial k207
theorem o218 : EntryOk cx 49 e218 := chain2 cx_ok cx_names cx_intr cx_mixed (utbl := v218) (tbl := t218) ⟨hu48, ⟨hu27, ⟨hu79, trivial⟩⟩⟩ ⟨⟨o207, trivial⟩, trivial⟩ k218
theorem o226 : EntryOk cx 35 e226 := chain2 cx_ok cx_names cx_intr cx_mixed (utbl := v226) (tbl := t226) ⟨hu93, ⟨hu27, trivial⟩⟩ ⟨⟨o198, ⟨o218, trivial⟩⟩, trivial⟩ k226
theorem o233 : EntryOk cx 143 e233 := chain2 cx_ok cx_names cx_intr cx_mixed (utbl := v233) (tbl := t233) ⟨hu146, trivial⟩ trivial k233
theorem o237 : EntryOk cx 143 e237 := chain2 cx_ok cx_names cx_intr cx_mixed (utbl := v237) (tbl := t237) ⟨hu146, trivial⟩ trivial k237
theorem o248 : EntryOk cx 30 e248 := chain2 cx_ok cx_names cx_intr cx_mixed (utbl := v248) (tbl := t248) ⟨hu79, ⟨hu141, ⟨hu146, trivial⟩⟩⟩ ⟨⟨o233, ⟨o237, trivial⟩⟩, trivial⟩ k248
theorem o265 : EntryOk cx 30 e265 := chain2 cx_ok cx_names cx_intr cx_mixed (utbl := v265) (tbl := t265) ⟨hu146, ⟨hu79, ⟨hu141, trivial⟩⟩⟩ trivial k265
theorem o279 : EntryOk cx 49 e279 := chain2 cx_ok cx_names cx_intr cx_mixed (utbl := v279) (tbl := t279) ⟨hu48, ⟨hu79, ⟨hu27, trivial⟩⟩⟩ trivial k279
theorem o291 : EntryOk cx 53 e291 := chain2 cx_ok cx_names cx_intr cx_mixed (utbl := v291) (tbl := t291) ⟨hu228, trivial⟩ trivial k291
theorem o302 : EntryOk cx 54 e302 := chain2 cx_ok cx_names cx_intr cx_mixed (utbl := v302) (tbl := t302) ⟨hu48, ⟨hu79, ⟨hu60, trivial⟩⟩⟩ trivial k302
theorem o304 : EntryOk cx 33 e304 := chain2 cx_ok cx_names cx_intr cx_mixed (utbl := v304) (tbl := t304) ⟨hu48, ⟨hu156, ⟨hu27, trivial⟩⟩⟩ ⟨⟨o279, trivial⟩, ⟨⟨o291, trivial⟩, ⟨⟨o302, trivial⟩, trivial⟩⟩⟩ k304
theorem o316 : EntryOk cx 49 e316 := chain2 cx_ok cx_names cx_intr cx_mixed (utbl := v316) (tbl := t316) ⟨hu48, ⟨hu79, ⟨hu27, trivial⟩⟩⟩ trivial k316
theorem o331 : EntryOk cx 57 e331 := chain2 cx_ok cx_names cx_intr cx_mixed (utbl := v331) (tbl := t331) ⟨hu229, ⟨hu48, ⟨hu228, trivial⟩⟩⟩ trivial k331
theorem o344 : EntryOk cx 124 e344 := chain2 cx_ok cx_names cx_intr cx_mixed (utbl := v344) (tbl := t344) ⟨hu229, ⟨hu228, trivial⟩⟩ trivial k344
theorem o359 : EntryOk cx 37 e359 := chain2 cx_ok cx_names cx_intr cx_mixed (utbl := v359) (tbl := t359) ⟨hu229, ⟨hu48, ⟨hu60, ⟨hu156, ⟨hu79, ⟨hu27, ⟨hu228, trivial⟩⟩⟩⟩⟩⟩⟩ ⟨⟨o316, trivial⟩, ⟨⟨o331, trivial⟩, ⟨⟨o344, trivial⟩, trivial⟩⟩⟩ k359
theorem o365 : EntryOk cx 88 e365 := chain2 cx_ok cx_names cx_intr cx_mixed (utbl := v365) (tbl := t365) ⟨hu146, trivial⟩ trivial k365
theorem o368 : EntryOk cx 89 e368 := chain2 cx_ok cx_names cx_intr cx_mixed (utbl := v368) (tbl := t368) ⟨hu79, trivial⟩ trivial k368
theorem o371 : EntryOk cx 88 e371 := chain2 cx_ok cx_names cx_intr cx_mixed (utbl := v371) (tbl := t371) ⟨hu146, trivial⟩ trivial k371
theorem o374 : EntryOk cx 89 e374 := chain2 cx_ok cx_names cx_intr cx_mixed (utbl := v374) (tbl := t374) ⟨hu79, trivial⟩ trivial k374
theorem o377 : EntryOk cx 88 e377 := chain2 cx_ok cx_names cx_intr cx_mixed (utbl := v377) (tbl := t377) ⟨hu146, trivial⟩ trivial k377
theorem o380 : EntryOk cx 89 e380 := chain2 cx_ok cx_names cx_intr cx_mixed (utbl := v380) (tbl := t380) ⟨hu79, trivial⟩ trivial k380
theorem o383 : EntryOk cx 88 e383 := chain2 cx_ok cx_names cx_intr cx_mixed (utbl := v383) (tbl := t383) ⟨hu146, trivial⟩ trivial k383
theorem o386 : EntryOk cx 89 e386 := chain2 cx_ok cx_names cx_intr cx_mixed (utbl := v386) (tbl := t386) ⟨hu79, trivial⟩ trivial k386
theorem o424 : EntryOk cx 30 e424 := chain2 cx_ok cx_names cx_intr cx_mixed (utbl := v424) (tbl := t424) ⟨hu79, ⟨hu141, ⟨hu93, trivial⟩⟩⟩ ⟨⟨o365, ⟨o371, ⟨o377, ⟨o383, trivial⟩⟩⟩⟩, ⟨⟨o368, ⟨o374, ⟨o380, ⟨o386, trivial⟩⟩⟩⟩, trivial⟩⟩ k424
theorem o439 : EntryOk cx 53 e439 := chain2 cx_ok cx_names cx_intr cx_mixed (utbl := v439) (tbl := t439) ⟨hu229, ⟨hu228, trivial⟩⟩ trivial k439
theorem o450 : EntryOk cx 54 e450 := chain2 cx_ok cx_names cx_intr cx_mixed (utbl := v450) (tbl := t450) ⟨hu48, ⟨hu79, ⟨hu60, trivial⟩⟩⟩ trivial k450
theorem o459 : EntryOk cx 143 e459 := chain2 cx_ok cx_names cx_intr cx_mixed (utbl := v459) (tbl := t459) ⟨hu146, trivial⟩ trivial k459
theorem o463 : EntryOk cx 143 e463 := chain2 cx_ok cx_names cx_intr cx_mixed (utbl := v463) (tbl := t463) ⟨hu146, trivial⟩ trivial k463
theorem o473 : EntryOk cx 85 e473 := chain2 cx_ok cx_names cx_intr cx_mixed (utbl := v473) (tbl := t473) ⟨hu141, ⟨hu146, trivial⟩⟩ ⟨⟨o459, ⟨o463, trivial⟩⟩, trivial⟩ k473
theorem o488 : EntryOk cx 134 e488 := chain2 cx_ok cx_names cx_intr cx_mixed (utbl := v488) (tbl := t488) ⟨hu48, trivial⟩ trivial k488
theorem o501 : EntryOk cx 77 e501 := chain2 cx_ok cx_names cx_intr cx_mixed (utbl := v501) (tbl := t501) ⟨hu48, ⟨hu60, ⟨hu79, ⟨hu27, trivial⟩⟩⟩⟩ ⟨⟨o488, trivial⟩, trivial⟩ k501
theorem o516 : EntryOk cx 139 e516 := chain2 cx_ok cx_names cx_intr cx_mixed (utbl := v516) (tbl := t516) ⟨hu79, trivial⟩ trivial k516
theorem o549 : EntryOk cx 139 e549 := chain2 cx_ok cx_names cx_intr cx_mixed (utbl := v549) (tbl := t549) ⟨hu79, trivial⟩ trivial k549
theorem o561 : EntryOk cx 30 e561 := chain2 cx_ok cx_names cx_intr cx_mixed (utbl := v561) (tbl := t561) ⟨hu79, ⟨hu141, ⟨hu93, ⟨hu27, trivial⟩⟩⟩⟩ ⟨⟨o473, trivial⟩, ⟨⟨o501, trivial⟩, ⟨⟨o516, ⟨o549, trivial⟩⟩, trivial⟩⟩⟩ k561
theorem o570 : EntryOk cx 134 e570 := chain2 cx_ok cx_names cx_intr cx_mixed (utbl := v570) (tbl := t570) ⟨hu48, trivial⟩ trivial k570
theorem o581 : EntryOk cx 49 e581 := chain2 cx_ok cx_names cx_intr cx_mixed (utbl := v581) (tbl := t581) ⟨hu48, ⟨hu79, ⟨hu27, trivial⟩⟩⟩ ⟨⟨o570, trivial⟩, trivial⟩ k581
theorem o596 : EntryOk cx 57 e596 := chain2 cx_ok cx_names cx_intr cx_mixed (utbl := v596) (tbl := t596) ⟨hu229, ⟨hu48, ⟨hu228, trivial⟩⟩⟩ trivial k596
theorem o609 : EntryOk cx 124 e609 := chain2 cx_ok cx_names cx_intr cx_mixed (utbl := v609) (tbl := t609) ⟨hu229, ⟨hu228, trivial⟩⟩ trivial k609
theorem o624 : EntryOk cx 37 e624 := chain2 cx_ok cx_names cx_intr cx_mixed (utbl := v624) (tbl := t624) ⟨hu229, ⟨hu48, ⟨hu60, ⟨hu156, ⟨hu79, ⟨hu27, ⟨hu228, trivial⟩⟩⟩⟩⟩⟩⟩ ⟨⟨o581, trivial⟩, ⟨⟨o596, trivial⟩, ⟨⟨o609, trivial⟩, trivial⟩⟩⟩ k624
theorem o625 : EntryOk cx 38 e625 := chain2 cx_ok cx_names cx_intr cx_mixed (utbl := v625) (tbl := t625) ⟨hu48, ⟨hu156, ⟨hu79, ⟨hu27, trivial⟩⟩⟩⟩ ⟨⟨o424, ⟨o561, trivial⟩⟩, ⟨⟨o439, trivial⟩, ⟨⟨o450, trivial⟩, ⟨⟨o624, trivial⟩, trivial⟩⟩⟩⟩ k625
theorem o626 : EntryOk cx 5 e626 := chain2 cx_ok cx_names cx_intr cx_mixed (utbl := v626) (tbl := t626) ⟨hu141, trivial⟩ ⟨⟨o64, ⟨o248, ⟨o265, trivial⟩⟩⟩, ⟨⟨o92, ⟨o126, ⟨o304, trivial⟩⟩⟩, ⟨⟨o176, ⟨o226, trivial⟩⟩, ⟨⟨o359, trivial⟩, ⟨⟨o625, trivial⟩, trivial⟩⟩⟩⟩⟩ k626
theorem known (w : World) : Calls Tryz.prog 5 #[] w fun e w' => e = .returned (.bool true) ∧ Below w.heap.size w w' := chain_top (C := cx) rfl o626 rfl w
end Go.Proofs.YtmhmiobdnadkmaaGreatDoor.Pk
