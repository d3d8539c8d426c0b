/- The run: its links joined. -/
import Derived.Test.YtppljlchjfgenaaGreatDoorSnK0
import Derived.Test.YtppljlchjfgenaaGreatDoorSnK1
import Derived.KernelRfl
namespace Go.Proofs.YtppljlchjfgenaaGreatDoor.Sn
open Go Go.RowKit Go.Proofs Go.Proofs.YtppljlchjfgenaaGreatDoor.X
theorem hz72 : TldsOk cz 72 u72 := (tlds_ok cz_ok cz_names cz_intr cz_mixed rfl (utbl := tu72) trivial ku72_0)
theorem hu72 : TldsOk cx 72 u72 := TldsOk.moreG (C := cx) (C0 := cz) rfl rfl hz72
theorem hz325 : TldsOk cz 325 u325 := (tlds_ok cz_ok cz_names cz_intr cz_mixed rfl (utbl := tu325) trivial ku325_0)
theorem hu325 : TldsOk cx 325 u325 := TldsOk.moreG (C := cx) (C0 := cz) rfl rfl hz325
theorem hz368 : TldsOk cz 368 u368 := (tlds_ok cz_ok cz_names cz_intr cz_mixed rfl (utbl := tu368) trivial ku368_0)
theorem hu368 : TldsOk cx 368 u368 := TldsOk.moreG (C := cx) (C0 := cz) rfl rfl hz368
theorem hz111 : TldsOk cz 111 u111 := (tlds_ok cz_ok cz_names cz_intr cz_mixed rfl (utbl := tu111) trivial ku111_0)
theorem hu111 : TldsOk cx 111 u111 := TldsOk.moreG (C := cx) (C0 := cz) rfl rfl hz111
theorem hz184 : TldsOk cz 184 u184 := (tlds_ok cz_ok cz_names cz_intr cz_mixed rfl (utbl := tu184) trivial ku184_0)
theorem hu184 : TldsOk cx 184 u184 := TldsOk.moreG (C := cx) (C0 := cz) rfl rfl hz184
theorem hz38 : TldsOk cz 38 u38 := (tlds_ok cz_ok cz_names cz_intr cz_mixed rfl (utbl := tu38) ⟨hz72, trivial⟩ ku38_0)
theorem hu38 : TldsOk cx 38 u38 := TldsOk.moreG (C := cx) (C0 := cz) rfl rfl hz38
theorem hz383 : TldsOk cz 383 u383 := (tlds_ok cz_ok cz_names cz_intr cz_mixed rfl (utbl := tu383) ⟨hz368, trivial⟩ ku383_0)
theorem hu383 : TldsOk cx 383 u383 := TldsOk.moreG (C := cx) (C0 := cz) rfl rfl hz383
theorem hz109 : TldsOk cz 109 u109 := (tlds_ok cz_ok cz_names cz_intr cz_mixed rfl (utbl := tu109) ⟨hz111, trivial⟩ ku109_0)
theorem hu109 : TldsOk cx 109 u109 := TldsOk.moreG (C := cx) (C0 := cz) rfl rfl hz109
theorem hz103 : TldsOk cz 103 u103 := (tlds_ok cz_ok cz_names cz_intr cz_mixed rfl (utbl := tu103) ⟨hz184, trivial⟩ ku103_0)
theorem hu103 : TldsOk cx 103 u103 := TldsOk.moreG (C := cx) (C0 := cz) rfl rfl hz103
theorem hz194 : TldsOk cz 194 u194 := (TldsOk.app (tlds_ok cz_ok cz_names cz_intr cz_mixed rfl (utbl := tu194) trivial ku194_0) (tlds_ok cz_ok cz_names cz_intr cz_mixed rfl (utbl := tu194) trivial ku194_1))
theorem hu194 : TldsOk cx 194 u194 := TldsOk.moreG (C := cx) (C0 := cz) rfl rfl hz194
theorem hz110 : TldsOk cz 110 u110 := (tlds_ok cz_ok cz_names cz_intr cz_mixed rfl (utbl := tu110) trivial ku110_0)
theorem hu110 : TldsOk cx 110 u110 := TldsOk.moreG (C := cx) (C0 := cz) rfl rfl hz110
theorem hz261 : TldsOk cz 261 u261 := (tlds_ok cz_ok cz_names cz_intr cz_mixed rfl (utbl := tu261) ⟨hz325, trivial⟩ ku261_0)
theorem hu261 : TldsOk cx 261 u261 := TldsOk.moreG (C := cx) (C0 := cz) rfl rfl hz261
theorem hz82 : TldsOk cz 82 u82 := (tlds_ok cz_ok cz_names cz_intr cz_mixed rfl (utbl := tu82) trivial ku82_0)
theorem hu82 : TldsOk cx 82 u82 := TldsOk.moreG (C := cx) (C0 := cz) rfl rfl hz82
theorem hz193 : TldsOk cz 193 u193 := (tlds_ok cz_ok cz_names cz_intr cz_mixed rfl (utbl := tu193) trivial ku193_0)
theorem hu193 : TldsOk cx 193 u193 := TldsOk.moreG (C := cx) (C0 := cz) rfl rfl hz193
theorem hz102 : TldsOk cz 102 u102 := (tlds_ok cz_ok cz_names cz_intr cz_mixed rfl (utbl := tu102) ⟨hz72, trivial⟩ ku102_0)
theorem hu102 : TldsOk cx 102 u102 := TldsOk.moreG (C := cx) (C0 := cz) rfl rfl hz102
theorem hz119 : TldsOk cz 119 u119 := (tlds_ok cz_ok cz_names cz_intr cz_mixed rfl (utbl := tu119) ⟨hz194, trivial⟩ ku119_0)
theorem hu119 : TldsOk cx 119 u119 := TldsOk.moreG (C := cx) (C0 := cz) rfl rfl hz119
theorem hz118 : TldsOk cz 118 u118 := (tlds_ok cz_ok cz_names cz_intr cz_mixed rfl (utbl := tu118) ⟨hz193, trivial⟩ ku118_0)
theorem hu118 : TldsOk cx 118 u118 := TldsOk.moreG (C := cx) (C0 := cz) rfl rfl hz118
theorem hz367 : TldsOk cz 367 u367 := (tlds_ok cz_ok cz_names cz_intr cz_mixed rfl (utbl := tu367) ⟨hz383, trivial⟩ ku367_0)
theorem hu367 : TldsOk cx 367 u367 := TldsOk.moreG (C := cx) (C0 := cz) rfl rfl hz367
theorem hz51 : TldsOk cz 51 u51 := (tlds_ok cz_ok cz_names cz_intr cz_mixed rfl (utbl := tu51) ⟨hz103, trivial⟩ ku51_0)
theorem hu51 : TldsOk cx 51 u51 := TldsOk.moreG (C := cx) (C0 := cz) rfl rfl hz51
theorem hz11 : TldsOk cz 11 u11 := (tlds_ok cz_ok cz_names cz_intr cz_mixed rfl (utbl := tu11) ⟨hz38, trivial⟩ ku11_0)
theorem hu11 : TldsOk cx 11 u11 := TldsOk.moreG (C := cx) (C0 := cz) rfl rfl hz11
theorem hz53 : TldsOk cz 53 u53 := (tlds_ok cz_ok cz_names cz_intr cz_mixed rfl (utbl := tu53) ⟨hz109, ⟨hz110, ⟨hz111, trivial⟩⟩⟩ ku53_0)
theorem hu53 : TldsOk cx 53 u53 := TldsOk.moreG (C := cx) (C0 := cz) rfl rfl hz53
theorem hz33 : TldsOk cz 33 u33 := (tlds_ok cz_ok cz_names cz_intr cz_mixed rfl (utbl := tu33) ⟨hz72, trivial⟩ ku33_0)
theorem hu33 : TldsOk cx 33 u33 := TldsOk.moreG (C := cx) (C0 := cz) rfl rfl hz33
theorem hz196 : TldsOk cz 196 u196 := (tlds_ok cz_ok cz_names cz_intr cz_mixed rfl (utbl := tu196) ⟨hz261, trivial⟩ ku196_0)
theorem hu196 : TldsOk cx 196 u196 := TldsOk.moreG (C := cx) (C0 := cz) rfl rfl hz196
theorem hxz116 : KinsOk cz 116 x116 := (KinsOk.app (kins4_ok cz_ok cz_names cz_intr cz_mixed rfl (tabs := xb116) trivial kx116_0) (KinsOk.app (kins4_ok cz_ok cz_names cz_intr cz_mixed rfl (tabs := xb116) trivial kx116_1) (KinsOk.app (kins4_ok cz_ok cz_names cz_intr cz_mixed rfl (tabs := xb116) trivial kx116_2) (KinsOk.app (kins4_ok cz_ok cz_names cz_intr cz_mixed rfl (tabs := xb116) trivial kx116_3) (KinsOk.app (kins4_ok cz_ok cz_names cz_intr cz_mixed rfl (tabs := xb116) trivial kx116_4) (KinsOk.app (kins4_ok cz_ok cz_names cz_intr cz_mixed rfl (tabs := xb116) trivial kx116_5) (KinsOk.app (kins4_ok cz_ok cz_names cz_intr cz_mixed rfl (tabs := xb116) trivial kx116_6) (kins4_ok cz_ok cz_names cz_intr cz_mixed rfl (tabs := xb116) trivial kx116_7))))))))
theorem hx116 : KinsOk cx 116 x116 := KinsOk.moreG (C := cx) (C0 := cz) rfl rfl hxz116
theorem hxz54 : KinsOk cz 54 x54 := (kins4_ok cz_ok cz_names cz_intr cz_mixed rfl (tabs := xb54) ⟨hxz116, trivial⟩ kx54_0)
theorem hx54 : KinsOk cx 54 x54 := KinsOk.moreG (C := cx) (C0 := cz) rfl rfl hxz54
theorem hxz314 : KinsOk cz 314 x314 := (kins4_ok cz_ok cz_names cz_intr cz_mixed rfl (tabs := xb314) ⟨hxz54, trivial⟩ kx314_0)
theorem hx314 : KinsOk cx 314 x314 := KinsOk.moreG (C := cx) (C0 := cz) rfl rfl hxz314
theorem hxz281 : KinsOk cz 281 x281 := (kins4_ok cz_ok cz_names cz_intr cz_mixed rfl (tabs := xb281) ⟨hz53, trivial⟩ kx281_0)
theorem hx281 : KinsOk cx 281 x281 := KinsOk.moreG (C := cx) (C0 := cz) rfl rfl hxz281
theorem hxz377 : KinsOk cz 377 x377 := (kins4_ok cz_ok cz_names cz_intr cz_mixed rfl (tabs := xb377) ⟨hxz54, trivial⟩ kx377_0)
theorem hx377 : KinsOk cx 377 x377 := KinsOk.moreG (C := cx) (C0 := cz) rfl rfl hxz377
theorem o2 : EntryOk cx 96 e2 := chain4 cx_ok cx_names cx_intr cx_mixed (tabs := v2) (tbl := t2) trivial trivial k2
theorem o8 : EntryOk cx 96 e8 := chain4 cx_ok cx_names cx_intr cx_mixed (tabs := v8) (tbl := t8) trivial trivial k8
theorem o32 : EntryOk cx 19 e32 := chain4 cx_ok cx_names cx_intr cx_mixed (tabs := v32) (tbl := t32) ⟨hu193, trivial⟩ ⟨⟨o2, ⟨o8, trivial⟩⟩, trivial⟩ k32
theorem o69 : EntryOk cx 20 e69 := chain4 cx_ok cx_names cx_intr cx_mixed (tabs := v69) (tbl := t69) ⟨hu196, ⟨hu51, ⟨hu367, ⟨hu118, ⟨hu119, ⟨hx281, ⟨hu193, ⟨hu53, ⟨hu368, ⟨hu72, ⟨hx54, ⟨hx116, trivial⟩⟩⟩⟩⟩⟩⟩⟩⟩⟩⟩⟩ trivial k69
theorem o149 : EntryOk cx 60 e149 := chain4 cx_ok cx_names cx_intr cx_mixed (tabs := v149) (tbl := t149) ⟨hu196, ⟨hu367, ⟨hu118, ⟨hu119, ⟨hx281, ⟨hx314, ⟨hu193, ⟨hu53, ⟨hu368, ⟨hx54, ⟨hx116, trivial⟩⟩⟩⟩⟩⟩⟩⟩⟩⟩⟩ trivial k149
theorem o233 : EntryOk cx 60 e233 := chain4 cx_ok cx_names cx_intr cx_mixed (tabs := v233) (tbl := t233) ⟨hu196, ⟨hu367, ⟨hu118, ⟨hu119, ⟨hx281, ⟨hx314, ⟨hu193, ⟨hu53, ⟨hu368, ⟨hx54, ⟨hx116, trivial⟩⟩⟩⟩⟩⟩⟩⟩⟩⟩⟩ trivial k233
theorem o236 : EntryOk cx 39 e236 := chain4 cx_ok cx_names cx_intr cx_mixed (tabs := v236) (tbl := t236) ⟨hu196, ⟨hu51, ⟨hu367, ⟨hu118, ⟨hu119, ⟨hu102, ⟨hx377, ⟨hx281, ⟨hx314, ⟨hu193, ⟨hu82, ⟨hu53, ⟨hu368, ⟨hu72, ⟨hx54, trivial⟩⟩⟩⟩⟩⟩⟩⟩⟩⟩⟩⟩⟩⟩⟩ ⟨⟨o233, trivial⟩, trivial⟩ k236
theorem o237 : EntryOk cx 14 e237 := chain4 cx_ok cx_names cx_intr cx_mixed (tabs := v237) (tbl := t237) ⟨hu196, ⟨hu51, ⟨hu367, ⟨hu118, ⟨hu119, ⟨hu102, ⟨hx377, ⟨hx281, ⟨hx314, ⟨hu193, ⟨hu53, ⟨hu368, ⟨hu72, ⟨hx54, trivial⟩⟩⟩⟩⟩⟩⟩⟩⟩⟩⟩⟩⟩⟩ ⟨⟨o32, trivial⟩, ⟨⟨o69, trivial⟩, ⟨⟨o149, trivial⟩, ⟨⟨o236, trivial⟩, trivial⟩⟩⟩⟩ k237
theorem o299 : EntryOk cx 27 e299 := chain4 cx_ok cx_names cx_intr cx_mixed (tabs := v299) (tbl := t299) ⟨hu196, ⟨hu51, ⟨hu367, ⟨hu118, ⟨hu119, ⟨hx281, ⟨hu193, ⟨hu53, ⟨hx54, ⟨hx116, trivial⟩⟩⟩⟩⟩⟩⟩⟩⟩⟩ trivial k299
theorem o301 : EntryOk cx 7 e301 := chain4 cx_ok cx_names cx_intr cx_mixed (tabs := v301) (tbl := t301) ⟨hu196, ⟨hu11, ⟨hu51, ⟨hu367, ⟨hu118, ⟨hu119, ⟨hx377, ⟨hx281, ⟨hx314, ⟨hu193, ⟨hu82, ⟨hu53, ⟨hu368, ⟨hu72, ⟨hu109, ⟨hx54, ⟨hu111, trivial⟩⟩⟩⟩⟩⟩⟩⟩⟩⟩⟩⟩⟩⟩⟩⟩⟩ ⟨⟨o299, trivial⟩, trivial⟩ k301
theorem o367 : EntryOk cx 31 e367 := chain4 cx_ok cx_names cx_intr cx_mixed (tabs := v367) (tbl := t367) ⟨hu196, ⟨hu367, ⟨hu118, ⟨hu119, ⟨hx377, ⟨hx281, ⟨hx314, ⟨hu193, ⟨hu82, ⟨hu53, ⟨hu368, ⟨hu72, ⟨hx54, trivial⟩⟩⟩⟩⟩⟩⟩⟩⟩⟩⟩⟩⟩ trivial k367
theorem o440 : EntryOk cx 31 e440 := chain4 cx_ok cx_names cx_intr cx_mixed (tabs := v440) (tbl := t440) ⟨hu196, ⟨hu367, ⟨hu118, ⟨hu119, ⟨hx377, ⟨hx281, ⟨hx314, ⟨hu193, ⟨hu82, ⟨hu53, ⟨hu368, ⟨hu72, ⟨hx54, trivial⟩⟩⟩⟩⟩⟩⟩⟩⟩⟩⟩⟩⟩ trivial k440
theorem o486 : EntryOk cx 10 e486 := chain4 cx_ok cx_names cx_intr cx_mixed (tabs := v486) (tbl := t486) ⟨hu33, ⟨hu118, ⟨hu119, ⟨hx281, ⟨hx314, ⟨hu193, ⟨hu53, trivial⟩⟩⟩⟩⟩⟩⟩ ⟨⟨o440, trivial⟩, trivial⟩ k486
theorem o489 : EntryOk cx 16 e489 := chain4 cx_ok cx_names cx_intr cx_mixed (tabs := v489) (tbl := t489) ⟨hu196, ⟨hu367, ⟨hu118, ⟨hu119, ⟨hx377, ⟨hx281, ⟨hx314, ⟨hu193, ⟨hu82, ⟨hu53, ⟨hu368, ⟨hu72, ⟨hx54, trivial⟩⟩⟩⟩⟩⟩⟩⟩⟩⟩⟩⟩⟩ ⟨⟨o486, trivial⟩, trivial⟩ k489
theorem o490 : EntryOk cx 15 e490 := chain4 cx_ok cx_names cx_intr cx_mixed (tabs := v490) (tbl := t490) ⟨hu118, ⟨hx281, ⟨hx314, ⟨hu193, ⟨hu53, trivial⟩⟩⟩⟩⟩ ⟨⟨o367, trivial⟩, ⟨⟨o489, trivial⟩, trivial⟩⟩ k490
theorem o556 : EntryOk cx 31 e556 := chain4 cx_ok cx_names cx_intr cx_mixed (tabs := v556) (tbl := t556) ⟨hu196, ⟨hu367, ⟨hu118, ⟨hu119, ⟨hx377, ⟨hx281, ⟨hx314, ⟨hu193, ⟨hu82, ⟨hu53, ⟨hu368, ⟨hu72, ⟨hx54, trivial⟩⟩⟩⟩⟩⟩⟩⟩⟩⟩⟩⟩⟩ trivial k556
theorem o593 : EntryOk cx 31 e593 := chain4 cx_ok cx_names cx_intr cx_mixed (tabs := v593) (tbl := t593) ⟨hu196, ⟨hu367, ⟨hu118, ⟨hu119, ⟨hx377, ⟨hx281, ⟨hx314, ⟨hu193, ⟨hu82, ⟨hu53, ⟨hu368, ⟨hu72, ⟨hx54, trivial⟩⟩⟩⟩⟩⟩⟩⟩⟩⟩⟩⟩⟩ trivial k593
theorem o629 : EntryOk cx 31 e629 := chain4 cx_ok cx_names cx_intr cx_mixed (tabs := v629) (tbl := t629) ⟨hu196, ⟨hu367, ⟨hu118, ⟨hu119, ⟨hx377, ⟨hx281, ⟨hx314, ⟨hu193, ⟨hu82, ⟨hu53, ⟨hu368, ⟨hu72, ⟨hx54, trivial⟩⟩⟩⟩⟩⟩⟩⟩⟩⟩⟩⟩⟩ trivial k629
theorem o675 : EntryOk cx 10 e675 := chain4 cx_ok cx_names cx_intr cx_mixed (tabs := v675) (tbl := t675) ⟨hu33, ⟨hu118, ⟨hu119, ⟨hx281, ⟨hx314, ⟨hu193, ⟨hu53, trivial⟩⟩⟩⟩⟩⟩⟩ ⟨⟨o629, trivial⟩, trivial⟩ k675
theorem o715 : EntryOk cx 24 e715 := chain4 cx_ok cx_names cx_intr cx_mixed (tabs := v715) (tbl := t715) ⟨hu196, ⟨hu11, ⟨hu367, ⟨hu118, ⟨hu119, ⟨hx377, ⟨hx281, ⟨hx314, ⟨hu193, ⟨hu82, ⟨hu53, ⟨hu368, ⟨hu72, ⟨hx54, trivial⟩⟩⟩⟩⟩⟩⟩⟩⟩⟩⟩⟩⟩⟩ trivial k715
theorem o752 : EntryOk cx 214 e752 := chain4 cx_ok cx_names cx_intr cx_mixed (tabs := v752) (tbl := t752) ⟨hx281, ⟨hu53, ⟨hx116, trivial⟩⟩⟩ trivial k752
theorem o762 : EntryOk cx 9 e762 := chain4 cx_ok cx_names cx_intr cx_mixed (tabs := v762) (tbl := t762) ⟨hu118, ⟨hu119, ⟨hx281, ⟨hx314, ⟨hu193, ⟨hu53, trivial⟩⟩⟩⟩⟩⟩ ⟨⟨o715, trivial⟩, ⟨⟨o752, trivial⟩, trivial⟩⟩ k762
theorem o765 : EntryOk cx 16 e765 := chain4 cx_ok cx_names cx_intr cx_mixed (tabs := v765) (tbl := t765) trivial ⟨⟨o593, trivial⟩, ⟨⟨o675, trivial⟩, ⟨⟨o762, trivial⟩, trivial⟩⟩⟩ k765
theorem o766 : EntryOk cx 15 e766 := chain4 cx_ok cx_names cx_intr cx_mixed (tabs := v766) (tbl := t766) ⟨hu118, ⟨hx281, ⟨hx314, ⟨hu193, ⟨hu53, trivial⟩⟩⟩⟩⟩ ⟨⟨o556, trivial⟩, ⟨⟨o765, trivial⟩, trivial⟩⟩ k766
theorem o821 : EntryOk cx 44 e821 := chain4 cx_ok cx_names cx_intr cx_mixed (tabs := v821) (tbl := t821) ⟨hu196, ⟨hu11, ⟨hu367, ⟨hu118, ⟨hu119, ⟨hx377, ⟨hx281, ⟨hx314, ⟨hu193, ⟨hu82, ⟨hu53, ⟨hu368, ⟨hu72, ⟨hx54, trivial⟩⟩⟩⟩⟩⟩⟩⟩⟩⟩⟩⟩⟩⟩ trivial k821
theorem o823 (p0 p1 : ByteArray) : EntryOk cx 5 (e823 p0 p1) := chain4 cx_ok cx_names cx_intr cx_mixed (tabs := v823) (tbl := t823) trivial ⟨⟨o237, trivial⟩, ⟨⟨o301, trivial⟩, ⟨⟨o490, ⟨o766, trivial⟩⟩, ⟨⟨o821, trivial⟩, trivial⟩⟩⟩⟩ (k823 p0 p1)
noncomputable def tabs : List (Nat × AO) := [((nat_lit 4), d40)]
theorem known (p0 p1 : ByteArray) (w : World) (hw : KnownW w tabs) : Calls Tryz.prog 5 #[.string p0, .string p1] w fun e w' => e = .returned (.bool true) ∧ Below w.heap.size w w' := chain_known (C := cx) rfl (l := tabs) (by kernel_rfl) (args := [.string p0, .string p1]) rfl (o823 p0 p1) rfl w hw
end Go.Proofs.YtppljlchjfgenaaGreatDoor.Sn
