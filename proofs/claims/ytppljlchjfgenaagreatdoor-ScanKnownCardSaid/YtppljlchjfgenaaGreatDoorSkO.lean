/- The run: its links joined. -/
import Derived.Test.YtppljlchjfgenaaGreatDoorSkK0
import Derived.Test.YtppljlchjfgenaaGreatDoorSkK1
import Derived.Test.YtppljlchjfgenaaGreatDoorSkK2
import Derived.Test.YtppljlchjfgenaaGreatDoorSkK3
import Derived.KernelRfl
namespace Go.Proofs.YtppljlchjfgenaaGreatDoor.Sk
open Go Go.RowKit Go.Proofs Go.Proofs.YtppljlchjfgenaaGreatDoor.X
theorem hz140 : TldsOk cz 140 u140 := (tlds_ok cz_ok cz_names cz_intr cz_mixed rfl (utbl := tu140) trivial ku140_0)
theorem hu140 : TldsOk cx 140 u140 := TldsOk.moreG (C := cx) (C0 := cz) rfl rfl hz140
theorem hz72 : TldsOk cz 72 u72 := (tlds_ok cz_ok cz_names cz_intr cz_mixed rfl (utbl := tu72) trivial ku72_0)
theorem hu72 : TldsOk cx 72 u72 := TldsOk.moreG (C := cx) (C0 := cz) rfl rfl hz72
theorem hz325 : TldsOk cz 325 u325 := (tlds_ok cz_ok cz_names cz_intr cz_mixed rfl (utbl := tu325) trivial ku325_0)
theorem hu325 : TldsOk cx 325 u325 := TldsOk.moreG (C := cx) (C0 := cz) rfl rfl hz325
theorem hz368 : TldsOk cz 368 u368 := (tlds_ok cz_ok cz_names cz_intr cz_mixed rfl (utbl := tu368) trivial ku368_0)
theorem hu368 : TldsOk cx 368 u368 := TldsOk.moreG (C := cx) (C0 := cz) rfl rfl hz368
theorem hz111 : TldsOk cz 111 u111 := (tlds_ok cz_ok cz_names cz_intr cz_mixed rfl (utbl := tu111) trivial ku111_0)
theorem hu111 : TldsOk cx 111 u111 := TldsOk.moreG (C := cx) (C0 := cz) rfl rfl hz111
theorem hz184 : TldsOk cz 184 u184 := (tlds_ok cz_ok cz_names cz_intr cz_mixed rfl (utbl := tu184) trivial ku184_0)
theorem hu184 : TldsOk cx 184 u184 := TldsOk.moreG (C := cx) (C0 := cz) rfl rfl hz184
theorem hz38 : TldsOk cz 38 u38 := (tlds_ok cz_ok cz_names cz_intr cz_mixed rfl (utbl := tu38) ⟨hz72, trivial⟩ ku38_0)
theorem hu38 : TldsOk cx 38 u38 := TldsOk.moreG (C := cx) (C0 := cz) rfl rfl hz38
theorem hz383 : TldsOk cz 383 u383 := (tlds_ok cz_ok cz_names cz_intr cz_mixed rfl (utbl := tu383) ⟨hz368, trivial⟩ ku383_0)
theorem hu383 : TldsOk cx 383 u383 := TldsOk.moreG (C := cx) (C0 := cz) rfl rfl hz383
theorem hz109 : TldsOk cz 109 u109 := (tlds_ok cz_ok cz_names cz_intr cz_mixed rfl (utbl := tu109) ⟨hz111, trivial⟩ ku109_0)
theorem hu109 : TldsOk cx 109 u109 := TldsOk.moreG (C := cx) (C0 := cz) rfl rfl hz109
theorem hz103 : TldsOk cz 103 u103 := (tlds_ok cz_ok cz_names cz_intr cz_mixed rfl (utbl := tu103) ⟨hz184, trivial⟩ ku103_0)
theorem hu103 : TldsOk cx 103 u103 := TldsOk.moreG (C := cx) (C0 := cz) rfl rfl hz103
theorem hz71 : TldsOk cz 71 u71 := (tlds_ok cz_ok cz_names cz_intr cz_mixed rfl (utbl := tu71) ⟨hz140, trivial⟩ ku71_0)
theorem hu71 : TldsOk cx 71 u71 := TldsOk.moreG (C := cx) (C0 := cz) rfl rfl hz71
theorem hz194 : TldsOk cz 194 u194 := (TldsOk.app (tlds_ok cz_ok cz_names cz_intr cz_mixed rfl (utbl := tu194) trivial ku194_0) (tlds_ok cz_ok cz_names cz_intr cz_mixed rfl (utbl := tu194) trivial ku194_1))
theorem hu194 : TldsOk cx 194 u194 := TldsOk.moreG (C := cx) (C0 := cz) rfl rfl hz194
theorem hz110 : TldsOk cz 110 u110 := (tlds_ok cz_ok cz_names cz_intr cz_mixed rfl (utbl := tu110) trivial ku110_0)
theorem hu110 : TldsOk cx 110 u110 := TldsOk.moreG (C := cx) (C0 := cz) rfl rfl hz110
theorem hz261 : TldsOk cz 261 u261 := (tlds_ok cz_ok cz_names cz_intr cz_mixed rfl (utbl := tu261) ⟨hz325, trivial⟩ ku261_0)
theorem hu261 : TldsOk cx 261 u261 := TldsOk.moreG (C := cx) (C0 := cz) rfl rfl hz261
theorem hz82 : TldsOk cz 82 u82 := (tlds_ok cz_ok cz_names cz_intr cz_mixed rfl (utbl := tu82) trivial ku82_0)
theorem hu82 : TldsOk cx 82 u82 := TldsOk.moreG (C := cx) (C0 := cz) rfl rfl hz82
theorem hz193 : TldsOk cz 193 u193 := (tlds_ok cz_ok cz_names cz_intr cz_mixed rfl (utbl := tu193) trivial ku193_0)
theorem hu193 : TldsOk cx 193 u193 := TldsOk.moreG (C := cx) (C0 := cz) rfl rfl hz193
theorem hz102 : TldsOk cz 102 u102 := (tlds_ok cz_ok cz_names cz_intr cz_mixed rfl (utbl := tu102) ⟨hz72, trivial⟩ ku102_0)
theorem hu102 : TldsOk cx 102 u102 := TldsOk.moreG (C := cx) (C0 := cz) rfl rfl hz102
theorem hz119 : TldsOk cz 119 u119 := (tlds_ok cz_ok cz_names cz_intr cz_mixed rfl (utbl := tu119) ⟨hz194, trivial⟩ ku119_0)
theorem hu119 : TldsOk cx 119 u119 := TldsOk.moreG (C := cx) (C0 := cz) rfl rfl hz119
theorem hz88 : TldsOk cz 88 u88 := (tlds_ok cz_ok cz_names cz_intr cz_mixed rfl (utbl := tu88) trivial ku88_0)
theorem hu88 : TldsOk cx 88 u88 := TldsOk.moreG (C := cx) (C0 := cz) rfl rfl hz88
theorem hz221 : TldsOk cz 221 u221 := (tlds_ok cz_ok cz_names cz_intr cz_mixed rfl (utbl := tu221) trivial ku221_0)
theorem hu221 : TldsOk cx 221 u221 := TldsOk.moreG (C := cx) (C0 := cz) rfl rfl hz221
theorem hz118 : TldsOk cz 118 u118 := (tlds_ok cz_ok cz_names cz_intr cz_mixed rfl (utbl := tu118) ⟨hz193, trivial⟩ ku118_0)
theorem hu118 : TldsOk cx 118 u118 := TldsOk.moreG (C := cx) (C0 := cz) rfl rfl hz118
theorem hz294 : TldsOk cz 294 u294 := (tlds_ok cz_ok cz_names cz_intr cz_mixed rfl (utbl := tu294) trivial ku294_0)
theorem hu294 : TldsOk cx 294 u294 := TldsOk.moreG (C := cx) (C0 := cz) rfl rfl hz294
theorem hz367 : TldsOk cz 367 u367 := (tlds_ok cz_ok cz_names cz_intr cz_mixed rfl (utbl := tu367) ⟨hz383, trivial⟩ ku367_0)
theorem hu367 : TldsOk cx 367 u367 := TldsOk.moreG (C := cx) (C0 := cz) rfl rfl hz367
theorem hz51 : TldsOk cz 51 u51 := (tlds_ok cz_ok cz_names cz_intr cz_mixed rfl (utbl := tu51) ⟨hz103, trivial⟩ ku51_0)
theorem hu51 : TldsOk cx 51 u51 := TldsOk.moreG (C := cx) (C0 := cz) rfl rfl hz51
theorem hz11 : TldsOk cz 11 u11 := (tlds_ok cz_ok cz_names cz_intr cz_mixed rfl (utbl := tu11) ⟨hz38, trivial⟩ ku11_0)
theorem hu11 : TldsOk cx 11 u11 := TldsOk.moreG (C := cx) (C0 := cz) rfl rfl hz11
theorem hz53 : TldsOk cz 53 u53 := (tlds_ok cz_ok cz_names cz_intr cz_mixed rfl (utbl := tu53) ⟨hz109, ⟨hz110, ⟨hz111, trivial⟩⟩⟩ ku53_0)
theorem hu53 : TldsOk cx 53 u53 := TldsOk.moreG (C := cx) (C0 := cz) rfl rfl hz53
theorem hz160 : TldsOk cz 160 u160 := (tlds_ok cz_ok cz_names cz_intr cz_mixed rfl (utbl := tu160) trivial ku160_0)
theorem hu160 : TldsOk cx 160 u160 := TldsOk.moreG (C := cx) (C0 := cz) rfl rfl hz160
theorem hz33 : TldsOk cz 33 u33 := (tlds_ok cz_ok cz_names cz_intr cz_mixed rfl (utbl := tu33) ⟨hz71, ⟨hz72, trivial⟩⟩ ku33_0)
theorem hu33 : TldsOk cx 33 u33 := TldsOk.moreG (C := cx) (C0 := cz) rfl rfl hz33
theorem hz196 : TldsOk cz 196 u196 := (tlds_ok cz_ok cz_names cz_intr cz_mixed rfl (utbl := tu196) ⟨hz261, trivial⟩ ku196_0)
theorem hu196 : TldsOk cx 196 u196 := TldsOk.moreG (C := cx) (C0 := cz) rfl rfl hz196
theorem hxz116 : KinsOk cz 116 x116 := (KinsOk.app (kins4_ok cz_ok cz_names cz_intr cz_mixed rfl (tabs := xb116) trivial kx116_0) (KinsOk.app (kins4_ok cz_ok cz_names cz_intr cz_mixed rfl (tabs := xb116) trivial kx116_1) (KinsOk.app (kins4_ok cz_ok cz_names cz_intr cz_mixed rfl (tabs := xb116) trivial kx116_2) (KinsOk.app (kins4_ok cz_ok cz_names cz_intr cz_mixed rfl (tabs := xb116) trivial kx116_3) (KinsOk.app (kins4_ok cz_ok cz_names cz_intr cz_mixed rfl (tabs := xb116) trivial kx116_4) (KinsOk.app (kins4_ok cz_ok cz_names cz_intr cz_mixed rfl (tabs := xb116) trivial kx116_5) (KinsOk.app (kins4_ok cz_ok cz_names cz_intr cz_mixed rfl (tabs := xb116) trivial kx116_6) (KinsOk.app (kins4_ok cz_ok cz_names cz_intr cz_mixed rfl (tabs := xb116) trivial kx116_7) (KinsOk.app (kins4_ok cz_ok cz_names cz_intr cz_mixed rfl (tabs := xb116) trivial kx116_8) (KinsOk.app (kins4_ok cz_ok cz_names cz_intr cz_mixed rfl (tabs := xb116) trivial kx116_9) (KinsOk.app (kins4_ok cz_ok cz_names cz_intr cz_mixed rfl (tabs := xb116) trivial kx116_10) (KinsOk.app (kins4_ok cz_ok cz_names cz_intr cz_mixed rfl (tabs := xb116) trivial kx116_11) (kins4_ok cz_ok cz_names cz_intr cz_mixed rfl (tabs := xb116) trivial kx116_12)))))))))))))
theorem hx116 : KinsOk cx 116 x116 := KinsOk.moreG (C := cx) (C0 := cz) rfl rfl hxz116
theorem hxz54 : KinsOk cz 54 x54 := (KinsOk.app (kins4_ok cz_ok cz_names cz_intr cz_mixed rfl (tabs := xb54) ⟨hxz116, trivial⟩ kx54_0) (kins4_ok cz_ok cz_names cz_intr cz_mixed rfl (tabs := xb54) ⟨hxz116, trivial⟩ kx54_1))
theorem hx54 : KinsOk cx 54 x54 := KinsOk.moreG (C := cx) (C0 := cz) rfl rfl hxz54
theorem hxz314 : KinsOk cz 314 x314 := (kins4_ok cz_ok cz_names cz_intr cz_mixed rfl (tabs := xb314) ⟨hxz54, trivial⟩ kx314_0)
theorem hx314 : KinsOk cx 314 x314 := KinsOk.moreG (C := cx) (C0 := cz) rfl rfl hxz314
theorem hxz23 : KinsOk cz 23 x23 := (kins4_ok cz_ok cz_names cz_intr cz_mixed rfl (tabs := xb23) ⟨hxz54, trivial⟩ kx23_0)
theorem hx23 : KinsOk cx 23 x23 := KinsOk.moreG (C := cx) (C0 := cz) rfl rfl hxz23
theorem hxz281 : KinsOk cz 281 x281 := (kins4_ok cz_ok cz_names cz_intr cz_mixed rfl (tabs := xb281) ⟨hz53, trivial⟩ kx281_0)
theorem hx281 : KinsOk cx 281 x281 := KinsOk.moreG (C := cx) (C0 := cz) rfl rfl hxz281
theorem hxz377 : KinsOk cz 377 x377 := (kins4_ok cz_ok cz_names cz_intr cz_mixed rfl (tabs := xb377) ⟨hxz54, trivial⟩ kx377_0)
theorem hx377 : KinsOk cx 377 x377 := KinsOk.moreG (C := cx) (C0 := cz) rfl rfl hxz377
theorem o137 : EntryOk cx 48 e137 := chain4 cx_ok cx_names cx_intr cx_mixed (tabs := v137) (tbl := t137) ⟨hu196, ⟨hu51, ⟨hu367, ⟨hu118, ⟨hu119, ⟨hu102, ⟨hx281, ⟨hx23, ⟨hx314, ⟨hu193, ⟨hu53, ⟨hu368, ⟨hx54, trivial⟩⟩⟩⟩⟩⟩⟩⟩⟩⟩⟩⟩⟩ trivial k137
theorem o139 : EntryOk cx 21 e139 := chain4 cx_ok cx_names cx_intr cx_mixed (tabs := v139) (tbl := t139) ⟨hu196, ⟨hu367, ⟨hu118, ⟨hu119, ⟨hu102, ⟨hx377, ⟨hx281, ⟨hx314, ⟨hu193, ⟨hu53, ⟨hu368, ⟨hu72, ⟨hx54, trivial⟩⟩⟩⟩⟩⟩⟩⟩⟩⟩⟩⟩⟩ ⟨⟨o137, trivial⟩, trivial⟩ k139
theorem o219 : EntryOk cx 48 e219 := chain4 cx_ok cx_names cx_intr cx_mixed (tabs := v219) (tbl := t219) ⟨hu196, ⟨hu51, ⟨hu367, ⟨hu118, ⟨hu119, ⟨hx281, ⟨hx23, ⟨hx314, ⟨hu193, ⟨hu82, ⟨hu53, ⟨hu368, ⟨hu72, ⟨hx54, trivial⟩⟩⟩⟩⟩⟩⟩⟩⟩⟩⟩⟩⟩⟩ trivial k219
theorem o221 : EntryOk cx 39 e221 := chain4 cx_ok cx_names cx_intr cx_mixed (tabs := v221) (tbl := t221) ⟨hu196, ⟨hu367, ⟨hu118, ⟨hu119, ⟨hu102, ⟨hx377, ⟨hx281, ⟨hx314, ⟨hu193, ⟨hu82, ⟨hu53, ⟨hu368, ⟨hu72, ⟨hx54, trivial⟩⟩⟩⟩⟩⟩⟩⟩⟩⟩⟩⟩⟩⟩ ⟨⟨o219, trivial⟩, trivial⟩ k221
theorem o222 : EntryOk cx 14 e222 := chain4 cx_ok cx_names cx_intr cx_mixed (tabs := v222) (tbl := t222) ⟨hu196, ⟨hu160, ⟨hu51, ⟨hu367, ⟨hu118, ⟨hu221, ⟨hu119, ⟨hu102, ⟨hx281, ⟨hx23, ⟨hu193, ⟨hu53, ⟨hu368, ⟨hu72, ⟨hx54, trivial⟩⟩⟩⟩⟩⟩⟩⟩⟩⟩⟩⟩⟩⟩⟩ ⟨⟨o139, trivial⟩, ⟨⟨o221, trivial⟩, trivial⟩⟩ k222
theorem o284 : EntryOk cx 7 e284 := chain4 cx_ok cx_names cx_intr cx_mixed (tabs := v284) (tbl := t284) ⟨hu196, ⟨hu11, ⟨hu51, ⟨hu367, ⟨hu118, ⟨hu119, ⟨hx377, ⟨hx281, ⟨hx23, ⟨hx314, ⟨hu193, ⟨hu82, ⟨hu53, ⟨hu368, ⟨hu72, ⟨hx54, trivial⟩⟩⟩⟩⟩⟩⟩⟩⟩⟩⟩⟩⟩⟩⟩⟩ trivial k284
theorem o350 : EntryOk cx 31 e350 := chain4 cx_ok cx_names cx_intr cx_mixed (tabs := v350) (tbl := t350) ⟨hu196, ⟨hu367, ⟨hu118, ⟨hu119, ⟨hx377, ⟨hx281, ⟨hx314, ⟨hu193, ⟨hu82, ⟨hu53, ⟨hu368, ⟨hu72, ⟨hx54, trivial⟩⟩⟩⟩⟩⟩⟩⟩⟩⟩⟩⟩⟩ trivial k350
theorem o423 : EntryOk cx 31 e423 := chain4 cx_ok cx_names cx_intr cx_mixed (tabs := v423) (tbl := t423) ⟨hu196, ⟨hu367, ⟨hu118, ⟨hu119, ⟨hx377, ⟨hx281, ⟨hx314, ⟨hu193, ⟨hu82, ⟨hu53, ⟨hu368, ⟨hu72, ⟨hx54, trivial⟩⟩⟩⟩⟩⟩⟩⟩⟩⟩⟩⟩⟩ trivial k423
theorem o469 : EntryOk cx 10 e469 := chain4 cx_ok cx_names cx_intr cx_mixed (tabs := v469) (tbl := t469) ⟨hu33, ⟨hu118, ⟨hu119, ⟨hx281, ⟨hx314, ⟨hu193, ⟨hu53, trivial⟩⟩⟩⟩⟩⟩⟩ ⟨⟨o423, trivial⟩, trivial⟩ k469
theorem o506 : EntryOk cx 24 e506 := chain4 cx_ok cx_names cx_intr cx_mixed (tabs := v506) (tbl := t506) ⟨hu196, ⟨hu11, ⟨hu367, ⟨hu118, ⟨hu119, ⟨hx377, ⟨hx281, ⟨hx314, ⟨hu193, ⟨hu82, ⟨hu53, ⟨hu368, ⟨hu72, ⟨hx54, trivial⟩⟩⟩⟩⟩⟩⟩⟩⟩⟩⟩⟩⟩⟩ trivial k506
theorem o551 : EntryOk cx 43 e551 := chain4 cx_ok cx_names cx_intr cx_mixed (tabs := v551) (tbl := t551) ⟨hu294, ⟨hu118, ⟨hu88, ⟨hu119, ⟨hx281, ⟨hx314, ⟨hu193, ⟨hu53, ⟨hx54, trivial⟩⟩⟩⟩⟩⟩⟩⟩⟩ ⟨⟨o506, trivial⟩, trivial⟩ k551
theorem o553 : EntryOk cx 16 e553 := chain4 cx_ok cx_names cx_intr cx_mixed (tabs := v553) (tbl := t553) ⟨hu196, ⟨hu367, ⟨hu118, ⟨hu119, ⟨hx377, ⟨hx281, ⟨hx314, ⟨hu193, ⟨hu82, ⟨hu53, ⟨hu368, ⟨hu72, ⟨hx54, trivial⟩⟩⟩⟩⟩⟩⟩⟩⟩⟩⟩⟩⟩ ⟨⟨o469, trivial⟩, ⟨⟨o551, trivial⟩, trivial⟩⟩ k553
theorem o554 : EntryOk cx 15 e554 := chain4 cx_ok cx_names cx_intr cx_mixed (tabs := v554) (tbl := t554) ⟨hu118, ⟨hx281, ⟨hx314, ⟨hu193, ⟨hu53, trivial⟩⟩⟩⟩⟩ ⟨⟨o350, trivial⟩, ⟨⟨o553, trivial⟩, trivial⟩⟩ k554
theorem o622 : EntryOk cx 31 e622 := chain4 cx_ok cx_names cx_intr cx_mixed (tabs := v622) (tbl := t622) ⟨hu196, ⟨hu367, ⟨hu118, ⟨hu119, ⟨hx377, ⟨hx281, ⟨hx314, ⟨hu193, ⟨hu82, ⟨hu53, ⟨hu368, ⟨hu72, ⟨hx54, trivial⟩⟩⟩⟩⟩⟩⟩⟩⟩⟩⟩⟩⟩ trivial k622
theorem o695 : EntryOk cx 31 e695 := chain4 cx_ok cx_names cx_intr cx_mixed (tabs := v695) (tbl := t695) ⟨hu196, ⟨hu367, ⟨hu118, ⟨hu119, ⟨hx377, ⟨hx281, ⟨hx314, ⟨hu193, ⟨hu82, ⟨hu53, ⟨hu368, ⟨hu72, ⟨hx54, trivial⟩⟩⟩⟩⟩⟩⟩⟩⟩⟩⟩⟩⟩ trivial k695
theorem o745 : EntryOk cx 10 e745 := chain4 cx_ok cx_names cx_intr cx_mixed (tabs := v745) (tbl := t745) ⟨hu33, ⟨hu118, ⟨hu119, ⟨hx281, ⟨hx314, ⟨hu193, ⟨hu53, trivial⟩⟩⟩⟩⟩⟩⟩ ⟨⟨o695, trivial⟩, trivial⟩ k745
theorem o749 : EntryOk cx 16 e749 := chain4 cx_ok cx_names cx_intr cx_mixed (tabs := v749) (tbl := t749) ⟨hu196, ⟨hu367, ⟨hu294, ⟨hu118, ⟨hu119, ⟨hx377, ⟨hx281, ⟨hx314, ⟨hu193, ⟨hu82, ⟨hu53, ⟨hu368, ⟨hu72, ⟨hx54, trivial⟩⟩⟩⟩⟩⟩⟩⟩⟩⟩⟩⟩⟩⟩ ⟨⟨o745, trivial⟩, trivial⟩ k749
theorem o750 : EntryOk cx 15 e750 := chain4 cx_ok cx_names cx_intr cx_mixed (tabs := v750) (tbl := t750) ⟨hu118, ⟨hx281, ⟨hx314, ⟨hu193, ⟨hu53, trivial⟩⟩⟩⟩⟩ ⟨⟨o622, trivial⟩, ⟨⟨o749, trivial⟩, trivial⟩⟩ k750
theorem o818 : EntryOk cx 31 e818 := chain4 cx_ok cx_names cx_intr cx_mixed (tabs := v818) (tbl := t818) ⟨hu196, ⟨hu367, ⟨hu118, ⟨hu119, ⟨hx377, ⟨hx281, ⟨hx314, ⟨hu193, ⟨hu82, ⟨hu53, ⟨hu368, ⟨hu72, ⟨hx54, trivial⟩⟩⟩⟩⟩⟩⟩⟩⟩⟩⟩⟩⟩ trivial k818
theorem o819 : EntryOk cx 41 e819 := chain4 cx_ok cx_names cx_intr cx_mixed (tabs := v819) (tbl := t819) ⟨hu118, ⟨hx281, ⟨hx314, ⟨hu193, ⟨hu53, trivial⟩⟩⟩⟩⟩ ⟨⟨o818, trivial⟩, trivial⟩ k819
theorem o855 : EntryOk cx 31 e855 := chain4 cx_ok cx_names cx_intr cx_mixed (tabs := v855) (tbl := t855) ⟨hu196, ⟨hu367, ⟨hu118, ⟨hu119, ⟨hx377, ⟨hx281, ⟨hx314, ⟨hu193, ⟨hu82, ⟨hu53, ⟨hu368, ⟨hu72, ⟨hx54, trivial⟩⟩⟩⟩⟩⟩⟩⟩⟩⟩⟩⟩⟩ trivial k855
theorem o891 : EntryOk cx 31 e891 := chain4 cx_ok cx_names cx_intr cx_mixed (tabs := v891) (tbl := t891) ⟨hu196, ⟨hu367, ⟨hu118, ⟨hu119, ⟨hx377, ⟨hx281, ⟨hx314, ⟨hu193, ⟨hu82, ⟨hu53, ⟨hu368, ⟨hu72, ⟨hx54, trivial⟩⟩⟩⟩⟩⟩⟩⟩⟩⟩⟩⟩⟩ trivial k891
theorem o941 : EntryOk cx 10 e941 := chain4 cx_ok cx_names cx_intr cx_mixed (tabs := v941) (tbl := t941) ⟨hu33, ⟨hu118, ⟨hu119, ⟨hx281, ⟨hx314, ⟨hu193, ⟨hu53, trivial⟩⟩⟩⟩⟩⟩⟩ ⟨⟨o891, trivial⟩, trivial⟩ k941
theorem o979 : EntryOk cx 24 e979 := chain4 cx_ok cx_names cx_intr cx_mixed (tabs := v979) (tbl := t979) ⟨hu196, ⟨hu11, ⟨hu367, ⟨hu118, ⟨hu119, ⟨hx377, ⟨hx281, ⟨hx314, ⟨hu193, ⟨hu82, ⟨hu53, ⟨hu368, ⟨hu72, ⟨hx54, trivial⟩⟩⟩⟩⟩⟩⟩⟩⟩⟩⟩⟩⟩⟩ trivial k979
theorem o1010 : EntryOk cx 15 e1010 := chain4 cx_ok cx_names cx_intr cx_mixed (tabs := v1010) (tbl := t1010) ⟨hu196, ⟨hu294, ⟨hu118, ⟨hu119, ⟨hx281, ⟨hx314, ⟨hu193, ⟨hu53, ⟨hx116, trivial⟩⟩⟩⟩⟩⟩⟩⟩⟩ ⟨⟨o819, trivial⟩, ⟨⟨o855, trivial⟩, ⟨⟨o941, trivial⟩, ⟨⟨o979, trivial⟩, trivial⟩⟩⟩⟩ k1010
theorem o1046 : EntryOk cx 31 e1046 := chain4 cx_ok cx_names cx_intr cx_mixed (tabs := v1046) (tbl := t1046) ⟨hu196, ⟨hu367, ⟨hu118, ⟨hu119, ⟨hx377, ⟨hx281, ⟨hx314, ⟨hu193, ⟨hu82, ⟨hu53, ⟨hu368, ⟨hu72, ⟨hx54, trivial⟩⟩⟩⟩⟩⟩⟩⟩⟩⟩⟩⟩⟩ trivial k1046
theorem o1092 : EntryOk cx 10 e1092 := chain4 cx_ok cx_names cx_intr cx_mixed (tabs := v1092) (tbl := t1092) ⟨hu33, ⟨hu118, ⟨hu119, ⟨hx281, ⟨hx314, ⟨hu193, ⟨hu53, trivial⟩⟩⟩⟩⟩⟩⟩ ⟨⟨o1046, trivial⟩, trivial⟩ k1092
theorem o1105 : EntryOk cx 16 e1105 := chain4 cx_ok cx_names cx_intr cx_mixed (tabs := v1105) (tbl := t1105) ⟨hu193, trivial⟩ trivial k1105
theorem o1141 : EntryOk cx 31 e1141 := chain4 cx_ok cx_names cx_intr cx_mixed (tabs := v1141) (tbl := t1141) ⟨hu196, ⟨hu367, ⟨hu118, ⟨hu119, ⟨hx377, ⟨hx281, ⟨hx314, ⟨hu193, ⟨hu82, ⟨hu53, ⟨hu368, ⟨hu72, ⟨hx54, trivial⟩⟩⟩⟩⟩⟩⟩⟩⟩⟩⟩⟩⟩ trivial k1141
theorem o1177 : EntryOk cx 31 e1177 := chain4 cx_ok cx_names cx_intr cx_mixed (tabs := v1177) (tbl := t1177) ⟨hu196, ⟨hu367, ⟨hu118, ⟨hu119, ⟨hx377, ⟨hx281, ⟨hx314, ⟨hu193, ⟨hu82, ⟨hu53, ⟨hu368, ⟨hu72, ⟨hx54, trivial⟩⟩⟩⟩⟩⟩⟩⟩⟩⟩⟩⟩⟩ trivial k1177
theorem o1225 : EntryOk cx 17 e1225 := chain4 cx_ok cx_names cx_intr cx_mixed (tabs := v1225) (tbl := t1225) ⟨hu33, ⟨hu118, ⟨hu119, ⟨hx281, ⟨hx314, ⟨hu193, ⟨hu53, trivial⟩⟩⟩⟩⟩⟩⟩ ⟨⟨o1141, ⟨o1177, trivial⟩⟩, trivial⟩ k1225
theorem o1363 : EntryOk cx 48 e1363 := chain4 cx_ok cx_names cx_intr cx_mixed (tabs := v1363) (tbl := t1363) ⟨hu196, ⟨hu51, ⟨hu367, ⟨hu118, ⟨hu119, ⟨hu102, ⟨hx281, ⟨hx23, ⟨hx314, ⟨hu193, ⟨hu53, ⟨hu368, ⟨hx54, trivial⟩⟩⟩⟩⟩⟩⟩⟩⟩⟩⟩⟩⟩ trivial k1363
theorem o1365 : EntryOk cx 21 e1365 := chain4 cx_ok cx_names cx_intr cx_mixed (tabs := v1365) (tbl := t1365) ⟨hu196, ⟨hu367, ⟨hu118, ⟨hu119, ⟨hu102, ⟨hx377, ⟨hx281, ⟨hx314, ⟨hu193, ⟨hu53, ⟨hu368, ⟨hu72, ⟨hx54, trivial⟩⟩⟩⟩⟩⟩⟩⟩⟩⟩⟩⟩⟩ ⟨⟨o1363, trivial⟩, trivial⟩ k1365
theorem o1445 : EntryOk cx 48 e1445 := chain4 cx_ok cx_names cx_intr cx_mixed (tabs := v1445) (tbl := t1445) ⟨hu196, ⟨hu51, ⟨hu367, ⟨hu118, ⟨hu119, ⟨hx281, ⟨hx23, ⟨hx314, ⟨hu193, ⟨hu82, ⟨hu53, ⟨hu368, ⟨hu72, ⟨hx54, trivial⟩⟩⟩⟩⟩⟩⟩⟩⟩⟩⟩⟩⟩⟩ trivial k1445
theorem o1447 : EntryOk cx 39 e1447 := chain4 cx_ok cx_names cx_intr cx_mixed (tabs := v1447) (tbl := t1447) ⟨hu196, ⟨hu367, ⟨hu118, ⟨hu119, ⟨hu102, ⟨hx377, ⟨hx281, ⟨hx314, ⟨hu193, ⟨hu82, ⟨hu53, ⟨hu368, ⟨hu72, ⟨hx54, trivial⟩⟩⟩⟩⟩⟩⟩⟩⟩⟩⟩⟩⟩⟩ ⟨⟨o1445, trivial⟩, trivial⟩ k1447
theorem o1448 : EntryOk cx 14 e1448 := chain4 cx_ok cx_names cx_intr cx_mixed (tabs := v1448) (tbl := t1448) ⟨hu196, ⟨hu160, ⟨hu51, ⟨hu367, ⟨hu118, ⟨hu221, ⟨hu119, ⟨hu102, ⟨hx281, ⟨hx23, ⟨hu193, ⟨hu53, ⟨hu368, ⟨hu72, ⟨hx54, trivial⟩⟩⟩⟩⟩⟩⟩⟩⟩⟩⟩⟩⟩⟩⟩ ⟨⟨o1365, trivial⟩, ⟨⟨o1447, trivial⟩, trivial⟩⟩ k1448
theorem o1510 : EntryOk cx 7 e1510 := chain4 cx_ok cx_names cx_intr cx_mixed (tabs := v1510) (tbl := t1510) ⟨hu196, ⟨hu11, ⟨hu51, ⟨hu367, ⟨hu118, ⟨hu119, ⟨hx377, ⟨hx281, ⟨hx23, ⟨hx314, ⟨hu193, ⟨hu82, ⟨hu53, ⟨hu368, ⟨hu72, ⟨hx54, trivial⟩⟩⟩⟩⟩⟩⟩⟩⟩⟩⟩⟩⟩⟩⟩⟩ trivial k1510
theorem o1576 : EntryOk cx 31 e1576 := chain4 cx_ok cx_names cx_intr cx_mixed (tabs := v1576) (tbl := t1576) ⟨hu196, ⟨hu367, ⟨hu118, ⟨hu119, ⟨hx377, ⟨hx281, ⟨hx314, ⟨hu193, ⟨hu82, ⟨hu53, ⟨hu368, ⟨hu72, ⟨hx54, trivial⟩⟩⟩⟩⟩⟩⟩⟩⟩⟩⟩⟩⟩ trivial k1576
theorem o1649 : EntryOk cx 31 e1649 := chain4 cx_ok cx_names cx_intr cx_mixed (tabs := v1649) (tbl := t1649) ⟨hu196, ⟨hu367, ⟨hu118, ⟨hu119, ⟨hx377, ⟨hx281, ⟨hx314, ⟨hu193, ⟨hu82, ⟨hu53, ⟨hu368, ⟨hu72, ⟨hx54, trivial⟩⟩⟩⟩⟩⟩⟩⟩⟩⟩⟩⟩⟩ trivial k1649
theorem o1695 : EntryOk cx 10 e1695 := chain4 cx_ok cx_names cx_intr cx_mixed (tabs := v1695) (tbl := t1695) ⟨hu33, ⟨hu118, ⟨hu119, ⟨hx281, ⟨hx314, ⟨hu193, ⟨hu53, trivial⟩⟩⟩⟩⟩⟩⟩ ⟨⟨o1649, trivial⟩, trivial⟩ k1695
theorem o1698 : EntryOk cx 16 e1698 := chain4 cx_ok cx_names cx_intr cx_mixed (tabs := v1698) (tbl := t1698) ⟨hu196, ⟨hu367, ⟨hu294, ⟨hu118, ⟨hu119, ⟨hx377, ⟨hx281, ⟨hx314, ⟨hu193, ⟨hu82, ⟨hu53, ⟨hu368, ⟨hu72, ⟨hx54, trivial⟩⟩⟩⟩⟩⟩⟩⟩⟩⟩⟩⟩⟩⟩ ⟨⟨o1695, trivial⟩, trivial⟩ k1698
theorem o1699 : EntryOk cx 15 e1699 := chain4 cx_ok cx_names cx_intr cx_mixed (tabs := v1699) (tbl := t1699) ⟨hu118, ⟨hx281, ⟨hx314, ⟨hu193, ⟨hu53, trivial⟩⟩⟩⟩⟩ ⟨⟨o1576, trivial⟩, ⟨⟨o1698, trivial⟩, trivial⟩⟩ k1699
theorem o1765 : EntryOk cx 31 e1765 := chain4 cx_ok cx_names cx_intr cx_mixed (tabs := v1765) (tbl := t1765) ⟨hu196, ⟨hu367, ⟨hu118, ⟨hu119, ⟨hx377, ⟨hx281, ⟨hx314, ⟨hu193, ⟨hu82, ⟨hu53, ⟨hu368, ⟨hu72, ⟨hx54, trivial⟩⟩⟩⟩⟩⟩⟩⟩⟩⟩⟩⟩⟩ trivial k1765
theorem o1838 : EntryOk cx 31 e1838 := chain4 cx_ok cx_names cx_intr cx_mixed (tabs := v1838) (tbl := t1838) ⟨hu196, ⟨hu367, ⟨hu118, ⟨hu119, ⟨hx377, ⟨hx281, ⟨hx314, ⟨hu193, ⟨hu82, ⟨hu53, ⟨hu368, ⟨hu72, ⟨hx54, trivial⟩⟩⟩⟩⟩⟩⟩⟩⟩⟩⟩⟩⟩ trivial k1838
theorem o1884 : EntryOk cx 10 e1884 := chain4 cx_ok cx_names cx_intr cx_mixed (tabs := v1884) (tbl := t1884) ⟨hu33, ⟨hu118, ⟨hu119, ⟨hx281, ⟨hx314, ⟨hu193, ⟨hu53, trivial⟩⟩⟩⟩⟩⟩⟩ ⟨⟨o1838, trivial⟩, trivial⟩ k1884
theorem o1921 : EntryOk cx 24 e1921 := chain4 cx_ok cx_names cx_intr cx_mixed (tabs := v1921) (tbl := t1921) ⟨hu196, ⟨hu11, ⟨hu367, ⟨hu118, ⟨hu119, ⟨hx377, ⟨hx281, ⟨hx314, ⟨hu193, ⟨hu82, ⟨hu53, ⟨hu368, ⟨hu72, ⟨hx54, trivial⟩⟩⟩⟩⟩⟩⟩⟩⟩⟩⟩⟩⟩⟩ trivial k1921
theorem o1966 : EntryOk cx 43 e1966 := chain4 cx_ok cx_names cx_intr cx_mixed (tabs := v1966) (tbl := t1966) ⟨hu294, ⟨hu118, ⟨hu88, ⟨hu119, ⟨hx281, ⟨hx314, ⟨hu193, ⟨hu53, ⟨hx54, trivial⟩⟩⟩⟩⟩⟩⟩⟩⟩ ⟨⟨o1921, trivial⟩, trivial⟩ k1966
theorem o1968 : EntryOk cx 16 e1968 := chain4 cx_ok cx_names cx_intr cx_mixed (tabs := v1968) (tbl := t1968) ⟨hu196, ⟨hu367, ⟨hu118, ⟨hu119, ⟨hx377, ⟨hx281, ⟨hx314, ⟨hu193, ⟨hu82, ⟨hu53, ⟨hu368, ⟨hu72, ⟨hx54, trivial⟩⟩⟩⟩⟩⟩⟩⟩⟩⟩⟩⟩⟩ ⟨⟨o1884, trivial⟩, ⟨⟨o1966, trivial⟩, trivial⟩⟩ k1968
theorem o1969 : EntryOk cx 15 e1969 := chain4 cx_ok cx_names cx_intr cx_mixed (tabs := v1969) (tbl := t1969) ⟨hu118, ⟨hx281, ⟨hx314, ⟨hu193, ⟨hu53, trivial⟩⟩⟩⟩⟩ ⟨⟨o1765, trivial⟩, ⟨⟨o1968, trivial⟩, trivial⟩⟩ k1969
theorem o2024 : EntryOk cx 44 e2024 := chain4 cx_ok cx_names cx_intr cx_mixed (tabs := v2024) (tbl := t2024) ⟨hu196, ⟨hu11, ⟨hu367, ⟨hu118, ⟨hu119, ⟨hx377, ⟨hx281, ⟨hx314, ⟨hu193, ⟨hu82, ⟨hu53, ⟨hu368, ⟨hu72, ⟨hx54, trivial⟩⟩⟩⟩⟩⟩⟩⟩⟩⟩⟩⟩⟩⟩ trivial k2024
theorem o2025 : EntryOk cx 18 e2025 := chain4 cx_ok cx_names cx_intr cx_mixed (tabs := v2025) (tbl := t2025) trivial ⟨⟨o1448, trivial⟩, ⟨⟨o1510, trivial⟩, ⟨⟨o1699, ⟨o1969, trivial⟩⟩, ⟨⟨o2024, trivial⟩, trivial⟩⟩⟩⟩ k2025
theorem o2026 : EntryOk cx 4 e2026 := chain4 cx_ok cx_names cx_intr cx_mixed (tabs := v2026) (tbl := t2026) trivial ⟨⟨o222, trivial⟩, ⟨⟨o284, trivial⟩, ⟨⟨o554, ⟨o750, ⟨o1010, trivial⟩⟩⟩, ⟨⟨o1092, trivial⟩, ⟨⟨o1105, trivial⟩, ⟨⟨o1225, trivial⟩, ⟨⟨o2025, trivial⟩, trivial⟩⟩⟩⟩⟩⟩⟩ k2026
noncomputable def tabs : List (Nat × AO) := [((nat_lit 4), d43)]
theorem known (w : World) (hw : KnownW w tabs) : Calls Tryz.prog 4 #[] w fun e w' => e = .returned (.bool true) ∧ Below w.heap.size w w' := chain_known (C := cx) rfl (l := tabs) (by kernel_rfl) (args := []) rfl o2026 rfl w hw
end Go.Proofs.YtppljlchjfgenaaGreatDoor.Sk
