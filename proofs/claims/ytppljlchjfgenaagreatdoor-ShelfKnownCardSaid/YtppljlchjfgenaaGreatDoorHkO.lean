/- The run: its links joined. -/
import Derived.Test.YtppljlchjfgenaaGreatDoorHkK0
import Derived.Test.YtppljlchjfgenaaGreatDoorHkK1
import Derived.Test.YtppljlchjfgenaaGreatDoorHkK2
import Derived.KernelRfl
namespace Go.Proofs.YtppljlchjfgenaaGreatDoor.Hk
open Go Go.RowKit Go.Proofs Go.Proofs.YtppljlchjfgenaaGreatDoor.X
theorem hz111 : TldsOk cz 111 u111 := (tlds_ok cz_ok cz_names cz_intr cz_mixed rfl (utbl := tu111) trivial ku111_0)
theorem hu111 : TldsOk cx 111 u111 := TldsOk.moreG (C := cx) (C0 := cz) rfl rfl hz111
theorem hz72 : TldsOk cz 72 u72 := (tlds_ok cz_ok cz_names cz_intr cz_mixed rfl (utbl := tu72) trivial ku72_0)
theorem hu72 : TldsOk cx 72 u72 := TldsOk.moreG (C := cx) (C0 := cz) rfl rfl hz72
theorem hz325 : TldsOk cz 325 u325 := (tlds_ok cz_ok cz_names cz_intr cz_mixed rfl (utbl := tu325) trivial ku325_0)
theorem hu325 : TldsOk cx 325 u325 := TldsOk.moreG (C := cx) (C0 := cz) rfl rfl hz325
theorem hz368 : TldsOk cz 368 u368 := (tlds_ok cz_ok cz_names cz_intr cz_mixed rfl (utbl := tu368) trivial ku368_0)
theorem hu368 : TldsOk cx 368 u368 := TldsOk.moreG (C := cx) (C0 := cz) rfl rfl hz368
theorem hz184 : TldsOk cz 184 u184 := (tlds_ok cz_ok cz_names cz_intr cz_mixed rfl (utbl := tu184) trivial ku184_0)
theorem hu184 : TldsOk cx 184 u184 := TldsOk.moreG (C := cx) (C0 := cz) rfl rfl hz184
theorem hz38 : TldsOk cz 38 u38 := (tlds_ok cz_ok cz_names cz_intr cz_mixed rfl (utbl := tu38) ⟨hz72, trivial⟩ ku38_0)
theorem hu38 : TldsOk cx 38 u38 := TldsOk.moreG (C := cx) (C0 := cz) rfl rfl hz38
theorem hz383 : TldsOk cz 383 u383 := (tlds_ok cz_ok cz_names cz_intr cz_mixed rfl (utbl := tu383) ⟨hz368, trivial⟩ ku383_0)
theorem hu383 : TldsOk cx 383 u383 := TldsOk.moreG (C := cx) (C0 := cz) rfl rfl hz383
theorem hz110 : TldsOk cz 110 u110 := (tlds_ok cz_ok cz_names cz_intr cz_mixed rfl (utbl := tu110) trivial ku110_0)
theorem hu110 : TldsOk cx 110 u110 := TldsOk.moreG (C := cx) (C0 := cz) rfl rfl hz110
theorem hz103 : TldsOk cz 103 u103 := (tlds_ok cz_ok cz_names cz_intr cz_mixed rfl (utbl := tu103) ⟨hz184, trivial⟩ ku103_0)
theorem hu103 : TldsOk cx 103 u103 := TldsOk.moreG (C := cx) (C0 := cz) rfl rfl hz103
theorem hz109 : TldsOk cz 109 u109 := (tlds_ok cz_ok cz_names cz_intr cz_mixed rfl (utbl := tu109) ⟨hz111, trivial⟩ ku109_0)
theorem hu109 : TldsOk cx 109 u109 := TldsOk.moreG (C := cx) (C0 := cz) rfl rfl hz109
theorem hz194 : TldsOk cz 194 u194 := (TldsOk.app (tlds_ok cz_ok cz_names cz_intr cz_mixed rfl (utbl := tu194) trivial ku194_0) (tlds_ok cz_ok cz_names cz_intr cz_mixed rfl (utbl := tu194) trivial ku194_1))
theorem hu194 : TldsOk cx 194 u194 := TldsOk.moreG (C := cx) (C0 := cz) rfl rfl hz194
theorem hz261 : TldsOk cz 261 u261 := (tlds_ok cz_ok cz_names cz_intr cz_mixed rfl (utbl := tu261) ⟨hz325, trivial⟩ ku261_0)
theorem hu261 : TldsOk cx 261 u261 := TldsOk.moreG (C := cx) (C0 := cz) rfl rfl hz261
theorem hz193 : TldsOk cz 193 u193 := (tlds_ok cz_ok cz_names cz_intr cz_mixed rfl (utbl := tu193) trivial ku193_0)
theorem hu193 : TldsOk cx 193 u193 := TldsOk.moreG (C := cx) (C0 := cz) rfl rfl hz193
theorem hz119 : TldsOk cz 119 u119 := (tlds_ok cz_ok cz_names cz_intr cz_mixed rfl (utbl := tu119) ⟨hz194, trivial⟩ ku119_0)
theorem hu119 : TldsOk cx 119 u119 := TldsOk.moreG (C := cx) (C0 := cz) rfl rfl hz119
theorem hz221 : TldsOk cz 221 u221 := (tlds_ok cz_ok cz_names cz_intr cz_mixed rfl (utbl := tu221) trivial ku221_0)
theorem hu221 : TldsOk cx 221 u221 := TldsOk.moreG (C := cx) (C0 := cz) rfl rfl hz221
theorem hz102 : TldsOk cz 102 u102 := (tlds_ok cz_ok cz_names cz_intr cz_mixed rfl (utbl := tu102) ⟨hz72, trivial⟩ ku102_0)
theorem hu102 : TldsOk cx 102 u102 := TldsOk.moreG (C := cx) (C0 := cz) rfl rfl hz102
theorem hz118 : TldsOk cz 118 u118 := (tlds_ok cz_ok cz_names cz_intr cz_mixed rfl (utbl := tu118) ⟨hz193, trivial⟩ ku118_0)
theorem hu118 : TldsOk cx 118 u118 := TldsOk.moreG (C := cx) (C0 := cz) rfl rfl hz118
theorem hz367 : TldsOk cz 367 u367 := (tlds_ok cz_ok cz_names cz_intr cz_mixed rfl (utbl := tu367) ⟨hz383, trivial⟩ ku367_0)
theorem hu367 : TldsOk cx 367 u367 := TldsOk.moreG (C := cx) (C0 := cz) rfl rfl hz367
theorem hz53 : TldsOk cz 53 u53 := (tlds_ok cz_ok cz_names cz_intr cz_mixed rfl (utbl := tu53) ⟨hz109, ⟨hz110, ⟨hz111, trivial⟩⟩⟩ ku53_0)
theorem hu53 : TldsOk cx 53 u53 := TldsOk.moreG (C := cx) (C0 := cz) rfl rfl hz53
theorem hz51 : TldsOk cz 51 u51 := (tlds_ok cz_ok cz_names cz_intr cz_mixed rfl (utbl := tu51) ⟨hz103, trivial⟩ ku51_0)
theorem hu51 : TldsOk cx 51 u51 := TldsOk.moreG (C := cx) (C0 := cz) rfl rfl hz51
theorem hz196 : TldsOk cz 196 u196 := (tlds_ok cz_ok cz_names cz_intr cz_mixed rfl (utbl := tu196) ⟨hz261, trivial⟩ ku196_0)
theorem hu196 : TldsOk cx 196 u196 := TldsOk.moreG (C := cx) (C0 := cz) rfl rfl hz196
theorem hz11 : TldsOk cz 11 u11 := (tlds_ok cz_ok cz_names cz_intr cz_mixed rfl (utbl := tu11) ⟨hz38, trivial⟩ ku11_0)
theorem hu11 : TldsOk cx 11 u11 := TldsOk.moreG (C := cx) (C0 := cz) rfl rfl hz11
theorem hz160 : TldsOk cz 160 u160 := (tlds_ok cz_ok cz_names cz_intr cz_mixed rfl (utbl := tu160) trivial ku160_0)
theorem hu160 : TldsOk cx 160 u160 := TldsOk.moreG (C := cx) (C0 := cz) rfl rfl hz160
theorem hxz116 : KinsOk cz 116 x116 := (KinsOk.app (kins4_ok cz_ok cz_names cz_intr cz_mixed rfl (tabs := xb116) trivial kx116_0) (KinsOk.app (kins4_ok cz_ok cz_names cz_intr cz_mixed rfl (tabs := xb116) trivial kx116_1) (KinsOk.app (kins4_ok cz_ok cz_names cz_intr cz_mixed rfl (tabs := xb116) trivial kx116_2) (KinsOk.app (kins4_ok cz_ok cz_names cz_intr cz_mixed rfl (tabs := xb116) trivial kx116_3) (KinsOk.app (kins4_ok cz_ok cz_names cz_intr cz_mixed rfl (tabs := xb116) trivial kx116_4) (KinsOk.app (kins4_ok cz_ok cz_names cz_intr cz_mixed rfl (tabs := xb116) trivial kx116_5) (KinsOk.app (kins4_ok cz_ok cz_names cz_intr cz_mixed rfl (tabs := xb116) trivial kx116_6) (KinsOk.app (kins4_ok cz_ok cz_names cz_intr cz_mixed rfl (tabs := xb116) trivial kx116_7) (KinsOk.app (kins4_ok cz_ok cz_names cz_intr cz_mixed rfl (tabs := xb116) trivial kx116_8) (KinsOk.app (kins4_ok cz_ok cz_names cz_intr cz_mixed rfl (tabs := xb116) trivial kx116_9) (kins4_ok cz_ok cz_names cz_intr cz_mixed rfl (tabs := xb116) trivial kx116_10)))))))))))
theorem hx116 : KinsOk cx 116 x116 := KinsOk.moreG (C := cx) (C0 := cz) rfl rfl hxz116
theorem hxz54 : KinsOk cz 54 x54 := (kins4_ok cz_ok cz_names cz_intr cz_mixed rfl (tabs := xb54) ⟨hxz116, trivial⟩ kx54_0)
theorem hx54 : KinsOk cx 54 x54 := KinsOk.moreG (C := cx) (C0 := cz) rfl rfl hxz54
theorem hxz64 : KinsOk cz 64 x64 := (kins4_ok cz_ok cz_names cz_intr cz_mixed rfl (tabs := xb64) ⟨hz102, trivial⟩ kx64_0)
theorem hx64 : KinsOk cx 64 x64 := KinsOk.moreG (C := cx) (C0 := cz) rfl rfl hxz64
theorem hxz281 : KinsOk cz 281 x281 := (kins4_ok cz_ok cz_names cz_intr cz_mixed rfl (tabs := xb281) ⟨hz53, trivial⟩ kx281_0)
theorem hx281 : KinsOk cx 281 x281 := KinsOk.moreG (C := cx) (C0 := cz) rfl rfl hxz281
theorem hxz23 : KinsOk cz 23 x23 := (kins4_ok cz_ok cz_names cz_intr cz_mixed rfl (tabs := xb23) ⟨hxz54, trivial⟩ kx23_0)
theorem hx23 : KinsOk cx 23 x23 := KinsOk.moreG (C := cx) (C0 := cz) rfl rfl hxz23
theorem hxz377 : KinsOk cz 377 x377 := (kins4_ok cz_ok cz_names cz_intr cz_mixed rfl (tabs := xb377) ⟨hxz54, trivial⟩ kx377_0)
theorem hx377 : KinsOk cx 377 x377 := KinsOk.moreG (C := cx) (C0 := cz) rfl rfl hxz377
theorem hxz314 : KinsOk cz 314 x314 := (kins4_ok cz_ok cz_names cz_intr cz_mixed rfl (tabs := xb314) ⟨hxz54, trivial⟩ kx314_0)
theorem hx314 : KinsOk cx 314 x314 := KinsOk.moreG (C := cx) (C0 := cz) rfl rfl hxz314
theorem o137 : EntryOk cx 48 e137 := chain4 cx_ok cx_names cx_intr cx_mixed (tabs := v137) (tbl := t137) ⟨hu196, ⟨hu51, ⟨hu367, ⟨hu118, ⟨hu119, ⟨hx314, ⟨hx23, ⟨hx281, ⟨hu193, ⟨hu53, ⟨hu102, ⟨hu368, ⟨hx54, trivial⟩⟩⟩⟩⟩⟩⟩⟩⟩⟩⟩⟩⟩ trivial k137
theorem o139 : EntryOk cx 21 e139 := chain4 cx_ok cx_names cx_intr cx_mixed (tabs := v139) (tbl := t139) ⟨hu196, ⟨hu367, ⟨hu118, ⟨hu119, ⟨hx314, ⟨hx377, ⟨hx281, ⟨hu193, ⟨hu53, ⟨hu102, ⟨hu368, ⟨hu72, ⟨hx54, trivial⟩⟩⟩⟩⟩⟩⟩⟩⟩⟩⟩⟩⟩ ⟨⟨o137, trivial⟩, trivial⟩ k139
theorem o140 : EntryOk cx 6 e140 := chain4 cx_ok cx_names cx_intr cx_mixed (tabs := v140) (tbl := t140) ⟨hu160, ⟨hu196, ⟨hu51, ⟨hu367, ⟨hu118, ⟨hu221, ⟨hu119, ⟨hx23, ⟨hx281, ⟨hu193, ⟨hu53, ⟨hu102, ⟨hu368, ⟨hu72, ⟨hx54, trivial⟩⟩⟩⟩⟩⟩⟩⟩⟩⟩⟩⟩⟩⟩⟩ ⟨⟨o139, trivial⟩, trivial⟩ k140
theorem o198 : EntryOk cx 7 e198 := chain4 cx_ok cx_names cx_intr cx_mixed (tabs := v198) (tbl := t198) ⟨hu11, ⟨hu196, ⟨hu51, ⟨hu367, ⟨hu118, ⟨hu119, ⟨hx314, ⟨hx377, ⟨hx23, ⟨hx281, ⟨hx64, ⟨hu193, ⟨hu53, ⟨hu368, ⟨hu72, ⟨hx54, trivial⟩⟩⟩⟩⟩⟩⟩⟩⟩⟩⟩⟩⟩⟩⟩⟩ trivial k198
theorem o262 : EntryOk cx 8 e262 := chain4 cx_ok cx_names cx_intr cx_mixed (tabs := v262) (tbl := t262) ⟨hu11, ⟨hu196, ⟨hu367, ⟨hu118, ⟨hu119, ⟨hx314, ⟨hx377, ⟨hx281, ⟨hx64, ⟨hu193, ⟨hu53, ⟨hu368, ⟨hu72, ⟨hx54, trivial⟩⟩⟩⟩⟩⟩⟩⟩⟩⟩⟩⟩⟩⟩ trivial k262
theorem o312 : EntryOk cx 8 e312 := chain4 cx_ok cx_names cx_intr cx_mixed (tabs := v312) (tbl := t312) ⟨hu11, ⟨hu196, ⟨hu367, ⟨hu118, ⟨hu119, ⟨hx314, ⟨hx377, ⟨hx281, ⟨hx64, ⟨hu193, ⟨hu53, ⟨hu368, ⟨hu72, ⟨hx54, trivial⟩⟩⟩⟩⟩⟩⟩⟩⟩⟩⟩⟩⟩⟩ trivial k312
theorem o378 : EntryOk cx 214 e378 := chain4 cx_ok cx_names cx_intr cx_mixed (tabs := v378) (tbl := t378) ⟨hx281, ⟨hu53, ⟨hx116, trivial⟩⟩⟩ trivial k378
theorem o387 : EntryOk cx 27 e387 := chain4 cx_ok cx_names cx_intr cx_mixed (tabs := v387) (tbl := t387) ⟨hu118, ⟨hu119, ⟨hx314, ⟨hx281, ⟨hu193, ⟨hu53, trivial⟩⟩⟩⟩⟩⟩ ⟨⟨o378, trivial⟩, trivial⟩ k387
theorem o388 : EntryOk cx 9 e388 := chain4 cx_ok cx_names cx_intr cx_mixed (tabs := v388) (tbl := t388) ⟨hu11, ⟨hu196, ⟨hu51, ⟨hu367, ⟨hu118, ⟨hu119, ⟨hx314, ⟨hx377, ⟨hx281, ⟨hx64, ⟨hu193, ⟨hu53, ⟨hu368, ⟨hu72, ⟨hx54, trivial⟩⟩⟩⟩⟩⟩⟩⟩⟩⟩⟩⟩⟩⟩⟩ ⟨⟨o387, trivial⟩, trivial⟩ k388
theorem o440 : EntryOk cx 8 e440 := chain4 cx_ok cx_names cx_intr cx_mixed (tabs := v440) (tbl := t440) ⟨hu11, ⟨hu196, ⟨hu367, ⟨hu118, ⟨hu119, ⟨hx314, ⟨hx377, ⟨hx281, ⟨hx64, ⟨hu193, ⟨hu53, ⟨hu368, ⟨hu72, ⟨hx54, trivial⟩⟩⟩⟩⟩⟩⟩⟩⟩⟩⟩⟩⟩⟩ trivial k440
theorem o499 : EntryOk cx 22 e499 := chain4 cx_ok cx_names cx_intr cx_mixed (tabs := v499) (tbl := t499) ⟨hu11, ⟨hu196, ⟨hu51, ⟨hu367, ⟨hu118, ⟨hu119, ⟨hx314, ⟨hx377, ⟨hx281, ⟨hx64, ⟨hu193, ⟨hu53, ⟨hu368, ⟨hu72, ⟨hu109, ⟨hx54, ⟨hu111, trivial⟩⟩⟩⟩⟩⟩⟩⟩⟩⟩⟩⟩⟩⟩⟩⟩⟩ trivial k499
theorem o500 : EntryOk cx 7 e500 := chain4 cx_ok cx_names cx_intr cx_mixed (tabs := v500) (tbl := t500) trivial ⟨⟨o499, trivial⟩, trivial⟩ k500
theorem o559 : EntryOk cx 29 e559 := chain4 cx_ok cx_names cx_intr cx_mixed (tabs := v559) (tbl := t559) ⟨hu118, ⟨hu119, ⟨hx314, ⟨hx281, ⟨hu193, ⟨hu53, ⟨hx116, trivial⟩⟩⟩⟩⟩⟩⟩ trivial k559
theorem o560 : EntryOk cx 9 e560 := chain4 cx_ok cx_names cx_intr cx_mixed (tabs := v560) (tbl := t560) ⟨hu11, ⟨hu196, ⟨hu367, ⟨hu118, ⟨hu119, ⟨hx314, ⟨hx377, ⟨hx281, ⟨hx64, ⟨hu193, ⟨hu53, ⟨hu368, ⟨hu72, ⟨hx54, trivial⟩⟩⟩⟩⟩⟩⟩⟩⟩⟩⟩⟩⟩⟩ ⟨⟨o559, trivial⟩, trivial⟩ k560
theorem o624 : EntryOk cx 8 e624 := chain4 cx_ok cx_names cx_intr cx_mixed (tabs := v624) (tbl := t624) ⟨hu11, ⟨hu196, ⟨hu367, ⟨hu118, ⟨hu119, ⟨hx314, ⟨hx377, ⟨hx281, ⟨hx64, ⟨hu193, ⟨hu53, ⟨hu368, ⟨hu72, ⟨hx54, trivial⟩⟩⟩⟩⟩⟩⟩⟩⟩⟩⟩⟩⟩⟩ trivial k624
theorem o657 : EntryOk cx 31 e657 := chain4 cx_ok cx_names cx_intr cx_mixed (tabs := v657) (tbl := t657) ⟨hu196, ⟨hu367, ⟨hu118, ⟨hu119, ⟨hx314, ⟨hx377, ⟨hx281, ⟨hx64, ⟨hu193, ⟨hu53, ⟨hu368, ⟨hu72, ⟨hx54, trivial⟩⟩⟩⟩⟩⟩⟩⟩⟩⟩⟩⟩⟩ trivial k657
theorem o703 : EntryOk cx 10 e703 := chain4 cx_ok cx_names cx_intr cx_mixed (tabs := v703) (tbl := t703) ⟨hu118, ⟨hu119, ⟨hx314, ⟨hx281, ⟨hu193, ⟨hu53, ⟨hu72, trivial⟩⟩⟩⟩⟩⟩⟩ ⟨⟨o657, trivial⟩, trivial⟩ k703
theorem o715 : EntryOk cx 10 e715 := chain4 cx_ok cx_names cx_intr cx_mixed (tabs := v715) (tbl := t715) ⟨hu193, trivial⟩ trivial k715
theorem o853 : EntryOk cx 48 e853 := chain4 cx_ok cx_names cx_intr cx_mixed (tabs := v853) (tbl := t853) ⟨hu196, ⟨hu51, ⟨hu367, ⟨hu118, ⟨hu119, ⟨hx314, ⟨hx23, ⟨hx281, ⟨hu193, ⟨hu53, ⟨hu102, ⟨hu368, ⟨hx54, trivial⟩⟩⟩⟩⟩⟩⟩⟩⟩⟩⟩⟩⟩ trivial k853
theorem o855 : EntryOk cx 21 e855 := chain4 cx_ok cx_names cx_intr cx_mixed (tabs := v855) (tbl := t855) ⟨hu196, ⟨hu367, ⟨hu118, ⟨hu119, ⟨hx314, ⟨hx377, ⟨hx281, ⟨hu193, ⟨hu53, ⟨hu102, ⟨hu368, ⟨hu72, ⟨hx54, trivial⟩⟩⟩⟩⟩⟩⟩⟩⟩⟩⟩⟩⟩ ⟨⟨o853, trivial⟩, trivial⟩ k855
theorem o914 : EntryOk cx 7 e914 := chain4 cx_ok cx_names cx_intr cx_mixed (tabs := v914) (tbl := t914) ⟨hu11, ⟨hu196, ⟨hu51, ⟨hu367, ⟨hu118, ⟨hu119, ⟨hx314, ⟨hx377, ⟨hx23, ⟨hx281, ⟨hx64, ⟨hu193, ⟨hu53, ⟨hu368, ⟨hu72, ⟨hx54, trivial⟩⟩⟩⟩⟩⟩⟩⟩⟩⟩⟩⟩⟩⟩⟩⟩ trivial k914
theorem o978 : EntryOk cx 8 e978 := chain4 cx_ok cx_names cx_intr cx_mixed (tabs := v978) (tbl := t978) ⟨hu11, ⟨hu196, ⟨hu367, ⟨hu118, ⟨hu119, ⟨hx314, ⟨hx377, ⟨hx281, ⟨hx64, ⟨hu193, ⟨hu53, ⟨hu368, ⟨hu72, ⟨hx54, trivial⟩⟩⟩⟩⟩⟩⟩⟩⟩⟩⟩⟩⟩⟩ trivial k978
theorem o979 : EntryOk cx 13 e979 := chain4 cx_ok cx_names cx_intr cx_mixed (tabs := v979) (tbl := t979) ⟨hu160, ⟨hu196, ⟨hu51, ⟨hu367, ⟨hu118, ⟨hu221, ⟨hu119, ⟨hx23, ⟨hx281, ⟨hu193, ⟨hu53, ⟨hu102, ⟨hu368, ⟨hu72, ⟨hx54, trivial⟩⟩⟩⟩⟩⟩⟩⟩⟩⟩⟩⟩⟩⟩⟩ ⟨⟨o855, trivial⟩, ⟨⟨o914, trivial⟩, ⟨⟨o978, trivial⟩, trivial⟩⟩⟩ k979
theorem o980 : EntryOk cx 3 e980 := chain4 cx_ok cx_names cx_intr cx_mixed (tabs := v980) (tbl := t980) ⟨hu72, trivial⟩ ⟨⟨o140, trivial⟩, ⟨⟨o198, ⟨o500, trivial⟩⟩, ⟨⟨o262, ⟨o312, ⟨o440, ⟨o624, trivial⟩⟩⟩⟩, ⟨⟨o388, ⟨o560, trivial⟩⟩, ⟨⟨o703, ⟨o715, trivial⟩⟩, ⟨⟨o979, trivial⟩, trivial⟩⟩⟩⟩⟩⟩ k980
noncomputable def tabs : List (Nat × AO) := [((nat_lit 4), d33)]
theorem known (w : World) (hw : KnownW w tabs) : Calls Tryz.prog 3 #[] w fun e w' => e = .returned (.bool true) ∧ Below w.heap.size w w' := chain_known (C := cx) rfl (l := tabs) (by kernel_rfl) (args := []) rfl o980 rfl w hw
end Go.Proofs.YtppljlchjfgenaaGreatDoor.Hk
