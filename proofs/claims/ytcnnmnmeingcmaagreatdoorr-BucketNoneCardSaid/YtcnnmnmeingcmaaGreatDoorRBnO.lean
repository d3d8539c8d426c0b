/- The run: its links joined. -/
import Derived.Test.YtcnnmnmeingcmaaGreatDoorRBnK0
import Derived.Test.YtcnnmnmeingcmaaGreatDoorRBnK1
import Derived.KernelRfl
namespace Go.Proofs.YtcnnmnmeingcmaaGreatDoorR.Bn
open Go Go.RowKit Go.Proofs Go.Proofs.YtcnnmnmeingcmaaGreatDoorR.X
theorem hz215 : TldsOk cz 215 u215 := (tlds_ok cz_ok cz_names cz_intr cz_mixed rfl (utbl := tu215) trivial ku215_0)
theorem hu215 : TldsOk cx 215 u215 := TldsOk.moreG (C := cx) (C0 := cz) rfl rfl hz215
theorem hz175 : TldsOk cz 175 u175 := (tlds_ok cz_ok cz_names cz_intr cz_mixed rfl (utbl := tu175) trivial ku175_0)
theorem hu175 : TldsOk cx 175 u175 := TldsOk.moreG (C := cx) (C0 := cz) rfl rfl hz175
theorem hz293 : TldsOk cz 293 u293 := (tlds_ok cz_ok cz_names cz_intr cz_mixed rfl (utbl := tu293) trivial ku293_0)
theorem hu293 : TldsOk cx 293 u293 := TldsOk.moreG (C := cx) (C0 := cz) rfl rfl hz293
theorem hz26 : TldsOk cz 26 u26 := (tlds_ok cz_ok cz_names cz_intr cz_mixed rfl (utbl := tu26) trivial ku26_0)
theorem hu26 : TldsOk cx 26 u26 := TldsOk.moreG (C := cx) (C0 := cz) rfl rfl hz26
theorem hz310 : TldsOk cz 310 u310 := (tlds_ok cz_ok cz_names cz_intr cz_mixed rfl (utbl := tu310) ⟨hz293, trivial⟩ ku310_0)
theorem hu310 : TldsOk cx 310 u310 := TldsOk.moreG (C := cx) (C0 := cz) rfl rfl hz310
theorem hz88 : TldsOk cz 88 u88 := (tlds_ok cz_ok cz_names cz_intr cz_mixed rfl (utbl := tu88) trivial ku88_0)
theorem hu88 : TldsOk cx 88 u88 := TldsOk.moreG (C := cx) (C0 := cz) rfl rfl hz88
theorem hz153 : TldsOk cz 153 u153 := (tlds_ok cz_ok cz_names cz_intr cz_mixed rfl (utbl := tu153) ⟨hz215, trivial⟩ ku153_0)
theorem hu153 : TldsOk cx 153 u153 := TldsOk.moreG (C := cx) (C0 := cz) rfl rfl hz153
theorem hz87 : TldsOk cz 87 u87 := (tlds_ok cz_ok cz_names cz_intr cz_mixed rfl (utbl := tu87) trivial ku87_0)
theorem hu87 : TldsOk cx 87 u87 := TldsOk.moreG (C := cx) (C0 := cz) rfl rfl hz87
theorem hz173 : TldsOk cz 173 u173 := (tlds_ok cz_ok cz_names cz_intr cz_mixed rfl (utbl := tu173) ⟨hz175, trivial⟩ ku173_0)
theorem hu173 : TldsOk cx 173 u173 := TldsOk.moreG (C := cx) (C0 := cz) rfl rfl hz173
theorem hz30 : TldsOk cz 30 u30 := (tlds_ok cz_ok cz_names cz_intr cz_mixed rfl (utbl := tu30) ⟨hz26, trivial⟩ ku30_0)
theorem hu30 : TldsOk cx 30 u30 := TldsOk.moreG (C := cx) (C0 := cz) rfl rfl hz30
theorem hz292 : TldsOk cz 292 u292 := (tlds_ok cz_ok cz_names cz_intr cz_mixed rfl (utbl := tu292) ⟨hz310, trivial⟩ ku292_0)
theorem hu292 : TldsOk cx 292 u292 := TldsOk.moreG (C := cx) (C0 := cz) rfl rfl hz292
theorem hz49 : TldsOk cz 49 u49 := (tlds_ok cz_ok cz_names cz_intr cz_mixed rfl (utbl := tu49) ⟨hz88, trivial⟩ ku49_0)
theorem hu49 : TldsOk cx 49 u49 := TldsOk.moreG (C := cx) (C0 := cz) rfl rfl hz49
theorem hz110 : TldsOk cz 110 u110 := (tlds_ok cz_ok cz_names cz_intr cz_mixed rfl (utbl := tu110) ⟨hz173, ⟨hz175, trivial⟩⟩ ku110_0)
theorem hu110 : TldsOk cx 110 u110 := TldsOk.moreG (C := cx) (C0 := cz) rfl rfl hz110
theorem hz48 : TldsOk cz 48 u48 := (tlds_ok cz_ok cz_names cz_intr cz_mixed rfl (utbl := tu48) ⟨hz87, trivial⟩ ku48_0)
theorem hu48 : TldsOk cx 48 u48 := TldsOk.moreG (C := cx) (C0 := cz) rfl rfl hz48
theorem hz90 : TldsOk cz 90 u90 := (tlds_ok cz_ok cz_names cz_intr cz_mixed rfl (utbl := tu90) ⟨hz153, trivial⟩ ku90_0)
theorem hu90 : TldsOk cx 90 u90 := TldsOk.moreG (C := cx) (C0 := cz) rfl rfl hz90
theorem hxz116 : KinsOk cz 116 x116 := (KinsOk.app (kins_ok cz_ok cz_names cz_intr cz_mixed rfl (ktbl := xk116) (utbl := xu116) trivial trivial kx116_0) (kins_ok cz_ok cz_names cz_intr cz_mixed rfl (ktbl := xk116) (utbl := xu116) trivial trivial kx116_1))
theorem hx116 : KinsOk cx 116 x116 := KinsOk.moreG (C := cx) (C0 := cz) rfl rfl hxz116
theorem hxz66 : KinsOk cz 66 x66 := (kins_ok cz_ok cz_names cz_intr cz_mixed rfl (ktbl := xk66) (utbl := xu66) ⟨hxz116, trivial⟩ trivial kx66_0)
theorem hx66 : KinsOk cx 66 x66 := KinsOk.moreG (C := cx) (C0 := cz) rfl rfl hxz66
theorem hxz266 : KinsOk cz 266 x266 := (kins_ok cz_ok cz_names cz_intr cz_mixed rfl (ktbl := xk266) (utbl := xu266) ⟨hxz66, trivial⟩ trivial kx266_0)
theorem hx266 : KinsOk cx 266 x266 := KinsOk.moreG (C := cx) (C0 := cz) rfl rfl hxz266
theorem hxz301 : KinsOk cz 301 x301 := (kins_ok cz_ok cz_names cz_intr cz_mixed rfl (ktbl := xk301) (utbl := xu301) ⟨hxz66, trivial⟩ trivial kx301_0)
theorem hx301 : KinsOk cx 301 x301 := KinsOk.moreG (C := cx) (C0 := cz) rfl rfl hxz301
theorem hxz191 : KinsOk cz 191 x191 := (kins_ok cz_ok cz_names cz_intr cz_mixed rfl (ktbl := xk191) (utbl := xu191) trivial ⟨hz110, trivial⟩ kx191_0)
theorem hx191 : KinsOk cx 191 x191 := KinsOk.moreG (C := cx) (C0 := cz) rfl rfl hxz191
theorem o2 : EntryOk cx 80 e2 := chain3 cx_ok cx_names cx_intr cx_mixed (ktbl := y2) (utbl := v2) (tbl := t2) trivial trivial trivial k2
theorem o8 : EntryOk cx 80 e8 := chain3 cx_ok cx_names cx_intr cx_mixed (ktbl := y8) (utbl := v8) (tbl := t8) trivial trivial trivial k8
theorem o32 : EntryOk cx 24 e32 := chain3 cx_ok cx_names cx_intr cx_mixed (ktbl := y32) (utbl := v32) (tbl := t32) trivial ⟨hu87, trivial⟩ ⟨⟨o2, ⟨o8, trivial⟩⟩, trivial⟩ k32
theorem o70 : EntryOk cx 6 e70 := chain3 cx_ok cx_names cx_intr cx_mixed (ktbl := y70) (utbl := v70) (tbl := t70) ⟨hx191, ⟨hx66, ⟨hx116, trivial⟩⟩⟩ ⟨hu90, ⟨hu48, ⟨hu110, ⟨hu49, ⟨hu292, ⟨hu30, ⟨hu87, ⟨hu26, ⟨hu293, trivial⟩⟩⟩⟩⟩⟩⟩⟩⟩ trivial k70
theorem o106 : EntryOk cx 6 e106 := chain3 cx_ok cx_names cx_intr cx_mixed (ktbl := y106) (utbl := v106) (tbl := t106) ⟨hx191, ⟨hx301, ⟨hx266, ⟨hx66, trivial⟩⟩⟩⟩ ⟨hu90, ⟨hu48, ⟨hu110, ⟨hu49, ⟨hu292, ⟨hu30, ⟨hu87, ⟨hu26, ⟨hu293, trivial⟩⟩⟩⟩⟩⟩⟩⟩⟩ trivial k106
theorem o143 (p0 : ByteArray) : EntryOk cx 3 (e143 p0) := chain3 cx_ok cx_names cx_intr cx_mixed (ktbl := y143) (utbl := v143) (tbl := t143) ⟨hx191, ⟨hx301, ⟨hx266, ⟨hx66, trivial⟩⟩⟩⟩ ⟨hu90, ⟨hu48, ⟨hu110, ⟨hu49, ⟨hu292, ⟨hu30, ⟨hu87, ⟨hu26, ⟨hu293, trivial⟩⟩⟩⟩⟩⟩⟩⟩⟩ ⟨⟨o32, trivial⟩, ⟨⟨o70, ⟨o106, trivial⟩⟩, trivial⟩⟩ (k143 p0)
noncomputable def tabs : List (Nat × AO) := [((nat_lit 4), d18)]
theorem known (p0 : ByteArray) (w : World) (hw : KnownW w tabs) : Calls Tryz.prog 3 #[.string p0] w fun e w' => e = .returned (.bool true) ∧ Below w.heap.size w w' := chain_known (C := cx) rfl (l := tabs) (by kernel_rfl) (args := [.string p0]) rfl (o143 p0) rfl w hw
end Go.Proofs.YtcnnmnmeingcmaaGreatDoorR.Bn
