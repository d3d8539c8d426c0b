/- The run: its links joined. -/
import Derived.Test.YtoddlefhlicfiaaGreatDoorRAwK0
import Derived.Test.YtoddlefhlicfiaaGreatDoorRAwK1
import Derived.Test.YtoddlefhlicfiaaGreatDoorRAwK2
import Derived.KernelRfl
namespace Go.Proofs.YtoddlefhlicfiaaGreatDoorR.Aw
open Go Go.RowKit Go.Proofs Go.Proofs.YtoddlefhlicfiaaGreatDoorR.X
theorem hz265 : TldsOk cz 265 u265 := (tlds_ok cz_ok cz_names cz_intr cz_mixed rfl (utbl := tu265) trivial ku265_0)
theorem hu265 : TldsOk cx 265 u265 := TldsOk.moreG (C := cx) (C0 := cz) rfl rfl hz265
theorem hz200 : TldsOk cz 200 u200 := (tlds_ok cz_ok cz_names cz_intr cz_mixed rfl (utbl := tu200) trivial ku200_0)
theorem hu200 : TldsOk cx 200 u200 := TldsOk.moreG (C := cx) (C0 := cz) rfl rfl hz200
theorem hz285 : TldsOk cz 285 u285 := (tlds_ok cz_ok cz_names cz_intr cz_mixed rfl (utbl := tu285) trivial ku285_0)
theorem hu285 : TldsOk cx 285 u285 := TldsOk.moreG (C := cx) (C0 := cz) rfl rfl hz285
theorem hz216 : TldsOk cz 216 u216 := (tlds_ok cz_ok cz_names cz_intr cz_mixed rfl (utbl := tu216) ⟨hz265, trivial⟩ ku216_0)
theorem hu216 : TldsOk cx 216 u216 := TldsOk.moreG (C := cx) (C0 := cz) rfl rfl hz216
theorem hz296 : TldsOk cz 296 u296 := (tlds_ok cz_ok cz_names cz_intr cz_mixed rfl (utbl := tu296) ⟨hz285, trivial⟩ ku296_0)
theorem hu296 : TldsOk cx 296 u296 := TldsOk.moreG (C := cx) (C0 := cz) rfl rfl hz296
theorem hz152 : TldsOk cz 152 u152 := (tlds_ok cz_ok cz_names cz_intr cz_mixed rfl (utbl := tu152) trivial ku152_0)
theorem hu152 : TldsOk cx 152 u152 := TldsOk.moreG (C := cx) (C0 := cz) rfl rfl hz152
theorem hz24 : TldsOk cz 24 u24 := (tlds_ok cz_ok cz_names cz_intr cz_mixed rfl (utbl := tu24) trivial ku24_0)
theorem hu24 : TldsOk cx 24 u24 := TldsOk.moreG (C := cx) (C0 := cz) rfl rfl hz24
theorem hz198 : TldsOk cz 198 u198 := (tlds_ok cz_ok cz_names cz_intr cz_mixed rfl (utbl := tu198) ⟨hz200, trivial⟩ ku198_0)
theorem hu198 : TldsOk cx 198 u198 := TldsOk.moreG (C := cx) (C0 := cz) rfl rfl hz198
theorem hz115 : TldsOk cz 115 u115 := (tlds_ok cz_ok cz_names cz_intr cz_mixed rfl (utbl := tu115) trivial ku115_0)
theorem hu115 : TldsOk cx 115 u115 := TldsOk.moreG (C := cx) (C0 := cz) rfl rfl hz115
theorem hz102 : TldsOk cz 102 u102 := (tlds_ok cz_ok cz_names cz_intr cz_mixed rfl (utbl := tu102) ⟨hz152, trivial⟩ ku102_0)
theorem hu102 : TldsOk cx 102 u102 := TldsOk.moreG (C := cx) (C0 := cz) rfl rfl hz102
theorem hz14 : TldsOk cz 14 u14 := (tlds_ok cz_ok cz_names cz_intr cz_mixed rfl (utbl := tu14) ⟨hz24, trivial⟩ ku14_0)
theorem hu14 : TldsOk cx 14 u14 := TldsOk.moreG (C := cx) (C0 := cz) rfl rfl hz14
theorem hz143 : TldsOk cz 143 u143 := (tlds_ok cz_ok cz_names cz_intr cz_mixed rfl (utbl := tu143) ⟨hz198, ⟨hz200, trivial⟩⟩ ku143_0)
theorem hu143 : TldsOk cx 143 u143 := TldsOk.moreG (C := cx) (C0 := cz) rfl rfl hz143
theorem hz84 : TldsOk cz 84 u84 := (tlds_ok cz_ok cz_names cz_intr cz_mixed rfl (utbl := tu84) ⟨hz115, trivial⟩ ku84_0)
theorem hu84 : TldsOk cx 84 u84 := TldsOk.moreG (C := cx) (C0 := cz) rfl rfl hz84
theorem hz284 : TldsOk cz 284 u284 := (tlds_ok cz_ok cz_names cz_intr cz_mixed rfl (utbl := tu284) ⟨hz296, trivial⟩ ku284_0)
theorem hu284 : TldsOk cx 284 u284 := TldsOk.moreG (C := cx) (C0 := cz) rfl rfl hz284
theorem hz154 : TldsOk cz 154 u154 := (tlds_ok cz_ok cz_names cz_intr cz_mixed rfl (utbl := tu154) ⟨hz216, trivial⟩ ku154_0)
theorem hu154 : TldsOk cx 154 u154 := TldsOk.moreG (C := cx) (C0 := cz) rfl rfl hz154
theorem hxz112 : KinsOk cz 112 x112 := (KinsOk.app (kins4_ok cz_ok cz_names cz_intr cz_mixed rfl (tabs := xb112) trivial kx112_0) (kins4_ok cz_ok cz_names cz_intr cz_mixed rfl (tabs := xb112) trivial kx112_1))
theorem hx112 : KinsOk cx 112 x112 := KinsOk.moreG (C := cx) (C0 := cz) rfl rfl hxz112
theorem hxz72 : KinsOk cz 72 x72 := (kins4_ok cz_ok cz_names cz_intr cz_mixed rfl (tabs := xb72) ⟨hxz112, trivial⟩ kx72_0)
theorem hx72 : KinsOk cx 72 x72 := KinsOk.moreG (C := cx) (C0 := cz) rfl rfl hxz72
theorem hxz178 : KinsOk cz 178 x178 := (kins4_ok cz_ok cz_names cz_intr cz_mixed rfl (tabs := xb178) ⟨hxz72, trivial⟩ kx178_0)
theorem hx178 : KinsOk cx 178 x178 := KinsOk.moreG (C := cx) (C0 := cz) rfl rfl hxz178
theorem hxz238 : KinsOk cz 238 x238 := (kins4_ok cz_ok cz_names cz_intr cz_mixed rfl (tabs := xb238) ⟨hz143, trivial⟩ kx238_0)
theorem hx238 : KinsOk cx 238 x238 := KinsOk.moreG (C := cx) (C0 := cz) rfl rfl hxz238
theorem hxz299 : KinsOk cz 299 x299 := (kins4_ok cz_ok cz_names cz_intr cz_mixed rfl (tabs := xb299) ⟨hxz72, trivial⟩ kx299_0)
theorem hx299 : KinsOk cx 299 x299 := KinsOk.moreG (C := cx) (C0 := cz) rfl rfl hxz299
theorem o2 : EntryOk cx 38 e2 := chain4 cx_ok cx_names cx_intr cx_mixed (tabs := v2) (tbl := t2) trivial trivial k2
theorem o8 : EntryOk cx 38 e8 := chain4 cx_ok cx_names cx_intr cx_mixed (tabs := v8) (tbl := t8) trivial trivial k8
theorem o32 : EntryOk cx 11 e32 := chain4 cx_ok cx_names cx_intr cx_mixed (tabs := v32) (tbl := t32) ⟨hu115, trivial⟩ ⟨⟨o2, ⟨o8, trivial⟩⟩, trivial⟩ k32
theorem o70 : EntryOk cx 12 e70 := chain4 cx_ok cx_names cx_intr cx_mixed (tabs := v70) (tbl := t70) ⟨hu154, ⟨hu284, ⟨hu84, ⟨hu14, ⟨hu102, ⟨hx238, ⟨hu115, ⟨hu24, ⟨hu143, ⟨hu285, ⟨hx72, ⟨hx112, trivial⟩⟩⟩⟩⟩⟩⟩⟩⟩⟩⟩⟩ trivial k70
theorem o106 : EntryOk cx 12 e106 := chain4 cx_ok cx_names cx_intr cx_mixed (tabs := v106) (tbl := t106) ⟨hu154, ⟨hu284, ⟨hu84, ⟨hu14, ⟨hu102, ⟨hx299, ⟨hx238, ⟨hx178, ⟨hu115, ⟨hu24, ⟨hu143, ⟨hu285, ⟨hx72, trivial⟩⟩⟩⟩⟩⟩⟩⟩⟩⟩⟩⟩⟩ trivial k106
theorem o142 : EntryOk cx 4 e142 := chain4 cx_ok cx_names cx_intr cx_mixed (tabs := v142) (tbl := t142) ⟨hu154, ⟨hu284, ⟨hu84, ⟨hu14, ⟨hu102, ⟨hx299, ⟨hx238, ⟨hx178, ⟨hu115, ⟨hu24, ⟨hu143, ⟨hu285, ⟨hx72, trivial⟩⟩⟩⟩⟩⟩⟩⟩⟩⟩⟩⟩⟩ ⟨⟨o32, trivial⟩, ⟨⟨o70, ⟨o106, trivial⟩⟩, trivial⟩⟩ k142
noncomputable def tabs : List (Nat × AO) := [((nat_lit 4), d18)]
theorem known (w : World) (hw : KnownW w tabs) : Calls Tryz.prog 4 #[] w fun e w' => e = .returned (.bool true) ∧ Below w.heap.size w w' := chain_known (C := cx) rfl (l := tabs) (by kernel_rfl) (args := []) rfl o142 rfl w hw
end Go.Proofs.YtoddlefhlicfiaaGreatDoorR.Aw
