/- The run: its links joined. -/
import Derived.Test.YtclljmbgkpfgkaaGreatDoorAwK0
import Derived.Test.YtclljmbgkpfgkaaGreatDoorAwK1
import Derived.Test.YtclljmbgkpfgkaaGreatDoorAwK2
import Derived.KernelRfl
namespace Go.Proofs.YtclljmbgkpfgkaaGreatDoor.Aw
open Go Go.RowKit Go.Proofs Go.Proofs.YtclljmbgkpfgkaaGreatDoor.X
theorem hz97 : TldsOk cz 97 u97 := (tlds_ok cz_ok cz_names cz_intr cz_mixed rfl (utbl := tu97) trivial ku97_0)
theorem hu97 : TldsOk cx 97 u97 := TldsOk.moreG (C := cx) (C0 := cz) rfl rfl hz97
theorem hz59 : TldsOk cz 59 u59 := (tlds_ok cz_ok cz_names cz_intr cz_mixed rfl (utbl := tu59) trivial ku59_0)
theorem hu59 : TldsOk cx 59 u59 := TldsOk.moreG (C := cx) (C0 := cz) rfl rfl hz59
theorem hz281 : TldsOk cz 281 u281 := (tlds_ok cz_ok cz_names cz_intr cz_mixed rfl (utbl := tu281) trivial ku281_0)
theorem hu281 : TldsOk cx 281 u281 := TldsOk.moreG (C := cx) (C0 := cz) rfl rfl hz281
theorem hz326 : TldsOk cz 326 u326 := (tlds_ok cz_ok cz_names cz_intr cz_mixed rfl (utbl := tu326) trivial ku326_0)
theorem hu326 : TldsOk cx 326 u326 := TldsOk.moreG (C := cx) (C0 := cz) rfl rfl hz326
theorem hz42 : TldsOk cz 42 u42 := (tlds_ok cz_ok cz_names cz_intr cz_mixed rfl (utbl := tu42) trivial ku42_0)
theorem hu42 : TldsOk cx 42 u42 := TldsOk.moreG (C := cx) (C0 := cz) rfl rfl hz42
theorem hz218 : TldsOk cz 218 u218 := (tlds_ok cz_ok cz_names cz_intr cz_mixed rfl (utbl := tu218) ⟨hz281, trivial⟩ ku218_0)
theorem hu218 : TldsOk cx 218 u218 := TldsOk.moreG (C := cx) (C0 := cz) rfl rfl hz218
theorem hz160 : TldsOk cz 160 u160 := (TldsOk.app (tlds_ok cz_ok cz_names cz_intr cz_mixed rfl (utbl := tu160) trivial ku160_0) (tlds_ok cz_ok cz_names cz_intr cz_mixed rfl (utbl := tu160) trivial ku160_1))
theorem hu160 : TldsOk cx 160 u160 := TldsOk.moreG (C := cx) (C0 := cz) rfl rfl hz160
theorem hz57 : TldsOk cz 57 u57 := (tlds_ok cz_ok cz_names cz_intr cz_mixed rfl (utbl := tu57) ⟨hz59, trivial⟩ ku57_0)
theorem hu57 : TldsOk cx 57 u57 := TldsOk.moreG (C := cx) (C0 := cz) rfl rfl hz57
theorem hz50 : TldsOk cz 50 u50 := (tlds_ok cz_ok cz_names cz_intr cz_mixed rfl (utbl := tu50) ⟨hz97, trivial⟩ ku50_0)
theorem hu50 : TldsOk cx 50 u50 := TldsOk.moreG (C := cx) (C0 := cz) rfl rfl hz50
theorem hz359 : TldsOk cz 359 u359 := (tlds_ok cz_ok cz_names cz_intr cz_mixed rfl (utbl := tu359) ⟨hz326, trivial⟩ ku359_0)
theorem hu359 : TldsOk cx 359 u359 := TldsOk.moreG (C := cx) (C0 := cz) rfl rfl hz359
theorem hz159 : TldsOk cz 159 u159 := (tlds_ok cz_ok cz_names cz_intr cz_mixed rfl (utbl := tu159) trivial ku159_0)
theorem hu159 : TldsOk cx 159 u159 := TldsOk.moreG (C := cx) (C0 := cz) rfl rfl hz159
theorem hz122 : TldsOk cz 122 u122 := (tlds_ok cz_ok cz_names cz_intr cz_mixed rfl (utbl := tu122) ⟨hz42, trivial⟩ ku122_0)
theorem hu122 : TldsOk cx 122 u122 := TldsOk.moreG (C := cx) (C0 := cz) rfl rfl hz122
theorem hz325 : TldsOk cz 325 u325 := (tlds_ok cz_ok cz_names cz_intr cz_mixed rfl (utbl := tu325) ⟨hz359, trivial⟩ ku325_0)
theorem hu325 : TldsOk cx 325 u325 := TldsOk.moreG (C := cx) (C0 := cz) rfl rfl hz325
theorem hz110 : TldsOk cz 110 u110 := (tlds_ok cz_ok cz_names cz_intr cz_mixed rfl (utbl := tu110) ⟨hz159, trivial⟩ ku110_0)
theorem hu110 : TldsOk cx 110 u110 := TldsOk.moreG (C := cx) (C0 := cz) rfl rfl hz110
theorem hz21 : TldsOk cz 21 u21 := (tlds_ok cz_ok cz_names cz_intr cz_mixed rfl (utbl := tu21) ⟨hz50, trivial⟩ ku21_0)
theorem hu21 : TldsOk cx 21 u21 := TldsOk.moreG (C := cx) (C0 := cz) rfl rfl hz21
theorem hz162 : TldsOk cz 162 u162 := (tlds_ok cz_ok cz_names cz_intr cz_mixed rfl (utbl := tu162) ⟨hz218, trivial⟩ ku162_0)
theorem hu162 : TldsOk cx 162 u162 := TldsOk.moreG (C := cx) (C0 := cz) rfl rfl hz162
theorem hz111 : TldsOk cz 111 u111 := (tlds_ok cz_ok cz_names cz_intr cz_mixed rfl (utbl := tu111) ⟨hz160, trivial⟩ ku111_0)
theorem hu111 : TldsOk cx 111 u111 := TldsOk.moreG (C := cx) (C0 := cz) rfl rfl hz111
theorem hz23 : TldsOk cz 23 u23 := (tlds_ok cz_ok cz_names cz_intr cz_mixed rfl (utbl := tu23) ⟨hz57, ⟨hz59, trivial⟩⟩ ku23_0)
theorem hu23 : TldsOk cx 23 u23 := TldsOk.moreG (C := cx) (C0 := cz) rfl rfl hz23
theorem hxz95 : KinsOk cz 95 x95 := (KinsOk.app (kins4_ok cz_ok cz_names cz_intr cz_mixed rfl (tabs := xb95) trivial kx95_0) (KinsOk.app (kins4_ok cz_ok cz_names cz_intr cz_mixed rfl (tabs := xb95) trivial kx95_1) (KinsOk.app (kins4_ok cz_ok cz_names cz_intr cz_mixed rfl (tabs := xb95) trivial kx95_2) (KinsOk.app (kins4_ok cz_ok cz_names cz_intr cz_mixed rfl (tabs := xb95) trivial kx95_3) (kins4_ok cz_ok cz_names cz_intr cz_mixed rfl (tabs := xb95) trivial kx95_4)))))
theorem hx95 : KinsOk cx 95 x95 := KinsOk.moreG (C := cx) (C0 := cz) rfl rfl hxz95
theorem hxz48 : KinsOk cz 48 x48 := (kins4_ok cz_ok cz_names cz_intr cz_mixed rfl (tabs := xb48) ⟨hxz95, trivial⟩ kx48_0)
theorem hx48 : KinsOk cx 48 x48 := KinsOk.moreG (C := cx) (C0 := cz) rfl rfl hxz48
theorem hxz339 : KinsOk cz 339 x339 := (kins4_ok cz_ok cz_names cz_intr cz_mixed rfl (tabs := xb339) ⟨hxz48, trivial⟩ kx339_0)
theorem hx339 : KinsOk cx 339 x339 := KinsOk.moreG (C := cx) (C0 := cz) rfl rfl hxz339
theorem hxz233 : KinsOk cz 233 x233 := (kins4_ok cz_ok cz_names cz_intr cz_mixed rfl (tabs := xb233) ⟨hz23, trivial⟩ kx233_0)
theorem hx233 : KinsOk cx 233 x233 := KinsOk.moreG (C := cx) (C0 := cz) rfl rfl hxz233
theorem hxz365 : KinsOk cz 365 x365 := (kins4_ok cz_ok cz_names cz_intr cz_mixed rfl (tabs := xb365) ⟨hxz48, trivial⟩ kx365_0)
theorem hx365 : KinsOk cx 365 x365 := KinsOk.moreG (C := cx) (C0 := cz) rfl rfl hxz365
theorem o2 : EntryOk cx 205 e2 := chain4 cx_ok cx_names cx_intr cx_mixed (tabs := v2) (tbl := t2) trivial trivial k2
theorem o8 : EntryOk cx 205 e8 := chain4 cx_ok cx_names cx_intr cx_mixed (tabs := v8) (tbl := t8) trivial trivial k8
theorem o32 : EntryOk cx 86 e32 := chain4 cx_ok cx_names cx_intr cx_mixed (tabs := v32) (tbl := t32) ⟨hu159, trivial⟩ ⟨⟨o2, ⟨o8, trivial⟩⟩, trivial⟩ k32
theorem o69 : EntryOk cx 87 e69 := chain4 cx_ok cx_names cx_intr cx_mixed (tabs := v69) (tbl := t69) ⟨hu111, ⟨hu162, ⟨hu21, ⟨hu110, ⟨hu325, ⟨hx233, ⟨hu159, ⟨hu23, ⟨hu42, ⟨hu326, ⟨hx48, ⟨hx95, trivial⟩⟩⟩⟩⟩⟩⟩⟩⟩⟩⟩⟩ trivial k69
theorem o149 : EntryOk cx 65 e149 := chain4 cx_ok cx_names cx_intr cx_mixed (tabs := v149) (tbl := t149) ⟨hu111, ⟨hu162, ⟨hu110, ⟨hu325, ⟨hx233, ⟨hx339, ⟨hu159, ⟨hu23, ⟨hu326, ⟨hx48, ⟨hx95, trivial⟩⟩⟩⟩⟩⟩⟩⟩⟩⟩⟩ trivial k149
theorem o153 : EntryOk cx 40 e153 := chain4 cx_ok cx_names cx_intr cx_mixed (tabs := v153) (tbl := t153) ⟨hu111, ⟨hu162, ⟨hu21, ⟨hu110, ⟨hu325, ⟨hu122, ⟨hx365, ⟨hx233, ⟨hx339, ⟨hu159, ⟨hu23, ⟨hu42, ⟨hu326, ⟨hx48, trivial⟩⟩⟩⟩⟩⟩⟩⟩⟩⟩⟩⟩⟩⟩ ⟨⟨o32, trivial⟩, ⟨⟨o69, trivial⟩, ⟨⟨o149, trivial⟩, trivial⟩⟩⟩ k153
theorem o213 : EntryOk cx 24 e213 := chain4 cx_ok cx_names cx_intr cx_mixed (tabs := v213) (tbl := t213) ⟨hu111, ⟨hu162, ⟨hu21, ⟨hu110, ⟨hu325, ⟨hx233, ⟨hu159, ⟨hu23, ⟨hu326, ⟨hx48, ⟨hx95, trivial⟩⟩⟩⟩⟩⟩⟩⟩⟩⟩⟩ trivial k213
theorem o215 : EntryOk cx 6 e215 := chain4 cx_ok cx_names cx_intr cx_mixed (tabs := v215) (tbl := t215) ⟨hu111, ⟨hu162, ⟨hu21, ⟨hu110, ⟨hu325, ⟨hu122, ⟨hx365, ⟨hx233, ⟨hx339, ⟨hu159, ⟨hu23, ⟨hu42, ⟨hu326, ⟨hu57, ⟨hx48, ⟨hu59, trivial⟩⟩⟩⟩⟩⟩⟩⟩⟩⟩⟩⟩⟩⟩⟩⟩ ⟨⟨o213, trivial⟩, trivial⟩ k215
theorem o251 : EntryOk cx 19 e251 := chain4 cx_ok cx_names cx_intr cx_mixed (tabs := v251) (tbl := t251) ⟨hu111, ⟨hu162, ⟨hu110, ⟨hu325, ⟨hu122, ⟨hx365, ⟨hx233, ⟨hx339, ⟨hu159, ⟨hu23, ⟨hu42, ⟨hu326, ⟨hx48, trivial⟩⟩⟩⟩⟩⟩⟩⟩⟩⟩⟩⟩⟩ trivial k251
theorem o282 : EntryOk cx 15 e282 := chain4 cx_ok cx_names cx_intr cx_mixed (tabs := v282) (tbl := t282) ⟨hu111, ⟨hu162, ⟨hu110, ⟨hu325, ⟨hx365, ⟨hx233, ⟨hx339, ⟨hu159, ⟨hu23, ⟨hu326, ⟨hx48, trivial⟩⟩⟩⟩⟩⟩⟩⟩⟩⟩⟩ ⟨⟨o153, trivial⟩, ⟨⟨o215, trivial⟩, ⟨⟨o251, trivial⟩, trivial⟩⟩⟩ k282
noncomputable def tabs : List (Nat × AO) := [((nat_lit 3), d31)]
theorem known (w : World) (hw : KnownW w tabs) : Calls Tryz.prog 15 #[] w fun e w' => e = .returned (.bool true) ∧ Below w.heap.size w w' := chain_known (C := cx) rfl (l := tabs) (by kernel_rfl) (args := []) rfl o282 rfl w hw
end Go.Proofs.YtclljmbgkpfgkaaGreatDoor.Aw
