/- The run: its links joined. -/
import Derived.Test.YtipdbmnlfggndaaGreatDoorBkK0
import Derived.Test.YtipdbmnlfggndaaGreatDoorBkK1
import Derived.Test.YtipdbmnlfggndaaGreatDoorBkK2
import Derived.KernelRfl
namespace Go.Proofs.YtipdbmnlfggndaaGreatDoor.Bk
open Go Go.RowKit Go.Proofs Go.Proofs.YtipdbmnlfggndaaGreatDoor.X
theorem hz275 : TldsOk cz 275 u275 := (tlds_ok cz_ok cz_names cz_intr cz_mixed rfl (utbl := tu275) trivial ku275_0)
theorem hu275 : TldsOk cx 275 u275 := TldsOk.moreG (C := cx) (C0 := cz) rfl rfl hz275
theorem hz211 : TldsOk cz 211 u211 := (tlds_ok cz_ok cz_names cz_intr cz_mixed rfl (utbl := tu211) trivial ku211_0)
theorem hu211 : TldsOk cx 211 u211 := TldsOk.moreG (C := cx) (C0 := cz) rfl rfl hz211
theorem hz261 : TldsOk cz 261 u261 := (tlds_ok cz_ok cz_names cz_intr cz_mixed rfl (utbl := tu261) trivial ku261_0)
theorem hu261 : TldsOk cx 261 u261 := TldsOk.moreG (C := cx) (C0 := cz) rfl rfl hz261
theorem hz294 : TldsOk cz 294 u294 := (tlds_ok cz_ok cz_names cz_intr cz_mixed rfl (utbl := tu294) trivial ku294_0)
theorem hu294 : TldsOk cx 294 u294 := TldsOk.moreG (C := cx) (C0 := cz) rfl rfl hz294
theorem hz204 : TldsOk cz 204 u204 := (tlds_ok cz_ok cz_names cz_intr cz_mixed rfl (utbl := tu204) ⟨hz261, trivial⟩ ku204_0)
theorem hu204 : TldsOk cx 204 u204 := TldsOk.moreG (C := cx) (C0 := cz) rfl rfl hz204
theorem hz209 : TldsOk cz 209 u209 := (tlds_ok cz_ok cz_names cz_intr cz_mixed rfl (utbl := tu209) ⟨hz211, trivial⟩ ku209_0)
theorem hu209 : TldsOk cx 209 u209 := TldsOk.moreG (C := cx) (C0 := cz) rfl rfl hz209
theorem hz305 : TldsOk cz 305 u305 := (tlds_ok cz_ok cz_names cz_intr cz_mixed rfl (utbl := tu305) ⟨hz294, trivial⟩ ku305_0)
theorem hu305 : TldsOk cx 305 u305 := TldsOk.moreG (C := cx) (C0 := cz) rfl rfl hz305
theorem hz38 : TldsOk cz 38 u38 := (tlds_ok cz_ok cz_names cz_intr cz_mixed rfl (utbl := tu38) trivial ku38_0)
theorem hu38 : TldsOk cx 38 u38 := TldsOk.moreG (C := cx) (C0 := cz) rfl rfl hz38
theorem hz231 : TldsOk cz 231 u231 := (tlds_ok cz_ok cz_names cz_intr cz_mixed rfl (utbl := tu231) ⟨hz275, trivial⟩ ku231_0)
theorem hu231 : TldsOk cx 231 u231 := TldsOk.moreG (C := cx) (C0 := cz) rfl rfl hz231
theorem hz114 : TldsOk cz 114 u114 := (tlds_ok cz_ok cz_names cz_intr cz_mixed rfl (utbl := tu114) trivial ku114_0)
theorem hu114 : TldsOk cx 114 u114 := TldsOk.moreG (C := cx) (C0 := cz) rfl rfl hz114
theorem hz154 : TldsOk cz 154 u154 := (TldsOk.app (tlds_ok cz_ok cz_names cz_intr cz_mixed rfl (utbl := tu154) trivial ku154_0) (TldsOk.app (tlds_ok cz_ok cz_names cz_intr cz_mixed rfl (utbl := tu154) trivial ku154_1) (tlds_ok cz_ok cz_names cz_intr cz_mixed rfl (utbl := tu154) trivial ku154_2)))
theorem hu154 : TldsOk cx 154 u154 := TldsOk.moreG (C := cx) (C0 := cz) rfl rfl hz154
theorem hz293 : TldsOk cz 293 u293 := (tlds_ok cz_ok cz_names cz_intr cz_mixed rfl (utbl := tu293) ⟨hz305, trivial⟩ ku293_0)
theorem hu293 : TldsOk cx 293 u293 := TldsOk.moreG (C := cx) (C0 := cz) rfl rfl hz293
theorem hz145 : TldsOk cz 145 u145 := (tlds_ok cz_ok cz_names cz_intr cz_mixed rfl (utbl := tu145) ⟨hz204, trivial⟩ ku145_0)
theorem hu145 : TldsOk cx 145 u145 := TldsOk.moreG (C := cx) (C0 := cz) rfl rfl hz145
theorem hz99 : TldsOk cz 99 u99 := (tlds_ok cz_ok cz_names cz_intr cz_mixed rfl (utbl := tu99) ⟨hz154, trivial⟩ ku99_0)
theorem hu99 : TldsOk cx 99 u99 := TldsOk.moreG (C := cx) (C0 := cz) rfl rfl hz99
theorem hz52 : TldsOk cz 52 u52 := (tlds_ok cz_ok cz_names cz_intr cz_mixed rfl (utbl := tu52) ⟨hz38, trivial⟩ ku52_0)
theorem hu52 : TldsOk cx 52 u52 := TldsOk.moreG (C := cx) (C0 := cz) rfl rfl hz52
theorem hz77 : TldsOk cz 77 u77 := (tlds_ok cz_ok cz_names cz_intr cz_mixed rfl (utbl := tu77) ⟨hz114, trivial⟩ ku77_0)
theorem hu77 : TldsOk cx 77 u77 := TldsOk.moreG (C := cx) (C0 := cz) rfl rfl hz77
theorem hz162 : TldsOk cz 162 u162 := (tlds_ok cz_ok cz_names cz_intr cz_mixed rfl (utbl := tu162) ⟨hz231, trivial⟩ ku162_0)
theorem hu162 : TldsOk cx 162 u162 := TldsOk.moreG (C := cx) (C0 := cz) rfl rfl hz162
theorem hz147 : TldsOk cz 147 u147 := (tlds_ok cz_ok cz_names cz_intr cz_mixed rfl (utbl := tu147) ⟨hz209, ⟨hz211, trivial⟩⟩ ku147_0)
theorem hu147 : TldsOk cx 147 u147 := TldsOk.moreG (C := cx) (C0 := cz) rfl rfl hz147
theorem hz125 : TldsOk cz 125 u125 := (tlds_ok cz_ok cz_names cz_intr cz_mixed rfl (utbl := tu125) trivial ku125_0)
theorem hu125 : TldsOk cx 125 u125 := TldsOk.moreG (C := cx) (C0 := cz) rfl rfl hz125
theorem hz58 : TldsOk cz 58 u58 := (tlds_ok cz_ok cz_names cz_intr cz_mixed rfl (utbl := tu58) trivial ku58_0)
theorem hu58 : TldsOk cx 58 u58 := TldsOk.moreG (C := cx) (C0 := cz) rfl rfl hz58
theorem hxz111 : KinsOk cz 111 x111 := (KinsOk.app (kins4_ok cz_ok cz_names cz_intr cz_mixed rfl (tabs := xb111) trivial kx111_0) (KinsOk.app (kins4_ok cz_ok cz_names cz_intr cz_mixed rfl (tabs := xb111) trivial kx111_1) (KinsOk.app (kins4_ok cz_ok cz_names cz_intr cz_mixed rfl (tabs := xb111) trivial kx111_2) (KinsOk.app (kins4_ok cz_ok cz_names cz_intr cz_mixed rfl (tabs := xb111) trivial kx111_3) (KinsOk.app (kins4_ok cz_ok cz_names cz_intr cz_mixed rfl (tabs := xb111) trivial kx111_4) (KinsOk.app (kins4_ok cz_ok cz_names cz_intr cz_mixed rfl (tabs := xb111) trivial kx111_5) (kins4_ok cz_ok cz_names cz_intr cz_mixed rfl (tabs := xb111) trivial kx111_6)))))))
theorem hx111 : KinsOk cx 111 x111 := KinsOk.moreG (C := cx) (C0 := cz) rfl rfl hxz111
theorem hxz65 : KinsOk cz 65 x65 := (kins4_ok cz_ok cz_names cz_intr cz_mixed rfl (tabs := xb65) ⟨hxz111, trivial⟩ kx65_0)
theorem hx65 : KinsOk cx 65 x65 := KinsOk.moreG (C := cx) (C0 := cz) rfl rfl hxz65
theorem hxz228 : KinsOk cz 228 x228 := (kins4_ok cz_ok cz_names cz_intr cz_mixed rfl (tabs := xb228) ⟨hz147, trivial⟩ kx228_0)
theorem hx228 : KinsOk cx 228 x228 := KinsOk.moreG (C := cx) (C0 := cz) rfl rfl hxz228
theorem hxz182 : KinsOk cz 182 x182 := (kins4_ok cz_ok cz_names cz_intr cz_mixed rfl (tabs := xb182) ⟨hxz65, trivial⟩ kx182_0)
theorem hx182 : KinsOk cx 182 x182 := KinsOk.moreG (C := cx) (C0 := cz) rfl rfl hxz182
theorem hxz127 : KinsOk cz 127 x127 := (kins4_ok cz_ok cz_names cz_intr cz_mixed rfl (tabs := xb127) ⟨hxz182, trivial⟩ kx127_0)
theorem hx127 : KinsOk cx 127 x127 := KinsOk.moreG (C := cx) (C0 := cz) rfl rfl hxz127
theorem hxz51 : KinsOk cz 51 x51 := (kins4_ok cz_ok cz_names cz_intr cz_mixed rfl (tabs := xb51) ⟨hxz65, trivial⟩ kx51_0)
theorem hx51 : KinsOk cx 51 x51 := KinsOk.moreG (C := cx) (C0 := cz) rfl rfl hxz51
theorem hxz308 : KinsOk cz 308 x308 := (kins4_ok cz_ok cz_names cz_intr cz_mixed rfl (tabs := xb308) ⟨hxz65, trivial⟩ kx308_0)
theorem hx308 : KinsOk cx 308 x308 := KinsOk.moreG (C := cx) (C0 := cz) rfl rfl hxz308
theorem hxz40 : KinsOk cz 40 x40 := (kins4_ok cz_ok cz_names cz_intr cz_mixed rfl (tabs := xb40) ⟨hz52, trivial⟩ kx40_0)
theorem hx40 : KinsOk cx 40 x40 := KinsOk.moreG (C := cx) (C0 := cz) rfl rfl hxz40
theorem o58 : EntryOk cx 5 e58 := chain4 cx_ok cx_names cx_intr cx_mixed (tabs := v58) (tbl := t58) ⟨hu125, ⟨hu162, ⟨hu77, ⟨hu99, ⟨hu145, ⟨hu293, ⟨hx51, ⟨hu114, ⟨hu52, ⟨hx228, ⟨hu294, ⟨hu38, ⟨hu147, ⟨hx65, trivial⟩⟩⟩⟩⟩⟩⟩⟩⟩⟩⟩⟩⟩⟩ trivial k58
theorem o136 : EntryOk cx 50 e136 := chain4 cx_ok cx_names cx_intr cx_mixed (tabs := v136) (tbl := t136) ⟨hu162, ⟨hu77, ⟨hu99, ⟨hu293, ⟨hu114, ⟨hx182, ⟨hx228, ⟨hu294, ⟨hu147, ⟨hx65, ⟨hx111, trivial⟩⟩⟩⟩⟩⟩⟩⟩⟩⟩⟩ trivial k136
theorem o139 : EntryOk cx 6 e139 := chain4 cx_ok cx_names cx_intr cx_mixed (tabs := v139) (tbl := t139) ⟨hu162, ⟨hu77, ⟨hu99, ⟨hu145, ⟨hu293, ⟨hx40, ⟨hx308, ⟨hu114, ⟨hu52, ⟨hx182, ⟨hx228, ⟨hu294, ⟨hu38, ⟨hu147, ⟨hx65, trivial⟩⟩⟩⟩⟩⟩⟩⟩⟩⟩⟩⟩⟩⟩⟩ ⟨⟨o136, trivial⟩, trivial⟩ k139
theorem o202 : EntryOk cx 16 e202 := chain4 cx_ok cx_names cx_intr cx_mixed (tabs := v202) (tbl := t202) ⟨hu162, ⟨hu77, ⟨hu99, ⟨hu145, ⟨hu293, ⟨hu114, ⟨hu52, ⟨hx228, ⟨hu294, ⟨hu147, ⟨hx65, ⟨hx111, trivial⟩⟩⟩⟩⟩⟩⟩⟩⟩⟩⟩⟩ trivial k202
theorem o203 : EntryOk cx 5 e203 := chain4 cx_ok cx_names cx_intr cx_mixed (tabs := v203) (tbl := t203) ⟨hu77, ⟨hu99, ⟨hu114, ⟨hx182, ⟨hx228, ⟨hu38, ⟨hu147, trivial⟩⟩⟩⟩⟩⟩⟩ ⟨⟨o202, trivial⟩, trivial⟩ k203
theorem o268 : EntryOk cx 14 e268 := chain4 cx_ok cx_names cx_intr cx_mixed (tabs := v268) (tbl := t268) ⟨hu162, ⟨hu77, ⟨hu99, ⟨hu293, ⟨hx308, ⟨hu114, ⟨hu52, ⟨hx182, ⟨hx228, ⟨hu294, ⟨hu38, ⟨hu147, ⟨hx65, trivial⟩⟩⟩⟩⟩⟩⟩⟩⟩⟩⟩⟩⟩ trivial k268
theorem o303 : EntryOk cx 14 e303 := chain4 cx_ok cx_names cx_intr cx_mixed (tabs := v303) (tbl := t303) ⟨hu162, ⟨hu77, ⟨hu99, ⟨hu293, ⟨hx308, ⟨hu114, ⟨hu52, ⟨hx182, ⟨hx228, ⟨hu294, ⟨hu38, ⟨hu147, ⟨hx65, trivial⟩⟩⟩⟩⟩⟩⟩⟩⟩⟩⟩⟩⟩ trivial k303
theorem o304 : EntryOk cx 8 e304 := chain4 cx_ok cx_names cx_intr cx_mixed (tabs := v304) (tbl := t304) ⟨hu77, ⟨hu114, ⟨hx182, ⟨hx228, ⟨hu147, trivial⟩⟩⟩⟩⟩ ⟨⟨o268, ⟨o303, trivial⟩⟩, trivial⟩ k304
theorem o339 : EntryOk cx 14 e339 := chain4 cx_ok cx_names cx_intr cx_mixed (tabs := v339) (tbl := t339) ⟨hu162, ⟨hu77, ⟨hu99, ⟨hu293, ⟨hx308, ⟨hu114, ⟨hu52, ⟨hx182, ⟨hx228, ⟨hu294, ⟨hu38, ⟨hu147, ⟨hx65, trivial⟩⟩⟩⟩⟩⟩⟩⟩⟩⟩⟩⟩⟩ trivial k339
theorem o369 : EntryOk cx 15 e369 := chain4 cx_ok cx_names cx_intr cx_mixed (tabs := v369) (tbl := t369) ⟨hu77, ⟨hu114, ⟨hx182, ⟨hx228, ⟨hu147, trivial⟩⟩⟩⟩⟩ trivial k369
theorem o424 : EntryOk cx 7 e424 := chain4 cx_ok cx_names cx_intr cx_mixed (tabs := v424) (tbl := t424) ⟨hu162, ⟨hu77, ⟨hu99, ⟨hu114, ⟨hx182, ⟨hx228, ⟨hu147, ⟨hx111, trivial⟩⟩⟩⟩⟩⟩⟩⟩ ⟨⟨o339, trivial⟩, ⟨⟨o369, trivial⟩, trivial⟩⟩ k424
theorem o481 : EntryOk cx 8 e481 := chain4 cx_ok cx_names cx_intr cx_mixed (tabs := v481) (tbl := t481) ⟨hu162, ⟨hu77, ⟨hu99, ⟨hu293, ⟨hx308, ⟨hx127, ⟨hu114, ⟨hu52, ⟨hx182, ⟨hx228, ⟨hu294, ⟨hu38, ⟨hu147, ⟨hx65, trivial⟩⟩⟩⟩⟩⟩⟩⟩⟩⟩⟩⟩⟩⟩ trivial k481
theorem o574 : EntryOk cx 5 e574 := chain4 cx_ok cx_names cx_intr cx_mixed (tabs := v574) (tbl := t574) ⟨hu162, ⟨hu77, ⟨hu99, ⟨hu293, ⟨hx40, ⟨hx308, ⟨hu114, ⟨hx182, ⟨hx228, ⟨hu294, ⟨hu38, ⟨hu147, ⟨hx65, trivial⟩⟩⟩⟩⟩⟩⟩⟩⟩⟩⟩⟩⟩ trivial k574
theorem o607 : EntryOk cx 14 e607 := chain4 cx_ok cx_names cx_intr cx_mixed (tabs := v607) (tbl := t607) ⟨hu162, ⟨hu77, ⟨hu99, ⟨hu293, ⟨hx40, ⟨hx308, ⟨hu114, ⟨hx182, ⟨hx228, ⟨hu294, ⟨hu38, ⟨hu147, ⟨hx65, trivial⟩⟩⟩⟩⟩⟩⟩⟩⟩⟩⟩⟩⟩ trivial k607
theorem o608 : EntryOk cx 9 e608 := chain4 cx_ok cx_names cx_intr cx_mixed (tabs := v608) (tbl := t608) ⟨hu58, ⟨hu125, ⟨hu162, ⟨hu77, ⟨hu99, ⟨hu145, ⟨hu293, ⟨hx51, ⟨hu114, ⟨hu52, ⟨hx228, ⟨hu294, ⟨hu38, ⟨hu147, ⟨hx65, trivial⟩⟩⟩⟩⟩⟩⟩⟩⟩⟩⟩⟩⟩⟩⟩ ⟨⟨o574, trivial⟩, ⟨⟨o607, trivial⟩, trivial⟩⟩ k608
theorem o609 : EntryOk cx 3 e609 := chain4 cx_ok cx_names cx_intr cx_mixed (tabs := v609) (tbl := t609) ⟨hu58, ⟨hu125, ⟨hu77, ⟨hu99, ⟨hu114, ⟨hu38, ⟨hx65, trivial⟩⟩⟩⟩⟩⟩⟩ ⟨⟨o58, ⟨o203, trivial⟩⟩, ⟨⟨o139, trivial⟩, ⟨⟨o304, ⟨o481, trivial⟩⟩, ⟨⟨o424, trivial⟩, ⟨⟨o608, trivial⟩, trivial⟩⟩⟩⟩⟩ k609
noncomputable def tabs : List (Nat × AO) := [((nat_lit 4), d30)]
theorem known (w : World) (hw : KnownW w tabs) : Calls Tryz.prog 3 #[] w fun e w' => e = .returned (.bool true) ∧ Below w.heap.size w w' := chain_known (C := cx) rfl (l := tabs) (by kernel_rfl) (args := []) rfl o609 rfl w hw
end Go.Proofs.YtipdbmnlfggndaaGreatDoor.Bk
