/- The run: its links joined. -/
import Derived.Test.YtlemfpipiooiaaaGreatDoorUkK0
import Derived.Test.YtlemfpipiooiaaaGreatDoorUkK1
import Derived.Test.YtlemfpipiooiaaaGreatDoorUkK2
import Derived.Test.YtlemfpipiooiaaaGreatDoorUkK3
import Derived.KernelRfl
namespace Go.Proofs.YtlemfpipiooiaaaGreatDoor.Uk
open Go Go.RowKit Go.Proofs Go.Proofs.YtlemfpipiooiaaaGreatDoor.X
theorem hz214 : TldsOk cz 214 u214 := (tlds_ok cz_ok cz_names cz_intr cz_mixed rfl (utbl := tu214) trivial ku214_0)
theorem hu214 : TldsOk cx 214 u214 := TldsOk.moreG (C := cx) (C0 := cz) rfl rfl hz214
theorem hz336 : TldsOk cz 336 u336 := (tlds_ok cz_ok cz_names cz_intr cz_mixed rfl (utbl := tu336) trivial ku336_0)
theorem hu336 : TldsOk cx 336 u336 := TldsOk.moreG (C := cx) (C0 := cz) rfl rfl hz336
theorem hz133 : TldsOk cz 133 u133 := (tlds_ok cz_ok cz_names cz_intr cz_mixed rfl (utbl := tu133) trivial ku133_0)
theorem hu133 : TldsOk cx 133 u133 := TldsOk.moreG (C := cx) (C0 := cz) rfl rfl hz133
theorem hz93 : TldsOk cz 93 u93 := (tlds_ok cz_ok cz_names cz_intr cz_mixed rfl (utbl := tu93) trivial ku93_0)
theorem hu93 : TldsOk cx 93 u93 := TldsOk.moreG (C := cx) (C0 := cz) rfl rfl hz93
theorem hz360 : TldsOk cz 360 u360 := (tlds_ok cz_ok cz_names cz_intr cz_mixed rfl (utbl := tu360) trivial ku360_0)
theorem hu360 : TldsOk cx 360 u360 := TldsOk.moreG (C := cx) (C0 := cz) rfl rfl hz360
theorem hz373 : TldsOk cz 373 u373 := (tlds_ok cz_ok cz_names cz_intr cz_mixed rfl (utbl := tu373) ⟨hz360, trivial⟩ ku373_0)
theorem hu373 : TldsOk cx 373 u373 := TldsOk.moreG (C := cx) (C0 := cz) rfl rfl hz373
theorem hz131 : TldsOk cz 131 u131 := (tlds_ok cz_ok cz_names cz_intr cz_mixed rfl (utbl := tu131) ⟨hz133, trivial⟩ ku131_0)
theorem hu131 : TldsOk cx 131 u131 := TldsOk.moreG (C := cx) (C0 := cz) rfl rfl hz131
theorem hz126 : TldsOk cz 126 u126 := (tlds_ok cz_ok cz_names cz_intr cz_mixed rfl (utbl := tu126) ⟨hz214, trivial⟩ ku126_0)
theorem hu126 : TldsOk cx 126 u126 := TldsOk.moreG (C := cx) (C0 := cz) rfl rfl hz126
theorem hz153 : TldsOk cz 153 u153 := (tlds_ok cz_ok cz_names cz_intr cz_mixed rfl (utbl := tu153) ⟨hz93, trivial⟩ ku153_0)
theorem hu153 : TldsOk cx 153 u153 := TldsOk.moreG (C := cx) (C0 := cz) rfl rfl hz153
theorem hz277 : TldsOk cz 277 u277 := (tlds_ok cz_ok cz_names cz_intr cz_mixed rfl (utbl := tu277) ⟨hz336, trivial⟩ ku277_0)
theorem hu277 : TldsOk cx 277 u277 := TldsOk.moreG (C := cx) (C0 := cz) rfl rfl hz277
theorem hz204 : TldsOk cz 204 u204 := (TldsOk.app (tlds_ok cz_ok cz_names cz_intr cz_mixed rfl (utbl := tu204) trivial ku204_0) (TldsOk.app (tlds_ok cz_ok cz_names cz_intr cz_mixed rfl (utbl := tu204) trivial ku204_1) (tlds_ok cz_ok cz_names cz_intr cz_mixed rfl (utbl := tu204) trivial ku204_2)))
theorem hu204 : TldsOk cx 204 u204 := TldsOk.moreG (C := cx) (C0 := cz) rfl rfl hz204
theorem hz203 : TldsOk cz 203 u203 := (tlds_ok cz_ok cz_names cz_intr cz_mixed rfl (utbl := tu203) trivial ku203_0)
theorem hu203 : TldsOk cx 203 u203 := TldsOk.moreG (C := cx) (C0 := cz) rfl rfl hz203
theorem hz69 : TldsOk cz 69 u69 := (tlds_ok cz_ok cz_names cz_intr cz_mixed rfl (utbl := tu69) ⟨hz126, trivial⟩ ku69_0)
theorem hu69 : TldsOk cx 69 u69 := TldsOk.moreG (C := cx) (C0 := cz) rfl rfl hz69
theorem hz165 : TldsOk cz 165 u165 := (tlds_ok cz_ok cz_names cz_intr cz_mixed rfl (utbl := tu165) trivial ku165_0)
theorem hu165 : TldsOk cx 165 u165 := TldsOk.moreG (C := cx) (C0 := cz) rfl rfl hz165
theorem hz140 : TldsOk cz 140 u140 := (tlds_ok cz_ok cz_names cz_intr cz_mixed rfl (utbl := tu140) ⟨hz93, trivial⟩ ku140_0)
theorem hu140 : TldsOk cx 140 u140 := TldsOk.moreG (C := cx) (C0 := cz) rfl rfl hz140
theorem hz359 : TldsOk cz 359 u359 := (tlds_ok cz_ok cz_names cz_intr cz_mixed rfl (utbl := tu359) ⟨hz373, trivial⟩ ku359_0)
theorem hu359 : TldsOk cx 359 u359 := TldsOk.moreG (C := cx) (C0 := cz) rfl rfl hz359
theorem hz71 : TldsOk cz 71 u71 := (tlds_ok cz_ok cz_names cz_intr cz_mixed rfl (utbl := tu71) ⟨hz131, ⟨hz133, trivial⟩⟩ ku71_0)
theorem hu71 : TldsOk cx 71 u71 := TldsOk.moreG (C := cx) (C0 := cz) rfl rfl hz71
theorem hz121 : TldsOk cz 121 u121 := (tlds_ok cz_ok cz_names cz_intr cz_mixed rfl (utbl := tu121) ⟨hz203, trivial⟩ ku121_0)
theorem hu121 : TldsOk cx 121 u121 := TldsOk.moreG (C := cx) (C0 := cz) rfl rfl hz121
theorem hz85 : TldsOk cz 85 u85 := (tlds_ok cz_ok cz_names cz_intr cz_mixed rfl (utbl := tu85) ⟨hz153, trivial⟩ ku85_0)
theorem hu85 : TldsOk cx 85 u85 := TldsOk.moreG (C := cx) (C0 := cz) rfl rfl hz85
theorem hz225 : TldsOk cz 225 u225 := (tlds_ok cz_ok cz_names cz_intr cz_mixed rfl (utbl := tu225) trivial ku225_0)
theorem hu225 : TldsOk cx 225 u225 := TldsOk.moreG (C := cx) (C0 := cz) rfl rfl hz225
theorem hz122 : TldsOk cz 122 u122 := (tlds_ok cz_ok cz_names cz_intr cz_mixed rfl (utbl := tu122) ⟨hz204, trivial⟩ ku122_0)
theorem hu122 : TldsOk cx 122 u122 := TldsOk.moreG (C := cx) (C0 := cz) rfl rfl hz122
theorem hz206 : TldsOk cz 206 u206 := (tlds_ok cz_ok cz_names cz_intr cz_mixed rfl (utbl := tu206) ⟨hz277, trivial⟩ ku206_0)
theorem hu206 : TldsOk cx 206 u206 := TldsOk.moreG (C := cx) (C0 := cz) rfl rfl hz206
theorem hxz118 : KinsOk cz 118 x118 := (KinsOk.app (kins4_ok cz_ok cz_names cz_intr cz_mixed rfl (tabs := xb118) trivial kx118_0) (KinsOk.app (kins4_ok cz_ok cz_names cz_intr cz_mixed rfl (tabs := xb118) trivial kx118_1) (KinsOk.app (kins4_ok cz_ok cz_names cz_intr cz_mixed rfl (tabs := xb118) trivial kx118_2) (KinsOk.app (kins4_ok cz_ok cz_names cz_intr cz_mixed rfl (tabs := xb118) trivial kx118_3) (KinsOk.app (kins4_ok cz_ok cz_names cz_intr cz_mixed rfl (tabs := xb118) trivial kx118_4) (KinsOk.app (kins4_ok cz_ok cz_names cz_intr cz_mixed rfl (tabs := xb118) trivial kx118_5) (KinsOk.app (kins4_ok cz_ok cz_names cz_intr cz_mixed rfl (tabs := xb118) trivial kx118_6) (KinsOk.app (kins4_ok cz_ok cz_names cz_intr cz_mixed rfl (tabs := xb118) trivial kx118_7) (KinsOk.app (kins4_ok cz_ok cz_names cz_intr cz_mixed rfl (tabs := xb118) trivial kx118_8) (KinsOk.app (kins4_ok cz_ok cz_names cz_intr cz_mixed rfl (tabs := xb118) trivial kx118_9) (KinsOk.app (kins4_ok cz_ok cz_names cz_intr cz_mixed rfl (tabs := xb118) trivial kx118_10) (KinsOk.app (kins4_ok cz_ok cz_names cz_intr cz_mixed rfl (tabs := xb118) trivial kx118_11) (KinsOk.app (kins4_ok cz_ok cz_names cz_intr cz_mixed rfl (tabs := xb118) trivial kx118_12) (KinsOk.app (kins4_ok cz_ok cz_names cz_intr cz_mixed rfl (tabs := xb118) trivial kx118_13) (kins4_ok cz_ok cz_names cz_intr cz_mixed rfl (tabs := xb118) trivial kx118_14)))))))))))))))
theorem hx118 : KinsOk cx 118 x118 := KinsOk.moreG (C := cx) (C0 := cz) rfl rfl hxz118
theorem hxz297 : KinsOk cz 297 x297 := (kins4_ok cz_ok cz_names cz_intr cz_mixed rfl (tabs := xb297) ⟨hz71, trivial⟩ kx297_0)
theorem hx297 : KinsOk cx 297 x297 := KinsOk.moreG (C := cx) (C0 := cz) rfl rfl hxz297
theorem hxz62 : KinsOk cz 62 x62 := (KinsOk.app (kins4_ok cz_ok cz_names cz_intr cz_mixed rfl (tabs := xb62) ⟨hxz118, trivial⟩ kx62_0) (kins4_ok cz_ok cz_names cz_intr cz_mixed rfl (tabs := xb62) ⟨hxz118, trivial⟩ kx62_1))
theorem hx62 : KinsOk cx 62 x62 := KinsOk.moreG (C := cx) (C0 := cz) rfl rfl hxz62
theorem hxz319 : KinsOk cz 319 x319 := (kins4_ok cz_ok cz_names cz_intr cz_mixed rfl (tabs := xb319) trivial kx319_0)
theorem hx319 : KinsOk cx 319 x319 := KinsOk.moreG (C := cx) (C0 := cz) rfl rfl hxz319
theorem hxz23 : KinsOk cz 23 x23 := (kins4_ok cz_ok cz_names cz_intr cz_mixed rfl (tabs := xb23) ⟨hxz62, trivial⟩ kx23_0)
theorem hx23 : KinsOk cx 23 x23 := KinsOk.moreG (C := cx) (C0 := cz) rfl rfl hxz23
theorem hxz317 : KinsOk cz 317 x317 := (kins4_ok cz_ok cz_names cz_intr cz_mixed rfl (tabs := xb317) ⟨hxz62, trivial⟩ kx317_0)
theorem hx317 : KinsOk cx 317 x317 := KinsOk.moreG (C := cx) (C0 := cz) rfl rfl hxz317
theorem hxz74 : KinsOk cz 74 x74 := (kins4_ok cz_ok cz_names cz_intr cz_mixed rfl (tabs := xb74) ⟨hz140, trivial⟩ kx74_0)
theorem hx74 : KinsOk cx 74 x74 := KinsOk.moreG (C := cx) (C0 := cz) rfl rfl hxz74
theorem hxz9 : KinsOk cz 9 x9 := (kins4_ok cz_ok cz_names cz_intr cz_mixed rfl (tabs := xb9) ⟨hxz23, trivial⟩ kx9_0)
theorem hx9 : KinsOk cx 9 x9 := KinsOk.moreG (C := cx) (C0 := cz) rfl rfl hxz9
theorem hxz257 : KinsOk cz 257 x257 := (kins4_ok cz_ok cz_names cz_intr cz_mixed rfl (tabs := xb257) ⟨hxz317, ⟨hxz319, trivial⟩⟩ kx257_0)
theorem hx257 : KinsOk cx 257 x257 := KinsOk.moreG (C := cx) (C0 := cz) rfl rfl hxz257
theorem hxz376 : KinsOk cz 376 x376 := (kins4_ok cz_ok cz_names cz_intr cz_mixed rfl (tabs := xb376) ⟨hxz62, trivial⟩ kx376_0)
theorem hx376 : KinsOk cx 376 x376 := KinsOk.moreG (C := cx) (C0 := cz) rfl rfl hxz376
theorem hxz26 : KinsOk cz 26 x26 := (kins4_ok cz_ok cz_names cz_intr cz_mixed rfl (tabs := xb26) ⟨hxz23, trivial⟩ kx26_0)
theorem hx26 : KinsOk cx 26 x26 := KinsOk.moreG (C := cx) (C0 := cz) rfl rfl hxz26
theorem o144 : EntryOk cx 10 e144 := chain4 cx_ok cx_names cx_intr cx_mixed (tabs := v144) (tbl := t144) ⟨hu206, ⟨hu122, ⟨hu121, ⟨hu359, ⟨hx376, ⟨hx74, ⟨hu203, ⟨hx317, ⟨hu360, ⟨hu93, ⟨hx62, ⟨hx297, ⟨hu71, trivial⟩⟩⟩⟩⟩⟩⟩⟩⟩⟩⟩⟩⟩ trivial k144
theorem o171 : EntryOk cx 11 e171 := chain4 cx_ok cx_names cx_intr cx_mixed (tabs := v171) (tbl := t171) ⟨hu206, ⟨hu122, ⟨hu85, ⟨hu121, ⟨hu359, ⟨hu69, ⟨hx376, ⟨hx74, ⟨hu203, ⟨hx317, ⟨hx23, ⟨hu360, ⟨hu93, ⟨hx62, ⟨hx297, ⟨hu71, trivial⟩⟩⟩⟩⟩⟩⟩⟩⟩⟩⟩⟩⟩⟩⟩⟩ ⟨⟨o144, trivial⟩, trivial⟩ k171
theorem o172 : EntryOk cx 5 e172 := chain4 cx_ok cx_names cx_intr cx_mixed (tabs := v172) (tbl := t172) ⟨hu206, ⟨hu122, ⟨hu225, ⟨hu121, ⟨hu359, ⟨hu165, ⟨hu69, ⟨hu203, ⟨hu140, ⟨hx23, ⟨hu360, ⟨hu93, ⟨hx62, ⟨hx297, ⟨hu71, trivial⟩⟩⟩⟩⟩⟩⟩⟩⟩⟩⟩⟩⟩⟩⟩ ⟨⟨o171, trivial⟩, trivial⟩ k172
theorem o206 : EntryOk cx 37 e206 := chain4 cx_ok cx_names cx_intr cx_mixed (tabs := v206) (tbl := t206) ⟨hu206, ⟨hu122, ⟨hu85, ⟨hu121, ⟨hu359, ⟨hx376, ⟨hx74, ⟨hu203, ⟨hx317, ⟨hu360, ⟨hu93, ⟨hx62, ⟨hx297, ⟨hu71, trivial⟩⟩⟩⟩⟩⟩⟩⟩⟩⟩⟩⟩⟩⟩ trivial k206
theorem o243 : EntryOk cx 17 e243 := chain4 cx_ok cx_names cx_intr cx_mixed (tabs := v243) (tbl := t243) ⟨hu206, ⟨hu122, ⟨hu85, ⟨hu121, ⟨hu359, ⟨hx376, ⟨hu203, ⟨hx317, ⟨hu360, ⟨hx62, ⟨hx297, ⟨hu71, trivial⟩⟩⟩⟩⟩⟩⟩⟩⟩⟩⟩⟩ ⟨⟨o206, trivial⟩, trivial⟩ k243
theorem o297 : EntryOk cx 6 e297 := chain4 cx_ok cx_names cx_intr cx_mixed (tabs := v297) (tbl := t297) ⟨hu206, ⟨hu122, ⟨hu121, ⟨hu359, ⟨hu69, ⟨hu203, ⟨hx317, ⟨hx23, ⟨hu360, ⟨hx62, ⟨hx297, ⟨hu71, trivial⟩⟩⟩⟩⟩⟩⟩⟩⟩⟩⟩⟩ ⟨⟨o243, trivial⟩, trivial⟩ k297
theorem o331 : EntryOk cx 37 e331 := chain4 cx_ok cx_names cx_intr cx_mixed (tabs := v331) (tbl := t331) ⟨hu206, ⟨hu122, ⟨hu85, ⟨hu121, ⟨hu359, ⟨hx376, ⟨hx74, ⟨hu203, ⟨hx317, ⟨hu360, ⟨hu93, ⟨hx62, ⟨hx297, ⟨hu71, trivial⟩⟩⟩⟩⟩⟩⟩⟩⟩⟩⟩⟩⟩⟩ trivial k331
theorem o430 : EntryOk cx 18 e430 := chain4 cx_ok cx_names cx_intr cx_mixed (tabs := v430) (tbl := t430) ⟨hu122, ⟨hu121, ⟨hu203, ⟨hx317, ⟨hx297, ⟨hu71, trivial⟩⟩⟩⟩⟩⟩ trivial k430
theorem o452 : EntryOk cx 6 e452 := chain4 cx_ok cx_names cx_intr cx_mixed (tabs := v452) (tbl := t452) ⟨hu206, ⟨hu122, ⟨hu85, ⟨hu121, ⟨hu359, ⟨hu69, ⟨hx376, ⟨hu203, ⟨hx317, ⟨hx23, ⟨hu360, ⟨hx62, ⟨hx297, ⟨hu71, trivial⟩⟩⟩⟩⟩⟩⟩⟩⟩⟩⟩⟩⟩⟩ ⟨⟨o331, trivial⟩, ⟨⟨o430, trivial⟩, trivial⟩⟩ k452
theorem o486 : EntryOk cx 37 e486 := chain4 cx_ok cx_names cx_intr cx_mixed (tabs := v486) (tbl := t486) ⟨hu206, ⟨hu122, ⟨hu85, ⟨hu121, ⟨hu359, ⟨hx376, ⟨hx74, ⟨hu203, ⟨hx317, ⟨hu360, ⟨hu93, ⟨hx62, ⟨hx297, ⟨hu71, trivial⟩⟩⟩⟩⟩⟩⟩⟩⟩⟩⟩⟩⟩⟩ trivial k486
theorem o581 : EntryOk cx 31 e581 := chain4 cx_ok cx_names cx_intr cx_mixed (tabs := v581) (tbl := t581) ⟨hu121, ⟨hu203, ⟨hx317, ⟨hx297, ⟨hu71, trivial⟩⟩⟩⟩⟩ trivial k581
theorem o614 : EntryOk cx 7 e614 := chain4 cx_ok cx_names cx_intr cx_mixed (tabs := v614) (tbl := t614) ⟨hu206, ⟨hu122, ⟨hu85, ⟨hu121, ⟨hu359, ⟨hx376, ⟨hu203, ⟨hx317, ⟨hu360, ⟨hx62, ⟨hx297, ⟨hu71, trivial⟩⟩⟩⟩⟩⟩⟩⟩⟩⟩⟩⟩ ⟨⟨o486, trivial⟩, ⟨⟨o581, trivial⟩, trivial⟩⟩ k614
theorem o648 : EntryOk cx 37 e648 := chain4 cx_ok cx_names cx_intr cx_mixed (tabs := v648) (tbl := t648) ⟨hu206, ⟨hu122, ⟨hu85, ⟨hu121, ⟨hu359, ⟨hx376, ⟨hx74, ⟨hu203, ⟨hx317, ⟨hu360, ⟨hu93, ⟨hx62, ⟨hx297, ⟨hu71, trivial⟩⟩⟩⟩⟩⟩⟩⟩⟩⟩⟩⟩⟩⟩ trivial k648
theorem o686 : EntryOk cx 8 e686 := chain4 cx_ok cx_names cx_intr cx_mixed (tabs := v686) (tbl := t686) ⟨hu206, ⟨hu122, ⟨hu85, ⟨hu121, ⟨hu359, ⟨hx376, ⟨hu203, ⟨hx317, ⟨hu360, ⟨hx62, ⟨hx297, ⟨hu71, trivial⟩⟩⟩⟩⟩⟩⟩⟩⟩⟩⟩⟩ ⟨⟨o648, trivial⟩, trivial⟩ k686
theorem o720 : EntryOk cx 37 e720 := chain4 cx_ok cx_names cx_intr cx_mixed (tabs := v720) (tbl := t720) ⟨hu206, ⟨hu122, ⟨hu85, ⟨hu121, ⟨hu359, ⟨hx376, ⟨hx74, ⟨hu203, ⟨hx317, ⟨hu360, ⟨hu93, ⟨hx62, ⟨hx297, ⟨hu71, trivial⟩⟩⟩⟩⟩⟩⟩⟩⟩⟩⟩⟩⟩⟩ trivial k720
theorem o757 : EntryOk cx 17 e757 := chain4 cx_ok cx_names cx_intr cx_mixed (tabs := v757) (tbl := t757) ⟨hu206, ⟨hu122, ⟨hu85, ⟨hu121, ⟨hu359, ⟨hx376, ⟨hu203, ⟨hx317, ⟨hu360, ⟨hx62, ⟨hx297, ⟨hu71, trivial⟩⟩⟩⟩⟩⟩⟩⟩⟩⟩⟩⟩ ⟨⟨o720, trivial⟩, trivial⟩ k757
theorem o815 : EntryOk cx 31 e815 := chain4 cx_ok cx_names cx_intr cx_mixed (tabs := v815) (tbl := t815) ⟨hu121, ⟨hu203, ⟨hx317, ⟨hx297, ⟨hu71, trivial⟩⟩⟩⟩⟩ trivial k815
theorem o849 : EntryOk cx 8 e849 := chain4 cx_ok cx_names cx_intr cx_mixed (tabs := v849) (tbl := t849) ⟨hu122, ⟨hu121, ⟨hu203, ⟨hx317, ⟨hx297, ⟨hu71, trivial⟩⟩⟩⟩⟩⟩ ⟨⟨o757, trivial⟩, ⟨⟨o815, trivial⟩, trivial⟩⟩ k849
theorem o883 : EntryOk cx 37 e883 := chain4 cx_ok cx_names cx_intr cx_mixed (tabs := v883) (tbl := t883) ⟨hu206, ⟨hu122, ⟨hu85, ⟨hu121, ⟨hu359, ⟨hx376, ⟨hx74, ⟨hu203, ⟨hx317, ⟨hu360, ⟨hu93, ⟨hx62, ⟨hx297, ⟨hu71, trivial⟩⟩⟩⟩⟩⟩⟩⟩⟩⟩⟩⟩⟩⟩ trivial k883
theorem o978 : EntryOk cx 31 e978 := chain4 cx_ok cx_names cx_intr cx_mixed (tabs := v978) (tbl := t978) ⟨hu121, ⟨hu203, ⟨hx317, ⟨hx297, ⟨hu71, trivial⟩⟩⟩⟩⟩ trivial k978
theorem o1012 : EntryOk cx 8 e1012 := chain4 cx_ok cx_names cx_intr cx_mixed (tabs := v1012) (tbl := t1012) ⟨hu206, ⟨hu122, ⟨hu85, ⟨hu121, ⟨hu359, ⟨hx376, ⟨hu203, ⟨hx317, ⟨hu360, ⟨hx62, ⟨hx297, ⟨hu71, trivial⟩⟩⟩⟩⟩⟩⟩⟩⟩⟩⟩⟩ ⟨⟨o883, trivial⟩, ⟨⟨o978, trivial⟩, trivial⟩⟩ k1012
theorem o1046 : EntryOk cx 37 e1046 := chain4 cx_ok cx_names cx_intr cx_mixed (tabs := v1046) (tbl := t1046) ⟨hu206, ⟨hu122, ⟨hu85, ⟨hu121, ⟨hu359, ⟨hx376, ⟨hx74, ⟨hu203, ⟨hx317, ⟨hu360, ⟨hu93, ⟨hx62, ⟨hx297, ⟨hu71, trivial⟩⟩⟩⟩⟩⟩⟩⟩⟩⟩⟩⟩⟩⟩ trivial k1046
theorem o1083 : EntryOk cx 17 e1083 := chain4 cx_ok cx_names cx_intr cx_mixed (tabs := v1083) (tbl := t1083) ⟨hu206, ⟨hu122, ⟨hu85, ⟨hu121, ⟨hu359, ⟨hx376, ⟨hu203, ⟨hx317, ⟨hu360, ⟨hx62, ⟨hx297, ⟨hu71, trivial⟩⟩⟩⟩⟩⟩⟩⟩⟩⟩⟩⟩ ⟨⟨o1046, trivial⟩, trivial⟩ k1083
theorem o1141 : EntryOk cx 31 e1141 := chain4 cx_ok cx_names cx_intr cx_mixed (tabs := v1141) (tbl := t1141) ⟨hu121, ⟨hu203, ⟨hx317, ⟨hx297, ⟨hu71, trivial⟩⟩⟩⟩⟩ trivial k1141
theorem o1174 : EntryOk cx 24 e1174 := chain4 cx_ok cx_names cx_intr cx_mixed (tabs := v1174) (tbl := t1174) ⟨hu122, ⟨hu121, ⟨hu203, ⟨hx317, ⟨hx297, ⟨hu71, trivial⟩⟩⟩⟩⟩⟩ ⟨⟨o1141, trivial⟩, trivial⟩ k1174
theorem o1291 : EntryOk cx 27 e1291 := chain4 cx_ok cx_names cx_intr cx_mixed (tabs := v1291) (tbl := t1291) ⟨hu206, ⟨hu122, ⟨hu85, ⟨hu121, ⟨hu359, ⟨hu69, ⟨hx376, ⟨hx74, ⟨hu203, ⟨hu277, ⟨hx317, ⟨hu360, ⟨hu93, ⟨hx62, ⟨hx297, ⟨hu71, ⟨hu131, ⟨hu133, trivial⟩⟩⟩⟩⟩⟩⟩⟩⟩⟩⟩⟩⟩⟩⟩⟩⟩⟩ trivial k1291
theorem o1313 : EntryOk cx 46 e1313 := chain4 cx_ok cx_names cx_intr cx_mixed (tabs := v1313) (tbl := t1313) ⟨hu206, ⟨hu122, ⟨hu121, ⟨hu203, ⟨hx317, ⟨hx62, ⟨hx297, ⟨hu71, trivial⟩⟩⟩⟩⟩⟩⟩⟩ trivial k1313
theorem o1342 : EntryOk cx 155 e1342 := chain4 cx_ok cx_names cx_intr cx_mixed (tabs := v1342) (tbl := t1342) ⟨hu121, ⟨hu203, ⟨hx317, ⟨hu131, ⟨hu133, trivial⟩⟩⟩⟩⟩ trivial k1342
theorem o1374 : EntryOk cx 31 e1374 := chain4 cx_ok cx_names cx_intr cx_mixed (tabs := v1374) (tbl := t1374) ⟨hu121, ⟨hx257, ⟨hu203, ⟨hx317, ⟨hx297, ⟨hu71, trivial⟩⟩⟩⟩⟩⟩ ⟨⟨o1342, trivial⟩, trivial⟩ k1374
theorem o1420 : EntryOk cx 28 e1420 := chain4 cx_ok cx_names cx_intr cx_mixed (tabs := v1420) (tbl := t1420) ⟨hu206, ⟨hu122, ⟨hu121, ⟨hu203, ⟨hx317, ⟨hx62, ⟨hx297, ⟨hu71, trivial⟩⟩⟩⟩⟩⟩⟩⟩ ⟨⟨o1313, trivial⟩, ⟨⟨o1374, trivial⟩, trivial⟩⟩ k1420
theorem o1421 : EntryOk cx 8 e1421 := chain4 cx_ok cx_names cx_intr cx_mixed (tabs := v1421) (tbl := t1421) ⟨hu206, ⟨hu122, ⟨hu121, ⟨hu359, ⟨hx26, ⟨hx376, ⟨hu203, ⟨hx317, ⟨hu360, ⟨hx62, ⟨hx297, ⟨hu71, trivial⟩⟩⟩⟩⟩⟩⟩⟩⟩⟩⟩⟩ ⟨⟨o1083, trivial⟩, ⟨⟨o1174, trivial⟩, ⟨⟨o1291, trivial⟩, ⟨⟨o1420, trivial⟩, trivial⟩⟩⟩⟩ k1421
theorem o1464 : EntryOk cx 7 e1464 := chain4 cx_ok cx_names cx_intr cx_mixed (tabs := v1464) (tbl := t1464) ⟨hu206, ⟨hu122, ⟨hu85, ⟨hu121, ⟨hu359, ⟨hx376, ⟨hx257, ⟨hx74, ⟨hu203, ⟨hx317, ⟨hu360, ⟨hu93, ⟨hx62, ⟨hx297, ⟨hu71, trivial⟩⟩⟩⟩⟩⟩⟩⟩⟩⟩⟩⟩⟩⟩⟩ trivial k1464
theorem o1539 : EntryOk cx 31 e1539 := chain4 cx_ok cx_names cx_intr cx_mixed (tabs := v1539) (tbl := t1539) ⟨hu121, ⟨hx257, ⟨hu203, ⟨hx317, ⟨hx297, ⟨hu71, ⟨hu131, ⟨hu133, trivial⟩⟩⟩⟩⟩⟩⟩⟩ trivial k1539
theorem o1540 : EntryOk cx 10 e1540 := chain4 cx_ok cx_names cx_intr cx_mixed (tabs := v1540) (tbl := t1540) ⟨hu206, ⟨hu122, ⟨hu121, ⟨hu359, ⟨hx376, ⟨hx74, ⟨hu203, ⟨hx317, ⟨hu360, ⟨hu93, ⟨hx62, ⟨hx297, ⟨hu71, trivial⟩⟩⟩⟩⟩⟩⟩⟩⟩⟩⟩⟩⟩ ⟨⟨o1539, trivial⟩, trivial⟩ k1540
theorem o1553 : EntryOk cx 11 e1553 := chain4 cx_ok cx_names cx_intr cx_mixed (tabs := v1553) (tbl := t1553) ⟨hu203, trivial⟩ trivial k1553
theorem o1662 : EntryOk cx 31 e1662 := chain4 cx_ok cx_names cx_intr cx_mixed (tabs := v1662) (tbl := t1662) ⟨hu121, ⟨hx257, ⟨hu203, ⟨hx317, ⟨hx297, ⟨hu71, ⟨hu131, ⟨hu133, trivial⟩⟩⟩⟩⟩⟩⟩⟩ trivial k1662
theorem o1663 : EntryOk cx 10 e1663 := chain4 cx_ok cx_names cx_intr cx_mixed (tabs := v1663) (tbl := t1663) ⟨hu206, ⟨hu122, ⟨hu121, ⟨hu359, ⟨hx376, ⟨hx74, ⟨hu203, ⟨hx317, ⟨hu360, ⟨hu93, ⟨hx62, ⟨hx297, ⟨hu71, trivial⟩⟩⟩⟩⟩⟩⟩⟩⟩⟩⟩⟩⟩ ⟨⟨o1662, trivial⟩, trivial⟩ k1663
theorem o1691 : EntryOk cx 20 e1691 := chain4 cx_ok cx_names cx_intr cx_mixed (tabs := v1691) (tbl := t1691) ⟨hu206, ⟨hu122, ⟨hu121, ⟨hu359, ⟨hu69, ⟨hu203, ⟨hu360, ⟨hx62, ⟨hx297, ⟨hu71, ⟨hx118, trivial⟩⟩⟩⟩⟩⟩⟩⟩⟩⟩⟩ trivial k1691
theorem o1692 : EntryOk cx 11 e1692 := chain4 cx_ok cx_names cx_intr cx_mixed (tabs := v1692) (tbl := t1692) ⟨hu206, ⟨hu122, ⟨hu85, ⟨hu121, ⟨hu359, ⟨hu69, ⟨hx376, ⟨hx74, ⟨hu203, ⟨hx317, ⟨hu360, ⟨hu93, ⟨hx62, ⟨hx297, ⟨hu71, trivial⟩⟩⟩⟩⟩⟩⟩⟩⟩⟩⟩⟩⟩⟩⟩ ⟨⟨o1663, trivial⟩, ⟨⟨o1691, trivial⟩, trivial⟩⟩ k1692
theorem o1767 : EntryOk cx 52 e1767 := chain4 cx_ok cx_names cx_intr cx_mixed (tabs := v1767) (tbl := t1767) ⟨hu85, ⟨hu203, trivial⟩⟩ trivial k1767
theorem o1769 : EntryOk cx 6 e1769 := chain4 cx_ok cx_names cx_intr cx_mixed (tabs := v1769) (tbl := t1769) ⟨hu206, ⟨hu122, ⟨hu85, ⟨hu121, ⟨hu359, ⟨hx376, ⟨hx74, ⟨hu203, ⟨hx317, ⟨hu360, ⟨hu93, ⟨hx62, ⟨hx297, ⟨hu71, trivial⟩⟩⟩⟩⟩⟩⟩⟩⟩⟩⟩⟩⟩⟩ ⟨⟨o1767, trivial⟩, trivial⟩ k1769
theorem o1914 : EntryOk cx 10 e1914 := chain4 cx_ok cx_names cx_intr cx_mixed (tabs := v1914) (tbl := t1914) ⟨hu206, ⟨hu122, ⟨hu121, ⟨hu359, ⟨hx376, ⟨hx74, ⟨hu203, ⟨hx317, ⟨hu360, ⟨hu93, ⟨hx62, ⟨hx297, ⟨hu71, trivial⟩⟩⟩⟩⟩⟩⟩⟩⟩⟩⟩⟩⟩ trivial k1914
theorem o1941 : EntryOk cx 11 e1941 := chain4 cx_ok cx_names cx_intr cx_mixed (tabs := v1941) (tbl := t1941) ⟨hu206, ⟨hu122, ⟨hu85, ⟨hu121, ⟨hu359, ⟨hu69, ⟨hx376, ⟨hx74, ⟨hu203, ⟨hx317, ⟨hx23, ⟨hu360, ⟨hu93, ⟨hx62, ⟨hx297, ⟨hu71, trivial⟩⟩⟩⟩⟩⟩⟩⟩⟩⟩⟩⟩⟩⟩⟩⟩ ⟨⟨o1914, trivial⟩, trivial⟩ k1941
theorem o1942 : EntryOk cx 5 e1942 := chain4 cx_ok cx_names cx_intr cx_mixed (tabs := v1942) (tbl := t1942) ⟨hu206, ⟨hu122, ⟨hu225, ⟨hu121, ⟨hu359, ⟨hu165, ⟨hu69, ⟨hu203, ⟨hu140, ⟨hx23, ⟨hu360, ⟨hu93, ⟨hx62, ⟨hx297, ⟨hu71, trivial⟩⟩⟩⟩⟩⟩⟩⟩⟩⟩⟩⟩⟩⟩⟩ ⟨⟨o1941, trivial⟩, trivial⟩ k1942
theorem o1976 : EntryOk cx 37 e1976 := chain4 cx_ok cx_names cx_intr cx_mixed (tabs := v1976) (tbl := t1976) ⟨hu206, ⟨hu122, ⟨hu85, ⟨hu121, ⟨hu359, ⟨hx376, ⟨hx74, ⟨hu203, ⟨hx317, ⟨hu360, ⟨hu93, ⟨hx62, ⟨hx297, ⟨hu71, trivial⟩⟩⟩⟩⟩⟩⟩⟩⟩⟩⟩⟩⟩⟩ trivial k1976
theorem o2013 : EntryOk cx 17 e2013 := chain4 cx_ok cx_names cx_intr cx_mixed (tabs := v2013) (tbl := t2013) ⟨hu206, ⟨hu122, ⟨hu85, ⟨hu121, ⟨hu359, ⟨hx376, ⟨hu203, ⟨hx317, ⟨hu360, ⟨hx62, ⟨hx297, ⟨hu71, trivial⟩⟩⟩⟩⟩⟩⟩⟩⟩⟩⟩⟩ ⟨⟨o1976, trivial⟩, trivial⟩ k2013
theorem o2067 : EntryOk cx 6 e2067 := chain4 cx_ok cx_names cx_intr cx_mixed (tabs := v2067) (tbl := t2067) ⟨hu206, ⟨hu122, ⟨hu121, ⟨hu359, ⟨hu69, ⟨hu203, ⟨hx317, ⟨hx23, ⟨hu360, ⟨hx62, ⟨hx297, ⟨hu71, trivial⟩⟩⟩⟩⟩⟩⟩⟩⟩⟩⟩⟩ ⟨⟨o2013, trivial⟩, trivial⟩ k2067
theorem o2101 : EntryOk cx 37 e2101 := chain4 cx_ok cx_names cx_intr cx_mixed (tabs := v2101) (tbl := t2101) ⟨hu206, ⟨hu122, ⟨hu85, ⟨hu121, ⟨hu359, ⟨hx376, ⟨hx74, ⟨hu203, ⟨hx317, ⟨hu360, ⟨hu93, ⟨hx62, ⟨hx297, ⟨hu71, trivial⟩⟩⟩⟩⟩⟩⟩⟩⟩⟩⟩⟩⟩⟩ trivial k2101
theorem o2200 : EntryOk cx 18 e2200 := chain4 cx_ok cx_names cx_intr cx_mixed (tabs := v2200) (tbl := t2200) ⟨hu122, ⟨hu121, ⟨hu203, ⟨hx317, ⟨hx297, ⟨hu71, trivial⟩⟩⟩⟩⟩⟩ trivial k2200
theorem o2222 : EntryOk cx 6 e2222 := chain4 cx_ok cx_names cx_intr cx_mixed (tabs := v2222) (tbl := t2222) ⟨hu206, ⟨hu122, ⟨hu85, ⟨hu121, ⟨hu359, ⟨hu69, ⟨hx376, ⟨hu203, ⟨hx317, ⟨hx23, ⟨hu360, ⟨hx62, ⟨hx297, ⟨hu71, trivial⟩⟩⟩⟩⟩⟩⟩⟩⟩⟩⟩⟩⟩⟩ ⟨⟨o2101, trivial⟩, ⟨⟨o2200, trivial⟩, trivial⟩⟩ k2222
theorem o2256 : EntryOk cx 37 e2256 := chain4 cx_ok cx_names cx_intr cx_mixed (tabs := v2256) (tbl := t2256) ⟨hu206, ⟨hu122, ⟨hu85, ⟨hu121, ⟨hu359, ⟨hx376, ⟨hx74, ⟨hu203, ⟨hx317, ⟨hu360, ⟨hu93, ⟨hx62, ⟨hx297, ⟨hu71, trivial⟩⟩⟩⟩⟩⟩⟩⟩⟩⟩⟩⟩⟩⟩ trivial k2256
theorem o2293 : EntryOk cx 17 e2293 := chain4 cx_ok cx_names cx_intr cx_mixed (tabs := v2293) (tbl := t2293) ⟨hu206, ⟨hu122, ⟨hu85, ⟨hu121, ⟨hu359, ⟨hx376, ⟨hu203, ⟨hx317, ⟨hu360, ⟨hx62, ⟨hx297, ⟨hu71, trivial⟩⟩⟩⟩⟩⟩⟩⟩⟩⟩⟩⟩ ⟨⟨o2256, trivial⟩, trivial⟩ k2293
theorem o2351 : EntryOk cx 31 e2351 := chain4 cx_ok cx_names cx_intr cx_mixed (tabs := v2351) (tbl := t2351) ⟨hu121, ⟨hu203, ⟨hx317, ⟨hx297, ⟨hu71, trivial⟩⟩⟩⟩⟩ trivial k2351
theorem o2384 : EntryOk cx 24 e2384 := chain4 cx_ok cx_names cx_intr cx_mixed (tabs := v2384) (tbl := t2384) ⟨hu122, ⟨hu121, ⟨hu203, ⟨hx317, ⟨hx297, ⟨hu71, trivial⟩⟩⟩⟩⟩⟩ ⟨⟨o2351, trivial⟩, trivial⟩ k2384
theorem o2501 : EntryOk cx 27 e2501 := chain4 cx_ok cx_names cx_intr cx_mixed (tabs := v2501) (tbl := t2501) ⟨hu206, ⟨hu122, ⟨hu85, ⟨hu121, ⟨hu359, ⟨hu69, ⟨hx376, ⟨hx74, ⟨hu203, ⟨hu277, ⟨hx317, ⟨hu360, ⟨hu93, ⟨hx62, ⟨hx297, ⟨hu71, ⟨hu131, ⟨hu133, trivial⟩⟩⟩⟩⟩⟩⟩⟩⟩⟩⟩⟩⟩⟩⟩⟩⟩⟩ trivial k2501
theorem o2523 : EntryOk cx 46 e2523 := chain4 cx_ok cx_names cx_intr cx_mixed (tabs := v2523) (tbl := t2523) ⟨hu206, ⟨hu122, ⟨hu121, ⟨hu203, ⟨hx317, ⟨hx62, ⟨hx297, ⟨hu71, trivial⟩⟩⟩⟩⟩⟩⟩⟩ trivial k2523
theorem o2552 : EntryOk cx 155 e2552 := chain4 cx_ok cx_names cx_intr cx_mixed (tabs := v2552) (tbl := t2552) ⟨hu121, ⟨hu203, ⟨hx317, ⟨hu131, ⟨hu133, trivial⟩⟩⟩⟩⟩ trivial k2552
theorem o2584 : EntryOk cx 31 e2584 := chain4 cx_ok cx_names cx_intr cx_mixed (tabs := v2584) (tbl := t2584) ⟨hu121, ⟨hx257, ⟨hu203, ⟨hx317, ⟨hx297, ⟨hu71, trivial⟩⟩⟩⟩⟩⟩ ⟨⟨o2552, trivial⟩, trivial⟩ k2584
theorem o2630 : EntryOk cx 28 e2630 := chain4 cx_ok cx_names cx_intr cx_mixed (tabs := v2630) (tbl := t2630) ⟨hu206, ⟨hu122, ⟨hu121, ⟨hu203, ⟨hx317, ⟨hx62, ⟨hx297, ⟨hu71, trivial⟩⟩⟩⟩⟩⟩⟩⟩ ⟨⟨o2523, trivial⟩, ⟨⟨o2584, trivial⟩, trivial⟩⟩ k2630
theorem o2631 : EntryOk cx 8 e2631 := chain4 cx_ok cx_names cx_intr cx_mixed (tabs := v2631) (tbl := t2631) ⟨hu206, ⟨hu122, ⟨hu121, ⟨hu359, ⟨hx26, ⟨hx376, ⟨hu203, ⟨hx317, ⟨hu360, ⟨hx62, ⟨hx297, ⟨hu71, trivial⟩⟩⟩⟩⟩⟩⟩⟩⟩⟩⟩⟩ ⟨⟨o2293, trivial⟩, ⟨⟨o2384, trivial⟩, ⟨⟨o2501, trivial⟩, ⟨⟨o2630, trivial⟩, trivial⟩⟩⟩⟩ k2631
theorem o2694 : EntryOk cx 25 e2694 := chain4 cx_ok cx_names cx_intr cx_mixed (tabs := v2694) (tbl := t2694) ⟨hu122, ⟨hu121, ⟨hu359, ⟨hx376, ⟨hu203, ⟨hu277, ⟨hx317, ⟨hu360, ⟨hx62, ⟨hu131, ⟨hu133, trivial⟩⟩⟩⟩⟩⟩⟩⟩⟩⟩⟩ trivial k2694
theorem o2696 : EntryOk cx 12 e2696 := chain4 cx_ok cx_names cx_intr cx_mixed (tabs := v2696) (tbl := t2696) ⟨hu206, ⟨hu122, ⟨hu85, ⟨hu121, ⟨hu359, ⟨hx376, ⟨hx9, ⟨hx74, ⟨hu203, ⟨hx317, ⟨hu360, ⟨hu93, ⟨hx62, ⟨hx297, ⟨hu71, trivial⟩⟩⟩⟩⟩⟩⟩⟩⟩⟩⟩⟩⟩⟩⟩ ⟨⟨o1942, trivial⟩, ⟨⟨o2067, ⟨o2222, trivial⟩⟩, ⟨⟨o2631, trivial⟩, ⟨⟨o2694, trivial⟩, trivial⟩⟩⟩⟩ k2696
theorem o2739 : EntryOk cx 13 e2739 := chain4 cx_ok cx_names cx_intr cx_mixed (tabs := v2739) (tbl := t2739) ⟨hu206, ⟨hu122, ⟨hu85, ⟨hu121, ⟨hu359, ⟨hx376, ⟨hx257, ⟨hx74, ⟨hu203, ⟨hx317, ⟨hu360, ⟨hu93, ⟨hx62, ⟨hx297, ⟨hu71, trivial⟩⟩⟩⟩⟩⟩⟩⟩⟩⟩⟩⟩⟩⟩⟩ trivial k2739
theorem o2740 : EntryOk cx 3 e2740 := chain4 cx_ok cx_names cx_intr cx_mixed (tabs := v2740) (tbl := t2740) ⟨hx9, ⟨hx23, trivial⟩⟩ ⟨⟨o172, trivial⟩, ⟨⟨o297, ⟨o452, ⟨o1769, trivial⟩⟩⟩, ⟨⟨o614, ⟨o1464, trivial⟩⟩, ⟨⟨o686, ⟨o849, ⟨o1012, ⟨o1421, trivial⟩⟩⟩⟩, ⟨⟨o1540, trivial⟩, ⟨⟨o1553, ⟨o1692, trivial⟩⟩, ⟨⟨o2696, trivial⟩, ⟨⟨o2739, trivial⟩, trivial⟩⟩⟩⟩⟩⟩⟩⟩ k2740
noncomputable def tabs : List (Nat × AO) := [((nat_lit 4), d64)]
theorem known (w : World) (hw : KnownW w tabs) : Calls Tryz.prog 3 #[] w fun e w' => e = .returned (.bool true) ∧ Below w.heap.size w w' := chain_known (C := cx) rfl (l := tabs) (by kernel_rfl) (args := []) rfl o2740 rfl w hw
end Go.Proofs.YtlemfpipiooiaaaGreatDoor.Uk
