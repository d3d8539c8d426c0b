/- The run: its links joined. -/
import Derived.Test.YtlemfpipiooiaaaGreatDoorUnK0
import Derived.Test.YtlemfpipiooiaaaGreatDoorUnK1
import Derived.Test.YtlemfpipiooiaaaGreatDoorUnK2
import Derived.KernelRfl
namespace Go.Proofs.YtlemfpipiooiaaaGreatDoor.Un
open Go Go.RowKit Go.Proofs Go.Proofs.YtlemfpipiooiaaaGreatDoor.X
theorem hz336 : TldsOk cz 336 u336 := (tlds_ok cz_ok cz_names cz_intr cz_mixed rfl (utbl := tu336) trivial ku336_0)
theorem hu336 : TldsOk cx 336 u336 := TldsOk.moreG (C := cx) (C0 := cz) rfl rfl hz336
theorem hz214 : TldsOk cz 214 u214 := (tlds_ok cz_ok cz_names cz_intr cz_mixed rfl (utbl := tu214) trivial ku214_0)
theorem hu214 : TldsOk cx 214 u214 := TldsOk.moreG (C := cx) (C0 := cz) rfl rfl hz214
theorem hz133 : TldsOk cz 133 u133 := (tlds_ok cz_ok cz_names cz_intr cz_mixed rfl (utbl := tu133) trivial ku133_0)
theorem hu133 : TldsOk cx 133 u133 := TldsOk.moreG (C := cx) (C0 := cz) rfl rfl hz133
theorem hz93 : TldsOk cz 93 u93 := (tlds_ok cz_ok cz_names cz_intr cz_mixed rfl (utbl := tu93) trivial ku93_0)
theorem hu93 : TldsOk cx 93 u93 := TldsOk.moreG (C := cx) (C0 := cz) rfl rfl hz93
theorem hz360 : TldsOk cz 360 u360 := (tlds_ok cz_ok cz_names cz_intr cz_mixed rfl (utbl := tu360) trivial ku360_0)
theorem hu360 : TldsOk cx 360 u360 := TldsOk.moreG (C := cx) (C0 := cz) rfl rfl hz360
theorem hz153 : TldsOk cz 153 u153 := (tlds_ok cz_ok cz_names cz_intr cz_mixed rfl (utbl := tu153) ⟨hz93, trivial⟩ ku153_0)
theorem hu153 : TldsOk cx 153 u153 := TldsOk.moreG (C := cx) (C0 := cz) rfl rfl hz153
theorem hz131 : TldsOk cz 131 u131 := (tlds_ok cz_ok cz_names cz_intr cz_mixed rfl (utbl := tu131) ⟨hz133, trivial⟩ ku131_0)
theorem hu131 : TldsOk cx 131 u131 := TldsOk.moreG (C := cx) (C0 := cz) rfl rfl hz131
theorem hz126 : TldsOk cz 126 u126 := (tlds_ok cz_ok cz_names cz_intr cz_mixed rfl (utbl := tu126) ⟨hz214, trivial⟩ ku126_0)
theorem hu126 : TldsOk cx 126 u126 := TldsOk.moreG (C := cx) (C0 := cz) rfl rfl hz126
theorem hz373 : TldsOk cz 373 u373 := (tlds_ok cz_ok cz_names cz_intr cz_mixed rfl (utbl := tu373) ⟨hz360, trivial⟩ ku373_0)
theorem hu373 : TldsOk cx 373 u373 := TldsOk.moreG (C := cx) (C0 := cz) rfl rfl hz373
theorem hz204 : TldsOk cz 204 u204 := (TldsOk.app (tlds_ok cz_ok cz_names cz_intr cz_mixed rfl (utbl := tu204) trivial ku204_0) (TldsOk.app (tlds_ok cz_ok cz_names cz_intr cz_mixed rfl (utbl := tu204) trivial ku204_1) (tlds_ok cz_ok cz_names cz_intr cz_mixed rfl (utbl := tu204) trivial ku204_2)))
theorem hu204 : TldsOk cx 204 u204 := TldsOk.moreG (C := cx) (C0 := cz) rfl rfl hz204
theorem hz203 : TldsOk cz 203 u203 := (tlds_ok cz_ok cz_names cz_intr cz_mixed rfl (utbl := tu203) trivial ku203_0)
theorem hu203 : TldsOk cx 203 u203 := TldsOk.moreG (C := cx) (C0 := cz) rfl rfl hz203
theorem hz277 : TldsOk cz 277 u277 := (tlds_ok cz_ok cz_names cz_intr cz_mixed rfl (utbl := tu277) ⟨hz336, trivial⟩ ku277_0)
theorem hu277 : TldsOk cx 277 u277 := TldsOk.moreG (C := cx) (C0 := cz) rfl rfl hz277
theorem hz69 : TldsOk cz 69 u69 := (tlds_ok cz_ok cz_names cz_intr cz_mixed rfl (utbl := tu69) ⟨hz126, trivial⟩ ku69_0)
theorem hu69 : TldsOk cx 69 u69 := TldsOk.moreG (C := cx) (C0 := cz) rfl rfl hz69
theorem hz359 : TldsOk cz 359 u359 := (tlds_ok cz_ok cz_names cz_intr cz_mixed rfl (utbl := tu359) ⟨hz373, trivial⟩ ku359_0)
theorem hu359 : TldsOk cx 359 u359 := TldsOk.moreG (C := cx) (C0 := cz) rfl rfl hz359
theorem hz85 : TldsOk cz 85 u85 := (tlds_ok cz_ok cz_names cz_intr cz_mixed rfl (utbl := tu85) ⟨hz153, trivial⟩ ku85_0)
theorem hu85 : TldsOk cx 85 u85 := TldsOk.moreG (C := cx) (C0 := cz) rfl rfl hz85
theorem hz121 : TldsOk cz 121 u121 := (tlds_ok cz_ok cz_names cz_intr cz_mixed rfl (utbl := tu121) ⟨hz203, trivial⟩ ku121_0)
theorem hu121 : TldsOk cx 121 u121 := TldsOk.moreG (C := cx) (C0 := cz) rfl rfl hz121
theorem hz71 : TldsOk cz 71 u71 := (tlds_ok cz_ok cz_names cz_intr cz_mixed rfl (utbl := tu71) ⟨hz131, ⟨hz133, trivial⟩⟩ ku71_0)
theorem hu71 : TldsOk cx 71 u71 := TldsOk.moreG (C := cx) (C0 := cz) rfl rfl hz71
theorem hz140 : TldsOk cz 140 u140 := (tlds_ok cz_ok cz_names cz_intr cz_mixed rfl (utbl := tu140) ⟨hz93, trivial⟩ ku140_0)
theorem hu140 : TldsOk cx 140 u140 := TldsOk.moreG (C := cx) (C0 := cz) rfl rfl hz140
theorem hz206 : TldsOk cz 206 u206 := (tlds_ok cz_ok cz_names cz_intr cz_mixed rfl (utbl := tu206) ⟨hz277, trivial⟩ ku206_0)
theorem hu206 : TldsOk cx 206 u206 := TldsOk.moreG (C := cx) (C0 := cz) rfl rfl hz206
theorem hz122 : TldsOk cz 122 u122 := (tlds_ok cz_ok cz_names cz_intr cz_mixed rfl (utbl := tu122) ⟨hz204, trivial⟩ ku122_0)
theorem hu122 : TldsOk cx 122 u122 := TldsOk.moreG (C := cx) (C0 := cz) rfl rfl hz122
theorem hxz118 : KinsOk cz 118 x118 := (KinsOk.app (kins4_ok cz_ok cz_names cz_intr cz_mixed rfl (tabs := xb118) trivial kx118_0) (KinsOk.app (kins4_ok cz_ok cz_names cz_intr cz_mixed rfl (tabs := xb118) trivial kx118_1) (KinsOk.app (kins4_ok cz_ok cz_names cz_intr cz_mixed rfl (tabs := xb118) trivial kx118_2) (KinsOk.app (kins4_ok cz_ok cz_names cz_intr cz_mixed rfl (tabs := xb118) trivial kx118_3) (KinsOk.app (kins4_ok cz_ok cz_names cz_intr cz_mixed rfl (tabs := xb118) trivial kx118_4) (KinsOk.app (kins4_ok cz_ok cz_names cz_intr cz_mixed rfl (tabs := xb118) trivial kx118_5) (KinsOk.app (kins4_ok cz_ok cz_names cz_intr cz_mixed rfl (tabs := xb118) trivial kx118_6) (KinsOk.app (kins4_ok cz_ok cz_names cz_intr cz_mixed rfl (tabs := xb118) trivial kx118_7) (kins4_ok cz_ok cz_names cz_intr cz_mixed rfl (tabs := xb118) trivial kx118_8)))))))))
theorem hx118 : KinsOk cx 118 x118 := KinsOk.moreG (C := cx) (C0 := cz) rfl rfl hxz118
theorem hxz62 : KinsOk cz 62 x62 := (kins4_ok cz_ok cz_names cz_intr cz_mixed rfl (tabs := xb62) ⟨hxz118, trivial⟩ kx62_0)
theorem hx62 : KinsOk cx 62 x62 := KinsOk.moreG (C := cx) (C0 := cz) rfl rfl hxz62
theorem hxz297 : KinsOk cz 297 x297 := (kins4_ok cz_ok cz_names cz_intr cz_mixed rfl (tabs := xb297) ⟨hz71, trivial⟩ kx297_0)
theorem hx297 : KinsOk cx 297 x297 := KinsOk.moreG (C := cx) (C0 := cz) rfl rfl hxz297
theorem hxz317 : KinsOk cz 317 x317 := (kins4_ok cz_ok cz_names cz_intr cz_mixed rfl (tabs := xb317) ⟨hxz62, trivial⟩ kx317_0)
theorem hx317 : KinsOk cx 317 x317 := KinsOk.moreG (C := cx) (C0 := cz) rfl rfl hxz317
theorem hxz23 : KinsOk cz 23 x23 := (kins4_ok cz_ok cz_names cz_intr cz_mixed rfl (tabs := xb23) ⟨hxz62, trivial⟩ kx23_0)
theorem hx23 : KinsOk cx 23 x23 := KinsOk.moreG (C := cx) (C0 := cz) rfl rfl hxz23
theorem hxz257 : KinsOk cz 257 x257 := (kins4_ok cz_ok cz_names cz_intr cz_mixed rfl (tabs := xb257) ⟨hxz317, trivial⟩ kx257_0)
theorem hx257 : KinsOk cx 257 x257 := KinsOk.moreG (C := cx) (C0 := cz) rfl rfl hxz257
theorem hxz74 : KinsOk cz 74 x74 := (kins4_ok cz_ok cz_names cz_intr cz_mixed rfl (tabs := xb74) ⟨hz140, trivial⟩ kx74_0)
theorem hx74 : KinsOk cx 74 x74 := KinsOk.moreG (C := cx) (C0 := cz) rfl rfl hxz74
theorem hxz376 : KinsOk cz 376 x376 := (kins4_ok cz_ok cz_names cz_intr cz_mixed rfl (tabs := xb376) ⟨hxz62, trivial⟩ kx376_0)
theorem hx376 : KinsOk cx 376 x376 := KinsOk.moreG (C := cx) (C0 := cz) rfl rfl hxz376
theorem o2 : EntryOk cx 103 e2 := chain4 cx_ok cx_names cx_intr cx_mixed (tabs := v2) (tbl := t2) trivial trivial k2
theorem o8 : EntryOk cx 103 e8 := chain4 cx_ok cx_names cx_intr cx_mixed (tabs := v8) (tbl := t8) trivial trivial k8
theorem o32 : EntryOk cx 15 e32 := chain4 cx_ok cx_names cx_intr cx_mixed (tabs := v32) (tbl := t32) ⟨hu203, trivial⟩ ⟨⟨o2, ⟨o8, trivial⟩⟩, trivial⟩ k32
theorem o69 : EntryOk cx 16 e69 := chain4 cx_ok cx_names cx_intr cx_mixed (tabs := v69) (tbl := t69) ⟨hu122, ⟨hu206, ⟨hu121, ⟨hu359, ⟨hu69, ⟨hu203, ⟨hu140, ⟨hx297, ⟨hu360, ⟨hu71, ⟨hu93, ⟨hx62, ⟨hx118, trivial⟩⟩⟩⟩⟩⟩⟩⟩⟩⟩⟩⟩⟩ trivial k69
theorem o155 : EntryOk cx 10 e155 := chain4 cx_ok cx_names cx_intr cx_mixed (tabs := v155) (tbl := t155) ⟨hu122, ⟨hu206, ⟨hu121, ⟨hu359, ⟨hx376, ⟨hx74, ⟨hu203, ⟨hx317, ⟨hx297, ⟨hu360, ⟨hu71, ⟨hu93, ⟨hx62, trivial⟩⟩⟩⟩⟩⟩⟩⟩⟩⟩⟩⟩⟩ trivial k155
theorem o183 : EntryOk cx 20 e183 := chain4 cx_ok cx_names cx_intr cx_mixed (tabs := v183) (tbl := t183) ⟨hu122, ⟨hu206, ⟨hu121, ⟨hu359, ⟨hu69, ⟨hu203, ⟨hx297, ⟨hu360, ⟨hu71, ⟨hx62, ⟨hx118, trivial⟩⟩⟩⟩⟩⟩⟩⟩⟩⟩⟩ trivial k183
theorem o185 : EntryOk cx 5 e185 := chain4 cx_ok cx_names cx_intr cx_mixed (tabs := v185) (tbl := t185) ⟨hu122, ⟨hu206, ⟨hu121, ⟨hu85, ⟨hu359, ⟨hu69, ⟨hx376, ⟨hx74, ⟨hu203, ⟨hx317, ⟨hx297, ⟨hu360, ⟨hu71, ⟨hu93, ⟨hx62, trivial⟩⟩⟩⟩⟩⟩⟩⟩⟩⟩⟩⟩⟩⟩⟩ ⟨⟨o32, trivial⟩, ⟨⟨o69, trivial⟩, ⟨⟨o155, trivial⟩, ⟨⟨o183, trivial⟩, trivial⟩⟩⟩⟩ k185
theorem o219 : EntryOk cx 37 e219 := chain4 cx_ok cx_names cx_intr cx_mixed (tabs := v219) (tbl := t219) ⟨hu122, ⟨hu206, ⟨hu121, ⟨hu85, ⟨hu359, ⟨hx376, ⟨hx74, ⟨hu203, ⟨hx317, ⟨hx297, ⟨hu360, ⟨hu71, ⟨hu93, ⟨hx62, trivial⟩⟩⟩⟩⟩⟩⟩⟩⟩⟩⟩⟩⟩⟩ trivial k219
theorem o256 : EntryOk cx 17 e256 := chain4 cx_ok cx_names cx_intr cx_mixed (tabs := v256) (tbl := t256) ⟨hu122, ⟨hu206, ⟨hu121, ⟨hu85, ⟨hu359, ⟨hx376, ⟨hu203, ⟨hx317, ⟨hx297, ⟨hu360, ⟨hu71, ⟨hx62, trivial⟩⟩⟩⟩⟩⟩⟩⟩⟩⟩⟩⟩ ⟨⟨o219, trivial⟩, trivial⟩ k256
theorem o311 : EntryOk cx 20 e311 := chain4 cx_ok cx_names cx_intr cx_mixed (tabs := v311) (tbl := t311) ⟨hu122, ⟨hu206, ⟨hu121, ⟨hu359, ⟨hu69, ⟨hx23, ⟨hu203, ⟨hx297, ⟨hu360, ⟨hu71, ⟨hx62, ⟨hx118, trivial⟩⟩⟩⟩⟩⟩⟩⟩⟩⟩⟩⟩ trivial k311
theorem o312 : EntryOk cx 6 e312 := chain4 cx_ok cx_names cx_intr cx_mixed (tabs := v312) (tbl := t312) ⟨hu121, ⟨hx23, ⟨hu203, ⟨hx317, ⟨hx297, ⟨hu71, trivial⟩⟩⟩⟩⟩⟩ ⟨⟨o256, trivial⟩, ⟨⟨o311, trivial⟩, trivial⟩⟩ k312
theorem o346 : EntryOk cx 37 e346 := chain4 cx_ok cx_names cx_intr cx_mixed (tabs := v346) (tbl := t346) ⟨hu122, ⟨hu206, ⟨hu121, ⟨hu85, ⟨hu359, ⟨hx376, ⟨hx74, ⟨hu203, ⟨hx317, ⟨hx297, ⟨hu360, ⟨hu71, ⟨hu93, ⟨hx62, trivial⟩⟩⟩⟩⟩⟩⟩⟩⟩⟩⟩⟩⟩⟩ trivial k346
theorem o445 : EntryOk cx 18 e445 := chain4 cx_ok cx_names cx_intr cx_mixed (tabs := v445) (tbl := t445) ⟨hu122, ⟨hu121, ⟨hu203, ⟨hx317, ⟨hx297, ⟨hu71, trivial⟩⟩⟩⟩⟩⟩ trivial k445
theorem o468 : EntryOk cx 20 e468 := chain4 cx_ok cx_names cx_intr cx_mixed (tabs := v468) (tbl := t468) ⟨hu122, ⟨hu206, ⟨hu121, ⟨hu359, ⟨hu69, ⟨hx23, ⟨hu203, ⟨hx297, ⟨hu360, ⟨hu71, ⟨hx62, ⟨hx118, trivial⟩⟩⟩⟩⟩⟩⟩⟩⟩⟩⟩⟩ trivial k468
theorem o469 : EntryOk cx 6 e469 := chain4 cx_ok cx_names cx_intr cx_mixed (tabs := v469) (tbl := t469) ⟨hu122, ⟨hu206, ⟨hu121, ⟨hu85, ⟨hu359, ⟨hx376, ⟨hx23, ⟨hu203, ⟨hx317, ⟨hx297, ⟨hu360, ⟨hu71, ⟨hx62, trivial⟩⟩⟩⟩⟩⟩⟩⟩⟩⟩⟩⟩⟩ ⟨⟨o346, trivial⟩, ⟨⟨o445, trivial⟩, ⟨⟨o468, trivial⟩, trivial⟩⟩⟩ k469
theorem o503 : EntryOk cx 37 e503 := chain4 cx_ok cx_names cx_intr cx_mixed (tabs := v503) (tbl := t503) ⟨hu122, ⟨hu206, ⟨hu121, ⟨hu85, ⟨hu359, ⟨hx376, ⟨hx74, ⟨hu203, ⟨hx317, ⟨hx297, ⟨hu360, ⟨hu71, ⟨hu93, ⟨hx62, trivial⟩⟩⟩⟩⟩⟩⟩⟩⟩⟩⟩⟩⟩⟩ trivial k503
theorem o540 : EntryOk cx 17 e540 := chain4 cx_ok cx_names cx_intr cx_mixed (tabs := v540) (tbl := t540) ⟨hu122, ⟨hu206, ⟨hu121, ⟨hu85, ⟨hu359, ⟨hx376, ⟨hu203, ⟨hx317, ⟨hx297, ⟨hu360, ⟨hu71, ⟨hx62, trivial⟩⟩⟩⟩⟩⟩⟩⟩⟩⟩⟩⟩ ⟨⟨o503, trivial⟩, trivial⟩ k540
theorem o598 : EntryOk cx 31 e598 := chain4 cx_ok cx_names cx_intr cx_mixed (tabs := v598) (tbl := t598) ⟨hu121, ⟨hu203, ⟨hx317, ⟨hx297, ⟨hu71, trivial⟩⟩⟩⟩⟩ trivial k598
theorem o631 : EntryOk cx 24 e631 := chain4 cx_ok cx_names cx_intr cx_mixed (tabs := v631) (tbl := t631) ⟨hu122, ⟨hu121, ⟨hu203, ⟨hx317, ⟨hx297, ⟨hu71, trivial⟩⟩⟩⟩⟩⟩ ⟨⟨o598, trivial⟩, trivial⟩ k631
theorem o695 : EntryOk cx 26 e695 := chain4 cx_ok cx_names cx_intr cx_mixed (tabs := v695) (tbl := t695) trivial trivial k695
theorem o747 : EntryOk cx 239 e747 := chain4 cx_ok cx_names cx_intr cx_mixed (tabs := v747) (tbl := t747) ⟨hu131, ⟨hx118, ⟨hu133, trivial⟩⟩⟩ trivial k747
theorem o758 : EntryOk cx 27 e758 := chain4 cx_ok cx_names cx_intr cx_mixed (tabs := v758) (tbl := t758) ⟨hu122, ⟨hu206, ⟨hu121, ⟨hu85, ⟨hu359, ⟨hu69, ⟨hx376, ⟨hx74, ⟨hu277, ⟨hu203, ⟨hx317, ⟨hx297, ⟨hu360, ⟨hu71, ⟨hu93, ⟨hx62, ⟨hu131, ⟨hx118, ⟨hu133, trivial⟩⟩⟩⟩⟩⟩⟩⟩⟩⟩⟩⟩⟩⟩⟩⟩⟩⟩⟩ ⟨⟨o747, trivial⟩, trivial⟩ k758
theorem o780 : EntryOk cx 46 e780 := chain4 cx_ok cx_names cx_intr cx_mixed (tabs := v780) (tbl := t780) ⟨hu122, ⟨hu206, ⟨hu121, ⟨hu203, ⟨hx317, ⟨hx297, ⟨hu71, ⟨hx62, trivial⟩⟩⟩⟩⟩⟩⟩⟩ trivial k780
theorem o809 : EntryOk cx 155 e809 := chain4 cx_ok cx_names cx_intr cx_mixed (tabs := v809) (tbl := t809) ⟨hu121, ⟨hu203, ⟨hx317, ⟨hu131, ⟨hu133, trivial⟩⟩⟩⟩⟩ trivial k809
theorem o841 : EntryOk cx 31 e841 := chain4 cx_ok cx_names cx_intr cx_mixed (tabs := v841) (tbl := t841) ⟨hu121, ⟨hx257, ⟨hu203, ⟨hx317, ⟨hx297, ⟨hu71, trivial⟩⟩⟩⟩⟩⟩ ⟨⟨o809, trivial⟩, trivial⟩ k841
theorem o887 : EntryOk cx 28 e887 := chain4 cx_ok cx_names cx_intr cx_mixed (tabs := v887) (tbl := t887) ⟨hu122, ⟨hu206, ⟨hu121, ⟨hu203, ⟨hx317, ⟨hx297, ⟨hu71, ⟨hx62, trivial⟩⟩⟩⟩⟩⟩⟩⟩ ⟨⟨o780, trivial⟩, ⟨⟨o841, trivial⟩, trivial⟩⟩ k887
theorem o888 : EntryOk cx 8 e888 := chain4 cx_ok cx_names cx_intr cx_mixed (tabs := v888) (tbl := t888) ⟨hu122, ⟨hu206, ⟨hu121, ⟨hu359, ⟨hx376, ⟨hu203, ⟨hx317, ⟨hx297, ⟨hu360, ⟨hu71, ⟨hx62, trivial⟩⟩⟩⟩⟩⟩⟩⟩⟩⟩⟩ ⟨⟨o540, trivial⟩, ⟨⟨o631, trivial⟩, ⟨⟨o695, trivial⟩, ⟨⟨o758, trivial⟩, ⟨⟨o887, trivial⟩, trivial⟩⟩⟩⟩⟩ k888
theorem o951 : EntryOk cx 25 e951 := chain4 cx_ok cx_names cx_intr cx_mixed (tabs := v951) (tbl := t951) ⟨hu122, ⟨hu121, ⟨hu359, ⟨hx376, ⟨hu277, ⟨hu203, ⟨hx317, ⟨hu360, ⟨hx62, ⟨hu131, ⟨hu133, trivial⟩⟩⟩⟩⟩⟩⟩⟩⟩⟩⟩ trivial k951
theorem o954 (p0 p1 p2 : ByteArray) : EntryOk cx 4 (e954 p0 p1 p2) := chain4 cx_ok cx_names cx_intr cx_mixed (tabs := v954) (tbl := t954) ⟨hu122, ⟨hu206, ⟨hu121, ⟨hu85, ⟨hu359, ⟨hx376, ⟨hx74, ⟨hx23, ⟨hu203, ⟨hx317, ⟨hx297, ⟨hu360, ⟨hu71, ⟨hu93, ⟨hx62, trivial⟩⟩⟩⟩⟩⟩⟩⟩⟩⟩⟩⟩⟩⟩⟩ ⟨⟨o185, trivial⟩, ⟨⟨o312, ⟨o469, trivial⟩⟩, ⟨⟨o888, trivial⟩, ⟨⟨o951, trivial⟩, trivial⟩⟩⟩⟩ (k954 p0 p1 p2)
noncomputable def tabs : List (Nat × AO) := [((nat_lit 4), d45)]
theorem known (p0 p1 p2 : ByteArray) (w : World) (hw : KnownW w tabs) : Calls Tryz.prog 4 #[.string p0, .string p1, .string p2] w fun e w' => e = .returned (.bool true) ∧ Below w.heap.size w w' := chain_known (C := cx) rfl (l := tabs) (by kernel_rfl) (args := [.string p0, .string p1, .string p2]) rfl (o954 p0 p1 p2) rfl w hw
end Go.Proofs.YtlemfpipiooiaaaGreatDoor.Un
