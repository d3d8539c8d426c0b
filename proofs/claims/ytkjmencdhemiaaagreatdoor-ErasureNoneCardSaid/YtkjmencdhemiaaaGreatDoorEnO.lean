/- The run: its links joined. -/
import Derived.Test.YtkjmencdhemiaaaGreatDoorEnK0
import Derived.Test.YtkjmencdhemiaaaGreatDoorEnK1
import Derived.KernelRfl
namespace Go.Proofs.YtkjmencdhemiaaaGreatDoor.En
open Go Go.RowKit Go.Proofs Go.Proofs.YtkjmencdhemiaaaGreatDoor.X
theorem hz63 : TldsOk cz 63 u63 := (tlds_ok cz_ok cz_names cz_intr cz_mixed rfl (utbl := tu63) trivial ku63_0)
theorem hu63 : TldsOk cx 63 u63 := TldsOk.moreG (C := cx) (C0 := cz) rfl rfl hz63
theorem hz134 : TldsOk cz 134 u134 := (tlds_ok cz_ok cz_names cz_intr cz_mixed rfl (utbl := tu134) trivial ku134_0)
theorem hu134 : TldsOk cx 134 u134 := TldsOk.moreG (C := cx) (C0 := cz) rfl rfl hz134
theorem hz158 : TldsOk cz 158 u158 := (tlds_ok cz_ok cz_names cz_intr cz_mixed rfl (utbl := tu158) trivial ku158_0)
theorem hu158 : TldsOk cx 158 u158 := TldsOk.moreG (C := cx) (C0 := cz) rfl rfl hz158
theorem hz86 : TldsOk cz 86 u86 := (tlds_ok cz_ok cz_names cz_intr cz_mixed rfl (utbl := tu86) ⟨hz134, trivial⟩ ku86_0)
theorem hu86 : TldsOk cx 86 u86 := TldsOk.moreG (C := cx) (C0 := cz) rfl rfl hz86
theorem hz61 : TldsOk cz 61 u61 := (tlds_ok cz_ok cz_names cz_intr cz_mixed rfl (utbl := tu61) ⟨hz63, trivial⟩ ku61_0)
theorem hu61 : TldsOk cx 61 u61 := TldsOk.moreG (C := cx) (C0 := cz) rfl rfl hz61
theorem hz195 : TldsOk cz 195 u195 := (tlds_ok cz_ok cz_names cz_intr cz_mixed rfl (utbl := tu195) ⟨hz158, trivial⟩ ku195_0)
theorem hu195 : TldsOk cx 195 u195 := TldsOk.moreG (C := cx) (C0 := cz) rfl rfl hz195
theorem hz38 : TldsOk cz 38 u38 := (tlds_ok cz_ok cz_names cz_intr cz_mixed rfl (utbl := tu38) ⟨hz86, trivial⟩ ku38_0)
theorem hu38 : TldsOk cx 38 u38 := TldsOk.moreG (C := cx) (C0 := cz) rfl rfl hz38
theorem hz157 : TldsOk cz 157 u157 := (tlds_ok cz_ok cz_names cz_intr cz_mixed rfl (utbl := tu157) ⟨hz195, trivial⟩ ku157_0)
theorem hu157 : TldsOk cx 157 u157 := TldsOk.moreG (C := cx) (C0 := cz) rfl rfl hz157
theorem hz24 : TldsOk cz 24 u24 := (tlds_ok cz_ok cz_names cz_intr cz_mixed rfl (utbl := tu24) ⟨hz61, ⟨hz63, trivial⟩⟩ ku24_0)
theorem hu24 : TldsOk cx 24 u24 := TldsOk.moreG (C := cx) (C0 := cz) rfl rfl hz24
theorem hz55 : TldsOk cz 55 u55 := (tlds_ok cz_ok cz_names cz_intr cz_mixed rfl (utbl := tu55) trivial ku55_0)
theorem hu55 : TldsOk cx 55 u55 := TldsOk.moreG (C := cx) (C0 := cz) rfl rfl hz55
theorem hxz60 : KinsOk cz 60 x60 := (KinsOk.app (kins_ok cz_ok cz_names cz_intr cz_mixed rfl (ktbl := xk60) (utbl := xu60) trivial trivial kx60_0) (KinsOk.app (kins_ok cz_ok cz_names cz_intr cz_mixed rfl (ktbl := xk60) (utbl := xu60) trivial trivial kx60_1) (kins_ok cz_ok cz_names cz_intr cz_mixed rfl (ktbl := xk60) (utbl := xu60) trivial trivial kx60_2)))
theorem hx60 : KinsOk cx 60 x60 := KinsOk.moreG (C := cx) (C0 := cz) rfl rfl hxz60
theorem hxz23 : KinsOk cz 23 x23 := (kins_ok cz_ok cz_names cz_intr cz_mixed rfl (ktbl := xk23) (utbl := xu23) ⟨hxz60, trivial⟩ trivial kx23_0)
theorem hx23 : KinsOk cx 23 x23 := KinsOk.moreG (C := cx) (C0 := cz) rfl rfl hxz23
theorem hxz113 : KinsOk cz 113 x113 := (kins_ok cz_ok cz_names cz_intr cz_mixed rfl (ktbl := xk113) (utbl := xu113) trivial ⟨hz24, trivial⟩ kx113_0)
theorem hx113 : KinsOk cx 113 x113 := KinsOk.moreG (C := cx) (C0 := cz) rfl rfl hxz113
theorem hxz141 : KinsOk cz 141 x141 := (kins_ok cz_ok cz_names cz_intr cz_mixed rfl (ktbl := xk141) (utbl := xu141) ⟨hxz23, trivial⟩ trivial kx141_0)
theorem hx141 : KinsOk cx 141 x141 := KinsOk.moreG (C := cx) (C0 := cz) rfl rfl hxz141
theorem hxz219 : KinsOk cz 219 x219 := (kins_ok cz_ok cz_names cz_intr cz_mixed rfl (ktbl := xk219) (utbl := xu219) ⟨hxz23, trivial⟩ trivial kx219_0)
theorem hx219 : KinsOk cx 219 x219 := KinsOk.moreG (C := cx) (C0 := cz) rfl rfl hxz219
theorem o19 : EntryOk cx 6 e19 := chain3 cx_ok cx_names cx_intr cx_mixed (ktbl := y19) (utbl := v19) (tbl := t19) ⟨hx113, ⟨hx23, ⟨hx60, trivial⟩⟩⟩ ⟨hu55, ⟨hu24, ⟨hu157, ⟨hu38, ⟨hu158, trivial⟩⟩⟩⟩⟩ trivial k19
theorem o61 : EntryOk cx 7 e61 := chain3 cx_ok cx_names cx_intr cx_mixed (ktbl := y61) (utbl := v61) (tbl := t61) ⟨hx219, ⟨hx141, ⟨hx113, ⟨hx23, trivial⟩⟩⟩⟩ ⟨hu55, ⟨hu24, ⟨hu157, ⟨hu38, ⟨hu158, trivial⟩⟩⟩⟩⟩ trivial k61
theorem known1 (p0 p1 : ByteArray) (w : World) : Calls Tryz.prog 3 (List.toArray [.string p0, .string p1]) w fun e w' => e = .returned (.bool (pathB 400 p0 == pathB 400 p0)) ∧ Below w.heap.size w w' := chain_val (C := cx) cx_ok cx_names cx_intr cx_mixed rfl (n := fuel) (ktbl := y101) (utbl := v101) (tbl := t101) ⟨hx219, ⟨hx141, ⟨hx113, ⟨hx23, trivial⟩⟩⟩⟩ ⟨hu55, ⟨hu24, ⟨hu157, ⟨hu38, ⟨hu158, trivial⟩⟩⟩⟩⟩ ⟨⟨o19, trivial⟩, ⟨⟨o61, trivial⟩, trivial⟩⟩ (f := 3) (args := [.string p0, .string p1]) (b := pathB 400 p0 == pathB 400 p0) rfl (k101 p0 p1) w
theorem known (p0 p1 : ByteArray) (w : World) : Calls Tryz.prog 3 #[.string p0, .string p1] w fun e w' => e = .returned (.bool true) ∧ Below w.heap.size w w' := (known1 p0 p1 w).mono fun e w' h => ⟨by rw [h.1, beq_self_eq_true], h.2⟩
end Go.Proofs.YtkjmencdhemiaaaGreatDoor.En
