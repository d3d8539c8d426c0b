/- Lists that are lent: stowagekit.OverBytes and KeptBytes, as contracts. -/
import Derived.Test.YtpogicakpgpkcaaGfL1
import Derived.Test.YtpogicakpgpkcaaHGfKnownx3
import Derived.Deep.RegionHeld3
namespace Go.Proofs.Ytpogicakpgpkcaa.GfL
open Go.RowKit Go.Proofs.YtpogicakpgpkcaaW.PrintWords Go.Proofs.YtpogicakpgpkcaaW.PrintLast

theorem grown_refl (w : World) (row : Option Nat) : w.grownBy w row := ⟨rfl, rfl, rfl, Nat.le_refl _, fun _ _ _ => rfl⟩
theorem grown_set {w wr : World} {g : Nat} (h : w.grownBy wr (some g)) (i : Nat) (v : Value) : w.grownBy (wr.setCell ⟨g, i, none⟩ v) (some g) := by
  refine ⟨h.os, h.tape, h.output, by simp [World.setCell]; exact h.size, fun k hk hne => ?_⟩
  rw [← h.block k hk hne]
  exact Below.heap_setCell wr ⟨g, i, none⟩ v k (fun e => hne (by rw [e]))

set_option maxHeartbeats 1000000 in
set_option maxRecDepth 100000 in
theorem Over_calls (g : Nat) (l : List Int) (w : World) (hb : Blk w g l) (hl : l.length ≤ 140737488351232) :
    Calls Try.prog 31 #[.slice (some ⟨g, 0, none⟩) l.length l.length] w fun e w' => (∃ v, e = .returned v) ∧ w.grownBy w' (some g) := by
  have HB := Lib.hid hb
  clear hb
  go_enter Try.func31, Try.ntmps31
  go_wp2_with fail
  go_loopw [3] (fun i wr => ∃ (k : Nat) (l' : List Int), k ≤ l.length ∧ i = .int .i64 k ∧ Hid (l'.length = l.length) ∧ Hid (Blk wr g l') ∧ Hid (w.grownBy wr (some g))) (fun i _ => l.length - (intOf i).toNat)
  case atStart => exact ⟨0, l, Nat.zero_le _, rfl, Lib.hid rfl, HB, Lib.hid (grown_refl _ _)⟩
  case round =>
    obtain ⟨k, l', hk, rfl, hl', hbk, hg⟩ := hrel
    by_cases hlt : k < l.length
    · have hc1 := (hbk.out.cell (i := k) (by rw [hl'.out]; exact hlt)).1
      have hf1 := (hbk.out.cell (i := k) (by rw [hl'.out]; exact hlt)).2
      generalize l'.getD k 0 = old at hc1
      go_wp2
      go_roundw
      case measure => simp [intOf]; omega
      case rel => exact ⟨k + 1, l'.set k _, by omega, by go_num, Lib.hid (by rw [List.length_set]; exact hl'.out), Lib.hid (hbk.out.set k _), Lib.hid (grown_set hg.out k _)⟩
    · obtain rfl : k = l.length := by omega
      go_wp2
      go_end0
      exact ⟨⟨_, rfl⟩, hg.out⟩
set_option maxHeartbeats 1000000 in
set_option maxRecDepth 100000 in
theorem Over_nil (w : World) :
    Calls Try.prog 31 #[.slice none 0 0] w fun e w' => (∃ v, e = .returned v) ∧ w = w' := by
  go_enter Try.func31, Try.ntmps31
  go_wp2_with fail
  go_loop [3] (fun i => i = .int .i64 0) (fun _ => 0)
  case atStart => exact rfl
  case round =>
    obtain rfl := hrel
    go_wp2
    go_end0
    exact ⟨⟨_, rfl⟩, rfl⟩
theorem rd_blk {w : World} {g n : Nat} {l : List Int} (h : Blk w g l) (hn : l.length = n) (hm : n ≤ 9223372036854775807) : Kd.C (Kd.int .u8) w (some ⟨g, 0, none⟩) n l := by
  refine Kd.C_of_reads (d := 0) ⟨hn, hm, fun _ => ⟨⟨g, 0, none⟩, rfl, fun j hj => ?_⟩⟩
  rw [add_plain]
  exact (h.cell (by omega)).1
theorem rd_below {w w1 : World} {A : Option Addr} {l : List Int} (h : Rd w A l) (hb : Below w.heap.size w w1) : Rd w1 A l := Kd.C_below h hb
theorem same_self (l : List Int) : PGfKnown.stowagekit_SameBytes.f l l = some true := by
  unfold PGfKnown.stowagekit_SameBytes.f
  simp

theorem Same_calls (A0 : Option Addr) (n0 c0 : Nat) (l0 : List Int) (A1 : Option Addr) (n1 c1 : Nat) (l1 : List Int) (w : World) (h0 : Kd.C (Kd.int .u8) w A0 n0 l0) (hc0 : n0 ≤ c0) (h1 : Kd.C (Kd.int .u8) w A1 n1 l1) (hc1 : n1 ≤ c1) (he : l0 = l1) :
    Calls Try.prog 29 #[.slice A0 n0 c0, .slice A1 n1 c1] w fun e w' => e = .returned (.bool true) ∧ Drawn0 w w' := by
  have e0 : l0.length = n0 := h0.1
  have e1 : l1.length = n1 := h1.1
  subst e0 e1
  exact PGfKnown.stowagekit_SameBytes.calls A0 c0 l0 A1 c1 l1 true w h0 hc0 h1 hc1 (by rw [he]; exact same_self _)
theorem cut_run (A : Option Addr) (n c : Nat) (m : Int) (h0 : 0 ≤ m) (hm : m ≤ c) (W : World) : (Instr.slice 32 (.slice A n c) none (some (.int .i64 m)) none).run Try.prog W = .ok (.slice A m.toNat c) W := by
  obtain ⟨i0, hi, _, hsz, _⟩ := info_parts info5
  have hel : Try.prog.elem 32 = 5 := by simp [Program.elem, Try.underlying32]
  have hu : Try.prog.underlying 32 = some (.slice (Try.prog.elem 32)) := by rw [hel]; exact Try.underlying32
  have ha : (A.map fun x => x.add 0) = A := by cases A <;> simp [Addr.add]
  rw [run_slice_h W 32 A n c hu .i64 m h0 hm, hel]
  simp [sizeOf, typeInfo, hi, hsz, sliced, Result.andThen, ha]
theorem below_two {w w1 w2 : World} (h : Below w.heap.size w w1) (h2 : Below w1.heap.size w1 w2) : Below w.heap.size w w2 := h.trans (h2.mono h.size)
theorem gl_below_drewN {B : Nat} {w w1 : World} (h : Below B w w1) (n : Nat) : Below B w (w1.drewN n) := ⟨h.os, h.tape, h.output, h.size, h.block⟩
theorem drew_below (w : World) : Below w.heap.size w w.drew := ⟨rfl, rfl, rfl, Nat.le_refl _, fun _ _ => rfl⟩

set_option maxHeartbeats 1000000 in
set_option maxRecDepth 100000 in
theorem Kept_calls (g : Nat) (A : Option Addr) (c : Nat) (l : List Int) (w : World) (hb : Blk w g (lentL l)) (hr : Rd w A l) (hl : l.length ≤ 140737488351232) :
    Calls Try.prog 30 #[.slice (some ⟨g, 0, none⟩) l.length (l.length + 3), .slice A l.length c] w fun e w' => e = .returned (.bool true) ∧ Below w.heap.size w w' := by
  have HB := Lib.hid hb
  have HR := Lib.hid hr
  have HL := Lib.hid (lentL_len l)
  clear hb hr
  have hs1 := fun A => cut_run A l.length (l.length + 3) ((l.length : Int) + 3) (by omega) (by omega)
  rw [show ((l.length : Int) + 3).toNat = l.length + 3 from by omega] at hs1
  have hw3 : IntKind.i64.wrap ((l.length : Int) + 3) = (l.length : Int) + 3 := IntWalk.i64_in _ (by omega)
  go_enter Try.func30, Try.ntmps30
  go_wp2_with fail
  go_region_held3 (fun w' => Below w.heap.size w w') (first | exact Below.refl _ _ | exact drew_below _ | assumption | go_keep)
    (first
    | (go_at_call 24; refine (Lent_calls A c l _ (rd_below HR.out (by assumption)) hl).mono ?_; rintro e w1 ⟨rfl, hb1, hB1⟩; have hB2 := below_two (by assumption) hB1)
    | (go_at_call 29; refine (Same_calls _ _ _ (lentL l) _ _ _ (lentL l) _ (rd_blk (HB.out.below (by assumption) HB.out.lt) HL.out (by omega)) (by omega) (rd_blk (by assumption) HL.out (by omega)) (by omega) rfl).mono ?_; rintro e w2 ⟨rfl, ⟨nd, rfl⟩⟩; have hB3 : Below w.heap.size w (World.drewN _ nd) := gl_below_drewN (by assumption) nd))
  go_wp2
  go_ret
  exact ⟨rfl, by assumption⟩
end Go.Proofs.Ytpogicakpgpkcaa.GfL
