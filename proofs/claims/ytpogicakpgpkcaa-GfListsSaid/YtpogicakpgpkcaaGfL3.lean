/- gf.Axpy, as a contract that tells the very block. -/
import Derived.Test.YtpogicakpgpkcaaGfL2
import Derived.Test.YtpogicakpgpkcaaPureGfKnown
namespace Go.Proofs.Ytpogicakpgpkcaa.GfL
open Go.RowKit Go.Proofs.YtpogicakpgpkcaaW.PrintWords Go.Proofs.YtpogicakpgpkcaaW.PrintLast Go.Proofs.Ytpogicakpgpkcaa.Gf

def NL (l : List Nat) : List Int := l.map (fun (n : Nat) => (n : Int))
theorem NL_len (l : List Nat) : (NL l).length = l.length := by simp [NL]
theorem NL_get (l : List Nat) (i : Nat) : (NL l).getD i 0 = ((l.getD i 0 : Nat) : Int) := by
  unfold NL
  simp only [List.getD, List.getElem?_map]
  cases l[i]? <;> rfl
theorem rd_NL (l : List Nat) (i : Nat) : rd (NL l) (i : Int) = ((l.getD i 0 : Nat) : Int) := by
  unfold rd; rw [Int.toNat_natCast, NL_get]
def Bytes (l : List Nat) : Prop := ∀ n ∈ l, n < 256
theorem Bytes.get {l : List Nat} (h : Bytes l) (i : Nat) : l.getD i 0 < 256 := by
  simp only [List.getD]
  cases e : l[i]? with
  | none => simp
  | some x => exact h x (List.mem_of_getElem? e)
/-- y + a x. -/
def axS (l0 l1 : List Nat) (a : Nat) : List Nat := List.zipWith (fun y x => y ^^^ mul a x) l0 l1
theorem axS_len {l0 l1 : List Nat} (a : Nat) (h : l0.length = l1.length) : (axS l0 l1 a).length = l0.length := by simp [axS, h]
theorem axS_get {l0 l1 : List Nat} (a : Nat) (h : l0.length = l1.length) (i : Nat) (hi : i < l0.length) : (axS l0 l1 a)[i]? = some (l0.getD i 0 ^^^ mul a (l1.getD i 0)) := by
  unfold axS
  rw [List.getElem?_zipWith]
  have h0 : l0[i]? = some (l0.getD i 0) := by simp [List.getD, hi]
  have h1 : l1[i]? = some (l1.getD i 0) := by simp [List.getD, show i < l1.length by omega]
  rw [h0, h1]
/-- The first k are there. -/
def part (s : List Nat) (k : Nat) : List Nat := s.take k ++ List.replicate (s.length - k) 0
theorem part_len (s : List Nat) (k : Nat) (h : k ≤ s.length) : (part s k).length = s.length := by simp [part]; omega
theorem part_set (s : List Nat) (k v : Nat) (h : s[k]? = some v) : (part s k).set k v = part s (k + 1) := by
  have hk := (List.getElem?_eq_some_iff.1 h).1
  unfold part
  have ht : (s.take k).length = k := by rw [List.length_take]; omega
  rw [List.set_append_right _ _ (by omega), ht, Nat.sub_self, List.take_add_one, h]
  obtain ⟨m, hm⟩ : ∃ m, s.length - k = m + 1 := ⟨s.length - k - 1, by omega⟩
  rw [hm, show s.length - (k + 1) = m from by omega]
  simp [List.replicate_succ]
theorem part_all (s : List Nat) : part s s.length = s := by simp [part]
theorem NL_set (s : List Nat) (k v : Nat) : (NL s).set k (v : Int) = NL (s.set k v) := by simp [NL, List.map_set]

def Z0 (n : Nat) : List Value := (NL (List.replicate n 0)).map (Value.int .u8)
theorem made_Z0 (n : Nat) : madeCells (Value.int .u8 0).cells (n * 1) = (Z0 n).toArray := by
  apply Array.ext
  · simp [madeCells, Z0, NL]
  · intro i h1 h2
    have h3 : (Value.int .u8 0).cells = #[Value.int .u8 0] := rfl
    simp [madeCells, Z0, NL, h3, Nat.mod_one]
theorem run_mk (n : Nat) (hn : n ≤ 140737488351232) (W : World) : (Instr.makeSlice 32 (.int .i64 (n : Int)) (.int .i64 (n : Int))).run Try.prog W = .ok (.slice (some ⟨W.heap.size, 0, none⟩) n n) (W.alloc (.cells (Z0 n).toArray 5)) := by
  obtain ⟨i0, hi, hz0, hz1, hz2⟩ := info_parts info5
  have := run_make (P := Try.prog) W 32 5 i0 (.int .u8 0) Try.underlying32 hi hz0 .i64 .i64 (n : Int) (n : Int) (by omega) (by omega) (by rw [hz2]; omega) (by omega)
  rw [hz1, show ((n : Int)).toNat = n from by omega, made_Z0] at this
  exact this
theorem pair_calls (A0 : Option Addr) (n0 c0 : Nat) (l0 : List Int) (A1 : Option Addr) (n1 c1 : Nat) (l1 : List Int) (w : World) (h0 : Kd.C (Kd.int .u8) w A0 n0 l0) (hc0 : n0 ≤ c0) (h1 : Kd.C (Kd.int .u8) w A1 n1 l1) (hc1 : n1 ≤ c1) (r : Int) (he : ∃ k, PGfKnown.gf_pair.f k l0 l1 = some r) :
    Calls Try.prog 53 #[.slice A0 n0 c0, .slice A1 n1 c1] w fun e w' => e = .returned (.int .i64 r) ∧ Drawn0 w w' := by
  have e0 : l0.length = n0 := h0.1
  have e1 : l1.length = n1 := h1.1
  subst e0 e1
  obtain ⟨k, hk⟩ := he
  exact PGfKnown.gf_pair.calls k A0 c0 l0 A1 c1 l1 r w h0 hc0 h1 hc1 hk
theorem Mul_calls (a b : Nat) (ha : a < 256) (hb : b < 256) (w : World) :
    Calls Try.prog 21 #[.int .u8 (a : Int), .int .u8 (b : Int)] w fun e w' => e = .returned (.int .u8 ((mul a b : Nat) : Int)) ∧ Drawn0 w w' :=
  PGfKnown.gf_Mul.calls 9 a b _ w (Pure.Mul_is 9 a b (by omega) ha hb)

set_option maxHeartbeats 1000000 in
set_option maxRecDepth 100000 in
theorem Axpy_bad (A0 : Option Addr) (c0 : Nat) (l0 : List Int) (A1 : Option Addr) (c1 : Nat) (l1 : List Int) (a : Int) (w : World) (h0 : Rd w A0 l0) (hc0 : l0.length ≤ c0) (h1 : Rd w A1 l1) (hc1 : l1.length ≤ c1) (r : Int) (hr : r ≠ 0) (he : ∃ k, PGfKnown.gf_pair.f k l1 l0 = some r) :
    Calls Try.prog 25 #[.slice A0 l0.length c0, .slice A1 l1.length c1, .int .u8 a] w fun e w' => e = .returned (.tuple #[.slice none 0 0, .int .i64 r]) ∧ Below w.heap.size w w' := by
  have HE := Lib.hid he
  have H0 := Lib.hid h0
  have H1 := Lib.hid h1
  have hb1 : (r == 0) = false := beq_eq_false_iff_ne.2 hr
  have hb2 : (r != 0) = true := by simp [hr]
  clear he h0 h1 hr
  go_enter Try.func25, Try.ntmps25
  go_wp2_with (go_at_call 53; refine (pair_calls A1 l1.length c1 l1 A0 l0.length c0 l0 _ (by exact H1.out) hc1 (by exact H0.out) hc0 r HE.out).mono ?_; rintro e w' ⟨rfl, ⟨nd, rfl⟩⟩)
  go_ret2
  exact ⟨rfl, gl_below_drewN (Below.refl _ _) _⟩

set_option maxHeartbeats 2000000 in
set_option maxRecDepth 100000 in
theorem Axpy_good (A0 : Option Addr) (n c0 : Nat) (l0 : List Nat) (A1 : Option Addr) (c1 : Nat) (l1 : List Nat) (a : Nat) (w : World) (h0 : Kd.C (Kd.int .u8) w A0 n (NL l0)) (hc0 : n ≤ c0) (h1 : Kd.C (Kd.int .u8) w A1 n (NL l1)) (hc1 : n ≤ c1) (hn : n ≤ 65536) (b0 : Bytes l0) (b1 : Bytes l1) (ha : a < 256) :
    Calls Try.prog 25 #[.slice A0 n c0, .slice A1 n c1, .int .u8 (a : Int)] w fun e w' => e = .returned (.tuple #[.slice (some ⟨w.heap.size, 0, none⟩) n n, .int .i64 0]) ∧ Blk w' w.heap.size (NL (axS l0 l1 a)) ∧ Below w.heap.size w w' := by
  have e0 : l0.length = n := by have := h0.1; rwa [NL_len] at this
  have e1 : l1.length = n := by have := h1.1; rwa [NL_len] at this
  have hp : ∃ k, PGfKnown.gf_pair.f k (NL l1) (NL l0) = some 0 := ⟨1, by rw [Pure.pair_is 1 (NL l1) (NL l0) (by omega) (by rw [NL_len]; omega) (by rw [NL_len]; omega), if_pos (by rw [NL_len, NL_len]; omega)]⟩
  have hs := axS_len (l0 := l0) (l1 := l1) a (by omega)
  have hg := @axS_get l0 l1 a (by omega)
  rw [e0] at hs hg
  have HP := Lib.hid hp
  have H0 := Lib.hid h0
  have H1 := Lib.hid h1
  have HS := Lib.hid hs
  have HG := Lib.hid hg
  have B0 := Lib.hid b0
  have B1 := Lib.hid b1
  clear hp h0 h1 hs hg e0 e1 b0 b1
  have hmk := run_mk n (by omega)
  have hcut := fun A c (h : (n : Int) ≤ (c : Nat)) => cut_run A n c (n : Int) (by omega) h
  have hcut1 := hcut A1 c1 (by omega)
  rw [Int.toNat_natCast] at hcut1
  clear hcut
  go_enter Try.func25, Try.ntmps25
  go_wp2_with (go_at_call 53; refine (pair_calls A1 n c1 (NL l1) A0 n c0 (NL l0) _ (by exact H1.out) hc1 (by exact H0.out) hc0 0 HP.out).mono ?_; rintro e w' ⟨rfl, ⟨nd, rfl⟩⟩)
  go_loopw [27] (fun i wr => ∃ k : Nat, k ≤ n ∧ i = .int .i64 k ∧ Hid (Blk wr w.heap.size (NL (part (axS l0 l1 a) k))) ∧ Hid (Below w.heap.size w wr)) (fun i _ => n - (intOf i).toNat)
  case atStart =>
    refine ⟨0, Nat.zero_le _, rfl, Lib.hid ?_, Lib.hid ?_⟩
    · have e : part (axS l0 l1 a) 0 = List.replicate n 0 := by unfold part; rw [List.take_zero, List.nil_append, Nat.sub_zero, HS.out]
      rw [e]
      exact heap_alloc_new w _
    · exact gl_below_drewN ((Below.refl _ _).alloc (Nat.le_refl _) _) _
  case round =>
    obtain ⟨k, hk, rfl, hbk, hBk⟩ := hrel
    by_cases hlt : k < n
    · obtain ⟨ad0, ea0, hx0⟩ := Kd.at_int H0.out (k : Int) (by omega) (by omega)
      obtain ⟨ad1, ea1, hx1⟩ := Kd.at_int H1.out (k : Int) (by omega) (by omega)
      rw [rd_NL, Int.toNat_natCast] at hx0 hx1
      have hx0 := pw_cell_below hBk.out hx0
      have hx1 := pw_cell_below hBk.out hx1
      have hv := HG.out k hlt
      have hy := B0.out.get k
      have hz := B1.out.get k
      generalize l0.getD k 0 = y at hx0 hv hy
      generalize l1.getD k 0 = z at hx1 hv hz
      have hm : mul a z < 256 := mul_lt _ ha
      have hxor := xor_u8 y (mul a z) hy hm
      have HX := Lib.hid hxor
      have HV := Lib.hid hv
      clear hxor hv
      subst ea0 ea1
      have hlen : (NL (part (axS l0 l1 a) k)).length = n := by rw [NL_len, part_len _ _ (by rw [HS.out]; omega), HS.out]
      have hc1 := (hbk.out.cell (i := k) (by rw [hlen]; exact hlt)).1
      have hf1 := (hbk.out.cell (i := k) (by rw [hlen]; exact hlt)).2
      generalize (NL (part (axS l0 l1 a) k)).getD k 0 = old at hc1
      clear hlen
      go_wp2_with (go_at_call 21; refine (Mul_calls a z ha hz _).mono ?_; rintro e w' ⟨rfl, ⟨nd, rfl⟩⟩)
      go_roundw
      case measure => simp [intOf]; omega
      case rel =>
        refine ⟨k + 1, by omega, by go_num, Lib.hid ?_, Lib.hid ?_⟩
        · have h1 := Blk.set (w := wr.drewN nd) (show Blk (wr.drewN nd) w.heap.size (NL (part (axS l0 l1 a) k)) from hbk.out) k ((y ^^^ mul a z : Nat) : Int)
          rw [NL_set, part_set _ _ _ HV.out, ← HX.out] at h1
          exact h1
        · exact Below.setCell (gl_below_drewN hBk.out _) (Nat.le_refl _) _
    · obtain rfl : k = n := by omega
      go_wp2
      go_ret2
      refine ⟨rfl, ?_, hBk.out⟩
      have := hbk.out
      rw [show part (axS l0 l1 a) k = axS l0 l1 a from by conv => lhs; rw [← HS.out, part_all]] at this
      exact this
end Go.Proofs.Ytpogicakpgpkcaa.GfL
