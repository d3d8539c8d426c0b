/- The walk of GfLists. -/
import Derived.Test.YtpogicakpgpkcaaGfL4
namespace Go.Proofs.Ytpogicakpgpkcaa.GfL
open Go.RowKit Go.Proofs.YtpogicakpgpkcaaW.PrintWords Go.Proofs.YtpogicakpgpkcaaW.PrintLast Go.Proofs.Ytpogicakpgpkcaa.Gf Go.Proofs.Ytpogicakpgpkcaa.PureL

/-- Two lists are lent, in blocks of the call's own. -/
structure St (w W : World) (gp gq : Nat) (X Y : List Int) : Prop where
  bel : Below w.heap.size w W
  p : Blk W gp (lentL X)
  q : Blk W gq (lentL Y)
  hp : w.heap.size ≤ gp
  hq : w.heap.size ≤ gq
theorem St.next {w W W' : World} {gp gq : Nat} {X Y : List Int} (h : St w W gp gq X Y) (hb : Below W.heap.size W W') : St w W' gp gq X Y :=
  ⟨below_two h.bel hb, h.p.below hb h.p.lt, h.q.below hb h.q.lt, h.hp, h.hq⟩
theorem St.over {w W W' : World} {gp gq g : Nat} {X Y : List Int} (h : St w W gp gq X Y) (hg : W.grownBy W' (some g)) (h0 : w.heap.size ≤ g) (h1 : g ≠ gp) (h2 : g ≠ gq) : St w W' gp gq X Y := by
  refine ⟨⟨hg.os.trans h.bel.os, hg.tape.trans h.bel.tape, hg.output.trans h.bel.output, Nat.le_trans h.bel.size hg.size, fun k hk => ?_⟩, ?_, ?_, h.hp, h.hq⟩
  · exact (hg.block k (Nat.lt_of_lt_of_le hk h.bel.size) (by intro e; injection e with e; omega)).trans (h.bel.block k hk)
  · exact (hg.block gp h.p.lt (by intro e; injection e with e; omega)).trans h.p
  · exact (hg.block gq h.q.lt (by intro e; injection e with e; omega)).trans h.q
theorem rd_lent {W : World} {g n : Nat} {X : List Int} (h : Blk W g (lentL X)) (hn : X.length = n) (hm : n ≤ 9223372036854775807) : Kd.C (Kd.int .u8) W (some ⟨g, 0, none⟩) n X := by
  refine Kd.C_of_reads (d := 0) ⟨hn, hm, fun _ => ⟨⟨g, 0, none⟩, rfl, fun j hj => ?_⟩⟩
  rw [add_plain]
  have := (h.cell (i := j) (by rw [lentL_len]; omega)).1
  rw [this]
  congr 2
  unfold lentL
  simp only [List.getD]
  rw [List.getElem?_append_left (by omega)]
theorem Lent_n (A : Option Addr) (n c : Nat) (l : List Int) (w : World) (hr : Kd.C (Kd.int .u8) w A n l) (hl : n ≤ 140737488351232) :
    Calls Try.prog 24 #[.slice A n c] w fun e w' => e = .returned (.slice (some ⟨w.heap.size, 0, none⟩) n (n + 3)) ∧ Blk w' w.heap.size (lentL l) ∧ Below w.heap.size w w' := by
  have e0 : l.length = n := hr.1
  subst e0
  exact Lent_calls A c l w hr hl
theorem Kept_n (g : Nat) (A : Option Addr) (n c : Nat) (l : List Int) (w : World) (hb : Blk w g (lentL l)) (hr : Kd.C (Kd.int .u8) w A n l) (hl : n ≤ 140737488351232) :
    Calls Try.prog 30 #[.slice (some ⟨g, 0, none⟩) n (n + 3), .slice A n c] w fun e w' => e = .returned (.bool true) ∧ Below w.heap.size w w' := by
  have e0 : l.length = n := hr.1
  subst e0
  exact Kept_calls g A c l w hb hr hl
theorem Over_n (g n : Nat) (l : List Int) (w : World) (hb : Blk w g l) (hn : l.length = n) (hl : n ≤ 140737488351232) :
    Calls Try.prog 31 #[.slice (some ⟨g, 0, none⟩) n n] w fun e w' => (∃ v, e = .returned v) ∧ w.grownBy w' (some g) := by
  subst hn
  exact Over_calls g l w hb hl
section
variable (A0 : Option Addr) (n0 c0 : Nat) (x : List Nat) (A1 : Option Addr) (n1 c1 : Nat) (y : List Nat) (w : World) (h0 : Kd.C (Kd.int .u8) w A0 n0 (NL x)) (hc0 : n0 ≤ c0) (h1 : Kd.C (Kd.int .u8) w A1 n1 (NL y)) (hc1 : n1 ≤ c1)
include h0 hc0 h1 hc1
theorem Axpy_bad_n (a : Int) (hw : why n1 n0 ≠ 0) :
    Calls Try.prog 25 #[.slice A0 n0 c0, .slice A1 n1 c1, .int .u8 a] w fun e w' => e = .returned (.tuple #[.slice none 0 0, .int .i64 (why n1 n0)]) ∧ Below w.heap.size w w' := by
  have e0 : (NL x).length = n0 := h0.1
  have e1 : (NL y).length = n1 := h1.1
  subst e0 e1
  refine Axpy_bad A0 c0 (NL x) A1 c1 (NL y) a w h0 hc0 h1 hc1 _ hw ⟨1, ?_⟩
  unfold PGfKnown.gf_pair.f why
  simp only [PGfKnown.gf_pair.j0]
  by_cases k0 : (NL y).length > 65536
  · rw [if_pos (by omega), if_true, if_pos (Or.inl k0)]
  · rw [if_neg (by omega)]
    by_cases k1 : (NL x).length > 65536
    · rw [if_pos (by simp; omega), if_pos (Or.inr k1)]
    · rw [if_neg (by simp; omega), if_neg (show ¬ ((NL y).length > 65536 ∨ (NL x).length > 65536) by omega)]
      by_cases h : (NL y).length = (NL x).length
      · rw [if_pos (by omega), if_pos h]
      · rw [if_neg (by omega), if_neg h]
theorem Dot_n (r e : Int) (h : ∃ k, PGfLists.gf_Dot.f k (NL x) (NL y) = some (r, e)) :
    Calls Try.prog 27 #[.slice A0 n0 c0, .slice A1 n1 c1] w fun e_ w' => e_ = .returned (.tuple #[.int .u8 r, .int .i64 e]) ∧ Drawn0 w w' := by
  have e0 : (NL x).length = n0 := h0.1
  have e1 : (NL y).length = n1 := h1.1
  subst e0 e1
  obtain ⟨k, hk⟩ := h
  exact PGfLists.gf_Dot.calls k A0 c0 (NL x) A1 c1 (NL y) r e w h0 hc0 h1 hc1 hk
theorem refDot_n (r e : Int) (h : ∃ k, PGfLists.stowageref01_Dot.f k (NL x) (NL y) = some (r, e)) :
    Calls Try.prog 28 #[.slice A0 n0 c0, .slice A1 n1 c1] w fun e_ w' => e_ = .returned (.tuple #[.int .u8 r, .int .i64 e]) ∧ Drawn0 w w' := by
  have e0 : (NL x).length = n0 := h0.1
  have e1 : (NL y).length = n1 := h1.1
  subst e0 e1
  obtain ⟨k, hk⟩ := h
  exact PGfLists.stowageref01_Dot.calls k A0 c0 (NL x) A1 c1 (NL y) r e w h0 hc0 h1 hc1 hk
theorem refAxpy_n (a : Int) (r : List Int) (m : Nat) (hm : r.length = m) (e : Int) (h : ∃ k, PGfLists.stowageref01_Axpy.f k (NL x) (NL y) a = some (r, e)) :
    Calls Try.prog 26 #[.slice A0 n0 c0, .slice A1 n1 c1, .int .u8 a] w fun e_ w' => ∃ (A : Option Addr) (c : Nat), e_ = .returned (.tuple #[.slice A m c, .int .i64 e]) ∧ m ≤ c ∧ Kd.C (Kd.int .u8) w' A m r ∧ Below w.heap.size w w' := by
  have e0 : (NL x).length = n0 := h0.1
  have e1 : (NL y).length = n1 := h1.1
  subst e0 e1 hm
  obtain ⟨k, hk⟩ := h
  refine (PGfLists.stowageref01_Axpy.calls k A0 c0 (NL x) A1 c1 (NL y) a r e w h0 hc0 h1 hc1 hk).mono ?_
  rintro e_ w' ⟨v, rfl, hR, hb⟩
  obtain ⟨A, c, rfl, hc, hC⟩ := Kd.R_reads hR
  exact ⟨A, c, rfl, hc, hC, hb⟩
end
theorem awake_calls (w : World) : Calls Try.prog 23 #[] w fun e w' => e = .returned (.bool true) ∧ Drawn0 w w' :=
  PGfLists.stowagelaw01_awake.calls 60 true w (PureL.awake_is 60 (by omega))
end Go.Proofs.Ytpogicakpgpkcaa.GfL
