/- What comes in, opened: buckets with their rules. No statement of the seat stands here. -/
import Derived.Test.YtoddlefhlicfiaaGreatDoorRRowDev
import Derived.Deep.Slices
import Derived.Deep.Fields
import Derived.ChangeSame
import Derived.Lib.SmallJoins
set_option linter.unusedSimpArgs false
set_option linter.unusedVariables false
namespace Go.Proofs.YtoddlefhlicfiaaGreatDoorR.RdrDev
open Go.RowKit Go.ChangeShapes Go.WideShapes Go.Deep
section
variable {H : Type} {enc : TypeId × Value → H} {W : World} {sp : Nat → Bool} {held : Bool} {n : Nat} {cs : List Value} {y : DataW H × List MemPlace}
theorem unStr : Tryz.prog.underlying 9 = some .string := by kernel_rfl
theorem unInt : Tryz.prog.underlying 3 = some (.int .i64) := by kernel_rfl
theorem coStr : Tryz.prog.cellsOf 9 = 1 := by kernel_rfl
theorem coInt : Tryz.prog.cellsOf 3 = 1 := by kernel_rfl
theorem coRule : Tryz.prog.cellsOf 44 = 3 := by kernel_rfl
theorem some_of_lt {α : Type} {xs : List α} {i : Nat} (h : i < xs.length) : ∃ x, xs[i]? = some x := ⟨_, List.getElem?_eq_getElem h⟩
set_option maxRecDepth 100000 in
theorem rule_opened (h : DataW.trod enc Tryz.prog W 0 sp held n 44 cs = some y) : ∃ r : RL, cs = [.string r.p, .int .i64 r.d, .int .i64 r.o] := by
  obtain ⟨xs, m, _, _, hl, hxl, hf⟩ := DataW.trod_struct Tryz.underlying44 h
  rw [coRule] at hl
  have hx3 : xs.length = 3 := hxl
  match cs, hl with
  | [a, b, c], _ =>
    have h0 : DataW.trod enc Tryz.prog W 0 sp held m 9 [a] = xs[0]? := by
      have q : DataW.trod enc Tryz.prog W 0 sp held m 9 (([a, b, c].drop 0).take (Tryz.prog.cellsOf 9)) = xs[0]? := hf 0 _ rfl
      rw [coStr] at q; exact q
    have h1 : DataW.trod enc Tryz.prog W 0 sp held m 3 [b] = xs[1]? := by
      have q : DataW.trod enc Tryz.prog W 0 sp held m 3 (([a, b, c].drop 1).take (Tryz.prog.cellsOf 3)) = xs[1]? := hf 1 _ rfl
      rw [coInt] at q; exact q
    have h2 : DataW.trod enc Tryz.prog W 0 sp held m 3 [c] = xs[2]? := by
      have q : DataW.trod enc Tryz.prog W 0 sp held m 3 (([a, b, c].drop 2).take (Tryz.prog.cellsOf 3)) = xs[2]? := hf 2 _ rfl
      rw [coInt] at q; exact q
    obtain ⟨z0, e0⟩ := some_of_lt (xs := xs) (i := 0) (by omega)
    obtain ⟨z1, e1⟩ := some_of_lt (xs := xs) (i := 1) (by omega)
    obtain ⟨z2, e2⟩ := some_of_lt (xs := xs) (i := 2) (by omega)
    rw [e0] at h0
    rw [e1] at h1
    rw [e2] at h2
    obtain ⟨s, hs, _⟩ := DataW.trod_string unStr h0
    obtain ⟨d, hd, _⟩ := DataW.trod_int unInt h1
    obtain ⟨o, ho, _⟩ := DataW.trod_int unInt h2
    injection hs with hs
    injection hd with hd
    injection ho with ho
    exact ⟨⟨s, d, o⟩, by rw [hs, hd, ho]⟩
theorem add_fld (ad : Addr) (m j : Nat) (hj : 0 < j) : ad.add (m + j) = ⟨(ad.add m).block, (ad.add m).off + j, none⟩ := by
  unfold Addr.add
  by_cases hm : m = 0
  · subst hm
    simp [Nat.ne_of_gt hj]
  · have : m + j ≠ 0 := by omega
    simp [hm, this, Nat.add_assoc]
theorem rules_of (a : Addr) (len : Nat) (h : ∀ i, i < len → ∃ r : RL, ∀ j u, (rc r)[j]? = some u → W.cell? (a.add (i * 3 + j)) = some u) : ∃ rs : List RL, rs.length = len ∧ RulesAt W (some a) rs := by
  have h' : ∀ i, ∃ r : RL, i < len → ∀ j u, (rc r)[j]? = some u → W.cell? (a.add (i * 3 + j)) = some u := fun i => by
    by_cases hi : i < len
    · obtain ⟨x, hx⟩ := h i hi
      exact ⟨x, fun _ => hx⟩
    · exact ⟨⟨⟨#[]⟩, 0, 0⟩, fun h => absurd h hi⟩
  refine ⟨(List.range len).map fun i => Classical.choose (h' i), by simp, fun j hj => ?_⟩
  have hjl : j < len := by simpa using hj
  have hs := Classical.choose_spec (h' j) hjl
  refine ⟨a, Classical.choose (h' j), rfl, by rw [List.getElem?_map, List.getElem?_range hjl]; rfl, ?_, ?_, ?_⟩
  · have := hs 0 _ rfl
    rwa [Nat.add_zero] at this
  · rw [← add_fld a (j * 3) 1 (by omega)]; exact hs 1 _ rfl
  · rw [← add_fld a (j * 3) 2 (by omega)]; exact hs 2 _ rfl
theorem rules_in {v : Value} (h : DataW.trod enc Tryz.prog W 0 (fun _ => true) held n 22 [v] = some y) : ∃ (A : Option Addr) (c : Nat) (rs : List RL), v = .slice A rs.length c ∧ rs.length ≤ c ∧ rs.length ≤ 9223372036854775807 ∧ RulesAt W A rs := by
  rcases open_slice (show Tryz.prog.underlying 22 = some (.slice 44) by kernel_rfl) h with ⟨e, _⟩ | ⟨ad, len, cap, m, n', D, Pl, e, _, hl, hm, hmm, _, hi⟩
  · injection e with e
    exact ⟨none, 0, [], e, Nat.le_refl _, by simp, fun j hj => absurd hj (Nat.not_lt_zero _)⟩
  · injection e with e
    subst e
    simp only [if_true] at hmm
    have hmx : cap ≤ 9223372036854775807 := hm
    obtain ⟨rs, h1, h2⟩ := rules_of (W := W) ad len (fun i hil => by
      obtain ⟨cs', hc, ht⟩ := hi i (by omega)
      obtain ⟨r, hr⟩ := rule_opened ht
      refine ⟨r, fun j u hj => ?_⟩
      obtain ⟨_, hlen, hcell⟩ := World.cells?_some hc
      rw [hr] at hcell hlen
      rw [coRule] at hcell
      have hj3 : j < 3 := (List.getElem?_eq_some_iff.1 hj).1
      have := hcell j hj3
      rw [← Go.Deep.add_add]
      exact this.trans hj)
    subst h1
    exact ⟨some ad, cap, rs, rfl, hl, by omega, h2⟩
end
section
variable {H : Type} {enc : TypeId × Value → H} {W : World}
set_option maxRecDepth 100000 in
theorem bucket_in {r : Reach} {b0 : Nat} {v : Value} {d : DataW H} {p : List MemPlace} (hv : Value.okWide Tryz.prog W r b0 24 v) (h : DataW.Trod enc Tryz.prog W 0 (fun _ => true) true 24 v d p) : ∃ (nm : ByteArray) (t st : Int) (A : Option Addr) (c : Nat) (rs : List RL), v = .agg #[.string nm, .int .i64 t, .int .i64 st, .slice A rs.length c] ∧ rs.length ≤ c ∧ rs.length ≤ 9223372036854775807 ∧ RulesAt W A rs := by
  obtain ⟨m0, m1, m2, m3, g0, g1, g2, g3, n0, e0, e1, e2, t0, t1, t2, t3⟩ := Go.Joins.open_agg4 Tryz.underlying24 (by kernel_rfl) (by kernel_rfl) hv h
  obtain ⟨s0, hs0, _⟩ := DataW.trod_string unStr t0
  obtain ⟨s1, hs1, _⟩ := DataW.trod_int unInt t1
  obtain ⟨s2, hs2, _⟩ := DataW.trod_int unInt t2
  obtain ⟨A, c, rs, hs3, h4, h5, h6⟩ := rules_in t3
  injection hs0 with hs0
  injection hs1 with hs1
  injection hs2 with hs2
  exact ⟨s0, s1, s2, A, c, rs, by rw [e0, hs0, hs1, hs2, hs3], h4, h5, h6⟩
end
end Go.Proofs.YtoddlefhlicfiaaGreatDoorR.RdrDev
