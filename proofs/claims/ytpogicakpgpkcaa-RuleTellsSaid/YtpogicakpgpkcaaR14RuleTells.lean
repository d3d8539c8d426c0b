/- What comes in, opened: rules, versions. -/
import Derived.Test.YtpogicakpgpkcaaR7RuleTells
import Derived.Deep.Slices
import Derived.Deep.Fields
import Derived.ChangeSame
import Derived.Lib.SmallJoins
namespace Go.Proofs.Ytpogicakpgpkcaa.RRuleTells
open Go.RowKit Go.Proofs.Ytpogicakpgpkcaa.PRuleTells Go.Proofs.YtpogicakpgpkcaaW.PrintWords Go.Proofs.YtpogicakpgpkcaaW.PrintLast Go.Proofs.YtpogicakpgpkcaaW.PrintMore Go.ChangeShapes Go.WideShapes Go.Deep
section
variable {H : Type} {enc : TypeId × Value → H} {W : World} {sp : Nat → Bool} {held : Bool} {n : Nat} {cs : List Value} {y : DataW H × List MemPlace}
theorem un9 : Try.prog.underlying 9 = some .string := by kernel_rfl
theorem un3 : Try.prog.underlying 3 = some (.int .i64) := by kernel_rfl
theorem un4 : Try.prog.underlying 4 = some .bool := by kernel_rfl
theorem un46 : Try.prog.underlying 46 = some (.slice 53) := by kernel_rfl
theorem co9 : Try.prog.cellsOf 9 = 1 := by kernel_rfl
theorem co3 : Try.prog.cellsOf 3 = 1 := by kernel_rfl
theorem co4 : Try.prog.cellsOf 4 = 1 := by kernel_rfl
theorem co45 : Try.prog.cellsOf 45 = 3 := by kernel_rfl
theorem co53 : Try.prog.cellsOf 53 = 5 := by kernel_rfl
theorem some_of_lt {α : Type} {xs : List α} {i : Nat} (h : i < xs.length) : ∃ x, xs[i]? = some x := ⟨_, List.getElem?_eq_getElem h⟩
theorem rule_opened (h : DataW.trod enc Try.prog W 0 sp held n 45 cs = some y) : ∃ r : S45, cs = [.string r.f0, .int .i64 r.f1, .int .i64 r.f2] := by
  obtain ⟨xs, m, _, _, hl, hxl, hf⟩ := DataW.trod_struct Try.underlying45 h
  rw [co45] at hl
  have hx3 : xs.length = 3 := hxl
  match cs, hl with
  | [a, b, c], _ =>
    have h0 : DataW.trod enc Try.prog W 0 sp held m 9 [a] = xs[0]? := by
      have q : DataW.trod enc Try.prog W 0 sp held m 9 (([a, b, c].drop 0).take (Try.prog.cellsOf 9)) = xs[0]? := hf 0 _ rfl
      rw [co9] at q; exact q
    have h1 : DataW.trod enc Try.prog W 0 sp held m 3 [b] = xs[1]? := by
      have q : DataW.trod enc Try.prog W 0 sp held m 3 (([a, b, c].drop 1).take (Try.prog.cellsOf 3)) = xs[1]? := hf 1 _ rfl
      rw [co3] at q; exact q
    have h2 : DataW.trod enc Try.prog W 0 sp held m 3 [c] = xs[2]? := by
      have q : DataW.trod enc Try.prog W 0 sp held m 3 (([a, b, c].drop 2).take (Try.prog.cellsOf 3)) = xs[2]? := hf 2 _ rfl
      rw [co3] at q; exact q
    obtain ⟨z0, e0⟩ := some_of_lt (xs := xs) (i := 0) (by omega)
    obtain ⟨z1, e1⟩ := some_of_lt (xs := xs) (i := 1) (by omega)
    obtain ⟨z2, e2⟩ := some_of_lt (xs := xs) (i := 2) (by omega)
    rw [e0] at h0
    rw [e1] at h1
    rw [e2] at h2
    obtain ⟨s, hs, _⟩ := DataW.trod_string un9 h0
    obtain ⟨d, hd, _⟩ := DataW.trod_int un3 h1
    obtain ⟨o, ho, _⟩ := DataW.trod_int un3 h2
    injection hs with hs
    injection hd with hd
    injection ho with ho
    exact ⟨⟨s, d, o⟩, by rw [hs, hd, ho]⟩
theorem version_opened (h : DataW.trod enc Try.prog W 0 sp held n 53 cs = some y) : ∃ r : S53, cs = [.string r.f0, .int .i64 r.f1, .bool r.f2, .int .i64 r.f3, .string r.f4] := by
  obtain ⟨xs, m, _, _, hl, hxl, hf⟩ := DataW.trod_struct Try.underlying53 h
  rw [co53] at hl
  have hx3 : xs.length = 5 := hxl
  match cs, hl with
  | [a, b, c, d, e], _ =>
    have h0 : DataW.trod enc Try.prog W 0 sp held m 9 [a] = xs[0]? := by
      have q : DataW.trod enc Try.prog W 0 sp held m 9 (([a, b, c, d, e].drop 0).take (Try.prog.cellsOf 9)) = xs[0]? := hf 0 _ rfl
      rw [co9] at q; exact q
    have h1 : DataW.trod enc Try.prog W 0 sp held m 3 [b] = xs[1]? := by
      have q : DataW.trod enc Try.prog W 0 sp held m 3 (([a, b, c, d, e].drop 1).take (Try.prog.cellsOf 3)) = xs[1]? := hf 1 _ rfl
      rw [co3] at q; exact q
    have h2 : DataW.trod enc Try.prog W 0 sp held m 4 [c] = xs[2]? := by
      have q : DataW.trod enc Try.prog W 0 sp held m 4 (([a, b, c, d, e].drop 2).take (Try.prog.cellsOf 4)) = xs[2]? := hf 2 _ rfl
      rw [co4] at q; exact q
    have h3 : DataW.trod enc Try.prog W 0 sp held m 3 [d] = xs[3]? := by
      have q : DataW.trod enc Try.prog W 0 sp held m 3 (([a, b, c, d, e].drop 3).take (Try.prog.cellsOf 3)) = xs[3]? := hf 3 _ rfl
      rw [co3] at q; exact q
    have h4 : DataW.trod enc Try.prog W 0 sp held m 9 [e] = xs[4]? := by
      have q : DataW.trod enc Try.prog W 0 sp held m 9 (([a, b, c, d, e].drop 4).take (Try.prog.cellsOf 9)) = xs[4]? := hf 4 _ rfl
      rw [co9] at q; exact q
    obtain ⟨z0, e0⟩ := some_of_lt (xs := xs) (i := 0) (by omega)
    obtain ⟨z1, e1⟩ := some_of_lt (xs := xs) (i := 1) (by omega)
    obtain ⟨z2, e2⟩ := some_of_lt (xs := xs) (i := 2) (by omega)
    obtain ⟨z3, e3⟩ := some_of_lt (xs := xs) (i := 3) (by omega)
    obtain ⟨z4, e4⟩ := some_of_lt (xs := xs) (i := 4) (by omega)
    rw [e0] at h0
    rw [e1] at h1
    rw [e2] at h2
    rw [e3] at h3
    rw [e4] at h4
    obtain ⟨s, hs, _⟩ := DataW.trod_string un9 h0
    obtain ⟨t, ht, _⟩ := DataW.trod_int un3 h1
    obtain ⟨b', hb, _⟩ := DataW.trod_bool un4 h2
    obtain ⟨o, ho, _⟩ := DataW.trod_int un3 h3
    obtain ⟨u, hu, _⟩ := DataW.trod_string un9 h4
    injection hs with hs
    injection ht with ht
    injection hb with hb
    injection ho with ho
    injection hu with hu
    exact ⟨⟨s, t, b', o, u⟩, by rw [hs, ht, hb, ho, hu]⟩
theorem row_of {α : Type} (d : Kd α) (z : α) (enc' : α → List Value) {a : Addr} {len : Nat} (hm : len ≤ 9223372036854775807) (hsz : ∀ x, (enc' x).length = d.sz) (hK : ∀ x, d.K W x (enc' x))
    (h : ∀ i, i < len → ∃ x, ∀ j u, (enc' x)[j]? = some u → W.cell? (a.add (i * d.sz + j)) = some u) : ∃ l : List α, l.length = len ∧ Kd.C d W (some a) l.length l := by
  have h' : ∀ i, ∃ x, i < len → ∀ j u, (enc' x)[j]? = some u → W.cell? (a.add (i * d.sz + j)) = some u := fun i => by
    by_cases hi : i < len
    · obtain ⟨x, hx⟩ := h i hi
      exact ⟨x, fun _ => hx⟩
    · exact ⟨z, fun h => absurd h hi⟩
  refine ⟨(List.range len).map fun i => Classical.choose (h' i), by simp, rfl, by simpa using hm, fun _ => ⟨a, rfl, fun j p hj => ?_⟩⟩
  rw [List.getElem?_map] at hj
  have hjl : j < len := by
    apply Classical.byContradiction
    intro hn
    rw [List.getElem?_eq_none (by simpa using hn)] at hj
    cases hj
  rw [List.getElem?_range hjl] at hj
  simp only [Option.map_some, Option.some.injEq] at hj
  subst hj
  exact ⟨enc' _, hsz _, hK _, Classical.choose_spec (h' j) hjl⟩
theorem rules_in {a : Option Addr} {len cap : Nat} (h : DataW.trod enc Try.prog W 0 (fun _ => true) held n 43 [.slice a len cap] = some y) : ∃ l : List S45, l.length = len ∧ len ≤ cap ∧ Kd.C k45 W a l.length l := by
  rcases open_slice (show Try.prog.underlying 43 = some (.slice 45) by kernel_rfl) h with ⟨e, _⟩ | ⟨ad, len', cap', m, n', D, Pl, e, _, hl, hm, hmm, _, hi⟩
  · injection e with e; injection e with e1 e2 e3
    subst e1 e2 e3
    exact ⟨[], rfl, Nat.le_refl _, rfl, by decide, fun h => absurd h (by decide)⟩
  · injection e with e; injection e with e1 e2 e3
    subst e1 e2 e3
    simp only [if_true] at hmm
    have hmx : cap ≤ 9223372036854775807 := hm
    obtain ⟨l, h1, h2⟩ := row_of (W := W) k45 z45 (fun r => [.string r.f0, .int .i64 r.f1, .int .i64 r.f2]) (a := ad) (len := len) (by omega) (fun _ => rfl) (fun r => k45_mk W r) (fun i hil => by
      obtain ⟨cs', hc, ht⟩ := hi i (by omega)
      obtain ⟨r, hr⟩ := rule_opened ht
      refine ⟨r, fun j u hj => ?_⟩
      obtain ⟨_, hlen, hcell⟩ := World.cells?_some hc
      rw [hr] at hcell hlen
      rw [co45] at hcell
      have hj3 : j < 3 := (List.getElem?_eq_some_iff.1 hj).1
      have := hcell j hj3
      rw [← Go.Deep.add_add] 
      exact this.trans hj)
    exact ⟨l, h1, hl, h2⟩
theorem versions_in {v : Value} (h : DataW.trod enc Try.prog W 0 (fun _ => true) held n 46 [v] = some y) : ∃ (V : Option Addr) (cv : Nat) (l : List S53), v = .slice V l.length cv ∧ l.length ≤ cv ∧ Kd.C k53 W V l.length l := by
  rcases open_slice un46 h with ⟨e, _⟩ | ⟨ad, len, cap, m, n', D, Pl, e, _, hl, hm, hmm, _, hi⟩
  · injection e with e
    exact ⟨none, 0, [], e, Nat.le_refl _, rfl, by decide, fun h => absurd h (by decide)⟩
  · injection e with e
    subst e
    simp only [if_true] at hmm
    have hmx : cap ≤ 9223372036854775807 := hm
    obtain ⟨l, h1, h2⟩ := row_of (W := W) k53 z53 (fun r => [.string r.f0, .int .i64 r.f1, .bool r.f2, .int .i64 r.f3, .string r.f4]) (a := ad) (len := len) (by omega) (fun _ => rfl) (fun r => k53_mk W r) (fun i hil => by
      obtain ⟨cs', hc, ht⟩ := hi i (by omega)
      obtain ⟨r, hr⟩ := version_opened ht
      refine ⟨r, fun j u hj => ?_⟩
      obtain ⟨_, hlen, hcell⟩ := World.cells?_some hc
      rw [hr] at hcell hlen
      rw [co53] at hcell
      have hj3 : j < 5 := (List.getElem?_eq_some_iff.1 hj).1
      have := hcell j hj3
      rw [← Go.Deep.add_add] 
      exact this.trans hj)
    subst h1
    exact ⟨some ad, cap, l, rfl, hl, h2⟩
end
end Go.Proofs.Ytpogicakpgpkcaa.RRuleTells
