/- RuleTells: the walk. -/
import Derived.Test.YtpogicakpgpkcaaT3RuleTells
import Derived.Test.YtpogicakpgpkcaaR14RuleTells
import Derived.Deep.RegionHeld3
import Derived.Deep.RegionLaw
namespace Go.Proofs.Ytpogicakpgpkcaa.RRuleTells
open Go.RowKit Go.Shelf Go.Proofs.Ytpogicakpgpkcaa.It Go.Proofs.Ytpogicakpgpkcaa.PRuleTells Go.Proofs.YtpogicakpgpkcaaW.PrintWords Go.Proofs.YtpogicakpgpkcaaW.PrintLast Go.Proofs.YtpogicakpgpkcaaW.PrintMore
set_option linter.unusedSimpArgs false
set_option linter.unusedVariables false
def RR (p : S45) (c : List Value) : Prop := c = [.string p.f0, .int .i64 p.f1, .int .i64 p.f2]
def RV (p : S53) (c : List Value) : Prop := c = [.string p.f0, .int .i64 p.f1, .bool p.f2, .int .i64 p.f3, .string p.f4]
theorem info45 : (Try.prog.info? 45).map (fun i => (i.zero, i.size, i.bytes)) = some (some (.agg #[.string ⟨#[]⟩, .int .i64 0, .int .i64 0]), 3, 32) := by kernel_rfl
theorem info53 : (Try.prog.info? 53).map (fun i => (i.zero, i.size, i.bytes)) = some (some (.agg #[.string ⟨#[]⟩, .int .i64 0, .bool false, .int .i64 0, .string ⟨#[]⟩]), 5, 56) := by kernel_rfl
theorem at_new (W : World) (o : Obj) (N : Nat) (h : N = W.heap.size) : (W.alloc o).heap[N]? = some o := by subst h; exact World.alloc_heap_new W o
theorem at_old (W : World) (o : Obj) {N : Nat} (h : N < W.heap.size) : (W.alloc o).heap[N]? = W.heap[N]? := Below.heap_alloc _ _ _ h
theorem own_empty {α : Type} (R : α → List Value → Prop) (t size : Nat) (W : World) (base N : Nat) (h : W.heap[N]? = some (.cells #[] t)) (hb : base ≤ N) : OwnRow R t size W base (.slice (some ⟨N, 0, none⟩) 0 0) [] :=
  ⟨[], ⟨by simp, .inr ⟨N, 0, #[], rfl, hb, h, by simp, by simp, by simp, by simp⟩⟩, Reps.none _ _⟩
theorem own_alloc {α : Type} {R : α → List Value → Prop} {t size : Nat} {W : World} {base : Nat} {v : Value} {ps : List α} (h : OwnRow R t size W base v ps) (o : Obj) : OwnRow R t size (W.alloc o) base v ps := let ⟨inner, h1, h2⟩ := h; ⟨inner, h1.alloc o, h2⟩
theorem drew_heap (X : World) : X.drew.heap = X.heap := rfl
theorem rr_one : ∀ (p : S45) (c : List Value), RR p c → ∀ u ∈ c, u.oneCell' = true := by
  rintro p c rfl u hu
  simp at hu
  rcases hu with rfl | rfl | rfl <;> rfl
theorem rv_one : ∀ (p : S53) (c : List Value), RV p c → ∀ u ∈ c, u.oneCell' = true := by
  rintro p c rfl u hu
  simp at hu
  rcases hu with rfl | rfl | rfl | rfl | rfl <;> rfl
theorem C_rr {W : World} {A : Option Addr} {n : Nat} {l : List S45} : Kd.C k45 W A n l ↔ ReadsRow RR 3 W A n l := by
  constructor
  · rintro ⟨h1, h2, h3⟩
    exact ⟨h1, h2, fun h => let ⟨ad, e, k⟩ := h3 h; ⟨ad, e, fun j p hj => let ⟨c, c1, c2, c3⟩ := k j p hj; ⟨c, c1, k45_open c2, c3⟩⟩⟩
  · rintro ⟨h1, h2, h3⟩
    exact ⟨h1, h2, fun h => let ⟨ad, e, k⟩ := h3 h; ⟨ad, e, fun j p hj => let ⟨c, c1, c2, c3⟩ := k j p hj; ⟨c, c1, by rw [show c = _ from c2]; exact k45_mk W p, c3⟩⟩⟩
theorem C_rv {W : World} {A : Option Addr} {n : Nat} {l : List S53} : Kd.C k53 W A n l ↔ ReadsRow RV 5 W A n l := by
  constructor
  · rintro ⟨h1, h2, h3⟩
    exact ⟨h1, h2, fun h => let ⟨ad, e, k⟩ := h3 h; ⟨ad, e, fun j p hj => let ⟨c, c1, c2, c3⟩ := k j p hj; ⟨c, c1, k53_open c2, c3⟩⟩⟩
  · rintro ⟨h1, h2, h3⟩
    exact ⟨h1, h2, fun h => let ⟨ad, e, k⟩ := h3 h; ⟨ad, e, fun j p hj => let ⟨c, c1, c2, c3⟩ := k j p hj; ⟨c, c1, by rw [show c = _ from c2]; exact k53_mk W p, c3⟩⟩⟩
/-- What stays in the region. -/
abbrev Sr (w : World) (key : ByteArray) (V : Option Addr) (n cv : Nat) (w2 w' : World) : Prop := w'.cell? ⟨w.heap.size, 0, none⟩ = some (.string key) ∧ w'.cell? ⟨w.heap.size, 1, none⟩ = some (.slice V n cv) ∧ Below w2.heap.size w2 w'
section
variable {w : World} {key : ByteArray} {V : Option Addr} {n cv : Nat} {w2 W : World}
theorem Sr.step (hlt : w.heap.size < w2.heap.size) (h : Sr w key V n cv w2 W) {W' : World} (hb : Below w2.heap.size w2 W') : Sr w key V n cv w2 W' := by
  have hh : W'.heap[w.heap.size]? = W.heap[w.heap.size]? := (hb.block _ hlt).trans (h.2.2.block _ hlt).symm
  exact ⟨by have := h.1; simp only [World.cell?, hh] at this ⊢; exact this, by have := h.2.1; simp only [World.cell?, hh] at this ⊢; exact this, hb⟩
theorem Sr.alloc (hlt : w.heap.size < w2.heap.size) (h : Sr w key V n cv w2 W) (o : Obj) : Sr w key V n cv w2 (W.alloc o) := h.step hlt (h.2.2.alloc h.2.2.size o)
theorem Sr.drew (hlt : w.heap.size < w2.heap.size) (h : Sr w key V n cv w2 W) : Sr w key V n cv w2 W.drew := h.step hlt h.2.2.drew
end
/-- What is kept of the blocks that are no row of one's own. -/
theorem kept {W w3 : World} {M N : Nat} {o : Obj} (hg : W.grownBy w3 (some M)) (h : W.heap[N]? = some o) (hne : N ≠ M) : w3.heap[N]? = some o := (hg.block N (Array.getElem?_eq_some_iff.1 h).1 (by simp [hne])).trans h
theorem box_cells {W : World} {N t : Nat} {a b : Value} (h : W.heap[N]? = some (.cells #[a, b] t)) : W.cell? ⟨N, 0, none⟩ = some a ∧ W.cell? ⟨N, 1, none⟩ = some b ∧ W.frozen? ⟨N, 0, none⟩ = false ∧ W.frozen? ⟨N, 1, none⟩ = false :=
  ⟨by simp [World.cell?, h], by simp [World.cell?, h], by simp [World.frozen?, h], by simp [World.frozen?, h]⟩
/-- An append, and a row of another type beside it. -/
theorem run_beside {P : Program} (w : World) (base : Nat) (t ty e : TypeId) (i : TypeInfo) (z : Value) (size bytes : Nat) (ht : P.underlying t = some (.slice e)) (hi : P.info? e = some i) (hz : i.zero = some z)
    (hsize : i.size = size) (hby : i.bytes = bytes) (hzs : z.cells.size = size) (hsz : 0 < size) {α : Type} (R : α → List Value → Prop) (h1 : ∀ p c, R p c → ∀ u ∈ c, u.oneCell' = true)
    (v : Value) (ps qs : List α) (hown : OwnRow R e size w base v ps) (A : Option Addr) (c : Nat) (hq : ReadsRow R size w A qs.length qs)
    (h63 : ps.length + qs.length ≤ maxLen) (hbytes : (ps.length + qs.length) * bytes ≤ 140737488355328) (hbase : base ≤ w.heap.size)
    {β : Type} {R' : β → List Value → Prop} {e' : TypeId} {size' : Nat} {u : Value} {ls : List β} (hother : OwnRow R' e' size' w base u ls) (hne : e' ≠ e) :
    ∃ v1 w1, (Builtin.append_ #[t, t] ty #[v, .slice A qs.length c]).run P w = .ok v1 w1 ∧ OwnRow R e size w1 base v1 (ps ++ qs) ∧ w.grownBy w1 v.ownBlock ∧ (v1.ownBlock = v.ownBlock ∨ v1.ownBlock = some w.heap.size) ∧ OwnRow R' e' size' w1 base u ls := by
  obtain ⟨v1, w1, a1, a2, a3, a4⟩ := run_append_rows (P := P) w base t ty e i z size bytes ht hi hz hsize hby hzs hsz R h1 v ps qs hown A c hq h63 hbytes hbase
  obtain ⟨_, k1, _⟩ := id hother
  obtain ⟨_, k2, _⟩ := id hown
  exact ⟨v1, w1, a1, a2, a3, a4, hother.other a3 (own_type_ne k1 k2 hne)⟩
structure Gp (l : List S45) (key : ByteArray) (vs : List S53) (w2 : World) (p v : Value) (W : World) : Prop where
  out : ∃ N A1 c1 A2 c2, p = .pointer (some ⟨N, 0, none⟩) ∧ v = .slice A1 l.length c1 ∧ l.length ≤ c1 ∧ vs.length ≤ c2 ∧ W.heap[N]? = some (.cells #[.string key, .slice A2 vs.length c2] 48) ∧ Kd.C k45 W A1 l.length l ∧ Kd.C k53 W A2 vs.length vs ∧ Below w2.heap.size w2 W
theorem Gp.fin {l : List S45} {key : ByteArray} {vs : List S53} {w2 W : World} {N : Nat} {A1 A2 : Option Addr} {c1 c2 : Nat} (hb : W.heap[N]? = some (.cells #[.string ⟨#[]⟩, .slice none 0 0] 48))
    (hO : OwnRow RR 45 3 W w2.heap.size (.slice A1 l.length c1) l) (hO2 : OwnRow RV 53 5 W w2.heap.size (.slice A2 vs.length c2) vs) (hbw : Below w2.heap.size w2 W) (hN : w2.heap.size ≤ N) :
    Gp l key vs w2 (.pointer (some ⟨N, 0, none⟩)) (.slice A1 l.length c1) ((W.setCell ⟨N, 0, none⟩ (.string key)).setCell ⟨N, 1, none⟩ (.slice A2 vs.length c2)) := by
  have h1 := blk_set hb 0 (.string key)
  have h2 := blk_set h1 1 (.slice A2 vs.length c2)
  have k1 := (hO.set_ hb (by decide) 0 (.string key)).set_ h1 (by decide) 1 (.slice A2 vs.length c2)
  have k2 := (hO2.set_ hb (by decide) 0 (.string key)).set_ h1 (by decide) 1 (.slice A2 vs.length c2)
  obtain ⟨B1, d1, e1, l1, q1⟩ := k1.reads
  obtain ⟨B2, d2, e2, l2, q2⟩ := k2.reads
  injection e1 with e1 e1' e1''
  injection e2 with e2 e2' e2''
  subst e1 e1'' e2 e2''
  exact ⟨N, _, _, _, _, rfl, rfl, l1, l2, h2, C_rr.2 q1, C_rv.2 q2, (hbw.setCell hN _).setCell hN _⟩
theorem Gp.fin2 {l : List S45} {key : ByteArray} {vs : List S53} {w2 W : World} {A1 A2 : Option Addr} {c1 c2 : Nat}
    (hO : OwnRow RR 45 3 W w2.heap.size (.slice A1 l.length c1) l) (hO2 : OwnRow RV 53 5 W w2.heap.size (.slice A2 vs.length c2) vs) (hbw : Below w2.heap.size w2 W) :
    Gp l key vs w2 (.pointer (some ⟨W.heap.size, 0, none⟩)) (.slice A1 l.length c1) (W.alloc (.cells #[.string key, .slice A2 vs.length c2] 48)) := by
  obtain ⟨B1, d1, e1, l1, q1⟩ := (own_alloc hO (.cells #[.string key, .slice A2 vs.length c2] 48)).reads
  obtain ⟨B2, d2, e2, l2, q2⟩ := (own_alloc hO2 (.cells #[.string key, .slice A2 vs.length c2] 48)).reads
  injection e1 with e1 e1' e1''
  injection e2 with e2 e2' e2''
  subst e1 e1'' e2 e2''
  exact ⟨_, _, _, _, _, rfl, rfl, l1, l2, at_new _ _ _ rfl, C_rr.2 q1, C_rv.2 q2, hbw.alloc hbw.size _⟩
theorem FullS.below {W W' : World} {v : Value} {xs : List ByteArray} {base : Nat} (h : FullS W v) (hR : Kd.R Kd.string 9 W base (fun _ => True) v xs) (hb : Below W.heap.size W W') : FullS W' v := by
  intro g cur q hg hh
  obtain ⟨_, inner, hown, _⟩ := hR
  rw [hb.block g (own_lt hown g hg)] at hh
  exact h g cur q hg hh
/-- What stays through the law's calls. -/
structure BoxT (w : World) (N : Nat) (key : ByteArray) (V : Option Addr) (n cv : Nat) (A2 : Option Addr) (c2 : Nat) (w' : World) : Prop where
  boxe : w'.heap[w.heap.size]? = some (.cells #[.string key, .slice V n cv] 48)
  boxo : w'.heap[N]? = some (.cells #[.string key, .slice A2 n c2] 48)
  b : Below w.heap.size w w'
theorem BoxT.step {w : World} {N : Nat} {key : ByteArray} {V : Option Addr} {n cv : Nat} {A2 : Option Addr} {c2 : Nat} {w1 w2 : World} (h : BoxT w N key V n cv A2 c2 w1) (hb : Below w1.heap.size w1 w2) : BoxT w N key V n cv A2 c2 w2 :=
  ⟨(hb.block _ (Array.getElem?_eq_some_iff.1 h.boxe).1).trans h.boxe, (hb.block _ (Array.getElem?_eq_some_iff.1 h.boxo).1).trans h.boxo, two_below h.b hb⟩
theorem BoxT.cells {w : World} {N : Nat} {key : ByteArray} {V : Option Addr} {n cv : Nat} {A2 : Option Addr} {c2 : Nat} {w1 : World} (h : BoxT w N key V n cv A2 c2 w1) :
    w1.cell? ⟨w.heap.size, 0, none⟩ = some (.string key) ∧ w1.cell? ⟨w.heap.size, 1, none⟩ = some (.slice V n cv) ∧ w1.cell? ⟨N, 0, none⟩ = some (.string key) ∧ w1.cell? ⟨N, 1, none⟩ = some (.slice A2 n c2) :=
  ⟨by simp [World.cell?, h.boxe], by simp [World.cell?, h.boxe], by simp [World.cell?, h.boxo], by simp [World.cell?, h.boxo]⟩
structure KT (w : World) (N : Nat) (key : ByteArray) (V : Option Addr) (cv : Nat) (A1 A2 : Option Addr) (c2 : Nat) (l : List S45) (vs : List S53) (base : Nat) (v : Value) (xs : List ByteArray) (w' : World) : Prop where
  t : BoxT w N key V vs.length cv A2 c2 w'
  o : Kd.C k45 w' A1 l.length l
  u : Kd.C k53 w' A2 vs.length vs
  r : Kd.R Kd.string 9 w' base (fun _ => True) v xs
  f : FullS w' v
theorem KT.step {w : World} {N : Nat} {key : ByteArray} {V : Option Addr} {cv : Nat} {A1 A2 : Option Addr} {c2 : Nat} {l : List S45} {vs : List S53} {base : Nat} {v : Value} {xs : List ByteArray} {w1 w2 : World} (h : KT w N key V cv A1 A2 c2 l vs base v xs w1) (hb : Below w1.heap.size w1 w2) : KT w N key V cv A1 A2 c2 l vs base v xs w2 :=
  ⟨h.t.step hb, Kd.C_below h.o hb, Kd.C_below h.u hb, Kd.R_below h.r hb, h.f.below h.r hb⟩
theorem S15.step {a0 a1 a2 b0 b1 b2 q : Addr} {x0 x1 x2 y0 y1 y2 z : Value} {B W W' : World} (h : W.cell? a0 = some x0 ∧ W.cell? a1 = some x1 ∧ W.cell? a2 = some x2 ∧ W.cell? b0 = some y0 ∧ W.cell? b1 = some y1 ∧ W.cell? b2 = some y2 ∧ W.cell? q = some z ∧ Below B.heap.size B W) (hb : Below W.heap.size W W') :
    W'.cell? a0 = some x0 ∧ W'.cell? a1 = some x1 ∧ W'.cell? a2 = some x2 ∧ W'.cell? b0 = some y0 ∧ W'.cell? b1 = some y1 ∧ W'.cell? b2 = some y2 ∧ W'.cell? q = some z ∧ Below B.heap.size B W' :=
  let ⟨h0, h1, h2, h3, h4, h5, h6, h7⟩ := h
  ⟨pw_cell_below hb h0, pw_cell_below hb h1, pw_cell_below hb h2, pw_cell_below hb h3, pw_cell_below hb h4, pw_cell_below hb h5, pw_cell_below hb h6, two_below h7 hb⟩
theorem drew_below_ (w : World) : Below w.heap.size w w.drew := ⟨rfl, rfl, rfl, Nat.le_refl _, fun _ _ => rfl⟩
def CutF (F : Value → Value → Value → Value → Value → Value → Value → Value → Value → Value → Value → Value → Act) (G : Value → Value → World → Prop) : Exit → Act → World → Prop
  | .normal, a', w' => ∃ a b c d e f g h i j p v, a' = F a b c d e f g h i j p v ∧ G p v w'
  | _, _, _ => False
theorem cutF {P : Program} {c : Code} {K : Act → World → Prop} {Q' : Exit → Act → World → Prop} {a : Act} {w : World} (F : Value → Value → Value → Value → Value → Value → Value → Value → Value → Value → Value → Value → Act) (G : Value → Value → World → Prop)
    (hF : ∀ u1 u2 u3 u4 u5 u6 u7 u8 u9 u0 p v, ((((((((((((a.put (some 26) u1).put (some 27) u2).put (some 28) u3).put (some 29) u4).put (some 30) u5).put (some 31) u6).put (some 32) u7).put (some 33) u8).put (some 34) u9).put (some 35) u0).put (some 8) p).put (some 7) v) = F u1 u2 u3 u4 u5 u6 u7 u8 u9 u0 p v)
    (h1 : c.wp P (CutF F G) a w) (h2 : ∀ u1 u2 u3 u4 u5 u6 u7 u8 u9 u0 p v w', G p v w' → K (F u1 u2 u3 u4 u5 u6 u7 u8 u9 u0 p v) w') : c.wp P (Exit.then K Q') a w :=
  Code.wp_mono (by rintro e a' w' h; cases e <;> first | exact h.elim | (obtain ⟨_, _, _, _, _, _, _, _, _, _, _, _, rfl, h⟩ := h; exact h2 _ _ _ _ _ _ _ _ _ _ _ _ w' h)) h1
set_option maxHeartbeats 4000000 in
set_option maxRecDepth 100000 in
theorem tells_calls (A : Option Addr) (c : Nat) (key : ByteArray) (V : Option Addr) (cv : Nat) (l : List S45) (vs : List S53) (now : Int) (w : World) (hr : Kd.C k45 w A l.length l) (hc : l.length ≤ c) (hv : Kd.C k53 w V vs.length vs) (hcv : vs.length ≤ cv) (hl : l.length ≤ 9223372036854775807) (hvl : vs.length ≤ 9223372036854775807) :
    Calls Try.prog 9 #[.slice A l.length c, .agg #[.string key, .slice V vs.length cv], .int .i64 now] w fun e w' => e = .returned (.bool true) ∧ Below w.heap.size w w' := by
  obtain ⟨k, b, hlb, hbf⟩ := large_tot l key vs hl hvl
  have HR := Lib.hid hr
  have HV := Lib.hid hv
  have HLB := Lib.hid hlb
  have HBF := Lib.hid hbf
  have HC := Lib.hid hc
  have HCV := Lib.hid hcv
  clear hr hv hlb hbf hl hvl hc hcv
  go_enter Try.func9, Try.ntmps9
  go_wp2_with fail
  have hb1 : Below w.heap.size w (w.alloc (.cells #[.string key, .slice V vs.length cv] 48)) := (Below.refl _ w).alloc (Nat.le_refl _) _
  refine (stowagelaw22_large.calls k A c l key V cv vs b _ (Kd.C_below HR.out hb1) HC.out (Kd.C_below HV.out hb1) HCV.out HLB.out).mono ?_
  rintro e w2 ⟨rfl, hb2⟩
  have hbox : w2.heap[w.heap.size]? = some (.cells #[.string key, .slice V vs.length cv] 48) := (hb2.block _ (by simp)).trans (at_new _ _ _ rfl)
  have HBE := Lib.hid hbox
  have HB2 := Lib.hid (two_below hb1 hb2)
  clear hb2 hb1 hbox
  cases b
  · have HL := Lib.hid (HBF.out rfl)
    go_wp2_with fail
    have hlt : w.heap.size < w2.heap.size := (Array.getElem?_eq_some_iff.1 HBE.out).1
    obtain ⟨i0, hi, hzz⟩ := Option.map_eq_some_iff.1 info45
    simp only [Prod.mk.injEq] at hzz
    obtain ⟨hz0, hz1, hz2⟩ := hzz
    obtain ⟨i1, hi1, hyy⟩ := Option.map_eq_some_iff.1 info53
    simp only [Prod.mk.injEq] at hyy
    obtain ⟨hy0, hy1, hy2⟩ := hyy
    have HQ : Hid (∀ W, Below w2.heap.size w2 W → ReadsRow RR 3 W A l.length l) := Lib.hid (fun W h => C_rr.1 (Kd.C_below HR.out (HB2.out.trans (h.mono HB2.out.size))))
    have HQV : Hid (∀ W, Below w2.heap.size w2 W → ReadsRow RV 5 W V vs.length vs) := Lib.hid (fun W h => C_rv.1 (Kd.C_below HV.out (HB2.out.trans (h.mono HB2.out.size))))
    have hS0 : Sr w key V vs.length cv w2 w2 := ⟨by simp [World.cell?, HBE.out], by simp [World.cell?, HBE.out], Below.refl _ _⟩
    refine cutF _ (Gp l key vs w2) (by intro u1 u2 u3 u4 u5 u6 u7 u8 u9 u0 p v; simp only [Act.put, List.setIfInBounds_toArray, List.set_cons_zero, List.set_cons_succ]; rfl) ?_ ?_
    · go_region_held3 (fun w' => w'.cell? ⟨w.heap.size, 0, none⟩ = some (.string key) ∧ w'.cell? ⟨w.heap.size, 1, none⟩ = some (.slice V vs.length cv) ∧ Below w2.heap.size w2 w') (first | exact hS0 | assumption | exact Sr.alloc hlt (by assumption) _ | exact Sr.drew hlt (by assumption) | exact Sr.step hlt (by assumption) (((by assumption : Sr _ _ _ _ _ _ _).2.2.setCell (by first | exact Nat.le_refl _ | exact hbw2.size | (simp; done) | (have := hbw.size; omega) | (have := hbw.size; dsimp only; omega) | fail) _).setCell (by first | exact Nat.le_refl _ | exact hbw2.size | (simp; done) | (have := hbw.size; omega) | (have := hbw.size; dsimp only; omega) | fail) _)) (first
        | (refine step_append_rows (P := Try.prog) rfl (.tmp 26) (.tmp 27) 43 rfl (by rfl) (by rfl) (run_append_rows _ w2.heap.size 43 _ 45 i0 _ 3 32 Try.underlying43 hi hz0 hz1 hz2 rfl (by decide) RR rr_one _ [] l (own_empty RR 45 3 _ _ _ (by (try simp only [drew_heap]); first | exact at_new _ _ _ (by first | (simp; done) | fail) | exact (at_old _ _ (by first | (simp; done) | (simp; omega) | omega)).trans (at_new _ _ _ (by first | (simp; done) | fail)) | exact (at_old _ _ (by first | (simp; done) | (simp; omega) | omega)).trans ((at_old _ _ (by first | (simp; done) | (simp; omega) | omega)).trans (at_new _ _ _ (by first | (simp; done) | fail)))) (by first | exact Nat.le_refl _ | omega | (simp; done) | fail)) A c (HQ.out _ (by assumption : Sr _ _ _ _ _ _ _).2.2) (by have := HL.out.2.1; simp [maxLen]; omega) (by have := HL.out.2.1; simp; omega) (by first | (simp; done) | (simp; omega))) ?_; rintro v1 w3 ⟨hO, hg, ho⟩; have hbw : Below w2.heap.size w2 w3 := Below.grown (by assumption : Sr _ _ _ _ _ _ _).2.2 hg (by first | (simp; done) | (simp; omega)) (fun j hj => by simp [Value.ownBlock] at hj; omega); have hSw := Sr.step hlt (by assumption : Sr _ _ _ _ _ _ _) hbw; replace hO : OwnRow RR 45 3 w3 w2.heap.size v1 l := hO; have hgs := hg.size; (try simp only [World.size_alloc, drew_heap] at hgs); (try (have za : w3.heap[w2.heap.size]? = some (Obj.cells #[Value.string ⟨#[]⟩, Value.slice none 0 0] 48) := kept hg (by (try simp only [drew_heap]); first | exact at_new _ _ _ (by first | (simp; done) | fail) | exact (at_old _ _ (by first | (simp; done) | (simp; omega) | omega)).trans (at_new _ _ _ (by first | (simp; done) | fail)) | exact (at_old _ _ (by first | (simp; done) | (simp; omega) | omega)).trans ((at_old _ _ (by first | (simp; done) | (simp; omega) | omega)).trans (at_new _ _ _ (by first | (simp; done) | fail)))) (by first | (simp; done) | omega | (simp; omega)))); (try (have zb : w3.heap[w2.heap.size + 1]? = some (Obj.cells #[Value.string ⟨#[]⟩, Value.slice none 0 0] 48) := kept hg (by (try simp only [drew_heap]); first | exact at_new _ _ _ (by first | (simp; done) | fail) | exact (at_old _ _ (by first | (simp; done) | (simp; omega) | omega)).trans (at_new _ _ _ (by first | (simp; done) | fail)) | exact (at_old _ _ (by first | (simp; done) | (simp; omega) | omega)).trans ((at_old _ _ (by first | (simp; done) | (simp; omega) | omega)).trans (at_new _ _ _ (by first | (simp; done) | fail)))) (by first | (simp; done) | omega | (simp; omega)))); (try (have zc : w3.heap[w2.heap.size + 1 + 1]? = some (Obj.cells #[Value.string ⟨#[]⟩, Value.slice none 0 0] 48) := kept hg (by (try simp only [drew_heap]); first | exact at_new _ _ _ (by first | (simp; done) | fail) | exact (at_old _ _ (by first | (simp; done) | (simp; omega) | omega)).trans (at_new _ _ _ (by first | (simp; done) | fail)) | exact (at_old _ _ (by first | (simp; done) | (simp; omega) | omega)).trans ((at_old _ _ (by first | (simp; done) | (simp; omega) | omega)).trans (at_new _ _ _ (by first | (simp; done) | fail)))) (by first | (simp; done) | omega | (simp; omega)))); obtain ⟨A1, c1, hv1, hc1⟩ := hO.slice_; subst hv1)
        | (refine step_append_rows (P := Try.prog) rfl (.tmp 31) (.tmp 33) 46 rfl (by rfl) (by rfl) (run_beside _ w2.heap.size 46 _ 53 i1 _ 5 56 Try.underlying46 hi1 hy0 hy1 hy2 rfl (by decide) RV rv_one _ [] vs (own_empty RV 53 5 _ _ _ (by first | first | exact at_new _ _ _ (by first | (simp; done) | fail) | exact (at_old _ _ (by first | (simp; done) | (simp; omega) | omega)).trans (at_new _ _ _ (by first | (simp; done) | fail)) | exact (at_old _ _ (by first | (simp; done) | (simp; omega) | omega)).trans ((at_old _ _ (by first | (simp; done) | (simp; omega) | omega)).trans (at_new _ _ _ (by first | (simp; done) | fail))) | ((try simp only [drew_heap]); first | first | exact at_new _ _ _ (by first | (simp; done) | fail) | exact (at_old _ _ (by first | (simp; done) | (simp; omega) | omega)).trans (at_new _ _ _ (by first | (simp; done) | fail)) | exact (at_old _ _ (by first | (simp; done) | (simp; omega) | omega)).trans ((at_old _ _ (by first | (simp; done) | (simp; omega) | omega)).trans (at_new _ _ _ (by first | (simp; done) | fail))) | exact kept hg (by (try simp only [drew_heap]); first | exact at_new _ _ _ (by first | (simp; done) | fail) | exact (at_old _ _ (by first | (simp; done) | (simp; omega) | omega)).trans (at_new _ _ _ (by first | (simp; done) | fail)) | exact (at_old _ _ (by first | (simp; done) | (simp; omega) | omega)).trans ((at_old _ _ (by first | (simp; done) | (simp; omega) | omega)).trans (at_new _ _ _ (by first | (simp; done) | fail)))) (by first | (simp; done) | (simp; omega) | omega) | exact (at_old _ _ (by first | exact (Array.getElem?_eq_some_iff.1 (kept hg (by (try simp only [drew_heap]); first | exact at_new _ _ _ (by first | (simp; done) | fail) | exact (at_old _ _ (by first | (simp; done) | (simp; omega) | omega)).trans (at_new _ _ _ (by first | (simp; done) | fail)) | exact (at_old _ _ (by first | (simp; done) | (simp; omega) | omega)).trans ((at_old _ _ (by first | (simp; done) | (simp; omega) | omega)).trans (at_new _ _ _ (by first | (simp; done) | fail)))) (by first | (simp; done) | (simp; omega) | omega))).1)).trans (kept hg (by (try simp only [drew_heap]); first | exact at_new _ _ _ (by first | (simp; done) | fail) | exact (at_old _ _ (by first | (simp; done) | (simp; omega) | omega)).trans (at_new _ _ _ (by first | (simp; done) | fail)) | exact (at_old _ _ (by first | (simp; done) | (simp; omega) | omega)).trans ((at_old _ _ (by first | (simp; done) | (simp; omega) | omega)).trans (at_new _ _ _ (by first | (simp; done) | fail)))) (by first | (simp; done) | (simp; omega) | omega)))) (by first | (simp; done) | exact hbw.size | (have := hbw.size; omega))) V cv (HQV.out _ (by assumption : Sr _ _ _ _ _ _ _).2.2) (by have := HL.out.2.2; simp [maxLen]; omega) (by have := HL.out.2.2; simp; omega) (by assumption : Sr _ _ _ _ _ _ _).2.2.size (by first | exact hO | exact own_alloc hO _ | exact own_alloc (own_alloc hO _) _) (by decide)) ?_; rintro v2 w4 ⟨hO2, hg2, ho2, hO4⟩; have hbw2 : Below w2.heap.size w2 w4 := Below.grown (by assumption : Sr _ _ _ _ _ _ _).2.2 hg2 (by assumption : Sr _ _ _ _ _ _ _).2.2.size (fun j hj => by simp [Value.ownBlock] at hj; subst hj; first | omega | (have := hbw.size; omega)); have hSw2 := Sr.step hlt (by assumption : Sr _ _ _ _ _ _ _) hbw2; replace hO2 : OwnRow RV 53 5 w4 w2.heap.size v2 vs := hO2; have hgs2 := hg2.size; (try simp only [World.size_alloc, drew_heap] at hgs2); (try (have ya : w4.heap[w2.heap.size]? = some (Obj.cells #[Value.string ⟨#[]⟩, Value.slice none 0 0] 48) := kept hg2 (by (try simp only [drew_heap]); first | exact za | exact (at_old _ _ (Array.getElem?_eq_some_iff.1 za).1).trans za | exact (at_old _ _ (by first | exact Nat.lt_trans (Array.getElem?_eq_some_iff.1 za).1 (by simp) | (simp; omega))).trans ((at_old _ _ (Array.getElem?_eq_some_iff.1 za).1).trans za)) (by first | (simp; done) | omega | (simp; omega)); obtain ⟨yaa, yab, yac, yad⟩ := box_cells ya)); (try (have yb : w4.heap[w2.heap.size + 1]? = some (Obj.cells #[Value.string ⟨#[]⟩, Value.slice none 0 0] 48) := kept hg2 (by (try simp only [drew_heap]); first | exact zb | exact (at_old _ _ (Array.getElem?_eq_some_iff.1 zb).1).trans zb | exact (at_old _ _ (by first | exact Nat.lt_trans (Array.getElem?_eq_some_iff.1 zb).1 (by simp) | (simp; omega))).trans ((at_old _ _ (Array.getElem?_eq_some_iff.1 zb).1).trans zb)) (by first | (simp; done) | omega | (simp; omega)); obtain ⟨yba, ybb, ybc, ybd⟩ := box_cells yb)); (try (have yc : w4.heap[w2.heap.size + 1 + 1]? = some (Obj.cells #[Value.string ⟨#[]⟩, Value.slice none 0 0] 48) := kept hg2 (by (try simp only [drew_heap]); first | exact zc | exact (at_old _ _ (Array.getElem?_eq_some_iff.1 zc).1).trans zc | exact (at_old _ _ (by first | exact Nat.lt_trans (Array.getElem?_eq_some_iff.1 zc).1 (by simp) | (simp; omega))).trans ((at_old _ _ (Array.getElem?_eq_some_iff.1 zc).1).trans zc)) (by first | (simp; done) | omega | (simp; omega)); obtain ⟨yca, ycb, ycc, ycd⟩ := box_cells yc)); (try (have yd : w4.heap[w3.heap.size]? = some (Obj.cells #[Value.string ⟨#[]⟩, Value.slice none 0 0] 48) := kept hg2 (by (try simp only [drew_heap]); first | exact at_new _ _ _ (by first | (simp; done) | fail) | exact (at_old _ _ (by first | (simp; done) | (simp; omega) | omega)).trans (at_new _ _ _ (by first | (simp; done) | fail)) | exact (at_old _ _ (by first | (simp; done) | (simp; omega) | omega)).trans ((at_old _ _ (by first | (simp; done) | (simp; omega) | omega)).trans (at_new _ _ _ (by first | (simp; done) | fail)))) (by first | (simp; done) | omega | (simp; omega)); obtain ⟨yda, ydb, ydc, ydd⟩ := box_cells yd)); (try (have ye : w4.heap[w3.heap.size + 1]? = some (Obj.cells #[Value.string ⟨#[]⟩, Value.slice none 0 0] 48) := kept hg2 (by (try simp only [drew_heap]); first | exact at_new _ _ _ (by first | (simp; done) | fail) | exact (at_old _ _ (by first | (simp; done) | (simp; omega) | omega)).trans (at_new _ _ _ (by first | (simp; done) | fail)) | exact (at_old _ _ (by first | (simp; done) | (simp; omega) | omega)).trans ((at_old _ _ (by first | (simp; done) | (simp; omega) | omega)).trans (at_new _ _ _ (by first | (simp; done) | fail)))) (by first | (simp; done) | omega | (simp; omega)); obtain ⟨yea, yeb, yec, yed⟩ := box_cells ye)); obtain ⟨A2, c2, hv2, hc2⟩ := hO2.slice_; subst hv2))
      all_goals first | exact ⟨_, _, _, _, _, _, _, _, _, _, _, _, rfl, Gp.fin2 hO4 hO2 hbw2⟩ | (refine ⟨_, _, _, _, _, _, _, _, _, _, _, _, rfl, Gp.fin (by first | exact ya | exact yb | exact yc | exact yd | exact ye | fail) hO4 hO2 hbw2 (by first | exact Nat.le_refl _ | exact hbw2.size | (simp; done) | (have := hbw.size; omega) | (have := hbw.size; dsimp only; omega) | fail)⟩)
    · rintro u1 u2 u3 u4 u5 u6 u7 u8 u9 u0 p v w4 ⟨N, A1, c1, A2, c2, rfl, rfl, hc1, hc2, hN, hC1, hC2, hb4⟩
      have HT4 : Hid (BoxT w N key V vs.length cv A2 c2 w4) := Lib.hid ⟨(hb4.block _ hlt).trans HBE.out, hN, HB2.out.trans (hb4.mono HB2.out.size)⟩
      have HO4 := Lib.hid hC1
      have HU4 := Lib.hid hC2
      have HC1 := Lib.hid hc1
      have HC2 := Lib.hid hc2
      have hids := large_ids l key vs (by have := HL.out.2.1; omega) (by have := HL.out.2.2; omega) k HLB.out
      have HID := Lib.hid hids
      obtain ⟨r, ha, hg⟩ := asked_tot l key vs now HL.out.1 (by have := HL.out.2.1; omega) HL.out.2.2
      have hg1 : r = 0 → Good l vs := fun h => (hg h).1
      have HA := Lib.hid ha
      have HG := Lib.hid hg1
      clear hN hC1 hC2 hb4 hc1 hc2 hids ha hg hg1 hi hi1 i0 i1 hz0 hz1 hz2 hy0 hy1 hy2 HQ HQV hS0 hlt HBE HB2 HBF HLB
      obtain ⟨c1', c2', c3', c4'⟩ := HT4.out.cells
      go_wp2_with fail
      refine (newest_calls 1000 A1 c1 key A2 c2 l vs now r w4 HO4.out HC1.out HU4.out HC2.out HA.out HG.out).mono ?_
      rintro e w5 ⟨rfl, hb5⟩
      have HT5 := Lib.hid (HT4.out.step hb5)
      have HO5 := Lib.hid (Kd.C_below HO4.out hb5)
      have HU5 := Lib.hid (Kd.C_below HU4.out hb5)
      obtain ⟨c1', c2', c3', c4'⟩ := HT5.out.cells
      clear hb5 HT4 HO4 HU4
      obtain ⟨kn, hkn⟩ := newest_is HA.out HG.out
      generalize (if r = 0 then newestF l key vs now else false) = na at hkn ⊢
      go_wp2_with fail
      refine (stowageref22_Newest.calls kn A c l key V cv vs now na r w5 (Kd.C_below HR.out HT5.out.b) HC.out (Kd.C_below HV.out HT5.out.b) HCV.out hkn).mono ?_
      rintro e w6 ⟨rfl, hb6⟩
      have HT6 := Lib.hid (HT5.out.step hb6)
      have HO6 := Lib.hid (Kd.C_below HO5.out hb6)
      have HU6 := Lib.hid (Kd.C_below HU5.out hb6)
      obtain ⟨c1', c2', c3', c4'⟩ := HT6.out.cells
      clear hb6 HT5 HO5 HU5 hkn
      obtain ⟨ko, hko⟩ := old_is HA.out HG.out
      have hlen : (if r = 0 then oldF l key vs now else []).length ≤ 80 := by
        split
        · exact Nat.le_trans (oldN_length _ _ _ _ _) HL.out.2.2
        · exact Nat.zero_le _
      go_wp2_with fail
      refine (old_full 1000 A1 c1 key A2 c2 l vs now r w6 HO6.out HC1.out HU6.out HC2.out HA.out HG.out HID.out).mono ?_
      rintro e w7 ⟨v7, rfl, hR7, hF7, hb7⟩
      generalize (if r = 0 then oldF l key vs now else []) = xs at hko hlen hR7
      obtain ⟨A7, c7, rfl, hc7, hC7⟩ := Kd.R_reads hR7
      have HBASE : Hid (w.heap.size ≤ w6.heap.size) := Lib.hid HT6.out.b.size
      have HT7 := Lib.hid (HT6.out.step hb7)
      have HO7 := Lib.hid (Kd.C_below HO6.out hb7)
      have HU7 := Lib.hid (Kd.C_below HU6.out hb7)
      have HR7 := Lib.hid hR7
      have HF7 := Lib.hid hF7
      have HC7 := Lib.hid hc7
      have HLEN := Lib.hid hlen
      generalize w6.heap.size = base at HBASE HR7
      obtain ⟨c1', c2', c3', c4'⟩ := HT7.out.cells
      clear hb7 HT6 HO6 HU6 hR7 hF7 hc7 hC7 hlen
      go_wp2_with fail
      refine (stowageref22_Old.calls ko A c l key V cv vs now xs r w7 (Kd.C_below HR.out HT7.out.b) HC.out (Kd.C_below HV.out HT7.out.b) HCV.out hko).mono ?_
      rintro e w8 ⟨v8, rfl, hR8, hb8⟩
      obtain ⟨A8, c8, rfl, hc8, hC8⟩ := Kd.R_reads hR8
      have HT8 := Lib.hid (HT7.out.step hb8)
      have HO8 := Lib.hid (Kd.C_below HO7.out hb8)
      have HU8 := Lib.hid (Kd.C_below HU7.out hb8)
      have HR8 := Lib.hid (Kd.R_below HR7.out hb8)
      have HF8 := Lib.hid (FullS.below HF7.out HR7.out hb8)
      have HD8 := Lib.hid hC8
      have HC8 := Lib.hid hc8
      obtain ⟨c1', c2', c3', c4'⟩ := HT8.out.cells
      clear hb8 HT7 HO7 HU7 HR7 HF7 hR8 hC8 hc8 hko
      go_wp2_with fail
      refine (next_calls 1000 A1 c1 key A2 c2 l vs now r w8 HO8.out HC1.out HU8.out HC2.out HA.out HG.out).mono ?_
      rintro e w9 ⟨rfl, hb9⟩
      obtain ⟨kx, hkx⟩ := next_is HA.out HG.out
      generalize (if r = 0 then nextF l key vs now else 0) = nx at hkx ⊢
      have HT9 := Lib.hid (HT8.out.step hb9)
      have HO9 := Lib.hid (Kd.C_below HO8.out hb9)
      have HU9 := Lib.hid (Kd.C_below HU8.out hb9)
      have HR9 := Lib.hid (Kd.R_below HR8.out hb9)
      have HF9 := Lib.hid (FullS.below HF8.out HR8.out hb9)
      have HD9 := Lib.hid (Kd.C_below HD8.out hb9)
      obtain ⟨c1', c2', c3', c4'⟩ := HT9.out.cells
      clear hb9 HT8 HO8 HU8 HR8 HF8 HD8
      go_wp2_with fail
      refine (stowageref22_Next.calls kx A c l key V cv vs now nx r w9 (Kd.C_below HR.out HT9.out.b) HC.out (Kd.C_below HV.out HT9.out.b) HCV.out hkx).mono ?_
      rintro e wa ⟨rfl, hba⟩
      have HTa := Lib.hid (HT9.out.step hba)
      have HOa := Lib.hid (Kd.C_below HO9.out hba)
      have HUa := Lib.hid (Kd.C_below HU9.out hba)
      have HRa := Lib.hid (Kd.R_below HR9.out hba)
      have HFa := Lib.hid (FullS.below HF9.out HR9.out hba)
      have HDa := Lib.hid (Kd.C_below HD9.out hba)
      obtain ⟨c1', c2', c3', c4'⟩ := HTa.out.cells
      clear hba HT9 HO9 HU9 HR9 HF9 HD9 hkx
      obtain ⟨rc, hk1, hk2⟩ := check_is l HL.out.1 (by have := HL.out.2.1; omega)
      go_wp2_with fail
      refine (rule_Check.calls 1000 A1 c1 l rc wa HOa.out HC1.out hk1).mono ?_
      rintro e wb ⟨rfl, hbb⟩
      have HTb := Lib.hid (HTa.out.step hbb)
      have HOb := Lib.hid (Kd.C_below HOa.out hbb)
      have HUb := Lib.hid (Kd.C_below HUa.out hbb)
      have HRb := Lib.hid (Kd.R_below HRa.out hbb)
      have HFb := Lib.hid (FullS.below HFa.out HRa.out hbb)
      have HDb := Lib.hid (Kd.C_below HDa.out hbb)
      clear hbb HTa HOa HUa HRa HFa HDa c1' c2' c3' c4'
      go_wp2_with fail
      refine (stowageref22_Check.calls 1000 A c l rc wb (Kd.C_below HR.out HTb.out.b) HC.out hk2).mono ?_
      rintro e wc ⟨rfl, hbc⟩
      have HTc := Lib.hid (HTb.out.step hbc)
      have HOc := Lib.hid (Kd.C_below HOb.out hbc)
      have HUc := Lib.hid (Kd.C_below HUb.out hbc)
      have HRc := Lib.hid (Kd.R_below HRb.out hbc)
      have HFc := Lib.hid (FullS.below HFb.out HRb.out hbc)
      have HDc := Lib.hid (Kd.C_below HDb.out hbc)
      clear hbc HTb HOb HUb HRb HFb HDb hk1 hk2
      go_wp2_with fail
      refine (stowagekit_SameTexts.calls 1000 A7 c7 xs A8 c8 xs true wc (Kd.R_reads' HRc.out).2.2 HC7.out HDc.out HC8.out (same_is xs (by have := HLEN.out; omega))).mono ?_
      rintro e wd ⟨rfl, hbd0⟩
      have hbd := hbd0.below
      have HTd := Lib.hid (HTc.out.step hbd)
      have HOd := Lib.hid (Kd.C_below HOc.out hbd)
      have HUd := Lib.hid (Kd.C_below HUc.out hbd)
      have HRd := Lib.hid (Kd.R_below HRc.out hbd)
      have HFd := Lib.hid (FullS.below HFc.out HRc.out hbd)
      clear hbd hbd0 HTc HOc HUc HRc HFc HDc HA HG HID
      go_wp2_with fail
      have HK : Hid (KT w N key V cv A1 A2 c2 l vs base (.slice A7 xs.length c7) xs wd) := Lib.hid ⟨HTd.out, HOd.out, HUd.out, HRd.out, HFd.out⟩
      clear HTd HOd HUd HRd HFd
      have hl20 := HL.out.2.1
      have hv80 := HL.out.2.2
      go_loopw [21] (fun v21 wr => ∃ j : Nat, j ≤ l.length ∧ v21 = .int .i64 j ∧ Hid (KT w N key V cv A1 A2 c2 l vs base (.slice A7 xs.length c7) xs wr)) (fun v21 _ => l.length - (intOf v21).toNat)
      case atStart => exact ⟨0, Nat.zero_le _, rfl, HK⟩
      case round =>
        obtain ⟨j, hj, rfl, hk⟩ := hrel
        by_cases hlt : j < l.length
        · obtain ⟨ad, ea, x0, x1, x2⟩ := at_T45 hk.out.o (j : Int) (by omega) (by omega)
          obtain ⟨bd, eb, y0, y1, y2⟩ := at_T45 (Kd.C_below HR.out hk.out.t.b) (j : Int) (by omega) (by omega)
          rw [Int.toNat_natCast] at x0 x1 x2 y0 y1 y2
          subst ea eb
          obtain ⟨q0, -, -, -⟩ := hk.out.t.cells
          generalize rd_T45 l (j : Int) = R at *
          have hS15 : wr.cell? (ad.add (j * 3)) = some (.string R.f0) ∧ wr.cell? ⟨(ad.add (j * 3)).block, (ad.add (j * 3)).off + 1, none⟩ = some (.int .i64 R.f1) ∧ wr.cell? ⟨(ad.add (j * 3)).block, (ad.add (j * 3)).off + 2, none⟩ = some (.int .i64 R.f2) ∧ wr.cell? (bd.add (j * 3)) = some (.string R.f0) ∧ wr.cell? ⟨(bd.add (j * 3)).block, (bd.add (j * 3)).off + 1, none⟩ = some (.int .i64 R.f1) ∧ wr.cell? ⟨(bd.add (j * 3)).block, (bd.add (j * 3)).off + 2, none⟩ = some (.int .i64 R.f2) ∧ wr.cell? ⟨w.heap.size, 0, none⟩ = some (.string key) ∧ Below wr.heap.size wr wr := ⟨x0, x1, x2, y0, y1, y2, q0, Below.refl _ _⟩
          have HCC := HC1.out
          have HCO := HC.out
          have hin : (0 : Int) ≤ (j : Int) := by omega
          have hin2 : (j : Int) < (l.length : Int) := by omega
          go_wp2_with fail
          go_region_held3 (fun w' => w'.cell? (ad.add (j * 3)) = some (.string R.f0) ∧ w'.cell? ⟨(ad.add (j * 3)).block, (ad.add (j * 3)).off + 1, none⟩ = some (.int .i64 R.f1) ∧ w'.cell? ⟨(ad.add (j * 3)).block, (ad.add (j * 3)).off + 2, none⟩ = some (.int .i64 R.f2) ∧ w'.cell? (bd.add (j * 3)) = some (.string R.f0) ∧ w'.cell? ⟨(bd.add (j * 3)).block, (bd.add (j * 3)).off + 1, none⟩ = some (.int .i64 R.f1) ∧ w'.cell? ⟨(bd.add (j * 3)).block, (bd.add (j * 3)).off + 2, none⟩ = some (.int .i64 R.f2) ∧ w'.cell? ⟨w.heap.size, 0, none⟩ = some (.string key) ∧ Below wr.heap.size wr w') (first | exact hS15 | assumption | exact S15.step (by assumption) (drew_below_ _) | go_keep) (first
            | (go_at_call 38; refine (fits_calls R key _).mono ?_; rintro e w3 ⟨rfl, hb3⟩; have hS3 := S15.step (by assumption) hb3)
            | (go_at_call 46; refine (stowageref22_Fits.calls R.f0 R.f1 R.f2 key (fits R key) _ (reffits_is R key)).mono ?_; rintro e w4 ⟨rfl, hb4⟩; have hS4 := S15.step (by assumption) hb4))
          go_wp2_with fail
          case roundEnd => exact ⟨⟨j + 1, by omega, by go_num, Lib.hid (hk.out.step hS4.2.2.2.2.2.2.2)⟩, by simp [intOf]; omega⟩
        · obtain rfl : j = l.length := by omega
          go_wp2_with fail
          go_loopw [22] (fun v22 wr => ∃ j : Nat, j ≤ vs.length ∧ v22 = .int .i64 j ∧ Hid (KT w N key V cv A1 A2 c2 l vs base (.slice A7 xs.length c7) xs wr)) (fun v22 _ => vs.length - (intOf v22).toNat)
          case atStart => exact ⟨0, Nat.zero_le _, rfl, hk⟩
          case round =>
            obtain ⟨j, hj, rfl, hk2⟩ := hrel
            by_cases hlt : j < vs.length
            · obtain ⟨ad, ea, x0, x1, x2, x3, x4⟩ := at_T53 hk2.out.u (j : Int) (by omega) (by omega)
              obtain ⟨bd, eb, y0, y1, y2, y3, y4⟩ := at_T53 (Kd.C_below HV.out hk2.out.t.b) (j : Int) (by omega) (by omega)
              rw [Int.toNat_natCast] at x0 x1 x2 x3 x4 y0 y1 y2 y3 y4
              subst ea eb
              obtain ⟨-, q0, -, q1⟩ := hk2.out.t.cells
              generalize rd_T53 vs (j : Int) = R at *
              have hS20 : wr.cell? (ad.add (j * 5)) = some (.string R.f0) ∧ wr.cell? ⟨(ad.add (j * 5)).block, (ad.add (j * 5)).off + 1, none⟩ = some (.int .i64 R.f1) ∧ wr.cell? ⟨(ad.add (j * 5)).block, (ad.add (j * 5)).off + 2, none⟩ = some (.bool R.f2) ∧ wr.cell? ⟨(ad.add (j * 5)).block, (ad.add (j * 5)).off + 3, none⟩ = some (.int .i64 R.f3) ∧ wr.cell? ⟨(ad.add (j * 5)).block, (ad.add (j * 5)).off + 4, none⟩ = some (.string R.f4) ∧ wr.cell? (bd.add (j * 5)) = some (.string R.f0) ∧ wr.cell? ⟨(bd.add (j * 5)).block, (bd.add (j * 5)).off + 1, none⟩ = some (.int .i64 R.f1) ∧ wr.cell? ⟨(bd.add (j * 5)).block, (bd.add (j * 5)).off + 2, none⟩ = some (.bool R.f2) ∧ wr.cell? ⟨(bd.add (j * 5)).block, (bd.add (j * 5)).off + 3, none⟩ = some (.int .i64 R.f3) ∧ wr.cell? ⟨(bd.add (j * 5)).block, (bd.add (j * 5)).off + 4, none⟩ = some (.string R.f4) ∧ wr.cell? ⟨w.heap.size, 1, none⟩ = some (.slice (some bd) vs.length cv) ∧ wr.cell? ⟨N, 1, none⟩ = some (.slice (some ad) vs.length c2) ∧ Below wr.heap.size wr wr := ⟨x0, x1, x2, x3, x4, y0, y1, y2, y3, y4, q0, q1, Below.refl _ _⟩
              have HCC := HC2.out
              have HCO := HCV.out
              have hin : (0 : Int) ≤ (j : Int) := by omega
              have hin2 : (j : Int) < (vs.length : Int) := by omega
              go_wp2_with fail
              go_region_held3 (fun w' => w'.cell? (ad.add (j * 5)) = some (.string R.f0) ∧ w'.cell? ⟨(ad.add (j * 5)).block, (ad.add (j * 5)).off + 1, none⟩ = some (.int .i64 R.f1) ∧ w'.cell? ⟨(ad.add (j * 5)).block, (ad.add (j * 5)).off + 2, none⟩ = some (.bool R.f2) ∧ w'.cell? ⟨(ad.add (j * 5)).block, (ad.add (j * 5)).off + 3, none⟩ = some (.int .i64 R.f3) ∧ w'.cell? ⟨(ad.add (j * 5)).block, (ad.add (j * 5)).off + 4, none⟩ = some (.string R.f4) ∧ w'.cell? (bd.add (j * 5)) = some (.string R.f0) ∧ w'.cell? ⟨(bd.add (j * 5)).block, (bd.add (j * 5)).off + 1, none⟩ = some (.int .i64 R.f1) ∧ w'.cell? ⟨(bd.add (j * 5)).block, (bd.add (j * 5)).off + 2, none⟩ = some (.bool R.f2) ∧ w'.cell? ⟨(bd.add (j * 5)).block, (bd.add (j * 5)).off + 3, none⟩ = some (.int .i64 R.f3) ∧ w'.cell? ⟨(bd.add (j * 5)).block, (bd.add (j * 5)).off + 4, none⟩ = some (.string R.f4) ∧ w'.cell? ⟨w.heap.size, 1, none⟩ = some (.slice (some bd) vs.length cv) ∧ w'.cell? ⟨N, 1, none⟩ = some (.slice (some ad) vs.length c2) ∧ Below wr.heap.size wr w') (first | assumption | exact ⟨x0, x1, x2, x3, x4, y0, y1, y2, y3, y4, q0, q1, drew_below_ _⟩ | go_keep) (fail)
              go_wp2_with fail
              case roundEnd => exact ⟨⟨j + 1, by omega, by go_num, Lib.hid (hk2.out.step (drew_below_ _))⟩, by simp [intOf]; omega⟩
            · obtain rfl : j = vs.length := by omega
              obtain ⟨-, q0, -, q1⟩ := hk2.out.t.cells
              go_wp2_with fail
              refine (over_calls base _ xs wr hk2.out.r hk2.out.f).mono ?_
              rintro e w3 ⟨⟨u, rfl⟩, hg⟩
              have hb3 : Below w.heap.size w w3 := Below.grown hk2.out.t.b hg hk2.out.t.b.size (fun g hg => Nat.le_trans HBASE.out (by obtain ⟨_, _, h, _⟩ := hk2.out.r; exact own_base h g hg))
              go_wp2_with fail
              refine (awake_calls _).mono ?_
              rintro e w4 ⟨rfl, hb4⟩
              go_wp2_with fail
              go_ret
              exact ⟨rfl, two_below hb3 hb4⟩
  · go_wp2_with fail
    go_ret
    exact ⟨rfl, HB2.out⟩
end Go.Proofs.Ytpogicakpgpkcaa.RRuleTells
