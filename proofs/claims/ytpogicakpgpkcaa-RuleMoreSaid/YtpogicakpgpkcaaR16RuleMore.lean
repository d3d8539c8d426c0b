/- RuleMore: more rules let no less expire: the walk up to the rules together. -/
import Derived.Test.YtpogicakpgpkcaaR15RuleMore
import Derived.Deep.RegionHeld3
import Derived.Deep.RegionLaw
namespace Go.Proofs.Ytpogicakpgpkcaa.RRuleMore
open Go.RowKit Go.Shelf Go.Proofs.Ytpogicakpgpkcaa.It Go.Proofs.Ytpogicakpgpkcaa.PRuleMore Go.Proofs.YtpogicakpgpkcaaW.PrintWords Go.Proofs.YtpogicakpgpkcaaW.PrintLast Go.Proofs.YtpogicakpgpkcaaW.PrintMore
def RR (p : S45) (c : List Value) : Prop := c = [.string p.f0, .int .i64 p.f1, .int .i64 p.f2]
theorem info45 : (Try.prog.info? 45).map (fun i => (i.zero, i.size, i.bytes)) = some (some (.agg #[.string ⟨#[]⟩, .int .i64 0, .int .i64 0]), 3, 32) := by kernel_rfl
theorem at_new (W : World) (o : Obj) (N : Nat) (h : N = W.heap.size) : (W.alloc o).heap[N]? = some o := by subst h; exact World.alloc_heap_new W o
theorem own_empty (W : World) (base N : Nat) (h : W.heap[N]? = some (.cells #[] 45)) (hb : base ≤ N) : OwnRow RR 45 3 W base (.slice (some ⟨N, 0, none⟩) 0 0) [] :=
  ⟨[], ⟨by simp, .inr ⟨N, 0, #[], rfl, hb, h, by simp, by simp, by simp, by simp⟩⟩, Reps.none _ _⟩
theorem own_alloc {W : World} {base : Nat} {v : Value} {ps : List S45} (h : OwnRow RR 45 3 W base v ps) (o : Obj) : OwnRow RR 45 3 (W.alloc o) base v ps := let ⟨inner, h1, h2⟩ := h; ⟨inner, h1.alloc o, h2⟩
theorem drew_heap (X : World) : X.drew.heap = X.heap := rfl
theorem rr_one : ∀ (p : S45) (c : List Value), RR p c → ∀ u ∈ c, u.oneCell' = true := by
  rintro p c rfl u hu
  simp at hu
  rcases hu with rfl | rfl | rfl <;> rfl
theorem C_rr {W : World} {A : Option Addr} {n : Nat} {l : List S45} : Kd.C k45 W A n l ↔ ReadsRow RR 3 W A n l := by
  constructor
  · rintro ⟨h1, h2, h3⟩
    exact ⟨h1, h2, fun h => let ⟨ad, e, k⟩ := h3 h; ⟨ad, e, fun j p hj => let ⟨c, c1, c2, c3⟩ := k j p hj; ⟨c, c1, k45_open c2, c3⟩⟩⟩
  · rintro ⟨h1, h2, h3⟩
    exact ⟨h1, h2, fun h => let ⟨ad, e, k⟩ := h3 h; ⟨ad, e, fun j p hj => let ⟨c, c1, c2, c3⟩ := k j p hj; ⟨c, c1, by rw [show c = _ from c2]; exact k45_mk W p, c3⟩⟩⟩
/-- where the one record lies -/
theorem one_row (W : World) (N : Nat) (x : S45) (h : W.heap[N]? = some (.cells #[.string x.f0, .int .i64 x.f1, .int .i64 x.f2] 45)) : ReadsRow RR 3 W (some ⟨N, 0, none⟩) [x].length [x] := by
  refine ⟨rfl, by simp, fun _ => ⟨_, rfl, fun j p hj => ?_⟩⟩
  cases j with
  | zero =>
    simp at hj
    subst hj
    refine ⟨_, rfl, rfl, fun i u hi => ?_⟩
    match i with
    | 0 => simp at hi; subst hi; simp [World.cell?, Addr.add, h]
    | 1 => simp at hi; subst hi; simp [World.cell?, Addr.add, h]
    | 2 => simp at hi; subst hi; simp [World.cell?, Addr.add, h]
    | n + 3 => simp at hi
  | succ j => simp at hj
theorem at_old (W : World) (o : Obj) {N : Nat} (h : N < W.heap.size) : (W.alloc o).heap[N]? = W.heap[N]? := Below.heap_alloc _ _ _ h
structure BoxM (w : World) (x : S45) (key : ByteArray) (V : Option Addr) (nv cv : Nat) (w' : World) : Prop where
  boxr : w'.heap[w.heap.size]? = some (.cells #[.string x.f0, .int .i64 x.f1, .int .i64 x.f2] 45)
  boxe : w'.heap[w.heap.size + 1]? = some (.cells #[.string key, .slice V nv cv] 48)
  b : Below w.heap.size w w'
theorem BoxM.step {w : World} {x : S45} {key : ByteArray} {V : Option Addr} {nv cv : Nat} {w1 w2 : World} (h : BoxM w x key V nv cv w1) (hb : Below w1.heap.size w1 w2) : BoxM w x key V nv cv w2 :=
  ⟨(hb.block _ (Array.getElem?_eq_some_iff.1 h.boxr).1).trans h.boxr, (hb.block _ (Array.getElem?_eq_some_iff.1 h.boxe).1).trans h.boxe, two_below h.b hb⟩
theorem BoxM.cells {w : World} {x : S45} {key : ByteArray} {V : Option Addr} {nv cv : Nat} {w1 : World} (h : BoxM w x key V nv cv w1) : w1.cell? ⟨w.heap.size + 1, 0, none⟩ = some (.string key) ∧ w1.cell? ⟨w.heap.size + 1, 1, none⟩ = some (.slice V nv cv) ∧ w1.cell? ⟨w.heap.size, 0, none⟩ = some (.string x.f0) ∧ w1.cell? ⟨w.heap.size, 1, none⟩ = some (.int .i64 x.f1) ∧ w1.cell? ⟨w.heap.size, 2, none⟩ = some (.int .i64 x.f2) :=
  ⟨by simp [World.cell?, h.boxe], by simp [World.cell?, h.boxe], by simp [World.cell?, h.boxr], by simp [World.cell?, h.boxr], by simp [World.cell?, h.boxr]⟩
theorem BoxM.cellsA {w : World} {x : S45} {key : ByteArray} {V : Option Addr} {nv cv : Nat} {w1 : World} (h : BoxM w x key V nv cv w1) (o : Obj) : (w1.alloc o).cell? ⟨w.heap.size + 1, 0, none⟩ = some (.string key) ∧ (w1.alloc o).cell? ⟨w.heap.size + 1, 1, none⟩ = some (.slice V nv cv) := by
  have h2 := (at_old w1 o (Array.getElem?_eq_some_iff.1 h.boxe).1).trans h.boxe
  exact ⟨by simp [World.cell?, h2], by simp [World.cell?, h2]⟩
def Cut7 (a : Act) (G : Value → World → Prop) : Exit → Act → World → Prop
  | .normal, a', w' => ∃ u1 u2 u3 u4 u5 v, a' = (((((((a.put (some 34) u1).put (some 35) u2).put (some 36) u3).put (some 37) u4).put (some 38) u5).put (some 39) v).put (some 10) v) ∧ G v w'
  | _, _, _ => False
theorem cut7 {P : Program} {c : Code} {K : Act → World → Prop} {Q' : Exit → Act → World → Prop} {a : Act} {w : World} (G : Value → World → Prop)
    (h1 : c.wp P (Cut7 a G) a w)
    (h2 : ∀ u1 u2 u3 u4 u5 v w', G v w' → K (((((((a.put (some 34) u1).put (some 35) u2).put (some 36) u3).put (some 37) u4).put (some 38) u5).put (some 39) v).put (some 10) v) w') : c.wp P (Exit.then K Q') a w :=
  Code.wp_mono (by rintro e a' w' h; cases e <;> first | exact h.elim | (obtain ⟨u1, u2, u3, u4, u5, v, rfl, h⟩ := h; exact h2 u1 u2 u3 u4 u5 v w' h)) h1
set_option maxHeartbeats 4000000 in
set_option maxRecDepth 100000 in
theorem more_calls (A : Option Addr) (c : Nat) (x : S45) (key : ByteArray) (V : Option Addr) (cv : Nat) (l : List S45) (vs : List S53) (now : Int) (w : World) (hr : Kd.C k45 w A l.length l) (hc : l.length ≤ c) (hv : Kd.C k53 w V vs.length vs) (hcv : vs.length ≤ cv) (hl : l.length ≤ 9223372036854775807) (hvl : vs.length ≤ 9223372036854775807) :
    Calls Try.prog 8 #[.slice A l.length c, .agg #[.string x.f0, .int .i64 x.f1, .int .i64 x.f2], .agg #[.string key, .slice V vs.length cv], .int .i64 now] w fun e w' => e = .returned (.bool true) ∧ Below w.heap.size w w' := by
  obtain ⟨k, b, hlb, hbf⟩ := large_tot l key vs hl hvl
  have HR := Lib.hid hr
  have HV := Lib.hid hv
  have HLB := Lib.hid hlb
  have HBF := Lib.hid hbf
  have HC := Lib.hid hc
  have HCV := Lib.hid hcv
  clear hr hv hlb hbf hl hvl hc hcv
  go_enter Try.func8, Try.ntmps8
  go_wp2_with fail
  refine (awake_calls _).mono ?_
  rintro e w1 ⟨rfl, hb1⟩
  have hboxr : w1.heap[w.heap.size]? = some (.cells #[.string x.f0, .int .i64 x.f1, .int .i64 x.f2] 45) := (hb1.block _ (by simp; omega)).trans ((Below.heap_alloc _ _ _ (by simp)).trans (World.alloc_heap_new w _))
  have hboxe : w1.heap[w.heap.size + 1]? = some (.cells #[.string key, .slice V vs.length cv] 48) := (hb1.block _ (by simp)).trans (by have := World.alloc_heap_new (w.alloc (.cells #[.string x.f0, .int .i64 x.f1, .int .i64 x.f2] 45)) (.cells #[.string key, .slice V vs.length cv] 48); rwa [World.size_alloc] at this)
  have hB1 : Below w.heap.size w w1 := (((Below.refl _ w).alloc (Nat.le_refl _) _).alloc (by simp) _).trans (hb1.mono (by simp; omega))
  have c1 : w1.cell? ⟨w.heap.size + 1, 0, none⟩ = some (.string key) := by simp [World.cell?, hboxe]
  have c2 : w1.cell? ⟨w.heap.size + 1, 1, none⟩ = some (.slice V vs.length cv) := by simp [World.cell?, hboxe]
  have HBR := Lib.hid hboxr
  have HBE := Lib.hid hboxe
  have HB1 := Lib.hid hB1
  clear hboxr hboxe hB1 hb1
  go_wp2_with fail
  refine (stowagelaw22_large.calls k A c l key V cv vs b w1 (Kd.C_below HR.out HB1.out) HC.out (Kd.C_below HV.out HB1.out) HCV.out HLB.out).mono ?_
  rintro e w2 ⟨rfl, hb2⟩
  have HBR2 := Lib.hid ((hb2.block _ (Array.getElem?_eq_some_iff.1 HBR.out).1).trans HBR.out)
  have HBE2 := Lib.hid ((hb2.block _ (Array.getElem?_eq_some_iff.1 HBE.out).1).trans HBE.out)
  have HB2 := Lib.hid (two_below HB1.out hb2)
  clear hb2 HBR HBE HB1 c1 c2
  have r0 : w2.cell? ⟨w.heap.size, 0, none⟩ = some (.string x.f0) := by simp [World.cell?, HBR2.out]
  have r1 : w2.cell? ⟨w.heap.size, 1, none⟩ = some (.int .i64 x.f1) := by simp [World.cell?, HBR2.out]
  have r2 : w2.cell? ⟨w.heap.size, 2, none⟩ = some (.int .i64 x.f2) := by simp [World.cell?, HBR2.out]
  cases b
  · by_cases hx : (x.f0.size : Int) > 300
    · go_wp2_with fail
      go_ret
      exact ⟨rfl, HB2.out⟩
    · have HL := Lib.hid (HBF.out rfl)
      go_wp2_with fail
      have hlt : w.heap.size < w2.heap.size := (Array.getElem?_eq_some_iff.1 HBR2.out).1
      have HBRA : ∀ o, (w2.alloc o).heap[w.heap.size]? = some (.cells #[.string x.f0, .int .i64 x.f1, .int .i64 x.f2] 45) := fun o => (at_old _ _ hlt).trans HBR2.out
      have p0 : ∀ o, (w2.alloc o).cell? ⟨w.heap.size, 0, none⟩ = some (.string x.f0) := fun o => by simp [World.cell?, HBRA o]
      have p1 : ∀ o, (w2.alloc o).cell? ⟨w.heap.size, 1, none⟩ = some (.int .i64 x.f1) := fun o => by simp [World.cell?, HBRA o]
      have p2 : ∀ o, (w2.alloc o).cell? ⟨w.heap.size, 2, none⟩ = some (.int .i64 x.f2) := fun o => by simp [World.cell?, HBRA o]
      have HCC : Hid (∀ W, Below w2.heap.size w2 W → ∀ (j : Nat) (u : Value), [Value.string x.f0, .int .i64 x.f1, .int .i64 x.f2][j]? = some u → W.cell? ⟨w.heap.size, j, none⟩ = some u) := Lib.hid (fun W h j u hj => by
        have h2 := (h.block _ hlt).trans HBR2.out
        simp only [World.cell?, h2]
        simpa using hj)
      clear HBRA
      obtain ⟨i0, hi, hzz⟩ := Option.map_eq_some_iff.1 info45
      simp only [Prod.mk.injEq] at hzz
      obtain ⟨hz0, hz1, hz2⟩ := hzz
      have HQ : Hid (∀ W, Below w2.heap.size w2 W → ReadsRow RR 3 W A l.length l) := Lib.hid (fun W h => C_rr.1 (Kd.C_below HR.out (HB2.out.trans (h.mono HB2.out.size))))
      refine cut7 (fun v W => OwnRow RR 45 3 W w2.heap.size v (l ++ [x]) ∧ Below w2.heap.size w2 W) ?_ ?_
      · go_region_law? (first
          | (refine step_append_rows (P := Try.prog) rfl (.tmp 34) (.tmp 35) 43 rfl (by rfl) (by rfl) (run_append_rows _ w2.heap.size 43 _ 45 i0 _ 3 32 Try.underlying43 hi hz0 hz1 hz2 rfl (by decide) RR rr_one _ [] l (own_empty _ _ _ (by first | exact at_new _ _ _ (by simp) | (try simp only [drew_heap]); first | exact at_new _ _ _ (by simp) | exact (at_old _ _ (by first | (simp; done) | (simp; omega) | omega)).trans (at_new _ _ _ (by simp))) (by simp)) A c (HQ.out _ (by (repeat' (first | exact Below.refl _ _ | refine Below.drew ?_ | refine Below.alloc ?_ ?_ _)) <;> simp)) (by have := HL.out.2.1; simp [maxLen]; omega) (by have := HL.out.2.1; simp; omega) (by first | (simp; done) | (simp; omega))) ?_; rintro v1 w3 ⟨hO, hg, ho⟩; have hbw : Below w2.heap.size w2 w3 := Below.grown (by (repeat' (first | exact Below.refl _ _ | refine Below.drew ?_ | refine Below.alloc ?_ ?_ _)) <;> simp) hg (by first | (simp; done) | (simp; omega)) (fun j hj => by simp [Value.ownBlock] at hj; omega); have q0 := HCC.out w3 hbw 0 _ rfl; have q1 := HCC.out w3 hbw 1 _ rfl; have q2 := HCC.out w3 hbw 2 _ rfl)
          | (refine step_append_rows (P := Try.prog) rfl (.tmp 36) (.tmp 38) 43 rfl (by rfl) (by rfl) (run_append_rows _ w2.heap.size 43 _ 45 i0 _ 3 32 Try.underlying43 hi hz0 hz1 hz2 rfl (by decide) RR rr_one v1 ([] ++ l) [x] (by first | exact hO | exact own_alloc hO _) (some ⟨_, 0, none⟩) 1 (one_row _ _ x (by first | exact at_new _ _ _ (by simp) | ((try simp only [drew_heap]); first | exact at_new _ _ _ (by simp) | exact (hg.block _ (by first | (simp; done) | (simp; omega) | omega) (by simp [Value.ownBlock])).trans (by first | exact at_new _ _ _ (by simp) | (try simp only [drew_heap]); first | exact at_new _ _ _ (by simp) | exact (at_old _ _ (by first | (simp; done) | (simp; omega) | omega)).trans (at_new _ _ _ (by simp)))))) (by have := HL.out.2.1; simp [maxLen]; omega) (by have := HL.out.2.1; simp; omega) (by first | exact hbw.size | exact Nat.le_trans hbw.size (by simp))) ?_; rintro v2 w4 ⟨hO2, hg2, ho2⟩))
        all_goals refine ⟨_, _, _, _, _, _, rfl, hO2, Below.grown (by first | exact hbw | exact hbw.alloc hbw.size _) hg2 (by first | exact hbw.size | exact Nat.le_trans hbw.size (by simp)) (fun k hk => by obtain ⟨_, h, _⟩ := hO; exact own_base h k hk)⟩
      · rintro u1 u2 u3 u4 u5 v w4 ⟨hO4, hb4⟩
        obtain ⟨A4, c4, rfl, hc4, hC4⟩ := hO4.reads
        have HC4 := Lib.hid (C_rr.2 hC4)
        have HL4 := Lib.hid hc4
        have HS4 : Hid (BoxM w x key V vs.length cv w4) := Lib.hid ((BoxM.mk HBR2.out HBE2.out HB2.out).step hb4)
        obtain ⟨ra, haa, hga⟩ := asked_tot l key vs now HL.out.1 (by have := HL.out.2.1; omega) HL.out.2.2
        obtain ⟨rb, hab, hgb⟩ := asked_tot [x] key vs now (by intro r hr; rw [List.mem_singleton] at hr; subst hr; omega) (by simp) HL.out.2.2
        obtain ⟨rc, hac, hgc⟩ := asked_tot (l ++ [x]) key vs now (by intro r hr; rcases List.mem_append.1 hr with hr | hr; exact HL.out.1 r hr; rw [List.mem_singleton] at hr; subst hr; omega) (by have := HL.out.2.1; simp; omega) HL.out.2.2
        have HAA := Lib.hid haa
        have HAB := Lib.hid hab
        have HAC := Lib.hid hac
        have HGA := Lib.hid hga
        have HGB := Lib.hid hgb
        have HGC := Lib.hid hgc
        clear hac hgc
        generalize hlx : l ++ [x] = lx at HAC HGC HC4 HL4 ⊢
        have HLX := Lib.hid hlx
        obtain ⟨c1, c2, -, -, -⟩ := HS4.out.cells
        clear hlx hO4 hb4 hc4 hC4 haa hab hga hgb HBR2 HBE2 HB2 HQ HCC hi i0 hz0 hz1 hz2 p0 p1 p2 r0 r1 r2 hlt HLB HBF
        go_wp2_with fail
        refine (newest_calls 1000 A c key V cv l vs now ra w4 (Kd.C_below HR.out HS4.out.b) HC.out (Kd.C_below HV.out HS4.out.b) HCV.out HAA.out (fun h => (HGA.out h).1)).mono ?_
        rintro e w5 ⟨rfl, hb5⟩
        generalize hna : (if ra = 0 then newestF l key vs now else false) = na
        have HNA := Lib.hid hna
        have HS5 := Lib.hid (HS4.out.step hb5)
        have HC5 := Lib.hid (Kd.C_below HC4.out hb5)
        obtain ⟨-, -, r0, r1, r2⟩ := HS5.out.cells
        obtain ⟨c1, c2⟩ := HS5.out.cellsA (.cells #[.string x.f0, .int .i64 x.f1, .int .i64 x.f2] 45)
        clear hb5 hna HC4 HS4
        go_wp2_with fail
        refine (newest_calls 1000 (some ⟨w5.heap.size, 0, none⟩) 1 key V cv [x] vs now rb _ (C_rr.2 (one_row _ _ x (at_new _ _ _ rfl))) (by simp) (Kd.C_below HV.out (below_alloc HS5.out.b _)) HCV.out HAB.out (fun h => (HGB.out h).1)).mono ?_
        rintro e w6 ⟨rfl, hb6⟩
        generalize hnb : (if rb = 0 then newestF [x] key vs now else false) = nb
        have HNB := Lib.hid hnb
        have hb56 : Below w5.heap.size w5 w6 := two_below ((Below.refl _ w5).alloc (Nat.le_refl _) _) hb6
        have HS6 := Lib.hid (HS5.out.step hb56)
        have HC6 := Lib.hid (Kd.C_below HC5.out hb56)
        obtain ⟨c1, c2, -, -, -⟩ := HS6.out.cells
        clear hb6 hb56 hnb HC5 HS5 r0 r1 r2
        go_wp2_with fail
        refine (newest_calls 1000 A4 c4 key V cv lx vs now rc w6 HC6.out HL4.out (Kd.C_below HV.out HS6.out.b) HCV.out HAC.out (fun h => (HGC.out h).1)).mono ?_
        rintro e w7 ⟨rfl, hb7⟩
        generalize hnc : (if rc = 0 then newestF lx key vs now else false) = nc
        have HNC := Lib.hid hnc
        have HS7 := Lib.hid (HS6.out.step hb7)
        have HC7 := Lib.hid (Kd.C_below HC6.out hb7)
        obtain ⟨c1, c2, -, -, -⟩ := HS7.out.cells
        clear hb7 hnc HC6 HS6
        by_cases hra : ra = 0
        · by_cases hrb : rb = 0
          · by_cases hrc : rc = 0
            · subst hra
              subst hrb
              subst hrc
              have hna := HNA.out
              have hnb := HNB.out
              have hnc := HNC.out
              rw [if_pos rfl] at hna hnb hnc
              have hgood := (HGA.out rfl).1
              have hcc : nc = (na || nb) := by rw [← hna, ← hnb, ← hnc, ← HLX.out]; exact newest_append hgood.times now
              have hmk : nc = true → 0 < vs.length ∧ (rd_T53 vs 0).f2 = false := fun h => newest_mark hgood.times (hnc.trans h)
              have hfit : fits x key = false → nb = false ∧ oldF [x] key vs now = [] := fun h => ⟨hnb.symm.trans (unfit_newest hgood.times h now), unfit_old hgood.times h now⟩
              have hlen : ∀ q, (oldF q key vs now).length ≤ 80 := fun q => Nat.le_trans (oldN_length _ _ _ _ _) HL.out.2.2
              have hw1 : stowagelaw22_within.f 1000 (oldF l key vs now) (oldF lx key vs now) = some true := within_sub _ _ (by have := hlen l; omega) (by have := hlen lx; omega) (by rw [← HLX.out]; exact oldF_left hgood.times now)
              have hw2 : stowagelaw22_within.f 1000 (oldF [x] key vs now) (oldF lx key vs now) = some true := within_sub _ _ (by have := hlen [x]; omega) (by have := hlen lx; omega) (by rw [← HLX.out]; exact oldF_right hgood.times now)
              have hle : (oldF lx key vs now).length ≤ (oldF l key vs now).length + (oldF [x] key vs now).length ∧ (oldF lx key vs now).length ≤ 80 ∧ (oldF l key vs now).length ≤ 80 ∧ (oldF [x] key vs now).length ≤ 80 := ⟨by rw [← HLX.out]; exact oldF_len hgood.times now, hlen _, hlen _, hlen _⟩
              have HW1 := Lib.hid hw1
              have HW2 := Lib.hid hw2
              have HLE := Lib.hid hle
              have HFIT := Lib.hid hfit
              have HMK := Lib.hid hmk
              clear hna hnb hnc hmk hfit hgood HNA HNB HNC hlen hw1 hw2 hle HLX
              cases na <;> cases nb <;> simp only [Bool.or_false, Bool.or_true, Bool.or_self] at hcc <;> subst hcc
              · go_wp2_with fail
                refine (old_calls 1000 A c key _ cv l vs now 0 w7 (Kd.C_below HR.out HS7.out.b) HC.out (Kd.C_below HV.out HS7.out.b) HCV.out HAA.out (fun _ => (HGA.out (by first | rfl | trivial)).1)).mono ?_
                rintro e w8 ⟨v8, rfl, hR8, hb8⟩
                rw [if_pos rfl] at hR8
                obtain ⟨A8, c8, rfl, hc8, hC8⟩ := Kd.R_reads hR8
                have HC8 := Lib.hid hC8
                have HL8 := Lib.hid hc8
                have HS8 := Lib.hid (HS7.out.step hb8)
                have HX8 := Lib.hid (Kd.C_below HC7.out hb8)
                obtain ⟨-, -, r0, r1, r2⟩ := HS8.out.cells
                obtain ⟨c1, c2⟩ := HS8.out.cellsA (.cells #[.string x.f0, .int .i64 x.f1, .int .i64 x.f2] 45)
                clear hb8 hR8 hC8 hc8 HS7 HC7
                go_wp2_with fail
                refine (old_calls 1000 (some ⟨w8.heap.size, 0, none⟩) 1 key _ cv [x] vs now 0 _ (C_rr.2 (one_row _ _ x (at_new _ _ _ rfl))) (by simp) (Kd.C_below HV.out (below_alloc HS8.out.b _)) HCV.out HAB.out (fun _ => (HGB.out (by first | rfl | trivial)).1)).mono ?_
                rintro e w9 ⟨v9, rfl, hR9, hb9⟩
                rw [if_pos rfl] at hR9
                obtain ⟨A9, c9, rfl, hc9, hC9⟩ := Kd.R_reads hR9
                have hb89 : Below w8.heap.size w8 w9 := two_below ((Below.refl _ w8).alloc (Nat.le_refl _) _) hb9
                have HC9 := Lib.hid hC9
                have HL9 := Lib.hid hc9
                have HS9 := Lib.hid (HS8.out.step hb89)
                have HX9 := Lib.hid (Kd.C_below HX8.out hb89)
                have HD9 := Lib.hid (Kd.C_below HC8.out hb89)
                obtain ⟨c1, c2, -, -, -⟩ := HS9.out.cells
                clear hb9 hb89 hR9 hC9 hc9 HS8 HX8 HC8 r0 r1 r2
                go_wp2_with fail
                refine (old_calls 1000 A4 c4 key _ cv lx vs now 0 w9 HX9.out HL4.out (Kd.C_below HV.out HS9.out.b) HCV.out HAC.out (fun _ => (HGC.out (by first | rfl | trivial)).1)).mono ?_
                rintro e wa ⟨va, rfl, hRa, hba⟩
                rw [if_pos rfl] at hRa
                obtain ⟨Aa, ca, rfl, hca, hCa⟩ := Kd.R_reads hRa
                have HCa := Lib.hid hCa
                have HLa := Lib.hid hca
                have HSa := Lib.hid (HS9.out.step hba)
                have HDa := Lib.hid (Kd.C_below HD9.out hba)
                have HEa := Lib.hid (Kd.C_below HC9.out hba)
                clear hba hRa hCa hca HS9 HX9 HC9 HD9 c1 c2
                clear HAA HAB HAC HGA HGB HGC
                generalize oldF l key vs now = ol at *
                generalize oldF [x] key vs now = ox at *
                generalize oldF lx key vs now = oz at *
                go_wp2_with fail
                refine (stowagelaw22_within.calls 1000 A8 c8 ol Aa ca oz true wa HDa.out HL8.out HCa.out HLa.out HW1.out).mono ?_
                rintro e wb ⟨rfl, hbb⟩
                have HSb := Lib.hid (HSa.out.step hbb.below)
                have HEb := Lib.hid (Kd.C_below HEa.out hbb.below)
                have HCb := Lib.hid (Kd.C_below HCa.out hbb.below)
                clear hbb HSa HEa HCa HDa
                go_wp2_with fail
                refine (stowagelaw22_within.calls 1000 A9 c9 ox Aa ca oz true wb HEb.out HL9.out HCb.out HLa.out HW2.out).mono ?_
                rintro e wc ⟨rfl, hbc⟩
                have HSc := Lib.hid (HSb.out.step hbc.below)
                obtain ⟨c1, c2, r0, r1, r2⟩ := HSc.out.cells
                clear hbc HSb HEb HCb
                go_wp2_with fail
                refine (fits_calls x key wc).mono ?_
                rintro e wd ⟨rfl, hbd⟩
                have HSd := Lib.hid (HSc.out.step hbd)
                clear hbd HSc c1 c2 r0 r1 r2
                cases hf : fits x key
                · have hnil := (HFIT.out hf).2
                  subst hnil
                  have hle := HLE.out
                  simp only [List.length_nil] at hle
                  have hle : (oz.length : Int) ≤ (ol.length : Int) := by omega
                  go_wp2_with fail
                  all_goals (go_ret; first | exact ⟨rfl, HSd.out.b⟩ | (refine ⟨?_, HSd.out.b⟩; simp; omega))
                · have hle := HLE.out
                  go_wp2_with fail
                  all_goals (go_ret; first | exact ⟨rfl, HSd.out.b⟩ | (refine ⟨?_, HSd.out.b⟩; simp; omega))
              · obtain ⟨h0, hm⟩ := HMK.out rfl
                obtain ⟨ad, rfl, -, -, cm0, -, -⟩ := at_T53 (Kd.C_below HV.out HS7.out.b) 0 (by omega) (by omega)
                rw [hm] at cm0
                have cm : w7.cell? ⟨ad.block, ad.off + 2, none⟩ = some (.bool false) := by simpa [Addr.add] using cm0
                have h1 : ¬ vs.length = 0 := by omega
                clear cm0 hm h0
                go_wp2_with fail
                refine (old_calls 1000 A c key _ cv l vs now 0 w7 (Kd.C_below HR.out HS7.out.b) HC.out (Kd.C_below HV.out HS7.out.b) HCV.out HAA.out (fun _ => (HGA.out (by first | rfl | trivial)).1)).mono ?_
                rintro e w8 ⟨v8, rfl, hR8, hb8⟩
                rw [if_pos rfl] at hR8
                obtain ⟨A8, c8, rfl, hc8, hC8⟩ := Kd.R_reads hR8
                have HC8 := Lib.hid hC8
                have HL8 := Lib.hid hc8
                have HS8 := Lib.hid (HS7.out.step hb8)
                have HX8 := Lib.hid (Kd.C_below HC7.out hb8)
                obtain ⟨-, -, r0, r1, r2⟩ := HS8.out.cells
                obtain ⟨c1, c2⟩ := HS8.out.cellsA (.cells #[.string x.f0, .int .i64 x.f1, .int .i64 x.f2] 45)
                clear hb8 hR8 hC8 hc8 HS7 HC7
                go_wp2_with fail
                refine (old_calls 1000 (some ⟨w8.heap.size, 0, none⟩) 1 key _ cv [x] vs now 0 _ (C_rr.2 (one_row _ _ x (at_new _ _ _ rfl))) (by simp) (Kd.C_below HV.out (below_alloc HS8.out.b _)) HCV.out HAB.out (fun _ => (HGB.out (by first | rfl | trivial)).1)).mono ?_
                rintro e w9 ⟨v9, rfl, hR9, hb9⟩
                rw [if_pos rfl] at hR9
                obtain ⟨A9, c9, rfl, hc9, hC9⟩ := Kd.R_reads hR9
                have hb89 : Below w8.heap.size w8 w9 := two_below ((Below.refl _ w8).alloc (Nat.le_refl _) _) hb9
                have HC9 := Lib.hid hC9
                have HL9 := Lib.hid hc9
                have HS9 := Lib.hid (HS8.out.step hb89)
                have HX9 := Lib.hid (Kd.C_below HX8.out hb89)
                have HD9 := Lib.hid (Kd.C_below HC8.out hb89)
                obtain ⟨c1, c2, -, -, -⟩ := HS9.out.cells
                clear hb9 hb89 hR9 hC9 hc9 HS8 HX8 HC8 r0 r1 r2
                go_wp2_with fail
                refine (old_calls 1000 A4 c4 key _ cv lx vs now 0 w9 HX9.out HL4.out (Kd.C_below HV.out HS9.out.b) HCV.out HAC.out (fun _ => (HGC.out (by first | rfl | trivial)).1)).mono ?_
                rintro e wa ⟨va, rfl, hRa, hba⟩
                rw [if_pos rfl] at hRa
                obtain ⟨Aa, ca, rfl, hca, hCa⟩ := Kd.R_reads hRa
                have HCa := Lib.hid hCa
                have HLa := Lib.hid hca
                have HSa := Lib.hid (HS9.out.step hba)
                have HDa := Lib.hid (Kd.C_below HD9.out hba)
                have HEa := Lib.hid (Kd.C_below HC9.out hba)
                clear hba hRa hCa hca HS9 HX9 HC9 HD9 c1 c2
                clear HAA HAB HAC HGA HGB HGC
                generalize oldF l key vs now = ol at *
                generalize oldF [x] key vs now = ox at *
                generalize oldF lx key vs now = oz at *
                go_wp2_with fail
                refine (stowagelaw22_within.calls 1000 A8 c8 ol Aa ca oz true wa HDa.out HL8.out HCa.out HLa.out HW1.out).mono ?_
                rintro e wb ⟨rfl, hbb⟩
                have HSb := Lib.hid (HSa.out.step hbb.below)
                have HEb := Lib.hid (Kd.C_below HEa.out hbb.below)
                have HCb := Lib.hid (Kd.C_below HCa.out hbb.below)
                clear hbb HSa HEa HCa HDa
                go_wp2_with fail
                refine (stowagelaw22_within.calls 1000 A9 c9 ox Aa ca oz true wb HEb.out HL9.out HCb.out HLa.out HW2.out).mono ?_
                rintro e wc ⟨rfl, hbc⟩
                have HSc := Lib.hid (HSb.out.step hbc.below)
                obtain ⟨c1, c2, r0, r1, r2⟩ := HSc.out.cells
                clear hbc HSb HEb HCb
                go_wp2_with fail
                refine (fits_calls x key wc).mono ?_
                rintro e wd ⟨rfl, hbd⟩
                have HSd := Lib.hid (HSc.out.step hbd)
                clear hbd HSc c1 c2 r0 r1 r2
                cases hf : fits x key
                · exact absurd (HFIT.out hf).1 (by decide)
                · have hle := HLE.out
                  go_wp2_with fail
                  all_goals (go_ret; first | exact ⟨rfl, HSd.out.b⟩ | (refine ⟨?_, HSd.out.b⟩; simp; omega))
              · obtain ⟨h0, hm⟩ := HMK.out rfl
                obtain ⟨ad, rfl, -, -, cm0, -, -⟩ := at_T53 (Kd.C_below HV.out HS7.out.b) 0 (by omega) (by omega)
                rw [hm] at cm0
                have cm : w7.cell? ⟨ad.block, ad.off + 2, none⟩ = some (.bool false) := by simpa [Addr.add] using cm0
                have h1 : ¬ vs.length = 0 := by omega
                clear cm0 hm h0
                go_wp2_with fail
                refine (old_calls 1000 A c key _ cv l vs now 0 w7 (Kd.C_below HR.out HS7.out.b) HC.out (Kd.C_below HV.out HS7.out.b) HCV.out HAA.out (fun _ => (HGA.out (by first | rfl | trivial)).1)).mono ?_
                rintro e w8 ⟨v8, rfl, hR8, hb8⟩
                rw [if_pos rfl] at hR8
                obtain ⟨A8, c8, rfl, hc8, hC8⟩ := Kd.R_reads hR8
                have HC8 := Lib.hid hC8
                have HL8 := Lib.hid hc8
                have HS8 := Lib.hid (HS7.out.step hb8)
                have HX8 := Lib.hid (Kd.C_below HC7.out hb8)
                obtain ⟨-, -, r0, r1, r2⟩ := HS8.out.cells
                obtain ⟨c1, c2⟩ := HS8.out.cellsA (.cells #[.string x.f0, .int .i64 x.f1, .int .i64 x.f2] 45)
                clear hb8 hR8 hC8 hc8 HS7 HC7
                go_wp2_with fail
                refine (old_calls 1000 (some ⟨w8.heap.size, 0, none⟩) 1 key _ cv [x] vs now 0 _ (C_rr.2 (one_row _ _ x (at_new _ _ _ rfl))) (by simp) (Kd.C_below HV.out (below_alloc HS8.out.b _)) HCV.out HAB.out (fun _ => (HGB.out (by first | rfl | trivial)).1)).mono ?_
                rintro e w9 ⟨v9, rfl, hR9, hb9⟩
                rw [if_pos rfl] at hR9
                obtain ⟨A9, c9, rfl, hc9, hC9⟩ := Kd.R_reads hR9
                have hb89 : Below w8.heap.size w8 w9 := two_below ((Below.refl _ w8).alloc (Nat.le_refl _) _) hb9
                have HC9 := Lib.hid hC9
                have HL9 := Lib.hid hc9
                have HS9 := Lib.hid (HS8.out.step hb89)
                have HX9 := Lib.hid (Kd.C_below HX8.out hb89)
                have HD9 := Lib.hid (Kd.C_below HC8.out hb89)
                obtain ⟨c1, c2, -, -, -⟩ := HS9.out.cells
                clear hb9 hb89 hR9 hC9 hc9 HS8 HX8 HC8 r0 r1 r2
                go_wp2_with fail
                refine (old_calls 1000 A4 c4 key _ cv lx vs now 0 w9 HX9.out HL4.out (Kd.C_below HV.out HS9.out.b) HCV.out HAC.out (fun _ => (HGC.out (by first | rfl | trivial)).1)).mono ?_
                rintro e wa ⟨va, rfl, hRa, hba⟩
                rw [if_pos rfl] at hRa
                obtain ⟨Aa, ca, rfl, hca, hCa⟩ := Kd.R_reads hRa
                have HCa := Lib.hid hCa
                have HLa := Lib.hid hca
                have HSa := Lib.hid (HS9.out.step hba)
                have HDa := Lib.hid (Kd.C_below HD9.out hba)
                have HEa := Lib.hid (Kd.C_below HC9.out hba)
                clear hba hRa hCa hca HS9 HX9 HC9 HD9 c1 c2
                clear HAA HAB HAC HGA HGB HGC
                generalize oldF l key vs now = ol at *
                generalize oldF [x] key vs now = ox at *
                generalize oldF lx key vs now = oz at *
                go_wp2_with fail
                refine (stowagelaw22_within.calls 1000 A8 c8 ol Aa ca oz true wa HDa.out HL8.out HCa.out HLa.out HW1.out).mono ?_
                rintro e wb ⟨rfl, hbb⟩
                have HSb := Lib.hid (HSa.out.step hbb.below)
                have HEb := Lib.hid (Kd.C_below HEa.out hbb.below)
                have HCb := Lib.hid (Kd.C_below HCa.out hbb.below)
                clear hbb HSa HEa HCa HDa
                go_wp2_with fail
                refine (stowagelaw22_within.calls 1000 A9 c9 ox Aa ca oz true wb HEb.out HL9.out HCb.out HLa.out HW2.out).mono ?_
                rintro e wc ⟨rfl, hbc⟩
                have HSc := Lib.hid (HSb.out.step hbc.below)
                obtain ⟨c1, c2, r0, r1, r2⟩ := HSc.out.cells
                clear hbc HSb HEb HCb
                go_wp2_with fail
                refine (fits_calls x key wc).mono ?_
                rintro e wd ⟨rfl, hbd⟩
                have HSd := Lib.hid (HSc.out.step hbd)
                clear hbd HSc c1 c2 r0 r1 r2
                cases hf : fits x key
                · have hnil := (HFIT.out hf).2
                  subst hnil
                  have hle := HLE.out
                  simp only [List.length_nil] at hle
                  have hle : (oz.length : Int) ≤ (ol.length : Int) := by omega
                  go_wp2_with fail
                  all_goals (go_ret; first | exact ⟨rfl, HSd.out.b⟩ | (refine ⟨?_, HSd.out.b⟩; simp; omega))
                · have hle := HLE.out
                  go_wp2_with fail
                  all_goals (go_ret; first | exact ⟨rfl, HSd.out.b⟩ | (refine ⟨?_, HSd.out.b⟩; simp; omega))
              · obtain ⟨h0, hm⟩ := HMK.out rfl
                obtain ⟨ad, rfl, -, -, cm0, -, -⟩ := at_T53 (Kd.C_below HV.out HS7.out.b) 0 (by omega) (by omega)
                rw [hm] at cm0
                have cm : w7.cell? ⟨ad.block, ad.off + 2, none⟩ = some (.bool false) := by simpa [Addr.add] using cm0
                have h1 : ¬ vs.length = 0 := by omega
                clear cm0 hm h0
                go_wp2_with fail
                refine (old_calls 1000 A c key _ cv l vs now 0 w7 (Kd.C_below HR.out HS7.out.b) HC.out (Kd.C_below HV.out HS7.out.b) HCV.out HAA.out (fun _ => (HGA.out (by first | rfl | trivial)).1)).mono ?_
                rintro e w8 ⟨v8, rfl, hR8, hb8⟩
                rw [if_pos rfl] at hR8
                obtain ⟨A8, c8, rfl, hc8, hC8⟩ := Kd.R_reads hR8
                have HC8 := Lib.hid hC8
                have HL8 := Lib.hid hc8
                have HS8 := Lib.hid (HS7.out.step hb8)
                have HX8 := Lib.hid (Kd.C_below HC7.out hb8)
                obtain ⟨-, -, r0, r1, r2⟩ := HS8.out.cells
                obtain ⟨c1, c2⟩ := HS8.out.cellsA (.cells #[.string x.f0, .int .i64 x.f1, .int .i64 x.f2] 45)
                clear hb8 hR8 hC8 hc8 HS7 HC7
                go_wp2_with fail
                refine (old_calls 1000 (some ⟨w8.heap.size, 0, none⟩) 1 key _ cv [x] vs now 0 _ (C_rr.2 (one_row _ _ x (at_new _ _ _ rfl))) (by simp) (Kd.C_below HV.out (below_alloc HS8.out.b _)) HCV.out HAB.out (fun _ => (HGB.out (by first | rfl | trivial)).1)).mono ?_
                rintro e w9 ⟨v9, rfl, hR9, hb9⟩
                rw [if_pos rfl] at hR9
                obtain ⟨A9, c9, rfl, hc9, hC9⟩ := Kd.R_reads hR9
                have hb89 : Below w8.heap.size w8 w9 := two_below ((Below.refl _ w8).alloc (Nat.le_refl _) _) hb9
                have HC9 := Lib.hid hC9
                have HL9 := Lib.hid hc9
                have HS9 := Lib.hid (HS8.out.step hb89)
                have HX9 := Lib.hid (Kd.C_below HX8.out hb89)
                have HD9 := Lib.hid (Kd.C_below HC8.out hb89)
                obtain ⟨c1, c2, -, -, -⟩ := HS9.out.cells
                clear hb9 hb89 hR9 hC9 hc9 HS8 HX8 HC8 r0 r1 r2
                go_wp2_with fail
                refine (old_calls 1000 A4 c4 key _ cv lx vs now 0 w9 HX9.out HL4.out (Kd.C_below HV.out HS9.out.b) HCV.out HAC.out (fun _ => (HGC.out (by first | rfl | trivial)).1)).mono ?_
                rintro e wa ⟨va, rfl, hRa, hba⟩
                rw [if_pos rfl] at hRa
                obtain ⟨Aa, ca, rfl, hca, hCa⟩ := Kd.R_reads hRa
                have HCa := Lib.hid hCa
                have HLa := Lib.hid hca
                have HSa := Lib.hid (HS9.out.step hba)
                have HDa := Lib.hid (Kd.C_below HD9.out hba)
                have HEa := Lib.hid (Kd.C_below HC9.out hba)
                clear hba hRa hCa hca HS9 HX9 HC9 HD9 c1 c2
                clear HAA HAB HAC HGA HGB HGC
                generalize oldF l key vs now = ol at *
                generalize oldF [x] key vs now = ox at *
                generalize oldF lx key vs now = oz at *
                go_wp2_with fail
                refine (stowagelaw22_within.calls 1000 A8 c8 ol Aa ca oz true wa HDa.out HL8.out HCa.out HLa.out HW1.out).mono ?_
                rintro e wb ⟨rfl, hbb⟩
                have HSb := Lib.hid (HSa.out.step hbb.below)
                have HEb := Lib.hid (Kd.C_below HEa.out hbb.below)
                have HCb := Lib.hid (Kd.C_below HCa.out hbb.below)
                clear hbb HSa HEa HCa HDa
                go_wp2_with fail
                refine (stowagelaw22_within.calls 1000 A9 c9 ox Aa ca oz true wb HEb.out HL9.out HCb.out HLa.out HW2.out).mono ?_
                rintro e wc ⟨rfl, hbc⟩
                have HSc := Lib.hid (HSb.out.step hbc.below)
                obtain ⟨c1, c2, r0, r1, r2⟩ := HSc.out.cells
                clear hbc HSb HEb HCb
                go_wp2_with fail
                refine (fits_calls x key wc).mono ?_
                rintro e wd ⟨rfl, hbd⟩
                have HSd := Lib.hid (HSc.out.step hbd)
                clear hbd HSc c1 c2 r0 r1 r2
                cases hf : fits x key
                · exact absurd (HFIT.out hf).1 (by decide)
                · have hle := HLE.out
                  go_wp2_with fail
                  all_goals (go_ret; first | exact ⟨rfl, HSd.out.b⟩ | (refine ⟨?_, HSd.out.b⟩; simp; omega))
            · go_wp2_with fail
              go_ret
              exact ⟨rfl, HS7.out.b⟩
          · go_wp2_with fail
            go_ret
            exact ⟨rfl, HS7.out.b⟩
        · go_wp2_with fail
          go_ret
          exact ⟨rfl, HS7.out.b⟩
  · go_wp2_with fail
    go_ret
    exact ⟨rfl, HB2.out⟩
end Go.Proofs.Ytpogicakpgpkcaa.RRuleMore
