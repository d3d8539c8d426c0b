/- All moments at which a version expires (rule.moments and what it hands back), as contracts. -/
import Derived.Test.YtpogicakpgpkcaaR2RuleTells
import Derived.Sort.LoopGhostIn
namespace Go.Proofs.Ytpogicakpgpkcaa.RRuleTells
open Go.RowKit Go.Shelf Go.Proofs.Ytpogicakpgpkcaa.It Go.Proofs.Ytpogicakpgpkcaa.PRuleTells Go.Proofs.YtpogicakpgpkcaaW.PrintWords Go.Proofs.YtpogicakpgpkcaaW.PrintLast
attribute [local go_sem] Oper.semAt_some

theorem due_stops (n : Nat) (hn1 : 1 ≤ n) (G : Nat → Prop) (b : Nat) (W0 : World) (A : Option Addr) (c : Nat) (key : ByteArray) (since what : Int) (old : Bool) (rules : List S45) (hG : ∀ k, G k → k < b) (hb : b + 5 ≤ W0.heap.size) (hd : DueAt W0 b A rules.length c key since what old) (hr : Kd.C k45 W0 A rules.length rules) (hA : rules.length ≠ 0 → ∀ ad, A = some ad → ¬ G ad.block) (hok : ∀ r ∈ rules, RuleOk r) (hs : 0 ≤ since ∧ since ≤ 1048576) (hn : rules.length ≤ 1000) (P : Int × Int → Prop) (hP : ∀ r ∈ rules, P (since + daysOf old r * 24, what)) :
    Iter Try.prog n 70 (dueV b) (encs2 (P := P)) G (fun xs => vals xs = dueL rules key since what old) (fun pre => vals pre <+: dueL rules key since what old) W0 := by
  cases old
  · exact due_stops0 n hn1 G b W0 A c key since what rules hG hb hd hr hA hok hs hn P hP
  · exact due_stops1 n hn1 G b W0 A c key since what rules hG hb hd hr hA hok hs hn P hP

/-- What comes of version i. -/
def mom1 (rules : List S45) (key : ByteArray) (vs : List S53) (i : Nat) : List (Int × Int) :=
  if i = 0 then (if (rd_T53 vs 0).f2 then [] else dueL rules key (rd_T53 vs 0).f1 0 false) else dueL rules key (rd_T53 vs ((i : Int) - 1)).f1 i true
def momL (rules : List S45) (key : ByteArray) (vs : List S53) : Nat → List (Int × Int)
  | 0 => []
  | k + 1 => momL rules key vs k ++ mom1 rules key vs k
theorem momL_prefix (rules : List S45) (key : ByteArray) (vs : List S53) (k m : Nat) : momL rules key vs k <+: momL rules key vs (k + m) := by
  induction m with
  | zero => exact List.prefix_rfl
  | succ m ih => exact ih.trans (List.prefix_append _ _)
def momV (b : Nat) : Array Value := #[.pointer (some ⟨b + 1, 0, none⟩), .pointer (some ⟨b, 0, none⟩)]
structure MomAt (W : World) (b : Nat) (A : Option Addr) (n c : Nat) (key : ByteArray) (V : Option Addr) (nv cv : Nat) : Prop where
  l : Boxed W b 43 (.slice A n c)
  e : W.heap[b + 1]? = some (.cells #[.string key, .slice V nv cv] 48 (0, 0))
theorem MomAt.kept {G : Nat → Prop} {C : Nat} {W W' : World} {b : Nat} {A : Option Addr} {n c : Nat} {key : ByteArray} {V : Option Addr} {nv cv : Nat} (h : MomAt W b A n c key V nv cv) (hk : Keep G C W W') (hG : ∀ k, G k → k < b) : MomAt W' b A n c key V nv cv :=
  ⟨keep_boxed hk h.l (fun e => by have := hG _ e; omega), hk.same _ _ (fun e => by have := hG _ e; omega) h.e (.inl rfl)⟩
theorem MomAt.cells {W : World} {b : Nat} {A : Option Addr} {n c : Nat} {key : ByteArray} {V : Option Addr} {nv cv : Nat} (h : MomAt W b A n c key V nv cv) : W.cell? ⟨b, 0, none⟩ = some (.slice A n c) ∧ W.cell? ⟨b + 1, 0, none⟩ = some (.string key) ∧ W.cell? ⟨b + 1, 1, none⟩ = some (.slice V nv cv) :=
  ⟨h.l.cell, by simp [World.cell?, h.e], by simp [World.cell?, h.e]⟩
theorem mom_calls (A : Option Addr) (n c : Nat) (key : ByteArray) (V : Option Addr) (nv cv : Nat) (w : World) :
    Calls Try.prog 63 #[.slice A n c, .agg #[.string key, .slice V nv cv]] w fun e w' => e = .returned (.func (.func 66) #[] (momV w.heap.size)) ∧ MomAt w' w.heap.size A n c key V nv cv ∧ Below w.heap.size w w' := by
  go_enter Try.func63, Try.ntmps63
  go_wp2
  go_ret
  refine ⟨rfl, ⟨?_, ?_⟩, ?_⟩
  · exact (Boxed.new w 43 _).alloc _
  · have := World.alloc_heap_new (w.alloc (.cells #[.slice A n c] 43)) (.cells #[.string key, .slice V nv cv] 48)
    simpa only [World.size_alloc] using this
  · exact ((Below.refl _ _).alloc (Nat.le_refl _) _).alloc (by simp) _
theorem keep_C53 {G : Nat → Prop} {C : Nat} {W W' : World} (hk : Keep G C W W') {A : Option Addr} {n : Nat} {l : List S53} (h : Kd.C k53 W A n l) (hA : n ≠ 0 → ∀ ad, A = some ad → ¬ G ad.block) : Kd.C k53 W' A n l := by
  refine ⟨h.1, h.2.1, fun hn => ?_⟩
  obtain ⟨ad, e, hc⟩ := h.2.2 hn
  refine ⟨ad, e, fun j p hj => ?_⟩
  obtain ⟨cs, h1, h2, h3⟩ := hc j p hj
  exact ⟨cs, h1, h2, fun i u hu => hk.cell (h3 i u hu) (by rw [show (ad.add (j * k53.sz + i)).block = ad.block from by unfold Addr.add; split <;> rfl]; exact hA (by omega) ad e)⟩

set_option maxHeartbeats 4000000 in
set_option maxRecDepth 100000 in
theorem mom_stops (n : Nat) (hn1 : 4 ≤ n) (G : Nat → Prop) (b : Nat) (W0 : World) (A : Option Addr) (c : Nat) (key : ByteArray) (V : Option Addr) (cv : Nat) (rules : List S45) (vs : List S53) (hG : ∀ k, G k → k < b) (hb : b + 2 ≤ W0.heap.size) (hd : MomAt W0 b A rules.length c key V vs.length cv) (hr : Kd.C k45 W0 A rules.length rules) (hv : Kd.C k53 W0 V vs.length vs) (hA : rules.length ≠ 0 → ∀ ad, A = some ad → ¬ G ad.block) (hV : vs.length ≠ 0 → ∀ ad, V = some ad → ¬ G ad.block) (hok : ∀ r ∈ rules, RuleOk r) (hs : ∀ v ∈ vs, 0 ≤ v.f1 ∧ v.f1 ≤ 1048576) (hn : rules.length ≤ 1000) (hm : vs.length ≤ 1000) (P : Int × Int → Prop) (hP : ∀ (i : Nat) (s : Int), i < vs.length → 0 ≤ s → s ≤ 1288576 → P (s, i)) :
    Iter Try.prog n 66 (momV b) (encs2 (P := P)) G (fun xs => vals xs = momL rules key vs vs.length) (fun pre => vals pre <+: momL rules key vs vs.length) W0 := fun l J Jx W hW hJ hJx hY h0 => by
  refine callsIn_of_wp_marks Try.func66 rfl trivial ?_ rfl
  simp only [Try.ntmps66, List.size_toArray, List.length_cons, List.length_nil, Nat.reduceAdd, Nat.reduceSub, Array.replicate_succ, Array.replicate_zero, List.push_toArray, List.append_toArray, List.nil_append, List.cons_append, momV]
  have hd1 := hd.kept (Keep.below (G := G) (B := 0) hW) hG
  have hr1 := keep_C45 (Keep.below (G := G) (B := 0) hW) hr hA
  have hv1 := keep_C53 (Keep.below (G := G) (B := 0) hW) hv hV
  have hcl := hd1.cells.2.2
  have hn2 : 1 ≤ n := by omega
  have HD1 := Lib.hid hd1
  have HR1 := Lib.hid hr1
  have HV1 := Lib.hid hv1
  have HY := Lib.hid hY
  have HJ := Lib.hid hJ
  have z1 : b + 1 < W.heap.size := by have := hW.size; omega
  clear hd1 hr1 hv1 hr hv hd hY hJ
  gi_wp2
  clear hcl
  have hJs0 : J [] W → J [] (W.alloc (.cells #[.func (.yield l) #[] #[]] 82)) := fun h => HJ.out.alloc _ h
  refine wpIn_loop_ghost_k (fun m a wr => ∃ (k : Nat) (Ds : List Nat) (u4 u5 u6 u7 u8 u9 u14 u15 u16 u17 u18 u19 u20 u21 u22 u23 u24 u25 u26 u27 u28 u29 u30 u31 u32 u33 u34 u35 u36 u37 u38 u39 u40 u41 u42 u43 u44 u45 u46 u47 : Value), m = vs.length - k ∧ k ≤ vs.length ∧ a = { tmps := #[(.func (.yield l) #[] #[] : Value), (.pointer (some ⟨b + 1, 0, none⟩) : Value), (.pointer (some ⟨b, 0, none⟩) : Value), (.pointer (some ⟨W.heap.size, 0, none⟩) : Value), u4, u5, u6, u7, u8, u9, (.pointer (some ⟨b + 1, 1, none⟩) : Value), (.slice V vs.length cv : Value), (.int .i64 (vs.length : Int) : Value), (.int .i64 (k : Int) : Value), u14, u15, u16, u17, u18, u19, u20, u21, u22, u23, u24, u25, u26, u27, u28, u29, u30, u31, u32, u33, u34, u35, u36, u37, u38, u39, u40, u41, u42, u43, u44, u45, u46, u47], defers := Ds.map markD } ∧
    (∃ pre : List {p : Int × Int // P p}, Hid (vals pre = momL rules key vs k) ∧ Hid (J pre wr)) ∧ Hid (Keep G W.heap.size W wr) ∧ Hid (wr.heap[W.heap.size]? = some (.cells #[.func (.yield l) #[] #[]] 82)) ∧ Hid (Marked wr Ds ∧ ∀ D ∈ Ds, W.heap.size + 1 ≤ D)) vs.length ?_ ?_
  · exact ⟨0, [], _, _, _, _, _, _, _, _, _, _, _, _, _, _, _, _, _, _, _, _, _, _, _, _, _, _, _, _, _, _, _, _, _, _, _, _, _, _, _, _, by omega, by omega, rfl, ⟨[], Lib.hid rfl, Lib.hid (hJs0 h0)⟩, Lib.hid (Keep.below ((Below.refl _ W).alloc (Nat.le_refl _) _)), Lib.hid (World.alloc_heap_new _ _), Lib.hid ⟨⟨by simp, by simp⟩, by simp⟩⟩
  · rintro m a wr ⟨k, Ds, u4, u5, u6, u7, u8, u9, u14, u15, u16, u17, u18, u19, u20, u21, u22, u23, u24, u25, u26, u27, u28, u29, u30, u31, u32, u33, u34, u35, u36, u37, u38, u39, u40, u41, u42, u43, u44, u45, u46, u47, rfl, hk, rfl, ⟨pre, hpre, hJs⟩, hkp, hbx, hmk⟩ J' K hJ' hK
    by_cases hlt : k < vs.length
    · have hv1 := keep_C53 hkp.out HV1.out hV
      have hd1 := HD1.out.kept hkp.out hG
      obtain ⟨ad, ea, hx0, hx1, hx2, hx3, hx4⟩ := at_T53 hv1 (k : Int) (by omega) (by omega)
      rw [Int.toNat_natCast] at hx0 hx1 hx2 hx3 hx4
      subst ea
      have c1 := hd1.cells.1
      have c2 := hd1.cells.2.1
      have c3 := hd1.cells.2.2
      have hz := hkp.out.size
      have y0 : b < wr.heap.size := by omega
      have y1 : b + 1 < wr.heap.size := by omega
      have y2 : (ad.add (k * 5)).block < wr.heap.size := World.block_lt_of_cell? wr _ hx0
      clear hd1 hv1 hz
      by_cases hk0 : k = 0
      · subst hk0
        rw [show ad.add (0 * 5) = ad from by rcases ad with ⟨x, y, _ | z⟩ <;> simp [Addr.add]] at hx0 hx1 hx2 hx3 hx4 y2
        by_cases hmark : (rd_T53 vs 0).f2 = true
        · obtain ⟨v, hvv⟩ : ∃ v, v = rd_T53 vs ((0 : Nat) : Int) := ⟨_, rfl⟩
          rw [← hvv] at hx0 hx1 hx2 hx3 hx4
          have hmk2 : v.f2 = true := by rw [hvv]; exact hmark
          rw [hmk2] at hx2
          have hst : momL rules key vs (0 + 1) = momL rules key vs 0 := by
            show momL rules key vs 0 ++ mom1 rules key vs 0 = _
            unfold mom1; rw [if_pos rfl, ← Int.natCast_zero, ← hvv, hmk2]; exact List.append_nil _
          have HST := Lib.hid hst
          clear hmark hst hvv
          gi_wp2
          have HBw := Below.alloc (Below.refl wr.heap.size wr) (Nat.le_refl _) (.cells #[.string v.f0, .int .i64 v.f1, .bool true, .int .i64 v.f3, .string v.f4] 53)
          have hkw := (Keep.below (G := G) (B := W.heap.size) HBw)
          have HV : Hid (vals pre = momL rules key vs (0 + 1)) := Lib.hid (by rw [HST.out]; exact hpre.out)
          have HM := Lib.hid (hmk.out.1.kept hkw (fun k hk => by have := hG k hk; omega) (fun D hD => by have := hmk.out.2 D hD; omega))
          exact Handed.intro (vs.length - (0 + 1)) (by omega) (hJ' _ _ _ ⟨0 + 1, Ds, _, _, _, _, _, _, _, _, _, _, _, _, _, _, _, _, _, _, _, _, _, _, _, _, _, _, _, _, _, _, _, _, _, _, _, _, _, _, _, _, rfl, by omega, rfl, ⟨pre, HV, Lib.hid (Steady.below HJ.out hJs.out HBw)⟩, Lib.hid (hkp.out.trans hkw), Lib.hid (hkw.same _ _ (fun e => by have := hG _ e; have := (Array.getElem?_eq_some_iff.1 hbx.out).1; omega) hbx.out (.inl rfl)), Lib.hid ⟨HM.out, hmk.out.2⟩⟩)
        · obtain ⟨v, hvv⟩ : ∃ v, v = rd_T53 vs ((0 : Nat) : Int) := ⟨_, rfl⟩
          rw [← hvv] at hx0 hx1 hx2 hx3 hx4
          have hmk2 : v.f2 = false := by rw [hvv]; simpa using hmark
          rw [hmk2] at hx2
          clear hmark
          have hsv : 0 ≤ v.f1 ∧ v.f1 ≤ 1048576 := by rw [hvv]; exact hs _ (by unfold rd_T53; simp only [Int.toNat_natCast]; rw [List.getD_eq_getElem?_getD, List.getElem?_eq_getElem hlt]; exact List.getElem_mem hlt)
          have hst : momL rules key vs (0 + 1) = momL rules key vs 0 ++ dueL rules key v.f1 ((0 : Nat) : Int) false := by
            show momL rules key vs 0 ++ mom1 rules key vs 0 = _
            unfold mom1; rw [if_pos rfl, ← Int.natCast_zero, ← hvv, hmk2]; rfl
          have hP' : ∀ r ∈ rules, P (v.f1 + daysOf false r * 24, ((0 : Nat) : Int)) := fun r hr => by
            have := hok r hr; have h2 := hsv; unfold RuleOk at this; refine hP 0 _ hlt ?_ ?_ <;> (simp only [daysOf]; simp; omega)
          have HSV := Lib.hid hsv
          have HST := Lib.hid hst
          have HP' := Lib.hid hP'
          have HVV := Lib.hid hvv
          clear hsv hst hP' hvv
          gi_wp2_with (first
            | (refine ⟨trivial, ?_⟩; gi_at_call 69; refine (callsIn_wide.2 (due_calls A _ c key v.f1 ((0 : Nat) : Int) false _)).mono ?_; rintro e w1 ⟨rfl, hdue, hbe1, _⟩
               have hBw := ((Below.refl _ wr).alloc (Nat.le_refl _) _).trans (hbe1.mono (by simp))
               have hbs := hbe1.size
               have HBS := Lib.hid hbs
               have HBw := Lib.hid hBw
               have HDue := Lib.hid hdue
               clear hbe1 hBw hbs hdue))
          refine wp_range_set (fun x t => (((t.setIfInBounds 40 (.int .i64 x.1.1)).setIfInBounds 41 (.int .i64 x.1.2)).setIfInBounds 8 (.int .i64 x.1.1)).setIfInBounds 9 (.int .i64 x.1.2)) (encs2 (P := P)) G
            (fun xs W2 => J (pre ++ xs) W2 ∧ Keep G W.heap.size w1 W2) (fun c xs W2 => c = .ret ∧ Jx (pre ++ xs) W2 ∧ Keep G W.heap.size w1 W2) ?hg ?eg (S := fun xs => vals xs = dueL rules key v.f1 ((0 : Nat) : Int) false) (Sp := fun pre => vals pre <+: dueL rules key v.f1 ((0 : Nat) : Int) false) (gf := 70) (lb := dueV (wr.heap.size + 1)) (w0 := w1) ?hseq
            (Below.refl _ _) (fun _ => rfl) ?hI ?hIx ?h0 ?hassign ?hbody ?hdone ?hstop
          case hg => rfl
          case eg => exact fun args w => by simp [callFunc, go_sem, Try.f70]
          case hseq =>
            have hdue := HDue.out
            simp only [World.size_alloc] at hdue
            have h5 := (Array.getElem?_eq_some_iff.1 hdue.days).1
            exact due_stops (n - 1) (by omega) G _ w1 A c key v.f1 ((0 : Nat) : Int) false rules (fun k hk => by have := hG k hk; omega) (by omega) hdue (keep_C45 (hkp.out.trans (Keep.below HBw.out)) HR1.out hA) hA hok HSV.out hn P HP'.out
          case hI =>
            have h5 := hkp.out.size
            have h6 := HBw.out.size
            exact Steady.and (fun s A A' row hs hg hr => HJ.out (pre ++ s) A A' row hs hg (fun r e => by have := hr r e; omega)) (steady_keep (Nat.le_refl _))
          case hIx =>
            have h5 := hkp.out.size
            have h6 := HBw.out.size
            exact fun c => Steady.and (steady_pure _) (Steady.and (fun s A A' row hs hg hr => hJx (pre ++ s) A A' row hs hg (fun r e => by have := hr r e; omega)) (steady_keep (Nat.le_refl _)))
          case h0 => exact ⟨by rw [List.append_nil]; exact Steady.below HJ.out hJs.out HBw.out, Keep.refl _ _ _⟩
          case hassign =>
            intro x W2 K2 hK2
            simp only [encs2, List.zip_toArray, List.zip_cons_cons, List.zip_nil_right, List.foldl_toArray, List.foldl_cons, List.foldl_nil, List.setIfInBounds_toArray, List.set_cons_succ, List.set_cons_zero] at hK2 ⊢
            gi_wp2
            exact hK2
          case hbody =>
            rintro pre2 x W2 ⟨hj2, hk2⟩ hsz2
            have hbx2 := hk2.same _ _ (fun e => by have := hG _ e; omega) ((HBw.out.block _ (Array.getElem?_eq_some_iff.1 hbx.out).1).trans hbx.out) (.inl rfl)
            have hcb : W2.cell? ⟨W.heap.size, 0, none⟩ = some (.func (.yield l) #[] #[]) := by simp [World.cell?, hbx2]
            have HJ2 := Lib.hid hj2
            have HK2 := Lib.hid hk2
            have HS2 := Lib.hid hsz2
            clear hbx2 hj2 hk2 hsz2
            obtain ⟨fn, tmps, assign, body, hy, hR⟩ := yield_inRound (D := w1.heap.size + 1) (m' := n - 1 - 1 - 1) (HY.out (pre ++ pre2) x W2 HJ2.out)
            dsimp only [encs2] at hy
            simp only [List.setIfInBounds_toArray, List.set_cons_succ, List.set_cons_zero]
            gi_wp2
            refine ⟨fun _ => by omega, hR.mono ?_⟩
            have h7 : W.heap.size ≤ w1.heap.size := Nat.le_trans hkp.out.size HBw.out.size
            have h8 := HS2.out
            have g7 : ∀ k, W.heap.size ≤ k → ¬ G k := fun k hk e => by have := hG _ e; omega
            rintro e W3 (⟨rfl, hj3, hk3⟩ | ⟨rfl, hj3, hk3⟩)
            · rw [List.append_assoc] at hj3
              have HF := Lib.hid (And.intro (hk3.at (g7 _ h7) (by omega) h7) (And.intro (hk3.at (k := w1.heap.size + 1) (g7 _ (by omega)) (by omega) (by omega)) (And.intro (hk3.mono (B' := w1.heap.size + 2) (by omega)) (And.intro hj3 (HK2.out.trans hk3)))))
              clear hj3 hk3 g7
              gi_wp2
              exact HF.out
            · rw [List.append_assoc] at hj3
              have HF := Lib.hid (And.intro (hk3.at (g7 _ h7) (by omega) h7) (And.intro (hk3.at (k := w1.heap.size + 1) (g7 _ (by omega)) (by omega) (by omega)) (And.intro (hk3.mono (B' := w1.heap.size + 2) (by omega)) (And.intro hj3 (HK2.out.trans hk3)))))
              clear hj3 hk3 g7
              gi_wp2
              exact ⟨HF.out.1, HF.out.2.1, HF.out.2.2.1, rfl, HF.out.2.2.2⟩
          case hdone =>
            rintro xs W2 hxs ⟨hj2, hk2⟩ hD
            have h7 : wr.heap.size ≤ w1.heap.size := HBw.out.size
            have hkw := (Keep.below (G := G) (B := W.heap.size) HBw.out).trans hk2
            have HM := Lib.hid (Marked.cons (hmk.out.1.kept hkw (fun k hk => by have := hG k hk; omega) (fun D hD => by have := hmk.out.2 D hD; omega)) hD (fun e => by have := hmk.out.1.lt e; omega))
            have HM2 : Hid (∀ D ∈ w1.heap.size :: Ds, W.heap.size + 1 ≤ D) := Lib.hid (fun D hD => by
              rcases List.mem_cons.1 hD with e | hD
              · have := (Array.getElem?_eq_some_iff.1 hbx.out).1; omega
              · exact hmk.out.2 D hD)
            have HV : Hid (vals (pre ++ xs) = momL rules key vs (0 + 1)) := Lib.hid (by rw [vals, List.map_append, HST.out, ← hpre.out, ← hxs]; rfl)
            have HKW := Lib.hid hkw
            have HJ2 := Lib.hid hj2
            clear hj2 hxs hkw hD hk2
            gi_wp2
            rw [show (1 : Int) = ((0 + 1 : Nat) : Int) by omega]
            exact Handed.intro (vs.length - (0 + 1)) (by omega) (hJ' _ _ _ ⟨0 + 1, w1.heap.size :: Ds, _, _, _, _, _, _, _, _, _, _, _, _, _, _, _, _, _, _, _, _, _, _, _, _, _, _, _, _, _, _, _, _, _, _, _, _, _, _, _, _, rfl, by omega, rfl, ⟨pre ++ xs, HV, HJ2⟩, Lib.hid (hkp.out.trans HKW.out), Lib.hid (HKW.out.same _ _ (fun e => by have := hG _ e; have := (Array.getElem?_eq_some_iff.1 hbx.out).1; omega) hbx.out (.inl rfl)), Lib.hid ⟨HM.out, HM2.out⟩⟩)
          case hstop =>
            rintro cc pre2 W2 hpre2 ⟨rfl, hj2, hk2⟩ hD
            have h7 : wr.heap.size ≤ w1.heap.size := HBw.out.size
            have hkw := (Keep.below (G := G) (B := W.heap.size) HBw.out).trans hk2
            have HM := Lib.hid (Marked.cons (hmk.out.1.kept hkw (fun k hk => by have := hG k hk; omega) (fun D hD => by have := hmk.out.2 D hD; omega)) hD (fun e => by have := hmk.out.1.lt e; omega))
            have HM2 : Hid (∀ D ∈ w1.heap.size :: Ds, W.heap.size + 1 ≤ D) := Lib.hid (fun D hD => by
              rcases List.mem_cons.1 hD with e | hD
              · have := (Array.getElem?_eq_some_iff.1 hbx.out).1; omega
              · exact hmk.out.2 D hD)
            have HV : Hid (vals (pre ++ pre2) <+: momL rules key vs vs.length) := Lib.hid (by
              have e1 : vals (pre ++ pre2) <+: momL rules key vs (0 + 1) := by
                rw [vals, List.map_append, HST.out, ← hpre.out]; exact (List.prefix_append_right_inj _).2 hpre2
              have e2 := momL_prefix rules key vs (0 + 1) (vs.length - (0 + 1))
              rw [show 0 + 1 + (vs.length - (0 + 1)) = vs.length by omega] at e2
              exact e1.trans e2)
            have HJ2 := Lib.hid hj2
            clear hj2 hpre2 hkw hD hk2
            gi_wp2
            exact leaves_marks (B := W.heap.size + 1) (fun _ W' => Jx (pre ++ pre2) W') (fun s A A' row hs hg hr => hJx _ A A' row hs hg (fun r e => by have := hr r e; omega)) (fun W' hj => ⟨_, results_none rfl _ _ _, ⟨_, rfl⟩, .inr ⟨pre ++ pre2, HV.out, hj⟩⟩) (w1.heap.size :: Ds) _ HM.out HM2.out HJ2.out
      · obtain ⟨u, huu⟩ : ∃ u, u = rd_T53 vs (k : Int) := ⟨_, rfl⟩
        rw [← huu] at hx0 hx1 hx2 hx3 hx4
        clear huu
        have hv1 := keep_C53 hkp.out HV1.out hV
        obtain ⟨ad', ea', hq0, hq1, _⟩ := at_T53 hv1 ((k : Int) - 1) (by omega) (by omega)
        obtain rfl : ad = ad' := by injection ea'
        clear hv1 ea'
        obtain ⟨v, hvv⟩ : ∃ v, v = rd_T53 vs ((k : Int) - 1) := ⟨_, rfl⟩
        rw [← hvv, show ((k : Int) - 1).toNat = k - 1 by omega] at hq1 hq0
        have y3 : (ad.add ((k - 1) * 5)).block < wr.heap.size := World.block_lt_of_cell? wr _ hq0
        have hsv : 0 ≤ v.f1 ∧ v.f1 ≤ 1048576 := by rw [hvv]; exact hs _ (by unfold rd_T53; rw [List.getD_eq_getElem?_getD, List.getElem?_eq_getElem (by omega)]; exact List.getElem_mem _)
        have hst : momL rules key vs (k + 1) = momL rules key vs k ++ dueL rules key v.f1 (k : Int) true := by
          show momL rules key vs k ++ mom1 rules key vs k = _
          unfold mom1; rw [if_neg hk0, ← hvv]
        have hP' : ∀ r ∈ rules, P (v.f1 + daysOf true r * 24, (k : Int)) := fun r hr => by
          have := hok r hr; have h2 := hsv; unfold RuleOk at this; refine hP k _ hlt ?_ ?_ <;> (simp only [daysOf]; simp; omega)
        have HSV := Lib.hid hsv
        have HST := Lib.hid hst
        have HP' := Lib.hid hP'
        clear hsv hst hP' hvv hq0
        · gi_wp2_with (first
            | (refine ⟨trivial, ?_⟩; gi_at_call 69; refine (callsIn_wide.2 (due_calls A _ c key v.f1 (k : Int) true _)).mono ?_; rintro e w1 ⟨rfl, hdue, hbe1, _⟩
               have hBw := ((Below.refl _ wr).alloc (Nat.le_refl _) _).trans (hbe1.mono (by simp))
               have hbs := hbe1.size
               have HBS := Lib.hid hbs
               have HBw := Lib.hid hBw
               have HDue := Lib.hid hdue
               clear hbe1 hBw hbs hdue))
          refine wp_range_set (fun x t => (((t.setIfInBounds 40 (.int .i64 x.1.1)).setIfInBounds 41 (.int .i64 x.1.2)).setIfInBounds 8 (.int .i64 x.1.1)).setIfInBounds 9 (.int .i64 x.1.2)) (encs2 (P := P)) G
            (fun xs W2 => J (pre ++ xs) W2 ∧ Keep G W.heap.size w1 W2) (fun c xs W2 => c = .ret ∧ Jx (pre ++ xs) W2 ∧ Keep G W.heap.size w1 W2) ?hg ?eg (S := fun xs => vals xs = dueL rules key v.f1 (k : Int) true) (Sp := fun pre => vals pre <+: dueL rules key v.f1 (k : Int) true) (gf := 70) (lb := dueV (wr.heap.size + 1)) (w0 := w1) ?hseq
            (Below.refl _ _) (fun _ => rfl) ?hI ?hIx ?h0 ?hassign ?hbody ?hdone ?hstop
          case hg => rfl
          case eg => exact fun args w => by simp [callFunc, go_sem, Try.f70]
          case hseq =>
            have hdue := HDue.out
            simp only [World.size_alloc] at hdue
            have h5 := (Array.getElem?_eq_some_iff.1 hdue.days).1
            exact due_stops (n - 1) (by omega) G _ w1 A c key v.f1 (k : Int) true rules (fun k hk => by have := hG k hk; omega) (by omega) hdue (keep_C45 (hkp.out.trans (Keep.below HBw.out)) HR1.out hA) hA hok HSV.out hn P HP'.out
          case hI =>
            have h5 := hkp.out.size
            have h6 := HBw.out.size
            exact Steady.and (fun s A A' row hs hg hr => HJ.out (pre ++ s) A A' row hs hg (fun r e => by have := hr r e; omega)) (steady_keep (Nat.le_refl _))
          case hIx =>
            have h5 := hkp.out.size
            have h6 := HBw.out.size
            exact fun c => Steady.and (steady_pure _) (Steady.and (fun s A A' row hs hg hr => hJx (pre ++ s) A A' row hs hg (fun r e => by have := hr r e; omega)) (steady_keep (Nat.le_refl _)))
          case h0 => exact ⟨by rw [List.append_nil]; exact Steady.below HJ.out hJs.out HBw.out, Keep.refl _ _ _⟩
          case hassign =>
            intro x W2 K2 hK2
            simp only [encs2, List.zip_toArray, List.zip_cons_cons, List.zip_nil_right, List.foldl_toArray, List.foldl_cons, List.foldl_nil, List.setIfInBounds_toArray, List.set_cons_succ, List.set_cons_zero] at hK2 ⊢
            gi_wp2
            exact hK2
          case hbody =>
            rintro pre2 x W2 ⟨hj2, hk2⟩ hsz2
            have hbx2 := hk2.same _ _ (fun e => by have := hG _ e; omega) ((HBw.out.block _ (Array.getElem?_eq_some_iff.1 hbx.out).1).trans hbx.out) (.inl rfl)
            have hcb : W2.cell? ⟨W.heap.size, 0, none⟩ = some (.func (.yield l) #[] #[]) := by simp [World.cell?, hbx2]
            have HJ2 := Lib.hid hj2
            have HK2 := Lib.hid hk2
            have HS2 := Lib.hid hsz2
            clear hbx2 hj2 hk2 hsz2
            obtain ⟨fn, tmps, assign, body, hy, hR⟩ := yield_inRound (D := w1.heap.size + 1) (m' := n - 1 - 1 - 1) (HY.out (pre ++ pre2) x W2 HJ2.out)
            dsimp only [encs2] at hy
            simp only [List.setIfInBounds_toArray, List.set_cons_succ, List.set_cons_zero]
            gi_wp2
            refine ⟨fun _ => by omega, hR.mono ?_⟩
            have h7 : W.heap.size ≤ w1.heap.size := Nat.le_trans hkp.out.size HBw.out.size
            have h8 := HS2.out
            have g7 : ∀ k, W.heap.size ≤ k → ¬ G k := fun k hk e => by have := hG _ e; omega
            rintro e W3 (⟨rfl, hj3, hk3⟩ | ⟨rfl, hj3, hk3⟩)
            · rw [List.append_assoc] at hj3
              have HF := Lib.hid (And.intro (hk3.at (g7 _ h7) (by omega) h7) (And.intro (hk3.at (k := w1.heap.size + 1) (g7 _ (by omega)) (by omega) (by omega)) (And.intro (hk3.mono (B' := w1.heap.size + 2) (by omega)) (And.intro hj3 (HK2.out.trans hk3)))))
              clear hj3 hk3 g7
              gi_wp2
              exact HF.out
            · rw [List.append_assoc] at hj3
              have HF := Lib.hid (And.intro (hk3.at (g7 _ h7) (by omega) h7) (And.intro (hk3.at (k := w1.heap.size + 1) (g7 _ (by omega)) (by omega) (by omega)) (And.intro (hk3.mono (B' := w1.heap.size + 2) (by omega)) (And.intro hj3 (HK2.out.trans hk3)))))
              clear hj3 hk3 g7
              gi_wp2
              exact ⟨HF.out.1, HF.out.2.1, HF.out.2.2.1, rfl, HF.out.2.2.2⟩
          case hdone =>
            rintro xs W2 hxs ⟨hj2, hk2⟩ hD
            have h7 : wr.heap.size ≤ w1.heap.size := HBw.out.size
            have hkw := (Keep.below (G := G) (B := W.heap.size) HBw.out).trans hk2
            have HM := Lib.hid (Marked.cons (hmk.out.1.kept hkw (fun k hk => by have := hG k hk; omega) (fun D hD => by have := hmk.out.2 D hD; omega)) hD (fun e => by have := hmk.out.1.lt e; omega))
            have HM2 : Hid (∀ D ∈ w1.heap.size :: Ds, W.heap.size + 1 ≤ D) := Lib.hid (fun D hD => by
              rcases List.mem_cons.1 hD with e | hD
              · have := (Array.getElem?_eq_some_iff.1 hbx.out).1; omega
              · exact hmk.out.2 D hD)
            have HV : Hid (vals (pre ++ xs) = momL rules key vs (k + 1)) := Lib.hid (by rw [vals, List.map_append, HST.out, ← hpre.out, ← hxs]; rfl)
            have HKW := Lib.hid hkw
            have HJ2 := Lib.hid hj2
            clear hj2 hxs hkw hD hk2
            gi_wp2
            rw [show ((k : Int) + 1) = ((k + 1 : Nat) : Int) by omega]
            exact Handed.intro (vs.length - (k + 1)) (by omega) (hJ' _ _ _ ⟨k + 1, w1.heap.size :: Ds, _, _, _, _, _, _, _, _, _, _, _, _, _, _, _, _, _, _, _, _, _, _, _, _, _, _, _, _, _, _, _, _, _, _, _, _, _, _, _, _, rfl, by omega, rfl, ⟨pre ++ xs, HV, HJ2⟩, Lib.hid (hkp.out.trans HKW.out), Lib.hid (HKW.out.same _ _ (fun e => by have := hG _ e; have := (Array.getElem?_eq_some_iff.1 hbx.out).1; omega) hbx.out (.inl rfl)), Lib.hid ⟨HM.out, HM2.out⟩⟩)
          case hstop =>
            rintro cc pre2 W2 hpre2 ⟨rfl, hj2, hk2⟩ hD
            have h7 : wr.heap.size ≤ w1.heap.size := HBw.out.size
            have hkw := (Keep.below (G := G) (B := W.heap.size) HBw.out).trans hk2
            have HM := Lib.hid (Marked.cons (hmk.out.1.kept hkw (fun k hk => by have := hG k hk; omega) (fun D hD => by have := hmk.out.2 D hD; omega)) hD (fun e => by have := hmk.out.1.lt e; omega))
            have HM2 : Hid (∀ D ∈ w1.heap.size :: Ds, W.heap.size + 1 ≤ D) := Lib.hid (fun D hD => by
              rcases List.mem_cons.1 hD with e | hD
              · have := (Array.getElem?_eq_some_iff.1 hbx.out).1; omega
              · exact hmk.out.2 D hD)
            have HV : Hid (vals (pre ++ pre2) <+: momL rules key vs vs.length) := Lib.hid (by
              have e1 : vals (pre ++ pre2) <+: momL rules key vs (k + 1) := by
                rw [vals, List.map_append, HST.out, ← hpre.out]; exact (List.prefix_append_right_inj _).2 hpre2
              have e2 := momL_prefix rules key vs (k + 1) (vs.length - (k + 1))
              rw [show k + 1 + (vs.length - (k + 1)) = vs.length by omega] at e2
              exact e1.trans e2)
            have HJ2 := Lib.hid hj2
            clear hj2 hpre2 hkw hD hk2
            gi_wp2
            exact leaves_marks (B := W.heap.size + 1) (fun _ W' => Jx (pre ++ pre2) W') (fun s A A' row hs hg hr => hJx _ A A' row hs hg (fun r e => by have := hr r e; omega)) (fun W' hj => ⟨_, results_none rfl _ _ _, ⟨_, rfl⟩, .inr ⟨pre ++ pre2, HV.out, hj⟩⟩) (w1.heap.size :: Ds) _ HM.out HM2.out HJ2.out
    · obtain rfl : k = vs.length := by omega
      gi_wp2
      exact leaves_marks (B := W.heap.size + 1) (fun _ W' => J pre W') (fun s A A' row hs hg hr => HJ.out pre A A' row hs hg (fun r e => by have := hr r e; omega)) (fun W' hj => ⟨_, results_none rfl _ _ _, ⟨_, rfl⟩, .inl ⟨pre, hpre.out, hj⟩⟩) Ds _ hmk.out.1 hmk.out.2 hJs.out
end Go.Proofs.Ytpogicakpgpkcaa.RRuleTells
