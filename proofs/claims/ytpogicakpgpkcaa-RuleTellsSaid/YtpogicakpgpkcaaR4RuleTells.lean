/- The first moment at which each version expires (rule.first), as a contract. -/
import Derived.Test.YtpogicakpgpkcaaR3RuleTells
namespace Go.Proofs.Ytpogicakpgpkcaa.RRuleTells
open Go.RowKit Go.Shelf Go.Proofs.Ytpogicakpgpkcaa.It Go.Proofs.Ytpogicakpgpkcaa.PRuleTells Go.Proofs.YtpogicakpgpkcaaW.PrintWords Go.Proofs.YtpogicakpgpkcaaW.PrintLast
attribute [local go_sem] Oper.semAt_some

def upd (out : List Int) (p : Int × Int) : List Int := if out.getD p.2.toNat 0 < 0 ∨ p.1 < out.getD p.2.toNat 0 then out.set p.2.toNat p.1 else out
def firstL (rules : List S45) (key : ByteArray) (vs : List S53) : List Int := (momL rules key vs vs.length).foldl upd (List.replicate vs.length (-1))
theorem upd_length (out : List Int) (p : Int × Int) : (upd out p).length = out.length := by unfold upd; split <;> simp
theorem foldl_upd_length (l : List (Int × Int)) : ∀ out : List Int, (l.foldl upd out).length = out.length := by
  induction l with
  | nil => intro out; rfl
  | cons p l ih => intro out; rw [List.foldl_cons, ih, upd_length]
theorem firstL_length (rules : List S45) (key : ByteArray) (vs : List S53) : (firstL rules key vs).length = vs.length := by unfold firstL; rw [foldl_upd_length, List.length_replicate]
/-- A block of numbers. -/
def ints (xs : List Int) : Obj := .cells (xs.map fun x => Value.int .i64 x).toArray 3 (0, 0)

theorem und73 : Try.prog.underlying 73 = some (.slice 3) := by kernel_rfl
theorem info3 : (Try.prog.info? 3).map (fun i => (i.zero, i.size, i.bytes)) = some (some (.int .i64 0), 1, 8) := by kernel_rfl
theorem made_ints (n : Nat) : Obj.cells (madeCells (Value.cells (.int .i64 0)) (n * 1)) 3 = ints (List.replicate n 0) := by
  unfold ints
  have e : madeCells (Value.cells (.int .i64 0)) (n * 1) = (List.map (fun x => Value.int .i64 x) (List.replicate n 0)).toArray := by
    apply Array.ext
    · simp [size_madeCells]
    · intro i h1 h2
      simp [madeCells, Value.cells, Nat.mod_one]
  rw [e]
theorem make_ints (n : Nat) (hn : n ≤ 1000) (w : World) : (Instr.makeSlice 73 (.int .i64 (n : Int)) (.int .i64 (n : Int))).run Try.prog w = .ok (.slice (some ⟨w.heap.size, 0, none⟩) n n) (w.alloc (ints (List.replicate n 0))) := by
  have h3 := info3
  obtain ⟨i, hi⟩ : ∃ i, Try.prog.info? 3 = some i := by
    cases h : Try.prog.info? 3 with
    | none => rw [h] at h3; cases h3
    | some i => exact ⟨i, rfl⟩
  rw [hi] at h3
  simp only [Option.map_some, Option.some.injEq, Prod.mk.injEq] at h3
  have := run_makeSlice (P := Try.prog) w 73 3 i (.int .i64 0) und73 hi h3.1 .i64 .i64 (n : Int) n (by omega) (by omega) (by rw [h3.2.1]; simp; omega) (by rw [h3.2.2]; omega) (by omega)
  rw [h3.2.1, Int.toNat_natCast, made_ints] at this
  exact this
theorem ints_cell {W : World} {B : Nat} {xs : List Int} (h : W.heap[B]? = some (ints xs)) (k : Nat) (hk : k < xs.length) : W.cell? ⟨B, k, none⟩ = some (.int .i64 (xs.getD k 0)) := by
  simp [World.cell?, h, ints, hk]
theorem ints_frozen {W : World} {B : Nat} {xs : List Int} (h : W.heap[B]? = some (ints xs)) (k : Nat) : W.frozen? ⟨B, k, none⟩ = false := by
  simp [World.frozen?, h, ints]
theorem ints_set {W : World} {B : Nat} {xs : List Int} (h : W.heap[B]? = some (ints xs)) (k : Nat) (v : Int) : (W.setCell ⟨B, k, none⟩ (.int .i64 v)).heap[B]? = some (ints (xs.set k v)) := by
  have hlt := (Array.getElem?_eq_some_iff.1 h)
  obtain ⟨hl, he⟩ := hlt
  rw [Array.getElem?_eq_getElem (by simp [World.setCell]; exact hl)]
  simp only [World.setCell, Array.getElem_modify, if_true, he, ints]
  simp [List.map_set]
theorem rep_step (n k : Nat) (hk : k < n) : (List.replicate k (-1 : Int) ++ List.replicate (n - k) 0).set k (-1) = List.replicate (k + 1) (-1) ++ List.replicate (n - (k + 1)) 0 := by
  apply List.ext_getElem
  · simp; omega
  · intro i h1 h2
    simp only [List.getElem_set, List.getElem_append, List.length_replicate, List.getElem_replicate]
    split
    · subst_vars; rw [dif_pos (by omega)]
    · split <;> split <;> first | rfl | omega
theorem k45_below {w : World} {A : Option Addr} {n : Nat} {l : List S45} (h : Kd.C k45 w A n l) (hn : n ≠ 0) {ad : Addr} (e : A = some ad) : ad.block < w.heap.size := by
  obtain ⟨ad', e', h0, _⟩ := at_T45 h 0 (by omega) (by omega)
  rw [e] at e'; injection e' with e'; subst e'
  have := World.block_lt_of_cell? w _ h0
  rwa [show (ad.add ((0 : Int).toNat * 3)).block = ad.block from by unfold Addr.add; split <;> rfl] at this
theorem k53_below {w : World} {A : Option Addr} {n : Nat} {l : List S53} (h : Kd.C k53 w A n l) (hn : n ≠ 0) {ad : Addr} (e : A = some ad) : ad.block < w.heap.size := by
  obtain ⟨ad', e', h0, _⟩ := at_T53 h 0 (by omega) (by omega)
  rw [e] at e'; injection e' with e'; subst e'
  have := World.block_lt_of_cell? w _ h0
  rwa [show (ad.add ((0 : Int).toNat * 5)).block = ad.block from by unfold Addr.add; split <;> rfl] at this
set_option maxHeartbeats 4000000 in
set_option maxRecDepth 100000 in
theorem first_calls (A : Option Addr) (c : Nat) (key : ByteArray) (V : Option Addr) (cv : Nat) (rules : List S45) (vs : List S53) (w : World) (hr : Kd.C k45 w A rules.length rules) (hv : Kd.C k53 w V vs.length vs) (hok : ∀ r ∈ rules, RuleOk r) (hs : ∀ v ∈ vs, 0 ≤ v.f1 ∧ v.f1 ≤ 1048576) (hn : rules.length ≤ 1000) (hm : vs.length ≤ 1000) :
    Calls Try.prog 56 #[.slice A rules.length c, .agg #[.string key, .slice V vs.length cv]] w fun e w' => ∃ B, e = .returned (.slice (some ⟨B, 0, none⟩) vs.length vs.length) ∧ w'.heap[B]? = some (ints (firstL rules key vs)) ∧ w.heap.size ≤ B ∧ Below w.heap.size w w' := by
  refine (callsIn_wide (n := 8)).1 ?_
  refine callsIn_of_wp_marks Try.func56 rfl trivial ?_ rfl
  simp only [Try.ntmps56, List.size_toArray, List.length_cons, List.length_nil, Nat.reduceAdd, Nat.reduceSub, Array.replicate_succ, Array.replicate_zero, List.push_toArray, List.append_toArray, List.nil_append, List.cons_append]
  have HR := Lib.hid hr
  have HV := Lib.hid hv
  clear hr hv
  obtain ⟨W2, hW2⟩ : ∃ W2, W2 = (w.alloc (.cells #[.string key, .slice V vs.length cv] 48)).alloc (ints (List.replicate vs.length 0)) := ⟨_, rfl⟩
  have hmk := make_ints vs.length hm (w.alloc (.cells #[.string key, .slice V vs.length cv] 48))
  rw [← hW2] at hmk
  have hB2 : Below w.heap.size w W2 := by rw [hW2]; exact ((Below.refl _ w).alloc (Nat.le_refl _) _).alloc (by simp) _
  have hs2 : W2.heap.size = w.heap.size + 2 := by rw [hW2]; simp
  have hO2 : W2.heap[w.heap.size + 1]? = some (ints (List.replicate vs.length 0)) := by rw [hW2]; have := World.alloc_heap_new (w.alloc (.cells #[.string key, .slice V vs.length cv] 48)) (ints (List.replicate vs.length 0)); rwa [World.size_alloc] at this
  have hE2 : W2.heap[w.heap.size]? = some (.cells #[.string key, .slice V vs.length cv] 48) := by rw [hW2]; exact (Below.heap_alloc _ _ _ (by simp)).trans (World.alloc_heap_new w _)
  clear hW2
  gi_wp2
  gi_loopw [15] (fun i wr => ∃ k : Nat, k ≤ vs.length ∧ i = .int .i64 k ∧ Hid (wr.heap[w.heap.size + 1]? = some (ints (List.replicate k (-1) ++ List.replicate (vs.length - k) 0))) ∧ Hid (wr.heap.size = w.heap.size + 3) ∧ Hid (wr.heap[w.heap.size]? = some (.cells #[.string key, .slice V vs.length cv] 48)) ∧ Hid (wr.heap[w.heap.size + 2]? = some (.cells #[.slice (some ⟨w.heap.size + 1, 0, none⟩) vs.length vs.length] 73)) ∧ Hid (Below w.heap.size w wr))
    (fun i _ => vs.length - (intOf i).toNat)
  case atStart =>
    refine ⟨0, Nat.zero_le _, rfl, Lib.hid ?_, Lib.hid ?_, Lib.hid ?_, Lib.hid ?_, Lib.hid ?_⟩
    · exact (Below.heap_alloc _ _ _ (by omega)).trans hO2
    · simp [hs2]
    · exact (Below.heap_alloc _ _ _ (by omega)).trans hE2
    · have := World.alloc_heap_new W2 (.cells #[.slice (some ⟨w.heap.size + 1, 0, none⟩) vs.length vs.length] 73); rwa [hs2] at this
    · exact hB2.alloc (by omega) _
  case round =>
    obtain ⟨k, hk, rfl, ho, hsz, he, hx, hbl⟩ := hrel
    by_cases hlt : k < vs.length
    · have c1 : wr.cell? ⟨w.heap.size + 2, 0, none⟩ = some (.slice (some ⟨w.heap.size + 1, 0, none⟩) vs.length vs.length) := by simp [World.cell?, hx.out]
      have c2 := ints_cell ho.out k (by simp; omega)
      have hfz := ints_frozen ho.out k
      have hset := Lib.hid (ints_set ho.out k (-1))
      gi_wp2
      case roundEnd =>
        refine ⟨⟨k + 1, by omega, by go_num, Lib.hid ?_, Lib.hid ?_, Lib.hid ?_, Lib.hid ?_, Lib.hid ?_⟩, by simp [intOf]; omega⟩
        · rw [hset.out, rep_step _ _ hlt]
        · simpa [World.setCell] using hsz.out
        · exact (Below.heap_setCell _ _ _ _ (by simp)).trans he.out
        · exact (Below.heap_setCell _ _ _ _ (by simp)).trans hx.out
        · exact hbl.out.setCell (by simp) _
    · obtain rfl : k = vs.length := by omega
      have c1 : wr.cell? ⟨w.heap.size, 0, none⟩ = some (.string key) := by simp [World.cell?, he.out]
      have c2 : wr.cell? ⟨w.heap.size, 1, none⟩ = some (.slice V vs.length cv) := by simp [World.cell?, he.out]
      have ho2 := ho.out
      rw [Nat.sub_self, List.replicate_zero, List.append_nil] at ho2
      have HO := Lib.hid ho2
      clear ho2 ho
      gi_wp2_with (first
            | (refine ⟨trivial, ?_⟩; gi_at_call 63; refine (callsIn_wide.2 (mom_calls A _ c key V _ cv _)).mono ?_; rintro e w1 ⟨rfl, hmom, hbe1⟩
               have HBw := Lib.hid hbe1
               have HMom := Lib.hid hmom
               clear hbe1 hmom))
      refine wp_range_set (fun x t => (((t.setIfInBounds 25 (.int .i64 x.1.1)).setIfInBounds 26 (.int .i64 x.1.2)).setIfInBounds 7 (.int .i64 x.1.1)).setIfInBounds 8 (.int .i64 x.1.2)) (encs2 (P := fun p => 0 ≤ p.1 ∧ 0 ≤ p.2 ∧ p.2 < vs.length)) (fun k => k = w.heap.size + 1)
        (fun xs W3 => (W3.heap[w.heap.size + 1]? = some (ints ((vals xs).foldl upd (List.replicate vs.length (-1))))) ∧ W3.heap[w.heap.size + 2]? = some (.cells #[.slice (some ⟨w.heap.size + 1, 0, none⟩) vs.length vs.length] 73) ∧ Below w.heap.size w W3) (fun _ _ _ => False) ?hg ?eg (S := fun xs => vals xs = momL rules key vs vs.length) (Sp := fun pre => vals pre <+: momL rules key vs vs.length) (gf := 66) (lb := momV wr.heap.size) (w0 := w1) ?hseq
        (Below.refl _ _) (fun _ => rfl) ?hI ?hIx ?h0 ?hassign ?hbody ?hdone ?hstop
      case hg => rfl
      case eg => exact fun args w => by simp [callFunc, go_sem, Try.f66]
      case hseq =>
        have h5 := (Array.getElem?_eq_some_iff.1 HMom.out.e).1
        have h6 := hsz.out
        have hk := Keep.below (G := fun k => k = w.heap.size + 1) (B := 0) (hbl.out.trans (HBw.out.mono (by omega)))
        refine mom_stops (8 - 1) (by omega) _ _ w1 A c key V cv rules vs (fun k hk => by omega) (by omega) HMom.out (keep_C45 hk HR.out ?_) (keep_C53 hk HV.out ?_) ?_ ?_ hok hs hn hm _ (fun i s hi h0 h1 => ⟨h0, by simp, by simp; omega⟩)
        all_goals (intro hne ad e)
        · have := k45_below HR.out hne e; omega
        · have := k53_below HV.out hne e; omega
        · have := k45_below HR.out hne e; omega
        · have := k53_below HV.out hne e; omega
      case hI =>
        have h6 := hsz.out
        have h7 := HBw.out.size
        exact Steady.and (steady_block (fun _ => w.heap.size + 1) _ (fun _ => by omega)) (Steady.and (steady_block (fun _ => w.heap.size + 2) _ (fun _ => by omega)) (steady_below (Nat.le_refl _) (by omega)))
      case hIx => exact fun _ _ _ _ _ h => h.elim
      case h0 =>
        have h6 := hsz.out
        exact ⟨(HBw.out.block _ (by omega)).trans HO.out, (HBw.out.block _ (by omega)).trans hx.out, hbl.out.trans (HBw.out.mono (by omega))⟩
      case hassign =>
        intro x W2 K2 hK2
        simp only [encs2, List.zip_toArray, List.zip_cons_cons, List.zip_nil_right, List.foldl_toArray, List.foldl_cons, List.foldl_nil, List.setIfInBounds_toArray, List.set_cons_succ, List.set_cons_zero] at hK2 ⊢
        gi_wp2
        exact hK2
      case hbody =>
        rintro pre2 ⟨⟨at_, i⟩, hp⟩ W2 ⟨ho2, hx2, hb2⟩ hsz2
        obtain ⟨j, rfl⟩ : ∃ j : Nat, i = j := ⟨i.toNat, by simp at hp; omega⟩
        have hj : j < vs.length := by simp at hp; omega
        simp only [List.setIfInBounds_toArray, List.set_cons_succ, List.set_cons_zero]
        have c1 : W2.cell? ⟨w.heap.size + 2, 0, none⟩ = some (.slice (some ⟨w.heap.size + 1, 0, none⟩) vs.length vs.length) := by simp [World.cell?, hx2]
        obtain ⟨out, hout⟩ : ∃ out, out = (vals pre2).foldl upd (List.replicate vs.length (-1)) := ⟨_, rfl⟩
        rw [← hout] at ho2
        have hlen : out.length = vs.length := by rw [hout, foldl_upd_length, List.length_replicate]
        have c2 := ints_cell ho2 j (by omega)
        obtain ⟨cur, hcur⟩ : ∃ cur, cur = out.getD j 0 := ⟨_, rfl⟩
        rw [← hcur] at c2
        have hfz := ints_frozen ho2 j
        have h6 := hsz.out
        have h7 := HBw.out.size
        have hset := Lib.hid (ints_set ho2 j at_)
        have HOut := Lib.hid hout
        have HCur := Lib.hid hcur
        have hx3 := Lib.hid hx2
        have hb3 := Lib.hid hb2
        clear hout hcur hx2 hb2
        have fin : (cur < 0 ∨ at_ < cur) → bodyP (fun k => k = w.heap.size + 1) w1.heap.size (fun xs W3 => (W3.heap[w.heap.size + 1]? = some (ints ((vals xs).foldl upd (List.replicate vs.length (-1))))) ∧ W3.heap[w.heap.size + 2]? = some (.cells #[.slice (some ⟨w.heap.size + 1, 0, none⟩) vs.length vs.length] 73) ∧ Below w.heap.size w W3) (fun _ _ _ => False) (pre2 ++ [⟨(at_, (j : Int)), hp⟩]) W2 .normal { tmps := #[], defers := [] } (W2.setCell ⟨w.heap.size + 1, j, none⟩ (.int .i64 at_)) := fun hc => by
          refine ⟨Below.heap_setCell _ _ _ _ (by simp; omega), Below.heap_setCell _ _ _ _ (by simp; omega), Keep.setCell _ _ _ _ rfl, ?_, (Below.heap_setCell _ _ _ _ (by simp)).trans hx3.out, hb3.out.setCell (by simp) _⟩
          rw [hset.out, vals_snoc, List.foldl_append, List.foldl_cons, List.foldl_nil, ← HOut.out]
          congr 2
          unfold upd
          simp only [Int.toNat_natCast]
          rw [← HCur.out, if_pos hc]
        by_cases hc0 : cur < 0
        · have HF := Lib.hid (fin (.inl hc0))
          clear fin
          gi_wp2
          exact HF.out
        · by_cases hc1 : at_ < cur
          · have HF := Lib.hid (fin (.inr hc1))
            clear fin
            gi_wp2
            exact HF.out
          · clear fin
            gi_wp2
            refine ⟨rfl, rfl, Keep.refl _ _ _, ?_, hx3.out, hb3.out⟩
            rw [ho2, vals_snoc, List.foldl_append, List.foldl_cons, List.foldl_nil, ← HOut.out]
            congr 2
            unfold upd
            simp only [Int.toNat_natCast]
            rw [← HCur.out, if_neg (by omega)]
      case hdone =>
        rintro xs W2 hxs ⟨ho2, hx2, hb2⟩ hD
        have c1 : W2.cell? ⟨w.heap.size + 2, 0, none⟩ = some (.slice (some ⟨w.heap.size + 1, 0, none⟩) vs.length vs.length) := by simp [World.cell?, hx2]
        rw [hxs] at ho2
        have HO2 := Lib.hid ho2
        have HB2 := Lib.hid hb2
        have hD0 := Lib.hid hD
        clear ho2 hb2 hx2 hxs hD
        gi_wp2
        have h6 := hsz.out
        have h7 := HBw.out.size
        exact leaves_marks (B := w1.heap.size) (fun _ W' => W'.heap[w.heap.size + 1]? = some (ints (firstL rules key vs)) ∧ Below w.heap.size w W') (Steady.and (steady_block (fun _ => w.heap.size + 1) _ (fun _ => by omega)) (steady_below (Nat.le_refl _) (by omega))) (fun W' hj => ⟨_, results_tmp (t := 4) rfl _ _ _, w.heap.size + 1, rfl, hj.1, by omega, hj.2⟩) [w1.heap.size] _ ⟨by simp, fun D hD => by simp at hD; rw [hD]; exact hD0.out⟩ (fun D hD => by simp at hD; omega) ⟨HO2.out, HB2.out⟩
      case hstop => exact fun _ _ _ _ h => h.elim
end Go.Proofs.Ytpogicakpgpkcaa.RRuleTells
