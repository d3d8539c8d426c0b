/- kit.OverTexts: what it does to a list of one's own: that list's row alone is written. No statement of the seat stands here. -/
import Derived.Test.YtpogicakpgpkcaaT0RuleTells
namespace Go.Proofs.Ytpogicakpgpkcaa.RRuleTells
open Go.RowKit Go.Shelf Go.Proofs.Ytpogicakpgpkcaa.It Go.Proofs.Ytpogicakpgpkcaa.PRuleTells Go.Proofs.YtpogicakpgpkcaaW.PrintWords Go.Proofs.YtpogicakpgpkcaaW.PrintLast Go.Proofs.YtpogicakpgpkcaaW.PrintMore
theorem strs_of : ∀ l : List Value, (∀ u ∈ l, ∃ s, u = .string s ∧ s.size ≤ 1000) → ∃ L : List ByteArray, l = L.map Value.string ∧ ∀ s ∈ L, s.size ≤ 1000
  | [], _ => ⟨[], rfl, fun _ h => by cases h⟩
  | u :: l, h => by
    obtain ⟨s, rfl, hs⟩ := h u List.mem_cons_self
    obtain ⟨L, e, hL⟩ := strs_of l (fun v hv => h v (List.mem_cons_of_mem _ hv))
    exact ⟨s :: L, by rw [e]; rfl, fun t ht => by rcases List.mem_cons.1 ht with h | h; rw [h]; exact hs; exact hL t h⟩
def SBlk (W : World) (g : Nat) (L : List ByteArray) : Prop := W.heap[g]? = some (.cells (L.map Value.string).toArray 9 (0, 0))
theorem SBlk.cell {W : World} {g : Nat} {L : List ByteArray} (h : SBlk W g L) (k : Nat) (hk : k < L.length) : W.cell? ⟨g, k, none⟩ = some (.string (L.getD k ByteArray.empty)) ∧ W.frozen? ⟨g, k, none⟩ = false := by
  unfold SBlk at h
  refine ⟨?_, by simp [World.frozen?, h]⟩
  simp only [World.cell?, h]
  simp [List.getD, hk]
theorem SBlk.set {W : World} {g : Nat} {L : List ByteArray} (h : SBlk W g L) (k : Nat) (s : ByteArray) : SBlk (W.setCell ⟨g, k, none⟩ (.string s)) g (L.set k s) := by
  have h1 := blk_set h k (.string s)
  unfold SBlk
  rw [h1]
  simp [List.map_set]
theorem grown_set {w W : World} {g : Nat} (h : w.grownBy W (some g)) (k : Nat) (u : Value) : w.grownBy (W.setCell ⟨g, k, none⟩ u) (some g) :=
  ⟨h.os, h.tape, h.output, by simpa using h.size, fun i hi hne => (Below.heap_setCell W ⟨g, k, none⟩ u i (fun e => hne (by simp [e]))).trans (h.block i hi hne)⟩
set_option maxHeartbeats 1000000 in
set_option maxRecDepth 100000 in
theorem over_some (g n cap : Nat) (L : List ByteArray) (w : World) (hb : SBlk w g L) (hL : L.length = cap) (hsm : ∀ i, (L.getD i ByteArray.empty).size ≤ 1000) (hc : cap ≤ 9223372036854775807) :
    Calls Try.prog 47 #[.slice (some ⟨g, 0, none⟩) n cap] w fun e w' => (∃ v, e = .returned v) ∧ w.grownBy w' (some g) := by
  have HB := Lib.hid hb
  have h0 : (0 : Int) ≤ (cap : Int) := by omega
  have HSM := Lib.hid hsm
  clear hb hsm
  go_enter Try.func47, Try.ntmps47
  go_wp2_with fail
  go_loopw [3] (fun i wr => ∃ (k : Nat) (L' : List ByteArray), k ≤ cap ∧ i = .int .i64 k ∧ Hid (L'.length = cap) ∧ Hid (∀ i, k ≤ i → (L'.getD i ByteArray.empty).size ≤ 1000) ∧ Hid (SBlk wr g L') ∧ Hid (w.grownBy wr (some g))) (fun i _ => cap - (intOf i).toNat)
  case atStart => exact ⟨0, L, Nat.zero_le _, rfl, Lib.hid hL, Lib.hid (fun i _ => HSM.out i), HB, Lib.hid ⟨rfl, rfl, rfl, Nat.le_refl _, fun _ _ _ => rfl⟩⟩
  case round =>
    obtain ⟨k, L', hk, rfl, hl', hsm, hbk, hg⟩ := hrel
    by_cases hlt : k < cap
    · obtain ⟨hc1, hf1⟩ := hbk.out.cell k (by rw [hl'.out]; exact hlt)
      have hol := hsm.out k (Nat.le_refl _)
      generalize L'.getD k ByteArray.empty = old at hc1 hol
      go_wp2_with fail
      case roundEnd => exact ⟨⟨k + 1, L'.set k _, by omega, by go_num, Lib.hid (by rw [List.length_set]; exact hl'.out), Lib.hid (fun i hi => by rw [List.getD_eq_getElem?_getD, List.getElem?_set_ne (by omega), ← List.getD_eq_getElem?_getD]; exact hsm.out i (by omega)), Lib.hid (hbk.out.set k _), Lib.hid (grown_set hg.out k _)⟩, by simp [intOf]; omega⟩
    · obtain rfl : k = cap := by omega
      go_wp2
      go_end0
      exact ⟨⟨_, rfl⟩, hg.out⟩
set_option maxHeartbeats 1000000 in
set_option maxRecDepth 100000 in
theorem over_nil (w : World) : Calls Try.prog 47 #[.slice none 0 0] w fun e w' => (∃ v, e = .returned v) ∧ w = w' := by
  go_enter Try.func47, Try.ntmps47
  go_wp2_with fail
  go_loop [3] (fun i => i = .int .i64 0) (fun _ => 0)
  case atStart => exact rfl
  case round =>
    obtain rfl := hrel
    go_wp2
    go_end0
    exact ⟨⟨_, rfl⟩, rfl⟩
theorem over_calls (base : Nat) (v : Value) (xs : List ByteArray) (w : World) (hR : Kd.R Kd.string 9 w base (fun _ => True) v xs) (hF : FullS w v) :
    Calls Try.prog 47 #[v] w fun e w' => (∃ u, e = .returned u) ∧ w.grownBy w' v.ownBlock := by
  obtain ⟨_, inner, hown, _⟩ := hR
  rcases hown.2 with ⟨rfl, hn⟩ | ⟨g, cap, cur, rfl, hbg, hg, hnc, hcm, hcs, htake⟩
  · exact (over_nil w).mono (by rintro e w' ⟨h, rfl⟩; exact ⟨h, rfl, rfl, rfl, Nat.le_refl _, fun _ _ _ => rfl⟩)
  · obtain ⟨L, hL, hLs⟩ := strs_of cur.toList (hF g cur _ rfl hg)
    have hcur : cur = (L.map Value.string).toArray := by rw [← hL]
    have hlen : L.length = cap := by
      have h1 : cur.size = cap * 1 := hcs
      rw [hcur] at h1
      simpa using h1
    exact over_some g _ cap L w (by unfold SBlk; rw [← hcur]; exact hg) hlen (fun i => by
      rw [List.getD_eq_getElem?_getD]
      cases e : L[i]? with
      | none => decide
      | some s => exact hLs s (List.mem_of_getElem? e)) (by simp only [maxLen] at hcm; omega)
end Go.Proofs.Ytpogicakpgpkcaa.RRuleTells
