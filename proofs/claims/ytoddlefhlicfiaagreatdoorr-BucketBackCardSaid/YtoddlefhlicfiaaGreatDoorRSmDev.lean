/- Two buckets, two rows of bytes, copies: what the law's own helpers tell. No statement of the seat stands here. -/
import Derived.Test.YtoddlefhlicfiaaGreatDoorRReadBDev
set_option linter.unusedSimpArgs false
set_option linter.unusedVariables false
namespace Go.Proofs.YtoddlefhlicfiaaGreatDoorR.RdrDev
open Go Go.RowKit Go.Proofs.Bb
def largeB (nm : ByteArray) (rs : List RL) : Bool := (rs.any fun r => decide (200 < r.p.size)) || (decide (20 < rs.length) || decide (200 < nm.size))
set_option maxHeartbeats 4000000 in
set_option maxRecDepth 100000 in
theorem large_calls (nm : ByteArray) (A : Option Addr) (c : Nat) (rs : List RL) (w : World) (hr : RulesAt w A rs) (hc : rs.length ≤ c) (hl : rs.length ≤ 9223372036854775807) : Calls Tryz.prog 5 #[.string nm, .slice A rs.length c] w fun e w' => e = .returned (.bool (largeB nm rs)) ∧ Below w.heap.size w w' := by
  have HR := Lib.hid hr
  clear hr
  go_enter Tryz.func5, Tryz.ntmps5
  go_wp2_with fail
  go_loopw [5] (fun v5 wr => ∃ j : Nat, j ≤ rs.length ∧ v5 = .int .i64 (j : Int) ∧ Hid ((rs.any fun r => decide (200 < r.p.size)) = ((rs.drop j).any fun r => decide (200 < r.p.size))) ∧ wr = w) (fun v5 _ => rs.length - (intAt2 v5).toNat)
  case atStart => exact ⟨0, Nat.zero_le _, rfl, Lib.hid rfl, rfl⟩
  case round =>
    obtain ⟨j, hj, rfl, hm, rfl⟩ := hrel
    by_cases hlt : j < rs.length
    · have hin : (j : Int) < (rs.length : Int) := by omega
      have hin0 : (0 : Int) ≤ (j : Int) := by omega
      obtain ⟨ad, p, d, o, rfl, e2, c0, c1, c2⟩ := HR.out.cell j hlt
      have hst := find_step rs j _ e2
      have hm1 := hm.out
      rw [hst, List.any_cons] at hm1
      dsimp only at hm1
      clear e2 hst
      by_cases hp : 200 < p.size
      · have hp' : (p.size : Int) > 200 := by omega
        have HL := Lib.hid (show largeB nm rs = true by unfold largeB; rw [hm1, decide_eq_true hp]; simp)
        clear hm1
        go_wp2_with fail
        go_ret
        exact ⟨by rw [HL.out]; rfl, Below.refl _ _⟩
      · have hp' : ¬ (p.size : Int) > 200 := by omega
        have HM := Lib.hid (show (rs.any fun r => decide (200 < r.p.size)) = ((rs.drop (j + 1)).any fun r => decide (200 < r.p.size)) by rw [hm1, decide_eq_false hp]; rfl)
        clear hm1
        go_wp2_with fail
        case roundEnd => exact ⟨⟨j + 1, by omega, by go_num, HM, by first | rfl | trivial⟩, by simp [intAt2]; omega⟩
    · obtain rfl : j = rs.length := by omega
      have hin : ¬ (rs.length : Int) < (rs.length : Int) := by omega
      have hm1 := hm.out
      rw [List.drop_length] at hm1
      have HG := Lib.hid (show largeB nm rs = (decide (20 < rs.length) || decide (200 < nm.size)) by unfold largeB; rw [hm1]; rfl)
      clear hm1
      by_cases h1 : 20 < rs.length
      · have h1' : (rs.length : Int) > 20 := by omega
        go_wp2_with fail
        all_goals first
          | (go_ret; exact ⟨by rw [HG.out]; simp [h1], Below.refl _ _⟩)
          | (exfalso; omega)
      · have h1' : ¬ (rs.length : Int) > 20 := by omega
        by_cases h2 : 200 < nm.size
        · have h2' : (nm.size : Int) > 200 := by omega
          go_wp2_with fail
          all_goals first
            | (go_ret; exact ⟨by rw [HG.out]; simp [h1, h2], Below.refl _ _⟩)
            | (exfalso; omega)
        · have h2' : ¬ (nm.size : Int) > 200 := by omega
          go_wp2_with fail
          all_goals first
            | (go_ret; exact ⟨by rw [HG.out]; simp [h1, h2], Below.refl _ _⟩)
            | (exfalso; omega)
set_option maxHeartbeats 4000000 in
set_option maxRecDepth 100000 in
theorem copy_calls (v : Value) (bs : List Nat) (w : World) (h : In w v bs) (hl : bs.length ≤ 1000000000) : Calls Tryz.prog 8 #[v] w fun e w' => (∃ v', e = .returned v' ∧ OB w' w.heap.size v' bs) ∧ Below w.heap.size w w' := by
  have H := Lib.hid h
  clear h
  go_enter Tryz.func8, Tryz.ntmps8
  go_wp2_with (refine wp_app rfl (.tmp 3) (.tmp 4) rfl w.heap.size [] bs (OB.empty _ _ _ (heap_alloc_new w _) (Nat.le_refl _)) (H.out.alloc _).weak rfl rfl (by simp; omega) (by simp) ?_; intro v' w' hO' hg')
  go_ret
  exact ⟨⟨v', rfl, hO'⟩, (OB.empty _ _ _ (heap_alloc_new w _) (Nat.le_refl _)).grown ((Below.refl _ w).alloc (Nat.le_refl _) _) hg' (by simp)⟩
theorem list_eq (p p' : ByteArray) : (p.toList == p'.toList) = decide (p = p') := by
  rw [ByteArray.toList_eq, ByteArray.toList_eq, Bool.eq_iff_iff]
  simp only [beq_iff_eq, decide_eq_true_eq]
  constructor
  · intro h
    cases p; cases p'
    congr 1
    exact Array.toList_inj.1 h
  · rintro rfl; rfl
theorem str_eq (a b : List Nat) (ha : ∀ x ∈ a, x < 256) (hb : ∀ x ∈ b, x < 256) : (strOfNums (a.map fun (n : Nat) => (n : Int)) = strOfNums (b.map fun (n : Nat) => (n : Int))) ↔ a = b := by
  constructor
  · intro h
    have h1 := strOf_sn a ha
    have h2 := strOf_sn b hb
    rw [h] at h1
    rw [← h1, h2]
  · rintro rfl; rfl
set_option maxHeartbeats 4000000 in
set_option maxRecDepth 100000 in
theorem sameBytes_calls (v u : Value) (bs cs : List Nat) (w : World) (h : In w v bs) (k : In w u cs) : Calls Tryz.prog 10 #[v, u] w fun e w' => e = .returned (.bool (decide (bs = cs))) ∧ Below w.heap.size w w' := by
  have H := Lib.hid h
  have K := Lib.hid k
  clear h k
  go_enter Tryz.func10, Tryz.ntmps10
  go_wp2_with fail
  rw [H.out.weak.string]
  simp only [Result.andThen]
  rw [Oper.upon_value]
  go_wp2_with fail
  rw [K.out.weak.string]
  simp only [Result.andThen]
  rw [Oper.upon_value]
  obtain ⟨s1, hs1⟩ : ∃ s1, s1 = strOfNums (bs.map fun (n : Nat) => (n : Int)) := ⟨_, rfl⟩
  obtain ⟨s2, hs2⟩ : ∃ s2, s2 = strOfNums (cs.map fun (n : Nat) => (n : Int)) := ⟨_, rfl⟩
  rw [← hs1, ← hs2]
  have HE := Lib.hid (show s1 = s2 ↔ bs = cs by rw [hs1, hs2]; exact str_eq bs cs (by obtain ⟨_, _, _, _, _, _, _, h⟩ := H.out; exact h) (by obtain ⟨_, _, _, _, _, _, _, h⟩ := K.out; exact h))
  clear hs1 hs2
  have hE2 : (s1.toList == s2.toList) = decide (bs = cs) := by
    rw [list_eq]
    exact decide_eq_decide.2 HE.out
  have HE2 := Lib.hid hE2
  clear hE2
  go_wp2_with fail
  go_ret
  exact ⟨by rw [HE2.out]; rfl, Below.refl _ _⟩
def sameR (r q : RL) : Bool := decide (r.p = q.p) && (decide (r.d = q.d) && decide (r.o = q.o))
theorem rule_neq (W : World) (p p' : ByteArray) (d d' o o' : Int) : (binOp .neq 44 (.agg #[.string p, .int .i64 d, .int .i64 o]) (.agg #[.string p', .int .i64 d', .int .i64 o'])).run Tryz.prog W = .ok (.bool (!sameR ⟨p, d, o⟩ ⟨p', d', o'⟩)) W := by
  have e : sameR ⟨p, d, o⟩ ⟨p', d', o'⟩ = ((p.toList == p'.toList) && ((d == d') && (o == o'))) := by
    rw [list_eq]
    rfl
  rw [e]
  have hs : Tryz.prog.underlying 9 = some .string := by kernel_rfl
  have hi : Tryz.prog.underlying 3 = some (.int .i64) := by kernel_rfl
  rw [run_neq_struct, run_equalIn_agg W 9999 44 _ _ (by kernel_rfl) (by kernel_rfl)]
  unfold Program.fieldsOf
  rw [Tryz.underlying44]
  cases h1 : (p.toList == p'.toList) <;> cases h2 : (d == d') <;> cases h3 : (o == o')
  all_goals go_simp
def sameL : List RL → List RL → Bool
  | [], [] => true
  | r :: a, q :: b => sameR r q && sameL a b
  | _, _ => false
def sameB (nm1 : ByteArray) (t1 st1 : Int) (rs1 : List RL) (nm2 : ByteArray) (t2 st2 : Int) (rs2 : List RL) : Bool := decide (nm1 = nm2) && (decide (t1 = t2) && (decide (st1 = st2) && sameL rs1 rs2))
theorem sameL_len : ∀ (a b : List RL), a.length ≠ b.length → sameL a b = false
  | [], [], h => absurd rfl h
  | [], _ :: _, _ => rfl
  | _ :: _, [], _ => rfl
  | r :: a, q :: b, h => by
    rw [sameL, sameL_len a b (by simpa using h), Bool.and_false]
theorem sameR_iff (r q : RL) : sameR r q = true ↔ r = q := by
  obtain ⟨p, d, o⟩ := r
  obtain ⟨p', d', o'⟩ := q
  simp [sameR]
theorem sameL_iff : ∀ (a b : List RL), sameL a b = true ↔ a = b
  | [], [] => by simp [sameL]
  | [], _ :: _ => by simp [sameL]
  | _ :: _, [] => by simp [sameL]
  | r :: a, q :: b => by
    rw [sameL, Bool.and_eq_true, sameR_iff, sameL_iff a b, List.cons.injEq]
theorem sameB_iff (nm1 : ByteArray) (t1 st1 : Int) (rs1 : List RL) (nm2 : ByteArray) (t2 st2 : Int) (rs2 : List RL) : sameB nm1 t1 st1 rs1 nm2 t2 st2 rs2 = true ↔ nm1 = nm2 ∧ t1 = t2 ∧ st1 = st2 ∧ rs1 = rs2 := by
  simp only [sameB, Bool.and_eq_true, decide_eq_true_eq, sameL_iff]
set_option maxHeartbeats 8000000 in
set_option maxRecDepth 100000 in
theorem same_calls (nm1 nm2 : ByteArray) (t1 st1 t2 st2 : Int) (A1 A2 : Option Addr) (c1 c2 : Nat) (rs1 rs2 : List RL) (w : World) (hr1 : RulesAt w A1 rs1) (hr2 : RulesAt w A2 rs2) (hc1 : rs1.length ≤ c1) (hc2 : rs2.length ≤ c2) (hl1 : rs1.length ≤ 1000000) (hl2 : rs2.length ≤ 1000000) :
    Calls Tryz.prog 9 #[.agg #[.string nm1, .int .i64 t1, .int .i64 st1, .slice A1 rs1.length c1], .agg #[.string nm2, .int .i64 t2, .int .i64 st2, .slice A2 rs2.length c2]] w fun e w' => e = .returned (.bool (sameB nm1 t1 st1 rs1 nm2 t2 st2 rs2)) ∧ Below w.heap.size w w' := by
  have HR1 := Lib.hid hr1
  have HR2 := Lib.hid hr2
  clear hr1 hr2
  go_enter Tryz.func9, Tryz.ntmps9
  by_cases hn : nm1 = nm2
  · subst hn
    by_cases ht : t1 = t2
    · subst ht
      by_cases hs : st1 = st2
      · subst hs
        by_cases hlen : rs1.length = rs2.length
        · obtain ⟨n, hn1⟩ : ∃ n, n = rs1.length := ⟨_, rfl⟩
          have N1 := Lib.hid hn1
          have N2 := Lib.hid (hn1.trans hlen)
          have hln : n ≤ 1000000 := by omega
          rw [← hlen, ← hn1]
          have hc1' : n ≤ c1 := by omega
          have hc2' : n ≤ c2 := by omega
          clear hn1 hlen hc1 hc2 hl1 hl2
          have HS := Lib.hid (show sameB nm1 t1 st1 rs1 nm1 t1 st1 rs2 = sameL rs1 rs2 by simp [sameB])
          go_wp2_with fail
          generalize hw2 : ((w.alloc _).alloc _) = W2
          have e0 := heap_alloc2_old w (.cells #[.string nm1, .int .i64 t1, .int .i64 st1, .slice A1 n c1] 24) (.cells #[.string nm1, .int .i64 t1, .int .i64 st1, .slice A2 n c2] 24)
          have e1 := heap_alloc2_new w (.cells #[.string nm1, .int .i64 t1, .int .i64 st1, .slice A1 n c1] 24) (.cells #[.string nm1, .int .i64 t1, .int .i64 st1, .slice A2 n c2] 24)
          rw [hw2] at e0 e1
          have hB : Below w.heap.size w W2 := by rw [← hw2]; exact ((Below.refl _ w).alloc (Nat.le_refl _) _).alloc (by simp) _
          have E0 := Lib.hid e0
          have E1 := Lib.hid e1
          have HB := Lib.hid hB
          clear e0 e1 hB hw2
          go_loopw [5] (fun v5 wr => ∃ j : Nat, j ≤ n ∧ v5 = .int .i64 (j : Int) ∧ Hid (sameL rs1 rs2 = sameL (rs1.drop j) (rs2.drop j)) ∧ Hid (wr.heap = W2.heap) ∧ Hid (Below w.heap.size w wr)) (fun v5 _ => n - (intAt2 v5).toNat)
          case atStart => exact ⟨0, Nat.zero_le _, rfl, Lib.hid rfl, Lib.hid rfl, HB⟩
          case round =>
            obtain ⟨j, hj, rfl, hm, hh, hb⟩ := hrel
            have q0 := (at_cells (W := wr) (g := w.heap.size) (by rw [hh.out]; exact E0.out) 3).1
            have q1 := (at_cells (W := wr) (g := w.heap.size + 1) (by rw [hh.out]; exact E1.out) 3).1
            simp only [List.getElem?_toArray, List.getElem?_cons_zero, List.getElem?_cons_succ] at q0 q1
            by_cases hlt : j < n
            · have hin : (j : Int) < (n : Int) := by omega
              have hin0 : (0 : Int) ≤ (j : Int) := by omega
              obtain ⟨ad1, p1, d1, o1, rfl, x2, x0, x1, x3⟩ := (HR1.out.below hb.out).cell j (by have := N1.out; omega)
              obtain ⟨ad2, p2, d2, o2, rfl, y2, y0, y1, y3⟩ := (HR2.out.below hb.out).cell j (by have := N2.out; omega)
              have f1 := find_step rs1 j _ x2
              have f2 := find_step rs2 j _ y2
              have hm1 := hm.out
              rw [f1, f2, sameL] at hm1
              have hneq := fun W => rule_neq W p1 p2 d1 d2 o1 o2
              have HM := Lib.hid hm1
              clear f1 f2 hm1 x2 y2
              go_wp2_with fail
              go_quiet (fail)
              have hh' : Hid ((wr.drewN nq).heap = W2.heap) := hh
              have hb' : Hid (Below w.heap.size w (wr.drewN nq)) := Lib.hid ⟨hb.out.os, hb.out.tape, hb.out.output, hb.out.size, hb.out.block⟩
              generalize wr.drewN nq = wz at hh' hb'
              clear x0 x1 x3 y0 y1 y3 hneq q0 q1
              cases hsr : sameR ⟨p1, d1, o1⟩ ⟨p2, d2, o2⟩ with
              | false =>
                have HF := Lib.hid (show sameB nm1 t1 st1 rs1 nm1 t1 st1 rs2 = false by rw [HS.out, HM.out, hsr]; rfl)
                clear hsr
                go_wp2_with fail
                go_ret
                exact ⟨by rw [HF.out]; rfl, hb'.out⟩
              | true =>
                have HT := Lib.hid (show sameL rs1 rs2 = sameL (rs1.drop (j + 1)) (rs2.drop (j + 1)) by rw [HM.out, hsr]; rfl)
                clear hsr
                go_wp2_with fail
                case roundEnd => exact ⟨⟨j + 1, by omega, by go_num, HT, hh', hb'⟩, by simp [intAt2]; omega⟩
            · obtain rfl : j = n := by omega
              have hin : ¬ (j : Int) < (j : Int) := by omega
              have hm1 := hm.out
              rw [List.drop_of_length_le (by have := N1.out; omega), List.drop_of_length_le (by have := N2.out; omega)] at hm1
              have HM := Lib.hid (show sameB nm1 t1 st1 rs1 nm1 t1 st1 rs2 = true by rw [HS.out, hm1]; rfl)
              clear hm1
              go_wp2_with fail
              go_ret
              exact ⟨by rw [HM.out]; rfl, hb.out⟩
        · have HS := Lib.hid (show sameB nm1 t1 st1 rs1 nm1 t1 st1 rs2 = false by simp [sameB, sameL_len _ _ hlen])
          have hlen' : ¬ ((rs1.length : Nat) : Int) = ((rs2.length : Nat) : Int) := by omega
          go_wp2_with fail
          all_goals first
            | (go_ret; exact ⟨by rw [HS.out]; rfl, ((Below.refl _ w).alloc (Nat.le_refl _) _).alloc (by simp) _⟩)
      · have HS := Lib.hid (show sameB nm1 t1 st1 rs1 nm1 t1 st2 rs2 = false by simp [sameB, hs])
        go_wp2_with fail
        all_goals first
          | (go_ret; exact ⟨by rw [HS.out]; rfl, ((Below.refl _ w).alloc (Nat.le_refl _) _).alloc (by simp) _⟩)
    · have HS := Lib.hid (show sameB nm1 t1 st1 rs1 nm1 t2 st2 rs2 = false by simp [sameB, ht])
      go_wp2_with fail
      all_goals first
        | (go_ret; exact ⟨by rw [HS.out]; rfl, ((Below.refl _ w).alloc (Nat.le_refl _) _).alloc (by simp) _⟩)
  · have HS := Lib.hid (show sameB nm1 t1 st1 rs1 nm2 t2 st2 rs2 = false by simp [sameB, hn])
    have hn' : ¬ nm1.toList = nm2.toList := by
      intro e
      have := list_eq nm1 nm2
      rw [e, beq_self_eq_true] at this
      exact hn (of_decide_eq_true this.symm)
    go_wp2_with fail
    all_goals first
      | (go_ret; exact ⟨by rw [HS.out]; rfl, ((Below.refl _ w).alloc (Nat.le_refl _) _).alloc (by simp) _⟩)
end Go.Proofs.YtoddlefhlicfiaaGreatDoorR.RdrDev
