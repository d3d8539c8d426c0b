/- bucket.Check: what it does. No statement of the seat stands here. -/
import Derived.Test.YtoddlefhlicfiaaGreatDoorROddDev
set_option linter.unusedSimpArgs false
set_option linter.unusedVariables false
namespace Go.Proofs.YtoddlefhlicfiaaGreatDoorR.RdrDev
open Go Go.RowKit
/-- rules in a row -/
def RulesAt (W : World) (A : Option Addr) (rs : List RL) : Prop := ∀ j, j < rs.length → ∃ ad r, A = some ad ∧ rs[j]? = some r ∧ W.cell? (ad.add (j * 3)) = some (.string r.p) ∧ W.cell? ⟨(ad.add (j * 3)).block, (ad.add (j * 3)).off + 1, none⟩ = some (.int .i64 r.d) ∧ W.cell? ⟨(ad.add (j * 3)).block, (ad.add (j * 3)).off + 2, none⟩ = some (.int .i64 r.o)
theorem RulesAt.cell {W : World} {A : Option Addr} {rs : List RL} (h : RulesAt W A rs) (j : Nat) (hj : j < rs.length) : ∃ ad p d o, A = some ad ∧ rs[j]? = some ⟨p, d, o⟩ ∧ W.cell? (ad.add (j * 3)) = some (.string p) ∧ W.cell? ⟨(ad.add (j * 3)).block, (ad.add (j * 3)).off + 1, none⟩ = some (.int .i64 d) ∧ W.cell? ⟨(ad.add (j * 3)).block, (ad.add (j * 3)).off + 2, none⟩ = some (.int .i64 o) := by
  obtain ⟨ad, ⟨p, d, o⟩, h1, h2, h3, h4, h5⟩ := h j hj
  exact ⟨ad, p, d, o, h1, h2, h3, h4, h5⟩
theorem RulesAt.below {W W' : World} {A : Option Addr} {rs : List RL} (h : RulesAt W A rs) (hb : Below W.heap.size W W') : RulesAt W' A rs := by
  intro j hj
  obtain ⟨ad, r, h1, h2, h3, h4, h5⟩ := h j hj
  exact ⟨ad, r, h1, h2, by rw [hb.cell (World.block_lt_of_cell? W _ h3)]; exact h3, by rw [hb.cell (World.block_lt_of_cell? W _ h4)]; exact h4, by rw [hb.cell (World.block_lt_of_cell? W _ h5)]; exact h5⟩
theorem two_below {a b c : World} (h : Below a.heap.size a b) (k : Below b.heap.size b c) : Below a.heap.size a c := h.trans (k.mono h.size)
def FV : Value := .func (.func 26) #[.agg #[.int .i64 10000]] #[]
theorem find_step (rs : List RL) (j : Nat) (r : RL) (h : rs[j]? = some r) : rs.drop j = r :: rs.drop (j + 1) := by
  obtain ⟨hj, e⟩ := List.getElem?_eq_some_iff.1 h
  rw [List.drop_eq_getElem_cons hj, e]
set_option maxHeartbeats 4000000 in
set_option maxRecDepth 100000 in
theorem idx_calls (A : Option Addr) (c : Nat) (rs : List RL) (w : World) (hr : RulesAt w A rs) (hc : rs.length ≤ c) (hl : rs.length ≤ 1000000) (hp : ∀ r ∈ rs, r.p.size ≤ 1000000000) : Calls Tryz.prog 57 #[.slice A rs.length c, FV] w fun e w' => (∃ i : Int, e = .returned (.int .i64 i) ∧ (decide (0 ≤ i) = rs.any fun r => !goodR r)) ∧ Below w.heap.size w w' := by
  have HR := Lib.hid hr
  have HP := Lib.hid hp
  clear hr hp
  unfold FV
  go_enter Tryz.func57, Tryz.ntmps57
  go_wp2_with fail
  go_loopw [8] (fun v8 wr => ∃ j : Nat, j ≤ rs.length ∧ v8 = .int .i64 (j : Int) ∧ Hid ((rs.any fun r => !goodR r) = ((rs.drop j).any fun r => !goodR r)) ∧ Hid (Below w.heap.size w wr)) (fun v8 _ => rs.length - (intAt2 v8).toNat)
  case atStart => exact ⟨0, Nat.zero_le _, rfl, Lib.hid rfl, Lib.hid (Below.refl _ _)⟩
  case round =>
    obtain ⟨j, hj, rfl, hm, hb⟩ := hrel
    by_cases hlt : j < rs.length
    · have hin : (j : Int) < (rs.length : Int) := by omega
      have hin0 : (0 : Int) ≤ (j : Int) := by omega
      obtain ⟨ad, p, d, o, rfl, e2, c0, c1, c2⟩ := (HR.out.below hb.out).cell j hlt
      have hmem := List.mem_of_getElem? e2
      have hps := HP.out _ hmem
      have hst := find_step rs j _ e2
      have hm1 := hm.out
      rw [hst, List.any_cons] at hm1
      have HM := Lib.hid hm1
      clear e2 hmem hst hm1
      go_wp2_with fail
      refine (odd_calls ⟨p, d, o⟩ hps _).mono ?_
      rintro e w1 ⟨rfl, hb1⟩
      have HB1 := Lib.hid (two_below hb.out hb1)
      clear hb1 c0 c1 c2
      cases hg : goodR ⟨p, d, o⟩ with
      | false =>
        have hm2 := HM.out
        rw [hg] at hm2
        have HM2 := Lib.hid hm2
        clear hm2
        go_wp2_with fail
        go_ret
        refine ⟨⟨_, rfl, ?_⟩, HB1.out⟩
        rw [HM2.out]
        simp
      | true =>
        have hm2 := HM.out
        rw [hg] at hm2
        have HM2 := Lib.hid (show (rs.any fun r => !goodR r) = ((rs.drop (j + 1)).any fun r => !goodR r) by rw [hm2]; rfl)
        clear hm2
        go_wp2_with fail
        case roundEnd => exact ⟨⟨j + 1, by omega, by go_num, HM2, HB1⟩, by simp [intAt2]; omega⟩
    · obtain rfl : j = rs.length := by omega
      have hin : ¬ (rs.length : Int) < (rs.length : Int) := by omega
      have hm1 := hm.out
      rw [List.drop_length] at hm1
      have HM := Lib.hid hm1
      clear hm1
      go_wp2_with fail
      go_ret
      exact ⟨⟨-1, rfl, by rw [HM.out]; rfl⟩, hb.out⟩
set_option maxHeartbeats 4000000 in
set_option maxRecDepth 100000 in
theorem cf_calls (A : Option Addr) (c : Nat) (rs : List RL) (w : World) (hr : RulesAt w A rs) (hc : rs.length ≤ c) (hl : rs.length ≤ 1000000) (hp : ∀ r ∈ rs, r.p.size ≤ 1000000000) : Calls Tryz.prog 25 #[.slice A rs.length c, FV] w fun e w' => e = .returned (.bool (rs.any fun r => !goodR r)) ∧ Below w.heap.size w w' := by
  have HR := Lib.hid hr
  have HP := Lib.hid hp
  clear hr hp
  go_enter Tryz.func25, Tryz.ntmps25
  go_wp2_with fail
  refine (idx_calls A c rs _ HR.out hc hl HP.out).mono ?_
  rintro e w1 ⟨⟨i, rfl, hi⟩, hb1⟩
  have HI := Lib.hid hi
  clear hi
  go_wp2_with fail
  go_ret
  exact ⟨by rw [← HI.out]; rfl, hb1⟩
def goodB (nm : ByteArray) (t st : Int) (rs : List RL) : Bool := bucketN (sn nm) && (decide (0 ≤ t) && (decide (t ≤ 1048576) && (decide (0 ≤ st) && (decide (st ≤ 2) && (decide (rs.length ≤ 8) && !(rs.any fun r => !goodR r))))))
def chkE (nm : ByteArray) (t st : Int) (rs : List RL) : Int := if goodB nm t st rs = true then 0 else 2
set_option maxHeartbeats 4000000 in
set_option maxRecDepth 100000 in
theorem chk_calls (nm : ByteArray) (t st : Int) (A : Option Addr) (c : Nat) (rs : List RL) (hn : nm.size ≤ 1000000000) (w : World) (hr : RulesAt w A rs) (hc : rs.length ≤ c) (hl : rs.length ≤ 1000000) (hp : ∀ r ∈ rs, r.p.size ≤ 1000000000) : Calls Tryz.prog 14 #[.agg #[.string nm, .int .i64 t, .int .i64 st, .slice A rs.length c]] w fun e w' => e = .returned (.int .i64 (chkE nm t st rs)) ∧ Below w.heap.size w w' := by
  have HR := Lib.hid hr
  have HP := Lib.hid hp
  clear hr hp
  have key : ∀ w1, Below w.heap.size w w1 → w1.heap[w.heap.size]? = some (.cells #[.string nm, .int .i64 t, .int .i64 st, .slice A rs.length c] 24) → w1.cell? ⟨w.heap.size, 0, none⟩ = some (.string nm) ∧ w1.cell? ⟨w.heap.size, 1, none⟩ = some (.int .i64 t) ∧ w1.cell? ⟨w.heap.size, 2, none⟩ = some (.int .i64 st) ∧ w1.cell? ⟨w.heap.size, 3, none⟩ = some (.slice A rs.length c) := by
    intro w1 _ h
    exact ⟨by simp [World.cell?, h], by simp [World.cell?, h], by simp [World.cell?, h], by simp [World.cell?, h]⟩
  have HK := Lib.hid key
  clear key
  have fin : (goodB nm t st rs = true → ∀ w', Below w.heap.size w w' → (Ending.returned (.int .i64 0) = Ending.returned (.int .i64 (chkE nm t st rs)) ∧ Below w.heap.size w w')) ∧ (goodB nm t st rs = false → ∀ w', Below w.heap.size w w' → (Ending.returned (.int .i64 2) = Ending.returned (.int .i64 (chkE nm t st rs)) ∧ Below w.heap.size w w')) := ⟨fun hb w' h => ⟨by rw [chkE, hb]; rfl, h⟩, fun hb w' h => ⟨by rw [chkE, hb]; rfl, h⟩⟩
  have FIN := Lib.hid fin
  clear fin
  go_enter Tryz.func14, Tryz.ntmps14
  go_wp2_with fail
  refine (bucket_calls nm hn _).mono ?_
  rintro e w1 ⟨rfl, hb1⟩
  have HB1 := Lib.hid (((Below.refl _ w).alloc (Nat.le_refl _) _).trans (hb1.mono (by simp)))
  obtain ⟨c0, c1, c2, c3⟩ := HK.out w1 HB1.out (by rw [hb1.block _ (by simp)]; exact heap_alloc_new w _)
  clear hb1 HK
  by_cases hbk : bucketN (sn nm) = true
  · rw [hbk]
    by_cases h1 : 0 ≤ t
    · by_cases h2 : t ≤ 1048576
      · by_cases h3 : 0 ≤ st
        · by_cases h4 : st ≤ 2
          · by_cases h5 : rs.length ≤ 8
            · have HG := Lib.hid (show goodB nm t st rs = !(rs.any fun r => !goodR r) by simp [goodB, hbk, h1, h2, h3, h4, h5])
              have h5' : ¬ (rs.length : Int) > 8 := by omega
              clear hbk h5
              go_wp2_with fail
              refine (cf_calls A c rs _ (HR.out.below HB1.out) hc hl HP.out).mono ?_
              rintro e w2 ⟨rfl, hb2⟩
              have HB2 := Lib.hid (two_below HB1.out hb2)
              clear hb2 c0 c1 c2 c3
              cases hany : (rs.any fun r => !goodR r)
              · have HA := Lib.hid hany
                clear hany
                go_wp2_with fail
                go_ret
                exact FIN.out.1 (by rw [HG.out, HA.out]; rfl) _ HB2.out
              · have HA := Lib.hid hany
                clear hany
                go_wp2_with fail
                go_ret
                exact FIN.out.2 (by rw [HG.out, HA.out]; rfl) _ HB2.out
            · have HG := Lib.hid (show goodB nm t st rs = false by simp [goodB, h5])
              have h5' : (rs.length : Int) > 8 := by omega
              clear h5 hbk
              go_wp2_with fail
              all_goals first
                | (go_ret; exact FIN.out.2 HG.out _ HB1.out)
                | (exfalso; omega)
          · have HG := Lib.hid (show goodB nm t st rs = false by simp [goodB, h4])
            clear hbk
            go_wp2_with fail
            all_goals first
              | (go_ret; exact FIN.out.2 HG.out _ HB1.out)
              | (exfalso; omega)
        · have HG := Lib.hid (show goodB nm t st rs = false by simp [goodB, h3])
          clear hbk
          go_wp2_with fail
          all_goals first
            | (go_ret; exact FIN.out.2 HG.out _ HB1.out)
            | (exfalso; omega)
      · have HG := Lib.hid (show goodB nm t st rs = false by simp [goodB, h2])
        clear hbk
        go_wp2_with fail
        all_goals first
          | (go_ret; exact FIN.out.2 HG.out _ HB1.out)
          | (exfalso; omega)
    · have HG := Lib.hid (show goodB nm t st rs = false by simp [goodB, h1])
      clear hbk
      go_wp2_with fail
      all_goals first
        | (go_ret; exact FIN.out.2 HG.out _ HB1.out)
        | (exfalso; omega)
  · have hbk : bucketN (sn nm) = false := by simpa using hbk
    have HG := Lib.hid (show goodB nm t st rs = false by simp [goodB, hbk])
    rw [hbk]
    clear hbk
    go_wp2_with fail
    all_goals first
      | (go_ret; exact FIN.out.2 HG.out _ HB1.out)
      | (exfalso; omega)
end Go.Proofs.YtoddlefhlicfiaaGreatDoorR.RdrDev
