/- Which rules may be: limits.odd, slices.ContainsFunc at it. No statement of the seat stands here. -/
import Derived.Test.YtoddlefhlicfiaaGreatDoorRBukDev
set_option linter.unusedSimpArgs false
set_option linter.unusedVariables false
namespace Go.Proofs.YtoddlefhlicfiaaGreatDoorR.RdrDev
open Go Go.RowKit
/-- a rule -/
structure RL where
  p : ByteArray
  d : Int
  o : Int
def RL.cells (r : RL) : Array Value := #[.string r.p, .int .i64 r.d, .int .i64 r.o]
def plainN (l : List Nat) : Bool := l.all fun c => decide (32 ≤ c) && decide (c ≤ 126)
def goodR (r : RL) : Bool := plainN (sn r.p) && (decide (r.p.size ≤ 120) && (decide (0 ≤ r.d) && (decide (r.d ≤ 10000) && (decide (0 ≤ r.o) && (decide (r.o ≤ 10000) && !(decide (r.d = 0) && decide (r.o = 0)))))))
theorem wsuc (j : Nat) (h : j ≤ 1000000000000) : (((j : Int) + 1 + 9223372036854775808) % 18446744073709551616 - 9223372036854775808) = ((j + 1 : Nat) : Int) := by omega
theorem w64suc (j : Nat) (h : j ≤ 1000000000000) : wrap64 ((j : Int) + 1) = ((j + 1 : Nat) : Int) := by rw [IntWalk.wrap64_in _ ⟨by omega, by omega⟩]; omega
theorem str_at (s : ByteArray) (j : Nat) (h : j < s.size) : (s[j]'h).toNat = (sn s).getD j 0 := by rw [sn_get s j h]; rfl
set_option maxHeartbeats 4000000 in
set_option maxRecDepth 100000 in
theorem odd_calls (r : RL) (hl : r.p.size ≤ 1000000000) (w : World) : Calls Tryz.prog 26 #[.agg #[.int .i64 10000], .agg r.cells] w fun e w' => e = .returned (.bool (!goodR r)) ∧ Below w.heap.size w w' := by
  obtain ⟨p, d, o⟩ := r
  unfold RL.cells
  dsimp only at hl ⊢
  go_enter Tryz.func26, Tryz.ntmps26
  go_wp2_with fail
  generalize hw2 : ((w.alloc (.cells #[.int .i64 10000] 73)).alloc (.cells #[.string p, .int .i64 d, .int .i64 o] 44)) = w2
  have hB2 : Below w.heap.size w w2 := by rw [← hw2]; exact ((Below.refl _ w).alloc (Nat.le_refl _) _).alloc (by simp) _
  have e1 : w2.heap[w.heap.size + 1]? = some (.cells #[.string p, .int .i64 d, .int .i64 o] 44) := by
    rw [← hw2]
    have := heap_alloc_new (w.alloc (.cells #[.int .i64 10000] 73)) (.cells #[.string p, .int .i64 d, .int .i64 o] 44)
    simpa using this
  have e0 : w2.heap[w.heap.size]? = some (.cells #[.int .i64 10000] 73) := by
    rw [← hw2, heap_alloc_old (h := by simp)]
    exact heap_alloc_new w _
  have c0 : w2.cell? ⟨w.heap.size, 0, none⟩ = some (.int .i64 10000) := by simp [World.cell?, e0]
  have c1 : w2.cell? ⟨w.heap.size + 1, 0, none⟩ = some (.string p) := by simp [World.cell?, e1]
  have c2 : w2.cell? ⟨w.heap.size + 1, 1, none⟩ = some (.int .i64 d) := by simp [World.cell?, e1]
  have c3 : w2.cell? ⟨w.heap.size + 1, 2, none⟩ = some (.int .i64 o) := by simp [World.cell?, e1]
  have HB2 := Lib.hid hB2
  clear hB2 e0 e1 hw2
  go_loopw [9] (fun v9 wr => ∃ j : Nat, j ≤ p.size ∧ v9 = .int .i64 (j : Int) ∧ Hid (plainN (sn p) = plainN ((sn p).drop j)) ∧ wr = w2) (fun v9 _ => p.size - (intAt2 v9).toNat)
  case atStart => exact ⟨0, Nat.zero_le _, rfl, Lib.hid rfl, rfl⟩
  case round =>
    obtain ⟨j, hj, rfl, hm, rfl⟩ := hrel
    by_cases hlt : j < p.size
    · have hin : (j : Int) < (p.size : Int) := by omega
      have hin0 : (0 : Int) ≤ (j : Int) := by omega
      have hc := str_at p j hlt
      have hd := sn_at p j hlt
      have hm1 := hm.out
      rw [hd, ← hc] at hm1
      clear hc hd
      by_cases h1 : 32 ≤ (p[j]'hlt).toNat
      · by_cases h2 : (p[j]'hlt).toNat ≤ 126
        · have h1' : ¬ (((p[j]'hlt).toNat : Nat) : Int) < 32 := by omega
          have h2' : ¬ (((p[j]'hlt).toNat : Nat) : Int) > 126 := by omega
          have HM := Lib.hid (show plainN (sn p) = plainN ((sn p).drop (j + 1)) by rw [hm1]; simp [plainN, h1, h2])
          clear hm1
          go_wp2_with fail
          case roundEnd => exact ⟨⟨j + 1, by omega, by go_num, HM, by first | rfl | trivial⟩, by simp [intAt2]; omega⟩
        · have h1' : ¬ (((p[j]'hlt).toNat : Nat) : Int) < 32 := by omega
          have h2' : (((p[j]'hlt).toNat : Nat) : Int) > 126 := by omega
          have HM := Lib.hid (show goodR ⟨p, d, o⟩ = false by unfold goodR; dsimp only; rw [hm1]; simp [plainN, h2])
          clear hm1
          go_wp2_with fail
          all_goals first
            | (go_ret; exact ⟨by rw [HM.out]; rfl, HB2.out⟩)
            | (exfalso; omega)
      · have h1' : (((p[j]'hlt).toNat : Nat) : Int) < 32 := by omega
        have HM := Lib.hid (show goodR ⟨p, d, o⟩ = false by unfold goodR; dsimp only; rw [hm1]; simp [plainN, h1])
        clear hm1
        go_wp2_with fail
        all_goals first
          | (go_ret; exact ⟨by rw [HM.out]; rfl, HB2.out⟩)
          | (exfalso; omega)
    · obtain rfl : j = p.size := by omega
      have hin : ¬ (p.size : Int) < (p.size : Int) := by omega
      have hm1 := hm.out
      rw [List.drop_of_length_le (by rw [sn_len]; omega)] at hm1
      have HG := Lib.hid (show goodR ⟨p, d, o⟩ = (decide (p.size ≤ 120) && (decide (0 ≤ d) && (decide (d ≤ 10000) && (decide (0 ≤ o) && (decide (o ≤ 10000) && !(decide (d = 0) && decide (o = 0)))))))  by unfold goodR; dsimp only; rw [hm1]; rfl)
      clear hm1
      by_cases g1 : p.size ≤ 120
      · have g1' : ¬ (p.size : Int) > 120 := by omega
        by_cases g2 : 0 ≤ d
        · by_cases g3 : d ≤ 10000
          · by_cases g4 : 0 ≤ o
            · by_cases g5 : o ≤ 10000
              · by_cases g6 : d = 0
                · by_cases g7 : o = 0
                  · subst g6 g7
                    go_wp2_with fail
                    all_goals first
                      | (go_ret; exact ⟨by rw [HG.out]; simp [g1], HB2.out⟩)
                      | (exfalso; omega)
                  · subst g6
                    go_wp2_with fail
                    all_goals first
                      | (go_ret; exact ⟨by rw [HG.out]; simp [g1, g4, g5, g7], HB2.out⟩)
                      | (exfalso; omega)
                · go_wp2_with fail
                  all_goals first
                    | (go_ret; exact ⟨by rw [HG.out]; simp [g1, g2, g3, g4, g5, g6], HB2.out⟩)
                    | (exfalso; omega)
              · go_wp2_with fail
                all_goals first
                  | (go_ret; exact ⟨by rw [HG.out]; simp [g5], HB2.out⟩)
                  | (exfalso; omega)
            · go_wp2_with fail
              all_goals first
                | (go_ret; exact ⟨by rw [HG.out]; simp [g4], HB2.out⟩)
                | (exfalso; omega)
          · go_wp2_with fail
            all_goals first
              | (go_ret; exact ⟨by rw [HG.out]; simp [g3], HB2.out⟩)
              | (exfalso; omega)
        · go_wp2_with fail
          all_goals first
            | (go_ret; exact ⟨by rw [HG.out]; simp [g2], HB2.out⟩)
            | (exfalso; omega)
      · have g1' : (p.size : Int) > 120 := by omega
        go_wp2_with fail
        all_goals first
          | (go_ret; exact ⟨by rw [HG.out]; simp [g1], HB2.out⟩)
          | (exfalso; omega)
end Go.Proofs.YtoddlefhlicfiaaGreatDoorR.RdrDev
