/- Which texts may be names, as the document tells it: the printed answers are the plain ones. -/
import Derived.Test.YtclljmbgkpfgkaaGreatDoorQx3
import Derived.Test.YtclljmbgkpfgkaaGreatDoorRefDev
set_option linter.unusedSimpArgs false
set_option linter.unusedVariables false
namespace Go.Proofs.YtclljmbgkpfgkaaGreatDoor.RefBuc
open Go Go.RowKit Go.Proofs.YtclljmbgkpfgkaaGreatDoor.X Go.Proofs.YtclljmbgkpfgkaaGreatDoor.Nm Go.Proofs.YtclljmbgkpfgkaaGreatDoor.RefDev Go.Proofs.YtclljmbgkpfgkaaGreatDoor.PShelfNames Go.Proofs.YtclljmbgkpfgkaaGreatDoorW.PrintWords
def natsL (b : ByteArray) : List Nat := (bytesL b).map (·.toNat)
theorem natsL_len (b : ByteArray) : (natsL b).length = b.size := by simp [natsL]; rfl
theorem bt_nat (b : ByteArray) (j : Nat) : bt b (j : Int) = (((natsL b).getD j 0 : Nat) : Int) := by
  unfold bt
  by_cases h : j < b.size
  · rw [dif_pos (by simpa using h)]
    have h' : j < (bytesL b).length := h
    have := byte_at b j h
    simp only [Int.toNat_natCast]
    rw [this]
    simp [natsL, List.getD, h']
  · rw [dif_neg (by simpa using h), List.getD_eq_getElem?_getD, List.getElem?_eq_none (by rw [natsL_len]; omega)]
    rfl
def keyL (l : List Nat) : Bool := l.all fun c => decide (32 ≤ c) && decide (c ≤ 126)
def bucketB (b : ByteArray) : Bool := decide (3 ≤ b.size) && decide (b.size ≤ 32) && mB true false (natsL b)
def keyB (b : ByteArray) : Bool := keyL (natsL b) && (decide (1 ≤ b.size) && decide (b.size ≤ 120))
theorem wsucc (j : Nat) (h : j < 9223372036854775807) : wrap64 ((j : Int) + 1) = ((j + 1 : Nat) : Int) := by
  rw [IntWalk.wrap64_in _ ⟨by omega, by omega⟩]; omega
theorem wpred (j : Nat) (h : j < 9223372036854775807) : wrap64 (((j + 1 : Nat) : Int) - 1) = (j : Int) := by
  rw [IntWalk.wrap64_in _ ⟨by omega, by omega⟩]; omega
theorem small_f (n : Nat) : stowageref16_small.f (n : Int) = some (smallN n) := by
  unfold stowageref16_small.f smallN
  by_cases h1 : 97 ≤ n
  · by_cases h2 : n ≤ 122
    · simp only [show (n : Int) ≥ 97 by omega, show (n : Int) ≤ 122 by omega, if_true, h1, h2, decide_true, Bool.and_self, Bool.true_or]
    · simp only [show (n : Int) ≥ 97 by omega, show ¬ (n : Int) ≤ 122 by omega, show (n : Int) ≥ 48 by omega, show ¬ (n : Int) ≤ 57 by omega, if_true, if_false, h1, h2, show 48 ≤ n by omega, show ¬ n ≤ 57 by omega, decide_true, decide_false, Bool.and_false, Bool.or_false]
  · by_cases h3 : 48 ≤ n
    · by_cases h4 : n ≤ 57
      · simp only [show ¬ (n : Int) ≥ 97 by omega, show (n : Int) ≥ 48 by omega, show (n : Int) ≤ 57 by omega, if_true, if_false, h1, h3, h4, decide_true, decide_false, Bool.false_and, Bool.and_self, Bool.false_or]
      · simp only [show ¬ (n : Int) ≥ 97 by omega, show (n : Int) ≥ 48 by omega, show ¬ (n : Int) ≤ 57 by omega, if_true, if_false, h1, h3, h4, decide_true, decide_false, Bool.false_and, Bool.and_false, Bool.false_or]
    · simp only [show ¬ (n : Int) ≥ 97 by omega, show ¬ (n : Int) ≥ 48 by omega, if_false, h1, h3, decide_false, Bool.false_and, Bool.false_or]
theorem key_ev (b : ByteArray) (hb : b.size ≤ 1000) : ∀ (m j : Nat), j + m = b.size → Ev (fun k => stowageref16_Key.l0 k b (j : Int)) (keyL ((natsL b).drop j) && (decide (1 ≤ b.size) && decide (b.size ≤ 120)))
  | 0, j, hj => by
    refine Ev.step (fun k => by rw [stowageref16_Key.l0]) ?_
    rw [List.drop_of_length_le (by rw [natsL_len]; omega)]
    simp only [show ¬ (j : Int) < (b.size : Int) by omega, if_false]
    by_cases h1 : 1 ≤ b.size
    · simp only [show (b.size : Int) ≥ 1 by omega, if_true, h1, keyL, List.all_nil, decide_true, Bool.true_and, show decide ((b.size : Int) ≤ 120) = decide (b.size ≤ 120) from decide_eq_decide.2 (by omega)]
      exact Ev.now _
    · simp only [show ¬ (b.size : Int) ≥ 1 by omega, if_false, h1, keyL, List.all_nil, decide_false, Bool.true_and, Bool.false_and]
      exact Ev.now _
  | m + 1, j, hj => by
    have ih := key_ev b hb m (j + 1) (by omega)
    have hl : j < (natsL b).length := by rw [natsL_len]; omega
    have hd : (natsL b).drop j = (natsL b).getD j 0 :: (natsL b).drop (j + 1) := by
      rw [List.drop_eq_getElem_cons hl, List.getD_eq_getElem?_getD, List.getElem?_eq_getElem hl]; rfl
    refine Ev.step (fun k => by rw [stowageref16_Key.l0]) ?_
    rw [bt_nat, hd, wsucc j (by omega)]
    generalize (natsL b).getD j 0 = c
    simp only [show (j : Int) < (b.size : Int) by omega, show (0 : Int) ≤ (j : Int) by omega, if_true]
    by_cases h1 : 32 ≤ c
    · by_cases h2 : c ≤ 126
      · simp only [show ¬ (c : Int) < 32 by omega, show ¬ (c : Int) > 126 by omega, if_false]
        have e : keyL (c :: (natsL b).drop (j + 1)) = keyL ((natsL b).drop (j + 1)) := by simp [keyL, h1, h2]
        rw [e]
        exact ih
      · simp only [show ¬ (c : Int) < 32 by omega, show (c : Int) > 126 by omega, if_false, if_true]
        have e : keyL (c :: (natsL b).drop (j + 1)) = false := by simp [keyL, h2]
        rw [e]
        exact Ev.now _
    · simp only [show (c : Int) < 32 by omega, if_true]
      have e : keyL (c :: (natsL b).drop (j + 1)) = false := by simp [keyL, h1]
      rw [e]
      exact Ev.now _
theorem key_tot (b : ByteArray) (hb : b.size ≤ 1000) : ∃ k, stowageref16_Key.f k b = some (keyB b) := by
  have h := key_ev b hb b.size 0 (Nat.zero_add _)
  exact Ev.rounds (g := fun k => stowageref16_Key.f k b) h
theorem rB_ev (b : ByteArray) (hb : b.size ≤ 1000) : ∀ (m j : Nat), j + 1 + m = b.size → Ev (fun k => stowageref16_Bucket.l0 k b ((j + 1 : Nat) : Int)) (rB ((natsL b).getD j 0) ((natsL b).drop (j + 1)))
  | 0, j, hj => by
    refine Ev.step (fun k => by rw [stowageref16_Bucket.l0]) ?_
    rw [List.drop_of_length_le (by rw [natsL_len]; omega)]
    simp only [show ¬ ((j + 1 : Nat) : Int) < (b.size : Int) by omega, if_false]
    exact Ev.now _
  | m + 1, j, hj => by
    have ih := rB_ev b hb m (j + 1) (by omega)
    have hl : j + 1 < (natsL b).length := by rw [natsL_len]; omega
    have hd : (natsL b).drop (j + 1) = (natsL b).getD (j + 1) 0 :: (natsL b).drop (j + 1 + 1) := by
      rw [List.drop_eq_getElem_cons hl, List.getD_eq_getElem?_getD, List.getElem?_eq_getElem hl]; rfl
    have key : ∀ c p : Nat, (natsL b).getD (j + 1) 0 = c → (natsL b).getD j 0 = p → okN c = true →
        Ev (fun k => stowageref16_Bucket.j2 k b ((j + 1 : Nat) : Int) false) (pairN p c && rB c ((natsL b).drop (j + 1 + 1))) := by
      intro c p hc hp hok
      rw [hc] at ih
      refine Ev.step (fun k => by rw [stowageref16_Bucket.j2]) ?_
      rw [bt_nat, wpred j (by omega), bt_nat, hc, hp, wsucc (j + 1) (by omega), small_f, small_f]
      simp only [Bool.false_eq_true, if_false, show ((j + 1 : Nat) : Int) > 0 by omega, show (0 : Int) ≤ ((j + 1 : Nat) : Int) by omega, show ((j + 1 : Nat) : Int) < (b.size : Int) by omega, show (0 : Int) ≤ (j : Int) by omega, show (j : Int) < (b.size : Int) by omega, if_true, Option.bind_some]
      by_cases h1 : c = 46
      · subst h1
        by_cases h2 : smallN p = true
        · have h3 : p ≠ 46 := by rintro rfl; rw [small46] at h2; cases h2
          simp only [show (((46 : Nat) : Int) = 46) by rfl, if_true, h2, show ¬ ((p : Int) = 46) by omega, if_false]
          have e : pairN p 46 = true := by simp [pairN, h2, h3]
          rw [e, Bool.true_and]
          exact ih
        · have h2' : smallN p = false := by simpa using h2
          simp only [show (((46 : Nat) : Int) = 46) by rfl, if_true, h2', Bool.false_eq_true, if_false]
          have e : pairN p 46 = false := by simp [pairN, h2']
          rw [e, Bool.false_and]
          exact Ev.now _
      · simp only [show ¬ ((c : Int) = 46) by omega, if_false]
        by_cases h3 : p = 46
        · subst h3
          simp only [show (((46 : Nat) : Int) = 46) by rfl, if_true]
          cases hs : smallN c with
          | true =>
            simp only [if_true]
            have e : pairN 46 c = true := by simp [pairN, h1, hs]
            rw [e, Bool.true_and]
            exact ih
          | false =>
            simp only [Bool.false_eq_true, if_false]
            have e : pairN 46 c = false := by simp [pairN, h1, hs]
            rw [e, Bool.false_and]
            exact Ev.now _
        · simp only [show ¬ ((p : Int) = 46) by omega, if_false]
          have e : pairN p c = true := by simp [pairN, h1, h3]
          rw [e, Bool.true_and]
          exact ih
    refine Ev.step (fun k => by rw [stowageref16_Bucket.l0]) ?_
    rw [bt_nat, hd]
    have hk := key _ _ rfl rfl
    generalize (natsL b).getD (j + 1) 0 = c at *
    generalize (natsL b).getD j 0 = p at *
    rw [small_f]
    simp only [show ((j + 1 : Nat) : Int) < (b.size : Int) by omega, show (0 : Int) ≤ ((j + 1 : Nat) : Int) by omega, if_true, Option.bind_some]
    rw [rB]
    cases hs : smallN c with
    | true =>
      have hok : okN c = true := by simp [okN, hs]
      simp only [if_true, hok, Bool.true_and]
      exact hk hok
    | false =>
      by_cases h45 : c = 45
      · have hok : okN c = true := by simp [okN, h45]
        simp only [Bool.false_eq_true, if_false, show ((c : Int) = 45) by omega, if_true, hok, Bool.true_and]
        exact hk hok
      · by_cases h46 : c = 46
        · have hok : okN c = true := by simp [okN, h46]
          have e : ((c : Int) != 46) = false := by simp; omega
          simp only [Bool.false_eq_true, if_false, show ¬ ((c : Int) = 45) by omega, hok, Bool.true_and, e]
          exact hk hok
        · have hok : okN c = false := by simp [okN, hs, h45, h46]
          have e : ((c : Int) != 46) = true := by simp; omega
          simp only [Bool.false_eq_true, if_false, show ¬ ((c : Int) = 45) by omega, hok, Bool.false_and, e]
          refine Ev.step (fun k => by rw [stowageref16_Bucket.j2]) ?_
          simp only [if_true]
          exact Ev.now _
theorem lastN_at : ∀ (l : List Nat) (c : Nat), lastN c l = (c :: l).getD l.length 0
  | [], c => rfl
  | d :: l, c => by rw [lastN, lastN_at l d]; rfl
theorem bucket_tot (b : ByteArray) (hb : b.size ≤ 1000) : ∃ k, stowageref16_Bucket.f k b = some (bucketB b) := by
  refine Ev.rounds (g := fun k => stowageref16_Bucket.f k b) ?_
  unfold stowageref16_Bucket.f
  by_cases h3 : b.size < 3
  · simp only [show (b.size : Int) < 3 by omega, if_true]
    have e : bucketB b = false := by simp [bucketB]; omega
    rw [e]
    refine Ev.step (fun k => by rw [stowageref16_Bucket.j0]) ?_
    simp only [if_true]
    exact Ev.now _
  · by_cases h32 : b.size > 32
    · simp only [show ¬ (b.size : Int) < 3 by omega, show (b.size : Int) > 32 by omega, if_true, if_false]
      have e : bucketB b = false := by simp [bucketB]; omega
      rw [e]
      refine Ev.step (fun k => by rw [stowageref16_Bucket.j0]) ?_
      simp only [if_true]
      exact Ev.now _
    · have hl : 0 < (natsL b).length := by rw [natsL_len]; omega
      have hd : natsL b = (natsL b).getD 0 0 :: (natsL b).drop 1 := by
        have := List.drop_eq_getElem_cons hl
        rw [List.drop_zero] at this
        rw [List.getD_eq_getElem?_getD, List.getElem?_eq_getElem hl]
        exact this
      have hB : bucketB b = mB true false (natsL b) := by
        unfold bucketB
        rw [decide_eq_true (by omega), decide_eq_true (by omega)]; rfl
      have hlast : (natsL b).getD (b.size - 1) 0 = lastN ((natsL b).getD 0 0) ((natsL b).drop 1) := by
        rw [lastN_at, ← hd]
        congr 1
        rw [List.length_drop, natsL_len]
      have hrb := rB_ev b hb (b.size - 1) 0 (by omega)
      have hw : wrap64 ((b.size : Int) - 1) = ((b.size - 1 : Nat) : Int) := by
        rw [IntWalk.wrap64_in _ ⟨by omega, by omega⟩]; omega
      have hb0 := bt_nat b 0
      rw [hB, hd, bucket_eq]
      rw [show bt b 0 = (((natsL b).getD 0 0 : Nat) : Int) from hb0, hw, bt_nat, hlast, small_f, small_f]
      have hrb : Ev (fun k => stowageref16_Bucket.l0 k b 1) (rB ((natsL b).getD 0 0) ((natsL b).drop 1)) := hrb
      have hb1 : bt b 0 = (((natsL b).getD 0 0 : Nat) : Int) := hb0
      generalize (natsL b).getD 0 0 = c at *
      generalize (natsL b).drop 1 = l at *
      generalize lastN c l = z at *
      simp only [show ¬ (b.size : Int) < 3 by omega, show ¬ (b.size : Int) > 32 by omega, show (0 : Int) < (b.size : Int) by omega, show (0 : Int) ≤ ((b.size - 1 : Nat) : Int) by omega, show ((b.size - 1 : Nat) : Int) < (b.size : Int) by omega, if_true, if_false, Option.bind_some]
      cases hs : smallN c with
      | false =>
        simp only [Bool.false_eq_true, if_false, Bool.false_and]
        refine Ev.step (fun k => by rw [stowageref16_Bucket.j0]) ?_
        simp only [if_true]
        exact Ev.now _
      | true =>
        simp only [if_true, Bool.true_and]
        cases hz : smallN z with
        | false =>
          simp only [Bool.not_false, Bool.false_and]
          refine Ev.step (fun k => by rw [stowageref16_Bucket.j0]) ?_
          simp only [if_true]
          exact Ev.now _
        | true =>
          simp only [Bool.not_true, Bool.true_and]
          have hok : okN c = true := by simp [okN, hs]
          rw [hok, Bool.true_and]
          refine Ev.step (fun k => by rw [stowageref16_Bucket.j0]) ?_
          simp only [Bool.false_eq_true, if_false]
          refine Ev.step (fun k => by rw [stowageref16_Bucket.l0]) ?_
          rw [hb1, small_f, hs]
          simp only [show (0 : Int) < (b.size : Int) by omega, show (0 : Int) ≤ 0 by omega, if_true, Option.bind_some]
          refine Ev.step (fun k => by rw [stowageref16_Bucket.j2]) ?_
          simp only [Bool.false_eq_true, if_false, show ¬ ((0 : Int) > 0) by omega, show wrap64 (0 + 1) = 1 from wsucc 0 (by omega)]
          exact hrb
end Go.Proofs.YtclljmbgkpfgkaaGreatDoor.RefBuc
