/- The writers of numbers and texts: what they do. No statement of the seat stands here. -/
import Derived.Test.YtoddlefhlicfiaaGreatDoorRMemDev
import Derived.Test.YtoddlefhlicfiaaGreatDoorRBbMath
set_option linter.unusedSimpArgs false
set_option linter.unusedVariables false
namespace Go.Proofs.YtoddlefhlicfiaaGreatDoorR.RdrDev
open Go Go.RowKit Go.Proofs.Bb
def intAt : Value → Int
  | .int _ n => n
  | _ => 0
theorem or128 (m : Nat) : bits .or .u8 ((m : Int) % 256) 128 = ((m % 128 + 128 : Nat) : Int) := by
  have e : (m : Int) % 256 = ((m % 256 : Nat) : Int) := by omega
  rw [e]
  have hl := (bits_nat .u8 8 (by decide) (fun n h0 h1 => by rw [IntKind.wrap_u8]; omega) (m % 256) 128 (by omega) (by decide)).2
  have e2 : (128 : Int) = ((128 : Nat) : Int) := rfl
  rw [e2, hl]
  congr 1
  have h1 : m % 256 = m % 128 ∨ m % 256 = 128 + m % 128 := by omega
  have h2 : 128 ||| m % 128 = 128 + m % 128 := by
    have := Nat.two_pow_add_eq_or_of_lt (i := 7) (b := m % 128) (by omega) 1
    simpa using this.symm
  rcases h1 with h1 | h1
  · rw [h1, Nat.or_comm, h2]; omega
  · rw [h1, ← h2, Nat.or_comm, ← Nat.or_assoc, Nat.or_self, h2]; omega
theorem encU_big (m : Nat) (h : ¬ m < 128) : encU m = (m % 128 + 128) :: encU (m / 128) := by
  rw [encU, if_neg h]
theorem encU_small (m : Nat) (h : m < 128) : encU m = [m] := by
  rw [encU, if_pos h]
theorem encU_lt : ∀ (k m : Nat), m < 128 ^ k → ∀ x ∈ encU m, x < 256
  | 0, m, h => by
    rw [encU_small m (by simp at h; omega)]
    intro x hx
    simp at h
    rw [List.mem_singleton.1 hx]; omega
  | k + 1, m, h => by
    by_cases hm : m < 128
    · rw [encU_small m hm]
      intro x hx
      rw [List.mem_singleton.1 hx]; omega
    · rw [encU_big m hm]
      intro x hx
      rcases List.mem_cons.1 hx with rfl | hx
      · omega
      · exact encU_lt k (m / 128) (by rw [Nat.pow_succ] at h; omega) x hx
theorem encU_len : ∀ (k m : Nat), m < 128 ^ (k + 1) → (encU m).length ≤ k + 1
  | 0, m, h => by rw [encU_small m (by simpa using h)]; simp
  | k + 1, m, h => by
    by_cases hm : m < 128
    · rw [encU_small m hm]; simp
    · rw [encU_big m hm, List.length_cons]
      have := encU_len k (m / 128) (by rw [Nat.pow_succ] at h; omega)
      omega
set_option maxHeartbeats 4000000 in
set_option maxRecDepth 100000 in
theorem putU_calls (B : Nat) (v : Value) (bs : List Nat) (n : Nat) (w : World) (hO : OB w B v bs) (hn : n ≤ 1099511627776) (hl : bs.length ≤ 1000000000) (hB : B ≤ w.heap.size) :
    Calls Tryz.prog 59 #[v, .int .i64 (n : Int)] w fun e w' => (∃ v', e = .returned v' ∧ OB w' B v' (bs ++ encU n)) ∧ Below B w w' := by
  have HO := Lib.hid hO
  clear hO
  go_enter Tryz.func59, Tryz.ntmps59
  go_wp2_with fail
  go_loopw [0, 1] (fun v0 v1 wr => ∃ (m : Nat) (pre : List Nat), m ≤ 1099511627776 ∧ v1 = .int .i64 (m : Int) ∧ Hid (pre ++ encU m = encU n) ∧ Hid (OB wr B v0 (bs ++ pre)) ∧ Hid (Below B w wr)) (fun _ v1 _ => (intAt v1).toNat)
  case atStart => exact ⟨n, [], hn, rfl, Lib.hid rfl, Lib.hid (by simpa using HO.out), Lib.hid (Below.refl _ _)⟩
  case round =>
    obtain ⟨m, pre, hm, rfl, hp, ho, hb⟩ := hrel
    have hlen : pre.length + (encU m).length ≤ 7 := by
      have := encU_len 6 n (by omega)
      rw [← hp.out, List.length_append] at this
      exact this
    have HLN := Lib.hid hlen
    clear hlen
    by_cases h : m < 128
    · have h' : ¬ (m : Int) > 127 := by omega
      have hw : (m : Int) % 256 = (m : Int) := by omega
      have HE := Lib.hid (encU_small m h)
      go_wp2_with (refine wp_app rfl (.tmp 15) (.tmp 18) rfl B (bs ++ pre) [m] (ho.out.alloc _) (In.one _ m (by omega)).weak rfl rfl (by have := HLN.out; simp; omega) (by have := hb.out.size; simp; omega) ?_; intro v' w' hO' hg')
      go_ret
      refine ⟨⟨v', rfl, ?_⟩, (ho.out.alloc _).grown (hb.out.alloc (hb.out.size' hB) _) hg' (by simp; have := hb.out.size; omega)⟩
      have e := hp.out
      rw [HE.out] at e
      rw [← e, ← List.append_assoc]
      exact hO'
    · have h' : (m : Int) > 127 := by omega
      have hor := or128 m
      obtain ⟨y, hy⟩ : ∃ y : Nat, y = m % 128 + 128 := ⟨_, rfl⟩
      rw [← hy] at hor
      have hy256 : y < 256 := by omega
      have HY := Lib.hid hy
      clear hy
      go_wp2_with (refine wp_app rfl (.tmp 9) (.tmp 13) rfl B (bs ++ pre) [y] (ho.out.alloc _) (In.one _ y (by omega)).weak rfl rfl (by have := HLN.out; simp; omega) (by have := hb.out.size; simp; omega) ?_; intro v' w' hO' hg')
      go_roundw
      case measure => simp [intAt]; omega
      case rel =>
        refine ⟨m / 128, pre ++ [y], by omega, by simp, Lib.hid ?_, Lib.hid (by rw [← List.append_assoc]; exact hO'), Lib.hid ((ho.out.alloc _).grown (hb.out.alloc (hb.out.size' hB) _) hg' (by simp; have := hb.out.size; omega))⟩
        rw [← hp.out, encU_big m h, List.append_assoc, HY.out]
        rfl
set_option maxHeartbeats 4000000 in
set_option maxRecDepth 100000 in
theorem putT_calls (B : Nat) (v : Value) (bs : List Nat) (s : ByteArray) (w : World) (hO : OB w B v bs) (hn : s.size ≤ 65536) (hl : bs.length ≤ 100000000) (hB : B ≤ w.heap.size) :
    Calls Tryz.prog 58 #[v, .string s] w fun e w' => (∃ v', e = .returned v' ∧ OB w' B v' (bs ++ encT (sn s))) ∧ Below B w w' := by
  have HO := Lib.hid hO
  clear hO
  go_enter Tryz.func58, Tryz.ntmps58
  go_wp2_with fail
  refine (putU_calls B v bs s.size _ HO.out (by omega) (by omega) hB).mono ?_
  rintro e w1 ⟨⟨v1, rfl, ho1⟩, hb1⟩
  have HO1 := Lib.hid ho1
  have HB1 := Lib.hid hb1
  have hl7 := encU_len 6 s.size (by omega)
  clear ho1 hb1
  go_wp2_with (refine wp_app_str rfl (.tmp 8) (.tmp 9) rfl B (bs ++ encU s.size) HO1.out rfl rfl (by rw [List.length_append]; omega) (HB1.out.size' hB) ?_; intro v' w' hO' hg')
  go_ret
  refine ⟨⟨v', rfl, ?_⟩, HO1.out.grown HB1.out hg' (HB1.out.size' hB)⟩
  rw [encT, sn_len, ← List.append_assoc]
  exact hO'
set_option maxHeartbeats 4000000 in
set_option maxRecDepth 100000 in
theorem uint_calls (n : Nat) (hn : n ≤ 1099511627776) (w : World) :
    Calls Tryz.prog 28 #[.int .i64 (n : Int)] w fun e w' => (∃ v', e = .returned (.tuple #[v', .int .i64 0]) ∧ OB w' w.heap.size v' (encU n)) ∧ Below w.heap.size w w' := by
  have h1 : ¬ (n : Int) < 0 := by omega
  have h2 : ¬ (n : Int) > 1099511627776 := by omega
  go_enter Tryz.func28, Tryz.ntmps28
  go_wp2_with fail
  refine (putU_calls w.heap.size _ [] n _ (OB.nil _ _) hn (by simp) (Nat.le_refl _)).mono ?_
  rintro e w1 ⟨⟨v1, rfl, ho1⟩, hb1⟩
  have HO1 := Lib.hid ho1
  have HB1 := Lib.hid hb1
  clear ho1 hb1
  go_wp2_with fail
  go_ret2
  exact ⟨⟨v1, rfl, HO1.out⟩, HB1.out⟩
set_option maxHeartbeats 4000000 in
set_option maxRecDepth 100000 in
theorem text_calls (s : ByteArray) (hn : s.size ≤ 65536) (w : World) :
    Calls Tryz.prog 27 #[.string s] w fun e w' => (∃ v', e = .returned (.tuple #[v', .int .i64 0]) ∧ OB w' w.heap.size v' (encT (sn s))) ∧ Below w.heap.size w w' := by
  have h1 : ¬ (s.size : Int) > 65536 := by omega
  go_enter Tryz.func27, Tryz.ntmps27
  go_wp2_with fail
  refine (putT_calls w.heap.size _ [] s _ (OB.nil _ _) hn (by simp) (Nat.le_refl _)).mono ?_
  rintro e w1 ⟨⟨v1, rfl, ho1⟩, hb1⟩
  have HO1 := Lib.hid ho1
  have HB1 := Lib.hid hb1
  clear ho1 hb1
  go_wp2_with fail
  go_ret2
  exact ⟨⟨v1, rfl, HO1.out⟩, HB1.out⟩
end Go.Proofs.YtoddlefhlicfiaaGreatDoorR.RdrDev
