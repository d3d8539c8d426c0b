/- A number's sixteen digits, as the document tells them. No statement of the seat stands here. -/
import Derived.Test.YtclljmbgkpfgkaaGreatDoorQx14
import Derived.Test.YtclljmbgkpfgkaaGreatDoorRefDev
set_option linter.unusedSimpArgs false
set_option linter.unusedVariables false
namespace Go.Proofs.YtclljmbgkpfgkaaGreatDoor.RefId
open Go Go.RowKit Go.Proofs.YtclljmbgkpfgkaaGreatDoor.X Go.Proofs.YtclljmbgkpfgkaaGreatDoor.Nm Go.Proofs.YtclljmbgkpfgkaaGreatDoor.RefDev Go.Proofs.YtclljmbgkpfgkaaGreatDoor.PShelfNames Go.Proofs.YtclljmbgkpfgkaaGreatDoorW.PrintWords
def byteAt (n i : Nat) : Nat := n / 2 ^ (56 - 8 * i) % 256
theorem shr_at (n i : Nat) (hi : i < 8) : wrap64 (56 - wrap64 (8 * (i : Int))) = ((56 - 8 * i : Nat) : Int) ∧ shr .u64 (n : Int) ((56 - 8 * i : Nat) : Int) % 256 = ((byteAt n i : Nat) : Int) := by
  have h1 : wrap64 (8 * (i : Int)) = 8 * (i : Int) := IntWalk.wrap64_in _ ⟨by omega, by omega⟩
  refine ⟨by rw [h1, IntWalk.wrap64_in _ ⟨by omega, by omega⟩]; omega, ?_⟩
  unfold shr byteAt
  rw [Int.toNat_natCast, Nat.min_eq_left (by show 56 - 8 * i ≤ 64; omega)]
  rw [show ((2 : Int) ^ (56 - 8 * i)) = ((2 ^ (56 - 8 * i) : Nat) : Int) by simp]
  rfl
theorem eight_ev (n : Nat) : ∀ (m i : Nat) (acc : List Int), i + m = 8 → acc.length ≤ i → Ev (fun k => stowageref04_Eight.l0 k (n : Int) acc (i : Int)) (acc ++ (List.range' i m).map fun q => ((byteAt n q : Nat) : Int))
  | 0, i, acc, hi, hl => by
    refine Ev.step (fun k => by rw [stowageref04_Eight.l0]) ?_
    simp only [show ¬ (i : Int) < 8 by omega, if_false, List.range'_zero, List.map_nil, List.append_nil]
    exact Ev.now _
  | m + 1, i, acc, hi, hl => by
    have ih := eight_ev n m (i + 1) (acc ++ [((byteAt n i : Nat) : Int)]) (by omega) (by simp; omega)
    obtain ⟨e1, e2⟩ := shr_at n i (by omega)
    refine Ev.step (fun k => by rw [stowageref04_Eight.l0]) ?_
    rw [e1, e2, show wrap64 ((i : Int) + 1) = ((i + 1 : Nat) : Int) by rw [IntWalk.wrap64_in _ ⟨by omega, by omega⟩]; omega]
    simp only [show (i : Int) < 8 by omega, show (0 : Int) ≤ ((56 - 8 * i : Nat) : Int) by omega, show acc.length < 140737488355328 by omega, if_true]
    rw [List.range'_succ, List.map_cons]
    rw [List.append_assoc] at ih
    exact ih
theorem eight_is (n : Nat) : (List.range' 0 8).map (fun q => ((byteAt n q : Nat) : Int)) = (eightL n).map (fun x : Nat => (x : Int)) := by simp [List.range', byteAt, eightL]
theorem eight_tot (n : Nat) : ∃ k, stowageref04_Eight.f k (n : Int) = some ((eightL n).map (fun x : Nat => (x : Int))) := by
  have h := eight_ev n 8 0 [] rfl (Nat.le_refl _)
  rw [List.nil_append, eight_is] at h
  exact Ev.rounds (g := fun k => stowageref04_Eight.f k (n : Int)) h
theorem eight_len (n : Nat) : (eightL n).length = 8 := rfl
theorem eight_lt (n : Nat) (j : Nat) : (eightL n).getD j 0 < 256 := by
  unfold eightL
  match j with
  | 0 | 1 | 2 | 3 | 4 | 5 | 6 | 7 => exact Nat.mod_lt _ (by decide)
  | j + 8 => simp
set_option maxHeartbeats 1000000 in
set_option maxRecDepth 100000 in
theorem refId_of (n k : Nat) (bs : List Nat) (hlen : bs.length = 8) (hlt : ∀ j, bs.getD j 0 < 256) (Wd : List UInt8) (hW : Wd = hexL bs) (hk : stowageref04_Eight.f k (n : Int) = some (bs.map (fun x : Nat => (x : Int)))) (w : World) : Calls Tryz.prog 14 #[.int .u64 (n : Int)] w fun e w' => (∃ s : ByteArray, bytesL s = Wd ∧ e = .returned (.string s)) ∧ Below w.heap.size w w' := by
  have HK := Lib.hid hk
  have HW := Lib.hid hW
  have HLT := Lib.hid hlt
  have HLEN := Lib.hid hlen
  clear hk hW hlt hlen
  go_enter Tryz.func14, Tryz.ntmps14
  go_wp2_with fail
  refine (stowageref04_Eight.calls k (n : Int) _ _ HK.out).mono ?_
  rintro e w1 ⟨v, rfl, hR, hb1⟩
  obtain ⟨A, c, rfl, hc, hC⟩ := Kd.R_reads hR
  have hl : (bs.map (fun x : Nat => (x : Int))).length = bs.length := List.length_map _
  rw [hl] at hc hC ⊢
  have HC := Lib.hid hC
  have HCC := Lib.hid hc
  have HB := Lib.hid hb1
  clear hR hC hb1 hc hl
  go_wp2_with fail
  refine (digits_calls bs HLT.out (by have := HLEN.out; omega) A c HCC.out _ (fun j hj => by
    obtain ⟨ad, ea, hx⟩ := Kd.at_int HC.out (j : Int) (by omega) (by omega)
    refine ⟨ad, ea, ?_⟩
    rw [Int.toNat_natCast] at hx
    rw [hx]
    unfold Go.Proofs.YtclljmbgkpfgkaaGreatDoorW.PrintWords.rd
    rw [Int.toNat_natCast]
    simp [List.getD, hj])).mono ?_
  rintro e w2 ⟨⟨s, hs, rfl⟩, hb2⟩
  have HS := Lib.hid hs
  have HB2 := Lib.hid (two_below HB.out hb2)
  clear hs hb2
  go_wp2_with fail
  go_ret
  exact ⟨⟨s, by rw [HS.out, ← HW.out], rfl⟩, HB2.out⟩
theorem refId_calls (n : Nat) (hn : n < 18446744073709551616) (w : World) : Calls Tryz.prog 14 #[.int .u64 (n : Int)] w fun e w' => (∃ s : ByteArray, bytesL s = wide 16 n ∧ e = .returned (.string s)) ∧ Below w.heap.size w w' := by
  obtain ⟨k, hk⟩ := eight_tot n
  exact refId_of n k (eightL n) (eight_len n) (eight_lt n) _ (wide_eight n hn) hk w
end Go.Proofs.YtclljmbgkpfgkaaGreatDoor.RefId
