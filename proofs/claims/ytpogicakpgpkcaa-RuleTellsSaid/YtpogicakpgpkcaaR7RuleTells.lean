/- The document's examples (law22.awake), as a contract. -/
import Derived.Test.YtpogicakpgpkcaaR6RuleTells
namespace Go.Proofs.Ytpogicakpgpkcaa.RRuleTells
open Go.RowKit Go.Shelf Go.Proofs.Ytpogicakpgpkcaa.It Go.Proofs.Ytpogicakpgpkcaa.PRuleTells Go.Proofs.YtpogicakpgpkcaaW.PrintWords Go.Proofs.YtpogicakpgpkcaaW.PrintLast Go.Proofs.YtpogicakpgpkcaaW.PrintMore

def rules1 : List S45 := [(⟨(⟨#[97]⟩ : ByteArray), 2, 1⟩ : S45)]
def key1 : ByteArray := ⟨#[97]⟩
def vs1 : List S53 := [(⟨(⟨#[118, 50]⟩ : ByteArray), 50, false, 0, (⟨#[]⟩ : ByteArray)⟩ : S53), (⟨(⟨#[118, 49]⟩ : ByteArray), 10, false, 0, (⟨#[]⟩ : ByteArray)⟩ : S53)]
theorem good1 : Good rules1 vs1 := by
  refine ⟨fun r h => ?_, fun v h => ?_, by decide, by decide⟩
  · simp only [rules1, List.mem_cons, List.not_mem_nil, or_false] at h
    subst h; unfold RuleOk; decide
  · simp only [vs1, List.mem_cons, List.not_mem_nil, or_false] at h
    rcases h with rfl | rfl <;> decide
theorem asked1_97 : rule_asked.f 12 rules1 key1 vs1 97 = some 0 := by kernel_rfl
theorem asked1_98 : rule_asked.f 12 rules1 key1 vs1 98 = some 0 := by kernel_rfl
theorem asked1_74 : rule_asked.f 12 rules1 key1 vs1 74 = some 0 := by kernel_rfl
theorem newest1_97 : newestF rules1 key1 vs1 97 = false := by kernel_rfl
theorem newest1_98 : newestF rules1 key1 vs1 98 = true := by kernel_rfl
theorem old1_74 : oldF rules1 key1 vs1 74 = [(⟨#[118, 49]⟩ : ByteArray)] := by kernel_rfl
theorem same1 : stowagekit_SameTexts.f 4 [(⟨#[118, 49]⟩ : ByteArray)] [(⟨#[118, 49]⟩ : ByteArray)] = some true := by kernel_rfl
theorem one_calls (w : World) : Calls Try.prog 50 #[] w fun e w' => ∃ A c, e = .returned (.slice A rules1.length c) ∧ rules1.length ≤ c ∧ Kd.C k45 w' A rules1.length rules1 ∧ Below w.heap.size w w' := by
  refine (stowagelaw22_one.calls rules1 w rfl).mono ?_
  rintro e w' ⟨v, rfl, hr, hb⟩
  obtain ⟨A, c, rfl, hc, hC⟩ := Kd.R_reads hr
  exact ⟨A, c, rfl, hc, hC, hb⟩
theorem two_calls (w : World) : Calls Try.prog 49 #[] w fun e w' => ∃ V cv, e = .returned (.agg #[.string key1, .slice V vs1.length cv]) ∧ vs1.length ≤ cv ∧ Kd.C k53 w' V vs1.length vs1 ∧ Below w.heap.size w w' := by
  refine (stowagelaw22_two.calls key1 vs1 w rfl).mono ?_
  rintro e w' ⟨v, rfl, hr, hb⟩
  obtain ⟨A, c, rfl, hc, hC⟩ := Kd.R_reads hr
  exact ⟨A, c, rfl, hc, hC, hb⟩
theorem text_C (w : World) (s : ByteArray) : Kd.C Kd.string (w.alloc (.cells #[.string s] 9)) (some ⟨w.heap.size, 0, none⟩) 1 [s] := by
  refine ⟨rfl, by decide, fun _ => ⟨_, rfl, fun j p hj => ?_⟩⟩
  cases j with
  | zero =>
    simp only [List.getElem?_cons_zero, Option.some.injEq] at hj
    subst hj
    refine ⟨[.string s], rfl, rfl, fun i u hi => ?_⟩
    have := cell_one_new w (.string s) 9 i u hi
    simpa using this
  | succ j => simp at hj
theorem two_below {w w1 w2 : World} (h : Below w.heap.size w w1) (k : Below w1.heap.size w1 w2) : Below w.heap.size w w2 := h.trans (k.mono h.size)

set_option maxHeartbeats 4000000 in
set_option maxRecDepth 100000 in
theorem awake_calls (w : World) : Calls Try.prog 33 #[] w fun e w' => e = .returned (.bool true) ∧ Below w.heap.size w w' := by
  go_enter Try.func33, Try.ntmps33
  go_wp2_with fail
  refine (one_calls w).mono ?_
  rintro e w1 ⟨A, c, rfl, hc, hC, hb1⟩
  have HC := Lib.hid hC
  have HB := Lib.hid hb1
  clear hC hb1
  go_wp2_with fail
  refine (two_calls w1).mono ?_
  rintro e w2 ⟨V, cv, rfl, hcv, hV, hb2⟩
  have HC2 := Lib.hid (Kd.C_below HC.out hb2)
  have HV := Lib.hid hV
  have HB2 := Lib.hid (two_below HB.out hb2)
  clear hV hb2 HB HC
  go_wp2_with fail
  refine (newest_calls 12 A c key1 V cv rules1 vs1 97 0 w2 HC2.out hc HV.out hcv asked1_97 (fun _ => good1)).mono ?_
  rintro e w3 ⟨rfl, hb3⟩
  have HB3 := Lib.hid (two_below HB2.out hb3)
  rw [if_pos rfl, newest1_97]
  clear hb3 HB2 HC2 HV hc hcv
  go_wp2_with fail
  refine (one_calls w3).mono ?_
  rintro e w4 ⟨A, c, rfl, hc, hC, hb1⟩
  have HC := Lib.hid hC
  have HB := Lib.hid (two_below HB3.out hb1)
  clear hC hb1 HB3
  go_wp2_with fail
  refine (two_calls w4).mono ?_
  rintro e w5 ⟨V, cv, rfl, hcv, hV, hb2⟩
  have HC2 := Lib.hid (Kd.C_below HC.out hb2)
  have HV := Lib.hid hV
  have HB2 := Lib.hid (two_below HB.out hb2)
  clear hV hb2 HB HC
  go_wp2_with fail
  refine (newest_calls 12 A c key1 V cv rules1 vs1 98 0 w5 HC2.out hc HV.out hcv asked1_98 (fun _ => good1)).mono ?_
  rintro e w6 ⟨rfl, hb3⟩
  have HB3 := Lib.hid (two_below HB2.out hb3)
  rw [if_pos rfl, newest1_98]
  clear hb3 HB2 HC2 HV hc hcv
  go_wp2_with fail
  refine (one_calls w6).mono ?_
  rintro e w7 ⟨A, c, rfl, hc, hC, hb1⟩
  have HC := Lib.hid hC
  have HB := Lib.hid (two_below HB3.out hb1)
  clear hC hb1 HB3
  go_wp2_with fail
  refine (two_calls w7).mono ?_
  rintro e w8 ⟨V, cv, rfl, hcv, hV, hb2⟩
  have HC2 := Lib.hid (Kd.C_below HC.out hb2)
  have HV := Lib.hid hV
  have HB2 := Lib.hid (two_below HB.out hb2)
  clear hV hb2 HB HC
  go_wp2_with fail
  refine (old_calls 12 A c key1 V cv rules1 vs1 74 0 w8 HC2.out hc HV.out hcv asked1_74 (fun _ => good1)).mono ?_
  rintro e w9 ⟨v, rfl, hR, hb3⟩
  rw [if_pos rfl, old1_74] at hR
  obtain ⟨A9, c9, rfl, hc9, hC9⟩ := Kd.R_reads hR
  have HC9 := Lib.hid hC9
  have HB3 := Lib.hid (two_below HB2.out hb3)
  clear hb3 HB2 HC2 HV hc hcv hR hC9
  go_wp2_with fail
  refine (stowagekit_SameTexts.calls 4 A9 c9 [(⟨#[118, 49]⟩ : ByteArray)] (some ⟨w9.heap.size, 0, none⟩) 1 [(⟨#[118, 49]⟩ : ByteArray)] true _ (Kd.C_alloc HC9.out _) hc9 (text_C _ _) (Nat.le_refl _) same1).mono ?_
  rintro e w10 ⟨rfl, hb⟩
  have HB4 := Lib.hid (HB3.out.trans ((((Below.refl _ w9).alloc (Nat.le_refl _) _).trans (hb.below.mono (by simp))).mono HB3.out.size))
  clear hb HB3
  go_wp2_with fail
  go_ret
  exact ⟨rfl, HB4.out⟩
end Go.Proofs.Ytpogicakpgpkcaa.RRuleTells
