/- What expires: the newest version, the next moment (rule.Newest, rule.Next), as contracts. -/
import Derived.Test.YtpogicakpgpkcaaR4RuleTells
namespace Go.Proofs.Ytpogicakpgpkcaa.RRuleTells
open Go.RowKit Go.Shelf Go.Proofs.Ytpogicakpgpkcaa.It Go.Proofs.Ytpogicakpgpkcaa.PRuleTells Go.Proofs.YtpogicakpgpkcaaW.PrintWords Go.Proofs.YtpogicakpgpkcaaW.PrintLast Go.Proofs.YtpogicakpgpkcaaW.PrintMore
attribute [local go_sem] max2_int min2_int max_two min_two

/-- What may be asked. -/
structure Good (rules : List S45) (vs : List S53) : Prop where
  ok : ∀ r ∈ rules, RuleOk r
  times : ∀ v ∈ vs, 0 ≤ v.f1 ∧ v.f1 ≤ 1048576
  n : rules.length ≤ 1000
  m : vs.length ≤ 1000
def newestF (rules : List S45) (key : ByteArray) (vs : List S53) (now : Int) : Bool := decide (0 < vs.length) && decide (0 ≤ (firstL rules key vs).getD 0 0) && decide ((firstL rules key vs).getD 0 0 ≤ now)
def nextS (now : Int) (next at_ : Int) : Int := if at_ ≤ now then next else if next = 0 then at_ else min next at_
def nextF (rules : List S45) (key : ByteArray) (vs : List S53) (now : Int) : Int := (firstL rules key vs).foldl (nextS now) 0

set_option maxHeartbeats 4000000 in
set_option maxRecDepth 100000 in
theorem newest_calls (k : Nat) (A : Option Addr) (c : Nat) (key : ByteArray) (V : Option Addr) (cv : Nat) (rules : List S45) (vs : List S53) (now : Int) (r : Int) (w : World) (hr : Kd.C k45 w A rules.length rules) (hc : rules.length ≤ c) (hv : Kd.C k53 w V vs.length vs) (hcv : vs.length ≤ cv) (ha : rule_asked.f k rules key vs now = some r) (hg : r = 0 → Good rules vs) :
    Calls Try.prog 35 #[.slice A rules.length c, .agg #[.string key, .slice V vs.length cv], .int .i64 now] w fun e w' => e = .returned (.tuple #[.bool (if r = 0 then newestF rules key vs now else false), .int .i64 r]) ∧ Below w.heap.size w w' := by
  have HR := Lib.hid hr
  have HV := Lib.hid hv
  have HA := Lib.hid ha
  have HG := Lib.hid hg
  have HC := Lib.hid hc
  have HCV := Lib.hid hcv
  clear hr hv ha hg hc hcv
  go_enter Try.func35, Try.ntmps35
  go_wp2_with fail
  refine (rule_asked.calls k A c rules key V cv vs now r _ (Kd.C_alloc HR.out _) HC.out (Kd.C_alloc HV.out _) HCV.out HA.out).mono ?_
  rintro e w1 ⟨rfl, hb1⟩
  have hB1 : Below w.heap.size w w1 := ((Below.refl _ w).alloc (Nat.le_refl _) _).trans (hb1.mono (by simp))
  have hE : w1.heap[w.heap.size]? = some (.cells #[.string key, .slice V vs.length cv] 48) := (hb1.block _ (by simp)).trans (World.alloc_heap_new w _)
  have c1 : w1.cell? ⟨w.heap.size, 0, none⟩ = some (.string key) := by simp [World.cell?, hE]
  have c2 : w1.cell? ⟨w.heap.size, 1, none⟩ = some (.slice V vs.length cv) := by simp [World.cell?, hE]
  have HB1 := Lib.hid hB1
  clear hb1 hB1 hE
  by_cases h0 : r = 0
  · subst h0
    have hg := HG.out rfl
    have HGo := Lib.hid hg
    clear hg
    go_wp2_with fail
    refine (first_calls A c key V cv rules vs w1 (Kd.C_below HR.out HB1.out) (Kd.C_below HV.out HB1.out) HGo.out.ok HGo.out.times HGo.out.n HGo.out.m).mono ?_
    rintro e w2 ⟨B, rfl, hB, hlB, hb2⟩
    have HB2 := Lib.hid (HB1.out.trans (hb2.mono HB1.out.size))
    clear hb2 c1 c2
    by_cases hn : 0 < vs.length
    · have c3 := ints_cell hB 0 (by rw [firstL_length]; omega)
      obtain ⟨f0, hf0⟩ : ∃ f0, f0 = (firstL rules key vs).getD 0 0 := ⟨_, rfl⟩
      rw [← hf0] at c3
      have HF0 := Lib.hid hf0
      clear hf0 hB
      by_cases hf : 0 ≤ f0
      · go_wp2_with fail
        go_ret2
        refine ⟨?_, HB2.out⟩
        show Ending.returned (.tuple #[.bool (decide (f0 ≤ now)), .int .i64 0]) = _
        unfold newestF
        rw [← HF0.out]
        simp [hn, hf]
      · go_wp2_with fail
        go_ret2
        refine ⟨?_, HB2.out⟩
        show Ending.returned (.tuple #[.bool false, .int .i64 0]) = _
        unfold newestF
        rw [← HF0.out]
        simp [hn]; omega
    · have hn0 : vs.length = 0 := by omega
      go_wp2_with fail
      go_ret2
      refine ⟨?_, HB2.out⟩
      show Ending.returned (.tuple #[.bool false, .int .i64 0]) = _
      unfold newestF
      simp [hn0]
  · go_wp2_with fail
    go_ret2
    refine ⟨?_, HB1.out⟩
    show Ending.returned (.tuple #[.bool false, .int .i64 r]) = _
    rfl
set_option maxHeartbeats 4000000 in
set_option maxRecDepth 100000 in
theorem next_calls (k : Nat) (A : Option Addr) (c : Nat) (key : ByteArray) (V : Option Addr) (cv : Nat) (rules : List S45) (vs : List S53) (now : Int) (r : Int) (w : World) (hr : Kd.C k45 w A rules.length rules) (hc : rules.length ≤ c) (hv : Kd.C k53 w V vs.length vs) (hcv : vs.length ≤ cv) (ha : rule_asked.f k rules key vs now = some r) (hg : r = 0 → Good rules vs) :
    Calls Try.prog 41 #[.slice A rules.length c, .agg #[.string key, .slice V vs.length cv], .int .i64 now] w fun e w' => e = .returned (.tuple #[.int .i64 (if r = 0 then nextF rules key vs now else 0), .int .i64 r]) ∧ Below w.heap.size w w' := by
  have HR := Lib.hid hr
  have HV := Lib.hid hv
  have HA := Lib.hid ha
  have HG := Lib.hid hg
  have HC := Lib.hid hc
  have HCV := Lib.hid hcv
  clear hr hv ha hg hc hcv
  go_enter Try.func41, Try.ntmps41
  go_wp2_with fail
  refine (rule_asked.calls k A c rules key V cv vs now r _ (Kd.C_alloc HR.out _) HC.out (Kd.C_alloc HV.out _) HCV.out HA.out).mono ?_
  rintro e w1 ⟨rfl, hb1⟩
  have hB1 : Below w.heap.size w w1 := ((Below.refl _ w).alloc (Nat.le_refl _) _).trans (hb1.mono (by simp))
  have hE : w1.heap[w.heap.size]? = some (.cells #[.string key, .slice V vs.length cv] 48) := (hb1.block _ (by simp)).trans (World.alloc_heap_new w _)
  have c1 : w1.cell? ⟨w.heap.size, 0, none⟩ = some (.string key) := by simp [World.cell?, hE]
  have c2 : w1.cell? ⟨w.heap.size, 1, none⟩ = some (.slice V vs.length cv) := by simp [World.cell?, hE]
  have HB1 := Lib.hid hB1
  clear hb1 hB1 hE
  by_cases h0 : r = 0
  · subst h0
    have hg := HG.out rfl
    have HGo := Lib.hid hg
    clear hg
    go_wp2_with fail
    refine (first_calls A c key V cv rules vs w1 (Kd.C_below HR.out HB1.out) (Kd.C_below HV.out HB1.out) HGo.out.ok HGo.out.times HGo.out.n HGo.out.m).mono ?_
    rintro e w2 ⟨B, rfl, hB, hlB, hb2⟩
    have HB2 := Lib.hid (HB1.out.trans (hb2.mono HB1.out.size))
    have HI := Lib.hid hB
    have hm := HGo.out.m
    clear hb2 c1 c2 hB
    go_wp2_with fail
    go_loopw [9, 23] (fun v9 v23 wr => ∃ j : Nat, j ≤ vs.length ∧ v23 = .int .i64 j ∧ ∃ nx : Int, v9 = .int .i64 nx ∧ Hid (nx = ((firstL rules key vs).take j).foldl (nextS now) 0) ∧ wr = w2)
      (fun _ v23 _ => vs.length - (intOf v23).toNat)
    case atStart => exact ⟨0, Nat.zero_le _, rfl, 0, rfl, Lib.hid rfl, rfl⟩
    case round =>
      obtain ⟨j, hj, rfl, nx, rfl, hnx, rfl⟩ := hrel
      by_cases hlt : j < vs.length
      · have c3 := ints_cell HI.out j (by rw [firstL_length]; omega)
        obtain ⟨f0, hf0⟩ : ∃ f0, f0 = (firstL rules key vs).getD j 0 := ⟨_, rfl⟩
        rw [← hf0] at c3
        have hst : ((firstL rules key vs).take (j + 1)).foldl (nextS now) 0 = nextS now nx f0 := by
          have e : (firstL rules key vs)[j]? = some f0 := by rw [hf0, List.getD_eq_getElem?_getD, List.getElem?_eq_getElem (by rw [firstL_length]; omega)]; rfl
          rw [List.take_add_one, e, List.foldl_append, ← hnx.out]; rfl
        have HST := Lib.hid hst
        clear hst hf0
        by_cases h1 : f0 ≤ now
        · go_wp2_with fail
          case roundEnd => exact ⟨⟨j + 1, by omega, by go_num, nx, rfl, Lib.hid (by rw [HST.out]; unfold nextS; rw [if_pos h1]), trivial⟩, by simp [intOf]; omega⟩
        · by_cases h2 : nx = 0
          · go_wp2_with fail
            case roundEnd => exact ⟨⟨j + 1, by omega, by go_num, f0, rfl, Lib.hid (by rw [HST.out]; unfold nextS; rw [if_neg h1, if_pos h2]), trivial⟩, by simp [intOf]; omega⟩
          · go_wp2_with fail
            case roundEnd => exact ⟨⟨j + 1, by omega, by go_num, if f0 < nx then f0 else nx, rfl, Lib.hid (by rw [HST.out]; unfold nextS; rw [if_neg h1, if_neg h2, Int.min_def]; split <;> split <;> omega), trivial⟩, by simp [intOf]; omega⟩
      · obtain rfl : j = vs.length := by omega
        go_wp2_with fail
        go_ret2
        refine ⟨?_, HB2.out⟩
        show Ending.returned (.tuple #[.int .i64 nx, .int .i64 0]) = _
        have := hnx.out
        rw [List.take_of_length_le (by rw [firstL_length]; exact Nat.le_refl _)] at this
        rw [this]; rfl
  · go_wp2_with fail
    go_ret2
    refine ⟨?_, HB1.out⟩
    show Ending.returned (.tuple #[.int .i64 0, .int .i64 r]) = _
    rfl
end Go.Proofs.Ytpogicakpgpkcaa.RRuleTells
