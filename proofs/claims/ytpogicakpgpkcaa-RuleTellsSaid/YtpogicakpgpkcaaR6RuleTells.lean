/- What expires: the old versions (rule.Old), as a contract. -/
import Derived.Test.YtpogicakpgpkcaaR5RuleTells
namespace Go.Proofs.Ytpogicakpgpkcaa.RRuleTells
open Go.RowKit Go.Shelf Go.Proofs.Ytpogicakpgpkcaa.It Go.Proofs.Ytpogicakpgpkcaa.PRuleTells Go.Proofs.YtpogicakpgpkcaaW.PrintWords Go.Proofs.YtpogicakpgpkcaaW.PrintLast Go.Proofs.YtpogicakpgpkcaaW.PrintMore

theorem info9_ : (Try.prog.info? 9).map (fun i => (i.zero, i.size, i.bytes)) = some (some (.string ⟨#[]⟩), 1, 16) := by kernel_rfl
def oldB (rules : List S45) (key : ByteArray) (vs : List S53) (now : Int) (i : Nat) : Bool := decide (0 < i) && decide (0 ≤ (firstL rules key vs).getD i 0) && decide ((firstL rules key vs).getD i 0 ≤ now)
def oldN (rules : List S45) (key : ByteArray) (vs : List S53) (now : Int) (n : Nat) : List ByteArray := ((List.range n).filter (oldB rules key vs now)).map fun (i : Nat) => (rd_T53 vs (i : Int)).f0
def oldF (rules : List S45) (key : ByteArray) (vs : List S53) (now : Int) : List ByteArray := oldN rules key vs now vs.length
theorem oldN_step (rules : List S45) (key : ByteArray) (vs : List S53) (now : Int) (n : Nat) : oldN rules key vs now (n + 1) = if oldB rules key vs now n then oldN rules key vs now n ++ [(rd_T53 vs (n : Int)).f0] else oldN rules key vs now n := by
  unfold oldN
  rw [List.range_succ, List.filter_append, List.map_append]
  split
  · rename_i h; simp [h]
  · rename_i h; simp [h]
theorem oldN_length (rules : List S45) (key : ByteArray) (vs : List S53) (now : Int) (n : Nat) : (oldN rules key vs now n).length ≤ n := by
  unfold oldN; rw [List.length_map]; exact Nat.le_trans (List.length_filter_le _ _) (by simp)

set_option maxHeartbeats 4000000 in
set_option maxRecDepth 100000 in
theorem old_calls (k : Nat) (A : Option Addr) (c : Nat) (key : ByteArray) (V : Option Addr) (cv : Nat) (rules : List S45) (vs : List S53) (now : Int) (r : Int) (w : World) (hr : Kd.C k45 w A rules.length rules) (hc : rules.length ≤ c) (hv : Kd.C k53 w V vs.length vs) (hcv : vs.length ≤ cv) (ha : rule_asked.f k rules key vs now = some r) (hg : r = 0 → Good rules vs) :
    Calls Try.prog 36 #[.slice A rules.length c, .agg #[.string key, .slice V vs.length cv], .int .i64 now] w fun e w' => ∃ v, e = .returned (.tuple #[v, .int .i64 r]) ∧ Kd.R Kd.string 9 w' w.heap.size (fun _ => True) v (if r = 0 then oldF rules key vs now else []) ∧ Below w.heap.size w w' := by
  have HR := Lib.hid hr
  have HV := Lib.hid hv
  have HA := Lib.hid ha
  have HG := Lib.hid hg
  have HC := Lib.hid hc
  have HCV := Lib.hid hcv
  clear hr hv ha hg hc hcv
  go_enter Try.func36, Try.ntmps36
  go_wp2_with fail
  refine (rule_asked.calls k A c rules key V cv vs now r _ (Kd.C_alloc HR.out _) HC.out (Kd.C_alloc HV.out _) HCV.out HA.out).mono ?_
  rintro e w1 ⟨rfl, hb1⟩
  have hB1 : Below w.heap.size w w1 := ((Below.refl _ w).alloc (Nat.le_refl _) _).trans (hb1.mono (by simp))
  have hE : w1.heap[w.heap.size]? = some (.cells #[.string key, .slice V vs.length cv] 48) := (hb1.block _ (by simp)).trans (World.alloc_heap_new w _)
  have c1 : w1.cell? ⟨w.heap.size, 0, none⟩ = some (.string key) := by simp [World.cell?, hE]
  have c2 : w1.cell? ⟨w.heap.size, 1, none⟩ = some (.slice V vs.length cv) := by simp [World.cell?, hE]
  have HB1 := Lib.hid hB1
  have HE := Lib.hid hE
  clear hb1 hB1 hE
  by_cases h0 : r = 0
  · subst h0
    have hg := HG.out rfl
    have HGo := Lib.hid hg
    clear hg
    go_wp2_with fail
    refine (first_calls A c key V cv rules vs w1 (Kd.C_below HR.out HB1.out) (Kd.C_below HV.out HB1.out) HGo.out.ok HGo.out.times HGo.out.n HGo.out.m).mono ?_
    rintro e w2 ⟨B, rfl, hB, hlB, hb2⟩
    have HE2 := Lib.hid ((hb2.block _ (Array.getElem?_eq_some_iff.1 HE.out).1).trans HE.out)
    have HB2 := Lib.hid (HB1.out.trans (hb2.mono HB1.out.size))
    have HI := Lib.hid hB
    have hm := HGo.out.m
    have hlB2 : w.heap.size ≤ B := Nat.le_trans HB1.out.size hlB
    clear hb2 c1 c2 hB
    go_wp2_with fail
    go_loopw [9, 23] (fun v9 v23 wr => ∃ j : Nat, j ≤ vs.length ∧ v23 = .int .i64 j ∧ ∃ xs, Hid (xs = oldN rules key vs now j) ∧ Hid (Kd.R Kd.string 9 wr w.heap.size (fun _ => True) v9 xs) ∧ Hid (wr.heap[w.heap.size]? = some (.cells #[.string key, .slice V vs.length cv] 48)) ∧ Hid (wr.heap[B]? = some (ints (firstL rules key vs))) ∧ Hid (Below w.heap.size w wr))
      (fun _ v23 _ => vs.length - (intOf v23).toNat)
    case atStart => exact ⟨0, Nat.zero_le _, rfl, [], Lib.hid rfl, Lib.hid (Kd.R_nil _ _ _ _ _), HE2, HI, HB2⟩
    case round =>
      obtain ⟨j, hj, rfl, xs, hxs, hown, he, hi, hb⟩ := hrel
      by_cases hlt : j < vs.length
      · have c3 := ints_cell hi.out j (by rw [firstL_length]; omega)
        obtain ⟨f0, hf0⟩ : ∃ f0, f0 = (firstL rules key vs).getD j 0 := ⟨_, rfl⟩
        rw [← hf0] at c3
        have hst := oldN_step rules key vs now j
        unfold oldB at hst
        rw [← hf0] at hst
        have HST := Lib.hid hst
        clear hst hf0
        by_cases h1 : 0 < j
        · by_cases h2 : 0 ≤ f0
          · by_cases h3 : f0 ≤ now
            · obtain ⟨ad, ea, hx0, _⟩ := at_T53 (Kd.C_below HV.out hb.out) (j : Int) (by omega) (by omega)
              rw [Int.toNat_natCast] at hx0
              subst ea
              have c4 : wr.cell? ⟨w.heap.size, 1, none⟩ = some (.slice (some ad) vs.length cv) := by simp [World.cell?, he.out]
              obtain ⟨s, hs⟩ : ∃ s, s = (rd_T53 vs (j : Int)).f0 := ⟨_, rfl⟩
              rw [← hs] at hx0
              have HS := Lib.hid hs
              clear hs
              go_wp2_with (first
                | (refine Kd.R_append Kd.string (w0 := w) w.heap.size rfl (.tmp 39) (.tmp 46) 54 9 (.string ⟨#[]⟩) 16 rfl Try.underlying54 info9_ rfl (by decide) (by omega) u9 xs s [.string s] (fun _ => True) (fun _ => False) ?x1 ?x2 ?x3 (fun _ hk => hk.elim) (fun _ _ => trivial) ?x4 ?x5 ?x6 ?x7 ?x8
                   case x1 => rfl
                   case x2 => rfl
                   case x3 => exact rfl
                   case x4 => exact hown.out
                   case x5 => exact hb.out
                   case x6 => exact hb.out.size
                   case x7 => have h9 := oldN_length rules key vs now j; rw [← hxs.out] at h9; omega
                   intro v1 w17 ho1 hb1 hg1 hat
                   have hne1 := Kd.R_ne hown.out he.out (by decide)
                   have hne2 := Kd.R_ne hown.out hi.out (by decide)
                   have HO1 := Lib.hid ho1
                   have HBn := Lib.hid hb1
                   have HEn := Lib.hid ((hg1.block _ (Array.getElem?_eq_some_iff.1 he.out).1 hne1).trans he.out)
                   have HIn := Lib.hid ((hg1.block _ (Array.getElem?_eq_some_iff.1 hi.out).1 hne2).trans hi.out)
                   clear ho1 hb1 hg1 hat hne1 hne2))
              case roundEnd => exact ⟨⟨j + 1, by omega, by go_num, xs ++ [s], Lib.hid (by rw [HST.out]; simp [h1, h2, h3]; exact ⟨hxs.out, HS.out⟩), HO1, HEn, HIn, HBn⟩, by simp [intOf]; omega⟩
            · go_wp2_with fail
              case roundEnd => exact ⟨⟨j + 1, by omega, by go_num, xs, Lib.hid (by rw [HST.out]; simp [h3]; exact hxs.out), hown, he, hi, hb⟩, by simp [intOf]; omega⟩
          · go_wp2_with fail
            case roundEnd => exact ⟨⟨j + 1, by omega, by go_num, xs, Lib.hid (by rw [HST.out]; simp [h2]; exact hxs.out), hown, he, hi, hb⟩, by simp [intOf]; omega⟩
        · go_wp2_with fail
          case roundEnd => exact ⟨⟨j + 1, by omega, by go_num, xs, Lib.hid (by rw [HST.out]; simp [h1]; exact hxs.out), hown, he, hi, hb⟩, by simp [intOf]; omega⟩
      · obtain rfl : j = vs.length := by omega
        go_wp2_with fail
        go_ret2
        exact ⟨_, rfl, by have := hown.out; rw [hxs.out] at this; exact this, hb.out⟩
  · go_wp2_with fail
    go_ret2
    exact ⟨_, rfl, Kd.R_nil _ _ _ _ _, HB1.out⟩
end Go.Proofs.Ytpogicakpgpkcaa.RRuleTells
