/- RuleLasts: what expires at a moment does at all later ones. -/
import Derived.Test.YtpogicakpgpkcaaR12RuleMore
namespace Go.Proofs.Ytpogicakpgpkcaa.RRuleMore
open Go.RowKit Go.Shelf Go.Proofs.Ytpogicakpgpkcaa.It Go.Proofs.Ytpogicakpgpkcaa.PRuleMore Go.Proofs.YtpogicakpgpkcaaW.PrintWords Go.Proofs.YtpogicakpgpkcaaW.PrintLast Go.Proofs.YtpogicakpgpkcaaW.PrintMore

set_option maxHeartbeats 1000000 in
theorem pick_calls (x n : Int) (w : World) (hn : 1 ≤ n) (hn2 : n ≤ 4611686018427387904) (_hx : -9223372036854775808 ≤ x ∧ x ≤ 9223372036854775807) : Calls Try.prog 48 #[.int .i64 x, .int .i64 n] w fun e w' => ∃ r : Int, e = .returned (.int .i64 r) ∧ 0 ≤ r ∧ r < n ∧ Below w.heap.size w w' := by
  have h1 := Int.tmod_lt_of_pos x (show 0 < n by omega)
  have h2 : -n < Int.tmod x n := by
    have := Int.tmod_lt_of_pos (-x) (show 0 < n by omega)
    rw [Int.neg_tmod] at this; omega
  by_cases h0 : Int.tmod x n < 0
  · go_enter Try.func48, Try.ntmps48
    go_wp2_with fail
    go_ret
    refine ⟨_, rfl, ?_, ?_, ?_⟩
    all_goals first | exact Below.refl _ _ | skip
    all_goals (first | (show 0 ≤ Int.tmod x n + n; omega) | (show Int.tmod x n + n < n; omega))
  · go_enter Try.func48, Try.ntmps48
    go_wp2_with fail
    go_ret
    exact ⟨_, rfl, by show 0 ≤ Int.tmod x n; omega, by show Int.tmod x n < n; omega, Below.refl _ _⟩

structure BoxS (w : World) (key : ByteArray) (V : Option Addr) (nv cv : Nat) (w' : World) : Prop where
  box : w'.heap[w.heap.size]? = some (.cells #[.string key, .slice V nv cv] 48)
  b : Below w.heap.size w w'
theorem BoxS.step {w : World} {key : ByteArray} {V : Option Addr} {nv cv : Nat} {w1 w2 : World} (h : BoxS w key V nv cv w1) (hb : Below w1.heap.size w1 w2) : BoxS w key V nv cv w2 :=
  ⟨(hb.block _ (Array.getElem?_eq_some_iff.1 h.box).1).trans h.box, two_below h.b hb⟩
theorem BoxS.cells {w : World} {key : ByteArray} {V : Option Addr} {nv cv : Nat} {w1 : World} (h : BoxS w key V nv cv w1) : w1.cell? ⟨w.heap.size, 0, none⟩ = some (.string key) ∧ w1.cell? ⟨w.heap.size, 1, none⟩ = some (.slice V nv cv) :=
  ⟨by simp [World.cell?, h.box], by simp [World.cell?, h.box]⟩

set_option maxHeartbeats 4000000 in
set_option maxRecDepth 100000 in
theorem lasts_calls (A : Option Addr) (c : Nat) (key : ByteArray) (V : Option Addr) (cv : Nat) (l : List S45) (vs : List S53) (now more : Int) (w : World) (hr : Kd.C k45 w A l.length l) (hc : l.length ≤ c) (hv : Kd.C k53 w V vs.length vs) (hcv : vs.length ≤ cv) (hl : l.length ≤ 9223372036854775807) (hvl : vs.length ≤ 9223372036854775807) (hm : -9223372036854775808 ≤ more ∧ more ≤ 9223372036854775807) :
    Calls Try.prog 10 #[.slice A l.length c, .agg #[.string key, .slice V vs.length cv], .int .i64 now, .int .i64 more] w fun e w' => e = .returned (.bool true) ∧ Below w.heap.size w w' := by
  obtain ⟨k, b, hlb, hbf⟩ := large_tot l key vs hl hvl
  have HR := Lib.hid hr
  have HV := Lib.hid hv
  have HLB := Lib.hid hlb
  have HBF := Lib.hid hbf
  have HM := Lib.hid hm
  have HC := Lib.hid hc
  have HCV := Lib.hid hcv
  clear hr hv hlb hbf hm hl hvl hc hcv
  go_enter Try.func10, Try.ntmps10
  go_wp2_with fail
  refine (awake_calls _).mono ?_
  rintro e w1 ⟨rfl, hb1⟩
  have HS : Hid (BoxS w key V vs.length cv w1) := Lib.hid (BoxS.step ⟨World.alloc_heap_new w _, (Below.refl _ w).alloc (Nat.le_refl _) _⟩ hb1)
  have c1 := HS.out.cells.1
  have c2 := HS.out.cells.2
  clear hb1
  go_wp2_with fail
  refine (stowagelaw22_large.calls k A c l key V cv vs b w1 (Kd.C_below HR.out HS.out.b) HC.out (Kd.C_below HV.out HS.out.b) HCV.out HLB.out).mono ?_
  rintro e w2 ⟨rfl, hb2⟩
  have HS2 := Lib.hid (HS.out.step hb2)
  clear hb2 HS c1 c2
  cases b
  · by_cases hn0 : now < 0
    · go_wp2_with fail
      go_ret
      exact ⟨rfl, HS2.out.b⟩
    · by_cases hn1 : now > 2097152
      · go_wp2_with fail
        go_ret
        exact ⟨rfl, HS2.out.b⟩
      · have hsm := HBF.out rfl
        obtain ⟨r, ha, hg⟩ := asked_tot l key vs now hsm.1 (by omega) hsm.2.2
        have HA := Lib.hid ha
        have HG := Lib.hid hg
        have HSM := Lib.hid hsm
        clear ha hg hsm
        by_cases hr0 : r = 0
        · subst hr0
          have hgo := HG.out rfl
          have HGo := Lib.hid hgo
          clear hgo HG
          have c1 := HS2.out.cells.1
          have c2 := HS2.out.cells.2
          go_wp2_with fail
          refine (newest_calls 1000 A c key V cv l vs now 0 w2 (Kd.C_below HR.out HS2.out.b) HC.out (Kd.C_below HV.out HS2.out.b) HCV.out HA.out (fun _ => HGo.out.1)).mono ?_
          rintro e w3 ⟨rfl, hb3⟩
          rw [if_pos rfl]
          have HS3 := Lib.hid (HS2.out.step hb3)
          have c1 := HS3.out.cells.1
          have c2 := HS3.out.cells.2
          clear hb3 HS2
          go_wp2_with fail
          refine (old_calls 1000 A c key V cv l vs now 0 w3 (Kd.C_below HR.out HS3.out.b) HC.out (Kd.C_below HV.out HS3.out.b) HCV.out HA.out (fun _ => HGo.out.1)).mono ?_
          rintro e w4 ⟨v4, rfl, hR4, hb4⟩
          rw [if_pos rfl] at hR4
          obtain ⟨A4, c4, rfl, hc4, hC4⟩ := Kd.R_reads hR4
          have HC4 := Lib.hid hC4
          have HL4 := Lib.hid hc4
          have HS4 := Lib.hid (HS3.out.step hb4)
          have c1 := HS4.out.cells.1
          have c2 := HS4.out.cells.2
          clear hb4 HS3 hR4 hC4 hc4
          go_wp2_with fail
          refine (next_calls 1000 A c key V cv l vs now 0 w4 (Kd.C_below HR.out HS4.out.b) HC.out (Kd.C_below HV.out HS4.out.b) HCV.out HA.out (fun _ => HGo.out.1)).mono ?_
          rintro e w5 ⟨rfl, hb5⟩
          rw [if_pos rfl]
          have HS5 := Lib.hid (HS4.out.step hb5)
          have HC5 := Lib.hid (Kd.C_below HC4.out hb5)
          have c1 := HS5.out.cells.1
          have c2 := HS5.out.cells.2
          clear hb5 HS4 HC4
          go_wp2_with fail
          refine (pick_calls more (2097152 - now + 1) w5 (by omega) (by omega) HM.out).mono ?_
          rintro e w6 ⟨q, rfl, hq0, hq1, hb6⟩
          have HS6 := Lib.hid (HS5.out.step hb6)
          have HC6 := Lib.hid (Kd.C_below HC5.out hb6)
          have c1 := HS6.out.cells.1
          have c2 := HS6.out.cells.2
          clear hb6 HS5 HC5
          go_wp2_with fail
          have hlt : now ≤ now + q := by omega
          have hl2 : now + q ≤ 2097152 := by omega
          have HA2 := Lib.hid ((asked_now 1000 l key vs now (now + q) (by omega) (by omega) (by omega) hl2).symm.trans HA.out)
          refine (newest_calls 1000 A c key V cv l vs (now + q) 0 w6 (Kd.C_below HR.out HS6.out.b) HC.out (Kd.C_below HV.out HS6.out.b) HCV.out HA2.out (fun _ => HGo.out.1)).mono ?_
          rintro e w7 ⟨rfl, hb7⟩
          rw [if_pos rfl]
          have HS7 := Lib.hid (HS6.out.step hb7)
          have HC7 := Lib.hid (Kd.C_below HC6.out hb7)
          have c1 := HS7.out.cells.1
          have c2 := HS7.out.cells.2
          clear hb7 HS6 HC6
          go_wp2_with fail
          refine (old_calls 1000 A c key V cv l vs (now + q) 0 w7 (Kd.C_below HR.out HS7.out.b) HC.out (Kd.C_below HV.out HS7.out.b) HCV.out HA2.out (fun _ => HGo.out.1)).mono ?_
          rintro e w8 ⟨v8, rfl, hR8, hb8⟩
          rw [if_pos rfl] at hR8
          obtain ⟨A8, c8, rfl, hc8, hC8⟩ := Kd.R_reads hR8
          have HC8 := Lib.hid hC8
          have HL8 := Lib.hid hc8
          have HS8 := Lib.hid (HS7.out.b.trans (hb8.mono HS7.out.b.size))
          have HC9 := Lib.hid (Kd.C_below HC7.out hb8)
          clear hb8 HS7 HC7 hR8 hC8 hc8 c1 c2
          have hmono := newest_mono l key vs hlt
          have hsub := old_mono l key vs hlt
          have hlen4 : (oldF l key vs now).length ≤ 80 := Nat.le_trans (oldN_length _ _ _ _ _) HSM.out.2.2
          have hlen8 : (oldF l key vs (now + q)).length ≤ 80 := Nat.le_trans (oldN_length _ _ _ _ _) HSM.out.2.2
          have HW := Lib.hid (within_sub _ _ (by omega) (by omega) hsub)
          have hnx := next_ok l key vs now (by omega)
          have hsame := same_till l key vs now (now + q) (by omega) hlt
          have hgrow := grows l key vs now (now + q) (by omega) hlt
          clear hsub HA2 HA HGo HBF HLB HSM HR HV
          generalize hna : newestF l key vs now = na at *
          generalize hnc : newestF l key vs (now + q) = nc at *
          generalize hob : oldF l key vs now = ob at *
          generalize hod : oldF l key vs (now + q) = od at *
          generalize hnxx : nextF l key vs now = nx at *
          clear hna hnc hob hod hnxx
          have fin : ∀ x : World, Drawn0 w8 x → Below w.heap.size w x := fun x hx => HS8.out.trans (hx.below.mono HS8.out.size)
          by_cases hx : nx = 0
          · obtain ⟨e1, e2⟩ := hsame (.inl hx)
            subst e1
            subst e2
            clear hsame hgrow hmono hnx
            subst hx
            cases nc
            all_goals
              go_wp2_with fail
              refine (stowagelaw22_within.calls 1000 A4 c4 od A8 c8 od true w8 HC9.out HL4.out HC8.out HL8.out HW.out).mono ?_
              rintro e w9 ⟨rfl, hb9⟩
              have HF := Lib.hid (fin _ hb9)
              clear hb9 fin
              go_wp2_with fail
              go_ret
              exact ⟨rfl, HF.out⟩
          · by_cases hx2 : now + q < nx
            · obtain ⟨e1, e2⟩ := hsame (.inr hx2)
              subst e1
              subst e2
              have hnx2 : ¬ nx ≤ now := by omega
              clear hsame hgrow hmono hnx
              cases nc
              all_goals
                go_wp2_with fail
                refine (stowagelaw22_within.calls 1000 A4 c4 od A8 c8 od true w8 HC9.out HL4.out HC8.out HL8.out HW.out).mono ?_
                rintro e w9 ⟨rfl, hb9⟩
                have HF := Lib.hid (fin _ hb9)
                clear hb9 fin
                go_wp2_with fail
                go_ret
                exact ⟨rfl, HF.out⟩
            · have hg := hgrow hx (by omega)
              have hnx2 : ¬ nx ≤ now := by omega
              clear hsame hgrow hnx
              cases na <;> cases nc
              · have hd : ¬ ((ob.length : Int) = (od.length : Int)) := by rcases hg with h | h; exact absurd rfl h; omega
                clear hg hmono
                go_wp2_with fail
                refine (stowagelaw22_within.calls 1000 A4 c4 ob A8 c8 od true w8 HC9.out HL4.out HC8.out HL8.out HW.out).mono ?_
                rintro e w9 ⟨rfl, hb9⟩
                have HF := Lib.hid (fin _ hb9)
                clear hb9 fin
                go_wp2_with fail
                all_goals first
                  | (go_ret; exact ⟨rfl, HF.out⟩)
                  | (go_ret; refine ⟨?_, HF.out⟩; show Ending.returned (Value.bool ((ob.length : Int) != (od.length : Int))) = _; rw [(bne_iff_ne (a := (ob.length : Int)) (b := (od.length : Int))).2 hd])
                  | (exfalso; rename_i hcc; simp at hcc; omega)
                  | (exfalso; omega)
              · clear hg hmono
                go_wp2_with fail
                refine (stowagelaw22_within.calls 1000 A4 c4 ob A8 c8 od true w8 HC9.out HL4.out HC8.out HL8.out HW.out).mono ?_
                rintro e w9 ⟨rfl, hb9⟩
                have HF := Lib.hid (fin _ hb9)
                clear hb9 fin
                go_wp2_with fail
                all_goals first
                  | (go_ret; exact ⟨rfl, HF.out⟩)
                  | (go_ret; refine ⟨?_, HF.out⟩; show Ending.returned (Value.bool ((ob.length : Int) != (od.length : Int))) = _; rw [(bne_iff_ne (a := (ob.length : Int)) (b := (od.length : Int))).2 hd])
                  | (exfalso; rename_i hcc; simp at hcc; omega)
                  | (exfalso; omega)
              · exact absurd (hmono rfl) (by decide)
              · have hd : ¬ ((ob.length : Int) = (od.length : Int)) := by rcases hg with h | h; exact absurd rfl h; omega
                clear hg hmono
                go_wp2_with fail
                refine (stowagelaw22_within.calls 1000 A4 c4 ob A8 c8 od true w8 HC9.out HL4.out HC8.out HL8.out HW.out).mono ?_
                rintro e w9 ⟨rfl, hb9⟩
                have HF := Lib.hid (fin _ hb9)
                clear hb9 fin
                go_wp2_with fail
                all_goals first
                  | (go_ret; exact ⟨rfl, HF.out⟩)
                  | (go_ret; refine ⟨?_, HF.out⟩; show Ending.returned (Value.bool ((ob.length : Int) != (od.length : Int))) = _; rw [(bne_iff_ne (a := (ob.length : Int)) (b := (od.length : Int))).2 hd])
                  | (exfalso; rename_i hcc; simp at hcc; omega)
                  | (exfalso; omega)
        · have hr1 : ¬ r = 0 := hr0
          have c1 := HS2.out.cells.1
          have c2 := HS2.out.cells.2
          go_wp2_with fail
          refine (newest_calls 1000 A c key V cv l vs now r w2 (Kd.C_below HR.out HS2.out.b) HC.out (Kd.C_below HV.out HS2.out.b) HCV.out HA.out (fun h => (HG.out h).1)).mono ?_
          rintro e w3 ⟨rfl, hb3⟩
          rw [if_neg hr0]
          have HS3 := Lib.hid (HS2.out.step hb3)
          have c1 := HS3.out.cells.1
          have c2 := HS3.out.cells.2
          clear hb3 HS2
          go_wp2_with fail
          refine (old_calls 1000 A c key V cv l vs now r w3 (Kd.C_below HR.out HS3.out.b) HC.out (Kd.C_below HV.out HS3.out.b) HCV.out HA.out (fun h => (HG.out h).1)).mono ?_
          rintro e w4 ⟨v4, rfl, hR4, hb4⟩
          rw [if_neg hr0] at hR4
          obtain ⟨A4, c4, rfl, hc4, hC4⟩ := Kd.R_reads hR4
          have HC4 := Lib.hid hC4
          have HL4 := Lib.hid hc4
          have HS4 := Lib.hid (HS3.out.step hb4)
          have c1 := HS4.out.cells.1
          have c2 := HS4.out.cells.2
          clear hb4 HS3 hR4 hC4 hc4
          go_wp2_with fail
          refine (next_calls 1000 A c key V cv l vs now r w4 (Kd.C_below HR.out HS4.out.b) HC.out (Kd.C_below HV.out HS4.out.b) HCV.out HA.out (fun h => (HG.out h).1)).mono ?_
          rintro e w5 ⟨rfl, hb5⟩
          rw [if_neg hr0]
          have HS5 := Lib.hid (HS4.out.step hb5)
          have HC5 := Lib.hid (Kd.C_below HC4.out hb5)
          have c1 := HS5.out.cells.1
          have c2 := HS5.out.cells.2
          clear hb5 HS4 HC4
          go_wp2_with fail
          go_ret
          exact ⟨rfl, HS5.out.b⟩
  · go_wp2_with fail
    go_ret
    exact ⟨rfl, HS2.out.b⟩
end Go.Proofs.Ytpogicakpgpkcaa.RRuleMore
