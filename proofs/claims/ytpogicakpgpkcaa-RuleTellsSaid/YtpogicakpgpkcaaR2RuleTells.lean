/- What rule.due hands back, as a contract for whatever goes through it. -/
import Derived.Test.YtpogicakpgpkcaaR1RuleTells
namespace Go.Proofs.Ytpogicakpgpkcaa.RRuleTells
open Go.RowKit Go.Shelf Go.Proofs.Ytpogicakpgpkcaa.It Go.Proofs.Ytpogicakpgpkcaa.PRuleTells Go.Proofs.YtpogicakpgpkcaaW.PrintWords Go.Proofs.YtpogicakpgpkcaaW.PrintLast
attribute [local go_sem] Oper.semAt_some

set_option maxHeartbeats 4000000 in
set_option maxRecDepth 100000 in
theorem due_stops0 (n : Nat) (hn1 : 1 ≤ n) (G : Nat → Prop) (b : Nat) (W0 : World) (A : Option Addr) (c : Nat) (key : ByteArray) (since what : Int) (rules : List S45) (hG : ∀ k, G k → k < b) (hb : b + 5 ≤ W0.heap.size) (hd : DueAt W0 b A rules.length c key since what false) (hr : Kd.C k45 W0 A rules.length rules) (hA : rules.length ≠ 0 → ∀ ad, A = some ad → ¬ G ad.block) (hok : ∀ r ∈ rules, RuleOk r) (hs : 0 ≤ since ∧ since ≤ 1048576) (hn : rules.length ≤ 1000) (P : Int × Int → Prop) (hP : ∀ r ∈ rules, P (since + daysOf false r * 24, what)) :
    Iter Try.prog n 70 (dueV b) (encs2 (P := P)) G (fun xs => vals xs = dueL rules key since what false) (fun pre => vals pre <+: dueL rules key since what false) W0 := fun l J Jx W hW hJ hJx hY h0 => by
  refine callsIn_of_wp Try.func70 rfl trivial ?_ rfl
  simp only [Try.ntmps70, List.size_toArray, List.length_cons, List.length_nil, Nat.reduceAdd, Nat.reduceSub, Array.replicate_succ, Array.replicate_zero, List.push_toArray, List.append_toArray, List.nil_append, List.cons_append, dueV]
  have hd1 := hd.kept (Keep.below (G := G) (B := 0) hW) hG
  have hr1 := keep_C45 (Keep.below (G := G) (B := 0) hW) hr hA
  have hcl := hd1.l.cell
  have HD1 := Lib.hid hd1
  have HR1 := Lib.hid hr1
  have HY := Lib.hid hY
  have HJ := Lib.hid hJ
  clear hd1 hr1 hr hd hY hJ
  gi_wp2
  clear hcl
  gi_loopw [12] (fun i wr => ∃ k : Nat, k ≤ rules.length ∧ i = .int .i64 k ∧ (∃ pre : List {p : Int × Int // P p}, Hid (vals pre = dueL (rules.take k) key since what false) ∧ Hid (J pre wr)) ∧ Hid (DueAt wr b A rules.length c key since what false) ∧ Hid (Kd.C k45 wr A rules.length rules) ∧ Hid (W.heap.size ≤ wr.heap.size))
    (fun i _ => rules.length - (intOf i).toNat)
  case atStart => exact ⟨0, Nat.zero_le _, rfl, ⟨[], Lib.hid (by simp [dueL, vals]), Lib.hid h0⟩, HD1, HR1, Lib.hid (Nat.le_refl _)⟩
  case round =>
    obtain ⟨k, hk, rfl, ⟨pre, hpre, hJs⟩, hds, hrs, hsz⟩ := hrel
    by_cases hlt : k < rules.length
    · obtain ⟨ad, ea, hx0, hx1, hx2⟩ := at_T45 hrs.out (k : Int) (by omega) (by omega)
      rw [Int.toNat_natCast] at hx0 hx1 hx2
      subst ea
      have hds' := hds.out
      have c1 := hds'.key.cell
      have c2 := hds'.since.cell
      have c3 := hds'.what.cell
      have c4 := hds'.days.cell
      clear hds'
      have hz := hsz.out
      have hz0 := hW.size
      have z0 : b < wr.heap.size := by omega
      have z1 : b + 1 < wr.heap.size := by omega
      have z2 : b + 1 + 1 < wr.heap.size := by omega
      have z3 : b + 1 + 1 + 1 < wr.heap.size := by omega
      have z4 : b + 1 + 1 + 1 + 1 < wr.heap.size := by omega
      clear hz hz0
      obtain ⟨r, hrr⟩ : ∃ r, r = rd_T45 rules (k : Int) := ⟨_, rfl⟩
      rw [← hrr] at hx0 hx1 hx2
      have HRR := Lib.hid hrr
      clear hrr
      have hmem : r ∈ rules := by rw [HRR.out]; unfold rd_T45; rw [Int.toNat_natCast, List.getD_eq_getElem?_getD, List.getElem?_eq_getElem hlt]; exact List.getElem_mem hlt
      have hro : RuleOk r := hok r hmem
      have hPr := Lib.hid (hP r hmem)
      clear hmem
      have ho1 := hro.1
      have ho2 := hro.2.1
      have hstep := Lib.hid (dueL_step rules key since what false k hlt)
      rw [← HRR.out] at hstep
      clear hro
      simp only [daysF] at c4
      by_cases hf : fits r key = true
      · by_cases hp : 0 < r.f1
        · gi_wp2_with (first
            | (refine ⟨trivial, ?_⟩; gi_at_call 67; refine (callsIn_wide.2 (d67 r _)).mono ?_; rintro e w' ⟨rfl, rfl⟩)
            | (refine ⟨trivial, ?_⟩; gi_at_call 38; refine (callsIn_wide.2 (fits_calls r key _)).mono ?_; rintro e w1 ⟨rfl, hb1⟩
               have hBw := (((Below.refl _ wr).alloc (Nat.le_refl _) _).alloc (by simp) _).trans (hb1.mono (by simp; omega))
               have c2 := (hBw.cell (p := ⟨b + 1 + 1, 0, none⟩) z2).trans c2
               have c3 := (hBw.cell (p := ⟨b + 1 + 1 + 1, 0, none⟩) z3).trans c3
               have hJ1 := Steady.below HJ.out hJs.out hBw
               obtain ⟨fn, tmps, assign, body, hy, hR⟩ := HY.out pre ⟨(since + r.f1 * 24, what), hPr.out⟩ w1 hJ1
               dsimp only [encs2] at hy
               have HBw := Lib.hid hBw
               clear hb1 hBw hJ1))
          refine hR.mono ?_
          have hst := hstep.out
          rw [if_pos (by unfold dueB daysOf; simp [hf, hp])] at hst
          have hdd : daysOf false r = r.f1 := rfl
          rw [hdd] at hst
          rintro e W' (⟨rfl, hJ', hk2⟩ | ⟨rfl, hJx', _⟩)
          · have hKw := (Keep.below HBw.out).trans hk2
            have hv := vals_snoc pre ⟨(since + r.f1 * 24, what), hPr.out⟩
            rw [hpre.out, ← hst] at hv
            have HV := Lib.hid hv
            clear hst hv
            gi_wp2
            go_roundw
            case measure => simp [intOf]; omega
            case rel => exact ⟨k + 1, by omega, by go_num, ⟨_, HV, Lib.hid hJ'⟩, Lib.hid (hds.out.kept hKw hG), Lib.hid (keep_C45 hKw hrs.out hA), Lib.hid (Nat.le_trans hsz.out hKw.size)⟩
          · have hv := vals_snoc pre ⟨(since + r.f1 * 24, what), hPr.out⟩
            rw [hpre.out, ← hst] at hv
            have HV := Lib.hid hv
            clear hst hv
            gi_wp2
            refine bodyPost_ret (results_none rfl _ _ _) rfl ?_
            exact ⟨⟨_, rfl⟩, .inr ⟨_, by rw [HV.out]; exact dueL_prefix rules key since what false (k + 1), hJx'⟩⟩
        · have hst := hstep.out
          rw [if_neg (by unfold dueB daysOf; simp [hp])] at hst
          have HST := Lib.hid hst
          clear hst
          gi_wp2_with (first
            | (refine ⟨trivial, ?_⟩; gi_at_call 67; refine (callsIn_wide.2 (d67 r _)).mono ?_; rintro e w' ⟨rfl, rfl⟩)
            | (refine ⟨trivial, ?_⟩; gi_at_call 38; refine (callsIn_wide.2 (fits_calls r key _)).mono ?_; rintro e w1 ⟨rfl, hb1⟩
               have hBw := (((Below.refl _ wr).alloc (Nat.le_refl _) _).alloc (by simp) _).trans (hb1.mono (by simp; omega))
               have HBw := Lib.hid hBw
               clear hb1 hBw))
          refine ⟨fun f h => (by cases h), ?_⟩
          gi_wp2
          have hKw := Keep.below (G := G) (B := W.heap.size) HBw.out
          have hJ1 := Steady.below HJ.out hJs.out HBw.out
          have hpre2 := hpre.out
          rw [← HST.out] at hpre2
          go_roundw
          case measure => simp [intOf]; omega
          case rel => exact ⟨k + 1, by omega, by go_num, ⟨pre, Lib.hid hpre2, Lib.hid hJ1⟩, Lib.hid (hds.out.kept hKw hG), Lib.hid (keep_C45 hKw hrs.out hA), Lib.hid (Nat.le_trans hsz.out hKw.size)⟩
      · have hst := hstep.out
        rw [if_neg (by unfold dueB; simp [hf])] at hst
        have HST := Lib.hid hst
        clear hst
        have hf' : fits r key = false := by simpa using hf
        clear hf
        gi_wp2_with (first
          | (refine ⟨trivial, ?_⟩; gi_at_call 67; refine (callsIn_wide.2 (d67 r _)).mono ?_; rintro e w' ⟨rfl, rfl⟩)
          | (refine ⟨trivial, ?_⟩; gi_at_call 38; refine (callsIn_wide.2 (fits_calls r key _)).mono ?_; rintro e w1 ⟨rfl, hb1⟩
             have hBw := (((Below.refl _ wr).alloc (Nat.le_refl _) _).alloc (by simp) _).trans (hb1.mono (by simp; omega))
             have HBw := Lib.hid hBw
             clear hb1 hBw))
        refine ⟨fun f h => (by cases h), ?_⟩
        gi_wp2
        have hKw := Keep.below (G := G) (B := W.heap.size) HBw.out
        have hJ1 := Steady.below HJ.out hJs.out HBw.out
        have hpre2 := hpre.out
        rw [← HST.out] at hpre2
        go_roundw
        case measure => simp [intOf]; omega
        case rel => exact ⟨k + 1, by omega, by go_num, ⟨pre, Lib.hid hpre2, Lib.hid hJ1⟩, Lib.hid (hds.out.kept hKw hG), Lib.hid (keep_C45 hKw hrs.out hA), Lib.hid (Nat.le_trans hsz.out hKw.size)⟩
    · obtain rfl : k = rules.length := by omega
      have hpe := hpre.out
      rw [List.take_length] at hpe
      have HPE := Lib.hid hpe
      clear hpe
      gi_wp2
      go_end0
      exact ⟨⟨_, rfl⟩, .inl ⟨pre, HPE.out, hJs.out⟩⟩
set_option maxHeartbeats 4000000 in
set_option maxRecDepth 100000 in
theorem due_stops1 (n : Nat) (hn1 : 1 ≤ n) (G : Nat → Prop) (b : Nat) (W0 : World) (A : Option Addr) (c : Nat) (key : ByteArray) (since what : Int) (rules : List S45) (hG : ∀ k, G k → k < b) (hb : b + 5 ≤ W0.heap.size) (hd : DueAt W0 b A rules.length c key since what true) (hr : Kd.C k45 W0 A rules.length rules) (hA : rules.length ≠ 0 → ∀ ad, A = some ad → ¬ G ad.block) (hok : ∀ r ∈ rules, RuleOk r) (hs : 0 ≤ since ∧ since ≤ 1048576) (hn : rules.length ≤ 1000) (P : Int × Int → Prop) (hP : ∀ r ∈ rules, P (since + daysOf true r * 24, what)) :
    Iter Try.prog n 70 (dueV b) (encs2 (P := P)) G (fun xs => vals xs = dueL rules key since what true) (fun pre => vals pre <+: dueL rules key since what true) W0 := fun l J Jx W hW hJ hJx hY h0 => by
  refine callsIn_of_wp Try.func70 rfl trivial ?_ rfl
  simp only [Try.ntmps70, List.size_toArray, List.length_cons, List.length_nil, Nat.reduceAdd, Nat.reduceSub, Array.replicate_succ, Array.replicate_zero, List.push_toArray, List.append_toArray, List.nil_append, List.cons_append, dueV]
  have hd1 := hd.kept (Keep.below (G := G) (B := 0) hW) hG
  have hr1 := keep_C45 (Keep.below (G := G) (B := 0) hW) hr hA
  have hcl := hd1.l.cell
  have HD1 := Lib.hid hd1
  have HR1 := Lib.hid hr1
  have HY := Lib.hid hY
  have HJ := Lib.hid hJ
  clear hd1 hr1 hr hd hY hJ
  gi_wp2
  clear hcl
  gi_loopw [12] (fun i wr => ∃ k : Nat, k ≤ rules.length ∧ i = .int .i64 k ∧ (∃ pre : List {p : Int × Int // P p}, Hid (vals pre = dueL (rules.take k) key since what true) ∧ Hid (J pre wr)) ∧ Hid (DueAt wr b A rules.length c key since what true) ∧ Hid (Kd.C k45 wr A rules.length rules) ∧ Hid (W.heap.size ≤ wr.heap.size))
    (fun i _ => rules.length - (intOf i).toNat)
  case atStart => exact ⟨0, Nat.zero_le _, rfl, ⟨[], Lib.hid (by simp [dueL, vals]), Lib.hid h0⟩, HD1, HR1, Lib.hid (Nat.le_refl _)⟩
  case round =>
    obtain ⟨k, hk, rfl, ⟨pre, hpre, hJs⟩, hds, hrs, hsz⟩ := hrel
    by_cases hlt : k < rules.length
    · obtain ⟨ad, ea, hx0, hx1, hx2⟩ := at_T45 hrs.out (k : Int) (by omega) (by omega)
      rw [Int.toNat_natCast] at hx0 hx1 hx2
      subst ea
      have hds' := hds.out
      have c1 := hds'.key.cell
      have c2 := hds'.since.cell
      have c3 := hds'.what.cell
      have c4 := hds'.days.cell
      clear hds'
      have hz := hsz.out
      have hz0 := hW.size
      have z0 : b < wr.heap.size := by omega
      have z1 : b + 1 < wr.heap.size := by omega
      have z2 : b + 1 + 1 < wr.heap.size := by omega
      have z3 : b + 1 + 1 + 1 < wr.heap.size := by omega
      have z4 : b + 1 + 1 + 1 + 1 < wr.heap.size := by omega
      clear hz hz0
      obtain ⟨r, hrr⟩ : ∃ r, r = rd_T45 rules (k : Int) := ⟨_, rfl⟩
      rw [← hrr] at hx0 hx1 hx2
      have HRR := Lib.hid hrr
      clear hrr
      have hmem : r ∈ rules := by rw [HRR.out]; unfold rd_T45; rw [Int.toNat_natCast, List.getD_eq_getElem?_getD, List.getElem?_eq_getElem hlt]; exact List.getElem_mem hlt
      have hro : RuleOk r := hok r hmem
      have hPr := Lib.hid (hP r hmem)
      clear hmem
      have ho1 := hro.2.2.1
      have ho2 := hro.2.2.2
      have hstep := Lib.hid (dueL_step rules key since what true k hlt)
      rw [← HRR.out] at hstep
      clear hro
      simp only [daysF] at c4
      by_cases hf : fits r key = true
      · by_cases hp : 0 < r.f2
        · gi_wp2_with (first
            | (refine ⟨trivial, ?_⟩; gi_at_call 68; refine (callsIn_wide.2 (d68 r _)).mono ?_; rintro e w' ⟨rfl, rfl⟩)
            | (refine ⟨trivial, ?_⟩; gi_at_call 38; refine (callsIn_wide.2 (fits_calls r key _)).mono ?_; rintro e w1 ⟨rfl, hb1⟩
               have hBw := (((Below.refl _ wr).alloc (Nat.le_refl _) _).alloc (by simp) _).trans (hb1.mono (by simp; omega))
               have c2 := (hBw.cell (p := ⟨b + 1 + 1, 0, none⟩) z2).trans c2
               have c3 := (hBw.cell (p := ⟨b + 1 + 1 + 1, 0, none⟩) z3).trans c3
               have hJ1 := Steady.below HJ.out hJs.out hBw
               obtain ⟨fn, tmps, assign, body, hy, hR⟩ := HY.out pre ⟨(since + r.f2 * 24, what), hPr.out⟩ w1 hJ1
               dsimp only [encs2] at hy
               have HBw := Lib.hid hBw
               clear hb1 hBw hJ1))
          refine hR.mono ?_
          have hst := hstep.out
          rw [if_pos (by unfold dueB daysOf; simp [hf, hp])] at hst
          have hdd : daysOf true r = r.f2 := rfl
          rw [hdd] at hst
          rintro e W' (⟨rfl, hJ', hk2⟩ | ⟨rfl, hJx', _⟩)
          · have hKw := (Keep.below HBw.out).trans hk2
            have hv := vals_snoc pre ⟨(since + r.f2 * 24, what), hPr.out⟩
            rw [hpre.out, ← hst] at hv
            have HV := Lib.hid hv
            clear hst hv
            gi_wp2
            go_roundw
            case measure => simp [intOf]; omega
            case rel => exact ⟨k + 1, by omega, by go_num, ⟨_, HV, Lib.hid hJ'⟩, Lib.hid (hds.out.kept hKw hG), Lib.hid (keep_C45 hKw hrs.out hA), Lib.hid (Nat.le_trans hsz.out hKw.size)⟩
          · have hv := vals_snoc pre ⟨(since + r.f2 * 24, what), hPr.out⟩
            rw [hpre.out, ← hst] at hv
            have HV := Lib.hid hv
            clear hst hv
            gi_wp2
            refine bodyPost_ret (results_none rfl _ _ _) rfl ?_
            exact ⟨⟨_, rfl⟩, .inr ⟨_, by rw [HV.out]; exact dueL_prefix rules key since what true (k + 1), hJx'⟩⟩
        · have hst := hstep.out
          rw [if_neg (by unfold dueB daysOf; simp [hp])] at hst
          have HST := Lib.hid hst
          clear hst
          gi_wp2_with (first
            | (refine ⟨trivial, ?_⟩; gi_at_call 68; refine (callsIn_wide.2 (d68 r _)).mono ?_; rintro e w' ⟨rfl, rfl⟩)
            | (refine ⟨trivial, ?_⟩; gi_at_call 38; refine (callsIn_wide.2 (fits_calls r key _)).mono ?_; rintro e w1 ⟨rfl, hb1⟩
               have hBw := (((Below.refl _ wr).alloc (Nat.le_refl _) _).alloc (by simp) _).trans (hb1.mono (by simp; omega))
               have HBw := Lib.hid hBw
               clear hb1 hBw))
          refine ⟨fun f h => (by cases h), ?_⟩
          gi_wp2
          have hKw := Keep.below (G := G) (B := W.heap.size) HBw.out
          have hJ1 := Steady.below HJ.out hJs.out HBw.out
          have hpre2 := hpre.out
          rw [← HST.out] at hpre2
          go_roundw
          case measure => simp [intOf]; omega
          case rel => exact ⟨k + 1, by omega, by go_num, ⟨pre, Lib.hid hpre2, Lib.hid hJ1⟩, Lib.hid (hds.out.kept hKw hG), Lib.hid (keep_C45 hKw hrs.out hA), Lib.hid (Nat.le_trans hsz.out hKw.size)⟩
      · have hst := hstep.out
        rw [if_neg (by unfold dueB; simp [hf])] at hst
        have HST := Lib.hid hst
        clear hst
        have hf' : fits r key = false := by simpa using hf
        clear hf
        gi_wp2_with (first
          | (refine ⟨trivial, ?_⟩; gi_at_call 68; refine (callsIn_wide.2 (d68 r _)).mono ?_; rintro e w' ⟨rfl, rfl⟩)
          | (refine ⟨trivial, ?_⟩; gi_at_call 38; refine (callsIn_wide.2 (fits_calls r key _)).mono ?_; rintro e w1 ⟨rfl, hb1⟩
             have hBw := (((Below.refl _ wr).alloc (Nat.le_refl _) _).alloc (by simp) _).trans (hb1.mono (by simp; omega))
             have HBw := Lib.hid hBw
             clear hb1 hBw))
        refine ⟨fun f h => (by cases h), ?_⟩
        gi_wp2
        have hKw := Keep.below (G := G) (B := W.heap.size) HBw.out
        have hJ1 := Steady.below HJ.out hJs.out HBw.out
        have hpre2 := hpre.out
        rw [← HST.out] at hpre2
        go_roundw
        case measure => simp [intOf]; omega
        case rel => exact ⟨k + 1, by omega, by go_num, ⟨pre, Lib.hid hpre2, Lib.hid hJ1⟩, Lib.hid (hds.out.kept hKw hG), Lib.hid (keep_C45 hKw hrs.out hA), Lib.hid (Nat.le_trans hsz.out hKw.size)⟩
    · obtain rfl : k = rules.length := by omega
      have hpe := hpre.out
      rw [List.take_length] at hpe
      have HPE := Lib.hid hpe
      clear hpe
      gi_wp2
      go_end0
      exact ⟨⟨_, rfl⟩, .inl ⟨pre, HPE.out, hJs.out⟩⟩
end Go.Proofs.Ytpogicakpgpkcaa.RRuleTells
