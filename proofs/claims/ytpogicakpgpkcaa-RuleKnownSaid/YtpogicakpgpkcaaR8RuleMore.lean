/- RuleKnown: the chapter's examples are answered as it says. -/
import Derived.Test.YtpogicakpgpkcaaR7RuleMore
namespace Go.Proofs.Ytpogicakpgpkcaa.RRuleMore
open Go.RowKit Go.Shelf Go.Proofs.Ytpogicakpgpkcaa.It Go.Proofs.Ytpogicakpgpkcaa.PRuleMore Go.Proofs.YtpogicakpgpkcaaW.PrintWords Go.Proofs.YtpogicakpgpkcaaW.PrintLast Go.Proofs.YtpogicakpgpkcaaW.PrintMore

theorem drew_below_ (w : World) : Below w.heap.size w w.drew := ⟨rfl, rfl, rfl, Nat.le_refl _, fun _ _ => rfl⟩
def key2 : ByteArray := ⟨#[98]⟩
theorem asked2_98 : rule_asked.f 12 rules1 key2 vs1 98 = some 0 := by kernel_rfl
theorem newest2_98 : newestF rules1 key2 vs1 98 = false := by kernel_rfl
/-- What stays while a region goes on: the entry's cells. -/
def St (u : World) (g : Nat) (s : ByteArray) (V : Option Addr) (cv : Nat) (w' : World) : Prop :=
  w'.cell? ⟨g, 0, none⟩ = some (.string s) ∧ w'.cell? ⟨g, 1, none⟩ = some (.slice V vs1.length cv) ∧ Below u.heap.size u w'
theorem St.step {u : World} {g : Nat} {s : ByteArray} {V : Option Addr} {cv : Nat} {w1 w2 : World} (h : St u g s V cv w1) (hb : Below w1.heap.size w1 w2) : St u g s V cv w2 :=
  ⟨(hb.cell (World.block_lt_of_cell? w1 _ h.1)).trans h.1, (hb.cell (World.block_lt_of_cell? w1 _ h.2.1)).trans h.2.1, two_below h.2.2 hb⟩
def vs2 : List S53 := [(⟨(⟨#[118, 50]⟩ : ByteArray), 50, true, 0, (⟨#[]⟩ : ByteArray)⟩ : S53), (⟨(⟨#[118, 49]⟩ : ByteArray), 10, false, 0, (⟨#[]⟩ : ByteArray)⟩ : S53)]
theorem good2 : Good rules1 vs2 := by
  refine ⟨good1.ok, fun v h => ?_, by decide, by decide⟩
  simp only [vs2, List.mem_cons, List.not_mem_nil, or_false] at h
  rcases h with rfl | rfl <;> decide
theorem asked1_73 : rule_asked.f 12 rules1 key1 vs1 73 = some 0 := by kernel_rfl
theorem asked1_0 : rule_asked.f 12 rules1 key1 vs1 0 = some 0 := by kernel_rfl
theorem asked3_98 : rule_asked.f 12 rules1 key1 vs2 98 = some 0 := by kernel_rfl
theorem old1_73 : oldF rules1 key1 vs1 73 = [] := by kernel_rfl
theorem next1_0 : nextF rules1 key1 vs1 0 = 74 := by kernel_rfl
theorem next1_74 : nextF rules1 key1 vs1 74 = 98 := by kernel_rfl
theorem next1_98 : nextF rules1 key1 vs1 98 = 0 := by kernel_rfl
theorem newest3_98 : newestF rules1 key1 vs2 98 = false := by kernel_rfl
theorem check_none : rule_Check.f 12 [z45] = some 2 := by kernel_rfl
theorem check_nine : rule_Check.f 12 (List.replicate 9 z45) = some 3 := by kernel_rfl
def cells1 : List Value := [.string ⟨#[118, 50]⟩, .int .i64 50, .bool false, .int .i64 0, .string ⟨#[]⟩, .string ⟨#[118, 49]⟩, .int .i64 10, .bool false, .int .i64 0, .string ⟨#[]⟩]
theorem two_own (w : World) : Calls Try.prog 49 #[] w fun e w' => ∃ g cv, e = .returned (.agg #[.string key1, .slice (some ⟨g, 0, none⟩) vs1.length cv]) ∧ vs1.length ≤ cv ∧ w.heap.size ≤ g ∧ w'.ownsRow w.heap.size 53 5 (.slice (some ⟨g, 0, none⟩) 2 cv) 2 cells1 ∧ Below w.heap.size w w' := by
  refine (stowagelaw22_two.calls key1 vs1 w rfl).mono ?_
  rintro e w' ⟨v, rfl, hr, hb⟩
  obtain ⟨_, inner, ho, hreps⟩ := hr
  have hin : inner = cells1 := by
    have h0 := k53_openM (hreps.2 0 _ rfl)
    have h1 := k53_openM (hreps.2 1 _ rfl)
    have hl : inner.length = 10 := hreps.1
    have e : inner = (inner.drop (0 * 5)).take 5 ++ (inner.drop (1 * 5)).take 5 := by
      apply List.ext_getElem?
      intro i
      rw [List.getElem?_append]
      simp only [Nat.zero_mul, List.drop_zero, List.length_take, hl, Nat.one_mul]
      split
      · rw [List.getElem?_take]; rw [if_pos (by omega)]
      · rw [List.getElem?_take]
        split
        · rw [List.getElem?_drop]; congr 1; omega
        · exact List.getElem?_eq_none (by omega)
    rw [e]
    have h0' : (inner.drop (0 * 5)).take 5 = _ := h0
    have h1' : (inner.drop (1 * 5)).take 5 = _ := h1
    rw [h0', h1']; rfl
  subst hin
  rcases ho.2 with ⟨h, h2⟩ | ⟨g, cap, cur, rfl, hg, _, hle, _⟩
  · cases h2
  · exact ⟨g, cap, rfl, hle, hg, ho, hb⟩
theorem reps_vs2 (w : World) : Reps (k53.K w) 5 vs2 (cells1.set 2 (.bool true)) := by
  refine ⟨rfl, fun j p hj => ?_⟩
  match j, hj with
  | 0, hj => simp only [vs2, List.getElem?_cons_zero, Option.some.injEq] at hj; subst hj; exact k53_mk w _
  | 1, hj => simp only [vs2, List.getElem?_cons_succ, List.getElem?_cons_zero, Option.some.injEq] at hj; subst hj; exact k53_mk w _
  | j + 2, hj => simp [vs2] at hj
theorem none_C (w : World) : Kd.C k45 (w.alloc (.cells #[.string ⟨#[]⟩, .int .i64 0, .int .i64 0] 45)) (some ⟨w.heap.size, 0, none⟩) 1 [z45] := by
  have ho := World.ownsRow_lit (e := 45) (size := 3) (base := 0) w #[.string ⟨#[]⟩, .int .i64 0, .int .i64 0] 1 (Nat.zero_le _) (by decide) rfl
  obtain ⟨A, c, e, h⟩ := own_reads_row (R := k45.K (w.alloc (.cells #[.string ⟨#[]⟩, .int .i64 0, .int .i64 0] 45))) ho (ps := [z45]) ⟨rfl, fun j p hj => by
    match j, hj with
    | 0, hj => simp only [List.getElem?_cons_zero, Option.some.injEq] at hj; subst hj; exact k45_mk _ _
    | j + 1, hj => simp at hj⟩ rfl
  injection e with e1 e2 e3
  rw [e1]; exact h
theorem und43 : Try.prog.underlying 43 = some (.slice 45) := by kernel_rfl
def nine : Array Value := #[.string ⟨#[]⟩, .int .i64 0, .int .i64 0, .string ⟨#[]⟩, .int .i64 0, .int .i64 0, .string ⟨#[]⟩, .int .i64 0, .int .i64 0, .string ⟨#[]⟩, .int .i64 0, .int .i64 0, .string ⟨#[]⟩, .int .i64 0, .int .i64 0, .string ⟨#[]⟩, .int .i64 0, .int .i64 0, .string ⟨#[]⟩, .int .i64 0, .int .i64 0, .string ⟨#[]⟩, .int .i64 0, .int .i64 0, .string ⟨#[]⟩, .int .i64 0, .int .i64 0]
theorem made_nine : madeCells (Value.cells (.agg #[(.string ⟨#[]⟩), (.int .i64 0), (.int .i64 0)])) 27 = nine := by kernel_rfl
theorem make_nine (w : World) : (Instr.makeSlice 43 (.int .i64 9) (.int .i64 9)).run Try.prog w = .ok (.slice (some ⟨w.heap.size, 0, none⟩) 9 9) (w.alloc (.cells nine 45)) := by
  have h3 := info45
  obtain ⟨i, hi⟩ : ∃ i, Try.prog.info? 45 = some i := by
    cases h : Try.prog.info? 45 with
    | none => rw [h] at h3; cases h3
    | some i => exact ⟨i, rfl⟩
  rw [hi] at h3
  simp only [Option.map_some, Option.some.injEq, Prod.mk.injEq] at h3
  have := run_makeSlice (P := Try.prog) w 43 45 i _ und43 hi h3.1 .i64 .i64 9 9 (by omega) (by omega) (by rw [h3.2.1]; decide) (by rw [h3.2.2]; decide) (by omega)
  rw [h3.2.1] at this
  rw [← made_nine]
  exact this
theorem nine_C (w : World) : Kd.C k45 (w.alloc (.cells nine 45)) (some ⟨w.heap.size, 0, none⟩) 9 (List.replicate 9 z45) := by
  have ho := World.ownsRow_lit (e := 45) (size := 3) (base := 0) w nine 9 (Nat.zero_le _) (by decide) rfl
  obtain ⟨A, c, e, h⟩ := own_reads_row (R := k45.K (w.alloc (.cells nine 45))) ho (ps := List.replicate 9 z45) ⟨rfl, fun j p hj => by
    have hp : p = z45 := by
      rw [List.getElem?_replicate] at hj; split at hj
      · exact (Option.some.inj hj).symm
      · cases hj
    subst hp
    have hj9 : j < 9 := by
      rw [List.getElem?_replicate] at hj; split at hj
      · assumption
      · cases hj
    have e : (nine.toList.drop (j * 3)).take 3 = [.string z45.f0, .int .i64 z45.f1, .int .i64 z45.f2] := by
      match j, hj9 with
      | 0, _ => rfl
      | 1, _ => rfl
      | 2, _ => rfl
      | 3, _ => rfl
      | 4, _ => rfl
      | 5, _ => rfl
      | 6, _ => rfl
      | 7, _ => rfl
      | 8, _ => rfl
    rw [e]; exact k45_mk _ _⟩ rfl
  injection e with e1 e2 e3
  rw [e1]; exact h
set_option maxHeartbeats 4000000 in
set_option maxRecDepth 100000 in
theorem known_calls (w : World) : Calls Try.prog 11 #[] w fun e w' => e = .returned (.bool true) ∧ Below w.heap.size w w' := by
  go_enter Try.func11, Try.ntmps11
  go_wp2_with fail
  refine (two_calls w).mono ?_
  rintro e w1 ⟨V, cv, rfl, hcv, hV, hb1⟩
  have HV := Lib.hid hV
  have HB := Lib.hid hb1
  clear hV hb1
  go_wp2_with fail
  obtain ⟨u, hu⟩ : ∃ u, u = w1.alloc (.cells #[.string ⟨#[98]⟩, .slice V vs1.length cv] 48) := ⟨_, rfl⟩
  have hblk : u.heap[w1.heap.size]? = some (.cells #[.string ⟨#[98]⟩, .slice V vs1.length cv] 48) := by rw [hu]; exact World.alloc_heap_new _ _
  have hst : St u w1.heap.size ⟨#[98]⟩ V cv u := ⟨by simp [World.cell?, hblk], by simp [World.cell?, hblk], Below.refl _ _⟩
  have HV2 := Lib.hid (show Kd.C k53 u V vs1.length vs1 by rw [hu]; exact Kd.C_alloc HV.out _)
  have HB2 := Lib.hid (show Below w.heap.size w u by rw [hu]; exact HB.out.alloc HB.out.size _)
  rw [← hu]
  have HBlk := Lib.hid hblk
  clear hu hblk HB HV
  go_region_held3 (fun w' => w'.cell? ⟨w1.heap.size, 0, none⟩ = some (.string ⟨#[98]⟩) ∧ w'.cell? ⟨w1.heap.size, 1, none⟩ = some (.slice V vs1.length cv) ∧ Below u.heap.size u w') (first | exact hst | assumption | exact St.step (by assumption) (drew_below_ _) | go_keep)
    (first
    | (go_at_call 50; refine (one_calls _).mono ?_; rintro e w2 ⟨A, c, rfl, hc, hC, hb2⟩; have hS2 := St.step (by assumption) hb2)
    | (go_at_call 35; refine (newest_calls 12 _ _ key2 V cv rules1 vs1 98 0 _ (by first | assumption | (refine Kd.C_drew ?_; assumption) | (refine Kd.C_drewN ?_ _; assumption)) (by assumption) (Kd.C_below HV2.out (by assumption : _ ∧ _ ∧ _).2.2) hcv asked2_98 (fun _ => good1)).mono ?_; rintro e w3 ⟨rfl, hb3⟩; rw [if_pos rfl, newest2_98]; have hS3 := St.step (by assumption) hb3))
  have HS := Lib.hid (two_below HB2.out (hS3 : St _ _ _ _ _ _).2.2)
  clear HB2 HBlk HV2 hst hcv
  go_wp2_with fail
  refine (one_calls w3).mono ?_
  rintro e a1 ⟨A, c, rfl, hc, hC, hb1⟩
  have HC := Lib.hid hC
  have HB := Lib.hid (two_below HS.out hb1)
  clear hC hb1 HS
  go_wp2_with fail
  refine (two_calls a1).mono ?_
  rintro e b1 ⟨V, cv, rfl, hcv, hV, hb2⟩
  have HC2 := Lib.hid (Kd.C_below HC.out hb2)
  have HV := Lib.hid hV
  have HB2 := Lib.hid (two_below HB.out hb2)
  clear hV hb2 HB HC
  go_wp2_with fail
  refine (old_calls 12 A c key1 V cv rules1 vs1 73 0 b1 HC2.out hc HV.out hcv asked1_73 (fun _ => good1)).mono ?_
  rintro e c1 ⟨v, rfl, hR, hb3⟩
  rw [if_pos rfl, old1_73] at hR
  obtain ⟨A9, c9, rfl, hc9, hC9⟩ := Kd.R_reads hR
  clear hR hC9 hc9
  have HS := Lib.hid (two_below HB2.out hb3)
  clear hb3 HB2 HC2 HV hc hcv
  go_wp2_with fail
  refine (one_calls c1).mono ?_
  rintro e a2 ⟨A, c, rfl, hc, hC, hb1⟩
  have HC := Lib.hid hC
  have HB := Lib.hid (two_below HS.out hb1)
  clear hC hb1 HS
  go_wp2_with fail
  refine (two_calls a2).mono ?_
  rintro e b2 ⟨V, cv, rfl, hcv, hV, hb2⟩
  have HC2 := Lib.hid (Kd.C_below HC.out hb2)
  have HV := Lib.hid hV
  have HB2 := Lib.hid (two_below HB.out hb2)
  clear hV hb2 HB HC
  go_wp2_with fail
  refine (next_calls 12 A c key1 V cv rules1 vs1 0 0 b2 HC2.out hc HV.out hcv asked1_0 (fun _ => good1)).mono ?_
  rintro e c2 ⟨rfl, hb3⟩
  rw [if_pos rfl, next1_0]
  have HS := Lib.hid (two_below HB2.out hb3)
  clear hb3 HB2 HC2 HV hc hcv
  go_wp2_with fail
  refine (one_calls c2).mono ?_
  rintro e a3 ⟨A, c, rfl, hc, hC, hb1⟩
  have HC := Lib.hid hC
  have HB := Lib.hid (two_below HS.out hb1)
  clear hC hb1 HS
  go_wp2_with fail
  refine (two_calls a3).mono ?_
  rintro e b3 ⟨V, cv, rfl, hcv, hV, hb2⟩
  have HC2 := Lib.hid (Kd.C_below HC.out hb2)
  have HV := Lib.hid hV
  have HB2 := Lib.hid (two_below HB.out hb2)
  clear hV hb2 HB HC
  go_wp2_with fail
  refine (next_calls 12 A c key1 V cv rules1 vs1 74 0 b3 HC2.out hc HV.out hcv asked1_74 (fun _ => good1)).mono ?_
  rintro e c3 ⟨rfl, hb3⟩
  rw [if_pos rfl, next1_74]
  have HS := Lib.hid (two_below HB2.out hb3)
  clear hb3 HB2 HC2 HV hc hcv
  go_wp2_with fail
  refine (one_calls c3).mono ?_
  rintro e a4 ⟨A, c, rfl, hc, hC, hb1⟩
  have HC := Lib.hid hC
  have HB := Lib.hid (two_below HS.out hb1)
  clear hC hb1 HS
  go_wp2_with fail
  refine (two_calls a4).mono ?_
  rintro e b4 ⟨V, cv, rfl, hcv, hV, hb2⟩
  have HC2 := Lib.hid (Kd.C_below HC.out hb2)
  have HV := Lib.hid hV
  have HB2 := Lib.hid (two_below HB.out hb2)
  clear hV hb2 HB HC
  go_wp2_with fail
  refine (next_calls 12 A c key1 V cv rules1 vs1 98 0 b4 HC2.out hc HV.out hcv asked1_98 (fun _ => good1)).mono ?_
  rintro e c4 ⟨rfl, hb3⟩
  rw [if_pos rfl, next1_98]
  have HS := Lib.hid (two_below HB2.out hb3)
  clear hb3 HB2 HC2 HV hc hcv
  go_wp2_with fail
  refine (two_own c4).mono ?_
  rintro e d1 ⟨g, cv, rfl, hcv, hg, ho, hb1⟩
  have hx1 := ho.cellAt 0 (by decide)
  have hx2 := ho.cellAt 2 (by decide)
  have hfz := ho.frozenAt 2
  have hlt : g < d1.heap.size := World.block_lt_of_cell? d1 _ hx1
  have hle := Nat.le_trans HS.out.size hg
  have HO := Lib.hid ho
  have HB := Lib.hid (two_below HS.out hb1)
  clear ho hb1 HS
  go_wp2_with fail
  obtain ⟨X, hX⟩ : ∃ X, X = d1.setCell ⟨g, 2, none⟩ (.bool true) := ⟨_, rfl⟩
  have ho2 := (HO.out.stored 2 (.bool true)).1
  rw [← hX] at ho2 ⊢
  have hC3 : Kd.C k53 X (some ⟨g, 0, none⟩) vs2.length vs2 := by
    obtain ⟨A0, c0, e0, h0⟩ := own_reads_row (R := k53.K X) ho2 (reps_vs2 X) rfl
    injection e0 with e1 e2 e3
    rw [e1]; exact h0
  have hBX : Below w.heap.size w X := by rw [hX]; exact HB.out.setCell hle _
  obtain ⟨u2, hu2⟩ : ∃ u2, u2 = X.alloc (.cells #[.string key1, .slice (some ⟨g, 0, none⟩) vs1.length cv] 48) := ⟨_, rfl⟩
  have hszX : X.heap.size = d1.heap.size := by rw [hX]; simp
  have hblk2 : u2.heap[d1.heap.size]? = some (.cells #[.string key1, .slice (some ⟨g, 0, none⟩) vs1.length cv] 48) := by rw [hu2, ← hszX]; exact World.alloc_heap_new _ _
  have hst2 : St u2 d1.heap.size key1 (some ⟨g, 0, none⟩) cv u2 := ⟨by simp [World.cell?, hblk2], by simp [World.cell?, hblk2], Below.refl _ _⟩
  have HV2 := Lib.hid (show Kd.C k53 u2 (some ⟨g, 0, none⟩) vs2.length vs2 by rw [hu2]; exact Kd.C_alloc hC3 _)
  have HB2 := Lib.hid (show Below w.heap.size w u2 by rw [hu2]; exact hBX.alloc hBX.size _)
  rw [← hu2]
  clear hu2 hblk2 HB hC3 hBX hszX ho2 hX hx1 hx2 hfz HO hb2 hS2 hb3 hS3 hC hc
  try clear hHeld
  go_region_held3 (fun w' => w'.cell? ⟨d1.heap.size, 0, none⟩ = some (.string key1) ∧ w'.cell? ⟨d1.heap.size, 1, none⟩ = some (.slice (some ⟨g, 0, none⟩) vs1.length cv) ∧ Below u2.heap.size u2 w') (first | exact hst2 | assumption | exact St.step (by assumption) (drew_below_ _) | go_keep)
    (first
    | (go_at_call 50; refine (one_calls _).mono ?_; rintro e x2 ⟨A, c, rfl, hc, hC, hb2⟩; have hS2 := St.step (u := u2) (by assumption) hb2)
    | (go_at_call 35; refine (newest_calls 12 _ _ key1 (some ⟨g, 0, none⟩) cv rules1 vs2 98 0 _ (by first | assumption | (refine Kd.C_drew ?_; assumption) | (refine Kd.C_drewN ?_ _; assumption)) (by assumption) (Kd.C_below HV2.out (by assumption : _ ∧ _ ∧ _).2.2) hcv asked3_98 (fun _ => good2)).mono ?_; rintro e x3 ⟨rfl, hb3⟩; rw [if_pos rfl, newest3_98]; have hS3 := St.step (u := u2) (by assumption) hb3))
  have HS := Lib.hid (two_below HB2.out (hS3 : St _ _ _ _ _ _).2.2)
  clear HB2 HV2 hst2 hcv
  go_wp2_with fail
  refine (awake_calls x3).mono ?_
  rintro e x4 ⟨rfl, hb4⟩
  have HS4 := Lib.hid (two_below HS.out hb4)
  clear hb4 HS
  go_wp2_with fail
  refine (rule_Check.calls 12 _ 1 [z45] 2 _ (none_C x4) (Nat.le_refl _) check_none).mono ?_
  rintro e x5 ⟨rfl, hb5⟩
  have HS5 := Lib.hid (HS4.out.trans ((((Below.refl _ x4).alloc (Nat.le_refl _) _).trans (hb5.mono (by simp))).mono HS4.out.size))
  have hmk := make_nine x5
  clear hb5 HS4
  go_wp2_with fail
  refine (rule_Check.calls 12 _ 9 (List.replicate 9 z45) 3 _ (nine_C x5) (Nat.le_refl _) check_nine).mono ?_
  rintro e x6 ⟨rfl, hb6⟩
  have HS6 := Lib.hid (HS5.out.trans ((((Below.refl _ x5).alloc (Nat.le_refl _) _).trans (hb6.mono (by simp))).mono HS5.out.size))
  clear hb6 HS5 hmk
  go_wp2_with fail
  go_ret
  exact ⟨rfl, HS6.out⟩
end Go.Proofs.Ytpogicakpgpkcaa.RRuleMore
