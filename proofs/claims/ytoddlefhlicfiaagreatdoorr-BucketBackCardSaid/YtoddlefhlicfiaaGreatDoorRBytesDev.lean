/- bucket.Bytes: what it does. No statement of the seat stands here. -/
import Derived.Test.YtoddlefhlicfiaaGreatDoorRChkDev
import Derived.Test.YtoddlefhlicfiaaGreatDoorRPutDev
set_option linter.unusedSimpArgs false
set_option linter.unusedVariables false
namespace Go.Proofs.YtoddlefhlicfiaaGreatDoorR.RdrDev
open Go Go.RowKit Go.Proofs.Bb
def ruN (r : RL) : Rul := ⟨sn r.p, r.d.toNat, r.o.toNat⟩
def bucN (nm : ByteArray) (t st : Int) (rs : List RL) : Buc := ⟨sn nm, t.toNat, st.toNat, rs.map ruN⟩
theorem encRs_app : ∀ (a b : List Rul), encRs (a ++ b) = encRs a ++ encRs b
  | [], _ => rfl
  | x :: a, b => by rw [List.cons_append, encRs, encRs, encRs_app a b, List.append_assoc]
theorem good_rule {r : RL} (h : goodR r = true) : r.p.size ≤ 120 ∧ 0 ≤ r.d ∧ r.d ≤ 10000 ∧ 0 ≤ r.o ∧ r.o ≤ 10000 := by
  simp only [goodR, Bool.and_eq_true, decide_eq_true_eq] at h
  exact ⟨h.2.1, h.2.2.1, h.2.2.2.1, h.2.2.2.2.1, h.2.2.2.2.2.1⟩
theorem good_all {nm : ByteArray} {t st : Int} {rs : List RL} (h : goodB nm t st rs = true) : nm.size ≤ 32 ∧ 0 ≤ t ∧ t ≤ 1048576 ∧ 0 ≤ st ∧ st ≤ 2 ∧ rs.length ≤ 8 ∧ ∀ r ∈ rs, goodR r = true := by
  simp only [goodB, Bool.and_eq_true, decide_eq_true_eq, Bool.not_eq_true', List.any_eq_false] at h
  obtain ⟨h0, h1, h2, h3, h4, h5, h6⟩ := h
  refine ⟨?_, h1, h2, h3, h4, h5, fun r hr => by simpa using h6 r hr⟩
  apply Classical.byContradiction
  intro hn
  rw [bucketN_long nm (by omega)] at h0
  cases h0
theorem ints3 (W : World) (a b c : Nat) : IntsAt (W.alloc (.cells #[.int .i64 (a : Int), .int .i64 (b : Int), .int .i64 (c : Int)] 3)) ⟨W.heap.size, 0, none⟩ [a, b, c] := by
  intro j hj
  rw [add_at]
  have := heap_alloc_new W (.cells #[.int .i64 (a : Int), .int .i64 (b : Int), .int .i64 (c : Int)] 3)
  simp only [World.cell?, this]
  match j, hj with
  | 0, _ => rfl
  | 1, _ => rfl
  | 2, _ => rfl
theorem ints2 (W : World) (a b : Nat) : IntsAt (W.alloc (.cells #[.int .i64 (a : Int), .int .i64 (b : Int)] 3)) ⟨W.heap.size, 0, none⟩ [a, b] := by
  intro j hj
  rw [add_at]
  have := heap_alloc_new W (.cells #[.int .i64 (a : Int), .int .i64 (b : Int)] 3)
  simp only [World.cell?, this]
  match j, hj with
  | 0, _ => rfl
  | 1, _ => rfl
theorem rl_len (r : RL) (h : goodR r = true) : (encR (ruN r)).length ≤ 200 := by
  obtain ⟨h1, h2, h3, h4, h5⟩ := good_rule h
  have a1 := encU_len 6 r.p.size (by omega)
  have a2 := encU_len 6 r.d.toNat (by omega)
  have a3 := encU_len 6 r.o.toNat (by omega)
  simp only [encR, ruN, encT, List.length_append, sn_len]
  omega
theorem rls_len : ∀ (rs : List RL), (∀ r ∈ rs, goodR r = true) → (encRs (rs.map ruN)).length ≤ 200 * rs.length
  | [], _ => Nat.le_refl _
  | r :: rs, h => by
    rw [List.map_cons, encRs, List.length_append, List.length_cons]
    have h1 := rl_len r (h r List.mem_cons_self)
    have h2 := rls_len rs (fun q hq => h q (List.mem_cons_of_mem _ hq))
    omega
set_option maxHeartbeats 8000000 in
set_option maxRecDepth 100000 in
theorem bytes_calls (nm : ByteArray) (t st : Int) (A : Option Addr) (c : Nat) (rs : List RL) (hn : nm.size ≤ 1000000000) (w : World) (hr : RulesAt w A rs) (hc : rs.length ≤ c) (hl : rs.length ≤ 1000000) (hp : ∀ r ∈ rs, r.p.size ≤ 1000000000) : Calls Tryz.prog 6 #[.agg #[.string nm, .int .i64 t, .int .i64 st, .slice A rs.length c]] w fun e w' => ((goodB nm t st rs = true → ∃ v, e = .returned (.tuple #[v, .int .i64 0]) ∧ OB w' w.heap.size v (encB (bucN nm t st rs))) ∧ (goodB nm t st rs = false → e = .returned (.tuple #[.slice none 0 0, .int .i64 2]))) ∧ Below w.heap.size w w' := by
  have HR := Lib.hid hr
  have HP := Lib.hid hp
  clear hr hp
  go_enter Tryz.func6, Tryz.ntmps6
  go_wp2_with fail
  refine (chk_calls nm t st A c rs hn _ (HR.out.below ((Below.refl _ w).alloc (Nat.le_refl _) _)) hc hl HP.out).mono ?_
  rintro e w1 ⟨rfl, hb1⟩
  have HB1 := Lib.hid (((Below.refl _ w).alloc (Nat.le_refl _) _).trans (hb1.mono (by simp)))
  have he : w1.heap[w.heap.size]? = some (.cells #[.string nm, .int .i64 t, .int .i64 st, .slice A rs.length c] 24) := by rw [hb1.block _ (by simp)]; exact heap_alloc_new w _
  have HE := Lib.hid he
  have HSZ := Lib.hid (show w.heap.size + 1 ≤ w1.heap.size by have := hb1.size; simp at this; omega)
  clear hb1 he
  cases hg : goodB nm t st rs with
  | false =>
    have hE : chkE nm t st rs = 2 := by rw [chkE, hg]; rfl
    rw [hE]
    have HG := Lib.hid hg
    clear hE hg
    go_wp2_with fail
    go_ret2
    exact ⟨⟨fun h => (by rw [HG.out] at h; cases h), fun _ => rfl⟩, HB1.out⟩
  | true =>
    obtain ⟨g0, g1, g2, g3, g4, g5, g6⟩ := good_all hg
    have hE : chkE nm t st rs = 0 := by rw [chkE, hg]; rfl
    rw [hE]
    have HGT := Lib.hid hg
    clear hE hg
    have HG := Lib.hid g6
    clear g6
    obtain ⟨tn, rfl⟩ := Int.eq_ofNat_of_zero_le g1
    obtain ⟨sn', rfl⟩ := Int.eq_ofNat_of_zero_le g3
    have c0 : w1.cell? ⟨w.heap.size, 0, none⟩ = some (.string nm) := by simp [World.cell?, HE.out]
    have c1 : w1.cell? ⟨w.heap.size, 1, none⟩ = some (.int .i64 (tn : Int)) := by simp [World.cell?, HE.out]
    have c2 : w1.cell? ⟨w.heap.size, 2, none⟩ = some (.int .i64 (sn' : Int)) := by simp [World.cell?, HE.out]
    have c3 : w1.cell? ⟨w.heap.size, 3, none⟩ = some (.slice A rs.length c) := by simp [World.cell?, HE.out]
    go_wp2_with fail
    refine (put_calls (w.heap.size + 1) _ [] nm ⟨w1.heap.size, 0, none⟩ [tn, sn', rs.length] 3 _ (OB.nil _ _) (by omega) (by simp) (by have := HSZ.out; simp; omega) (by simp) (by simp; omega) (by simp) (ints3 _ _ _ _) (fun k hk => (by cases hk)) (by simp)).mono ?_
    rintro e w2 ⟨⟨v2, rfl, ho2⟩, hb2⟩
    have HB2 := Lib.hid ((HB1.out.alloc HB1.out.size _).trans (hb2.mono (Nat.le_succ _)))
    have HO2 := Lib.hid (ho2.mono (Nat.le_succ _))
    have c3' : w2.cell? ⟨w.heap.size, 3, none⟩ = some (.slice A rs.length c) := by
      rw [hb2.cell (Nat.lt_succ_self _), World.cell?_alloc_lt _ _ _ (World.block_lt_of_cell? w1 _ c3)]
      exact c3
    have hlen0 : ([] ++ (encT (sn nm) ++ encN [tn, sn', rs.length]) : List Nat).length ≤ 1000 := by
      have a1 := encU_len 6 nm.size (by omega)
      have a2 := encN_len [tn, sn', rs.length] (by simp; omega)
      simp only [List.nil_append, List.length_append, encT, sn_len] at a2 ⊢
      simp at a2
      omega
    obtain ⟨hd, hhd⟩ : ∃ hd : List Nat, hd = [] ++ (encT (sn nm) ++ encN [tn, sn', rs.length]) := ⟨_, rfl⟩
    rw [← hhd] at HO2 hlen0
    have HHD := Lib.hid hhd
    have HL0 := Lib.hid hlen0
    clear hb2 ho2 hlen0 hhd c0 c1 c2 HE
    clear c3
    go_wp2_with fail
    go_loopw [5, 27] (fun v5 v27 wr => ∃ j : Nat, j ≤ rs.length ∧ v27 = .int .i64 (j : Int) ∧ Hid (OB wr w.heap.size v5 (hd ++ encRs ((rs.take j).map ruN))) ∧ Hid (Below w.heap.size w wr)) (fun _ v27 _ => rs.length - (intAt2 v27).toNat)
    case atStart => exact ⟨0, Nat.zero_le _, rfl, Lib.hid (by simpa [encRs] using HO2.out), HB2⟩
    case round =>
      obtain ⟨j, hj, rfl, ho, hb⟩ := hrel
      by_cases hlt : j < rs.length
      · have hin : (j : Int) < (rs.length : Int) := by omega
        have hin0 : (0 : Int) ≤ (j : Int) := by omega
        obtain ⟨ad, p, d, o, rfl, e2, k0, k1, k2⟩ := (HR.out.below hb.out).cell j hlt
        have hmem := List.mem_of_getElem? e2
        have hgr := HG.out _ hmem
        obtain ⟨q1, q2, q3, q4, q5⟩ := good_rule hgr
        dsimp only at q1 q2 q3 q4 q5
        obtain ⟨dn, rfl⟩ := Int.eq_ofNat_of_zero_le q2
        obtain ⟨on, rfl⟩ := Int.eq_ofNat_of_zero_le q4
        have hst : encRs ((rs.take (j + 1)).map ruN) = encRs ((rs.take j).map ruN) ++ (encT (sn p) ++ encN [dn, on]) := by
          rw [List.take_add_one, e2, List.map_append, encRs_app]
          simp [encRs, encR, ruN, encN]
        have hlj : (encRs ((rs.take j).map ruN)).length ≤ 1600 := by
          have := rls_len (rs.take j) (fun r hr => HG.out r (List.mem_of_mem_take hr))
          rw [List.length_take] at this
          omega
        have HST := Lib.hid hst
        clear hst hmem hgr e2
        go_wp2_with fail
        have hI2 := ints2 (wr.alloc (.cells #[.string p, .int .i64 (dn : Int), .int .i64 (on : Int)] 44)) dn on
        rw [World.size_alloc] at hI2
        refine (put_calls w.heap.size u5 _ p ⟨wr.heap.size + 1, 0, none⟩ [dn, on] 2 _ ((ho.out.alloc _).alloc _) (by omega) (by have := HL0.out; rw [List.length_append]; omega) (by have := hb.out.size; simp; omega) (by simp) (by simp; omega) (by simp) hI2 (fun k hk => by have := (ho.out.lt k hk).2; simp; omega) (by simp)).mono ?_
        rintro e w3 ⟨⟨v3, rfl, ho3⟩, hb3⟩
        have HO3 := Lib.hid ho3
        have HB3 := Lib.hid (((hb.out.alloc hb.out.size _).alloc (by have := hb.out.size; simp; omega) _).trans hb3)
        clear ho3 hb3 k0 k1 k2 hI2
        go_wp2_with fail
        case roundEnd => exact ⟨⟨j + 1, by omega, by go_num, Lib.hid (by rw [HST.out, ← List.append_assoc]; exact HO3.out), HB3⟩, by simp [intAt2]; omega⟩
      · obtain rfl : j = rs.length := by omega
        have hin : ¬ (rs.length : Int) < (rs.length : Int) := by omega
        go_wp2_with fail
        go_ret2
        refine ⟨⟨fun _ => ⟨u5, rfl, ?_⟩, fun h => (by rw [HGT.out] at h; cases h)⟩, hb.out⟩
        have := ho.out
        rw [List.take_length, HHD.out] at this
        simpa [encB, bucN, encN] using this
end Go.Proofs.YtoddlefhlicfiaaGreatDoorR.RdrDev
