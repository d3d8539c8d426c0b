/- bucket.put: what it does. No statement of the seat stands here. -/
import Derived.Test.YtoddlefhlicfiaaGreatDoorRWrDev
set_option linter.unusedSimpArgs false
set_option linter.unusedVariables false
namespace Go.Proofs.YtoddlefhlicfiaaGreatDoorR.RdrDev
open Go Go.RowKit Go.Proofs.Bb
def encN : List Nat → List Nat
  | [] => []
  | n :: l => encU n ++ encN l
theorem encN_app : ∀ (a b : List Nat), encN (a ++ b) = encN a ++ encN b
  | [], _ => rfl
  | x :: a, b => by rw [List.cons_append, encN, encN, encN_app a b, List.append_assoc]
theorem encN_len : ∀ (l : List Nat), (∀ n ∈ l, n ≤ 1099511627776) → (encN l).length ≤ 7 * l.length
  | [], _ => Nat.le_refl _
  | n :: l, h => by
    rw [encN, List.length_append, List.length_cons]
    have h1 := encU_len 6 n (by have := h n List.mem_cons_self; omega)
    have h2 := encN_len l (fun m hm => h m (List.mem_cons_of_mem _ hm))
    omega
def IntsAt (W : World) (ad : Addr) (ns : List Nat) : Prop := ∀ j, j < ns.length → W.cell? (ad.add j) = some (.int .i64 ((ns.getD j 0 : Nat) : Int))
theorem w1_ (j : Nat) (h : j ≤ 1000000) : (((j : Int) + 1 + 9223372036854775808) % 18446744073709551616 - 9223372036854775808) = ((j + 1 : Nat) : Int) := by omega
theorem add_block (ad : Addr) (j : Nat) : (ad.add j).block = ad.block := by unfold Addr.add; split <;> rfl
set_option maxHeartbeats 4000000 in
set_option maxRecDepth 100000 in
theorem put_calls (B : Nat) (v : Value) (bs : List Nat) (s : ByteArray) (ad : Addr) (ns : List Nat) (c : Nat) (w : World) (hO : OB w B v bs) (hs : s.size ≤ 65536) (hl : bs.length ≤ 100000000) (hB : B ≤ w.heap.size) (hc : ns.length ≤ c) (hn : ∀ n ∈ ns, n ≤ 1099511627776) (hnl : ns.length ≤ 100) (hi : IntsAt w ad ns) (hne : ∀ k, v.ownBlock = some k → k ≠ ad.block) (hpos : 0 < ns.length) :
    Calls Tryz.prog 15 #[v, .string s, .slice (some ad) ns.length c] w fun e w' => (∃ v', e = .returned v' ∧ OB w' B v' (bs ++ (encT (sn s) ++ encN ns))) ∧ Below B w w' := by
  have HO := Lib.hid hO
  have HI := Lib.hid hi
  have HNE := Lib.hid hne
  have HN := Lib.hid hn
  have hblk : ad.block < w.heap.size := by
    have := World.block_lt_of_cell? w _ (hi 0 hpos)
    rwa [add_block] at this
  clear hO hi hne hn
  go_enter Tryz.func15, Tryz.ntmps15
  go_wp2_with fail
  refine (text_calls s hs _).mono ?_
  rintro e w1 ⟨⟨x, rfl, hx⟩, hb1⟩
  have HX := Lib.hid hx
  have HB1 := Lib.hid hb1
  have HO1 := Lib.hid (HO.out.below hb1)
  have hlt : (encT (sn s)).length ≤ 100000 := by
    have := encU_len 6 s.size (by omega)
    rw [encT, List.length_append, sn_len]
    omega
  clear hx hb1
  go_wp2_with (refine wp_app_at rfl (.tmp 18) (.tmp 19) rfl B bs (encT (sn s)) HO1.out HX.out.in.weak rfl rfl (by omega) (Nat.le_trans hB HB1.out.size) ?_; intro v2 w2 hO2 hg2 hat2)
  have HO2 := Lib.hid hO2
  have HB2 := Lib.hid (HO1.out.grown (HB1.out.mono hB) hg2 (Nat.le_trans hB HB1.out.size))
  have hsz : w.heap.size ≤ w2.heap.size := Nat.le_trans HB1.out.size hg2.size
  have HNE2 := Lib.hid (show ∀ k, v2.ownBlock = some k → k ≠ ad.block by
    intro k hk
    rcases hat2 with h | h
    · exact HNE.out k (h ▸ hk)
    · rw [hk] at h
      injection h with h
      have := HB1.out.size
      omega)
  have HI2 := Lib.hid (show IntsAt w2 ad ns by
    intro j hj
    have h1 : w1.cell? (ad.add j) = some (.int .i64 ((ns.getD j 0 : Nat) : Int)) := by
      rw [HB1.out.cell (by rw [add_block]; exact hblk)]
      exact HI.out j hj
    refine hg2.cell h1 ?_
    intro e
    rw [add_block] at e
    exact HNE.out _ e.symm rfl)
  clear hO2 hg2 hat2
  go_wp2_with fail
  go_loopw [0, 23] (fun v0 v23 wr => ∃ j : Nat, j ≤ ns.length ∧ v23 = .int .i64 (j : Int) ∧ Hid (OB wr B v0 (bs ++ encT (sn s) ++ encN (ns.take j))) ∧ Hid (Below B w wr) ∧ Hid (w.heap.size ≤ wr.heap.size) ∧ Hid (IntsAt wr ad ns) ∧ Hid (∀ k, v0.ownBlock = some k → k ≠ ad.block)) (fun _ v23 _ => ns.length - (intAt v23).toNat)
  case atStart => exact ⟨0, Nat.zero_le _, rfl, Lib.hid (by simpa [encN] using HO2.out), HB2, Lib.hid hsz, HI2, HNE2⟩
  case round =>
    obtain ⟨j, hj, rfl, ho, hb, hsz', hi, hne⟩ := hrel
    by_cases hlt' : j < ns.length
    · have c0 := hi.out j hlt'
      have hin : (j : Int) < (ns.length : Int) := by omega
      have hin0 : (0 : Int) ≤ (j : Int) := by omega
      have hmem : ns.getD j 0 ∈ ns := by
        rw [List.getD_eq_getElem?_getD, List.getElem?_eq_getElem hlt']
        exact List.getElem_mem hlt'
      have hn1 := HN.out _ hmem
      have hstep : encN (ns.take (j + 1)) = encN (ns.take j) ++ encU (ns.getD j 0) := by
        rw [List.take_add_one, List.getElem?_eq_getElem hlt', encN_app, List.getD_eq_getElem?_getD, List.getElem?_eq_getElem hlt']
        simp [encN]
      generalize ns.getD j 0 = n at c0 hn1 hstep
      have HST := Lib.hid hstep
      have hlj : (encN (ns.take j)).length ≤ 700 := by
        have := encN_len (ns.take j) (fun m hm => HN.out m (List.mem_of_mem_take hm))
        rw [List.length_take] at this
        omega
      have h7 := encU_len 6 n (by omega)
      clear hstep hmem
      go_wp2_with fail
      refine (uint_calls n hn1 _).mono ?_
      rintro e w3 ⟨⟨y, rfl, hy⟩, hb3⟩
      have HY := Lib.hid hy
      have HB3 := Lib.hid hb3
      have HO3 := Lib.hid (ho.out.below hb3)
      have hBr : B ≤ wr.heap.size := Nat.le_trans hB hsz'.out
      have hB3 : B ≤ w3.heap.size := Nat.le_trans hBr hb3.size
      clear hy hb3
      go_wp2_with (refine wp_app_at rfl (.tmp 32) (.tmp 33) rfl B _ (encU n) HO3.out HY.out.in.weak rfl rfl (by simp only [List.length_append]; omega) hB3 ?_; intro v4 w4 hO4 hg4 hat4)
      go_roundw
      case measure =>
        try rw [w1_ j (by omega)]
        show ns.length - ((((j + 1 : Nat) : Int))).toNat < ns.length - ((j : Nat) : Int).toNat
        omega
      case rel =>
        have hbr : ad.block < wr.heap.size := Nat.lt_of_lt_of_le hblk hsz'.out
        refine ⟨j + 1, by omega, by first | rfl | (simp; omega) | (rw [w1_ j (by omega)]), Lib.hid ?_, Lib.hid ?_, Lib.hid ?_, Lib.hid ?_, Lib.hid ?_⟩
        · rw [HST.out, ← List.append_assoc]; exact hO4
        · exact HO3.out.grown (hb.out.trans (HB3.out.mono hBr)) hg4 hB3
        · exact Nat.le_trans hsz'.out (Nat.le_trans HB3.out.size hg4.size)
        · intro i hi'
          have h1 : w3.cell? (ad.add i) = some (.int .i64 ((ns.getD i 0 : Nat) : Int)) := by
            rw [HB3.out.cell (by rw [add_block]; exact hbr)]
            exact hi.out i hi'
          refine hg4.cell h1 ?_
          intro e
          rw [add_block] at e
          exact hne.out _ e.symm rfl
        · intro k hk
          rcases hat4 with h | h
          · exact hne.out k (h ▸ hk)
          · rw [hk] at h
            injection h with h
            have := HB3.out.size
            omega
    · obtain rfl : j = ns.length := by omega
      have hin : ¬ ((ns.length : Int) < (ns.length : Int)) := by omega
      go_wp2_with fail
      go_ret
      refine ⟨⟨_, rfl, ?_⟩, hb.out⟩
      have := ho.out
      rwa [List.take_length, List.append_assoc] at this
end Go.Proofs.YtoddlefhlicfiaaGreatDoorR.RdrDev
