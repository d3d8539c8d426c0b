/- The readers of numbers and texts: what they do. No statement of the seat stands here. -/
import Derived.Test.YtoddlefhlicfiaaGreatDoorRNumDev
import Derived.Test.YtoddlefhlicfiaaGreatDoorRMemDev
import Derived.WalkSpells
set_option linter.unusedSimpArgs false
set_option linter.unusedVariables false
namespace Go.Proofs.YtoddlefhlicfiaaGreatDoorR.RdrDev
open Go Go.RowKit Go.Proofs.Bb
set_option maxHeartbeats 4000000 in
set_option maxRecDepth 100000 in
theorem clone_calls (A : Option Addr) (c : Nat) (bs : List Nat) (w : World) (hc : bs.length ≤ c) (hb : BytesAt w A bs) (h256 : ∀ x ∈ bs, x < 256) (hl : bs.length ≤ 1000000000) :
    Calls Tryz.prog 61 #[.slice A bs.length c] w fun e w' => (∃ v', e = .returned v' ∧ OB w' w.heap.size v' bs) ∧ Below w.heap.size w w' := by
  have HB := Lib.hid hb
  have H256 := Lib.hid h256
  clear hb h256
  cases A with
  | none =>
    have hn : bs = [] := by
      cases bs with
      | nil => rfl
      | cons b l => obtain ⟨ad, e, _⟩ := HB.out 0 (by simp); cases e
    subst hn
    have hq := fun (w : World) (n' c' : Nat) => Lib.run_eql_slice_nil (P := Tryz.prog) w 27 5 none 0 c n' c' Tryz.underlying27
    go_enter Tryz.func61, Tryz.ntmps61
    go_wp2_with fail
    go_ret
    exact ⟨⟨_, rfl, OB.nil _ _⟩, Below.refl _ _⟩
  | some ad =>
    have hq := fun (w : World) (n' c' : Nat) => Lib.run_eql_slice_nil (P := Tryz.prog) w 27 5 (some ad) bs.length c n' c' Tryz.underlying27
    go_enter Tryz.func61, Tryz.ntmps61
    go_wp2_with (refine wp_app rfl (.tmp 5) (.tmp 6) rfl w.heap.size [] bs (OB.empty _ _ _ (heap_alloc_new w _) (Nat.le_refl _)) ⟨some ad, c, rfl, hc, fun e => (by cases e), fun j hj => (by obtain ⟨ad', e, h⟩ := HB.out j hj; exact ⟨ad', e, by rw [((Below.refl w.heap.size w).alloc (Nat.le_refl _) _).cell (World.block_lt_of_cell? w _ h)]; exact h⟩), H256.out⟩ rfl rfl (by simp; omega) (by simp) ?_; intro v' w' hO' hg')
    go_ret
    exact ⟨⟨v', rfl, hO'⟩, (OB.empty _ _ _ (heap_alloc_new w _) (Nat.le_refl _)).grown ((Below.refl _ w).alloc (Nat.le_refl _) _) hg' (by simp)⟩
theorem conv_nil (W : World) : (convert 27 9 (.slice none 0 0)).run Tryz.prog W = .ok (.string ByteArray.empty) W := run_convert_bytes_nil W 27 5 Tryz.underlying27 Tryz.underlying5 0 0 9 Tryz.underlying9
theorem RB.at {W : World} {g : Nat} {bs : List Nat} {bad : Bool} (h : RB W g bs bad) : ∃ A c, RdrAt W g A bs.length c bad := let ⟨A, c, h1, _⟩ := h; ⟨A, c, h1⟩
theorem dec_lt {bs : List Nat} (hb : ∀ x ∈ bs, x < 256) {m : Nat} {rest : List Nat} (h : decU 0 0 bs = some (m, rest)) : ∀ x ∈ rest, x < 256 := by
  obtain ⟨c, h1, _⟩ := safe_num bs m rest h
  intro x hx
  exact hb x (by rw [h1]; exact List.mem_append.2 (.inr hx))
set_option maxHeartbeats 4000000 in
set_option maxRecDepth 100000 in
theorem rtext_calls (g : Nat) (bs : List Nat) (hb : ∀ x ∈ bs, x < 256) (w : World) (h : RB w g bs false) :
    Calls Tryz.prog 60 #[.pointer (some ⟨g, 0, none⟩)] w fun e w' => (∃ s : ByteArray, e = .returned (.string s) ∧ (∀ t rest, decT bs = some (t, rest) → sn s = t ∧ RB w' g rest false) ∧ (decT bs = none → ∃ rest, RB w' g rest true)) ∧ w.grownBy w' (some g) := by
  have HB := Lib.hid hb
  have H := Lib.hid h
  clear hb h
  go_enter Tryz.func60, Tryz.ntmps60
  go_wp2_with fail
  refine (number_calls g bs HB.out _ H.out).mono ?_
  rintro e w1 ⟨⟨n, rfl, hs, hn⟩, hg1⟩
  have HG1 := Lib.hid hg1
  clear hg1
  cases hd : decU 0 0 bs with
  | none =>
    have HD := Lib.hid (show decT bs = none by simp [decT, bnd, chk, hd])
    obtain ⟨rest, hr⟩ := hn hd
    clear hs hn hd
    have HR := Lib.hid hr
    obtain ⟨A, c, h1, h2, h3, h4⟩ := hr
    obtain ⟨c0, c1, z0, z1⟩ := h1.cells
    have HM := Lib.hid (RB.marked h1 h2 h3 h4 true)
    have HG2 := Lib.hid (HG1.out.trans (grown_set w1 g 1 (.bool true)))
    by_cases hbig : n > 65536
    · clear h1 h2 h3 h4
      go_wp2_with fail
      generalize w1.setCell ⟨g, 1, none⟩ (.bool true) = w2 at HM HG2
      obtain ⟨A, c, h1, h2, h3, h4⟩ := HM.out
      have HM2 := Lib.hid (RB.marked h1 h2 h3 h4 true)
      have HG3 := Lib.hid (HG2.out.trans (grown_set w2 g 1 (.bool true)))
      refine (take_bad g A _ c n _ h1).mono ?_
      rintro e w3 ⟨rfl, rfl⟩
      clear h1 h2 h3 h4 c0 c1 z0 z1
      go_wp2_with fail
      rw [conv_nil]
      simp only [Result.andThen]
      rw [Oper.upon_value]
      go_wp2_with fail
      go_ret
      refine ⟨⟨_, rfl, fun t rest e => ?_, fun _ => ⟨_, HM2.out⟩⟩, HG3.out⟩
      rw [HD.out] at e
      cases e
    · have HT := Lib.hid (take_bad g A _ c n _ h1)
      clear h1 h2 h3 h4
      go_wp2_with fail
      refine HT.out.mono ?_
      rintro e w3 ⟨rfl, rfl⟩
      clear c0 c1 z0 z1
      go_wp2_with fail
      rw [conv_nil]
      simp only [Result.andThen]
      rw [Oper.upon_value]
      go_wp2_with fail
      go_ret
      refine ⟨⟨_, rfl, fun t rest e => ?_, fun _ => ⟨_, HM.out⟩⟩, HG2.out⟩
      rw [HD.out] at e
      cases e
  | some p =>
    obtain ⟨m, rest⟩ := p
    obtain ⟨rfl, hr⟩ := hs m rest hd
    have HLT := Lib.hid (dec_lt HB.out hd)
    clear hs hn
    obtain ⟨A, c, h1, h2, h3, h4⟩ := hr
    obtain ⟨c0, c1, z0, z1⟩ := h1.cells
    by_cases hbig : m ≤ 65536
    · have hbig' : ¬ (m : Int) > 65536 := by omega
      by_cases hfit : m ≤ rest.length
      · have HD := Lib.hid (show decT bs = some (rest.take m, rest.drop m) by simp [decT, bnd, chk, hd, hbig, takeN, hfit])
        have HT := Lib.hid (take_some g A rest.length c h2 m hfit _ h1)
        have HR := Lib.hid (RB.taken h1 h2 h3 h4 m hfit)
        have HG2 := Lib.hid (HG1.out.trans (grown_set w1 g 0 (.slice (if c = m then A else A.map (·.add m)) (rest.length - m) (c - m))))
        have hI : In0 (w1.setCell ⟨g, 0, none⟩ (.slice (if c = m then A else A.map (·.add m)) (rest.length - m) (c - m))) (.slice A m m) (rest.take m) := by
          have hl : (rest.take m).length = m := by rw [List.length_take]; omega
          refine ⟨A, m, by rw [hl], by omega, fun e => ?_, fun j hj => ?_, fun x hx => HLT.out x (List.mem_of_mem_take hx)⟩
          · subst e
            cases hm : m with
            | zero => rfl
            | succ k => obtain ⟨ad, e, _⟩ := h3 0 (by omega); cases e
          · rw [hl] at hj
            obtain ⟨ad, e, hx⟩ := (h3.kept (g := g) h4 (grown_set w1 g 0 _)) j (by omega)
            refine ⟨ad, e, ?_⟩
            rw [hx]
            simp [List.getD, List.getElem?_take, hj]
        have HI := Lib.hid hI
        clear hI h1 h2 h3 h4 hd
        go_wp2_with fail
        refine HT.out.mono ?_
        rintro e w3 ⟨rfl, hw3⟩
        rw [← hw3] at HI HR HG2
        clear c0 c1 z0 z1 HT hw3
        go_wp2_with fail
        rw [HI.out.string]
        simp only [Result.andThen]
        rw [Oper.upon_value]
        go_wp2_with fail
        go_ret
        refine ⟨⟨_, rfl, fun t r e => ?_, fun e => ?_⟩, HG2.out⟩
        · rw [HD.out] at e
          injection e with e
          injection e with e1 e2
          subst e1 e2
          exact ⟨by have q := strOf_sn (rest.take m) (fun x hx => HLT.out x (List.mem_of_mem_take hx)); rwa [List.map_take] at q, HR.out⟩
        · rw [HD.out] at e
          cases e
      · have HD := Lib.hid (show decT bs = none by simp [decT, bnd, chk, hd, hbig, takeN, hfit])
        have HT := Lib.hid (take_more g A rest.length c (m : Int) (.inr (by omega)) _ h1)
        have HM := Lib.hid (RB.marked h1 h2 h3 h4 true)
        have HG2 := Lib.hid (HG1.out.trans (grown_set w1 g 1 (.bool true)))
        clear h1 h2 h3 h4 hd
        go_wp2_with fail
        refine HT.out.mono ?_
        rintro e w3 ⟨rfl, rfl⟩
        clear c0 c1 z0 z1 HT
        go_wp2_with fail
        rw [conv_nil]
        simp only [Result.andThen]
        rw [Oper.upon_value]
        go_wp2_with fail
        go_ret
        refine ⟨⟨_, rfl, fun t rest e => ?_, fun _ => ⟨_, HM.out⟩⟩, HG2.out⟩
        rw [HD.out] at e
        cases e
    · have HD := Lib.hid (show decT bs = none by simp [decT, bnd, chk, hd, hbig])
      have hbig' : (m : Int) > 65536 := by omega
      have HM := Lib.hid (RB.marked h1 h2 h3 h4 true)
      have HG2 := Lib.hid (HG1.out.trans (grown_set w1 g 1 (.bool true)))
      clear h1 h2 h3 h4 hd
      go_wp2_with fail
      generalize w1.setCell ⟨g, 1, none⟩ (.bool true) = w2 at HM HG2
      obtain ⟨A, c, h1, h2, h3, h4⟩ := HM.out
      have HM2 := Lib.hid (RB.marked h1 h2 h3 h4 true)
      have HG3 := Lib.hid (HG2.out.trans (grown_set w2 g 1 (.bool true)))
      refine (take_bad g A _ c m _ h1).mono ?_
      rintro e w3 ⟨rfl, rfl⟩
      clear h1 h2 h3 h4 c0 c1 z0 z1
      go_wp2_with fail
      rw [conv_nil]
      simp only [Result.andThen]
      rw [Oper.upon_value]
      go_wp2_with fail
      go_ret
      refine ⟨⟨_, rfl, fun t rest e => ?_, fun _ => ⟨_, HM2.out⟩⟩, HG3.out⟩
      rw [HD.out] at e
      cases e
theorem RB.new {W : World} {A : Option Addr} {c : Nat} {bs : List Nat} (hc : bs.length ≤ c) (hb : BytesAt W A bs) (hA : ∀ ad, A = some ad → ad.block < W.heap.size) : RB (W.alloc (.cells #[.slice A bs.length c, .bool false] 148)) W.heap.size bs false := by
  refine ⟨A, c, heap_alloc_new W _, hc, fun j hj => ?_, fun ad e => Nat.ne_of_lt (hA ad e)⟩
  obtain ⟨ad, e, h⟩ := hb j hj
  exact ⟨ad, e, by rw [((Below.refl W.heap.size W).alloc (Nat.le_refl _) _).cell (World.block_lt_of_cell? W _ h)]; exact h⟩
theorem below_grown {W W1 W2 : World} {B : Nat} (h : Below B W W1) (hg : W1.grownBy W2 (some B)) (hB : B ≤ W1.heap.size) : Below B W W2 := h.grown hg hB fun k hk => by injection hk with hk; omega
theorem decT_lt {bs : List Nat} (hb : ∀ x ∈ bs, x < 256) {t rest : List Nat} (h : decT bs = some (t, rest)) : ∀ x ∈ rest, x < 256 := by
  obtain ⟨c, h1, _⟩ := safe_text bs t rest h
  intro x hx
  exact hb x (by rw [h1]; exact List.mem_append.2 (.inr hx))
theorem decU_short {bs : List Nat} {m : Nat} {rest : List Nat} (h : decU 0 0 bs = some (m, rest)) : rest.length ≤ bs.length := by
  obtain ⟨c, h1, _⟩ := safe_num bs m rest h
  rw [h1, List.length_append]; omega
theorem decT_short {bs : List Nat} {m : List Nat} {rest : List Nat} (h : decT bs = some (m, rest)) : rest.length ≤ bs.length := by
  obtain ⟨c, h1, _⟩ := safe_text bs m rest h
  rw [h1, List.length_append]; omega
set_option maxHeartbeats 4000000 in
set_option maxRecDepth 100000 in
theorem readU_calls (v : Value) (bs : List Nat) (w : World) (h : In w v bs) (hl : bs.length ≤ 1000000000) :
    Calls Tryz.prog 30 #[v] w fun e w' => ((∀ m rest, decU 0 0 bs = some (m, rest) → ∃ v', e = .returned (.tuple #[.int .i64 (m : Int), v', .int .i64 0]) ∧ OB w' w.heap.size v' rest) ∧ (decU 0 0 bs = none → e = .returned (.tuple #[.int .i64 0, .slice none 0 0, .int .i64 4]))) ∧ Below w.heap.size w w' := by
  obtain ⟨A, c, rfl, hc, h2, h3, h4, h5⟩ := h
  have H5 := Lib.hid h5
  have HR := Lib.hid (RB.new hc h3 h4)
  clear h3 h4 h2 h5
  go_enter Tryz.func30, Tryz.ntmps30
  go_wp2_with fail
  refine (number_calls w.heap.size bs H5.out _ HR.out).mono ?_
  rintro e w1 ⟨⟨n, rfl, hs, hn⟩, hg1⟩
  have HB1 := Lib.hid (below_grown ((Below.refl _ w).alloc (Nat.le_refl _) _) hg1 (by simp))
  clear hg1
  cases hd : decU 0 0 bs with
  | none =>
    obtain ⟨rest, hr⟩ := hn hd
    clear hs hn
    have HD := Lib.hid hd
    clear hd
    obtain ⟨A', c', h1, h2, h3, h4⟩ := hr
    obtain ⟨c0, c1, z0, z1⟩ := h1.cells
    clear h1 h2 h3 h4
    go_wp2_with fail
    go_ret3
    exact ⟨⟨fun m rest e => (by rw [HD.out] at e; cases e), fun _ => rfl⟩, HB1.out⟩
  | some p =>
    obtain ⟨m, rest⟩ := p
    obtain ⟨rfl, hr⟩ := hs m rest hd
    have HLT := Lib.hid (dec_lt H5.out hd)
    have hsh := decU_short hd
    have HD := Lib.hid hd
    clear hs hn hd
    obtain ⟨A', c', h1, h2, h3, h4⟩ := hr
    obtain ⟨c0, c1, z0, z1⟩ := h1.cells
    have HK := Lib.hid (clone_calls A' c' rest w1 h2 h3 HLT.out (by omega))
    clear h1 h2 h3 h4
    go_wp2_with fail
    refine HK.out.mono ?_
    rintro e w2 ⟨⟨v2, rfl, ho2⟩, hb2⟩
    have HB2 := Lib.hid (HB1.out.trans (hb2.mono HB1.out.size))
    have HO2 := Lib.hid (ho2.mono HB1.out.size)
    clear ho2 hb2 c0 c1 z0 z1 HK
    go_wp2_with fail
    go_ret3
    refine ⟨⟨fun m' rest' e => ?_, fun e => (by rw [HD.out] at e; cases e)⟩, HB2.out⟩
    rw [HD.out] at e
    injection e with e
    injection e with e1 e2
    subst e1 e2
    exact ⟨v2, rfl, HO2.out⟩
set_option maxHeartbeats 4000000 in
set_option maxRecDepth 100000 in
theorem readT_calls (v : Value) (bs : List Nat) (w : World) (h : In w v bs) (hl : bs.length ≤ 1000000000) :
    Calls Tryz.prog 29 #[v] w fun e w' => ((∀ t rest, decT bs = some (t, rest) → ∃ s v', sn s = t ∧ e = .returned (.tuple #[.string s, v', .int .i64 0]) ∧ OB w' w.heap.size v' rest) ∧ (decT bs = none → e = .returned (.tuple #[.string ⟨#[]⟩, .slice none 0 0, .int .i64 4]))) ∧ Below w.heap.size w w' := by
  obtain ⟨A, c, rfl, hc, h2, h3, h4, h5⟩ := h
  have H5 := Lib.hid h5
  have HR := Lib.hid (RB.new hc h3 h4)
  clear h3 h4 h2 h5
  go_enter Tryz.func29, Tryz.ntmps29
  go_wp2_with fail
  refine (rtext_calls w.heap.size bs H5.out _ HR.out).mono ?_
  rintro e w1 ⟨⟨s, rfl, hs, hn⟩, hg1⟩
  have HB1 := Lib.hid (below_grown ((Below.refl _ w).alloc (Nat.le_refl _) _) hg1 (by simp))
  clear hg1
  cases hd : decT bs with
  | none =>
    obtain ⟨rest, hr⟩ := hn hd
    clear hs hn
    have HD := Lib.hid hd
    clear hd
    obtain ⟨A', c', h1, h2, h3, h4⟩ := hr
    obtain ⟨c0, c1, z0, z1⟩ := h1.cells
    clear h1 h2 h3 h4
    go_wp2_with fail
    go_ret3
    exact ⟨⟨fun m rest e => (by rw [HD.out] at e; cases e), fun _ => rfl⟩, HB1.out⟩
  | some p =>
    obtain ⟨m, rest⟩ := p
    obtain ⟨ht, hr⟩ := hs m rest hd
    have HS := Lib.hid ht
    have HLT := Lib.hid (decT_lt H5.out hd)
    have hsh := decT_short hd
    have HD := Lib.hid hd
    clear hs hn hd ht
    obtain ⟨A', c', h1, h2, h3, h4⟩ := hr
    obtain ⟨c0, c1, z0, z1⟩ := h1.cells
    have HK := Lib.hid (clone_calls A' c' rest w1 h2 h3 HLT.out (by omega))
    clear h1 h2 h3 h4
    go_wp2_with fail
    refine HK.out.mono ?_
    rintro e w2 ⟨⟨v2, rfl, ho2⟩, hb2⟩
    have HB2 := Lib.hid (HB1.out.trans (hb2.mono HB1.out.size))
    have HO2 := Lib.hid (ho2.mono HB1.out.size)
    clear ho2 hb2 c0 c1 z0 z1 HK
    go_wp2_with fail
    go_ret3
    refine ⟨⟨fun m' rest' e => ?_, fun e => (by rw [HD.out] at e; cases e)⟩, HB2.out⟩
    rw [HD.out] at e
    injection e with e
    injection e with e1 e2
    subst e1 e2
    exact ⟨s, v2, HS.out, rfl, HO2.out⟩
end Go.Proofs.YtoddlefhlicfiaaGreatDoorR.RdrDev
