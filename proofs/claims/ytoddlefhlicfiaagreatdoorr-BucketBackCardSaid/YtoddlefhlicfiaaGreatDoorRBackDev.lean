/- BucketBack: the walk of the law. Its conditions: what awake tells. -/
import Derived.Test.YtoddlefhlicfiaaGreatDoorRReadBDev
import Derived.Test.YtoddlefhlicfiaaGreatDoorRSmDev
set_option linter.unusedSimpArgs false
set_option linter.unusedVariables false
namespace Go.Proofs.YtoddlefhlicfiaaGreatDoorR.RdrDev
open Go Go.RowKit Go.Proofs.Bb
/-- what the law's memory holds on its way -/
structure LK (w W : World) (ca cb : Array Value) (A1 A2 : Option Addr) (rs1 rs2 : List RL) : Prop where
  below : Below w.heap.size w W
  sz : w.heap.size + 2 ≤ W.heap.size
  ba : W.heap[w.heap.size]? = some (.cells ca 24)
  bb : W.heap[w.heap.size + 1]? = some (.cells cb 24)
  ra : RulesAt W A1 rs1
  rb : RulesAt W A2 rs2
theorem LK.step {w W W' : World} {ca cb : Array Value} {A1 A2 : Option Addr} {rs1 rs2 : List RL} (h : LK w W ca cb A1 A2 rs1 rs2) (hb : Below W.heap.size W W') : LK w W' ca cb A1 A2 rs1 rs2 where
  below := h.below.trans (hb.mono (by have := h.sz; omega))
  sz := Nat.le_trans h.sz hb.size
  ba := by rw [hb.block _ (by have := h.sz; omega)]; exact h.ba
  bb := by rw [hb.block _ (by have := h.sz; omega)]; exact h.bb
  ra := h.ra.below hb
  rb := h.rb.below hb
theorem LK.cells {w W : World} {a0 a1 a2 a3 b0 b1 b2 b3 : Value} {A1 A2 : Option Addr} {rs1 rs2 : List RL} (h : LK w W #[a0, a1, a2, a3] #[b0, b1, b2, b3] A1 A2 rs1 rs2) : W.cell? ⟨w.heap.size, 0, none⟩ = some a0 ∧ W.cell? ⟨w.heap.size, 1, none⟩ = some a1 ∧ W.cell? ⟨w.heap.size, 2, none⟩ = some a2 ∧ W.cell? ⟨w.heap.size, 3, none⟩ = some a3 ∧ W.cell? ⟨w.heap.size + 1, 0, none⟩ = some b0 ∧ W.cell? ⟨w.heap.size + 1, 1, none⟩ = some b1 ∧ W.cell? ⟨w.heap.size + 1, 2, none⟩ = some b2 ∧ W.cell? ⟨w.heap.size + 1, 3, none⟩ = some b3 :=
  ⟨(at_cells h.ba 0).1, (at_cells h.ba 1).1, (at_cells h.ba 2).1, (at_cells h.ba 3).1, (at_cells h.bb 0).1, (at_cells h.bb 1).1, (at_cells h.bb 2).1, (at_cells h.bb 3).1⟩
def LS (u : World) (N : Nat) (a0 a1 a2 a3 b0 b1 b2 b3 : Value) (W : World) : Prop := W.cell? ⟨N, 0, none⟩ = some a0 ∧ W.cell? ⟨N, 1, none⟩ = some a1 ∧ W.cell? ⟨N, 2, none⟩ = some a2 ∧ W.cell? ⟨N, 3, none⟩ = some a3 ∧ W.cell? ⟨N + 1, 0, none⟩ = some b0 ∧ W.cell? ⟨N + 1, 1, none⟩ = some b1 ∧ W.cell? ⟨N + 1, 2, none⟩ = some b2 ∧ W.cell? ⟨N + 1, 3, none⟩ = some b3 ∧ Below u.heap.size u W
theorem LS.step {u : World} {N : Nat} {a0 a1 a2 a3 b0 b1 b2 b3 : Value} {W W' : World} (h : LS u N a0 a1 a2 a3 b0 b1 b2 b3 W) (hb : Below W.heap.size W W') : LS u N a0 a1 a2 a3 b0 b1 b2 b3 W' := by
  obtain ⟨h0, h1, h2, h3, h4, h5, h6, h7, h8⟩ := h
  have k : ∀ {a : Addr} {v : Value}, W.cell? a = some v → W'.cell? a = some v := fun hc => by rw [hb.cell (World.block_lt_of_cell? W _ hc)]; exact hc
  exact ⟨k h0, k h1, k h2, k h3, k h4, k h5, k h6, k h7, h8.trans (hb.mono h8.size)⟩
theorem LS.last {u : World} {N : Nat} {a0 a1 a2 a3 b0 b1 b2 b3 : Value} {W : World} (h : LS u N a0 a1 a2 a3 b0 b1 b2 b3 W) : Below u.heap.size u W := h.2.2.2.2.2.2.2.2
theorem drew_below2 (w : World) : Below w.heap.size w w.drew := (Below.refl _ w).drew
theorem not_large {nm : ByteArray} {rs : List RL} (h : largeB nm rs = false) : nm.size ≤ 200 ∧ rs.length ≤ 20 ∧ ∀ r ∈ rs, r.p.size ≤ 200 := by
  simp only [largeB, Bool.or_eq_false_iff, List.any_eq_false, decide_eq_false_iff_not, decide_eq_true_eq] at h
  exact ⟨by omega, by omega, fun r hr => by have := h.1 r hr; omega⟩
theorem fit_of {nm : ByteArray} {t st : Int} {rs : List RL} (h : goodB nm t st rs = true) : FitB (bucN nm t st rs) := by
  obtain ⟨h0, h1, h2, h3, h4, h5, h6⟩ := good_all h
  refine ⟨?_, ?_, ?_, ?_, ?_⟩
  · show (sn nm).length ≤ 65536
    rw [sn_len]; omega
  · show t.toNat ≤ 1099511627776
    omega
  · show st.toNat ≤ 1099511627776
    omega
  · show (rs.map ruN).length ≤ 8
    rw [List.length_map]; exact h5
  · intro r hr
    obtain ⟨q, hq, rfl⟩ := List.mem_map.1 hr
    obtain ⟨g1, g2, g3, g4, g5⟩ := good_rule (h6 q hq)
    refine ⟨?_, ?_, ?_⟩
    · show (sn q.p).length ≤ 65536
      rw [sn_len]; omega
    · show q.d.toNat ≤ 1099511627776
      omega
    · show q.o.toNat ≤ 1099511627776
      omega
theorem ok_of {nm : ByteArray} {t st : Int} {rs : List RL} (h : goodB nm t st rs = true) : okBuc (bucN nm t st rs) = true := by
  obtain ⟨h0, h1, h2, h3, h4, h5, h6⟩ := good_all h
  obtain ⟨tn, rfl⟩ := Int.eq_ofNat_of_zero_le h1
  obtain ⟨sn', rfl⟩ := Int.eq_ofNat_of_zero_le h3
  rw [← ok_bucket nm tn sn' rs (fun r hr => by obtain ⟨g1, g2, g3, g4, g5⟩ := good_rule (h6 r hr); exact ⟨g2, g4, by omega⟩)]
  exact h
theorem ru_inj {r q : RL} (hr : Pos r) (hq : Pos q) (h : ruN r = ruN q) : r = q := by
  obtain ⟨p, d, o⟩ := r
  obtain ⟨p', d', o'⟩ := q
  simp only [ruN, Rul.mk.injEq] at h
  obtain ⟨h1, h2, h3⟩ := h
  obtain ⟨a1, a2, _⟩ := hr
  obtain ⟨b1, b2, _⟩ := hq
  dsimp only at a1 a2 b1 b2 h2 h3
  have := sn_inj h1
  subst this
  have e1 : d = d' := by omega
  have e2 : o = o' := by omega
  rw [e1, e2]
theorem rus_inj : ∀ (a b : List RL), (∀ r ∈ a, Pos r) → (∀ r ∈ b, Pos r) → a.map ruN = b.map ruN → a = b
  | [], [], _, _, _ => rfl
  | [], _ :: _, _, _, h => by simp at h
  | _ :: _, [], _, _, h => by simp at h
  | r :: a, q :: b, ha, hb, h => by
    rw [List.map_cons, List.map_cons, List.cons.injEq] at h
    rw [ru_inj (ha r List.mem_cons_self) (hb q List.mem_cons_self) h.1, rus_inj a b (fun r hr => ha r (List.mem_cons_of_mem _ hr)) (fun r hr => hb r (List.mem_cons_of_mem _ hr)) h.2]
theorem buc_inj {nm1 nm2 : ByteArray} {t1 st1 t2 st2 : Int} {rs1 rs2 : List RL} (h1 : 0 ≤ t1 ∧ 0 ≤ st1 ∧ ∀ r ∈ rs1, Pos r) (h2 : 0 ≤ t2 ∧ 0 ≤ st2 ∧ ∀ r ∈ rs2, Pos r) (h : bucN nm1 t1 st1 rs1 = bucN nm2 t2 st2 rs2) : nm1 = nm2 ∧ t1 = t2 ∧ st1 = st2 ∧ rs1 = rs2 := by
  simp only [bucN, Buc.mk.injEq] at h
  obtain ⟨a1, a2, a3, a4⟩ := h
  exact ⟨sn_inj a1, by omega, by omega, rus_inj _ _ h1.2.2 h2.2.2 a4⟩
theorem pos_of {nm : ByteArray} {t st : Int} {rs : List RL} (h : goodB nm t st rs = true) : 0 ≤ t ∧ 0 ≤ st ∧ ∀ r ∈ rs, Pos r := by
  obtain ⟨h0, h1, h2, h3, h4, h5, h6⟩ := good_all h
  exact ⟨h1, h3, fun r hr => by obtain ⟨g1, g2, g3, g4, g5⟩ := good_rule (h6 r hr); exact ⟨g2, g4, by omega⟩⟩
theorem enc_len {nm : ByteArray} {t st : Int} {rs : List RL} (h : goodB nm t st rs = true) : (encB (bucN nm t st rs)).length ≤ 10000 := by
  obtain ⟨h0, h1, h2, h3, h4, h5, h6⟩ := good_all h
  have a1 := encU_len 6 nm.size (by omega)
  have a2 := encU_len 6 t.toNat (by omega)
  have a3 := encU_len 6 st.toNat (by omega)
  have a4 := encU_len 6 rs.length (by omega)
  have a5 := rls_len rs h6
  simp only [encB, bucN, encT, List.length_append, sn_len, List.length_map]
  omega
theorem enc_lt {nm : ByteArray} {t st : Int} {rs : List RL} {W : World} {B : Nat} {v : Value} (h : OB W B v (encB (bucN nm t st rs))) : ∀ x ∈ encB (bucN nm t st rs), x < 256 := h.2
theorem In.take {W : World} {A : Option Addr} {n c : Nat} {bs : List Nat} (h : In W (.slice A n c) bs) (j : Nat) (hj : j ≤ n) : In W (.slice A j c) (bs.take j) := by
  obtain ⟨A', c', e, h1, h2, h3, h4, h5⟩ := h
  injection e with e1 e2 e3
  subst e1 e2 e3
  have hl : (bs.take j).length = j := by rw [List.length_take]; omega
  refine ⟨A, c, by rw [hl], by omega, h2, fun i hi => ?_, h4, fun x hx => h5 x (List.mem_of_mem_take hx)⟩
  rw [hl] at hi
  obtain ⟨ad, e, hx⟩ := h3 i (by omega)
  refine ⟨ad, e, ?_⟩
  rw [hx]
  simp [List.getD, List.getElem?_take, hi]
set_option maxHeartbeats 16000000 in
set_option maxRecDepth 100000 in
theorem back_calls (nm1 nm2 : ByteArray) (t1 st1 t2 st2 : Int) (A1 A2 : Option Addr) (c1 c2 : Nat) (rs1 rs2 : List RL) (z : Nat) (hz : z < 256) (w : World) (hr1 : RulesAt w A1 rs1) (hr2 : RulesAt w A2 rs2) (hc1 : rs1.length ≤ c1) (hc2 : rs2.length ≤ c2) (hl1 : rs1.length ≤ 9223372036854775807) (hl2 : rs2.length ≤ 9223372036854775807)
    (haw : ∀ W, Below w.heap.size w W → Calls Tryz.prog 4 #[] W fun e W' => e = .returned (.bool true) ∧ Below W.heap.size W W') :
    Calls Tryz.prog 3 #[.agg #[.string nm1, .int .i64 t1, .int .i64 st1, .slice A1 rs1.length c1], .agg #[.string nm2, .int .i64 t2, .int .i64 st2, .slice A2 rs2.length c2], .int .u8 (z : Int)] w fun e w' => e = .returned (.bool true) ∧ Below w.heap.size w w' := by
  have hlk : LK w ((w.alloc (.cells #[.string nm1, .int .i64 t1, .int .i64 st1, .slice A1 rs1.length c1] 24)).alloc (.cells #[.string nm2, .int .i64 t2, .int .i64 st2, .slice A2 rs2.length c2] 24)) #[.string nm1, .int .i64 t1, .int .i64 st1, .slice A1 rs1.length c1] #[.string nm2, .int .i64 t2, .int .i64 st2, .slice A2 rs2.length c2] A1 A2 rs1 rs2 := by
    have hb : Below w.heap.size w ((w.alloc (.cells #[.string nm1, .int .i64 t1, .int .i64 st1, .slice A1 rs1.length c1] 24)).alloc (.cells #[.string nm2, .int .i64 t2, .int .i64 st2, .slice A2 rs2.length c2] 24)) := ((Below.refl _ w).alloc (Nat.le_refl _) _).alloc (by simp) _
    exact ⟨hb, by simp, heap_alloc2_old _ _ _, heap_alloc2_new _ _ _, hr1.below hb, hr2.below hb⟩
  have HLK := Lib.hid hlk
  have HAW := Lib.hid haw
  clear hr1 hr2 hlk haw
  go_enter Tryz.func3, Tryz.ntmps3
  go_wp2_with fail
  refine (HAW.out _ HLK.out.below).mono ?_
  rintro e w1 ⟨rfl, hb1⟩
  have HL1 := Lib.hid (HLK.out.step hb1)
  clear hb1 HLK HAW
  obtain ⟨a0, a1, a2, a3, b0, b1, b2, b3⟩ := HL1.out.cells
  go_wp2_with fail
  refine (large_calls nm1 A1 c1 rs1 _ HL1.out.ra hc1 hl1).mono ?_
  rintro e w2 ⟨rfl, hb2⟩
  have HL2 := Lib.hid (HL1.out.step hb2)
  clear hb2 HL1 a0 a1 a2 a3 b0 b1 b2 b3
  cases hg1 : largeB nm1 rs1 with
  | true =>
    go_wp2_with fail
    go_ret
    exact ⟨rfl, HL2.out.below⟩
  | false =>
    obtain ⟨n1, n2, n3⟩ := not_large hg1
    have HN3 := Lib.hid n3
    clear hg1 n3
    obtain ⟨a0, a1, a2, a3, b0, b1, b2, b3⟩ := HL2.out.cells
    go_wp2_with fail
    refine (large_calls nm2 A2 c2 rs2 _ HL2.out.rb hc2 hl2).mono ?_
    rintro e w3 ⟨rfl, hb3⟩
    have HL3 := Lib.hid (HL2.out.step hb3)
    clear hb3 HL2 a0 a1 a2 a3 b0 b1 b2 b3
    cases hg2 : largeB nm2 rs2 with
    | true =>
      go_wp2_with fail
      go_ret
      exact ⟨rfl, HL3.out.below⟩
    | false =>
      obtain ⟨m1, m2, m3⟩ := not_large hg2
      have HM3 := Lib.hid m3
      clear hg2 m3
      obtain ⟨a0, a1, a2, a3, b0, b1, b2, b3⟩ := HL3.out.cells
      go_wp2_with fail
      refine (bytes_calls nm1 t1 st1 A1 c1 rs1 (by omega) _ HL3.out.ra hc1 (by omega) (fun r hr => by have := HN3.out r hr; omega)).mono ?_
      rintro e w4 ⟨⟨hgood, hbad⟩, hb4⟩
      have HL4 := Lib.hid (HL3.out.step hb4)
      clear a0 a1 a2 a3 b0 b1 b2 b3
      cases hgb : goodB nm1 t1 st1 rs1 with
      | false =>
        rw [hbad hgb]
        clear hgood hbad hgb hb4
        go_wp2_with fail
        go_ret
        exact ⟨rfl, HL4.out.below⟩
      | true =>
        obtain ⟨x, rfl, hx⟩ := hgood hgb
        have HG := Lib.hid hgb
        have HX := Lib.hid hx
        have HLN := Lib.hid (enc_len hgb)
        obtain ⟨XA, xc, rfl, hxc, hxn, hxb, hxl, hx256⟩ := hx.in
        clear hgood hbad hgb hb4 hx hxb hxl hx256 HL3
        go_wp2_with fail
        refine (read_calls _ _ _ HX.out.in (by have := HLN.out; omega)).mono ?_
        rintro e w5 ⟨⟨hs5, hn5⟩, hb5⟩
        obtain ⟨nm', t', st', rs', rv', rfl, hbuc, hor', hpos'⟩ := hs5 _ (read_back okBuc _ (fit_of HG.out) (ok_of HG.out))
        have HX5 := Lib.hid (HX.out.below hb5)
        have HL5 := Lib.hid (HL4.out.step hb5)
        obtain ⟨rfl, rfl, rfl, rfl⟩ := buc_inj ⟨by omega, by omega, hpos'⟩ (pos_of HG.out) hbuc
        have HOR := Lib.hid hor'
        obtain ⟨RA, rcc, rfl, hrc, hrn, hrr⟩ := hor'.rules
        have HRR := Lib.hid hrr
        clear hs5 hn5 hb5 hbuc hor' hpos' hrr HX HL4
        go_wp2_with fail
        generalize hW5 : w5.alloc (.cells #[.string nm', .int .i64 (t' : Int), .int .i64 (st' : Int), .slice RA rs'.length rcc] 24) = W5
        have hbk : W5.heap[w5.heap.size]? = some (.cells #[.string nm', .int .i64 (t' : Int), .int .i64 (st' : Int), .slice RA rs'.length rcc] 24) := by rw [← hW5]; exact heap_alloc_new w5 _
        have hb55 : Below w5.heap.size w5 W5 := by rw [← hW5]; exact (Below.refl _ _).alloc (Nat.le_refl _) _
        have HBK := Lib.hid hbk
        have HLa := Lib.hid (HL5.out.step hb55)
        have HXa := Lib.hid (HX5.out.below hb55)
        have HRa := Lib.hid (HRR.out.below hb55)
        have HK5 := Lib.hid (lt_of_block hbk)
        clear hW5 hbk hb55 HL5 HX5 HOR HRR
        refine (copy_calls _ _ _ HXa.out.in (by have := HLN.out; omega)).mono ?_
        rintro e w6 ⟨⟨v6, rfl, ho6⟩, hb6⟩
        have HO6 := Lib.hid ho6
        have HB6 := Lib.hid hb6
        clear ho6 hb6
        go_wp2_with (refine wp_app rfl (.tmp 52) (.tmp 54) rfl W5.heap.size _ [z] (HO6.out.alloc _) (In.one _ z hz).weak rfl rfl (by have := HLN.out; simp; omega) (by have := HB6.out.size; simp; omega) ?_; intro v7 w7 hO7 hg7; have HO7 := Lib.hid hO7; have HB7 := Lib.hid ((HO6.out.alloc _).grown (HB6.out.alloc HB6.out.size _) hg7 (by have := HB6.out.size; simp; omega)); clear hg7; obtain ⟨A7, c7, rfl, u1, u2, u3, u4, u5⟩ := hO7.in; clear hO7 u1 u2 u3 u4 u5)
        have hI7 := HO7.out.in
        rw [List.length_append, List.length_singleton] at hI7
        refine (read_calls _ _ _ hI7 (by rw [List.length_append, List.length_singleton]; have := HLN.out; omega)).mono ?_
        rintro e w8 ⟨⟨hs8, hn8⟩, hb8⟩
        rw [hn8 (read_more okBuc _ (fit_of HG.out) z [])]
        have HB8 := Lib.hid (HB7.out.trans (hb8.mono HB7.out.size))
        clear hs8 hn8 hb8 HB6 HO6 HO7 HB7 hI7
        have HL8 := Lib.hid (HLa.out.step HB8.out)
        have HX8 := Lib.hid (HXa.out.below HB8.out)
        have HR8 := Lib.hid (HRa.out.below HB8.out)
        have hbk8 : w8.heap[w5.heap.size]? = some (.cells #[.string nm', .int .i64 (t' : Int), .int .i64 (st' : Int), .slice RA rs'.length rcc] 24) := by rw [HB8.out.block _ HK5.out]; exact HBK.out
        obtain ⟨p0, p1, p2, p3, _⟩ := four hbk8
        obtain ⟨a0, a1, a2, a3, b0, b1, b2, b3⟩ := HL8.out.cells
        have l0 : w5.heap.size < w8.heap.size := lt_of_block hbk8
        have l1 : w.heap.size < w8.heap.size := by have := HL8.out.sz; omega
        have l2 : w.heap.size + 1 < w8.heap.size := by have := HL8.out.sz; omega
        clear HLa HXa HRa HBK HB8 HK5 hbk8
        go_wp2_with fail
        have hb9 : Below w8.heap.size w8 (w8.alloc (.cells #[.string ⟨#[]⟩, .int .i64 0, .int .i64 0, .slice none 0 0] 24)) := (Below.refl _ _).alloc (Nat.le_refl _) _
        refine (same_calls nm' nm' _ _ _ _ RA A1 rcc c1 rs' rs' _ (HR8.out.below hb9) (HL8.out.ra.below hb9) hrc hc1 (by omega) (by omega)).mono ?_
        rintro e w10 ⟨rfl, hb10⟩
        rw [(sameB_iff _ _ _ _ _ _ _ _).2 ⟨rfl, rfl, rfl, rfl⟩]
        have HB10 := Lib.hid (two_below hb9 hb10)
        have HL10 := Lib.hid (HL8.out.step HB10.out)
        have HX10 := Lib.hid ((HX8.out.below HB10.out).mono (Nat.zero_le _))
        clear hb9 hb10 HL8 HX8 HR8 p0 p1 p2 p3 a0 a1 a2 a3 b0 b1 b2 b3 l0 l1 l2 HB10
        obtain ⟨E, hE⟩ : ∃ E, E = encB (bucN nm' (t' : Int) (st' : Int) rs') := ⟨_, rfl⟩
        rw [← hE] at HX10 HLN hxc ⊢
        have HE := Lib.hid hE
        clear hE
        go_wp2_with fail
        go_loopw [14] (fun v14 wr => ∃ j : Nat, j ≤ E.length ∧ v14 = .int .i64 (j : Int) ∧ Hid (LK w wr #[.string nm', .int .i64 (t' : Int), .int .i64 (st' : Int), .slice A1 rs'.length c1] #[.string nm2, .int .i64 t2, .int .i64 st2, .slice A2 rs2.length c2] A1 A2 rs' rs2) ∧ Hid (OB wr 0 (.slice XA E.length xc) E)) (fun v14 _ => E.length - (intAt2 v14).toNat)
        case atStart => exact ⟨0, Nat.zero_le _, rfl, HL10, HX10⟩
        case round =>
          obtain ⟨j, hj, rfl, hl, hx⟩ := hrel
          have hlen := HLN.out
          by_cases hlt : j < E.length
          · have hin : (j : Int) < (E.length : Int) := by omega
            have hin0 : (0 : Int) ≤ (j : Int) := by omega
            have hin1 : (j : Int) ≤ (xc : Int) := by omega
            have ha0 : (XA.map fun x => x.add 0) = XA := by cases XA <;> simp [Addr.add]
            have HR := Lib.hid (show readB okBuc (E.take j) = none from by
              have hp : E.take j <+: encB (bucN nm' (t' : Int) (st' : Int) rs') := by rw [← HE.out]; exact List.take_prefix j E
              refine read_less okBuc _ (fit_of HG.out) _ hp (fun e => ?_)
              have h1 := congrArg List.length e
              rw [← HE.out, List.length_take] at h1
              omega)
            have hI := hx.out.in.take j (by omega)
            have HI := Lib.hid hI
            clear hI
            go_wp2_with fail
            have hIj := HI.out
            have hlj : (E.take j).length ≤ 1000000000 := by rw [List.length_take]; omega
            refine (read_calls _ _ _ hIj hlj).mono ?_
            rintro e wb ⟨⟨hsb, hnb⟩, hbb⟩
            rw [hnb HR.out]
            have HLb := Lib.hid (hl.out.step hbb)
            have HXb := Lib.hid (hx.out.below hbb)
            clear hsb hnb hbb hIj hlj
            go_wp2_with fail
            case roundEnd => exact ⟨⟨j + 1, by omega, by go_num, Lib.hid (HLb.out.step ((Below.refl _ _).alloc (Nat.le_refl _) _)), Lib.hid (HXb.out.alloc _)⟩, by simp [intAt2]; omega⟩
          · obtain rfl : j = E.length := by omega
            have hin : ¬ (E.length : Int) < (E.length : Int) := by omega
            obtain ⟨a0, a1, a2, a3, b0, b1, b2, b3⟩ := hl.out.cells
            go_wp2_with fail
            refine (bytes_calls nm2 t2 st2 A2 c2 rs2 (by omega) _ hl.out.rb hc2 (by omega) (fun r hr => by have := HM3.out r hr; omega)).mono ?_
            rintro e wc ⟨⟨hgood, hbad⟩, hbc⟩
            have HLc := Lib.hid (hl.out.step hbc)
            have HXc := Lib.hid (hx.out.below hbc)
            clear a0 a1 a2 a3 b0 b1 b2 b3
            cases hgb : goodB nm2 t2 st2 rs2 with
            | false =>
              rw [hbad hgb]
              clear hgood hbad hgb hbc
              have hne2 : ((2 : Int) != 0) = true := by decide
              go_wp2_with fail
              go_quiet (fail)
              have hbz : Hid (Below w.heap.size w (wc.drewN nq)) := Lib.hid ⟨HLc.out.below.os, HLc.out.below.tape, HLc.out.below.output, HLc.out.below.size, HLc.out.below.block⟩
              go_wp2_with fail
              go_ret
              exact ⟨rfl, hbz.out⟩
            | true =>
              obtain ⟨y, rfl, hy⟩ := hgood hgb
              have HG2 := Lib.hid hgb
              have HY := Lib.hid hy
              obtain ⟨YA, yc, rfl, hyc, hyn, hyb, hyl, hy256⟩ := hy.in
              clear hgood hbad hgb hbc hy hyb hyl hy256
              obtain ⟨F, hF⟩ : ∃ F, F = encB (bucN nm2 t2 st2 rs2) := ⟨_, rfl⟩
              rw [← hF] at HY hyc ⊢
              have HF := Lib.hid hF
              clear hF
              have hsame : sameB nm' (t' : Int) (st' : Int) rs' nm2 t2 st2 rs2 = decide (E = F) := by
                rw [Bool.eq_iff_iff, sameB_iff, decide_eq_true_eq, HE.out, HF.out]
                constructor
                · rintro ⟨rfl, rfl, rfl, rfl⟩; rfl
                · intro h
                  exact buc_inj (pos_of HG.out) (pos_of HG2.out) (enc_inj _ _ (fit_of HG.out) (fit_of HG2.out) h)
              have HSAME := Lib.hid hsame
              clear hsame
              obtain ⟨a0, a1, a2, a3, b0, b1, b2, b3⟩ := HLc.out.cells
              have hst : LS wc w.heap.size (.string nm') (.int .i64 (t' : Int)) (.int .i64 (st' : Int)) (.slice A1 rs'.length c1) (.string nm2) (.int .i64 t2) (.int .i64 st2) (.slice A2 rs2.length c2) wc := ⟨a0, a1, a2, a3, b0, b1, b2, b3, Below.refl _ _⟩
              have hne0 : ((0 : Int) != 0) = false := by decide
              go_wp2_with fail
              go_region_held3 (fun W => W.cell? ⟨w.heap.size, 0, none⟩ = some (.string nm') ∧ W.cell? ⟨w.heap.size, 1, none⟩ = some (.int .i64 (t' : Int)) ∧ W.cell? ⟨w.heap.size, 2, none⟩ = some (.int .i64 (st' : Int)) ∧ W.cell? ⟨w.heap.size, 3, none⟩ = some (.slice A1 rs'.length c1) ∧ W.cell? ⟨w.heap.size + 1, 0, none⟩ = some (.string nm2) ∧ W.cell? ⟨w.heap.size + 1, 1, none⟩ = some (.int .i64 t2) ∧ W.cell? ⟨w.heap.size + 1, 2, none⟩ = some (.int .i64 st2) ∧ W.cell? ⟨w.heap.size + 1, 3, none⟩ = some (.slice A2 rs2.length c2) ∧ Below wc.heap.size wc W) (first | exact hst | assumption | exact LS.step (by assumption) (drew_below2 _) | go_keep)
                (first
                | (go_at_call 10; refine (sameBytes_calls _ _ E F _ (HXc.out.in.below (by assumption : LS _ _ _ _ _ _ _ _ _ _ _).last) (HY.out.in.below (by assumption : LS _ _ _ _ _ _ _ _ _ _ _).last)).mono ?_; rintro e w2 ⟨rfl, hb2⟩; have hS2 := LS.step (by assumption) hb2)
                | (go_at_call 9; refine (same_calls nm' nm2 _ _ _ _ A1 A2 c1 c2 rs' rs2 _ (HLc.out.ra.below (by assumption : LS _ _ _ _ _ _ _ _ _ _ _).last) (HLc.out.rb.below (by assumption : LS _ _ _ _ _ _ _ _ _ _ _).last) hc1 hc2 (by omega) (by omega)).mono ?_; rintro e w3 ⟨rfl, hb3⟩; rw [HSAME.out]; have hS3 := LS.step (by assumption) hb3))
              have hfin := Lib.hid (HLc.out.below.trans ((hS3 : LS _ _ _ _ _ _ _ _ _ _ _).last.mono HLc.out.below.size))
              go_wp2_with fail
              go_ret
              exact ⟨rfl, hfin.out⟩
end Go.Proofs.YtoddlefhlicfiaaGreatDoorR.RdrDev
