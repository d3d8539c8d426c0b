/- bucket.take: what it does. No statement of the seat stands here. -/
import Derived.Test.YtoddlefhlicfiaaGreatDoorRPutDev
import Derived.Test.YtoddlefhlicfiaaGreatDoorRReadDev
set_option linter.unusedSimpArgs false
set_option linter.unusedVariables false
namespace Go.Proofs.YtoddlefhlicfiaaGreatDoorR.RdrDev
open Go Go.RowKit Go.Proofs.Bb
def numsR : Nat → Rd (List Nat)
  | 0 => ret []
  | k + 1 => bnd (decU 0 0) fun n => bnd (numsR k) fun l => ret (n :: l)
def takeR (k : Nat) : Rd (List Nat × List Nat) := bnd decT fun t => bnd (numsR k) fun l => ret (t, l)
def cont (pre : List Nat) (o : Option (List Nat × List Nat)) : Option (List Nat × List Nat) := o.map fun p => (pre ++ p.1, p.2)
theorem nums_none (k : Nat) (cur pre : List Nat) (h : decU 0 0 cur = none) : cont pre (numsR (k + 1) cur) = none := by
  simp [numsR, bnd, h, cont]
theorem nums_some (k : Nat) (cur pre rest : List Nat) (n : Nat) (h : decU 0 0 cur = some (n, rest)) : cont pre (numsR (k + 1) cur) = cont (pre ++ [n]) (numsR k rest) := by
  simp only [numsR, bnd, h, Option.bind_some, cont]
  cases numsR k rest <;> simp [ret]
theorem decU_max : ∀ (bs : List Nat) (i n m : Nat) (rest : List Nat), decU i n bs = some (m, rest) → m ≤ 1099511627776
  | [], _, _, _, _, h => by rw [decU] at h; cases h
  | c :: l, i, n, m, rest, h => by
    rw [decU] at h
    split at h
    · split at h
      · cases h
      · injection h with h
        injection h with h1 h2
        omega
    · split at h
      · exact decU_max l _ _ _ _ h
      · cases h
/-- the cells that take writes -/
structure TK (w wr : World) (B : Nat) (sp : Addr) (ps : List Addr) (s : ByteArray) (vals : List Int) : Prop where
  below : Below B w wr
  sz : w.heap.size ≤ wr.heap.size
  str : wr.cell? sp = some (.string s)
  cells : ∀ j, j < ps.length → wr.cell? (ps.getD j sp) = some (.int .i64 (vals.getD j 0))
  other : ∀ a : Addr, a.block < w.heap.size → a ≠ sp → a ∉ ps → wr.cell? a = w.cell? a
  frozen : ∀ a : Addr, a.block < w.heap.size → wr.frozen? a = w.frozen? a
  len : vals.length = ps.length
/-- what take wants of them -/
structure TP (w : World) (B : Nat) (sp : Addr) (ps : List Addr) (ad : Addr) : Prop where
  bsp : B ≤ sp.block ∧ sp.block < w.heap.size
  fsp : w.frozen? sp = false
  bps : ∀ j, j < ps.length → B ≤ (ps.getD j sp).block ∧ (ps.getD j sp).block < w.heap.size
  fps : ∀ j, j < ps.length → w.frozen? (ps.getD j sp) = false
  nsp : ∀ j, j < ps.length → ps.getD j sp ≠ sp
  nod : ∀ i j, i < ps.length → j < ps.length → i ≠ j → ps.getD i sp ≠ ps.getD j sp
  row : ∀ j, j < ps.length → w.cell? (ad.add j) = some (.pointer (some (ps.getD j sp)))
  bad : ad.block < w.heap.size
  nrow : ad.block ≠ sp.block ∧ ∀ j, j < ps.length → ad.block ≠ (ps.getD j sp).block
theorem mem_getD {ps : List Addr} {sp a : Addr} (h : a ∈ ps) : ∃ j, j < ps.length ∧ ps.getD j sp = a := by
  obtain ⟨j, hj, e⟩ := List.getElem_of_mem h
  exact ⟨j, hj, by rw [List.getD_eq_getElem?_getD, List.getElem?_eq_getElem hj]; exact e⟩
theorem getD_mem {ps : List Addr} {sp : Addr} {j : Nat} (h : j < ps.length) : ps.getD j sp ∈ ps := by
  rw [List.getD_eq_getElem?_getD, List.getElem?_eq_getElem h]
  exact List.getElem_mem h
theorem TK.call {w wr wr' : World} {B : Nat} {sp ad : Addr} {ps : List Addr} {s : ByteArray} {vals : List Int} (h : TK w wr B sp ps s vals) (hp : TP w B sp ps ad) (hB : B ≤ w.heap.size) (hb : Below wr.heap.size wr wr') : TK w wr' B sp ps s vals where
  below := h.below.trans (hb.mono (Nat.le_trans hB h.sz))
  sz := Nat.le_trans h.sz hb.size
  str := by rw [hb.cell (Nat.lt_of_lt_of_le hp.bsp.2 h.sz)]; exact h.str
  cells := fun j hj => by rw [hb.cell (Nat.lt_of_lt_of_le (hp.bps j hj).2 h.sz)]; exact h.cells j hj
  other := fun a ha h1 h2 => by rw [hb.cell (Nat.lt_of_lt_of_le ha h.sz)]; exact h.other a ha h1 h2
  frozen := fun a ha => by rw [hb.frozen (Nat.lt_of_lt_of_le ha h.sz)]; exact h.frozen a ha
  len := h.len
theorem TK.set {w wr : World} {B : Nat} {sp ad : Addr} {ps : List Addr} {s : ByteArray} {vals : List Int} (h : TK w wr B sp ps s vals) (hp : TP w B sp ps ad) (j : Nat) (hj : j < ps.length) (n : Int) : TK w (wr.setCell (ps.getD j sp) (.int .i64 n)) B sp ps s (vals.set j n) where
  below := h.below.setCell (hp.bps j hj).1 _
  sz := by rw [World.size_setCell]; exact h.sz
  str := by rw [World.cell?_setCell_other _ _ _ _ (hp.nsp j hj)]; exact h.str
  cells := fun i hi => by
    by_cases e : i = j
    · subst e
      rw [World.cell?_setCell_same _ _ _ (h.cells i hj)]
      have := h.len
      simp [List.getD, show i < vals.length by omega]
    · rw [World.cell?_setCell_other _ _ _ _ (hp.nod j i hj hi (Ne.symm e)), h.cells i hi]
      simp [List.getD, List.getElem?_set, Ne.symm e]
  other := fun a ha h1 h2 => by
    rw [World.cell?_setCell_other _ _ _ _ (fun e => h2 (by rw [← e]; exact getD_mem hj))]
    exact h.other a ha h1 h2
  frozen := fun a ha => by rw [World.frozen?_setCell]; exact h.frozen a ha
  len := by rw [List.length_set]; exact h.len
theorem TK.setS {w wr : World} {B : Nat} {sp ad : Addr} {ps : List Addr} {s : ByteArray} {vals : List Int} (h : TK w wr B sp ps s vals) (hp : TP w B sp ps ad) (t : ByteArray) : TK w (wr.setCell sp (.string t)) B sp ps t vals where
  below := h.below.setCell hp.bsp.1 _
  sz := by rw [World.size_setCell]; exact h.sz
  str := World.cell?_setCell_same _ _ _ h.str
  cells := fun i hi => by
    rw [World.cell?_setCell_other _ _ _ _ (Ne.symm (hp.nsp i hi))]
    exact h.cells i hi
  other := fun a ha h1 h2 => by
    rw [World.cell?_setCell_other _ _ _ _ (Ne.symm h1)]
    exact h.other a ha h1 h2
  frozen := fun a ha => by rw [World.frozen?_setCell]; exact h.frozen a ha
  len := h.len
theorem TK.row {w wr : World} {B : Nat} {sp ad : Addr} {ps : List Addr} {s : ByteArray} {vals : List Int} (h : TK w wr B sp ps s vals) (hp : TP w B sp ps ad) (j : Nat) (hj : j < ps.length) : wr.cell? (ad.add j) = some (.pointer (some (ps.getD j sp))) := by
  rw [h.other _ (by rw [add_block]; exact hp.bad) ?_ ?_]
  · exact hp.row j hj
  · intro e
    exact hp.nrow.1 (by rw [← add_block ad j, e])
  · intro hm
    obtain ⟨i, hi, e⟩ := mem_getD (sp := sp) hm
    exact hp.nrow.2 i hi (by rw [← add_block ad j, ← e])
theorem OB.set {W : World} {B : Nat} {v : Value} {bs : List Nat} (h : OB W B v bs) {a : Addr} (ha : a.block < B) (u : Value) : OB (W.setCell a u) B v bs := ⟨ownsRow_setCell_below h.1 ha u, h.2⟩
theorem take_vals {α : Type} (vals pre : List α) (j : Nat) (x : α) (hj : j < vals.length) (h : vals.take j = pre) : (vals.set j x).take (j + 1) = pre ++ [x] := by
  rw [List.take_add_one, List.take_set, List.set_eq_of_length_le (by rw [List.length_take]; omega), h, List.getElem?_set_self (by omega)]
  rfl
set_option maxHeartbeats 4000000 in
set_option maxRecDepth 100000 in
theorem take_calls (B : Nat) (v : Value) (bs : List Nat) (sp ad : Addr) (ps : List Addr) (c : Nat) (s0 : ByteArray) (vals0 : List Int) (w : World) (hI : In w v bs) (hl : bs.length ≤ 1000000000) (hp : TP w B sp ps ad) (h0 : TK w w B sp ps s0 vals0) (hc : ps.length ≤ c) (hk : ps.length ≤ 100) (hB : B ≤ w.heap.size) :
    Calls Tryz.prog 16 #[v, .pointer (some sp), .slice (some ad) ps.length c] w fun e w' => (∀ t ns rest, takeR ps.length bs = some ((t, ns), rest) → ∃ v' s, e = .returned (.tuple #[v', .bool true]) ∧ sn s = t ∧ OB w' w.heap.size v' rest ∧ TK w w' B sp ps s (ns.map fun (n : Nat) => (n : Int))) ∧ (takeR ps.length bs = none → ∃ v' s vals, e = .returned (.tuple #[v', .bool false]) ∧ TK w w' B sp ps s vals) := by
  have HI := Lib.hid hI
  have HP := Lib.hid hp
  have H0 := Lib.hid h0
  clear hI hp h0
  go_enter Tryz.func16, Tryz.ntmps16
  go_wp2_with fail
  refine (readT_calls v bs _ HI.out hl).mono ?_
  rintro e w1 ⟨⟨hs, hn⟩, hb1⟩
  have HK1 := Lib.hid (H0.out.call HP.out hB hb1)
  have hz : Hid (w1.frozen? sp = false) := by rw [HK1.out.frozen sp HP.out.bsp.2]; exact HP.out.fsp
  have hz' := hz.out
  have hcs := HK1.out.str
  have hmain : Hid (∃ (v1 : Value) (s1 : ByteArray) (er : Int), e = .returned (.tuple #[.string s1, v1, .int .i64 er]) ∧ ((er = 0 ∧ ∃ t b1, decT bs = some (t, b1) ∧ sn s1 = t ∧ OB w1 w.heap.size v1 b1) ∨ (er = 4 ∧ decT bs = none))) := by
    cases hd : decT bs with
    | none => exact ⟨_, _, _, hn hd, .inr ⟨rfl, rfl⟩⟩
    | some p =>
      obtain ⟨t, b1⟩ := p
      obtain ⟨s1, v1, h1, h2, h3⟩ := hs t b1 hd
      exact ⟨v1, s1, 0, h2, .inl ⟨rfl, t, b1, rfl, h1, h3⟩⟩
  obtain ⟨v1, s1, er, rfl, hor⟩ := hmain.out
  have HOR := Lib.hid hor
  clear hs hn hb1 hor hmain hz
  have HK2 := Lib.hid (HK1.out.setS HP.out s1)
  have hspb := Lib.hid HP.out.bsp.2
  go_wp2_with fail
  generalize hw2 : w1.setCell sp (.string s1) = w2 at HK2
  clear hcs hz'
  go_loopw [0, 9, 23] (fun v0 v9 v23 wr => ∃ (j : Nat) (er : Int) (vals : List Int), j ≤ ps.length ∧ v9 = .int .i64 er ∧ v23 = .int .i64 (j : Int) ∧ Hid (TK w wr B sp ps s1 vals) ∧ Hid ((er = 0 ∧ ∃ t b1 pre cur, decT bs = some (t, b1) ∧ sn s1 = t ∧ OB wr w.heap.size v0 cur ∧ cur.length ≤ bs.length ∧ vals.take j = (pre.map fun (n : Nat) => (n : Int)) ∧ numsR ps.length b1 = cont pre (numsR (ps.length - j) cur)) ∨ (er = 4 ∧ takeR ps.length bs = none))) (fun _ _ v23 _ => ps.length - (intAt v23).toNat)
  case atStart =>
    refine ⟨0, er, vals0, Nat.zero_le _, rfl, rfl, HK2, Lib.hid ?_⟩
    rcases HOR.out with ⟨rfl, t, b1, h1, h2, h3⟩ | ⟨rfl, h1⟩
    · refine .inl ⟨rfl, t, b1, [], b1, h1, h2, ?_, decT_short h1, rfl, ?_⟩
      · rw [← hw2]; exact h3.set hspb.out _
      · rw [Nat.sub_zero, cont]; cases numsR ps.length b1 <;> simp
    · exact .inr ⟨rfl, by simp [takeR, bnd, h1]⟩
  case round =>
    obtain ⟨j, er', vals, hj, rfl, rfl, hk', hor⟩ := hrel
    by_cases hlt : j < ps.length
    · have c0 := hk'.out.row HP.out j hlt
      have c1 := hk'.out.cells j hlt
      have z1 : wr.frozen? (ps.getD j sp) = false := by rw [hk'.out.frozen _ (HP.out.bps j hlt).2]; exact HP.out.fps j hlt
      have hin : (j : Int) < (ps.length : Int) := by omega
      have hin0 : (0 : Int) ≤ (j : Int) := by omega
      have HPB := Lib.hid (HP.out.bps j hlt)
      have HSET := Lib.hid (fun wr' vs (q : TK w wr' B sp ps s1 vs) n => q.set HP.out j hlt n)
      generalize hpj : ps.getD j sp = p at c0 c1 z1 HPB HSET
      rcases hor.out with ⟨rfl, t, b1, pre, cur, h1, h2, h3, h4, h5, h6⟩ | ⟨rfl, h1⟩
      · have HS := Lib.hid h1
        have HS2 := Lib.hid h2
        have HC := Lib.hid h3
        have HV := Lib.hid h5
        have HNM := Lib.hid h6
        clear h1 h2 h3 h5 h6 hor
        go_wp2_with fail
        refine (readU_calls u0 cur _ HC.out.in (by omega)).mono ?_
        rintro e w3 ⟨⟨hs3, hn3⟩, hb3⟩
        have HK3 := Lib.hid (hk'.out.call HP.out hB hb3)
        have c3 : w3.cell? p = some (.int .i64 (vals.getD j 0)) := by have := HK3.out.cells j hlt; rwa [hpj] at this
        have z3 : w3.frozen? p = false := by rw [HK3.out.frozen _ HPB.out.2, ← hpj]; exact HP.out.fps j hlt
        have HN1 := Lib.hid (show w.heap.size ≤ wr.heap.size from hk'.out.sz)
        have hmain : Hid (∃ (v3 : Value) (n3 er3 : Int), e = .returned (.tuple #[.int .i64 n3, v3, .int .i64 er3]) ∧ ((er3 = 0 ∧ ∃ (m : Nat) (rest : List Nat), n3 = (m : Int) ∧ decU 0 0 cur = some (m, rest) ∧ OB w3 wr.heap.size v3 rest) ∨ (er3 = 4 ∧ decU 0 0 cur = none))) := by
          cases hd : decU 0 0 cur with
          | none => exact ⟨_, _, _, hn3 hd, .inr ⟨rfl, rfl⟩⟩
          | some q =>
            obtain ⟨m, rest⟩ := q
            obtain ⟨v3, k1, k2⟩ := hs3 m rest hd
            exact ⟨v3, m, 0, k1, .inl ⟨rfl, m, rest, rfl, rfl, k2⟩⟩
        obtain ⟨v3, n3, er3, rfl, hor3⟩ := hmain.out
        have HOR3 := Lib.hid hor3
        clear hs3 hn3 hb3 hor3 hmain c1 z1
        go_wp2_with fail
        go_roundw
        case measure =>
          show ps.length - ((((j + 1 : Nat) : Int))).toNat < ps.length - ((j : Nat) : Int).toNat
          omega
        case rel =>
          refine ⟨j + 1, er3, vals.set j n3, by omega, rfl, rfl, Lib.hid (by have := HSET.out w3 vals HK3.out n3; exact this), Lib.hid ?_⟩
          have hl3 := HK3.out.len
          rcases HOR3.out with ⟨rfl, m, rest, rfl, k1, k2⟩ | ⟨rfl, k1⟩
          · refine .inl ⟨rfl, t, b1, pre ++ [m], rest, HS.out, HS2.out, (k2.mono HN1.out).set HPB.out.2 _, Nat.le_trans (decU_short k1) h4, ?_, ?_⟩
            · rw [List.map_append]
              exact take_vals vals _ j _ (by omega) HV.out
            · rw [HNM.out, show ps.length - j = (ps.length - (j + 1)) + 1 by omega, nums_some _ _ _ _ _ k1]
          · refine .inr ⟨rfl, ?_⟩
            have : numsR ps.length b1 = none := by rw [HNM.out, show ps.length - j = (ps.length - (j + 1)) + 1 by omega, nums_none _ _ _ k1]
            simp [takeR, bnd, HS.out, this]
      · have H1 := Lib.hid h1
        clear h1 hor
        go_wp2_with fail
        go_roundw
        case measure =>
          show ps.length - ((((j + 1 : Nat) : Int))).toNat < ps.length - ((j : Nat) : Int).toNat
          omega
        case rel => exact ⟨j + 1, 4, vals, by omega, rfl, rfl, hk', Lib.hid (.inr ⟨rfl, H1.out⟩)⟩
    · obtain rfl : j = ps.length := by omega
      have hin : ¬ ((ps.length : Int) < (ps.length : Int)) := by omega
      rcases hor.out with ⟨rfl, t, b1, pre, cur, h1, h2, h3, h4, h5, h6⟩ | ⟨rfl, h1⟩
      · have H1 := Lib.hid h1
        have H2 := Lib.hid h2
        have H3 := Lib.hid h3
        have H5 := Lib.hid h5
        have H6 := Lib.hid h6
        clear h1 h2 h3 h5 h6 hor
        go_wp2_with fail
        go_ret2
        have hR : takeR ps.length bs = some ((t, pre), cur) := by
          simp [takeR, bnd, H1.out, H6.out, cont, numsR, ret]
        refine ⟨fun t' ns rest e => ?_, fun e => ?_⟩
        · rw [hR] at e
          injection e with e
          injection e with e1 e2
          injection e1 with e1 e3
          subst e1 e2 e3
          refine ⟨u0, rfl, s1, H2.out, H3.out, ?_⟩
          have h7 := H5.out
          rw [List.take_of_length_le (by have := hk'.out.len; omega)] at h7
          rw [← h7]
          exact hk'.out
        · rw [hR] at e
          cases e
      · have H1 := Lib.hid h1
        clear h1 hor
        go_wp2_with fail
        go_ret2
        refine ⟨fun t' ns rest e => ?_, fun e => ⟨⟨u0, rfl⟩, s1, vals, hk'.out⟩⟩
        rw [H1.out] at e
        cases e
end Go.Proofs.YtoddlefhlicfiaaGreatDoorR.RdrDev
