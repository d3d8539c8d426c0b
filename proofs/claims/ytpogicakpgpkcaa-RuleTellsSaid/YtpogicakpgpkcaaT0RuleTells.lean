/- rule.Old once more: the list that it tells lies in a row that holds texts alone, the spare part too. No statement of the seat stands here. -/
import Derived.Test.YtpogicakpgpkcaaT1RuleTells
import Derived.Test.YtpogicakpgpkcaaR15RuleTells
namespace Go.Proofs.Ytpogicakpgpkcaa.RRuleTells
open Go.RowKit Go.Shelf Go.Proofs.Ytpogicakpgpkcaa.It Go.Proofs.Ytpogicakpgpkcaa.PRuleTells Go.Proofs.YtpogicakpgpkcaaW.PrintWords Go.Proofs.YtpogicakpgpkcaaW.PrintLast Go.Proofs.YtpogicakpgpkcaaW.PrintMore
theorem large1_ids (l : List S45) (key : ByteArray) (vs : List S53) (hv : vs.length ≤ 9223372036854775807) : ∀ (k j : Nat), stowagelaw22_large.l1 k l (j : Int) key vs = some false → ∀ q, j ≤ q → q < vs.length → (rd_T53 vs (q : Int)).f0.size ≤ 100
  | 0, _, h => by rw [stowagelaw22_large.l1] at h; cases h
  | k + 1, j, h => by
    intro q h1 h2
    rw [stowagelaw22_large.l1, if_pos (by omega), if_pos (by omega)] at h
    split at h
    · cases h
    · rw [wsucc j (by omega)] at h
      by_cases e : q = j
      · subst e; omega
      · exact large1_ids l key vs hv k (j + 1) h q (by omega) h2
theorem large0_ids (l : List S45) (key : ByteArray) (vs : List S53) (hl : l.length ≤ 9223372036854775807) (hv : vs.length ≤ 9223372036854775807) : ∀ (k j : Nat), stowagelaw22_large.l0 k l (j : Int) key vs = some false → ∀ q, q < vs.length → (rd_T53 vs (q : Int)).f0.size ≤ 100
  | 0, _, h => by rw [stowagelaw22_large.l0] at h; cases h
  | k + 1, j, h => by
    intro q h2
    rw [stowagelaw22_large.l0] at h
    split at h
    · rw [if_pos (by omega)] at h
      split at h
      · cases h
      · rw [wsucc j (by omega)] at h
        exact large0_ids l key vs hl hv k (j + 1) h q h2
    · exact large1_ids l key vs hv k 0 h q (Nat.zero_le _) h2
/-- IDs are small where law22.large tells so. -/
theorem large_ids (l : List S45) (key : ByteArray) (vs : List S53) (hl : l.length ≤ 9223372036854775807) (hv : vs.length ≤ 9223372036854775807) (k : Nat) (h : stowagelaw22_large.f k l key vs = some false) (i : Int) : (rd_T53 vs i).f0.size ≤ 1000 := by
  by_cases hi : i.toNat < vs.length
  · have := large0_ids l key vs hl hv k 0 h i.toNat hi
    unfold rd_T53 at this ⊢
    rw [Int.toNat_natCast] at this
    omega
  · unfold rd_T53
    rw [List.getD_eq_getElem?_getD, List.getElem?_eq_none (by omega)]
    decide
/-- The row behind a slice holds texts alone. -/
def FullS (W : World) (v : Value) : Prop := ∀ g cur q, v.ownBlock = some g → W.heap[g]? = some (.cells cur 9 q) → ∀ u ∈ cur.toList, ∃ s, u = .string s ∧ s.size ≤ 1000
theorem FullS.nil (W : World) : FullS W (.slice none 0 0) := fun g cur q h => by simp [Value.ownBlock] at h
theorem zero_strings (m : Nat) : ∀ u ∈ (Builtin.zeroCells (Value.string ⟨#[]⟩).cells m).toList, ∃ s, u = .string s ∧ s.size ≤ 1000 := by
  intro u hu
  simp [Builtin.zeroCells, Value.cells, Nat.mod_one] at hu
  exact ⟨_, hu.2.symm, by decide⟩
theorem full_run (w : World) (base : Nat) (ty : TypeId) (i : TypeInfo) (hi : Try.prog.info? 9 = some i) (hz : i.zero = some (.string ⟨#[]⟩)) (hsize : i.size = 1) (hby : i.bytes = 16)
    (v : Value) (n : Nat) (xs : List Value) (hown : w.ownsRow base 9 1 v n xs) (hf : FullS w v)
    (a : Addr) (c : Nat) (s : ByteArray) (hss : s.size ≤ 1000) (hs : w.cell? a = some (.string s)) (h63 : n + 1 ≤ maxLen) (hbytes : (n + 1) * 16 ≤ 140737488355328) (v1 : Value) (w1 : World)
    (hr : (Builtin.append_ #[54, 54] ty #[v, .slice (some a) 1 c]).run Try.prog w = .ok v1 w1) : FullS w1 v1 := by
  have hnews : ∀ j u, [Value.string s][j]? = some u → w.cell? (a.add j) = some u := by
    intro j u hj
    match j, hj with
    | 0, hj => simp at hj; subst hj; simpa [Addr.add] using hs
    | j + 1, hj => simp at hj
  rcases hown.2 with ⟨rfl, rfl⟩ | ⟨g, cap, cur, rfl, hbg, hg, hnc, hcm, hcs, htake⟩
  · have h := run_append_nil (P := Try.prog) w 54 ty 9 i (.string ⟨#[]⟩) Try.underlying54 hi hz a 1 c [.string s] (by rw [hsize]; rfl) hnews (by omega) (by omega) (by rw [hby]; omega)
    rw [h] at hr
    injection hr with hr1 hr2
    subst hr1 hr2
    intro g cur q hg hh
    simp [Value.ownBlock] at hg
    subst hg
    rw [show (w.drew.alloc (.cells ([Value.string s].toArray ++ Builtin.zeroCells (Value.string ⟨#[]⟩).cells (grownCap w 1 0 9 - 1)) 9)).heap[w.heap.size]? = _ from World.alloc_heap_new w.drew _] at hh
    injection hh with hh
    injection hh with hh
    subst hh
    intro u hu
    rw [Array.toList_append, List.mem_append] at hu
    rcases hu with hu | hu
    · simp at hu; exact ⟨_, hu, hss⟩
    · exact zero_strings _ u hu
  · have hcur := hf g cur _ rfl hg
    by_cases hroom : n + 1 ≤ cap
    · have h := run_append_room (P := Try.prog) w 54 ty 9 i Try.underlying54 hi g n cap cur hg a 1 c [.string s] (by rw [hsize]; rfl) hnews (by simp [Value.oneCell']) hroom (by rw [hsize, hcs]; simp; omega)
      rw [h] at hr
      injection hr with hr1 hr2
      subst hr1 hr2
      intro g' cur' q hg' hh
      simp [Value.ownBlock] at hg'
      subst hg'
      rw [setRow_heap w g cur _ 9 _ hg] at hh
      injection hh with hh
      injection hh with hh
      subst hh
      intro u hu
      simp only [List.mem_append, List.append_assoc] at hu
      rcases hu with hu | hu | hu
      · exact hcur u (List.mem_of_mem_take hu)
      · simp at hu; exact ⟨_, hu, hss⟩
      · exact hcur u (List.mem_of_mem_drop hu)
    · have holds : ∀ j u, xs[j]? = some u → w.cell? ((⟨g, 0, none⟩ : Addr).add j) = some u := hown.cells (g := g) rfl
      have h := run_append_grow (P := Try.prog) w 54 ty 9 i (.string ⟨#[]⟩) Try.underlying54 hi hz ⟨g, 0, none⟩ n cap xs (by rw [hsize]; exact hown.1) holds a 1 c [.string s] (by rw [hsize]; rfl) hnews (by omega) (by simp only [maxLen] at h63; omega) (growslice_fits (by omega) (by rw [hby]; exact hbytes))
      rw [h] at hr
      injection hr with hr1 hr2
      subst hr1 hr2
      intro g' cur' q hg' hh
      simp [Value.ownBlock] at hg'
      subst hg'
      rw [show (w.drew.alloc (.cells (xs.toArray ++ [Value.string s].toArray ++ Builtin.zeroCells (Value.string ⟨#[]⟩).cells (grownCap w (n + 1) cap 9 - (n + 1))) 9)).heap[w.heap.size]? = _ from World.alloc_heap_new w.drew _] at hh
      injection hh with hh
      injection hh with hh
      subst hh
      intro u hu
      simp only [Array.toList_append, List.mem_append] at hu
      rcases hu with (hu | hu) | hu
      · rw [← htake] at hu; exact hcur u (List.mem_of_mem_take hu)
      · simp at hu; exact ⟨_, hu, hss⟩
      · exact zero_strings _ u hu
theorem FullS.alloc {W : World} {v : Value} (h : FullS W v) (o : Obj) (hlt : ∀ g, v.ownBlock = some g → g < W.heap.size) : FullS (W.alloc o) v := fun g cur q hg hh => by
  rw [Below.heap_alloc W o g (hlt g hg)] at hh
  exact h g cur q hg hh
section
variable {ops : Array Oper} {rest : List Oper} {o : Oper} {a : Act} {Q : Exit → Act → World → Prop}
theorem F_append {w0 W : World} (base : Nat) (hgd : o.guard = none) (s x : Operand)
    (ho : o.op = .call { callee := .builtin .append, args := #[s, x], argTypes := #[54, 54] })
    (v : Value) (xs : List ByteArray) (p : ByteArray) (hpp : p.size ≤ 1000) (hs : a.eval s = v) (hx : a.eval x = .slice (some ⟨W.heap.size, 0, none⟩) 1 1)
    (HO : Kd.R Kd.string 9 W base (fun _ => True) v xs) (HF : FullS W v) (HB : Below base w0 W) (hbase : base ≤ W.heap.size) (hl : (xs.length + 1) * 16 ≤ 140737488355328)
    (h : ∀ v1 w1, Kd.R Kd.string 9 w1 base (fun _ => True) v1 (xs ++ [p]) → Below base w0 w1 → W.grownBy w1 v.ownBlock → (v1.ownBlock = v.ownBlock ∨ ∃ b, v1.ownBlock = some b ∧ W.heap.size ≤ b) → FullS w1 v1 → wpList Try.prog ops Q rest (a.put o.dst v1) w1) :
    wpList Try.prog ops Q (o :: rest) a (W.alloc (.cells #[.string p] 9)) := by
  obtain ⟨i0, hi, hzz⟩ := Option.map_eq_some_iff.1 info9_
  simp only [Prod.mk.injEq] at hzz
  obtain ⟨hz0, hz1, hz2⟩ := hzz
  obtain ⟨h0, inner, hown, hr⟩ := HO
  have hlen : xs.length + 1 ≤ 140737488355328 := by omega
  have hcell : (W.alloc (.cells #[.string p] 9)).cell? ⟨W.heap.size, 0, none⟩ = some (.string p) := by
    have hh := World.alloc_heap_new W (.cells #[.string p] 9)
    simp only [World.cell?, hh]; rfl
  obtain ⟨v1, w1, k1, k2, k3, _, k5⟩ := run_append_own_at (P := Try.prog) (W.alloc (.cells #[.string p] 9)) base 54 o.type 9 i0 (.string ⟨#[]⟩) 1 16 Try.underlying54 hi hz0 hz1 hz2 rfl (by decide) v xs.length inner (hown.alloc _) ⟨W.heap.size, 0, none⟩ 1 1 [.string p] rfl
    (by simpa using World.news_of_block (cs := #[Value.string p]) (t := 9) (fr := (0, 0)) (World.alloc_heap_new W (.cells #[.string p] 9))) (by simp [Value.oneCell']) (by simp only [maxLen]; omega) hl (by simp; omega)
  have hF := full_run _ base o.type i0 hi hz0 hz1 hz2 v xs.length inner (hown.alloc _) (HF.alloc _ (fun g hg => own_lt hown g hg)) ⟨W.heap.size, 0, none⟩ 1 p hpp hcell (by simp only [maxLen]; omega) hl v1 w1 k1
  have hat : v1.ownBlock = v.ownBlock ∨ ∃ b, v1.ownBlock = some b ∧ W.heap.size ≤ b := k5.imp id (fun e => ⟨_, e, by simp⟩)
  have hg : W.grownBy w1 v.ownBlock := World.grownBy.trans (World.grownBy_alloc W _ _) k3
  refine wpList_plain hgd fun K hK => ?_
  unfold Oper.wp execOp
  simp only [ho, resolve, invoke, builtin, Sem.run_bind, Sem.run_pure, Result.andThen_ok, List.map_toArray, List.map_cons, List.map_nil, hs, hx, k1]
  exact hK _ _ (h v1 w1 (Kd.R_appended (d := Kd.string) (okp := fun _ => False) (cs := [.string p]) h0 hr rfl (fun _ hk => hk.elim) (fun _ _ => trivial) k2 hg hat) ((HB.alloc hbase _).grown k3 (by simp; omega) (own_base hown)) hg hat hF)
end
set_option maxHeartbeats 4000000 in
set_option maxRecDepth 100000 in
theorem old_full (k : Nat) (A : Option Addr) (c : Nat) (key : ByteArray) (V : Option Addr) (cv : Nat) (rules : List S45) (vs : List S53) (now : Int) (r : Int) (w : World) (hr : Kd.C k45 w A rules.length rules) (hc : rules.length ≤ c) (hv : Kd.C k53 w V vs.length vs) (hcv : vs.length ≤ cv) (ha : rule_asked.f k rules key vs now = some r) (hg : r = 0 → Good rules vs) (hid : ∀ i : Int, (rd_T53 vs i).f0.size ≤ 1000) :
    Calls Try.prog 36 #[.slice A rules.length c, .agg #[.string key, .slice V vs.length cv], .int .i64 now] w fun e w' => ∃ v, e = .returned (.tuple #[v, .int .i64 r]) ∧ Kd.R Kd.string 9 w' w.heap.size (fun _ => True) v (if r = 0 then oldF rules key vs now else []) ∧ FullS w' v ∧ Below w.heap.size w w' := by
  have HR := Lib.hid hr
  have HV := Lib.hid hv
  have HA := Lib.hid ha
  have HG := Lib.hid hg
  have HC := Lib.hid hc
  have HCV := Lib.hid hcv
  have HID := Lib.hid hid
  clear hr hv ha hg hc hcv hid
  go_enter Try.func36, Try.ntmps36
  go_wp2_with fail
  refine (rule_asked.calls k A c rules key V cv vs now r _ (Kd.C_alloc HR.out _) HC.out (Kd.C_alloc HV.out _) HCV.out HA.out).mono ?_
  rintro e w1 ⟨rfl, hb1⟩
  have hB1 : Below w.heap.size w w1 := ((Below.refl _ w).alloc (Nat.le_refl _) _).trans (hb1.mono (by simp))
  have hE : w1.heap[w.heap.size]? = some (.cells #[.string key, .slice V vs.length cv] 48) := (hb1.block _ (by simp)).trans (World.alloc_heap_new w _)
  have c1 : w1.cell? ⟨w.heap.size, 0, none⟩ = some (.string key) := by simp [World.cell?, hE]
  have c2 : w1.cell? ⟨w.heap.size, 1, none⟩ = some (.slice V vs.length cv) := by simp [World.cell?, hE]
  have HB1 := Lib.hid hB1
  have HE := Lib.hid hE
  clear hb1 hB1 hE
  by_cases h0 : r = 0
  · subst h0
    have hg := HG.out rfl
    have HGo := Lib.hid hg
    clear hg
    go_wp2_with fail
    refine (first_calls A c key V cv rules vs w1 (Kd.C_below HR.out HB1.out) (Kd.C_below HV.out HB1.out) HGo.out.ok HGo.out.times HGo.out.n HGo.out.m).mono ?_
    rintro e w2 ⟨B, rfl, hB, hlB, hb2⟩
    have HE2 := Lib.hid ((hb2.block _ (Array.getElem?_eq_some_iff.1 HE.out).1).trans HE.out)
    have HB2 := Lib.hid (HB1.out.trans (hb2.mono HB1.out.size))
    have HI := Lib.hid hB
    have hm := HGo.out.m
    have hlB2 : w.heap.size ≤ B := Nat.le_trans HB1.out.size hlB
    clear hb2 c1 c2 hB
    go_wp2_with fail
    go_loopw [9, 23] (fun v9 v23 wr => ∃ j : Nat, j ≤ vs.length ∧ v23 = .int .i64 j ∧ ∃ xs, Hid (xs = oldN rules key vs now j) ∧ Hid (Kd.R Kd.string 9 wr w.heap.size (fun _ => True) v9 xs) ∧ Hid (FullS wr v9) ∧ Hid (wr.heap[w.heap.size]? = some (.cells #[.string key, .slice V vs.length cv] 48)) ∧ Hid (wr.heap[B]? = some (ints (firstL rules key vs))) ∧ Hid (Below w.heap.size w wr))
      (fun _ v23 _ => vs.length - (intOf v23).toNat)
    case atStart => exact ⟨0, Nat.zero_le _, rfl, [], Lib.hid rfl, Lib.hid (Kd.R_nil _ _ _ _ _), Lib.hid (FullS.nil _), HE2, HI, HB2⟩
    case round =>
      obtain ⟨j, hj, rfl, xs, hxs, hown, hful, he, hi, hb⟩ := hrel
      by_cases hlt : j < vs.length
      · have c3 := ints_cell hi.out j (by rw [firstL_length]; omega)
        obtain ⟨f0, hf0⟩ : ∃ f0, f0 = (firstL rules key vs).getD j 0 := ⟨_, rfl⟩
        rw [← hf0] at c3
        have hst := oldN_step rules key vs now j
        unfold oldB at hst
        rw [← hf0] at hst
        have HST := Lib.hid hst
        clear hst hf0
        by_cases h1 : 0 < j
        · by_cases h2 : 0 ≤ f0
          · by_cases h3 : f0 ≤ now
            · obtain ⟨ad, ea, hx0, _⟩ := at_T53 (Kd.C_below HV.out hb.out) (j : Int) (by omega) (by omega)
              rw [Int.toNat_natCast] at hx0
              subst ea
              have c4 : wr.cell? ⟨w.heap.size, 1, none⟩ = some (.slice (some ad) vs.length cv) := by simp [World.cell?, he.out]
              obtain ⟨s, hs⟩ : ∃ s, s = (rd_T53 vs (j : Int)).f0 := ⟨_, rfl⟩
              rw [← hs] at hx0
              have HS := Lib.hid hs
              clear hs
              go_wp2_with (first
                | (refine F_append (w0 := w) w.heap.size rfl (.tmp 39) (.tmp 46) rfl u9 xs s ?x9 ?x1 ?x2 ?x4 ?x3 ?x5 ?x6 ?x7 ?x8
                   case x9 => rw [HS.out]; exact HID.out _
                   case x1 => rfl
                   case x2 => rfl
                   case x3 => exact hful.out
                   case x4 => exact hown.out
                   case x5 => exact hb.out
                   case x6 => exact hb.out.size
                   case x7 => have h9 := oldN_length rules key vs now j; rw [← hxs.out] at h9; omega
                   intro v1 w17 ho1 hb1 hg1 hat hf1
                   have hne1 := Kd.R_ne hown.out he.out (by decide)
                   have hne2 := Kd.R_ne hown.out hi.out (by decide)
                   have HO1 := Lib.hid ho1
                   have HF1 := Lib.hid hf1
                   have HBn := Lib.hid hb1
                   have HEn := Lib.hid ((hg1.block _ (Array.getElem?_eq_some_iff.1 he.out).1 hne1).trans he.out)
                   have HIn := Lib.hid ((hg1.block _ (Array.getElem?_eq_some_iff.1 hi.out).1 hne2).trans hi.out)
                   clear ho1 hb1 hg1 hat hne1 hne2 hf1))
              case roundEnd => exact ⟨⟨j + 1, by omega, by go_num, xs ++ [s], Lib.hid (by rw [HST.out]; simp [h1, h2, h3]; exact ⟨hxs.out, HS.out⟩), HO1, HF1, HEn, HIn, HBn⟩, by simp [intOf]; omega⟩
            · go_wp2_with fail
              case roundEnd => exact ⟨⟨j + 1, by omega, by go_num, xs, Lib.hid (by rw [HST.out]; simp [h3]; exact hxs.out), hown, hful, he, hi, hb⟩, by simp [intOf]; omega⟩
          · go_wp2_with fail
            case roundEnd => exact ⟨⟨j + 1, by omega, by go_num, xs, Lib.hid (by rw [HST.out]; simp [h2]; exact hxs.out), hown, hful, he, hi, hb⟩, by simp [intOf]; omega⟩
        · go_wp2_with fail
          case roundEnd => exact ⟨⟨j + 1, by omega, by go_num, xs, Lib.hid (by rw [HST.out]; simp [h1]; exact hxs.out), hown, hful, he, hi, hb⟩, by simp [intOf]; omega⟩
      · obtain rfl : j = vs.length := by omega
        go_wp2_with fail
        go_ret2
        exact ⟨_, rfl, by have := hown.out; rw [hxs.out] at this; exact this, hful.out, hb.out⟩
  · go_wp2_with fail
    go_ret2
    exact ⟨_, rfl, Kd.R_nil _ _ _ _ _, FullS.nil _, HB1.out⟩
end Go.Proofs.Ytpogicakpgpkcaa.RRuleTells
