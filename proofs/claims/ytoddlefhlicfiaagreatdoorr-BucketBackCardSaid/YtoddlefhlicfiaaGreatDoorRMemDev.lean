/- Bytes in memory: what is read, what is our own, and append. No statement of the seat stands here. -/
import Derived.Test.YtoddlefhlicfiaaGreatDoorRRdrDev
import Derived.Maps.AppendAt
import Derived.Lib.AppendStr
import Derived.Laws.BytesArg
import Derived.OwnWalk
import Derived.Below
import Derived.KernelRfl
import Derived.Laws.IdiomStrings
import Derived.Deep.Draws
import Derived.Deep.AppendLies
import Derived.Laws.MakeOwn
import Derived.Laws.OwnMore
import Derived.Deep.OwnRows
import Derived.Tactics
import Derived.Lib.ConvBytes
import Derived.Laws.Slices
import Derived.WalkKit
import Derived.RowKit3
import Derived.Deep.LoopGhost
import Derived.Deep.QuietTactic
import Derived.BigQuiet
import Derived.WideLaws
import Derived.Deep.DeepCutAuto
import Derived.Deep.CutBlock
import Derived.Deep.RegionHeld3
import Derived.Laws.Rows
import Derived.ArgAppend
import Derived.Laws.IdiomCopy
import Derived.OrdersHeld
import Derived.Laws.BitsLemmas
import Derived.RowKit
import Derived.WalkLawsBesides
import Derived.WalkSpells
set_option linter.unusedSimpArgs false
set_option linter.unusedVariables false
namespace Go.Proofs.YtoddlefhlicfiaaGreatDoorR.RdrDev
open Go Go.RowKit
theorem add_at (g j : Nat) : ((⟨g, 0, none⟩ : Addr).add j) = ⟨g, j, none⟩ := by
  unfold Addr.add
  split
  · rename_i h; subst h; rfl
  · simp
theorem info_u8 : (Tryz.prog.info? 5).map (fun i => (i.zero, i.size, i.bytes)) = some (some (.int .u8 0), 1, 1) := by kernel_rfl
def bv (n : Nat) : Value := .int .u8 (n : Int)
/-- a row of bytes that may be read -/
def In (W : World) (v : Value) (bs : List Nat) : Prop := ∃ A c, v = .slice A bs.length c ∧ bs.length ≤ c ∧ (A = none → c = 0) ∧ BytesAt W A bs ∧ (∀ ad, A = some ad → ad.block < W.heap.size) ∧ ∀ x ∈ bs, x < 256
/-- the same without its place -/
def In0 (W : World) (v : Value) (bs : List Nat) : Prop := ∃ A c, v = .slice A bs.length c ∧ bs.length ≤ c ∧ (A = none → c = 0) ∧ BytesAt W A bs ∧ ∀ x ∈ bs, x < 256
theorem In.weak {W : World} {v : Value} {bs : List Nat} (h : In W v bs) : In0 W v bs := let ⟨A, c, h0, h1, h2, h3, _, h5⟩ := h; ⟨A, c, h0, h1, h2, h3, h5⟩
/-- a row of bytes of our own -/
def OB (W : World) (B : Nat) (v : Value) (bs : List Nat) : Prop := W.ownsRow B 5 1 v bs.length (bs.map bv) ∧ ∀ x ∈ bs, x < 256
/-- a string's bytes -/
def sn (s : ByteArray) : List Nat := s.data.toList.map (·.toNat)
theorem sn_len (s : ByteArray) : (sn s).length = s.size := by simp [sn]
theorem sn_lt (s : ByteArray) : ∀ x ∈ sn s, x < 256 := by
  intro x hx
  obtain ⟨c, _, rfl⟩ := List.mem_map.1 hx
  exact c.toNat_lt
theorem sn_inj {s t : ByteArray} (h : sn s = sn t) : s = t := by
  have h : s.data.toList = t.data.toList := (List.map_inj_right (fun a b hab => UInt8.toNat_inj.1 hab)).1 h
  cases s; cases t
  congr 1
  exact Array.toList_inj.1 h
theorem sn_cells (s : ByteArray) : Lib.strCells s = (sn s).map bv := by
  simp [Lib.strCells, sn, bv]
theorem strOf_sn (ns : List Nat) (h : ∀ x ∈ ns, x < 256) : sn (strOfNums (ns.map fun (n : Nat) => (n : Int))) = ns := by
  show (strOfNums (ns.map fun (n : Nat) => (n : Int))).data.toList.map (·.toNat) = ns
  rw [strOfNums_data, List.map_map, List.map_map]
  conv => rhs; rw [← List.map_id ns]
  refine List.map_congr_left (fun x hx => ?_)
  have := h x hx
  simp
  omega
theorem _root_.Go.RowKit.Below.size' {B : Nat} {a w : World} (h : Below B a w) (hB : B ≤ a.heap.size) : B ≤ w.heap.size := Nat.le_trans hB h.size
theorem OB.lt {W : World} {B : Nat} {v : Value} {bs : List Nat} (h : OB W B v bs) : ∀ k, v.ownBlock = some k → B ≤ k ∧ k < W.heap.size := h.1.lt
theorem OB.in {W : World} {B : Nat} {v : Value} {bs : List Nat} (h : OB W B v bs) : In W v bs := by
  obtain ⟨⟨hl, ho⟩, hb⟩ := h
  rcases ho with ⟨rfl, h0⟩ | ⟨g, cap, cur, rfl, hg, hh, hn, hm, hs, ht⟩
  · have : bs = [] := List.length_eq_zero_iff.1 h0
    subst this
    exact ⟨none, 0, rfl, Nat.le_refl _, fun _ => rfl, fun j hj => absurd hj (Nat.not_lt_zero _), fun ad e => (by cases e), fun x hx => (by cases hx)⟩
  · refine ⟨some ⟨g, 0, none⟩, cap, rfl, hn, fun e => (by cases e), fun j hj => ⟨_, rfl, ?_⟩, fun ad e => (by injection e with e; subst e; exact (Array.getElem?_eq_some_iff.1 hh).1), hb⟩
    have e : ((⟨g, 0, none⟩ : Addr).add j) = ⟨g, j, none⟩ := add_at g j
    rw [e]
    simp only [World.cell?, hh]
    have h1 : cur[j]? = (bs.map bv)[j]? := by
      rw [← ht, List.getElem?_take, if_pos (by omega)]
      simp
    rw [h1, List.getElem?_map, List.getElem?_eq_getElem hj]
    simp [bv, List.getD, hj]
theorem In.keep {W W' : World} {v : Value} {bs : List Nat} (h : In W v bs) {B : Nat} (hb : Below B W W') (hB : ∀ k, v.ownBlock = some k → k < B) : In W' v bs := by
  obtain ⟨A, c, rfl, h1, h2, h3, h4, h5⟩ := h
  refine ⟨A, c, rfl, h1, h2, fun j hj => ?_, fun ad e => Nat.lt_of_lt_of_le (h4 ad e) hb.size, h5⟩
  obtain ⟨ad, rfl, hc⟩ := h3 j hj
  refine ⟨ad, rfl, ?_⟩
  have : (ad.add j).block = ad.block := by unfold Addr.add; split <;> rfl
  rw [hb.cell (by rw [this]; exact hB _ rfl)]
  exact hc
theorem In.below {W W' : World} {v : Value} {bs : List Nat} (h : In W v bs) (hb : Below W.heap.size W W') : In W' v bs := by
  refine h.keep hb (fun k hk => ?_)
  obtain ⟨A, c, rfl, h1, h2, h3, h4, h5⟩ := h
  cases A with
  | none => cases hk
  | some ad => injection hk with hk; rw [← hk]; exact h4 ad rfl
theorem In.alloc {W : World} {v : Value} {bs : List Nat} (h : In W v bs) (o : Obj) : In (W.alloc o) v bs := h.below ((Below.refl _ _).alloc (Nat.le_refl _) o)
theorem OB.keep {W W' : World} {B B' : Nat} {v : Value} {bs : List Nat} (h : OB W B v bs) (hb : Below B' W W') (hB : ∀ k, v.ownBlock = some k → k < B') : OB W' B v bs := by
  obtain ⟨⟨hl, ho⟩, hx⟩ := h
  refine ⟨⟨hl, ?_⟩, hx⟩
  rcases ho with ⟨rfl, h0⟩ | ⟨g, cap, cur, rfl, hg, hh, hn, hm, hs, ht⟩
  · exact .inl ⟨rfl, h0⟩
  · exact .inr ⟨g, cap, cur, rfl, hg, by rw [hb.block g (hB g rfl)]; exact hh, hn, hm, hs, ht⟩
theorem OB.below {W W' : World} {B : Nat} {v : Value} {bs : List Nat} (h : OB W B v bs) (hb : Below W.heap.size W W') : OB W' B v bs := h.keep hb fun k hk => (h.lt k hk).2
theorem OB.alloc {W : World} {B : Nat} {v : Value} {bs : List Nat} (h : OB W B v bs) (o : Obj) : OB (W.alloc o) B v bs := h.below ((Below.refl _ _).alloc (Nat.le_refl _) o)
theorem OB.mono {W : World} {B B' : Nat} {v : Value} {bs : List Nat} (h : OB W B v bs) (hB : B' ≤ B) : OB W B' v bs := by
  obtain ⟨⟨hl, ho⟩, hx⟩ := h
  refine ⟨⟨hl, ?_⟩, hx⟩
  rcases ho with ⟨rfl, h0⟩ | ⟨g, cap, cur, rfl, hg, hh, hn, hm, hs, ht⟩
  · exact .inl ⟨rfl, h0⟩
  · exact .inr ⟨g, cap, cur, rfl, Nat.le_trans hB hg, hh, hn, hm, hs, ht⟩
theorem OB.nil (W : World) (B : Nat) : OB W B (.slice none 0 0) [] := ⟨World.ownsRow_nil _ _ _ _, fun x hx => (by cases hx)⟩
theorem OB.empty (W : World) (B N : Nat) (h : W.heap[N]? = some (.cells #[] 5)) (hb : B ≤ N) : OB W B (.slice (some ⟨N, 0, none⟩) 0 0) [] :=
  ⟨⟨rfl, .inr ⟨N, 0, #[], rfl, hb, h, by simp, by simp, by simp, by simp⟩⟩, fun x hx => (by cases hx)⟩
theorem app_lt {xs ys : List Nat} (h : ∀ x ∈ xs, x < 256) (k : ∀ x ∈ ys, x < 256) : ∀ x ∈ xs ++ ys, x < 256 := fun x hx => (List.mem_append.1 hx).elim (h x) (k x)
theorem bv_one (bs : List Nat) : ∀ u ∈ bs.map bv, u.oneCell' = true := by
  intro u hu
  obtain ⟨n, _, rfl⟩ := List.mem_map.1 hu
  rfl
theorem run_app_at (W : World) (B ty : Nat) (v x : Value) (bs ns : List Nat) (hO : OB W B v bs) (hI : In0 W x ns) (hl : bs.length + ns.length ≤ 1099511627776) (hB : B ≤ W.heap.size) :
    ∃ v' w', (Builtin.append_ #[27, 27] ty #[v, x]).run Tryz.prog W = .ok v' w' ∧ OB w' B v' (bs ++ ns) ∧ W.grownBy w' v.ownBlock ∧ (v'.ownBlock = v.ownBlock ∨ v'.ownBlock = some W.heap.size) := by
  obtain ⟨i, hi, hz, hs, hb⟩ := info_parts info_u8
  obtain ⟨A, c, rfl, h1, h2, h3, h5⟩ := hI
  cases A with
  | none =>
    obtain rfl := h2 rfl
    have hn : ns = [] := List.length_eq_zero_iff.1 (by omega)
    subst hn
    refine ⟨v, W, run_append_owned_none W B _ _ _ i 1 Tryz.underlying27 hi v bs.length _ hO.1, by simpa using hO, World.grownBy.refl _ _, .inl rfl⟩
  | some ad =>
    obtain ⟨v', w', hr, ho, hg, _, hat⟩ := run_append_own_at (P := Tryz.prog) W B 27 ty 5 i (.int .u8 0) 1 1 Tryz.underlying27 hi hz hs hb rfl (by decide) v bs.length (bs.map bv) hO.1 ad ns.length c (ns.map bv) (by simp) (fun j u hj => by
      rw [List.getElem?_map] at hj
      have hjl : j < ns.length := by
        apply Classical.byContradiction
        intro hn
        rw [List.getElem?_eq_none (by omega)] at hj
        cases hj
      obtain ⟨ad', e, hc⟩ := h3 j hjl
      rw [← Option.some.inj e] at hc
      rw [hc]
      rw [List.getElem?_eq_getElem hjl] at hj
      simp only [Option.map_some] at hj
      rw [← hj]
      simp [bv, List.getD, hjl]) (bv_one _) (by simp [maxLen]; omega) (by omega) hB
    exact ⟨v', w', hr, ⟨by rw [List.length_append, List.map_append]; exact ho, app_lt hO.2 h5⟩, hg, hat⟩
theorem run_app (W : World) (B ty : Nat) (v x : Value) (bs ns : List Nat) (hO : OB W B v bs) (hI : In0 W x ns) (hl : bs.length + ns.length ≤ 1099511627776) (hB : B ≤ W.heap.size) :
    ∃ v' w', (Builtin.append_ #[27, 27] ty #[v, x]).run Tryz.prog W = .ok v' w' ∧ OB w' B v' (bs ++ ns) ∧ W.grownBy w' v.ownBlock :=
  let ⟨v', w', h1, h2, h3, _⟩ := run_app_at W B ty v x bs ns hO hI hl hB
  ⟨v', w', h1, h2, h3⟩
theorem run_app_str (W : World) (B ty : Nat) (v : Value) (bs : List Nat) (s : ByteArray) (hO : OB W B v bs) (hl : bs.length + s.size ≤ 1099511627776) (hB : B ≤ W.heap.size) :
    ∃ v' w', (Builtin.append_ #[27, 9] ty #[v, .string s]).run Tryz.prog W = .ok v' w' ∧ OB w' B v' (bs ++ sn s) ∧ W.grownBy w' v.ownBlock := by
  obtain ⟨i, hi, hz, hs, hb⟩ := info_parts info_u8
  obtain ⟨v', w', hr, ho, hg, _⟩ := Lib.run_append_own_string (P := Tryz.prog) W B 27 9 ty 5 i Tryz.underlying27 Tryz.underlying9 hi hz hs hb v bs.length (bs.map bv) hO.1 s (by simp [maxLen]; omega) (by omega) hB
  exact ⟨v', w', hr, ⟨by rw [List.length_append, sn_len, List.map_append, ← sn_cells]; exact ho, app_lt hO.2 (sn_lt s)⟩, hg⟩
section
variable {P : Program} {ops : Array Oper} {rest : List Oper} {o : Oper} {a : Act} {w : World} {Q : Exit → Act → World → Prop}
/-- append of bytes, at the operation -/
theorem wp_app (hgd : o.guard = none) (s x : Operand) (ho : o.op = .call { callee := .builtin .append, args := #[s, x], argTypes := #[27, 27] }) {v y : Value} (B : Nat) (bs ns : List Nat) (hO : OB w B v bs) (hI : In0 w y ns) (hs : a.eval s = v) (hx : a.eval x = y) (hl : bs.length + ns.length ≤ 1099511627776) (hB : B ≤ w.heap.size)
    (h : ∀ v' w', OB w' B v' (bs ++ ns) → w.grownBy w' v.ownBlock → wpList Tryz.prog ops Q rest (a.put o.dst v') w') : wpList Tryz.prog ops Q (o :: rest) a w := by
  refine wpList_plain hgd fun K hK => ?_
  obtain ⟨v', w', hr, h2, h3⟩ := run_app w B o.type v y bs ns hO hI hl hB
  unfold Oper.wp execOp
  simp only [ho, resolve, invoke, builtin, Sem.run_bind, Sem.run_pure, Result.andThen_ok, List.map_toArray, List.map_cons, List.map_nil, hs, hx, hr]
  exact hK _ _ (h v' w' h2 h3)
/-- the same, with the place of what comes out -/
theorem wp_app_at (hgd : o.guard = none) (s x : Operand) (ho : o.op = .call { callee := .builtin .append, args := #[s, x], argTypes := #[27, 27] }) {v y : Value} (B : Nat) (bs ns : List Nat) (hO : OB w B v bs) (hI : In0 w y ns) (hs : a.eval s = v) (hx : a.eval x = y) (hl : bs.length + ns.length ≤ 1099511627776) (hB : B ≤ w.heap.size)
    (h : ∀ v' w', OB w' B v' (bs ++ ns) → w.grownBy w' v.ownBlock → (v'.ownBlock = v.ownBlock ∨ v'.ownBlock = some w.heap.size) → wpList Tryz.prog ops Q rest (a.put o.dst v') w') : wpList Tryz.prog ops Q (o :: rest) a w := by
  refine wpList_plain hgd fun K hK => ?_
  obtain ⟨v', w', hr, h2, h3, h4⟩ := run_app_at w B o.type v y bs ns hO hI hl hB
  unfold Oper.wp execOp
  simp only [ho, resolve, invoke, builtin, Sem.run_bind, Sem.run_pure, Result.andThen_ok, List.map_toArray, List.map_cons, List.map_nil, hs, hx, hr]
  exact hK _ _ (h v' w' h2 h3 h4)
/-- append of a string, at the operation -/
theorem wp_app_str (hgd : o.guard = none) (s x : Operand) (ho : o.op = .call { callee := .builtin .append, args := #[s, x], argTypes := #[27, 9] }) {v : Value} {y : ByteArray} (B : Nat) (bs : List Nat) (hO : OB w B v bs) (hs : a.eval s = v) (hx : a.eval x = .string y) (hl : bs.length + y.size ≤ 1099511627776) (hB : B ≤ w.heap.size)
    (h : ∀ v' w', OB w' B v' (bs ++ sn y) → w.grownBy w' v.ownBlock → wpList Tryz.prog ops Q rest (a.put o.dst v') w') : wpList Tryz.prog ops Q (o :: rest) a w := by
  refine wpList_plain hgd fun K hK => ?_
  obtain ⟨v', w', hr, h2, h3⟩ := run_app_str w B o.type v bs y hO hl hB
  unfold Oper.wp execOp
  simp only [ho, resolve, invoke, builtin, Sem.run_bind, Sem.run_pure, Result.andThen_ok, List.map_toArray, List.map_cons, List.map_nil, hs, hx, hr]
  exact hK _ _ (h v' w' h2 h3)
end
/-- after an append the old stays, but for our own row -/
theorem OB.grown {W0 W W' : World} {B : Nat} {v : Value} {bs : List Nat} (h : OB W B v bs) (hb : Below B W0 W) (hg : W.grownBy W' v.ownBlock) (hB : B ≤ W.heap.size) : Below B W0 W' := hb.grown hg hB fun k hk => (h.lt k hk).1
/-- one byte in a new block -/
theorem In.one (W : World) (n : Nat) (hn : n < 256) : In (W.alloc (.cells #[.int .u8 (n : Int)] 5)) (.slice (some ⟨W.heap.size, 0, none⟩) 1 1) [n] := by
  refine ⟨some ⟨W.heap.size, 0, none⟩, 1, rfl, Nat.le_refl _, fun e => (by cases e), fun j hj => ⟨_, rfl, ?_⟩, fun ad e => (by injection e with e; subst e; simp), fun x hx => (by rw [List.mem_singleton.1 hx]; exact hn)⟩
  have : j = 0 := by simp at hj; exact hj
  subst this
  rw [add_at]
  have := heap_alloc_new W (.cells #[.int .u8 (n : Int)] 5)
  simp only [World.cell?, this]
  rfl
/-- bytes made a string -/
theorem In0.string {W : World} {v : Value} {bs : List Nat} (h : In0 W v bs) : (convert 27 9 v).run Tryz.prog W = .ok (.string (strOfNums (bs.map fun (n : Nat) => (n : Int)))) W := by
  obtain ⟨A, c, rfl, h1, h2, h3, h5⟩ := h
  cases A with
  | none =>
    obtain rfl := h2 rfl
    have hn : bs = [] := List.length_eq_zero_iff.1 (by omega)
    subst hn
    exact run_convert_bytes_nil W 27 5 Tryz.underlying27 Tryz.underlying5 0 0 9 Tryz.underlying9
  | some ad =>
    have hl : (loadCells ad bs.length).run Tryz.prog W = .ok ((bs.map fun (n : Nat) => (n : Int)).map (Value.int .u8)).toArray W := by
      have := run_loadCells_list (P := Tryz.prog) W ad (bs.map bv) (fun j v hj => by
        rw [List.getElem?_map] at hj
        have hjl : j < bs.length := by
          apply Classical.byContradiction
          intro hn
          rw [List.getElem?_eq_none (by omega)] at hj
          cases hj
        obtain ⟨ad', e, hc⟩ := h3 j hjl
        rw [← Option.some.inj e] at hc
        rw [hc]
        rw [List.getElem?_eq_getElem hjl] at hj
        simp only [Option.map_some] at hj
        rw [← hj]
        simp [bv, List.getD, hjl])
      rw [List.length_map] at this
      rw [this, List.map_map]
      rfl
    rw [run_convert_bytes_string W 27 9 5 (some ad) bs.length c Tryz.underlying27 Tryz.underlying5 Tryz.underlying9, run_bytesToString W ad bs.length c _ hl, foldl_push_bytes]
    simp [strOfNums, ByteArray.empty, ByteArray.emptyWithCapacity]
    rfl
end Go.Proofs.YtoddlefhlicfiaaGreatDoorR.RdrDev
