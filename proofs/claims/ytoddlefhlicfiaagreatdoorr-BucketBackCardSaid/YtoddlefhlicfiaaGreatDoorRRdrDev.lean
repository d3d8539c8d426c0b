/- The reader of bytes: what its methods do. No statement of the seat stands here. -/
import Derived.Test.YtoddlefhlicfiaaGreatDoorRChecked
import Derived.Laws.IdiomStrings
import Derived.Lib.OthersKept
import Derived.Tactics
import Derived.Tactics2
import Derived.StillTactics
import Derived.Laws.AppendOwn
import Derived.Laws.Runes
import Derived.Laws.CopyRow
import Derived.Laws.Shifts
import Derived.Laws.Rows
import Derived.Laws.BitsLemmas
import Derived.Laws.Tables
import Derived.Laws.NewBlocks
import Derived.Laws.Unary
import Derived.Laws.Strings
import Derived.Laws.NewFold
import Derived.Laws.ShiftsVarLaws
import Derived.Laws.Bits
import Derived.Laws.Alloc2
import Derived.Laws.Bits128
import Derived.Laws.Strings2
import Derived.Laws.Wrap64
import Derived.Laws.ShiftsVar
import Derived.Laws.Closers25
import Derived.Laws.RangeString
import Derived.Laws.Concat
import Derived.Laws.Cells
import Derived.Laws.NewDeep
import Derived.Laws.Pointers
import Derived.Laws.StructEq
import Derived.Laws.Closers25b
import Derived.Laws.StandIn
import Derived.Laws.Bits64b
import Derived.Laws.LoneSync
import Derived.Laws.ByValue
import Derived.Laws.MathBits
import Derived.Laws.Externs
import Derived.Laws.BitsAll
import Derived.Laws.BitsAllLaws
import Derived.Laws.Bits64
import Derived.Laws.OwnMore
import Derived.Laws.Build
import Derived.Laws.ResultCell
import Derived.Laws.Entries
import Derived.Laws.Append
import Derived.Laws.RangeAny
import Derived.Laws.World
import Derived.Laws.Strings3
import Derived.Laws.Sem
import Derived.Laws.Slices
import Derived.Laws.MakeOwn
import Derived.Laws.Small
import Derived.Laws.BytesString
import Derived.Scope
import Derived.FnLit
import Derived.LoopTactic
import Derived.LoopN
import Derived.Lib.Hide
set_option linter.unusedSimpArgs false
set_option linter.unusedVariables false
namespace Go.Proofs.YtoddlefhlicfiaaGreatDoorR.RdrDev
open Go Go.RowKit
/-- a row of bytes that is read -/
def BytesAt (W : World) (A : Option Addr) (bs : List Nat) : Prop := ∀ j, j < bs.length → ∃ ad, A = some ad ∧ W.cell? (ad.add j) = some (.int .u8 ((bs.getD j 0 : Nat) : Int))
/-- where a reader lies -/
def RdrAt (W : World) (g : Nat) (A : Option Addr) (n c : Nat) (bad : Bool) : Prop := W.heap[g]? = some (.cells #[.slice A n c, .bool bad] 148 (0, 0))
theorem RdrAt.cells {W : World} {g : Nat} {A : Option Addr} {n c : Nat} {bad : Bool} (h : RdrAt W g A n c bad) : W.cell? ⟨g, 0, none⟩ = some (.slice A n c) ∧ W.cell? ⟨g, 1, none⟩ = some (.bool bad) ∧ W.frozen? ⟨g, 0, none⟩ = false ∧ W.frozen? ⟨g, 1, none⟩ = false := by
  unfold RdrAt at h
  exact ⟨by simp [World.cell?, h], by simp [World.cell?, h], by simp [World.frozen?, h], by simp [World.frozen?, h]⟩
set_option maxHeartbeats 1000000 in
set_option maxRecDepth 100000 in
/-- nothing is taken of a reader that is bad -/
theorem take_bad (g : Nat) (A : Option Addr) (n c : Nat) (m : Int) (w : World) (h : RdrAt w g A n c true) :
    Calls Tryz.prog 105 #[.pointer (some ⟨g, 0, none⟩), .int .i64 m] w fun e w' => e = .returned (.slice none 0 0) ∧ w' = w.setCell ⟨g, 1, none⟩ (.bool true) := by
  obtain ⟨c0, c1, z0, z1⟩ := h.cells
  clear h
  go_enter Tryz.func105, Tryz.ntmps105
  go_wp2_with fail
  go_ret
  exact ⟨rfl, rfl⟩
set_option maxHeartbeats 1000000 in
set_option maxRecDepth 100000 in
/-- more than there is is not taken -/
theorem take_more (g : Nat) (A : Option Addr) (n c : Nat) (m : Int) (hm : m < 0 ∨ (n : Int) < m) (w : World) (h : RdrAt w g A n c false) :
    Calls Tryz.prog 105 #[.pointer (some ⟨g, 0, none⟩), .int .i64 m] w fun e w' => e = .returned (.slice none 0 0) ∧ w' = w.setCell ⟨g, 1, none⟩ (.bool true) := by
  obtain ⟨c0, c1, z0, z1⟩ := h.cells
  clear h
  rcases hm with hm | hm
  · go_enter Tryz.func105, Tryz.ntmps105
    go_wp2_with fail
    all_goals first
      | (go_ret; exact ⟨rfl, rfl⟩)
      | (exfalso; omega)
  · by_cases h0 : m < 0
    · go_enter Tryz.func105, Tryz.ntmps105
      go_wp2_with fail
      all_goals first
        | (go_ret; exact ⟨rfl, rfl⟩)
        | (exfalso; omega)
    · go_enter Tryz.func105, Tryz.ntmps105
      go_wp2_with fail
      all_goals first
        | (go_ret; exact ⟨rfl, rfl⟩)
        | (exfalso; omega)
set_option maxHeartbeats 1000000 in
set_option maxRecDepth 100000 in
/-- what is there is taken -/
theorem take_some (g : Nat) (A : Option Addr) (n c : Nat) (hc : n ≤ c) (m : Nat) (hm : m ≤ n) (w : World) (h : RdrAt w g A n c false) :
    Calls Tryz.prog 105 #[.pointer (some ⟨g, 0, none⟩), .int .i64 (m : Int)] w fun e w' => e = .returned (.slice A m m) ∧ w' = w.setCell ⟨g, 0, none⟩ (.slice (if c = m then A else A.map (·.add m)) (n - m) (c - m)) := by
  obtain ⟨c0, c1, z0, z1⟩ := h.cells
  clear h
  have h0 : (0 : Int) ≤ (m : Int) := by omega
  have h1 : (m : Int) ≤ (n : Int) := by omega
  have h2 : (m : Int) ≤ (c : Int) := by omega
  have h3 : (n : Int) ≤ (c : Int) := by omega
  have ha : (A.map fun x => x.add 0) = A := by cases A <;> simp [Addr.add]
  go_enter Tryz.func105, Tryz.ntmps105
  go_wp2_with fail
  all_goals (go_ret; exact ⟨rfl, rfl⟩)
/-- a reader in whose row so many bytes stand; its own block is not theirs -/
def RB (W : World) (g : Nat) (bs : List Nat) (bad : Bool) : Prop := ∃ A c, RdrAt W g A bs.length c bad ∧ bs.length ≤ c ∧ BytesAt W A bs ∧ ∀ ad, A = some ad → ad.block ≠ g
theorem block_set {W : World} {g : Nat} {o : Array Value} {t : Nat} (h : W.heap[g]? = some (.cells o t (0, 0))) (i : Nat) (u : Value) : (W.setCell ⟨g, i, none⟩ u).heap[g]? = some (.cells (o.setIfInBounds i u) t (0, 0)) := by
  have hlt : g < W.heap.size := (Array.getElem?_eq_some_iff.1 h).1
  simp only [World.setCell]
  rw [Array.getElem?_modify]
  simp [h]
theorem grown_set (W : World) (g i : Nat) (u : Value) : W.grownBy (W.setCell ⟨g, i, none⟩ u) (some g) :=
  ⟨rfl, rfl, rfl, by simp, fun k _ hk => Below.heap_setCell W ⟨g, i, none⟩ u k (fun e => hk (by rw [show k = g from e]))⟩
theorem BytesAt.kept {W W' : World} {g : Nat} {A : Option Addr} {bs : List Nat} (h : BytesAt W A bs) (hA : ∀ ad, A = some ad → ad.block ≠ g) (hg : W.grownBy W' (some g)) : BytesAt W' A bs := fun j hj => by
  obtain ⟨ad, ea, hx⟩ := h j hj
  refine ⟨ad, ea, hg.cell hx (fun e => hA ad ea ?_)⟩
  injection e with e
  rw [← e]
  unfold Addr.add
  split <;> rfl
theorem BytesAt.drop {W : World} {A : Option Addr} {bs : List Nat} (h : BytesAt W A bs) (m c : Nat) (hc : bs.length ≤ c) : BytesAt W (if c = m then A else A.map (·.add m)) (bs.drop m) := fun j hj => by
  rw [List.length_drop] at hj
  obtain ⟨ad, ea, hx⟩ := h (m + j) (by omega)
  subst ea
  refine ⟨ad.add m, by rw [if_neg (by omega)]; rfl, ?_⟩
  rw [show (ad.add m).add j = ad.add (m + j) by unfold Addr.add; split <;> split <;> (try split) <;> simp_all [Nat.add_assoc], hx, List.getD_eq_getElem?_getD, List.getD_eq_getElem?_getD, List.getElem?_drop]
theorem RB.taken {W : World} {g : Nat} {A : Option Addr} {c : Nat} {bs : List Nat} (h : RdrAt W g A bs.length c false) (hc : bs.length ≤ c) (hb : BytesAt W A bs) (hA : ∀ ad, A = some ad → ad.block ≠ g) (m : Nat) (hm : m ≤ bs.length) :
    RB (W.setCell ⟨g, 0, none⟩ (.slice (if c = m then A else A.map (·.add m)) (bs.length - m) (c - m))) g (bs.drop m) false := by
  refine ⟨if c = m then A else A.map (·.add m), c - m, ?_, by rw [List.length_drop]; omega, (hb.drop m c hc).kept (g := g) ?_ (grown_set _ _ _ _), ?_⟩
  · unfold RdrAt
    rw [block_set h 0, List.length_drop]
    rfl
  all_goals
    intro ad e
    split at e
    · exact hA ad e
    · obtain ⟨x, hx, rfl⟩ := Option.map_eq_some_iff.1 e
      have h1 := hA x hx
      unfold Addr.add
      split <;> exact h1
theorem RB.spoilt {W : World} {g : Nat} {A : Option Addr} {c : Nat} {bs : List Nat} {bad : Bool} (h : RdrAt W g A bs.length c bad) (hc : bs.length ≤ c) (hb : BytesAt W A bs) (hA : ∀ ad, A = some ad → ad.block ≠ g) : RB (W.setCell ⟨g, 1, none⟩ (.bool true)) g bs true := by
  refine ⟨A, c, ?_, hc, hb.kept (g := g) hA (grown_set _ _ _ _), hA⟩
  unfold RdrAt
  rw [block_set h 1]
  rfl
set_option maxHeartbeats 1000000 in
set_option maxRecDepth 100000 in
theorem byte_some (g : Nat) (b : Nat) (bs : List Nat) (w : World) (h : RB w g (b :: bs) false) :
    Calls Tryz.prog 106 #[.pointer (some ⟨g, 0, none⟩)] w fun e w' => e = .returned (.int .u8 (b : Int)) ∧ RB w' g bs false ∧ w.grownBy w' (some g) := by
  obtain ⟨A, c, h1, h2, h3, h4⟩ := h
  have hT := Lib.hid (RB.taken h1 h2 h3 h4 1 (by simp))
  obtain ⟨ad, rfl, hx⟩ := h3 0 (by simp)
  have hx := (grown_set w g 0 (.slice (if c = 1 then some ad else (some ad).map (·.add 1)) ((b :: bs).length - 1) (c - 1))).cell hx (by
    have := h4 ad rfl
    simp [Addr.add, this])
  go_enter Tryz.func106, Tryz.ntmps106
  go_wp2_with fail
  refine (take_some g (some ad) _ c h2 1 (by simp) w h1).mono ?_
  rintro e w1 ⟨rfl, hw⟩
  have HG : Hid (w.grownBy w1 (some g)) := Lib.hid (by rw [hw]; exact grown_set _ _ _ _)
  have HT : Hid (RB w1 g bs false) := Lib.hid (by rw [hw]; exact hT.out)
  have hc0 : w1.cell? (ad.add 0) = some (.int .u8 (b : Int)) := by rw [hw]; exact hx
  have hc1 : w1.cell? ad = some (.int .u8 (b : Int)) := by simpa [Addr.add] using hc0
  clear hw hx hT h1 h3
  go_wp2_with fail
  go_ret
  exact ⟨rfl, HT.out, HG.out⟩
set_option maxHeartbeats 1000000 in
set_option maxRecDepth 100000 in
theorem byte_none (g : Nat) (w : World) (h : RB w g [] false) :
    Calls Tryz.prog 106 #[.pointer (some ⟨g, 0, none⟩)] w fun e w' => e = .returned (.int .u8 0) ∧ RB w' g [] true ∧ w.grownBy w' (some g) := by
  obtain ⟨A, c, h1, h2, h3, h4⟩ := h
  have hT := Lib.hid (RB.spoilt h1 h2 h3 h4)
  go_enter Tryz.func106, Tryz.ntmps106
  go_wp2_with fail
  refine (take_more g A 0 c 1 (.inr (by omega)) w h1).mono ?_
  rintro e w1 ⟨rfl, rfl⟩
  have HG := Lib.hid (grown_set w g 1 (.bool true))
  generalize w.setCell ⟨g, 1, none⟩ (.bool true) = w1 at hT HG
  clear h1 h3
  go_wp2_with fail
  go_ret
  exact ⟨rfl, hT.out, HG.out⟩
set_option maxHeartbeats 1000000 in
set_option maxRecDepth 100000 in
theorem byte_bad (g : Nat) (bs : List Nat) (w : World) (h : RB w g bs true) :
    Calls Tryz.prog 106 #[.pointer (some ⟨g, 0, none⟩)] w fun e w' => e = .returned (.int .u8 0) ∧ RB w' g bs true ∧ w.grownBy w' (some g) := by
  obtain ⟨A, c, h1, h2, h3, h4⟩ := h
  have hT := Lib.hid (RB.spoilt h1 h2 h3 h4)
  go_enter Tryz.func106, Tryz.ntmps106
  go_wp2_with fail
  refine (take_bad g A bs.length c 1 w h1).mono ?_
  rintro e w1 ⟨rfl, rfl⟩
  have HG := Lib.hid (grown_set w g 1 (.bool true))
  generalize w.setCell ⟨g, 1, none⟩ (.bool true) = w1 at hT HG
  clear h1 h3
  go_wp2_with fail
  go_ret
  exact ⟨rfl, hT.out, HG.out⟩
end Go.Proofs.YtoddlefhlicfiaaGreatDoorR.RdrDev
