/- Which days a rule has, and the moments at which something expires by the rules that fit (rule.due and what it hands back), as contracts. -/
import Derived.RangeFuncNested
import Derived.RangeFuncBound
import Derived.RangeFuncCalls
import Derived.RangeFuncLeaves
import Derived.Shelf.Abstract
import Derived.Shelf.RegionOpen
import Derived.WalkKit
import Derived.OwnWalkIn
import Derived.TacticsInMore
import Derived.LoopNIn
import Derived.LoopIn
import Derived.Lib.Hide
import Derived.Outline
import Derived.Test.YtpogicakpgpkcaaIter
import Derived.Test.YtpogicakpgpkcaaPRuleTellsx
namespace Go.Proofs.Ytpogicakpgpkcaa.RRuleTells
open Go.RowKit Go.Shelf Go.Proofs.Ytpogicakpgpkcaa.It Go.Proofs.Ytpogicakpgpkcaa.PRuleTells Go.Proofs.YtpogicakpgpkcaaW.PrintWords Go.Proofs.YtpogicakpgpkcaaW.PrintLast
attribute [local go_sem] Oper.semAt_some

theorem keep_boxed {G : Nat → Prop} {C : Nat} {W W' : World} (h : Keep G C W W') {B : Nat} {t : TypeId} {v : Value} (hb : Boxed W B t v) (hg : ¬ G B) : Boxed W' B t v := h.same B _ hg hb (.inl rfl)

/-- Which days: those of the newest, or those of old ones. -/
def daysOf (old : Bool) (r : S45) : Int := if old then r.f2 else r.f1
def daysF (old : Bool) : Nat := if old then 68 else 67
theorem days_calls (old : Bool) (r : S45) (w : World) : Calls Try.prog (daysF old) #[.agg #[.string r.f0, .int .i64 r.f1, .int .i64 r.f2]] w fun e w' => e = .returned (.int .i64 (daysOf old r)) ∧ w' = w.alloc (.cells #[.string r.f0, .int .i64 r.f1, .int .i64 r.f2] 45) := by
  cases old
  · show Calls Try.prog 67 _ _ _
    go_enter Try.func67, Try.ntmps67
    go_wp2
    go_ret
    exact ⟨rfl, rfl⟩
  · show Calls Try.prog 68 _ _ _
    go_enter Try.func68, Try.ntmps68
    go_wp2
    go_ret
    exact ⟨rfl, rfl⟩
theorem d67 (r : S45) (w : World) : Calls Try.prog 67 #[.agg #[.string r.f0, .int .i64 r.f1, .int .i64 r.f2]] w fun e w' => e = .returned (.int .i64 r.f1) ∧ w' = w.alloc (.cells #[.string r.f0, .int .i64 r.f1, .int .i64 r.f2] 45) := days_calls false r w
theorem d68 (r : S45) (w : World) : Calls Try.prog 68 #[.agg #[.string r.f0, .int .i64 r.f1, .int .i64 r.f2]] w fun e w' => e = .returned (.int .i64 r.f2) ∧ w' = w.alloc (.cells #[.string r.f0, .int .i64 r.f1, .int .i64 r.f2] 45) := days_calls true r w
/-- The value that due hands back. -/
def dueV (b : Nat) : Array Value := #[.pointer (some ⟨b, 0, none⟩), .pointer (some ⟨b + 1 + 1 + 1 + 1, 0, none⟩), .pointer (some ⟨b + 1, 0, none⟩), .pointer (some ⟨b + 1 + 1, 0, none⟩), .pointer (some ⟨b + 1 + 1 + 1, 0, none⟩)]
structure DueAt (W : World) (b : Nat) (A : Option Addr) (n c : Nat) (key : ByteArray) (since what : Int) (old : Bool) : Prop where
  l : Boxed W b 43 (.slice A n c)
  key : Boxed W (b + 1) 9 (.string key)
  since : Boxed W (b + 1 + 1) 3 (.int .i64 since)
  what : Boxed W (b + 1 + 1 + 1) 3 (.int .i64 what)
  days : Boxed W (b + 1 + 1 + 1 + 1) 83 (.func (.func (daysF old)) #[] #[])
theorem DueAt.kept {G : Nat → Prop} {C : Nat} {W W' : World} {b : Nat} {A : Option Addr} {n c : Nat} {key : ByteArray} {since what : Int} {old : Bool} (h : DueAt W b A n c key since what old) (hk : Keep G C W W') (hG : ∀ k, G k → k < b) : DueAt W' b A n c key since what old :=
  ⟨keep_boxed hk h.l (fun e => by have := hG _ e; omega), keep_boxed hk h.key (fun e => by have := hG _ e; omega), keep_boxed hk h.since (fun e => by have := hG _ e; omega), keep_boxed hk h.what (fun e => by have := hG _ e; omega), keep_boxed hk h.days (fun e => by have := hG _ e; omega)⟩
theorem due_calls (A : Option Addr) (n c : Nat) (key : ByteArray) (since what : Int) (old : Bool) (w : World) :
    Calls Try.prog 69 #[.slice A n c, .string key, .int .i64 since, .int .i64 what, .func (.func (daysF old)) #[] #[]] w fun e w' => e = .returned (.func (.func 70) #[] (dueV w.heap.size)) ∧ DueAt w' w.heap.size A n c key since what old ∧ Below w.heap.size w w' ∧ KeepsOthers w w' := by
  go_enter Try.func69, Try.ntmps69
  go_wp2
  go_ret
  refine ⟨rfl, ⟨?_, ?_, ?_, ?_, ?_⟩, ?_, ?_⟩
  · exact ((((Boxed.new w 43 _).alloc _).alloc _).alloc _).alloc _
  · have := ((((Boxed.new (w.alloc (.cells #[.slice A n c] 43)) 9 (.string key)).alloc (.cells #[.int .i64 since] 3)).alloc (.cells #[.int .i64 what] 3)).alloc (.cells #[.func (.func (daysF old)) #[] #[]] 83))
    simpa only [World.size_alloc] using this
  · have := ((Boxed.new ((w.alloc (.cells #[.slice A n c] 43)).alloc (.cells #[.string key] 9)) 3 (.int .i64 since)).alloc (.cells #[.int .i64 what] 3)).alloc (.cells #[.func (.func (daysF old)) #[] #[]] 83)
    simpa only [World.size_alloc] using this
  · have := (Boxed.new (((w.alloc (.cells #[.slice A n c] 43)).alloc (.cells #[.string key] 9)).alloc (.cells #[.int .i64 since] 3)) 3 (.int .i64 what)).alloc (.cells #[.func (.func (daysF old)) #[] #[]] 83)
    simpa only [World.size_alloc] using this
  · have := Boxed.new ((((w.alloc (.cells #[.slice A n c] 43)).alloc (.cells #[.string key] 9)).alloc (.cells #[.int .i64 since] 3)).alloc (.cells #[.int .i64 what] 3)) 83 (.func (.func (daysF old)) #[] #[])
    simpa only [World.size_alloc] using this
  · exact (((((Below.refl _ _).alloc (Nat.le_refl _) _).alloc (by simp) _).alloc (by simp; omega) _).alloc (by simp; omega) _).alloc (by simp; omega) _
  · exact ((((KeepsOthers.alloc _ _).trans (KeepsOthers.alloc _ _)).trans (KeepsOthers.alloc _ _)).trans (KeepsOthers.alloc _ _)).trans (KeepsOthers.alloc _ _)

/-! ### What due's value goes through -/
def fits (r : S45) (key : ByteArray) : Bool := if (key.size : Int) ≥ (r.f0.size : Int) then (key.extract 0 r.f0.size).toList == r.f0.toList else false
theorem fits_is (r : S45) (key : ByteArray) : rule_Fits.f r.f0 r.f1 r.f2 key = some (fits r key) := by
  unfold rule_Fits.f strings_HasPrefix.f stringslite_HasPrefix.f fits
  by_cases h : (key.size : Int) ≥ (r.f0.size : Int)
  · rw [if_pos h, if_pos h, if_pos (by omega), if_pos (by omega), Int.toNat_natCast]; rfl
  · rw [if_neg h, if_neg h]; rfl
theorem fits_calls (r : S45) (key : ByteArray) (w : World) : Calls Try.prog 38 #[.agg #[.string r.f0, .int .i64 r.f1, .int .i64 r.f2], .string key] w fun e w' => e = .returned (.bool (fits r key)) ∧ Below w.heap.size w w' :=
  rule_Fits.calls r.f0 r.f1 r.f2 key (fits r key) w (fits_is r key)
abbrev encs2 {P : Int × Int → Prop} (p : {p : Int × Int // P p}) : Array Value := #[.int .i64 p.1.1, .int .i64 p.1.2]
def vals {P : Int × Int → Prop} (l : List {p : Int × Int // P p}) : List (Int × Int) := l.map (·.1)
theorem vals_snoc {P : Int × Int → Prop} (l : List {p : Int × Int // P p}) (x : {p : Int × Int // P p}) : vals (l ++ [x]) = vals l ++ [x.1] := by simp [vals]
theorem vals_len {P : Int × Int → Prop} (l : List {p : Int × Int // P p}) : (vals l).length = l.length := by simp [vals]
def dueB (key : ByteArray) (old : Bool) (r : S45) : Bool := fits r key && decide (0 < daysOf old r)
def dueL (rules : List S45) (key : ByteArray) (since what : Int) (old : Bool) : List (Int × Int) := (rules.filter (dueB key old)).map fun r => (since + daysOf old r * 24, what)
theorem dueL_step (rules : List S45) (key : ByteArray) (since what : Int) (old : Bool) (k : Nat) (hk : k < rules.length) :
    dueL (rules.take (k + 1)) key since what old = if dueB key old (rd_T45 rules k) then dueL (rules.take k) key since what old ++ [(since + daysOf old (rd_T45 rules k) * 24, what)] else dueL (rules.take k) key since what old := by
  have e : rules[k]? = some (rd_T45 rules k) := by simp [rd_T45, List.getD, hk]
  unfold dueL
  rw [List.take_add_one, e]
  split
  · rename_i h; simp [List.filter_append, h]
  · rename_i h; simp [List.filter_append, h]
theorem dueL_len (rules : List S45) (key : ByteArray) (since what : Int) (old : Bool) : (dueL rules key since what old).length ≤ rules.length := by
  unfold dueL; rw [List.length_map]; exact List.length_filter_le _ _
theorem dueL_prefix (rules : List S45) (key : ByteArray) (since what : Int) (old : Bool) (m : Nat) : dueL (rules.take m) key since what old <+: dueL rules key since what old := by
  unfold dueL
  exact List.IsPrefix.map _ (List.IsPrefix.filter _ (List.take_prefix m rules))
/-- A rule that may be: its days. -/
def RuleOk (r : S45) : Prop := 0 ≤ r.f1 ∧ r.f1 ≤ 10000 ∧ 0 ≤ r.f2 ∧ r.f2 ≤ 10000
theorem keep_C45 {G : Nat → Prop} {C : Nat} {W W' : World} (hk : Keep G C W W') {A : Option Addr} {n : Nat} {l : List S45} (h : Kd.C k45 W A n l) (hA : n ≠ 0 → ∀ ad, A = some ad → ¬ G ad.block) : Kd.C k45 W' A n l := by
  refine ⟨h.1, h.2.1, fun hn => ?_⟩
  obtain ⟨ad, e, hc⟩ := h.2.2 hn
  refine ⟨ad, e, fun j p hj => ?_⟩
  obtain ⟨cs, h1, h2, h3⟩ := hc j p hj
  exact ⟨cs, h1, h2, fun i u hu => hk.cell (h3 i u hu) (by rw [show (ad.add (j * k45.sz + i)).block = ad.block from by unfold Addr.add; split <;> rfl]; exact hA (by omega) ad e)⟩
theorem grown_below {W W' : World} (h : Below W.heap.size W W') : W.grownBy W' none := ⟨h.os, h.tape, h.output, h.size, fun k hk _ => h.block k hk⟩
end Go.Proofs.Ytpogicakpgpkcaa.RRuleTells
