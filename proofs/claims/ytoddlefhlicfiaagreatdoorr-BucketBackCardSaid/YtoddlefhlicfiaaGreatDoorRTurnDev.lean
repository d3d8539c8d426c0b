/- The walk of the digest's turned: what it gives, for every memory that holds such a drive. No statement of the seat stands here. -/
import Derived.Test.YtoddlefhlicfiaaGreatDoorRChecked
import Derived.Tactics
import Derived.Tactics2
import Derived.StillTactics
import Derived.Laws.AppendOwn
import Derived.Laws.Runes
import Derived.Laws.CopyRow
import Derived.Laws.Shifts
import Derived.Laws.Rows
import Derived.Laws.BitsLemmas
import Derived.Laws.Tables
import Derived.Laws.NewBlocks
import Derived.Laws.Unary
import Derived.Laws.Strings
import Derived.Laws.NewFold
import Derived.Laws.ShiftsVarLaws
import Derived.Laws.Bits
import Derived.Laws.Alloc2
import Derived.Laws.Bits128
import Derived.Laws.Strings2
import Derived.Laws.Wrap64
import Derived.Laws.ShiftsVar
import Derived.Laws.Closers25
import Derived.Laws.RangeString
import Derived.Laws.Concat
import Derived.Laws.Cells
import Derived.Laws.NewDeep
import Derived.Laws.Pointers
import Derived.Laws.StructEq
import Derived.Laws.Closers25b
import Derived.Laws.StandIn
import Derived.Laws.Bits64b
import Derived.Laws.LoneSync
import Derived.Laws.ByValue
import Derived.Laws.MathBits
import Derived.Laws.Externs
import Derived.Laws.BitsAll
import Derived.Laws.BitsAllLaws
import Derived.Laws.Bits64
import Derived.Laws.OwnMore
import Derived.Laws.Build
import Derived.Laws.ResultCell
import Derived.Laws.Entries
import Derived.Laws.Append
import Derived.Laws.RangeAny
import Derived.Laws.World
import Derived.Laws.Strings3
import Derived.Laws.Sem
import Derived.Laws.Slices
import Derived.Laws.MakeOwn
import Derived.Laws.Small
import Derived.Laws.BytesString
import Derived.Scope
import Derived.FnLit
import Derived.LoopTactic
import Derived.LoopN
import Derived.Laws.IdiomRangeMap
import Derived.Maps.RangeRun
import Derived.WalkSpells
import Derived.Test.YtoddlefhlicfiaaGreatDoorRXF
import Derived.Below
namespace Go.Proofs.YtoddlefhlicfiaaGreatDoorR.TurnDev
open Go Go.RowKit Go.Proofs.YtoddlefhlicfiaaGreatDoorR.X
theorem neg_and (s k : Nat) (hk : s + k = 32) (h1 : 1 ≤ k) (h2 : 1 ≤ s) : bits .and .u64 (IntKind.u64.wrap (-(k : Int))) 31 = (s : Int) := by
  have e1 : IntKind.u64.wrap (-(k : Int)) = ((18446744073709551616 - k : Nat) : Int) := by
    simp only [IntKind.wrap, IntKind.bits, IntKind.signed]
    simp
    omega
  rw [e1, show (31 : Int) = ((31 : Nat) : Int) from rfl, (bits_lim .u64 _ 31 (by simp only [limK]; omega) (by simp only [limK]; omega)).1]
  have e2 : Nat.land (18446744073709551616 - k) 31 = (18446744073709551616 - k) % 2 ^ 5 := Nat.and_two_pow_sub_one_eq_mod _ 5
  rw [e2]
  omega
theorem run_shl (P : Program) (m s : Nat) (hs : s ≤ 32) (w : World) : (Op.shift .shl .u32 (m : Int) .u64 (s : Int)).run P w = .ok (.int .u32 ((m * 2 ^ s % 4294967296 : Nat) : Int)) w := by
  have h0 : ¬ ((s : Int) < 0) := by omega
  have hmin : min ((s : Int)).toNat IntKind.u32.bits = s := by simp [IntKind.bits]; omega
  have e : (m : Int) * 2 ^ s = ((m * 2 ^ s : Nat) : Int) := by simp
  simp only [Op.shift, if_neg h0, hmin, e]
  rw [show IntKind.u32.wrap ((m * 2 ^ s : Nat) : Int) = ((m * 2 ^ s % 4294967296 : Nat) : Int) from wrap_u .u32 _ 4294967296 rfl (by decide)]
  rfl
theorem run_shr (P : Program) (m s : Nat) (hs : s ≤ 32) (w : World) : (Op.shift .shr .u32 (m : Int) .u64 (s : Int)).run P w = .ok (.int .u32 ((m / 2 ^ s : Nat) : Int)) w := by
  have h0 : ¬ ((s : Int) < 0) := by omega
  have hmin : min ((s : Int)).toNat IntKind.u32.bits = s := by simp [IntKind.bits]; omega
  have e : Int.fdiv (m : Int) (2 ^ s) = ((m / 2 ^ s : Nat) : Int) := by
    have e2 : (2 : Int) ^ s = ((2 ^ s : Nat) : Int) := by simp
    rw [e2, Int.fdiv_eq_ediv_of_nonneg _ (Int.natCast_nonneg _)]
    rfl
  simp only [Op.shift, if_neg h0, hmin, e]
  rfl
theorem wrap_back (s k : Nat) (hk : s + k = 32) : IntKind.u64.wrap (32 - (s : Int)) = (k : Int) := by
  simp only [IntKind.wrap, IntKind.bits, IntKind.signed]
  simp
  omega
set_option maxRecDepth 1000000 in
theorem rot_calls (m s k : Nat) (w : World) (hm : m < 4294967296) (hk : s + k = 32) (h1 : 1 ≤ k) (h2 : 1 ≤ s) :
    Calls Tryz.prog 221 #[.int .u32 (m : Int), .int .i64 (-(k : Int))] w fun e w' => e = .returned (.int .u32 ((Nat.lor (m * 2 ^ s % 4294967296) (m / 2 ^ k) : Nat) : Int)) ∧ w' = w := by
  have f1 := neg_and s k hk h1 h2
  have f2 := run_shl Tryz.prog m s (by omega)
  have f3 := wrap_back s k hk
  have f4 := run_shr Tryz.prog m k (by omega)
  have hd : m / 2 ^ k ≤ m := Nat.div_le_self _ _
  have f5 := (bits_lim .u32 (m * 2 ^ s % 4294967296) (m / 2 ^ k) (by simp only [limK]; omega) (by simp only [limK]; omega)).2.1
  have f6 : bits .or .u32 ((m : Int) * 2 ^ s % 4294967296) ((m : Int) / 2 ^ k) = ((Nat.lor (m * 2 ^ s % 4294967296) (m / 2 ^ k) : Nat) : Int) := by
    rw [← f5]
    congr 1 <;> simp
  clear hd hm f5
  have F6 : Hid _ := f6
  clear f6
  go_enter Tryz.func221, Tryz.ntmps221
  go_wp2
  go_ret
  refine ⟨?_, rfl⟩
  rw [← F6.out]
  rfl
set_option maxRecDepth 1000000 in
theorem turned_spec : TurnedSpec Tryz.prog 161 := by
  intro m s k w hm hk h1 h2
  have f1 : wrap64 (-(k : Int)) = -(k : Int) := by unfold wrap64; omega
  go_enter Tryz.func161, Tryz.ntmps161
  go_wp2_with (refine (rot_calls m s k _ hm hk h1 h2).mono ?_; rintro e0 w0 ⟨rfl, rfl⟩)
  go_ret
  exact ⟨rfl, rfl⟩
end Go.Proofs.YtoddlefhlicfiaaGreatDoorR.TurnDev
