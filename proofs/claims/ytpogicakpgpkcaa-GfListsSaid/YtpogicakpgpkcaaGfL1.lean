/- Lists that are lent: stowagekit.LentBytes, as a contract. -/
import Derived.Test.YtpogicakpgpkcaaPGfTellsx0
import Derived.Laws.CopyOwn
import Derived.Laws.MakeOwn
import Derived.Lib.Hide
import Derived.Outline
namespace Go.Proofs.Ytpogicakpgpkcaa.GfL
open Go.RowKit Go.Proofs.YtpogicakpgpkcaaW.PrintWords Go.Proofs.YtpogicakpgpkcaaW.PrintLast

theorem info5 : (Try.prog.info? 5).map (fun i => (i.zero, i.size, i.bytes)) = some (some (.int .u8 0), 1, 1) := by kernel_rfl
/-- Block g holds just these bytes. -/
def Blk (w : World) (g : Nat) (l : List Int) : Prop := w.heap[g]? = some (.cells (l.map (Value.int .u8)).toArray 5 (0, 0))
theorem Blk.cell {w : World} {g : Nat} {l : List Int} (h : Blk w g l) {i : Nat} (hi : i < l.length) : w.cell? ⟨g, i, none⟩ = some (.int .u8 (l.getD i 0)) ∧ w.frozen? ⟨g, i, none⟩ = false := by
  unfold Blk at h
  constructor
  · simp [World.cell?, h, hi]
  · simp [World.frozen?, h]
theorem Blk.set {w : World} {g : Nat} {l : List Int} (h : Blk w g l) (i : Nat) (x : Int) : Blk (w.setCell ⟨g, i, none⟩ (.int .u8 x)) g (l.set i x) := by
  unfold Blk at *
  simp [World.setCell, Array.getElem?_modify, h, List.map_set]
theorem Blk.below {w w' : World} {g B : Nat} {l : List Int} (h : Blk w g l) (hb : Below B w w') (hg : g < B) : Blk w' g l := by
  unfold Blk at *; rw [hb.block g hg]; exact h
theorem Blk.lt {w : World} {g : Nat} {l : List Int} (h : Blk w g l) : g < w.heap.size := (Array.getElem?_eq_some_iff.1 h).1
/-- The marks behind a lent list. -/
def mark (i : Nat) : Int := 160 + (i % 90 : Nat)
def lentL (l : List Int) : List Int := l ++ [mark l.length, mark (l.length + 1), mark (l.length + 2)]
theorem lentL_len (l : List Int) : (lentL l).length = l.length + 3 := by simp [lentL]
/-- Behind k marks. -/
def lentK (l : List Int) (k : Nat) : List Int := l ++ ((List.range k).map (fun j => mark (l.length + j)) ++ List.replicate (3 - k) 0)
theorem lentK_len (l : List Int) (k : Nat) (h : k ≤ 3) : (lentK l k).length = l.length + 3 := by simp [lentK]; omega
theorem lentK_3 (l : List Int) : lentK l 3 = lentL l := by simp [lentK, lentL, List.range_succ]
theorem lentK_step (l : List Int) (k : Nat) (h : k < 3) : (lentK l k).set (l.length + k) (mark (l.length + k)) = lentK l (k + 1) := by
  unfold lentK
  rw [List.set_append_right _ _ (by omega), Nat.add_sub_cancel_left]
  congr 1
  have : k = 0 ∨ k = 1 ∨ k = 2 := by omega
  rcases this with rfl | rfl | rfl <;> rfl
theorem lentK_0 (l : List Int) : lentK l 0 = l ++ [0, 0, 0] := rfl

/-- What a reader of bytes finds. -/
def Rd (w : World) (A : Option Addr) (l : List Int) : Prop := Kd.C (Kd.int .u8) w A l.length l
theorem mark_bd (i : Nat) : 160 ≤ mark i ∧ mark i ≤ 249 := by unfold mark; omega

/-- n + 3 zeros. -/
def Z (n : Nat) : List Value := (List.replicate (n + 3) (0 : Int)).map (Value.int .u8)
theorem Z_len (n : Nat) : (Z n).length = n + 3 := by simp [Z]
theorem made_Z (n : Nat) : madeCells (Value.int .u8 0).cells ((n + 3) * 1) = (Z n).toArray := by
  apply Array.ext
  · simp [madeCells, Z]
  · intro i h1 h2
    have h3 : (Value.int .u8 0).cells = #[Value.int .u8 0] := rfl
    simp [madeCells, Z, h3, Nat.mod_one]
theorem run_lent (n : Nat) (hn : n ≤ 140737488351232) (W : World) : (Instr.makeSlice 32 (.int .i64 ((n : Int) + 3)) (.int .i64 ((n : Int) + 3))).run Try.prog W = .ok (.slice (some ⟨W.heap.size, 0, none⟩) (n + 3) (n + 3)) (W.alloc (.cells (Z n).toArray 5)) := by
  obtain ⟨i0, hi, hz0, hz1, hz2⟩ := info_parts info5
  have := run_make (P := Try.prog) W 32 5 i0 (.int .u8 0) Try.underlying32 hi hz0 .i64 .i64 ((n : Int) + 3) ((n : Int) + 3) (by omega) (by omega) (by rw [hz2]; omega) (by omega)
  rw [hz1, show ((n : Int) + 3).toNat = n + 3 from by omega, made_Z] at this
  exact this
theorem splice_Z (l : List Int) : splice (Z l.length) 0 (l.map (Value.int .u8)) = (lentK l 0).map (Value.int .u8) := by
  rw [lentK_0]
  unfold splice Z
  rw [List.take_zero, List.nil_append, List.length_map, Nat.zero_add, ← List.map_drop, List.drop_replicate, Nat.add_sub_cancel_left, ← List.map_append]
  rfl

set_option maxHeartbeats 1000000 in
set_option maxRecDepth 100000 in
theorem Lent_calls (A : Option Addr) (c : Nat) (l : List Int) (w : World) (hr : Rd w A l) (hl : l.length ≤ 140737488351232) :
    Calls Try.prog 24 #[.slice A l.length c] w fun e w' => e = .returned (.slice (some ⟨w.heap.size, 0, none⟩) l.length (l.length + 3)) ∧ Blk w' w.heap.size (lentL l) ∧ Below w.heap.size w w' := by
  have hmk := run_lent l.length hl
  have hsz5 : (Try.prog.info? 5).map (·.size) = some 1 := by kernel_rfl
  have HS := Lib.hid hsz5
  clear hsz5
  have HR := Lib.hid hr
  clear hr
  go_enter Try.func24, Try.ntmps24
  go_wp2_with ((with_reducible refine wpList_copy_splice rfl (.tmp 9) (.tmp 10) 32 32 rfl 5 Try.underlying32 HS.out (some ⟨w.heap.size, 0, none⟩) A (l.length + 3) (l.length + 3) l.length c ?_ ?_ w.heap.size 0 (Z l.length) 5 ?_ (l.map (Value.int .u8)) ?_ ?_ ?_ ?_ w.heap.size w ?_ ?_ ?_))
  · rfl
  · rfl
  · exact heap_alloc_new w _
  · rw [List.length_map]; exact (Nat.min_eq_left (by omega)).symm
  · intro hp
    have hp : 0 < l.length := by simpa using hp
    obtain ⟨ad, e, hc⟩ := (Kd.reads_of_C (d := 0) HR.out).2.2 hp
    refine ⟨ad, e, fun j v hv => ?_⟩
    have hjl := (List.getElem?_eq_some_iff.1 hv).1
    have := hc j hjl
    rw [World.cell?_alloc_lt _ _ _ (World.block_lt_of_cell? w _ this), this]
    congr 2
    simp [List.getD, hv]
  · rw [List.length_map, Z_len]; omega
  · intro v hv
    obtain ⟨x, _, rfl⟩ := List.mem_map.1 hv
    rfl
  · exact (Below.refl _ _).alloc (Nat.le_refl _) _
  · exact Nat.le_refl _
  · intro w1 hb0 hB0
    have hb1 : Hid (Blk w1 w.heap.size (lentK l 0)) := by
      rw [splice_Z] at hb0
      exact hb0
    clear hb0
    have HB0 := Lib.hid hB0
    clear hB0
    have hl0 := lentK_len l
    have HL := Lib.hid hl0
    clear hl0
    go_wp2_with fail
    go_loopw [4] (fun i wr => ∃ k : Nat, k ≤ 3 ∧ i = .int .i64 ((l.length : Int) + k) ∧ Hid (Blk wr w.heap.size (lentK l k)) ∧ Hid (Below w.heap.size w wr)) (fun i _ => l.length + 3 - (intOf i).toNat)
    case atStart => exact ⟨0, by omega, by simp, hb1, HB0⟩
    case round =>
      obtain ⟨k, hk, rfl, hbk, hBk⟩ := hrel
      by_cases hlt : k < 3
      · have hc1 := (hbk.out.cell (i := l.length + k) (by rw [HL.out k hk]; omega)).1
        have hf1 := (hbk.out.cell (i := l.length + k) (by rw [HL.out k hk]; omega)).2
        generalize (lentK l k).getD (l.length + k) 0 = old at hc1
        go_wp2
        go_roundw
        case measure => simp [intOf]; omega
        case rel =>
          refine ⟨k + 1, by omega, by go_num, ?_, ?_⟩
          · have h1 := hbk.out.set (l.length + k) (mark (l.length + k))
            rw [lentK_step l k hlt] at h1
            have e : mark (l.length + k) = 160 + ((l.length : Int) + k) % 90 := by unfold mark; omega
            rw [e] at h1
            exact h1
          · exact Below.setCell hBk.out (Nat.le_refl _) _
      · obtain rfl : k = 3 := by omega
        go_wp2
        go_ret
        refine ⟨rfl, ?_, hBk.out⟩
        have := hbk.out
        rw [lentK_3] at this
        exact this
end Go.Proofs.Ytpogicakpgpkcaa.GfL
