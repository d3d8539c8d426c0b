/- Calls whose run the kernel reckons at one go: a pool that is none; zeroes; a number's last zeroes. No statement of the seat stands here. -/
import Derived.Test.YtclljmbgkpfgkaaGreatDoorAwO
namespace Go.Proofs.YtclljmbgkpfgkaaGreatDoor.Aw
open Go Go.RowKit Go.Proofs Go.Proofs.YtclljmbgkpfgkaaGreatDoor.X
def told (x : M (Value × St)) : Option Value := match x with
  | .ok (v, _) => some v
  | .error _ => none
theorem told_ok {x : M (Value × St)} {v : Value} (h : told x = some v) : ∃ s, x = .ok (v, s) := by
  unfold told at h
  split at h
  · injection h with h; subst h; exact ⟨_, rfl⟩
  · cases h
theorem run_plain {n f : Nat} {args : List Value} {v : Value} (hp : allPlain args = true) (hv : plainV v = true) (hc : told (runK cz n f args emptyS) = some v) (w : World) :
    Calls Tryz.prog f args.toArray w fun e w' => e = .returned v ∧ Below w.heap.size w w' := by
  obtain ⟨s, hs⟩ := told_ok hc
  refine (call_ok cz_ok cz_names cz_intr cz_mixed n (B := 0) (runK_ok hs) (fun _ => ⟨0, 0⟩) w args (empty_rel rfl w) (LRel.plains_refl hp)).mono ?_
  rintro e w' ⟨v', σ', rfl, h1, h2, h3⟩
  rw [h1.plain_eq hv]
  exact ⟨rfl, ⟨h3.os, h3.tape, h3.output, h3.size, fun k hk => h3.frame k hk (fun i hi => absurd hi (empty_fixed i))⟩⟩
theorem run_known {n f : Nat} {args : List Value} {v : Value} (hp : allPlain args = true) (hv : plainV v = true) (hc : told (runK cx n f args (gSt 5 tabs)) = some v) (w : World) (hw : KnownW w tabs) :
    Calls Tryz.prog f args.toArray w fun e w' => e = .returned v ∧ Below w.heap.size w w' := by
  obtain ⟨s, hs⟩ := told_ok hc
  have hk : allKnown 5 tabs = true := by kernel_rfl
  refine (call_ok cx_ok cx_names cx_intr cx_mixed n (B := 0) (runK_ok hs) (gSg w) w args (known_rel rfl hk hw) (LRel.plains_refl hp)).mono ?_
  rintro e w' ⟨v', σ', rfl, h1, h2, h3⟩
  rw [h1.plain_eq hv]
  exact ⟨rfl, ⟨h3.os, h3.tape, h3.output, h3.size, fun k hk' => h3.frame k hk' (fun i hi => absurd hi (known_fixed hk i))⟩⟩
def v0 : Value := .agg #[.string ⟨#[]⟩, .int .i64 0, .bool false, .int .i64 0, .string ⟨#[]⟩]
theorem put_nil (b key : ByteArray) (id : Int) (w : World) : Calls Tryz.prog 6 #[.pointer none, .string b, .string key, .slice none 0 0, .int .u64 id, .int .i64 (-1)] w fun e w' => e = .returned (.tuple #[v0, .int .i64 1]) ∧ Below w.heap.size w w' :=
  run_plain (n := fuel) (args := [.pointer none, .string b, .string key, .slice none 0 0, .int .u64 id, .int .i64 (-1)]) (by kernel_rfl) (by kernel_rfl) (by kernel_rfl) w
theorem lay_nil (b key : ByteArray) (id : Int) (w : World) : Calls Tryz.prog 7 #[.pointer none, .string b, .string key, .slice none 0 0, .string ⟨#[]⟩, .slice none 0 0, .string ⟨#[]⟩, .int .u64 id, .int .i64 (-1)] w fun e w' => e = .returned (.tuple #[v0, .int .i64 1]) ∧ Below w.heap.size w w' :=
  run_plain (n := fuel) (args := [.pointer none, .string b, .string key, .slice none 0 0, .string ⟨#[]⟩, .slice none 0 0, .string ⟨#[]⟩, .int .u64 id, .int .i64 (-1)]) (by kernel_rfl) (by kernel_rfl) (by kernel_rfl) w
theorem get_nil (b key : ByteArray) (w : World) : Calls Tryz.prog 8 #[.pointer none, .string b, .string key, .string ⟨#[]⟩] w fun e w' => e = .returned (.tuple #[v0, .slice none 0 0, .int .i64 1]) ∧ Below w.heap.size w w' :=
  run_plain (n := fuel) (args := [.pointer none, .string b, .string key, .string ⟨#[]⟩]) (by kernel_rfl) (by kernel_rfl) (by kernel_rfl) w
theorem part_nil (b key : ByteArray) (w : World) : Calls Tryz.prog 9 #[.pointer none, .string b, .string key, .string ⟨#[]⟩, .int .i64 0, .int .i64 0] w fun e w' => e = .returned (.tuple #[v0, .slice none 0 0, .int .i64 1]) ∧ Below w.heap.size w w' :=
  run_plain (n := fuel) (args := [.pointer none, .string b, .string key, .string ⟨#[]⟩, .int .i64 0, .int .i64 0]) (by kernel_rfl) (by kernel_rfl) (by kernel_rfl) w
theorem head_nil (b key : ByteArray) (w : World) : Calls Tryz.prog 10 #[.pointer none, .string b, .string key, .string ⟨#[]⟩] w fun e w' => e = .returned (.tuple #[v0, .int .i64 1]) ∧ Below w.heap.size w w' :=
  run_plain (n := fuel) (args := [.pointer none, .string b, .string key, .string ⟨#[]⟩]) (by kernel_rfl) (by kernel_rfl) (by kernel_rfl) w
theorem delete_nil (b key : ByteArray) (id : Int) (w : World) : Calls Tryz.prog 11 #[.pointer none, .string b, .string key, .string ⟨#[]⟩, .int .u64 id, .int .i64 (-1)] w fun e w' => e = .returned (.tuple #[v0, .int .i64 1]) ∧ Below w.heap.size w w' :=
  run_plain (n := fuel) (args := [.pointer none, .string b, .string key, .string ⟨#[]⟩, .int .u64 id, .int .i64 (-1)]) (by kernel_rfl) (by kernel_rfl) (by kernel_rfl) w
theorem entries_nil (b : ByteArray) (w : World) : Calls Tryz.prog 12 #[.pointer none, .string b] w fun e w' => e = .returned (.tuple #[.slice none 0 0, .int .i64 1]) ∧ Below w.heap.size w w' :=
  run_plain (n := fuel) (args := [.pointer none, .string b]) (by kernel_rfl) (by kernel_rfl) (by kernel_rfl) w
theorem zeros_last (w : World) (hw : KnownW w tabs) : Calls Tryz.prog 197 #[.int .u64 16] w fun e w' => e = .returned (.int .i64 4) ∧ Below w.heap.size w w' :=
  run_known (n := fuel) (args := [.int .u64 16]) (by kernel_rfl) (by kernel_rfl) (by kernel_rfl) w hw
theorem rep0 (w : World) : Calls Tryz.prog 21 #[.string ⟨#[48]⟩, .int .i64 0] w fun e w' => e = .returned (.string ⟨#[]⟩) ∧ Below w.heap.size w w' :=
  run_plain (n := fuel) (args := [.string ⟨#[48]⟩, .int .i64 0]) (by kernel_rfl) (by kernel_rfl) (by kernel_rfl) w
theorem rep1 (w : World) : Calls Tryz.prog 21 #[.string ⟨#[48]⟩, .int .i64 1] w fun e w' => e = .returned (.string ⟨#[48]⟩) ∧ Below w.heap.size w w' :=
  run_plain (n := fuel) (args := [.string ⟨#[48]⟩, .int .i64 1]) (by kernel_rfl) (by kernel_rfl) (by kernel_rfl) w
theorem rep2 (w : World) : Calls Tryz.prog 21 #[.string ⟨#[48]⟩, .int .i64 2] w fun e w' => e = .returned (.string ⟨#[48, 48]⟩) ∧ Below w.heap.size w w' :=
  run_plain (n := fuel) (args := [.string ⟨#[48]⟩, .int .i64 2]) (by kernel_rfl) (by kernel_rfl) (by kernel_rfl) w
theorem rep3 (w : World) : Calls Tryz.prog 21 #[.string ⟨#[48]⟩, .int .i64 3] w fun e w' => e = .returned (.string ⟨#[48, 48, 48]⟩) ∧ Below w.heap.size w w' :=
  run_plain (n := fuel) (args := [.string ⟨#[48]⟩, .int .i64 3]) (by kernel_rfl) (by kernel_rfl) (by kernel_rfl) w
theorem rep4 (w : World) : Calls Tryz.prog 21 #[.string ⟨#[48]⟩, .int .i64 4] w fun e w' => e = .returned (.string ⟨#[48, 48, 48, 48]⟩) ∧ Below w.heap.size w w' :=
  run_plain (n := fuel) (args := [.string ⟨#[48]⟩, .int .i64 4]) (by kernel_rfl) (by kernel_rfl) (by kernel_rfl) w
theorem rep5 (w : World) : Calls Tryz.prog 21 #[.string ⟨#[48]⟩, .int .i64 5] w fun e w' => e = .returned (.string ⟨#[48, 48, 48, 48, 48]⟩) ∧ Below w.heap.size w w' :=
  run_plain (n := fuel) (args := [.string ⟨#[48]⟩, .int .i64 5]) (by kernel_rfl) (by kernel_rfl) (by kernel_rfl) w
theorem rep6 (w : World) : Calls Tryz.prog 21 #[.string ⟨#[48]⟩, .int .i64 6] w fun e w' => e = .returned (.string ⟨#[48, 48, 48, 48, 48, 48]⟩) ∧ Below w.heap.size w w' :=
  run_plain (n := fuel) (args := [.string ⟨#[48]⟩, .int .i64 6]) (by kernel_rfl) (by kernel_rfl) (by kernel_rfl) w
theorem rep7 (w : World) : Calls Tryz.prog 21 #[.string ⟨#[48]⟩, .int .i64 7] w fun e w' => e = .returned (.string ⟨#[48, 48, 48, 48, 48, 48, 48]⟩) ∧ Below w.heap.size w w' :=
  run_plain (n := fuel) (args := [.string ⟨#[48]⟩, .int .i64 7]) (by kernel_rfl) (by kernel_rfl) (by kernel_rfl) w
theorem rep8 (w : World) : Calls Tryz.prog 21 #[.string ⟨#[48]⟩, .int .i64 8] w fun e w' => e = .returned (.string ⟨#[48, 48, 48, 48, 48, 48, 48, 48]⟩) ∧ Below w.heap.size w w' :=
  run_plain (n := fuel) (args := [.string ⟨#[48]⟩, .int .i64 8]) (by kernel_rfl) (by kernel_rfl) (by kernel_rfl) w
theorem rep9 (w : World) : Calls Tryz.prog 21 #[.string ⟨#[48]⟩, .int .i64 9] w fun e w' => e = .returned (.string ⟨#[48, 48, 48, 48, 48, 48, 48, 48, 48]⟩) ∧ Below w.heap.size w w' :=
  run_plain (n := fuel) (args := [.string ⟨#[48]⟩, .int .i64 9]) (by kernel_rfl) (by kernel_rfl) (by kernel_rfl) w
theorem rep10 (w : World) : Calls Tryz.prog 21 #[.string ⟨#[48]⟩, .int .i64 10] w fun e w' => e = .returned (.string ⟨#[48, 48, 48, 48, 48, 48, 48, 48, 48, 48]⟩) ∧ Below w.heap.size w w' :=
  run_plain (n := fuel) (args := [.string ⟨#[48]⟩, .int .i64 10]) (by kernel_rfl) (by kernel_rfl) (by kernel_rfl) w
theorem rep11 (w : World) : Calls Tryz.prog 21 #[.string ⟨#[48]⟩, .int .i64 11] w fun e w' => e = .returned (.string ⟨#[48, 48, 48, 48, 48, 48, 48, 48, 48, 48, 48]⟩) ∧ Below w.heap.size w w' :=
  run_plain (n := fuel) (args := [.string ⟨#[48]⟩, .int .i64 11]) (by kernel_rfl) (by kernel_rfl) (by kernel_rfl) w
theorem rep12 (w : World) : Calls Tryz.prog 21 #[.string ⟨#[48]⟩, .int .i64 12] w fun e w' => e = .returned (.string ⟨#[48, 48, 48, 48, 48, 48, 48, 48, 48, 48, 48, 48]⟩) ∧ Below w.heap.size w w' :=
  run_plain (n := fuel) (args := [.string ⟨#[48]⟩, .int .i64 12]) (by kernel_rfl) (by kernel_rfl) (by kernel_rfl) w
theorem rep13 (w : World) : Calls Tryz.prog 21 #[.string ⟨#[48]⟩, .int .i64 13] w fun e w' => e = .returned (.string ⟨#[48, 48, 48, 48, 48, 48, 48, 48, 48, 48, 48, 48, 48]⟩) ∧ Below w.heap.size w w' :=
  run_plain (n := fuel) (args := [.string ⟨#[48]⟩, .int .i64 13]) (by kernel_rfl) (by kernel_rfl) (by kernel_rfl) w
theorem rep14 (w : World) : Calls Tryz.prog 21 #[.string ⟨#[48]⟩, .int .i64 14] w fun e w' => e = .returned (.string ⟨#[48, 48, 48, 48, 48, 48, 48, 48, 48, 48, 48, 48, 48, 48]⟩) ∧ Below w.heap.size w w' :=
  run_plain (n := fuel) (args := [.string ⟨#[48]⟩, .int .i64 14]) (by kernel_rfl) (by kernel_rfl) (by kernel_rfl) w
theorem rep15 (w : World) : Calls Tryz.prog 21 #[.string ⟨#[48]⟩, .int .i64 15] w fun e w' => e = .returned (.string ⟨#[48, 48, 48, 48, 48, 48, 48, 48, 48, 48, 48, 48, 48, 48, 48]⟩) ∧ Below w.heap.size w w' :=
  run_plain (n := fuel) (args := [.string ⟨#[48]⟩, .int .i64 15]) (by kernel_rfl) (by kernel_rfl) (by kernel_rfl) w
theorem rep_calls (c : Nat) (hc : c < 16) (w : World) : Calls Tryz.prog 21 #[.string ⟨#[48]⟩, .int .i64 c] w fun e w' => (∃ s : ByteArray, bytesL s = List.replicate c 48 ∧ e = .returned (.string s)) ∧ Below w.heap.size w w' := by
  match c, hc with
  | 0, _ => exact (rep0 w).mono (fun e w' h => ⟨⟨_, rfl, h.1⟩, h.2⟩)
  | 1, _ => exact (rep1 w).mono (fun e w' h => ⟨⟨_, rfl, h.1⟩, h.2⟩)
  | 2, _ => exact (rep2 w).mono (fun e w' h => ⟨⟨_, rfl, h.1⟩, h.2⟩)
  | 3, _ => exact (rep3 w).mono (fun e w' h => ⟨⟨_, rfl, h.1⟩, h.2⟩)
  | 4, _ => exact (rep4 w).mono (fun e w' h => ⟨⟨_, rfl, h.1⟩, h.2⟩)
  | 5, _ => exact (rep5 w).mono (fun e w' h => ⟨⟨_, rfl, h.1⟩, h.2⟩)
  | 6, _ => exact (rep6 w).mono (fun e w' h => ⟨⟨_, rfl, h.1⟩, h.2⟩)
  | 7, _ => exact (rep7 w).mono (fun e w' h => ⟨⟨_, rfl, h.1⟩, h.2⟩)
  | 8, _ => exact (rep8 w).mono (fun e w' h => ⟨⟨_, rfl, h.1⟩, h.2⟩)
  | 9, _ => exact (rep9 w).mono (fun e w' h => ⟨⟨_, rfl, h.1⟩, h.2⟩)
  | 10, _ => exact (rep10 w).mono (fun e w' h => ⟨⟨_, rfl, h.1⟩, h.2⟩)
  | 11, _ => exact (rep11 w).mono (fun e w' h => ⟨⟨_, rfl, h.1⟩, h.2⟩)
  | 12, _ => exact (rep12 w).mono (fun e w' h => ⟨⟨_, rfl, h.1⟩, h.2⟩)
  | 13, _ => exact (rep13 w).mono (fun e w' h => ⟨⟨_, rfl, h.1⟩, h.2⟩)
  | 14, _ => exact (rep14 w).mono (fun e w' h => ⟨⟨_, rfl, h.1⟩, h.2⟩)
  | 15, _ => exact (rep15 w).mono (fun e w' h => ⟨⟨_, rfl, h.1⟩, h.2⟩)
  | n + 16, h => exact absurd h (by omega)
theorem known_below : ∀ {l : List (Nat × AO)} {w w' : World}, KnownW w l → Below w.heap.size w w' → KnownW w' l
  | [], _, _, _, _ => trivial
  | _ :: _, _, _, ⟨⟨c, e, g, wr, cc, fz, h1, h2, h3⟩, h⟩, hb => ⟨⟨c, e, g, wr, cc, fz, h1, (hb.block _ (Array.getElem?_eq_some_iff.1 h2).1).trans h2, h3⟩, known_below h hb⟩
end Go.Proofs.YtclljmbgkpfgkaaGreatDoor.Aw
