/- The walk of GfLists at every input. -/
import Derived.Test.YtpogicakpgpkcaaGfL6
import Derived.Test.YtpogicakpgpkcaaGfL7
import Derived.Test.YtpogicakpgpkcaaGfL8
namespace Go.Proofs.Ytpogicakpgpkcaa.GfL
open Go.RowKit Go.Proofs.YtpogicakpgpkcaaW.PrintWords Go.Proofs.YtpogicakpgpkcaaW.PrintLast Go.Proofs.Ytpogicakpgpkcaa.Gf Go.Proofs.Ytpogicakpgpkcaa.PureL

def IsRow (k : IntKind) (w : World) (a : Option Addr) (len cap : Nat) (zs : List Int) : Prop :=
  (a = none ∧ len = 0 ∧ cap = 0 ∧ zs = []) ∨
  ∃ x, a = some x ∧ len ≤ cap ∧ cap ≤ maxLen ∧ zs.length = cap ∧ (∀ i, i < zs.length → w.cell? (x.add i) = some (.int k (zs.getD i 0))) ∧ ∀ n ∈ zs, (Lit.int k n).wf = true
theorem toNat_list (l : List Int) (h : ∀ n ∈ l, 0 ≤ n) : NL (l.map Int.toNat) = l := by
  unfold NL
  rw [List.map_map]
  conv => rhs; rw [← List.map_id l]
  refine List.map_congr_left fun n hn => ?_
  show ((n.toNat : Nat) : Int) = n
  have := h n hn
  omega
theorem IsRow.bytes {w : World} {a : Option Addr} {len cap : Nat} {zs : List Int} (h : IsRow .u8 w a len cap zs) (hl : len * 1 ≤ 140737488351232) : ∃ x : List Nat, Bytes x ∧ Kd.C (Kd.int .u8) w a len (NL x) ∧ len ≤ cap := by
  rcases h with ⟨rfl, rfl, rfl, rfl⟩ | ⟨x, rfl, hlc, hm, hz, hc, hw⟩
  · exact ⟨[], fun n hn => (by cases hn), rd_none w, Nat.le_refl _⟩
  · have hb : ∀ n ∈ zs.take len, 0 ≤ n ∧ n ≤ 255 := fun n hn => bounds_u8 (hw n (List.mem_of_mem_take hn))
    refine ⟨(zs.take len).map Int.toNat, ?_, ?_, hlc⟩
    · intro n hn
      obtain ⟨m, hm, rfl⟩ := List.mem_map.1 hn
      have := hb m hm
      omega
    · rw [toNat_list _ (fun n hn => (hb n hn).1)]
      refine Kd.C_of_reads (d := 0) ⟨by rw [List.length_take]; omega, by omega, fun _ => ⟨x, rfl, fun j hj => ?_⟩⟩
      rw [hc j (by omega)]
      congr 2
      simp only [List.getD]
      rw [List.getElem?_take_of_lt hj]
theorem why_zero {n m : Nat} (h : why n m = 0) : n = m ∧ n ≤ 65536 := by
  unfold why at h
  split at h
  · omega
  · split at h
    · omega
    · omega
theorem GfLists_walk (a0 : Option Addr) (len0 cap0 : Nat) (z0 : List Int) (a1 : Option Addr) (len1 cap1 : Nat) (z1 : List Int) (a2 : Int) (w : World) (w0 : IsRow .u8 w a0 len0 cap0 z0) (y0 : len0 * 1 ≤ 140737488351232) (w1 : IsRow .u8 w a1 len1 cap1 z1) (y1 : len1 * 1 ≤ 140737488351232) (w2 : (Lit.int .u8 a2).wf = true) :
    Calls Try.prog 4 #[.slice a0 len0 cap0, .slice a1 len1 cap1, .int .u8 a2] w fun e w' => e = .returned (.bool true) ∧ Below w.heap.size w w' := by
  have b2 := bounds_u8 w2
  obtain ⟨a, rfl⟩ := Int.eq_ofNat_of_zero_le b2.1
  obtain ⟨x, bx, hx, hcx⟩ := w0.bytes y0
  obtain ⟨y, by_, hy, hcy⟩ := w1.bytes y1
  by_cases ho : (2000 < len0 ∧ len0 ≤ 65536) ∨ (2000 < len1 ∧ len1 ≤ 65536) ∨ 70000 < len0 ∨ 70000 < len1
  · refine (Lists_out a0 len0 cap0 a1 len1 cap1 _ w ho).mono ?_
    rintro e w' ⟨rfl, rfl⟩
    exact ⟨rfl, Below.refl _ _⟩
  · by_cases hw : why len0 len1 = 0
    · obtain ⟨rfl, hl⟩ := why_zero hw
      exact Lists_good a0 len0 cap0 x a1 cap1 y a w hx hcx hy hcy bx by_ (by omega) (by omega)
    · exact Lists_bad a0 len0 cap0 x a1 len1 cap1 y a w hx hcx hy hcy hw (by omega) (by omega)
end Go.Proofs.Ytpogicakpgpkcaa.GfL
