/- Began as a printed text (YtpogicakpgpkcaaPGfKnownx3); the walks of gf.Axpy and gf.Dot turned by hand: the examples of the chapter. -/
import Derived.Test.YtpogicakpgpkcaaPGfKnownx0
import Derived.Test.YtpogicakpgpkcaaPGfKnownx1
import Derived.Test.YtpogicakpgpkcaaHGfKnownx2
namespace Go.Proofs.Ytpogicakpgpkcaa.PGfKnown
open Go.RowKit Go.Proofs.YtpogicakpgpkcaaW.PrintWords Go.Proofs.YtpogicakpgpkcaaW.PrintLast Go.Proofs.YtpogicakpgpkcaaW.PrintMore
attribute [local go_sem] max2_int min2_int max_two min_two max_three min_three max_four min_four   -- for this text's walks alone
set_option linter.unusedVariables false
set_option linter.unusedSimpArgs false

/-! ### stowagelaw01_GfKnown: function 5 -/
def stowagelaw01_GfKnown.j0 : Nat → Int → Int → Int → List Int → Int → Int → Int → Int → Bool → Option (Bool)
  | 0, _, _, _, _, _, _, _, _, _ => none
  | k + 1, x6, x7, x8, x9, x10, x11, x12, x14, x15 => if x15 = true then ((stowagelaw01_pow.f k 2 8 29).bind fun t165 => (if t165 = true then ((stowagelaw01_pow.f k 2 255 1).bind fun t166 => (if t166 = true then ((stowagelaw01_pow.f k 0 0 1).bind fun t167 => (if t167 = true then ((stowagelaw01_pow.f k 2 (-1) 142).bind fun t168 => (if t168 = true then (if x6 = 5 then (if x7 = 8 then (if x8 = 0 then ((stowagekit_SameBytes.f x9 (([3, 0] : List Int))).bind fun t172 => (if t172 = true then (if x10 = 0 then (if x11 = 11 then (if x12 = 0 then (some (x14 == 2)) else (some false)) else (some false)) else (some false)) else (some false))) else (some false)) else (some false)) else (some false)) else (some false))) else (some false))) else (some false))) else (some false))) else (some false)
def stowagelaw01_GfKnown.f (k : Nat)  : Option (Bool) := (gf_Inv.f k 0).bind fun bt131 => ((gf_Div.f k 9 7).bind fun bt133 => ((gf_Pow.f k 0 (-1)).bind fun bt135 => ((gf_Log.f k 29).bind fun bt137 => ((gf_Axpy.f k (([1, 2] : List Int)) (([1, 1] : List Int)) 2).bind fun bt145 => ((gf_Dot.f k (([1, 2] : List Int)) (([3, 4] : List Int))).bind fun bt155 => ((gf_Dot.f k (([1] : List Int)) ([] : List Int)).bind fun bt160 => ((stowagelaw01_awake.f k).bind fun t162 => (if t162 = true then ((gf_Add.f 83 202).bind fun t163 => (if t163 = 153 then ((gf_Mul.f k 3 7).bind fun t164 => (if t164 = 9 then (if bt131.2 = 5 then (if bt133.1 = 3 then (stowagelaw01_GfKnown.j0 k bt135.2 bt137.1 bt137.2 bt145.1 bt145.2 bt155.1 bt155.2 bt160.2 (bt133.2 == 0)) else (stowagelaw01_GfKnown.j0 k bt135.2 bt137.1 bt137.2 bt145.1 bt145.2 bt155.1 bt155.2 bt160.2 false)) else (stowagelaw01_GfKnown.j0 k bt135.2 bt137.1 bt137.2 bt145.1 bt145.2 bt155.1 bt155.2 bt160.2 false)) else (stowagelaw01_GfKnown.j0 k bt135.2 bt137.1 bt137.2 bt145.1 bt145.2 bt155.1 bt155.2 bt160.2 false))) else (stowagelaw01_GfKnown.j0 k bt135.2 bt137.1 bt137.2 bt145.1 bt145.2 bt155.1 bt155.2 bt160.2 false))) else (stowagelaw01_GfKnown.j0 k bt135.2 bt137.1 bt137.2 bt145.1 bt145.2 bt155.1 bt155.2 bt160.2 false)))))))))
theorem stowagelaw01_GfKnown.mono_l : ∀ k, (∀ y0 y1 y2 y3 y4 y5 y6 y7 y8, LeO (stowagelaw01_GfKnown.j0 k y0 y1 y2 y3 y4 y5 y6 y7 y8) (stowagelaw01_GfKnown.j0 (k + 1) y0 y1 y2 y3 y4 y5 y6 y7 y8))
  | 0 => fun _ _ _ _ _ _ _ _ _ r h => by simp [stowagelaw01_GfKnown.j0] at h
  | k + 1 => by
    have ih0 := stowagelaw01_GfKnown.mono_l k
    · intro y0 y1 y2 y3 y4 y5 y6 y7 y8
      unfold stowagelaw01_GfKnown.j0
      repeat' first
      | (with_reducible exact ih0 _ _ _ _ _ _ _ _ _)
      | (with_reducible exact gf_Axpy.mono _ _ _ _)
      | (with_reducible exact gf_Div.mono _ _ _)
      | (with_reducible exact gf_Dot.mono _ _ _)
      | (with_reducible exact gf_Inv.mono _ _)
      | (with_reducible exact gf_Log.mono _ _)
      | (with_reducible exact gf_Mul.mono _ _ _)
      | (with_reducible exact gf_Pow.mono _ _ _)
      | (with_reducible exact stowagelaw01_awake.mono _)
      | (with_reducible exact stowagelaw01_pow.mono _ _ _ _)
      | (with_reducible exact LeO.refl _)
      | (with_reducible exact LeO.none _)
      | (with_reducible refine LeO.ite ?_ ?_)
      | (with_reducible refine LeO.bind ?_ (fun _ => ?_))
      | exact ih0 _ _ _ _ _ _ _ _ _
      | exact gf_Axpy.mono _ _ _ _
      | exact gf_Div.mono _ _ _
      | exact gf_Dot.mono _ _ _
      | exact gf_Inv.mono _ _
      | exact gf_Log.mono _ _
      | exact gf_Mul.mono _ _ _
      | exact gf_Pow.mono _ _ _
      | exact stowagelaw01_awake.mono _
      | exact stowagelaw01_pow.mono _ _ _ _
      | exact LeO.none _
      | refine LeO.ite ?_ ?_
      | refine LeO.bind ?_ (fun _ => ?_)
theorem stowagelaw01_GfKnown.mono : ∀ k, LeO (stowagelaw01_GfKnown.f k ) (stowagelaw01_GfKnown.f (k + 1) ) := by
  intro  k
  have ih0 := stowagelaw01_GfKnown.mono_l k
  unfold stowagelaw01_GfKnown.f
  repeat' first
      | (with_reducible exact ih0 _ _ _ _ _ _ _ _ _)
      | (with_reducible exact gf_Axpy.mono _ _ _ _)
      | (with_reducible exact gf_Div.mono _ _ _)
      | (with_reducible exact gf_Dot.mono _ _ _)
      | (with_reducible exact gf_Inv.mono _ _)
      | (with_reducible exact gf_Log.mono _ _)
      | (with_reducible exact gf_Mul.mono _ _ _)
      | (with_reducible exact gf_Pow.mono _ _ _)
      | (with_reducible exact stowagelaw01_awake.mono _)
      | (with_reducible exact stowagelaw01_pow.mono _ _ _ _)
      | (with_reducible exact LeO.refl _)
      | (with_reducible exact LeO.none _)
      | (with_reducible refine LeO.ite ?_ ?_)
      | (with_reducible refine LeO.bind ?_ (fun _ => ?_))
      | exact ih0 _ _ _ _ _ _ _ _ _
      | exact gf_Axpy.mono _ _ _ _
      | exact gf_Div.mono _ _ _
      | exact gf_Dot.mono _ _ _
      | exact gf_Inv.mono _ _
      | exact gf_Log.mono _ _
      | exact gf_Mul.mono _ _ _
      | exact gf_Pow.mono _ _ _
      | exact stowagelaw01_awake.mono _
      | exact stowagelaw01_pow.mono _ _ _ _
      | exact LeO.none _
      | refine LeO.ite ?_ ?_
      | refine LeO.bind ?_ (fun _ => ?_)
set_option maxHeartbeats 8000000 in
set_option maxRecDepth 100000 in
theorem stowagelaw01_GfKnown.calls (k : Nat)  (r : Bool) (w : World) (h : stowagelaw01_GfKnown.f k  = some r) :
    Calls Try.prog 5 #[] w fun e w' => e = .returned (.bool r) ∧ Below w.heap.size w w' := by
  have HB := Aside0.mk (Below.refl w.heap.size w)
  have H : ((gf_Inv.f k 0).bind fun bt131 => ((gf_Div.f k 9 7).bind fun bt133 => ((gf_Pow.f k 0 (-1)).bind fun bt135 => ((gf_Log.f k 29).bind fun bt137 => ((gf_Axpy.f k (([1, 2] : List Int)) (([1, 1] : List Int)) 2).bind fun bt145 => ((gf_Dot.f k (([1, 2] : List Int)) (([3, 4] : List Int))).bind fun bt155 => ((gf_Dot.f k (([1] : List Int)) ([] : List Int)).bind fun bt160 => ((stowagelaw01_awake.f k).bind fun t162 => (if t162 = true then ((gf_Add.f 83 202).bind fun t163 => (if t163 = 153 then ((gf_Mul.f k 3 7).bind fun t164 => (if t164 = 9 then (if bt131.2 = 5 then (if bt133.1 = 3 then (stowagelaw01_GfKnown.j0 k bt135.2 bt137.1 bt137.2 bt145.1 bt145.2 bt155.1 bt155.2 bt160.2 (bt133.2 == 0)) else (stowagelaw01_GfKnown.j0 k bt135.2 bt137.1 bt137.2 bt145.1 bt145.2 bt155.1 bt155.2 bt160.2 false)) else (stowagelaw01_GfKnown.j0 k bt135.2 bt137.1 bt137.2 bt145.1 bt145.2 bt155.1 bt155.2 bt160.2 false)) else (stowagelaw01_GfKnown.j0 k bt135.2 bt137.1 bt137.2 bt145.1 bt145.2 bt155.1 bt155.2 bt160.2 false))) else (stowagelaw01_GfKnown.j0 k bt135.2 bt137.1 bt137.2 bt145.1 bt145.2 bt155.1 bt155.2 bt160.2 false))) else (stowagelaw01_GfKnown.j0 k bt135.2 bt137.1 bt137.2 bt145.1 bt145.2 bt155.1 bt155.2 bt160.2 false)))))))))) = some r := h
  clear h
  replace H := Option.bind_eq_some_iff.mp H
  obtain ⟨⟨t131, t132⟩, A10, H⟩ := H
  replace H : ((gf_Div.f k 9 7).bind fun bt133 => ((gf_Pow.f k 0 (-1)).bind fun bt135 => ((gf_Log.f k 29).bind fun bt137 => ((gf_Axpy.f k (([1, 2] : List Int)) (([1, 1] : List Int)) 2).bind fun bt145 => ((gf_Dot.f k (([1, 2] : List Int)) (([3, 4] : List Int))).bind fun bt155 => ((gf_Dot.f k (([1] : List Int)) ([] : List Int)).bind fun bt160 => ((stowagelaw01_awake.f k).bind fun t162 => (if t162 = true then ((gf_Add.f 83 202).bind fun t163 => (if t163 = 153 then ((gf_Mul.f k 3 7).bind fun t164 => (if t164 = 9 then (if t132 = 5 then (if bt133.1 = 3 then (stowagelaw01_GfKnown.j0 k bt135.2 bt137.1 bt137.2 bt145.1 bt145.2 bt155.1 bt155.2 bt160.2 (bt133.2 == 0)) else (stowagelaw01_GfKnown.j0 k bt135.2 bt137.1 bt137.2 bt145.1 bt145.2 bt155.1 bt155.2 bt160.2 false)) else (stowagelaw01_GfKnown.j0 k bt135.2 bt137.1 bt137.2 bt145.1 bt145.2 bt155.1 bt155.2 bt160.2 false)) else (stowagelaw01_GfKnown.j0 k bt135.2 bt137.1 bt137.2 bt145.1 bt145.2 bt155.1 bt155.2 bt160.2 false))) else (stowagelaw01_GfKnown.j0 k bt135.2 bt137.1 bt137.2 bt145.1 bt145.2 bt155.1 bt155.2 bt160.2 false))) else (stowagelaw01_GfKnown.j0 k bt135.2 bt137.1 bt137.2 bt145.1 bt145.2 bt155.1 bt155.2 bt160.2 false))))))))) = some r := H
  have A1 := Aside0.mk A10
  clear A10
  replace H := Option.bind_eq_some_iff.mp H
  obtain ⟨⟨t133, t134⟩, A20, H⟩ := H
  replace H : ((gf_Pow.f k 0 (-1)).bind fun bt135 => ((gf_Log.f k 29).bind fun bt137 => ((gf_Axpy.f k (([1, 2] : List Int)) (([1, 1] : List Int)) 2).bind fun bt145 => ((gf_Dot.f k (([1, 2] : List Int)) (([3, 4] : List Int))).bind fun bt155 => ((gf_Dot.f k (([1] : List Int)) ([] : List Int)).bind fun bt160 => ((stowagelaw01_awake.f k).bind fun t162 => (if t162 = true then ((gf_Add.f 83 202).bind fun t163 => (if t163 = 153 then ((gf_Mul.f k 3 7).bind fun t164 => (if t164 = 9 then (if t132 = 5 then (if t133 = 3 then (stowagelaw01_GfKnown.j0 k bt135.2 bt137.1 bt137.2 bt145.1 bt145.2 bt155.1 bt155.2 bt160.2 (t134 == 0)) else (stowagelaw01_GfKnown.j0 k bt135.2 bt137.1 bt137.2 bt145.1 bt145.2 bt155.1 bt155.2 bt160.2 false)) else (stowagelaw01_GfKnown.j0 k bt135.2 bt137.1 bt137.2 bt145.1 bt145.2 bt155.1 bt155.2 bt160.2 false)) else (stowagelaw01_GfKnown.j0 k bt135.2 bt137.1 bt137.2 bt145.1 bt145.2 bt155.1 bt155.2 bt160.2 false))) else (stowagelaw01_GfKnown.j0 k bt135.2 bt137.1 bt137.2 bt145.1 bt145.2 bt155.1 bt155.2 bt160.2 false))) else (stowagelaw01_GfKnown.j0 k bt135.2 bt137.1 bt137.2 bt145.1 bt145.2 bt155.1 bt155.2 bt160.2 false)))))))) = some r := H
  have A2 := Aside0.mk A20
  clear A20
  replace H := Option.bind_eq_some_iff.mp H
  obtain ⟨⟨t135, t136⟩, A30, H⟩ := H
  replace H : ((gf_Log.f k 29).bind fun bt137 => ((gf_Axpy.f k (([1, 2] : List Int)) (([1, 1] : List Int)) 2).bind fun bt145 => ((gf_Dot.f k (([1, 2] : List Int)) (([3, 4] : List Int))).bind fun bt155 => ((gf_Dot.f k (([1] : List Int)) ([] : List Int)).bind fun bt160 => ((stowagelaw01_awake.f k).bind fun t162 => (if t162 = true then ((gf_Add.f 83 202).bind fun t163 => (if t163 = 153 then ((gf_Mul.f k 3 7).bind fun t164 => (if t164 = 9 then (if t132 = 5 then (if t133 = 3 then (stowagelaw01_GfKnown.j0 k t136 bt137.1 bt137.2 bt145.1 bt145.2 bt155.1 bt155.2 bt160.2 (t134 == 0)) else (stowagelaw01_GfKnown.j0 k t136 bt137.1 bt137.2 bt145.1 bt145.2 bt155.1 bt155.2 bt160.2 false)) else (stowagelaw01_GfKnown.j0 k t136 bt137.1 bt137.2 bt145.1 bt145.2 bt155.1 bt155.2 bt160.2 false)) else (stowagelaw01_GfKnown.j0 k t136 bt137.1 bt137.2 bt145.1 bt145.2 bt155.1 bt155.2 bt160.2 false))) else (stowagelaw01_GfKnown.j0 k t136 bt137.1 bt137.2 bt145.1 bt145.2 bt155.1 bt155.2 bt160.2 false))) else (stowagelaw01_GfKnown.j0 k t136 bt137.1 bt137.2 bt145.1 bt145.2 bt155.1 bt155.2 bt160.2 false))))))) = some r := H
  have A3 := Aside0.mk A30
  clear A30
  replace H := Option.bind_eq_some_iff.mp H
  obtain ⟨⟨t137, t138⟩, A40, H⟩ := H
  replace H : ((gf_Axpy.f k (([1, 2] : List Int)) (([1, 1] : List Int)) 2).bind fun bt145 => ((gf_Dot.f k (([1, 2] : List Int)) (([3, 4] : List Int))).bind fun bt155 => ((gf_Dot.f k (([1] : List Int)) ([] : List Int)).bind fun bt160 => ((stowagelaw01_awake.f k).bind fun t162 => (if t162 = true then ((gf_Add.f 83 202).bind fun t163 => (if t163 = 153 then ((gf_Mul.f k 3 7).bind fun t164 => (if t164 = 9 then (if t132 = 5 then (if t133 = 3 then (stowagelaw01_GfKnown.j0 k t136 t137 t138 bt145.1 bt145.2 bt155.1 bt155.2 bt160.2 (t134 == 0)) else (stowagelaw01_GfKnown.j0 k t136 t137 t138 bt145.1 bt145.2 bt155.1 bt155.2 bt160.2 false)) else (stowagelaw01_GfKnown.j0 k t136 t137 t138 bt145.1 bt145.2 bt155.1 bt155.2 bt160.2 false)) else (stowagelaw01_GfKnown.j0 k t136 t137 t138 bt145.1 bt145.2 bt155.1 bt155.2 bt160.2 false))) else (stowagelaw01_GfKnown.j0 k t136 t137 t138 bt145.1 bt145.2 bt155.1 bt155.2 bt160.2 false))) else (stowagelaw01_GfKnown.j0 k t136 t137 t138 bt145.1 bt145.2 bt155.1 bt155.2 bt160.2 false)))))) = some r := H
  have A4 := Aside0.mk A40
  clear A40
  obtain ⟨y139, hy139⟩ : ∃ y_ : List Int, y_ = (([1, 2] : List Int)) := ⟨_, rfl⟩
  replace H : ((gf_Axpy.f k y139 (([1, 1] : List Int)) 2).bind fun bt145 => ((gf_Dot.f k (([1, 2] : List Int)) (([3, 4] : List Int))).bind fun bt155 => ((gf_Dot.f k (([1] : List Int)) ([] : List Int)).bind fun bt160 => ((stowagelaw01_awake.f k).bind fun t162 => (if t162 = true then ((gf_Add.f 83 202).bind fun t163 => (if t163 = 153 then ((gf_Mul.f k 3 7).bind fun t164 => (if t164 = 9 then (if t132 = 5 then (if t133 = 3 then (stowagelaw01_GfKnown.j0 k t136 t137 t138 bt145.1 bt145.2 bt155.1 bt155.2 bt160.2 (t134 == 0)) else (stowagelaw01_GfKnown.j0 k t136 t137 t138 bt145.1 bt145.2 bt155.1 bt155.2 bt160.2 false)) else (stowagelaw01_GfKnown.j0 k t136 t137 t138 bt145.1 bt145.2 bt155.1 bt155.2 bt160.2 false)) else (stowagelaw01_GfKnown.j0 k t136 t137 t138 bt145.1 bt145.2 bt155.1 bt155.2 bt160.2 false))) else (stowagelaw01_GfKnown.j0 k t136 t137 t138 bt145.1 bt145.2 bt155.1 bt155.2 bt160.2 false))) else (stowagelaw01_GfKnown.j0 k t136 t137 t138 bt145.1 bt145.2 bt155.1 bt155.2 bt160.2 false)))))) = some r := by first | (rw [hy139]; with_reducible exact H) | (have H2_ := (Option.bind_some _ _).symm.trans H; rw [hy139]; with_reducible exact H2_) | (have H2_ := (Option.bind_some _ _).symm.trans H; with_reducible exact H2_) | with_reducible exact H | (rw [hy139]; exact H) | exact H
  have Ny139 := Aside0.mk hy139
  clear hy139
  obtain ⟨y142, hy142⟩ : ∃ y_ : List Int, y_ = (([1, 1] : List Int)) := ⟨_, rfl⟩
  replace H : ((gf_Axpy.f k y139 y142 2).bind fun bt145 => ((gf_Dot.f k (([1, 2] : List Int)) (([3, 4] : List Int))).bind fun bt155 => ((gf_Dot.f k (([1] : List Int)) ([] : List Int)).bind fun bt160 => ((stowagelaw01_awake.f k).bind fun t162 => (if t162 = true then ((gf_Add.f 83 202).bind fun t163 => (if t163 = 153 then ((gf_Mul.f k 3 7).bind fun t164 => (if t164 = 9 then (if t132 = 5 then (if t133 = 3 then (stowagelaw01_GfKnown.j0 k t136 t137 t138 bt145.1 bt145.2 bt155.1 bt155.2 bt160.2 (t134 == 0)) else (stowagelaw01_GfKnown.j0 k t136 t137 t138 bt145.1 bt145.2 bt155.1 bt155.2 bt160.2 false)) else (stowagelaw01_GfKnown.j0 k t136 t137 t138 bt145.1 bt145.2 bt155.1 bt155.2 bt160.2 false)) else (stowagelaw01_GfKnown.j0 k t136 t137 t138 bt145.1 bt145.2 bt155.1 bt155.2 bt160.2 false))) else (stowagelaw01_GfKnown.j0 k t136 t137 t138 bt145.1 bt145.2 bt155.1 bt155.2 bt160.2 false))) else (stowagelaw01_GfKnown.j0 k t136 t137 t138 bt145.1 bt145.2 bt155.1 bt155.2 bt160.2 false)))))) = some r := by first | (rw [hy142]; with_reducible exact H) | (have H2_ := (Option.bind_some _ _).symm.trans H; rw [hy142]; with_reducible exact H2_) | (have H2_ := (Option.bind_some _ _).symm.trans H; with_reducible exact H2_) | with_reducible exact H | (rw [hy142]; exact H) | exact H
  have Ny142 := Aside0.mk hy142
  clear hy142
  replace H := Option.bind_eq_some_iff.mp H
  obtain ⟨⟨t145, t146⟩, A50, H⟩ := H
  replace H : ((gf_Dot.f k (([1, 2] : List Int)) (([3, 4] : List Int))).bind fun bt155 => ((gf_Dot.f k (([1] : List Int)) ([] : List Int)).bind fun bt160 => ((stowagelaw01_awake.f k).bind fun t162 => (if t162 = true then ((gf_Add.f 83 202).bind fun t163 => (if t163 = 153 then ((gf_Mul.f k 3 7).bind fun t164 => (if t164 = 9 then (if t132 = 5 then (if t133 = 3 then (stowagelaw01_GfKnown.j0 k t136 t137 t138 t145 t146 bt155.1 bt155.2 bt160.2 (t134 == 0)) else (stowagelaw01_GfKnown.j0 k t136 t137 t138 t145 t146 bt155.1 bt155.2 bt160.2 false)) else (stowagelaw01_GfKnown.j0 k t136 t137 t138 t145 t146 bt155.1 bt155.2 bt160.2 false)) else (stowagelaw01_GfKnown.j0 k t136 t137 t138 t145 t146 bt155.1 bt155.2 bt160.2 false))) else (stowagelaw01_GfKnown.j0 k t136 t137 t138 t145 t146 bt155.1 bt155.2 bt160.2 false))) else (stowagelaw01_GfKnown.j0 k t136 t137 t138 t145 t146 bt155.1 bt155.2 bt160.2 false))))) = some r := H
  have A5 := Aside0.mk A50
  clear A50
  obtain ⟨y149, hy149⟩ : ∃ y_ : List Int, y_ = (([1, 2] : List Int)) := ⟨_, rfl⟩
  replace H : ((gf_Dot.f k y149 (([3, 4] : List Int))).bind fun bt155 => ((gf_Dot.f k (([1] : List Int)) ([] : List Int)).bind fun bt160 => ((stowagelaw01_awake.f k).bind fun t162 => (if t162 = true then ((gf_Add.f 83 202).bind fun t163 => (if t163 = 153 then ((gf_Mul.f k 3 7).bind fun t164 => (if t164 = 9 then (if t132 = 5 then (if t133 = 3 then (stowagelaw01_GfKnown.j0 k t136 t137 t138 t145 t146 bt155.1 bt155.2 bt160.2 (t134 == 0)) else (stowagelaw01_GfKnown.j0 k t136 t137 t138 t145 t146 bt155.1 bt155.2 bt160.2 false)) else (stowagelaw01_GfKnown.j0 k t136 t137 t138 t145 t146 bt155.1 bt155.2 bt160.2 false)) else (stowagelaw01_GfKnown.j0 k t136 t137 t138 t145 t146 bt155.1 bt155.2 bt160.2 false))) else (stowagelaw01_GfKnown.j0 k t136 t137 t138 t145 t146 bt155.1 bt155.2 bt160.2 false))) else (stowagelaw01_GfKnown.j0 k t136 t137 t138 t145 t146 bt155.1 bt155.2 bt160.2 false))))) = some r := by first | (rw [hy149]; with_reducible exact H) | (have H2_ := (Option.bind_some _ _).symm.trans H; rw [hy149]; with_reducible exact H2_) | (have H2_ := (Option.bind_some _ _).symm.trans H; with_reducible exact H2_) | with_reducible exact H | (rw [hy149]; exact H) | exact H
  have Ny149 := Aside0.mk hy149
  clear hy149
  obtain ⟨y152, hy152⟩ : ∃ y_ : List Int, y_ = (([3, 4] : List Int)) := ⟨_, rfl⟩
  replace H : ((gf_Dot.f k y149 y152).bind fun bt155 => ((gf_Dot.f k (([1] : List Int)) ([] : List Int)).bind fun bt160 => ((stowagelaw01_awake.f k).bind fun t162 => (if t162 = true then ((gf_Add.f 83 202).bind fun t163 => (if t163 = 153 then ((gf_Mul.f k 3 7).bind fun t164 => (if t164 = 9 then (if t132 = 5 then (if t133 = 3 then (stowagelaw01_GfKnown.j0 k t136 t137 t138 t145 t146 bt155.1 bt155.2 bt160.2 (t134 == 0)) else (stowagelaw01_GfKnown.j0 k t136 t137 t138 t145 t146 bt155.1 bt155.2 bt160.2 false)) else (stowagelaw01_GfKnown.j0 k t136 t137 t138 t145 t146 bt155.1 bt155.2 bt160.2 false)) else (stowagelaw01_GfKnown.j0 k t136 t137 t138 t145 t146 bt155.1 bt155.2 bt160.2 false))) else (stowagelaw01_GfKnown.j0 k t136 t137 t138 t145 t146 bt155.1 bt155.2 bt160.2 false))) else (stowagelaw01_GfKnown.j0 k t136 t137 t138 t145 t146 bt155.1 bt155.2 bt160.2 false))))) = some r := by first | (rw [hy152]; with_reducible exact H) | (have H2_ := (Option.bind_some _ _).symm.trans H; rw [hy152]; with_reducible exact H2_) | (have H2_ := (Option.bind_some _ _).symm.trans H; with_reducible exact H2_) | with_reducible exact H | (rw [hy152]; exact H) | exact H
  have Ny152 := Aside0.mk hy152
  clear hy152
  replace H := Option.bind_eq_some_iff.mp H
  obtain ⟨⟨t155, t156⟩, A60, H⟩ := H
  replace H : ((gf_Dot.f k (([1] : List Int)) ([] : List Int)).bind fun bt160 => ((stowagelaw01_awake.f k).bind fun t162 => (if t162 = true then ((gf_Add.f 83 202).bind fun t163 => (if t163 = 153 then ((gf_Mul.f k 3 7).bind fun t164 => (if t164 = 9 then (if t132 = 5 then (if t133 = 3 then (stowagelaw01_GfKnown.j0 k t136 t137 t138 t145 t146 t155 t156 bt160.2 (t134 == 0)) else (stowagelaw01_GfKnown.j0 k t136 t137 t138 t145 t146 t155 t156 bt160.2 false)) else (stowagelaw01_GfKnown.j0 k t136 t137 t138 t145 t146 t155 t156 bt160.2 false)) else (stowagelaw01_GfKnown.j0 k t136 t137 t138 t145 t146 t155 t156 bt160.2 false))) else (stowagelaw01_GfKnown.j0 k t136 t137 t138 t145 t146 t155 t156 bt160.2 false))) else (stowagelaw01_GfKnown.j0 k t136 t137 t138 t145 t146 t155 t156 bt160.2 false)))) = some r := H
  have A6 := Aside0.mk A60
  clear A60
  obtain ⟨y157, hy157⟩ : ∃ y_ : List Int, y_ = (([1] : List Int)) := ⟨_, rfl⟩
  replace H : ((gf_Dot.f k y157 ([] : List Int)).bind fun bt160 => ((stowagelaw01_awake.f k).bind fun t162 => (if t162 = true then ((gf_Add.f 83 202).bind fun t163 => (if t163 = 153 then ((gf_Mul.f k 3 7).bind fun t164 => (if t164 = 9 then (if t132 = 5 then (if t133 = 3 then (stowagelaw01_GfKnown.j0 k t136 t137 t138 t145 t146 t155 t156 bt160.2 (t134 == 0)) else (stowagelaw01_GfKnown.j0 k t136 t137 t138 t145 t146 t155 t156 bt160.2 false)) else (stowagelaw01_GfKnown.j0 k t136 t137 t138 t145 t146 t155 t156 bt160.2 false)) else (stowagelaw01_GfKnown.j0 k t136 t137 t138 t145 t146 t155 t156 bt160.2 false))) else (stowagelaw01_GfKnown.j0 k t136 t137 t138 t145 t146 t155 t156 bt160.2 false))) else (stowagelaw01_GfKnown.j0 k t136 t137 t138 t145 t146 t155 t156 bt160.2 false)))) = some r := by first | (rw [hy157]; with_reducible exact H) | (have H2_ := (Option.bind_some _ _).symm.trans H; rw [hy157]; with_reducible exact H2_) | (have H2_ := (Option.bind_some _ _).symm.trans H; with_reducible exact H2_) | with_reducible exact H | (rw [hy157]; exact H) | exact H
  have Ny157 := Aside0.mk hy157
  clear hy157
  replace H := Option.bind_eq_some_iff.mp H
  obtain ⟨⟨t160, t161⟩, A70, H⟩ := H
  replace H : ((stowagelaw01_awake.f k).bind fun t162 => (if t162 = true then ((gf_Add.f 83 202).bind fun t163 => (if t163 = 153 then ((gf_Mul.f k 3 7).bind fun t164 => (if t164 = 9 then (if t132 = 5 then (if t133 = 3 then (stowagelaw01_GfKnown.j0 k t136 t137 t138 t145 t146 t155 t156 t161 (t134 == 0)) else (stowagelaw01_GfKnown.j0 k t136 t137 t138 t145 t146 t155 t156 t161 false)) else (stowagelaw01_GfKnown.j0 k t136 t137 t138 t145 t146 t155 t156 t161 false)) else (stowagelaw01_GfKnown.j0 k t136 t137 t138 t145 t146 t155 t156 t161 false))) else (stowagelaw01_GfKnown.j0 k t136 t137 t138 t145 t146 t155 t156 t161 false))) else (stowagelaw01_GfKnown.j0 k t136 t137 t138 t145 t146 t155 t156 t161 false))) = some r := H
  have A7 := Aside0.mk A70
  clear A70
  have HC8 := Aside0.mk H
  clear H
  go_enter Try.func5, Try.ntmps5
  go_upto_region 8 with (first | ((with_reducible refine gate_callee (f := 12) rfl ?_); refine goesL_ (some 17) rfl rfl Try.func12 (by kernel_rfl) rfl #[.int .u8 0] rfl (by (try simp only [List.map_toArray, List.map_cons, List.map_nil]); first | done | rfl | (simp only [List.length_drop, List.length_take]; rfl)) ?_; (with_reducible refine (gf_Inv.calls k 0 t131 t132 _ A1.out).mono ?_); rintro e w' ⟨rfl, ⟨nd, rfl⟩⟩; refine ⟨_, rfl, ?_⟩) | ((with_reducible refine gate_callee (f := 14) rfl ?_); refine goesL_ (some 21) rfl rfl Try.func14 (by kernel_rfl) rfl #[.int .u8 9, .int .u8 7] rfl (by (try simp only [List.map_toArray, List.map_cons, List.map_nil]); first | done | rfl | (simp only [List.length_drop, List.length_take]; rfl)) ?_; (with_reducible refine (gf_Div.calls k 9 7 t133 t134 _ A2.out).mono ?_); rintro e w' ⟨rfl, ⟨nd, rfl⟩⟩; refine ⟨_, rfl, ?_⟩) | ((with_reducible refine gate_callee (f := 16) rfl ?_); refine goesL_ (some 25) rfl rfl Try.func16 (by kernel_rfl) rfl #[.int .u8 0, .int .i64 (-1)] rfl (by (try simp only [List.map_toArray, List.map_cons, List.map_nil]); first | done | rfl | (simp only [List.length_drop, List.length_take]; rfl)) ?_; (with_reducible refine (gf_Pow.calls k 0 (-1) t135 t136 _ A3.out).mono ?_); rintro e w' ⟨rfl, ⟨nd, rfl⟩⟩; refine ⟨_, rfl, ?_⟩) | ((with_reducible refine gate_callee (f := 18) rfl ?_); refine goesL_ (some 29) rfl rfl Try.func18 (by kernel_rfl) rfl #[.int .u8 29] rfl (by (try simp only [List.map_toArray, List.map_cons, List.map_nil]); first | done | rfl | (simp only [List.length_drop, List.length_take]; rfl)) ?_; (with_reducible refine (gf_Log.calls k 29 t137 t138 _ A4.out).mono ?_); rintro e w' ⟨rfl, ⟨nd, rfl⟩⟩; refine ⟨_, rfl, ?_⟩) | ((with_reducible refine gate_dst (N := 33) rfl ?_); (try (refine gate_guard (by rfl) ?_; dsimp only)); refine Kd.R_lit (Kd.int .u8) _ 5 ?hg (N := 33) ?hd (xs := ([1, 2] : List Int)) (inner := [.int .u8 1, .int .u8 2]) (ok := fun _ => True) (okp := fun _ => True) ?hr ?hp (fun _ hk => hk) trivial (Below.refl _ _) (Nat.le_refl _) (by simp) ?_; (case hd => rfl); (case hg => rfl); (case hr => first | (go_simp; done) | (go_simp; rfl)); (case hp => exact (Reps.one (show Kd.M (Kd.int .u8) _ _ _ 1 [.int .u8 1] from rfl) (Reps.one (show Kd.M (Kd.int .u8) _ _ _ 2 [.int .u8 2] from rfl) (Reps.none _ _)))); intro v140 w9 ho10 hb hg_ hnew_; clear hg_ hnew_; (first | rw [← Ny139.out] at ho10 | (simp only [Int.reduceToNat] at ho10; rw [← Ny139.out] at ho10)); have n0_ := Aside0.mk (Kd.R_lower ho10 (below_size (by repeat (first | (with_reducible first | exact HB.out | apply below_alloc | apply pw_below_drewN | apply below_drew1) | exact HB.out)))); have n1_ := Aside0.mk (below_step (by repeat (first | (with_reducible first | exact HB.out | apply below_alloc | apply pw_below_drewN | apply below_drew1) | exact HB.out)) hb); clear HB; have HO141 := n0_; have HB := n1_; clear n0_ n1_; clear hb ho10) | ((with_reducible refine gate_dst (N := 34) rfl ?_); (try (refine gate_guard (by rfl) ?_; dsimp only)); refine Kd.R_lit (Kd.int .u8) _ 5 ?hg (N := 34) ?hd (xs := ([1, 1] : List Int)) (inner := [.int .u8 1, .int .u8 1]) (ok := fun _ => True) (okp := fun _ => True) ?hr ?hp (fun _ hk => hk) trivial (Below.refl _ _) (Nat.le_refl _) (by simp) ?_; (case hd => rfl); (case hg => rfl); (case hr => first | (go_simp; done) | (go_simp; rfl)); (case hp => exact (Reps.one (show Kd.M (Kd.int .u8) _ _ _ 1 [.int .u8 1] from rfl) (Reps.one (show Kd.M (Kd.int .u8) _ _ _ 1 [.int .u8 1] from rfl) (Reps.none _ _)))); intro v143 w11 ho12 hb hg_ hnew_; clear hg_ hnew_; (first | rw [← Ny142.out] at ho12 | (simp only [Int.reduceToNat] at ho12; rw [← Ny142.out] at ho12)); have n0_ := Aside0.mk (Kd.R_elder' (by (with_reducible repeat (first | apply Kd.R_alloc | apply Kd.R_drewN | apply Kd.R_drew)); exact HO141.out) (Kd.R_base ho12) hb); have n1_ := Aside0.mk (Kd.R_lower (Kd.R_new' ho12 (Kd.R_lt (by (with_reducible repeat (first | apply Kd.R_alloc | apply Kd.R_drewN | apply Kd.R_drew)); exact HO141.out))) (below_size (by repeat (first | (with_reducible first | exact HB.out | apply below_alloc | apply pw_below_drewN | apply below_drew1) | exact HB.out)))); have n2_ := Aside0.mk (below_step (by repeat (first | (with_reducible first | exact HB.out | apply below_alloc | apply pw_below_drewN | apply below_drew1) | exact HB.out)) hb); clear HO141; clear HB; have HO141 := n0_; have HO144 := n1_; have HB := n2_; clear n0_ n1_ n2_; clear hb ho12; obtain ⟨Ao13, co13, eo13⟩ := Kd.R_slice HO141.out; subst eo13; obtain ⟨Ao14, co14, eo14⟩ := Kd.R_slice HO144.out; subst eo14) | ((with_reducible refine gate_callee (f := 25) rfl ?_); refine goesL_ (some 35) rfl rfl Try.func25 (by kernel_rfl) rfl #[.slice Ao13 y139.length co13, .slice Ao14 y142.length co14, .int .u8 2] rfl (by (try simp only [List.map_toArray, List.map_cons, List.map_nil]); first | done | rfl | (simp only [List.length_drop, List.length_take]; rfl)) ?_; (with_reducible refine (gf_Axpy.calls k _ _ y139 _ _ y142 2 t145 t146 _ ?side1 ?side2 ?side3 ?side4 A5.out).mono ?_); (case side1 => repeat (first | exact (Kd.R_reads' HO141.out).2.2 | (with_reducible refine Kd.C_alloc ?_ _) | (with_reducible refine Kd.C_drewN ?_ _) | (with_reducible refine Kd.C_drew ?_))); (case side2 => exact (Kd.R_reads' HO141.out).2.1); (case side3 => repeat (first | exact (Kd.R_reads' HO144.out).2.2 | (with_reducible refine Kd.C_alloc ?_ _) | (with_reducible refine Kd.C_drewN ?_ _) | (with_reducible refine Kd.C_drew ?_))); (case side4 => exact (Kd.R_reads' HO144.out).2.1); rintro e w15 ⟨v147, rfl, ho0, hb⟩; refine ⟨_, rfl, ?_⟩; have n0_ := Aside0.mk (Kd.R_elder' (by (with_reducible repeat (first | apply Kd.R_alloc | apply Kd.R_drewN | apply Kd.R_drew)); exact HO141.out) (Kd.R_base ho0) hb); have n1_ := Aside0.mk (Kd.R_elder' (by (with_reducible repeat (first | apply Kd.R_alloc | apply Kd.R_drewN | apply Kd.R_drew)); exact HO144.out) (Kd.R_base ho0) hb); have n2_ := Aside0.mk (Kd.R_lower (Kd.R_new' (Kd.R_new' ho0 (Kd.R_lt (by (with_reducible repeat (first | apply Kd.R_alloc | apply Kd.R_drewN | apply Kd.R_drew)); exact HO141.out))) (Kd.R_lt (by (with_reducible repeat (first | apply Kd.R_alloc | apply Kd.R_drewN | apply Kd.R_drew)); exact HO144.out))) (below_size (by repeat (first | (with_reducible first | exact HB.out | apply below_alloc | apply pw_below_drewN | apply below_drew1) | exact HB.out)))); have n3_ := Aside0.mk (below_step (by repeat (first | (with_reducible first | exact HB.out | apply below_alloc | apply pw_below_drewN | apply below_drew1) | exact HB.out)) hb); clear HO141; clear HO144; clear HB; have HO141 := n0_; have HO144 := n1_; have HO148 := n2_; have HB := n3_; clear n0_ n1_ n2_ n3_; (try clear hb); (try clear hb2); (try clear hk); (try clear hi); (try clear ho0)) | ((with_reducible refine gate_dst (N := 39) rfl ?_); (try (refine gate_guard (by rfl) ?_; dsimp only)); refine Kd.R_lit (Kd.int .u8) _ 5 ?hg (N := 39) ?hd (xs := ([1, 2] : List Int)) (inner := [.int .u8 1, .int .u8 2]) (ok := fun _ => True) (okp := fun _ => True) ?hr ?hp (fun _ hk => hk) trivial (Below.refl _ _) (Nat.le_refl _) (by simp) ?_; (case hd => rfl); (case hg => rfl); (case hr => first | (go_simp; done) | (go_simp; rfl)); (case hp => exact (Reps.one (show Kd.M (Kd.int .u8) _ _ _ 1 [.int .u8 1] from rfl) (Reps.one (show Kd.M (Kd.int .u8) _ _ _ 2 [.int .u8 2] from rfl) (Reps.none _ _)))); intro v150 w16 ho17 hb hg_ hnew_; clear hg_ hnew_; (first | rw [← Ny149.out] at ho17 | (simp only [Int.reduceToNat] at ho17; rw [← Ny149.out] at ho17)); have n0_ := Aside0.mk (Kd.R_elder' (by (with_reducible repeat (first | apply Kd.R_alloc | apply Kd.R_drewN | apply Kd.R_drew)); exact HO141.out) (Kd.R_base ho17) hb); have n1_ := Aside0.mk (Kd.R_elder' (by (with_reducible repeat (first | apply Kd.R_alloc | apply Kd.R_drewN | apply Kd.R_drew)); exact HO144.out) (Kd.R_base ho17) hb); have n2_ := Aside0.mk (Kd.R_elder' (by (with_reducible repeat (first | apply Kd.R_alloc | apply Kd.R_drewN | apply Kd.R_drew)); exact HO148.out) (Kd.R_base ho17) hb); have n3_ := Aside0.mk (Kd.R_lower (Kd.R_new' (Kd.R_new' (Kd.R_new' ho17 (Kd.R_lt (by (with_reducible repeat (first | apply Kd.R_alloc | apply Kd.R_drewN | apply Kd.R_drew)); exact HO141.out))) (Kd.R_lt (by (with_reducible repeat (first | apply Kd.R_alloc | apply Kd.R_drewN | apply Kd.R_drew)); exact HO144.out))) (Kd.R_lt (by (with_reducible repeat (first | apply Kd.R_alloc | apply Kd.R_drewN | apply Kd.R_drew)); exact HO148.out))) (below_size (by repeat (first | (with_reducible first | exact HB.out | apply below_alloc | apply pw_below_drewN | apply below_drew1) | exact HB.out)))); have n4_ := Aside0.mk (below_step (by repeat (first | (with_reducible first | exact HB.out | apply below_alloc | apply pw_below_drewN | apply below_drew1) | exact HB.out)) hb); clear HO141; clear HO144; clear HO148; clear HB; have HO141 := n0_; have HO144 := n1_; have HO148 := n2_; have HO151 := n3_; have HB := n4_; clear n0_ n1_ n2_ n3_ n4_; clear hb ho17) | ((with_reducible refine gate_dst (N := 40) rfl ?_); (try (refine gate_guard (by rfl) ?_; dsimp only)); refine Kd.R_lit (Kd.int .u8) _ 5 ?hg (N := 40) ?hd (xs := ([3, 4] : List Int)) (inner := [.int .u8 3, .int .u8 4]) (ok := fun _ => True) (okp := fun _ => True) ?hr ?hp (fun _ hk => hk) trivial (Below.refl _ _) (Nat.le_refl _) (by simp) ?_; (case hd => rfl); (case hg => rfl); (case hr => first | (go_simp; done) | (go_simp; rfl)); (case hp => exact (Reps.one (show Kd.M (Kd.int .u8) _ _ _ 3 [.int .u8 3] from rfl) (Reps.one (show Kd.M (Kd.int .u8) _ _ _ 4 [.int .u8 4] from rfl) (Reps.none _ _)))); intro v153 w18 ho19 hb hg_ hnew_; clear hg_ hnew_; (first | rw [← Ny152.out] at ho19 | (simp only [Int.reduceToNat] at ho19; rw [← Ny152.out] at ho19)); have n0_ := Aside0.mk (Kd.R_elder' (by (with_reducible repeat (first | apply Kd.R_alloc | apply Kd.R_drewN | apply Kd.R_drew)); exact HO141.out) (Kd.R_base ho19) hb); have n1_ := Aside0.mk (Kd.R_elder' (by (with_reducible repeat (first | apply Kd.R_alloc | apply Kd.R_drewN | apply Kd.R_drew)); exact HO144.out) (Kd.R_base ho19) hb); have n2_ := Aside0.mk (Kd.R_elder' (by (with_reducible repeat (first | apply Kd.R_alloc | apply Kd.R_drewN | apply Kd.R_drew)); exact HO148.out) (Kd.R_base ho19) hb); have n3_ := Aside0.mk (Kd.R_elder' (by (with_reducible repeat (first | apply Kd.R_alloc | apply Kd.R_drewN | apply Kd.R_drew)); exact HO151.out) (Kd.R_base ho19) hb); have n4_ := Aside0.mk (Kd.R_lower (Kd.R_new' (Kd.R_new' (Kd.R_new' (Kd.R_new' ho19 (Kd.R_lt (by (with_reducible repeat (first | apply Kd.R_alloc | apply Kd.R_drewN | apply Kd.R_drew)); exact HO141.out))) (Kd.R_lt (by (with_reducible repeat (first | apply Kd.R_alloc | apply Kd.R_drewN | apply Kd.R_drew)); exact HO144.out))) (Kd.R_lt (by (with_reducible repeat (first | apply Kd.R_alloc | apply Kd.R_drewN | apply Kd.R_drew)); exact HO148.out))) (Kd.R_lt (by (with_reducible repeat (first | apply Kd.R_alloc | apply Kd.R_drewN | apply Kd.R_drew)); exact HO151.out))) (below_size (by repeat (first | (with_reducible first | exact HB.out | apply below_alloc | apply pw_below_drewN | apply below_drew1) | exact HB.out)))); have n5_ := Aside0.mk (below_step (by repeat (first | (with_reducible first | exact HB.out | apply below_alloc | apply pw_below_drewN | apply below_drew1) | exact HB.out)) hb); clear HO141; clear HO144; clear HO148; clear HO151; clear HB; have HO141 := n0_; have HO144 := n1_; have HO148 := n2_; have HO151 := n3_; have HO154 := n4_; have HB := n5_; clear n0_ n1_ n2_ n3_ n4_ n5_; clear hb ho19; obtain ⟨Ao20, co20, eo20⟩ := Kd.R_slice HO151.out; subst eo20; obtain ⟨Ao21, co21, eo21⟩ := Kd.R_slice HO154.out; subst eo21) | ((with_reducible refine gate_callee (f := 27) rfl ?_); refine goesL_ (some 41) rfl rfl Try.func27 (by kernel_rfl) rfl #[.slice Ao20 y149.length co20, .slice Ao21 y152.length co21] rfl (by (try simp only [List.map_toArray, List.map_cons, List.map_nil]); first | done | rfl | (simp only [List.length_drop, List.length_take]; rfl)) ?_; (with_reducible refine (gf_Dot.calls k _ _ y149 _ _ y152 t155 t156 _ ?side1 ?side2 ?side3 ?side4 A6.out).mono ?_); (case side1 => repeat (first | exact (Kd.R_reads' HO151.out).2.2 | (with_reducible refine Kd.C_alloc ?_ _) | (with_reducible refine Kd.C_drewN ?_ _) | (with_reducible refine Kd.C_drew ?_))); (case side2 => exact (Kd.R_reads' HO151.out).2.1); (case side3 => repeat (first | exact (Kd.R_reads' HO154.out).2.2 | (with_reducible refine Kd.C_alloc ?_ _) | (with_reducible refine Kd.C_drewN ?_ _) | (with_reducible refine Kd.C_drew ?_))); (case side4 => exact (Kd.R_reads' HO154.out).2.1); rintro e w' ⟨rfl, ⟨nd, rfl⟩⟩; refine ⟨_, rfl, ?_⟩) | ((with_reducible refine gate_dst (N := 45) rfl ?_); (try (refine gate_guard (by rfl) ?_; dsimp only)); refine Kd.R_lit (Kd.int .u8) _ 5 ?hg (N := 45) ?hd (xs := ([1] : List Int)) (inner := [.int .u8 1]) (ok := fun _ => True) (okp := fun _ => True) ?hr ?hp (fun _ hk => hk) trivial (Below.refl _ _) (Nat.le_refl _) (by simp) ?_; (case hd => rfl); (case hg => rfl); (case hr => first | (go_simp; done) | (go_simp; rfl)); (case hp => exact (Reps.one (show Kd.M (Kd.int .u8) _ _ _ 1 [.int .u8 1] from rfl) (Reps.none _ _))); intro v158 w22 ho23 hb hg_ hnew_; clear hg_ hnew_; (first | rw [← Ny157.out] at ho23 | (simp only [Int.reduceToNat] at ho23; rw [← Ny157.out] at ho23)); have n0_ := Aside0.mk (Kd.R_elder' (by (with_reducible repeat (first | apply Kd.R_alloc | apply Kd.R_drewN | apply Kd.R_drew)); exact HO141.out) (Kd.R_base ho23) hb); have n1_ := Aside0.mk (Kd.R_elder' (by (with_reducible repeat (first | apply Kd.R_alloc | apply Kd.R_drewN | apply Kd.R_drew)); exact HO144.out) (Kd.R_base ho23) hb); have n2_ := Aside0.mk (Kd.R_elder' (by (with_reducible repeat (first | apply Kd.R_alloc | apply Kd.R_drewN | apply Kd.R_drew)); exact HO148.out) (Kd.R_base ho23) hb); have n3_ := Aside0.mk (Kd.R_elder' (by (with_reducible repeat (first | apply Kd.R_alloc | apply Kd.R_drewN | apply Kd.R_drew)); exact HO151.out) (Kd.R_base ho23) hb); have n4_ := Aside0.mk (Kd.R_elder' (by (with_reducible repeat (first | apply Kd.R_alloc | apply Kd.R_drewN | apply Kd.R_drew)); exact HO154.out) (Kd.R_base ho23) hb); have n5_ := Aside0.mk (Kd.R_lower (Kd.R_new' (Kd.R_new' (Kd.R_new' (Kd.R_new' (Kd.R_new' ho23 (Kd.R_lt (by (with_reducible repeat (first | apply Kd.R_alloc | apply Kd.R_drewN | apply Kd.R_drew)); exact HO141.out))) (Kd.R_lt (by (with_reducible repeat (first | apply Kd.R_alloc | apply Kd.R_drewN | apply Kd.R_drew)); exact HO144.out))) (Kd.R_lt (by (with_reducible repeat (first | apply Kd.R_alloc | apply Kd.R_drewN | apply Kd.R_drew)); exact HO148.out))) (Kd.R_lt (by (with_reducible repeat (first | apply Kd.R_alloc | apply Kd.R_drewN | apply Kd.R_drew)); exact HO151.out))) (Kd.R_lt (by (with_reducible repeat (first | apply Kd.R_alloc | apply Kd.R_drewN | apply Kd.R_drew)); exact HO154.out))) (below_size (by repeat (first | (with_reducible first | exact HB.out | apply below_alloc | apply pw_below_drewN | apply below_drew1) | exact HB.out)))); have n6_ := Aside0.mk (below_step (by repeat (first | (with_reducible first | exact HB.out | apply below_alloc | apply pw_below_drewN | apply below_drew1) | exact HB.out)) hb); clear HO141; clear HO144; clear HO148; clear HO151; clear HO154; clear HB; have HO141 := n0_; have HO144 := n1_; have HO148 := n2_; have HO151 := n3_; have HO154 := n4_; have HO159 := n5_; have HB := n6_; clear n0_ n1_ n2_ n3_ n4_ n5_ n6_; clear hb ho23; obtain ⟨Ao24, co24, eo24⟩ := Kd.R_slice HO159.out; subst eo24) | ((with_reducible refine gate_callee (f := 27) rfl ?_); refine goesL_ (some 46) rfl rfl Try.func27 (by kernel_rfl) rfl #[.slice Ao24 y157.length co24, .slice none 0 0] rfl (by (try simp only [List.map_toArray, List.map_cons, List.map_nil]); first | done | rfl | (simp only [List.length_drop, List.length_take]; rfl)) ?_; (refine (gf_Dot.calls k _ _ y157 _ _ ([] : List Int) t160 t161 _ ?side1 ?side2 ?side3 ?side4 A7.out).mono ?_); (case side1 => repeat (first | exact (Kd.R_reads' HO159.out).2.2 | (with_reducible refine Kd.C_alloc ?_ _) | (with_reducible refine Kd.C_drewN ?_ _) | (with_reducible refine Kd.C_drew ?_))); (case side2 => exact (Kd.R_reads' HO159.out).2.1); (case side3 => exact Kd.C_nil _ _); (case side4 => exact Nat.le_refl _); rintro e w' ⟨rfl, ⟨nd, rfl⟩⟩; refine ⟨_, rfl, ?_⟩))
  (try simp only [Act.put, List.setIfInBounds_toArray, List.set_cons_zero, List.set_cons_succ])
  go_cut [15] (fun v15 wc => ∃ (kq : Nat) (x15_7 : Bool), v15 = .bool x15_7 ∧ Aside0 (stowagelaw01_GfKnown.j0 kq t136 t137 t138 t145 t146 t155 t156 t161 x15_7 = some r) ∧ Aside0 (kq ≤ k) ∧ Aside0 (Kd.R (Kd.int .u8) 5 wc w.heap.size (fun _ => True) v147 t145) ∧ Aside0 (Below w.heap.size w wc))
  case first =>
    have H := HC8.out
    clear HC8
    replace H := Option.bind_eq_some_iff.mp H
    obtain ⟨t162, A250, H⟩ := H
    replace H : (if t162 = true then ((gf_Add.f 83 202).bind fun t163 => (if t163 = 153 then ((gf_Mul.f k 3 7).bind fun t164 => (if t164 = 9 then (if t132 = 5 then (if t133 = 3 then (stowagelaw01_GfKnown.j0 k t136 t137 t138 t145 t146 t155 t156 t161 (t134 == 0)) else (stowagelaw01_GfKnown.j0 k t136 t137 t138 t145 t146 t155 t156 t161 false)) else (stowagelaw01_GfKnown.j0 k t136 t137 t138 t145 t146 t155 t156 t161 false)) else (stowagelaw01_GfKnown.j0 k t136 t137 t138 t145 t146 t155 t156 t161 false))) else (stowagelaw01_GfKnown.j0 k t136 t137 t138 t145 t146 t155 t156 t161 false))) else (stowagelaw01_GfKnown.j0 k t136 t137 t138 t145 t146 t155 t156 t161 false)) = some r := H
    have A25 := Aside0.mk A250
    clear A250
    by_cases c26 : t162 = true
    · subst c26
      have H1 : ((gf_Add.f 83 202).bind fun t163 => (if t163 = 153 then ((gf_Mul.f k 3 7).bind fun t164 => (if t164 = 9 then (if t132 = 5 then (if t133 = 3 then (stowagelaw01_GfKnown.j0 k t136 t137 t138 t145 t146 t155 t156 t161 (t134 == 0)) else (stowagelaw01_GfKnown.j0 k t136 t137 t138 t145 t146 t155 t156 t161 false)) else (stowagelaw01_GfKnown.j0 k t136 t137 t138 t145 t146 t155 t156 t161 false)) else (stowagelaw01_GfKnown.j0 k t136 t137 t138 t145 t146 t155 t156 t161 false))) else (stowagelaw01_GfKnown.j0 k t136 t137 t138 t145 t146 t155 t156 t161 false))) = some r := by rw [if_pos rfl] at H; exact H
      clear H
      have H := H1
      clear H1
      replace H := Option.bind_eq_some_iff.mp H
      obtain ⟨t163, A270, H⟩ := H
      replace H : (if t163 = 153 then ((gf_Mul.f k 3 7).bind fun t164 => (if t164 = 9 then (if t132 = 5 then (if t133 = 3 then (stowagelaw01_GfKnown.j0 k t136 t137 t138 t145 t146 t155 t156 t161 (t134 == 0)) else (stowagelaw01_GfKnown.j0 k t136 t137 t138 t145 t146 t155 t156 t161 false)) else (stowagelaw01_GfKnown.j0 k t136 t137 t138 t145 t146 t155 t156 t161 false)) else (stowagelaw01_GfKnown.j0 k t136 t137 t138 t145 t146 t155 t156 t161 false))) else (stowagelaw01_GfKnown.j0 k t136 t137 t138 t145 t146 t155 t156 t161 false)) = some r := H
      have A27 := Aside0.mk A270
      clear A270
      by_cases c28 : t163 = 153
      · rw [if_pos c28] at H
        have c28b0 : (t163 == 153) = true := beq_iff_eq.mpr c28
        have c28b1 : (t163 != 153) = false := bne_eq_false_iff_eq.mpr c28
        clear c28
        (first | rw [c28b0] | (simp only [i64_w, i32_w]; rw [c28b0]) | skip)
        replace H := Option.bind_eq_some_iff.mp H
        obtain ⟨t164, A290, H⟩ := H
        replace H : (if t164 = 9 then (if t132 = 5 then (if t133 = 3 then (stowagelaw01_GfKnown.j0 k t136 t137 t138 t145 t146 t155 t156 t161 (t134 == 0)) else (stowagelaw01_GfKnown.j0 k t136 t137 t138 t145 t146 t155 t156 t161 false)) else (stowagelaw01_GfKnown.j0 k t136 t137 t138 t145 t146 t155 t156 t161 false)) else (stowagelaw01_GfKnown.j0 k t136 t137 t138 t145 t146 t155 t156 t161 false)) = some r := H
        have A29 := Aside0.mk A290
        clear A290
        by_cases c30 : t164 = 9
        · rw [if_pos c30] at H
          have c30b0 : (t164 == 9) = true := beq_iff_eq.mpr c30
          have c30b1 : (t164 != 9) = false := bne_eq_false_iff_eq.mpr c30
          clear c30
          by_cases c31 : t132 = 5
          · rw [if_pos c31] at H
            have c31b0 : (t132 == 5) = true := beq_iff_eq.mpr c31
            have c31b1 : (t132 != 5) = false := bne_eq_false_iff_eq.mpr c31
            clear c31
            by_cases c32 : t133 = 3
            · rw [if_pos c32] at H
              have c32b0 : (t133 == 3) = true := beq_iff_eq.mpr c32
              have c32b1 : (t133 != 3) = false := bne_eq_false_iff_eq.mpr c32
              clear c32
              have H' := Aside0.mk H
              clear H
              go_wp2_with (first | ((with_reducible refine gate_callee (f := 23) rfl ?_); refine goesL_ (some 49) rfl rfl Try.func23 (by kernel_rfl) rfl #[] rfl (by (try simp only [List.map_toArray, List.map_cons, List.map_nil]); first | done | rfl | (simp only [List.length_drop, List.length_take]; rfl)) ?_; (with_reducible refine (stowagelaw01_awake.calls k  true _ A25.out).mono ?_); rintro e w' ⟨rfl, ⟨nd, rfl⟩⟩; refine ⟨_, rfl, ?_⟩) | (go_at_call 20; (with_reducible refine (gf_Add.calls 83 202 t163 _ A27.out).mono ?_); rintro e w' ⟨rfl, ⟨nd, rfl⟩⟩) | (go_at_call 21; (with_reducible refine (gf_Mul.calls k 3 7 t164 _ A29.out).mono ?_); rintro e w' ⟨rfl, ⟨nd, rfl⟩⟩))
              go_meet
              case rel => exact ⟨_, ((t134 == 0)), (by first | rfl | (simp; done) | (simp [*]; done)), H', ⟨by first | omega | exact Nat.le_refl _⟩, ⟨by (with_reducible repeat (first | apply Kd.R_alloc | apply Kd.R_drewN | apply Kd.R_drew)); exact Kd.R_mono HO148.out (fun _ hk => trivial)⟩, ⟨by repeat (first | (with_reducible first | exact HB.out | apply below_alloc | apply pw_below_drewN | apply below_drew1) | exact HB.out)⟩⟩
            · rw [if_neg c32] at H
              have c32b0 : (t133 == 3) = false := beq_eq_false_iff_ne.mpr c32
              have c32b1 : (t133 != 3) = true := bne_iff_ne.mpr c32
              have H' := Aside0.mk H
              clear H
              go_wp2_with (first | ((with_reducible refine gate_callee (f := 23) rfl ?_); refine goesL_ (some 49) rfl rfl Try.func23 (by kernel_rfl) rfl #[] rfl (by (try simp only [List.map_toArray, List.map_cons, List.map_nil]); first | done | rfl | (simp only [List.length_drop, List.length_take]; rfl)) ?_; (with_reducible refine (stowagelaw01_awake.calls k  true _ A25.out).mono ?_); rintro e w' ⟨rfl, ⟨nd, rfl⟩⟩; refine ⟨_, rfl, ?_⟩) | (go_at_call 20; (with_reducible refine (gf_Add.calls 83 202 t163 _ A27.out).mono ?_); rintro e w' ⟨rfl, ⟨nd, rfl⟩⟩) | (go_at_call 21; (with_reducible refine (gf_Mul.calls k 3 7 t164 _ A29.out).mono ?_); rintro e w' ⟨rfl, ⟨nd, rfl⟩⟩))
              go_meet
              case rel => exact ⟨_, (false), (by first | rfl | (simp; done) | (simp [*]; done)), H', ⟨by first | omega | exact Nat.le_refl _⟩, ⟨by (with_reducible repeat (first | apply Kd.R_alloc | apply Kd.R_drewN | apply Kd.R_drew)); exact Kd.R_mono HO148.out (fun _ hk => trivial)⟩, ⟨by repeat (first | (with_reducible first | exact HB.out | apply below_alloc | apply pw_below_drewN | apply below_drew1) | exact HB.out)⟩⟩
          · rw [if_neg c31] at H
            have c31b0 : (t132 == 5) = false := beq_eq_false_iff_ne.mpr c31
            have c31b1 : (t132 != 5) = true := bne_iff_ne.mpr c31
            have H' := Aside0.mk H
            clear H
            go_wp2_with (first | ((with_reducible refine gate_callee (f := 23) rfl ?_); refine goesL_ (some 49) rfl rfl Try.func23 (by kernel_rfl) rfl #[] rfl (by (try simp only [List.map_toArray, List.map_cons, List.map_nil]); first | done | rfl | (simp only [List.length_drop, List.length_take]; rfl)) ?_; (with_reducible refine (stowagelaw01_awake.calls k  true _ A25.out).mono ?_); rintro e w' ⟨rfl, ⟨nd, rfl⟩⟩; refine ⟨_, rfl, ?_⟩) | (go_at_call 20; (with_reducible refine (gf_Add.calls 83 202 t163 _ A27.out).mono ?_); rintro e w' ⟨rfl, ⟨nd, rfl⟩⟩) | (go_at_call 21; (with_reducible refine (gf_Mul.calls k 3 7 t164 _ A29.out).mono ?_); rintro e w' ⟨rfl, ⟨nd, rfl⟩⟩))
            go_meet
            case rel => exact ⟨_, (false), (by first | rfl | (simp; done) | (simp [*]; done)), H', ⟨by first | omega | exact Nat.le_refl _⟩, ⟨by (with_reducible repeat (first | apply Kd.R_alloc | apply Kd.R_drewN | apply Kd.R_drew)); exact Kd.R_mono HO148.out (fun _ hk => trivial)⟩, ⟨by repeat (first | (with_reducible first | exact HB.out | apply below_alloc | apply pw_below_drewN | apply below_drew1) | exact HB.out)⟩⟩
        · rw [if_neg c30] at H
          have c30b0 : (t164 == 9) = false := beq_eq_false_iff_ne.mpr c30
          have c30b1 : (t164 != 9) = true := bne_iff_ne.mpr c30
          have H' := Aside0.mk H
          clear H
          go_wp2_with (first | ((with_reducible refine gate_callee (f := 23) rfl ?_); refine goesL_ (some 49) rfl rfl Try.func23 (by kernel_rfl) rfl #[] rfl (by (try simp only [List.map_toArray, List.map_cons, List.map_nil]); first | done | rfl | (simp only [List.length_drop, List.length_take]; rfl)) ?_; (with_reducible refine (stowagelaw01_awake.calls k  true _ A25.out).mono ?_); rintro e w' ⟨rfl, ⟨nd, rfl⟩⟩; refine ⟨_, rfl, ?_⟩) | (go_at_call 20; (with_reducible refine (gf_Add.calls 83 202 t163 _ A27.out).mono ?_); rintro e w' ⟨rfl, ⟨nd, rfl⟩⟩) | (go_at_call 21; (with_reducible refine (gf_Mul.calls k 3 7 t164 _ A29.out).mono ?_); rintro e w' ⟨rfl, ⟨nd, rfl⟩⟩))
          go_meet
          case rel => exact ⟨_, (false), (by first | rfl | (simp; done) | (simp [*]; done)), H', ⟨by first | omega | exact Nat.le_refl _⟩, ⟨by (with_reducible repeat (first | apply Kd.R_alloc | apply Kd.R_drewN | apply Kd.R_drew)); exact Kd.R_mono HO148.out (fun _ hk => trivial)⟩, ⟨by repeat (first | (with_reducible first | exact HB.out | apply below_alloc | apply pw_below_drewN | apply below_drew1) | exact HB.out)⟩⟩
      · rw [if_neg c28] at H
        have c28b0 : (t163 == 153) = false := beq_eq_false_iff_ne.mpr c28
        have c28b1 : (t163 != 153) = true := bne_iff_ne.mpr c28
        (first | rw [c28b0] | (simp only [i64_w, i32_w]; rw [c28b0]) | skip)
        have H' := Aside0.mk H
        clear H
        go_wp2_with (first | ((with_reducible refine gate_callee (f := 23) rfl ?_); refine goesL_ (some 49) rfl rfl Try.func23 (by kernel_rfl) rfl #[] rfl (by (try simp only [List.map_toArray, List.map_cons, List.map_nil]); first | done | rfl | (simp only [List.length_drop, List.length_take]; rfl)) ?_; (with_reducible refine (stowagelaw01_awake.calls k  true _ A25.out).mono ?_); rintro e w' ⟨rfl, ⟨nd, rfl⟩⟩; refine ⟨_, rfl, ?_⟩) | (go_at_call 20; (with_reducible refine (gf_Add.calls 83 202 t163 _ A27.out).mono ?_); rintro e w' ⟨rfl, ⟨nd, rfl⟩⟩))
        go_meet
        case rel => exact ⟨_, (false), (by first | rfl | (simp; done) | (simp [*]; done)), H', ⟨by first | omega | exact Nat.le_refl _⟩, ⟨by (with_reducible repeat (first | apply Kd.R_alloc | apply Kd.R_drewN | apply Kd.R_drew)); exact Kd.R_mono HO148.out (fun _ hk => trivial)⟩, ⟨by repeat (first | (with_reducible first | exact HB.out | apply below_alloc | apply pw_below_drewN | apply below_drew1) | exact HB.out)⟩⟩
    · replace c26 := Bool.eq_false_iff.mpr c26
      subst c26
      have H1 : (stowagelaw01_GfKnown.j0 k t136 t137 t138 t145 t146 t155 t156 t161 false) = some r := by rw [if_neg (show ¬ (false = true) by decide)] at H; exact H
      clear H
      have H := H1
      clear H1
      have H' := Aside0.mk H
      clear H
      go_wp2_with (first | ((with_reducible refine gate_callee (f := 23) rfl ?_); refine goesL_ (some 49) rfl rfl Try.func23 (by kernel_rfl) rfl #[] rfl (by (try simp only [List.map_toArray, List.map_cons, List.map_nil]); first | done | rfl | (simp only [List.length_drop, List.length_take]; rfl)) ?_; (with_reducible refine (stowagelaw01_awake.calls k  false _ A25.out).mono ?_); rintro e w' ⟨rfl, ⟨nd, rfl⟩⟩; refine ⟨_, rfl, ?_⟩))
      go_meet
      case rel => exact ⟨_, (false), (by first | rfl | (simp; done) | (simp [*]; done)), H', ⟨by first | omega | exact Nat.le_refl _⟩, ⟨by (with_reducible repeat (first | apply Kd.R_alloc | apply Kd.R_drewN | apply Kd.R_drew)); exact Kd.R_mono HO148.out (fun _ hk => trivial)⟩, ⟨by repeat (first | (with_reducible first | exact HB.out | apply below_alloc | apply pw_below_drewN | apply below_drew1) | exact HB.out)⟩⟩
  case rest =>
    clear HC8
    try clear c1
    try clear c2
    try clear p2
    try clear c3
    try clear c5
    try clear c12
    try clear c14
    try clear c16
    try clear c18
    try clear c23
    try clear c25
    try clear c26
    try clear c27
    try clear c28
    try clear c28b0
    try clear c28b1
    try clear c30
    try clear c30b0
    try clear c30b1
    try clear c31
    try clear c31b0
    try clear c31b1
    try clear c32
    try clear c32b0
    try clear c32b1
    obtain ⟨kq, x15_7, rfl, HA, HJ7, HO_9, HB⟩ := hcut
    cases kq with
    | zero => exact absurd HA.out (by simp [stowagelaw01_GfKnown.j0])
    | succ kj7 =>
      have H := HA.out
      clear HA
      simp only [stowagelaw01_GfKnown.j0] at H
      by_cases c33 : x15_7 = true
      · subst c33
        have H1 : ((stowagelaw01_pow.f kj7 2 8 29).bind fun t165 => (if t165 = true then ((stowagelaw01_pow.f kj7 2 255 1).bind fun t166 => (if t166 = true then ((stowagelaw01_pow.f kj7 0 0 1).bind fun t167 => (if t167 = true then ((stowagelaw01_pow.f kj7 2 (-1) 142).bind fun t168 => (if t168 = true then (if t136 = 5 then (if t137 = 8 then (if t138 = 0 then ((stowagekit_SameBytes.f t145 (([3, 0] : List Int))).bind fun t172 => (if t172 = true then (if t146 = 0 then (if t155 = 11 then (if t156 = 0 then (some (t161 == 2)) else (some false)) else (some false)) else (some false)) else (some false))) else (some false)) else (some false)) else (some false)) else (some false))) else (some false))) else (some false))) else (some false))) = some r := by rw [if_pos rfl] at H; exact H
        clear H
        have H := H1
        clear H1
        replace H := Option.bind_eq_some_iff.mp H
        obtain ⟨t165, A340, H⟩ := H
        replace H : (if t165 = true then ((stowagelaw01_pow.f kj7 2 255 1).bind fun t166 => (if t166 = true then ((stowagelaw01_pow.f kj7 0 0 1).bind fun t167 => (if t167 = true then ((stowagelaw01_pow.f kj7 2 (-1) 142).bind fun t168 => (if t168 = true then (if t136 = 5 then (if t137 = 8 then (if t138 = 0 then ((stowagekit_SameBytes.f t145 (([3, 0] : List Int))).bind fun t172 => (if t172 = true then (if t146 = 0 then (if t155 = 11 then (if t156 = 0 then (some (t161 == 2)) else (some false)) else (some false)) else (some false)) else (some false))) else (some false)) else (some false)) else (some false)) else (some false))) else (some false))) else (some false))) else (some false)) = some r := H
        have A34 := Aside0.mk A340
        clear A340
        by_cases c35 : t165 = true
        · subst c35
          have H1 : ((stowagelaw01_pow.f kj7 2 255 1).bind fun t166 => (if t166 = true then ((stowagelaw01_pow.f kj7 0 0 1).bind fun t167 => (if t167 = true then ((stowagelaw01_pow.f kj7 2 (-1) 142).bind fun t168 => (if t168 = true then (if t136 = 5 then (if t137 = 8 then (if t138 = 0 then ((stowagekit_SameBytes.f t145 (([3, 0] : List Int))).bind fun t172 => (if t172 = true then (if t146 = 0 then (if t155 = 11 then (if t156 = 0 then (some (t161 == 2)) else (some false)) else (some false)) else (some false)) else (some false))) else (some false)) else (some false)) else (some false)) else (some false))) else (some false))) else (some false))) = some r := by rw [if_pos rfl] at H; exact H
          clear H
          have H := H1
          clear H1
          replace H := Option.bind_eq_some_iff.mp H
          obtain ⟨t166, A360, H⟩ := H
          replace H : (if t166 = true then ((stowagelaw01_pow.f kj7 0 0 1).bind fun t167 => (if t167 = true then ((stowagelaw01_pow.f kj7 2 (-1) 142).bind fun t168 => (if t168 = true then (if t136 = 5 then (if t137 = 8 then (if t138 = 0 then ((stowagekit_SameBytes.f t145 (([3, 0] : List Int))).bind fun t172 => (if t172 = true then (if t146 = 0 then (if t155 = 11 then (if t156 = 0 then (some (t161 == 2)) else (some false)) else (some false)) else (some false)) else (some false))) else (some false)) else (some false)) else (some false)) else (some false))) else (some false))) else (some false)) = some r := H
          have A36 := Aside0.mk A360
          clear A360
          by_cases c37 : t166 = true
          · subst c37
            have H1 : ((stowagelaw01_pow.f kj7 0 0 1).bind fun t167 => (if t167 = true then ((stowagelaw01_pow.f kj7 2 (-1) 142).bind fun t168 => (if t168 = true then (if t136 = 5 then (if t137 = 8 then (if t138 = 0 then ((stowagekit_SameBytes.f t145 (([3, 0] : List Int))).bind fun t172 => (if t172 = true then (if t146 = 0 then (if t155 = 11 then (if t156 = 0 then (some (t161 == 2)) else (some false)) else (some false)) else (some false)) else (some false))) else (some false)) else (some false)) else (some false)) else (some false))) else (some false))) = some r := by rw [if_pos rfl] at H; exact H
            clear H
            have H := H1
            clear H1
            replace H := Option.bind_eq_some_iff.mp H
            obtain ⟨t167, A380, H⟩ := H
            replace H : (if t167 = true then ((stowagelaw01_pow.f kj7 2 (-1) 142).bind fun t168 => (if t168 = true then (if t136 = 5 then (if t137 = 8 then (if t138 = 0 then ((stowagekit_SameBytes.f t145 (([3, 0] : List Int))).bind fun t172 => (if t172 = true then (if t146 = 0 then (if t155 = 11 then (if t156 = 0 then (some (t161 == 2)) else (some false)) else (some false)) else (some false)) else (some false))) else (some false)) else (some false)) else (some false)) else (some false))) else (some false)) = some r := H
            have A38 := Aside0.mk A380
            clear A380
            by_cases c39 : t167 = true
            · subst c39
              have H1 : ((stowagelaw01_pow.f kj7 2 (-1) 142).bind fun t168 => (if t168 = true then (if t136 = 5 then (if t137 = 8 then (if t138 = 0 then ((stowagekit_SameBytes.f t145 (([3, 0] : List Int))).bind fun t172 => (if t172 = true then (if t146 = 0 then (if t155 = 11 then (if t156 = 0 then (some (t161 == 2)) else (some false)) else (some false)) else (some false)) else (some false))) else (some false)) else (some false)) else (some false)) else (some false))) = some r := by rw [if_pos rfl] at H; exact H
              clear H
              have H := H1
              clear H1
              replace H := Option.bind_eq_some_iff.mp H
              obtain ⟨t168, A400, H⟩ := H
              replace H : (if t168 = true then (if t136 = 5 then (if t137 = 8 then (if t138 = 0 then ((stowagekit_SameBytes.f t145 (([3, 0] : List Int))).bind fun t172 => (if t172 = true then (if t146 = 0 then (if t155 = 11 then (if t156 = 0 then (some (t161 == 2)) else (some false)) else (some false)) else (some false)) else (some false))) else (some false)) else (some false)) else (some false)) else (some false)) = some r := H
              have A40 := Aside0.mk A400
              clear A400
              by_cases c41 : t168 = true
              · subst c41
                have H1 : (if t136 = 5 then (if t137 = 8 then (if t138 = 0 then ((stowagekit_SameBytes.f t145 (([3, 0] : List Int))).bind fun t172 => (if t172 = true then (if t146 = 0 then (if t155 = 11 then (if t156 = 0 then (some (t161 == 2)) else (some false)) else (some false)) else (some false)) else (some false))) else (some false)) else (some false)) else (some false)) = some r := by rw [if_pos rfl] at H; exact H
                clear H
                have H := H1
                clear H1
                by_cases c42 : t136 = 5
                · rw [if_pos c42] at H
                  have c42b0 : (t136 == 5) = true := beq_iff_eq.mpr c42
                  have c42b1 : (t136 != 5) = false := bne_eq_false_iff_eq.mpr c42
                  clear c42
                  by_cases c43 : t137 = 8
                  · rw [if_pos c43] at H
                    have c43b0 : (t137 == 8) = true := beq_iff_eq.mpr c43
                    have c43b1 : (t137 != 8) = false := bne_eq_false_iff_eq.mpr c43
                    clear c43
                    by_cases c44 : t138 = 0
                    · rw [if_pos c44] at H
                      have c44b0 : (t138 == 0) = true := beq_iff_eq.mpr c44
                      have c44b1 : (t138 != 0) = false := bne_eq_false_iff_eq.mpr c44
                      clear c44
                      obtain ⟨y169, hy169⟩ : ∃ y_ : List Int, y_ = (([3, 0] : List Int)) := ⟨_, rfl⟩
                      replace H : ((stowagekit_SameBytes.f t145 y169).bind fun t172 => (if t172 = true then (if t146 = 0 then (if t155 = 11 then (if t156 = 0 then (some (t161 == 2)) else (some false)) else (some false)) else (some false)) else (some false))) = some r := by first | (rw [hy169]; with_reducible exact H) | (have H2_ := (Option.bind_some _ _).symm.trans H; rw [hy169]; with_reducible exact H2_) | (have H2_ := (Option.bind_some _ _).symm.trans H; with_reducible exact H2_) | with_reducible exact H | (rw [hy169]; exact H) | exact H
                      have Ny169 := Aside0.mk hy169
                      clear hy169
                      replace H := Option.bind_eq_some_iff.mp H
                      obtain ⟨t172, A450, H⟩ := H
                      replace H : (if t172 = true then (if t146 = 0 then (if t155 = 11 then (if t156 = 0 then (some (t161 == 2)) else (some false)) else (some false)) else (some false)) else (some false)) = some r := H
                      have A45 := Aside0.mk A450
                      clear A450
                      by_cases c46 : t172 = true
                      · subst c46
                        have H1 : (if t146 = 0 then (if t155 = 11 then (if t156 = 0 then (some (t161 == 2)) else (some false)) else (some false)) else (some false)) = some r := by rw [if_pos rfl] at H; exact H
                        clear H
                        have H := H1
                        clear H1
                        by_cases c47 : t146 = 0
                        · rw [if_pos c47] at H
                          have c47b0 : (t146 == 0) = true := beq_iff_eq.mpr c47
                          have c47b1 : (t146 != 0) = false := bne_eq_false_iff_eq.mpr c47
                          clear c47
                          by_cases c48 : t155 = 11
                          · rw [if_pos c48] at H
                            have c48b0 : (t155 == 11) = true := beq_iff_eq.mpr c48
                            have c48b1 : (t155 != 11) = false := bne_eq_false_iff_eq.mpr c48
                            clear c48
                            by_cases c49 : t156 = 0
                            · rw [if_pos c49] at H
                              have c49b0 : (t156 == 0) = true := beq_iff_eq.mpr c49
                              have c49b1 : (t156 != 0) = false := bne_eq_false_iff_eq.mpr c49
                              clear c49
                              obtain rfl := Option.some.inj H
                              go_wp2_with (first | (go_at_call 32; (with_reducible refine (stowagelaw01_pow.calls kj7 2 8 29 true _ A34.out).mono ?_); rintro e w' ⟨rfl, ⟨nd, rfl⟩⟩) | (go_at_call 32; (with_reducible refine (stowagelaw01_pow.calls kj7 2 255 1 true _ A36.out).mono ?_); rintro e w' ⟨rfl, ⟨nd, rfl⟩⟩) | (go_at_call 32; (with_reducible refine (stowagelaw01_pow.calls kj7 0 0 1 true _ A38.out).mono ?_); rintro e w' ⟨rfl, ⟨nd, rfl⟩⟩) | (go_at_call 32; (with_reducible refine (stowagelaw01_pow.calls kj7 2 (-1) 142 true _ A40.out).mono ?_); rintro e w' ⟨rfl, ⟨nd, rfl⟩⟩) | ((with_reducible refine gate_dst (N := 97) rfl ?_); (try (refine gate_guard (by rfl) ?_; dsimp only)); refine Kd.R_lit (Kd.int .u8) _ 5 ?hg (N := 97) ?hd (xs := ([3, 0] : List Int)) (inner := [.int .u8 3, .int .u8 0]) (ok := fun _ => True) (okp := fun _ => True) ?hr ?hp (fun _ hk => hk) trivial (Below.refl _ _) (Nat.le_refl _) (by simp) ?_; (case hd => rfl); (case hg => rfl); (case hr => first | (go_simp; done) | (go_simp; rfl)); (case hp => exact (Reps.one (show Kd.M (Kd.int .u8) _ _ _ 3 [.int .u8 3] from rfl) (Reps.one (show Kd.M (Kd.int .u8) _ _ _ 0 [.int .u8 0] from rfl) (Reps.none _ _)))); intro v170 w50 ho51 hb hg_ hnew_; clear hg_ hnew_; (first | rw [← Ny169.out] at ho51 | (simp only [Int.reduceToNat] at ho51; rw [← Ny169.out] at ho51)); have n0_ := Aside0.mk (Kd.R_elder' (by (with_reducible repeat (first | apply Kd.R_alloc | apply Kd.R_drewN | apply Kd.R_drew)); exact HO_9.out) (Kd.R_base ho51) hb); have n1_ := Aside0.mk (Kd.R_lower (Kd.R_new' ho51 (Kd.R_lt (by (with_reducible repeat (first | apply Kd.R_alloc | apply Kd.R_drewN | apply Kd.R_drew)); exact HO_9.out))) (below_size (by repeat (first | (with_reducible first | exact HB.out | apply below_alloc | apply pw_below_drewN | apply below_drew1) | exact HB.out)))); have n2_ := Aside0.mk (below_step (by repeat (first | (with_reducible first | exact HB.out | apply below_alloc | apply pw_below_drewN | apply below_drew1) | exact HB.out)) hb); clear HO_9; clear HB; have HO_9 := n0_; have HO171 := n1_; have HB := n2_; clear n0_ n1_ n2_; clear hb ho51; obtain ⟨Ao52, co52, eo52⟩ := Kd.R_slice HO_9.out; subst eo52; obtain ⟨Ao53, co53, eo53⟩ := Kd.R_slice HO171.out; subst eo53) | (go_at_call 29; (with_reducible refine (stowagekit_SameBytes.calls _ _ t145 _ _ y169 true _ ?side1 ?side2 ?side3 ?side4 A45.out).mono ?_); (case side1 => repeat (first | exact (Kd.R_reads' HO_9.out).2.2 | (with_reducible refine Kd.C_alloc ?_ _) | (with_reducible refine Kd.C_drewN ?_ _) | (with_reducible refine Kd.C_drew ?_))); (case side2 => exact (Kd.R_reads' HO_9.out).2.1); (case side3 => repeat (first | exact (Kd.R_reads' HO171.out).2.2 | (with_reducible refine Kd.C_alloc ?_ _) | (with_reducible refine Kd.C_drewN ?_ _) | (with_reducible refine Kd.C_drew ?_))); (case side4 => exact (Kd.R_reads' HO171.out).2.1); rintro e w' ⟨rfl, ⟨nd, rfl⟩⟩))
                              go_ret
                              exact ⟨by first | rfl | (simp [errW_none, errW_some] <;> rfl) | (simp [*, errW_none, errW_some] <;> rfl), by repeat (first | (with_reducible first | exact HB.out | apply below_alloc | apply pw_below_drewN | apply below_drew1) | exact HB.out)⟩
                            · rw [if_neg c49] at H
                              have c49b0 : (t156 == 0) = false := beq_eq_false_iff_ne.mpr c49
                              have c49b1 : (t156 != 0) = true := bne_iff_ne.mpr c49
                              obtain rfl := Option.some.inj H
                              go_wp2_with (first | (go_at_call 32; (with_reducible refine (stowagelaw01_pow.calls kj7 2 8 29 true _ A34.out).mono ?_); rintro e w' ⟨rfl, ⟨nd, rfl⟩⟩) | (go_at_call 32; (with_reducible refine (stowagelaw01_pow.calls kj7 2 255 1 true _ A36.out).mono ?_); rintro e w' ⟨rfl, ⟨nd, rfl⟩⟩) | (go_at_call 32; (with_reducible refine (stowagelaw01_pow.calls kj7 0 0 1 true _ A38.out).mono ?_); rintro e w' ⟨rfl, ⟨nd, rfl⟩⟩) | (go_at_call 32; (with_reducible refine (stowagelaw01_pow.calls kj7 2 (-1) 142 true _ A40.out).mono ?_); rintro e w' ⟨rfl, ⟨nd, rfl⟩⟩) | ((with_reducible refine gate_dst (N := 97) rfl ?_); (try (refine gate_guard (by rfl) ?_; dsimp only)); refine Kd.R_lit (Kd.int .u8) _ 5 ?hg (N := 97) ?hd (xs := ([3, 0] : List Int)) (inner := [.int .u8 3, .int .u8 0]) (ok := fun _ => True) (okp := fun _ => True) ?hr ?hp (fun _ hk => hk) trivial (Below.refl _ _) (Nat.le_refl _) (by simp) ?_; (case hd => rfl); (case hg => rfl); (case hr => first | (go_simp; done) | (go_simp; rfl)); (case hp => exact (Reps.one (show Kd.M (Kd.int .u8) _ _ _ 3 [.int .u8 3] from rfl) (Reps.one (show Kd.M (Kd.int .u8) _ _ _ 0 [.int .u8 0] from rfl) (Reps.none _ _)))); intro v170 w54 ho55 hb hg_ hnew_; clear hg_ hnew_; (first | rw [← Ny169.out] at ho55 | (simp only [Int.reduceToNat] at ho55; rw [← Ny169.out] at ho55)); have n0_ := Aside0.mk (Kd.R_elder' (by (with_reducible repeat (first | apply Kd.R_alloc | apply Kd.R_drewN | apply Kd.R_drew)); exact HO_9.out) (Kd.R_base ho55) hb); have n1_ := Aside0.mk (Kd.R_lower (Kd.R_new' ho55 (Kd.R_lt (by (with_reducible repeat (first | apply Kd.R_alloc | apply Kd.R_drewN | apply Kd.R_drew)); exact HO_9.out))) (below_size (by repeat (first | (with_reducible first | exact HB.out | apply below_alloc | apply pw_below_drewN | apply below_drew1) | exact HB.out)))); have n2_ := Aside0.mk (below_step (by repeat (first | (with_reducible first | exact HB.out | apply below_alloc | apply pw_below_drewN | apply below_drew1) | exact HB.out)) hb); clear HO_9; clear HB; have HO_9 := n0_; have HO171 := n1_; have HB := n2_; clear n0_ n1_ n2_; clear hb ho55; obtain ⟨Ao56, co56, eo56⟩ := Kd.R_slice HO_9.out; subst eo56; obtain ⟨Ao57, co57, eo57⟩ := Kd.R_slice HO171.out; subst eo57) | (go_at_call 29; (with_reducible refine (stowagekit_SameBytes.calls _ _ t145 _ _ y169 true _ ?side1 ?side2 ?side3 ?side4 A45.out).mono ?_); (case side1 => repeat (first | exact (Kd.R_reads' HO_9.out).2.2 | (with_reducible refine Kd.C_alloc ?_ _) | (with_reducible refine Kd.C_drewN ?_ _) | (with_reducible refine Kd.C_drew ?_))); (case side2 => exact (Kd.R_reads' HO_9.out).2.1); (case side3 => repeat (first | exact (Kd.R_reads' HO171.out).2.2 | (with_reducible refine Kd.C_alloc ?_ _) | (with_reducible refine Kd.C_drewN ?_ _) | (with_reducible refine Kd.C_drew ?_))); (case side4 => exact (Kd.R_reads' HO171.out).2.1); rintro e w' ⟨rfl, ⟨nd, rfl⟩⟩))
                              go_ret
                              exact ⟨by first | rfl | (simp [errW_none, errW_some] <;> rfl) | (simp [*, errW_none, errW_some] <;> rfl), by repeat (first | (with_reducible first | exact HB.out | apply below_alloc | apply pw_below_drewN | apply below_drew1) | exact HB.out)⟩
                          · rw [if_neg c48] at H
                            have c48b0 : (t155 == 11) = false := beq_eq_false_iff_ne.mpr c48
                            have c48b1 : (t155 != 11) = true := bne_iff_ne.mpr c48
                            obtain rfl := Option.some.inj H
                            go_wp2_with (first | (go_at_call 32; (with_reducible refine (stowagelaw01_pow.calls kj7 2 8 29 true _ A34.out).mono ?_); rintro e w' ⟨rfl, ⟨nd, rfl⟩⟩) | (go_at_call 32; (with_reducible refine (stowagelaw01_pow.calls kj7 2 255 1 true _ A36.out).mono ?_); rintro e w' ⟨rfl, ⟨nd, rfl⟩⟩) | (go_at_call 32; (with_reducible refine (stowagelaw01_pow.calls kj7 0 0 1 true _ A38.out).mono ?_); rintro e w' ⟨rfl, ⟨nd, rfl⟩⟩) | (go_at_call 32; (with_reducible refine (stowagelaw01_pow.calls kj7 2 (-1) 142 true _ A40.out).mono ?_); rintro e w' ⟨rfl, ⟨nd, rfl⟩⟩) | ((with_reducible refine gate_dst (N := 97) rfl ?_); (try (refine gate_guard (by rfl) ?_; dsimp only)); refine Kd.R_lit (Kd.int .u8) _ 5 ?hg (N := 97) ?hd (xs := ([3, 0] : List Int)) (inner := [.int .u8 3, .int .u8 0]) (ok := fun _ => True) (okp := fun _ => True) ?hr ?hp (fun _ hk => hk) trivial (Below.refl _ _) (Nat.le_refl _) (by simp) ?_; (case hd => rfl); (case hg => rfl); (case hr => first | (go_simp; done) | (go_simp; rfl)); (case hp => exact (Reps.one (show Kd.M (Kd.int .u8) _ _ _ 3 [.int .u8 3] from rfl) (Reps.one (show Kd.M (Kd.int .u8) _ _ _ 0 [.int .u8 0] from rfl) (Reps.none _ _)))); intro v170 w58 ho59 hb hg_ hnew_; clear hg_ hnew_; (first | rw [← Ny169.out] at ho59 | (simp only [Int.reduceToNat] at ho59; rw [← Ny169.out] at ho59)); have n0_ := Aside0.mk (Kd.R_elder' (by (with_reducible repeat (first | apply Kd.R_alloc | apply Kd.R_drewN | apply Kd.R_drew)); exact HO_9.out) (Kd.R_base ho59) hb); have n1_ := Aside0.mk (Kd.R_lower (Kd.R_new' ho59 (Kd.R_lt (by (with_reducible repeat (first | apply Kd.R_alloc | apply Kd.R_drewN | apply Kd.R_drew)); exact HO_9.out))) (below_size (by repeat (first | (with_reducible first | exact HB.out | apply below_alloc | apply pw_below_drewN | apply below_drew1) | exact HB.out)))); have n2_ := Aside0.mk (below_step (by repeat (first | (with_reducible first | exact HB.out | apply below_alloc | apply pw_below_drewN | apply below_drew1) | exact HB.out)) hb); clear HO_9; clear HB; have HO_9 := n0_; have HO171 := n1_; have HB := n2_; clear n0_ n1_ n2_; clear hb ho59; obtain ⟨Ao60, co60, eo60⟩ := Kd.R_slice HO_9.out; subst eo60; obtain ⟨Ao61, co61, eo61⟩ := Kd.R_slice HO171.out; subst eo61) | (go_at_call 29; (with_reducible refine (stowagekit_SameBytes.calls _ _ t145 _ _ y169 true _ ?side1 ?side2 ?side3 ?side4 A45.out).mono ?_); (case side1 => repeat (first | exact (Kd.R_reads' HO_9.out).2.2 | (with_reducible refine Kd.C_alloc ?_ _) | (with_reducible refine Kd.C_drewN ?_ _) | (with_reducible refine Kd.C_drew ?_))); (case side2 => exact (Kd.R_reads' HO_9.out).2.1); (case side3 => repeat (first | exact (Kd.R_reads' HO171.out).2.2 | (with_reducible refine Kd.C_alloc ?_ _) | (with_reducible refine Kd.C_drewN ?_ _) | (with_reducible refine Kd.C_drew ?_))); (case side4 => exact (Kd.R_reads' HO171.out).2.1); rintro e w' ⟨rfl, ⟨nd, rfl⟩⟩))
                            go_ret
                            exact ⟨by first | rfl | (simp [errW_none, errW_some] <;> rfl) | (simp [*, errW_none, errW_some] <;> rfl), by repeat (first | (with_reducible first | exact HB.out | apply below_alloc | apply pw_below_drewN | apply below_drew1) | exact HB.out)⟩
                        · rw [if_neg c47] at H
                          have c47b0 : (t146 == 0) = false := beq_eq_false_iff_ne.mpr c47
                          have c47b1 : (t146 != 0) = true := bne_iff_ne.mpr c47
                          obtain rfl := Option.some.inj H
                          go_wp2_with (first | (go_at_call 32; (with_reducible refine (stowagelaw01_pow.calls kj7 2 8 29 true _ A34.out).mono ?_); rintro e w' ⟨rfl, ⟨nd, rfl⟩⟩) | (go_at_call 32; (with_reducible refine (stowagelaw01_pow.calls kj7 2 255 1 true _ A36.out).mono ?_); rintro e w' ⟨rfl, ⟨nd, rfl⟩⟩) | (go_at_call 32; (with_reducible refine (stowagelaw01_pow.calls kj7 0 0 1 true _ A38.out).mono ?_); rintro e w' ⟨rfl, ⟨nd, rfl⟩⟩) | (go_at_call 32; (with_reducible refine (stowagelaw01_pow.calls kj7 2 (-1) 142 true _ A40.out).mono ?_); rintro e w' ⟨rfl, ⟨nd, rfl⟩⟩) | ((with_reducible refine gate_dst (N := 97) rfl ?_); (try (refine gate_guard (by rfl) ?_; dsimp only)); refine Kd.R_lit (Kd.int .u8) _ 5 ?hg (N := 97) ?hd (xs := ([3, 0] : List Int)) (inner := [.int .u8 3, .int .u8 0]) (ok := fun _ => True) (okp := fun _ => True) ?hr ?hp (fun _ hk => hk) trivial (Below.refl _ _) (Nat.le_refl _) (by simp) ?_; (case hd => rfl); (case hg => rfl); (case hr => first | (go_simp; done) | (go_simp; rfl)); (case hp => exact (Reps.one (show Kd.M (Kd.int .u8) _ _ _ 3 [.int .u8 3] from rfl) (Reps.one (show Kd.M (Kd.int .u8) _ _ _ 0 [.int .u8 0] from rfl) (Reps.none _ _)))); intro v170 w62 ho63 hb hg_ hnew_; clear hg_ hnew_; (first | rw [← Ny169.out] at ho63 | (simp only [Int.reduceToNat] at ho63; rw [← Ny169.out] at ho63)); have n0_ := Aside0.mk (Kd.R_elder' (by (with_reducible repeat (first | apply Kd.R_alloc | apply Kd.R_drewN | apply Kd.R_drew)); exact HO_9.out) (Kd.R_base ho63) hb); have n1_ := Aside0.mk (Kd.R_lower (Kd.R_new' ho63 (Kd.R_lt (by (with_reducible repeat (first | apply Kd.R_alloc | apply Kd.R_drewN | apply Kd.R_drew)); exact HO_9.out))) (below_size (by repeat (first | (with_reducible first | exact HB.out | apply below_alloc | apply pw_below_drewN | apply below_drew1) | exact HB.out)))); have n2_ := Aside0.mk (below_step (by repeat (first | (with_reducible first | exact HB.out | apply below_alloc | apply pw_below_drewN | apply below_drew1) | exact HB.out)) hb); clear HO_9; clear HB; have HO_9 := n0_; have HO171 := n1_; have HB := n2_; clear n0_ n1_ n2_; clear hb ho63; obtain ⟨Ao64, co64, eo64⟩ := Kd.R_slice HO_9.out; subst eo64; obtain ⟨Ao65, co65, eo65⟩ := Kd.R_slice HO171.out; subst eo65) | (go_at_call 29; (with_reducible refine (stowagekit_SameBytes.calls _ _ t145 _ _ y169 true _ ?side1 ?side2 ?side3 ?side4 A45.out).mono ?_); (case side1 => repeat (first | exact (Kd.R_reads' HO_9.out).2.2 | (with_reducible refine Kd.C_alloc ?_ _) | (with_reducible refine Kd.C_drewN ?_ _) | (with_reducible refine Kd.C_drew ?_))); (case side2 => exact (Kd.R_reads' HO_9.out).2.1); (case side3 => repeat (first | exact (Kd.R_reads' HO171.out).2.2 | (with_reducible refine Kd.C_alloc ?_ _) | (with_reducible refine Kd.C_drewN ?_ _) | (with_reducible refine Kd.C_drew ?_))); (case side4 => exact (Kd.R_reads' HO171.out).2.1); rintro e w' ⟨rfl, ⟨nd, rfl⟩⟩))
                          go_ret
                          exact ⟨by first | rfl | (simp [errW_none, errW_some] <;> rfl) | (simp [*, errW_none, errW_some] <;> rfl), by repeat (first | (with_reducible first | exact HB.out | apply below_alloc | apply pw_below_drewN | apply below_drew1) | exact HB.out)⟩
                      · replace c46 := Bool.eq_false_iff.mpr c46
                        subst c46
                        have H1 : (some false) = some r := by rw [if_neg (show ¬ (false = true) by decide)] at H; exact H
                        clear H
                        have H := H1
                        clear H1
                        obtain rfl := Option.some.inj H
                        go_wp2_with (first | (go_at_call 32; (with_reducible refine (stowagelaw01_pow.calls kj7 2 8 29 true _ A34.out).mono ?_); rintro e w' ⟨rfl, ⟨nd, rfl⟩⟩) | (go_at_call 32; (with_reducible refine (stowagelaw01_pow.calls kj7 2 255 1 true _ A36.out).mono ?_); rintro e w' ⟨rfl, ⟨nd, rfl⟩⟩) | (go_at_call 32; (with_reducible refine (stowagelaw01_pow.calls kj7 0 0 1 true _ A38.out).mono ?_); rintro e w' ⟨rfl, ⟨nd, rfl⟩⟩) | (go_at_call 32; (with_reducible refine (stowagelaw01_pow.calls kj7 2 (-1) 142 true _ A40.out).mono ?_); rintro e w' ⟨rfl, ⟨nd, rfl⟩⟩) | ((with_reducible refine gate_dst (N := 97) rfl ?_); (try (refine gate_guard (by rfl) ?_; dsimp only)); refine Kd.R_lit (Kd.int .u8) _ 5 ?hg (N := 97) ?hd (xs := ([3, 0] : List Int)) (inner := [.int .u8 3, .int .u8 0]) (ok := fun _ => True) (okp := fun _ => True) ?hr ?hp (fun _ hk => hk) trivial (Below.refl _ _) (Nat.le_refl _) (by simp) ?_; (case hd => rfl); (case hg => rfl); (case hr => first | (go_simp; done) | (go_simp; rfl)); (case hp => exact (Reps.one (show Kd.M (Kd.int .u8) _ _ _ 3 [.int .u8 3] from rfl) (Reps.one (show Kd.M (Kd.int .u8) _ _ _ 0 [.int .u8 0] from rfl) (Reps.none _ _)))); intro v170 w66 ho67 hb hg_ hnew_; clear hg_ hnew_; (first | rw [← Ny169.out] at ho67 | (simp only [Int.reduceToNat] at ho67; rw [← Ny169.out] at ho67)); have n0_ := Aside0.mk (Kd.R_elder' (by (with_reducible repeat (first | apply Kd.R_alloc | apply Kd.R_drewN | apply Kd.R_drew)); exact HO_9.out) (Kd.R_base ho67) hb); have n1_ := Aside0.mk (Kd.R_lower (Kd.R_new' ho67 (Kd.R_lt (by (with_reducible repeat (first | apply Kd.R_alloc | apply Kd.R_drewN | apply Kd.R_drew)); exact HO_9.out))) (below_size (by repeat (first | (with_reducible first | exact HB.out | apply below_alloc | apply pw_below_drewN | apply below_drew1) | exact HB.out)))); have n2_ := Aside0.mk (below_step (by repeat (first | (with_reducible first | exact HB.out | apply below_alloc | apply pw_below_drewN | apply below_drew1) | exact HB.out)) hb); clear HO_9; clear HB; have HO_9 := n0_; have HO171 := n1_; have HB := n2_; clear n0_ n1_ n2_; clear hb ho67; obtain ⟨Ao68, co68, eo68⟩ := Kd.R_slice HO_9.out; subst eo68; obtain ⟨Ao69, co69, eo69⟩ := Kd.R_slice HO171.out; subst eo69) | (go_at_call 29; (with_reducible refine (stowagekit_SameBytes.calls _ _ t145 _ _ y169 false _ ?side1 ?side2 ?side3 ?side4 A45.out).mono ?_); (case side1 => repeat (first | exact (Kd.R_reads' HO_9.out).2.2 | (with_reducible refine Kd.C_alloc ?_ _) | (with_reducible refine Kd.C_drewN ?_ _) | (with_reducible refine Kd.C_drew ?_))); (case side2 => exact (Kd.R_reads' HO_9.out).2.1); (case side3 => repeat (first | exact (Kd.R_reads' HO171.out).2.2 | (with_reducible refine Kd.C_alloc ?_ _) | (with_reducible refine Kd.C_drewN ?_ _) | (with_reducible refine Kd.C_drew ?_))); (case side4 => exact (Kd.R_reads' HO171.out).2.1); rintro e w' ⟨rfl, ⟨nd, rfl⟩⟩))
                        go_ret
                        exact ⟨by first | rfl | (simp [errW_none, errW_some] <;> rfl) | (simp [*, errW_none, errW_some] <;> rfl), by repeat (first | (with_reducible first | exact HB.out | apply below_alloc | apply pw_below_drewN | apply below_drew1) | exact HB.out)⟩
                    · rw [if_neg c44] at H
                      have c44b0 : (t138 == 0) = false := beq_eq_false_iff_ne.mpr c44
                      have c44b1 : (t138 != 0) = true := bne_iff_ne.mpr c44
                      obtain rfl := Option.some.inj H
                      go_wp2_with (first | (go_at_call 32; (with_reducible refine (stowagelaw01_pow.calls kj7 2 8 29 true _ A34.out).mono ?_); rintro e w' ⟨rfl, ⟨nd, rfl⟩⟩) | (go_at_call 32; (with_reducible refine (stowagelaw01_pow.calls kj7 2 255 1 true _ A36.out).mono ?_); rintro e w' ⟨rfl, ⟨nd, rfl⟩⟩) | (go_at_call 32; (with_reducible refine (stowagelaw01_pow.calls kj7 0 0 1 true _ A38.out).mono ?_); rintro e w' ⟨rfl, ⟨nd, rfl⟩⟩) | (go_at_call 32; (with_reducible refine (stowagelaw01_pow.calls kj7 2 (-1) 142 true _ A40.out).mono ?_); rintro e w' ⟨rfl, ⟨nd, rfl⟩⟩))
                      go_ret
                      exact ⟨by first | rfl | (simp [errW_none, errW_some] <;> rfl) | (simp [*, errW_none, errW_some] <;> rfl), by repeat (first | (with_reducible first | exact HB.out | apply below_alloc | apply pw_below_drewN | apply below_drew1) | exact HB.out)⟩
                  · rw [if_neg c43] at H
                    have c43b0 : (t137 == 8) = false := beq_eq_false_iff_ne.mpr c43
                    have c43b1 : (t137 != 8) = true := bne_iff_ne.mpr c43
                    obtain rfl := Option.some.inj H
                    go_wp2_with (first | (go_at_call 32; (with_reducible refine (stowagelaw01_pow.calls kj7 2 8 29 true _ A34.out).mono ?_); rintro e w' ⟨rfl, ⟨nd, rfl⟩⟩) | (go_at_call 32; (with_reducible refine (stowagelaw01_pow.calls kj7 2 255 1 true _ A36.out).mono ?_); rintro e w' ⟨rfl, ⟨nd, rfl⟩⟩) | (go_at_call 32; (with_reducible refine (stowagelaw01_pow.calls kj7 0 0 1 true _ A38.out).mono ?_); rintro e w' ⟨rfl, ⟨nd, rfl⟩⟩) | (go_at_call 32; (with_reducible refine (stowagelaw01_pow.calls kj7 2 (-1) 142 true _ A40.out).mono ?_); rintro e w' ⟨rfl, ⟨nd, rfl⟩⟩))
                    go_ret
                    exact ⟨by first | rfl | (simp [errW_none, errW_some] <;> rfl) | (simp [*, errW_none, errW_some] <;> rfl), by repeat (first | (with_reducible first | exact HB.out | apply below_alloc | apply pw_below_drewN | apply below_drew1) | exact HB.out)⟩
                · rw [if_neg c42] at H
                  have c42b0 : (t136 == 5) = false := beq_eq_false_iff_ne.mpr c42
                  have c42b1 : (t136 != 5) = true := bne_iff_ne.mpr c42
                  obtain rfl := Option.some.inj H
                  go_wp2_with (first | (go_at_call 32; (with_reducible refine (stowagelaw01_pow.calls kj7 2 8 29 true _ A34.out).mono ?_); rintro e w' ⟨rfl, ⟨nd, rfl⟩⟩) | (go_at_call 32; (with_reducible refine (stowagelaw01_pow.calls kj7 2 255 1 true _ A36.out).mono ?_); rintro e w' ⟨rfl, ⟨nd, rfl⟩⟩) | (go_at_call 32; (with_reducible refine (stowagelaw01_pow.calls kj7 0 0 1 true _ A38.out).mono ?_); rintro e w' ⟨rfl, ⟨nd, rfl⟩⟩) | (go_at_call 32; (with_reducible refine (stowagelaw01_pow.calls kj7 2 (-1) 142 true _ A40.out).mono ?_); rintro e w' ⟨rfl, ⟨nd, rfl⟩⟩))
                  go_ret
                  exact ⟨by first | rfl | (simp [errW_none, errW_some] <;> rfl) | (simp [*, errW_none, errW_some] <;> rfl), by repeat (first | (with_reducible first | exact HB.out | apply below_alloc | apply pw_below_drewN | apply below_drew1) | exact HB.out)⟩
              · replace c41 := Bool.eq_false_iff.mpr c41
                subst c41
                have H1 : (some false) = some r := by rw [if_neg (show ¬ (false = true) by decide)] at H; exact H
                clear H
                have H := H1
                clear H1
                obtain rfl := Option.some.inj H
                go_wp2_with (first | (go_at_call 32; (with_reducible refine (stowagelaw01_pow.calls kj7 2 8 29 true _ A34.out).mono ?_); rintro e w' ⟨rfl, ⟨nd, rfl⟩⟩) | (go_at_call 32; (with_reducible refine (stowagelaw01_pow.calls kj7 2 255 1 true _ A36.out).mono ?_); rintro e w' ⟨rfl, ⟨nd, rfl⟩⟩) | (go_at_call 32; (with_reducible refine (stowagelaw01_pow.calls kj7 0 0 1 true _ A38.out).mono ?_); rintro e w' ⟨rfl, ⟨nd, rfl⟩⟩) | (go_at_call 32; (with_reducible refine (stowagelaw01_pow.calls kj7 2 (-1) 142 false _ A40.out).mono ?_); rintro e w' ⟨rfl, ⟨nd, rfl⟩⟩))
                go_ret
                exact ⟨by first | rfl | (simp [errW_none, errW_some] <;> rfl) | (simp [*, errW_none, errW_some] <;> rfl), by repeat (first | (with_reducible first | exact HB.out | apply below_alloc | apply pw_below_drewN | apply below_drew1) | exact HB.out)⟩
            · replace c39 := Bool.eq_false_iff.mpr c39
              subst c39
              have H1 : (some false) = some r := by rw [if_neg (show ¬ (false = true) by decide)] at H; exact H
              clear H
              have H := H1
              clear H1
              obtain rfl := Option.some.inj H
              go_wp2_with (first | (go_at_call 32; (with_reducible refine (stowagelaw01_pow.calls kj7 2 8 29 true _ A34.out).mono ?_); rintro e w' ⟨rfl, ⟨nd, rfl⟩⟩) | (go_at_call 32; (with_reducible refine (stowagelaw01_pow.calls kj7 2 255 1 true _ A36.out).mono ?_); rintro e w' ⟨rfl, ⟨nd, rfl⟩⟩) | (go_at_call 32; (with_reducible refine (stowagelaw01_pow.calls kj7 0 0 1 false _ A38.out).mono ?_); rintro e w' ⟨rfl, ⟨nd, rfl⟩⟩))
              go_ret
              exact ⟨by first | rfl | (simp [errW_none, errW_some] <;> rfl) | (simp [*, errW_none, errW_some] <;> rfl), by repeat (first | (with_reducible first | exact HB.out | apply below_alloc | apply pw_below_drewN | apply below_drew1) | exact HB.out)⟩
          · replace c37 := Bool.eq_false_iff.mpr c37
            subst c37
            have H1 : (some false) = some r := by rw [if_neg (show ¬ (false = true) by decide)] at H; exact H
            clear H
            have H := H1
            clear H1
            obtain rfl := Option.some.inj H
            go_wp2_with (first | (go_at_call 32; (with_reducible refine (stowagelaw01_pow.calls kj7 2 8 29 true _ A34.out).mono ?_); rintro e w' ⟨rfl, ⟨nd, rfl⟩⟩) | (go_at_call 32; (with_reducible refine (stowagelaw01_pow.calls kj7 2 255 1 false _ A36.out).mono ?_); rintro e w' ⟨rfl, ⟨nd, rfl⟩⟩))
            go_ret
            exact ⟨by first | rfl | (simp [errW_none, errW_some] <;> rfl) | (simp [*, errW_none, errW_some] <;> rfl), by repeat (first | (with_reducible first | exact HB.out | apply below_alloc | apply pw_below_drewN | apply below_drew1) | exact HB.out)⟩
        · replace c35 := Bool.eq_false_iff.mpr c35
          subst c35
          have H1 : (some false) = some r := by rw [if_neg (show ¬ (false = true) by decide)] at H; exact H
          clear H
          have H := H1
          clear H1
          obtain rfl := Option.some.inj H
          go_wp2_with (first | (go_at_call 32; (with_reducible refine (stowagelaw01_pow.calls kj7 2 8 29 false _ A34.out).mono ?_); rintro e w' ⟨rfl, ⟨nd, rfl⟩⟩))
          go_ret
          exact ⟨by first | rfl | (simp [errW_none, errW_some] <;> rfl) | (simp [*, errW_none, errW_some] <;> rfl), by repeat (first | (with_reducible first | exact HB.out | apply below_alloc | apply pw_below_drewN | apply below_drew1) | exact HB.out)⟩
      · replace c33 := Bool.eq_false_iff.mpr c33
        subst c33
        have H1 : (some false) = some r := by rw [if_neg (show ¬ (false = true) by decide)] at H; exact H
        clear H
        have H := H1
        clear H1
        obtain rfl := Option.some.inj H
        go_wp2
        go_ret
        exact ⟨by first | rfl | (simp [errW_none, errW_some] <;> rfl) | (simp [*, errW_none, errW_some] <;> rfl), by repeat (first | (with_reducible first | exact HB.out | apply below_alloc | apply pw_below_drewN | apply below_drew1) | exact HB.out)⟩

/-- THE ONE PURE STATEMENT of stowagelaw01_GfKnown: yours. -/
def stowagelaw01_GfKnown.Pure : Prop := ∃ k, stowagelaw01_GfKnown.f k  = some true
theorem stowagelaw01_GfKnown.walk (P : stowagelaw01_GfKnown.Pure)  (w : World)  :
    Calls Try.prog 5 #[] w fun e w' => e = .returned (.bool true) ∧ Below w.heap.size w w' := by
  obtain ⟨k, h⟩ := P  
  refine (stowagelaw01_GfKnown.calls k  true w h).mono ?_
  rintro e w' ⟨rfl, hd⟩
  exact ⟨rfl, hd⟩

end Go.Proofs.Ytpogicakpgpkcaa.PGfKnown
