/- Began as a printed text (YtpogicakpgpkcaaPGfFieldx3); the walks of gf.Axpy and gf.Dot turned by hand: the laws of a field. -/
import Derived.Test.YtpogicakpgpkcaaPGfFieldx0
import Derived.Test.YtpogicakpgpkcaaPGfFieldx1
import Derived.Test.YtpogicakpgpkcaaHGfFieldx2
namespace Go.Proofs.Ytpogicakpgpkcaa.PGfField
open Go.RowKit Go.Proofs.YtpogicakpgpkcaaW.PrintWords Go.Proofs.YtpogicakpgpkcaaW.PrintLast Go.Proofs.YtpogicakpgpkcaaW.PrintMore
attribute [local go_sem] max2_int min2_int max_two min_two max_three min_three max_four min_four   -- for this text's walks alone
set_option linter.unusedVariables false
set_option linter.unusedSimpArgs false

/-! ### stowagelaw01_GfField: function 6 -/
mutual
def stowagelaw01_GfField.j0 : Nat → Int → Int → Int → Bool → Bool → Option (Bool)
  | 0, _, _, _, _, _ => none
  | k + 1, x0, x1, x2, x7, x8 => (gf_Mul.f k x0 x1).bind fun t182 => ((gf_Mul.f k x1 x0).bind fun t183 => (if t182 = t183 then ((gf_Mul.f k x0 x1).bind fun t184 => ((gf_Mul.f k t184 x2).bind fun t185 => ((gf_Mul.f k x1 x2).bind fun t186 => ((gf_Mul.f k x0 t186).bind fun t187 => (if t185 = t187 then ((gf_Mul.f k x0 1).bind fun t188 => (if t188 = x0 then ((gf_Mul.f k x0 0).bind fun t189 => (stowagelaw01_GfField.j1 k x0 x1 x2 x7 x8 (t189 == 0))) else (stowagelaw01_GfField.j1 k x0 x1 x2 x7 x8 false))) else (stowagelaw01_GfField.j1 k x0 x1 x2 x7 x8 false)))))) else (stowagelaw01_GfField.j1 k x0 x1 x2 x7 x8 false)))
def stowagelaw01_GfField.j1 : Nat → Int → Int → Int → Bool → Bool → Bool → Option (Bool)
  | 0, _, _, _, _, _, _ => none
  | k + 1, x0, x1, x2, x7, x8, x9 => if x8 = true then (if x9 = true then ((gf_Add.f x1 x2).bind fun t190 => ((gf_Mul.f k x0 t190).bind fun t191 => ((gf_Mul.f k x0 x1).bind fun t192 => ((gf_Mul.f k x0 x2).bind fun t193 => ((gf_Add.f t192 t193).bind fun t194 => (stowagelaw01_GfField.j2 k x0 x1 x7 (t191 != t194))))))) else (stowagelaw01_GfField.j2 k x0 x1 x7 true)) else (stowagelaw01_GfField.j2 k x0 x1 x7 true)
def stowagelaw01_GfField.j2 : Nat → Int → Int → Bool → Bool → Option (Bool)
  | 0, _, _, _, _ => none
  | k + 1, x0, x1, x7, x98 => if x98 = true then (some false) else ((gf_Div.f k x0 x1).bind fun bt195 => ((gf_Inv.f k x1).bind fun bt197 => (if x1 = 0 then (if x7 = true then (if bt195.2 = 5 then (some (bt197.2 == 5)) else (some false)) else (some false)) else (if x7 = true then (if bt195.2 = 0 then (if bt197.2 = 0 then ((gf_Mul.f k bt195.1 x1).bind fun t199 => (if t199 = x0 then ((gf_Mul.f k bt197.1 x1).bind fun t200 => (some (t200 == 1))) else (some false))) else (some false)) else (some false)) else (some false)))))
end
def stowagelaw01_GfField.f (k : Nat) (a0 : Int) (a1 : Int) (a2 : Int) : Option (Bool) := (stowagelaw01_GfKnown.f k).bind fun t173 => ((gf_Add.f a0 a1).bind fun t174 => ((gf_Add.f a1 a0).bind fun t175 => (if t174 = t175 then ((gf_Add.f a0 a1).bind fun t176 => ((gf_Add.f t176 a2).bind fun t177 => ((gf_Add.f a1 a2).bind fun t178 => ((gf_Add.f a0 t178).bind fun t179 => (if t177 = t179 then ((gf_Add.f a0 0).bind fun t180 => (if t180 = a0 then ((gf_Add.f a0 a0).bind fun t181 => (stowagelaw01_GfField.j0 k a0 a1 a2 t173 (t181 == 0))) else (stowagelaw01_GfField.j0 k a0 a1 a2 t173 false))) else (stowagelaw01_GfField.j0 k a0 a1 a2 t173 false)))))) else (stowagelaw01_GfField.j0 k a0 a1 a2 t173 false))))
theorem stowagelaw01_GfField.mono_l : ∀ k, (∀ y0 y1 y2 y3 y4, LeO (stowagelaw01_GfField.j0 k y0 y1 y2 y3 y4) (stowagelaw01_GfField.j0 (k + 1) y0 y1 y2 y3 y4)) ∧ (∀ y0 y1 y2 y3 y4 y5, LeO (stowagelaw01_GfField.j1 k y0 y1 y2 y3 y4 y5) (stowagelaw01_GfField.j1 (k + 1) y0 y1 y2 y3 y4 y5)) ∧ (∀ y0 y1 y2 y3, LeO (stowagelaw01_GfField.j2 k y0 y1 y2 y3) (stowagelaw01_GfField.j2 (k + 1) y0 y1 y2 y3))
  | 0 => ⟨fun _ _ _ _ _ r h => by simp [stowagelaw01_GfField.j0] at h, fun _ _ _ _ _ _ r h => by simp [stowagelaw01_GfField.j1] at h, fun _ _ _ _ r h => by simp [stowagelaw01_GfField.j2] at h⟩
  | k + 1 => by
    obtain ⟨ih0, ih1, ih2⟩ := stowagelaw01_GfField.mono_l k
    refine ⟨?_, ?_, ?_⟩
    · intro y0 y1 y2 y3 y4
      unfold stowagelaw01_GfField.j0
      repeat' first
      | (with_reducible exact ih0 _ _ _ _ _)
      | (with_reducible exact ih1 _ _ _ _ _ _)
      | (with_reducible exact ih2 _ _ _ _)
      | (with_reducible exact gf_Div.mono _ _ _)
      | (with_reducible exact gf_Inv.mono _ _)
      | (with_reducible exact gf_Mul.mono _ _ _)
      | (with_reducible exact stowagelaw01_GfKnown.mono _)
      | (with_reducible exact LeO.refl _)
      | (with_reducible exact LeO.none _)
      | (with_reducible refine LeO.ite ?_ ?_)
      | (with_reducible refine LeO.bind ?_ (fun _ => ?_))
      | exact ih0 _ _ _ _ _
      | exact ih1 _ _ _ _ _ _
      | exact ih2 _ _ _ _
      | exact gf_Div.mono _ _ _
      | exact gf_Inv.mono _ _
      | exact gf_Mul.mono _ _ _
      | exact stowagelaw01_GfKnown.mono _
      | exact LeO.none _
      | refine LeO.ite ?_ ?_
      | refine LeO.bind ?_ (fun _ => ?_)
    · intro y0 y1 y2 y3 y4 y5
      unfold stowagelaw01_GfField.j1
      repeat' first
      | (with_reducible exact ih0 _ _ _ _ _)
      | (with_reducible exact ih1 _ _ _ _ _ _)
      | (with_reducible exact ih2 _ _ _ _)
      | (with_reducible exact gf_Div.mono _ _ _)
      | (with_reducible exact gf_Inv.mono _ _)
      | (with_reducible exact gf_Mul.mono _ _ _)
      | (with_reducible exact stowagelaw01_GfKnown.mono _)
      | (with_reducible exact LeO.refl _)
      | (with_reducible exact LeO.none _)
      | (with_reducible refine LeO.ite ?_ ?_)
      | (with_reducible refine LeO.bind ?_ (fun _ => ?_))
      | exact ih0 _ _ _ _ _
      | exact ih1 _ _ _ _ _ _
      | exact ih2 _ _ _ _
      | exact gf_Div.mono _ _ _
      | exact gf_Inv.mono _ _
      | exact gf_Mul.mono _ _ _
      | exact stowagelaw01_GfKnown.mono _
      | exact LeO.none _
      | refine LeO.ite ?_ ?_
      | refine LeO.bind ?_ (fun _ => ?_)
    · intro y0 y1 y2 y3
      unfold stowagelaw01_GfField.j2
      repeat' first
      | (with_reducible exact ih0 _ _ _ _ _)
      | (with_reducible exact ih1 _ _ _ _ _ _)
      | (with_reducible exact ih2 _ _ _ _)
      | (with_reducible exact gf_Div.mono _ _ _)
      | (with_reducible exact gf_Inv.mono _ _)
      | (with_reducible exact gf_Mul.mono _ _ _)
      | (with_reducible exact stowagelaw01_GfKnown.mono _)
      | (with_reducible exact LeO.refl _)
      | (with_reducible exact LeO.none _)
      | (with_reducible refine LeO.ite ?_ ?_)
      | (with_reducible refine LeO.bind ?_ (fun _ => ?_))
      | exact ih0 _ _ _ _ _
      | exact ih1 _ _ _ _ _ _
      | exact ih2 _ _ _ _
      | exact gf_Div.mono _ _ _
      | exact gf_Inv.mono _ _
      | exact gf_Mul.mono _ _ _
      | exact stowagelaw01_GfKnown.mono _
      | exact LeO.none _
      | refine LeO.ite ?_ ?_
      | refine LeO.bind ?_ (fun _ => ?_)
theorem stowagelaw01_GfField.mono : ∀ a0 a1 a2 k, LeO (stowagelaw01_GfField.f k a0 a1 a2) (stowagelaw01_GfField.f (k + 1) a0 a1 a2) := by
  intro a0 a1 a2 k
  obtain ⟨ih0, ih1, ih2⟩ := stowagelaw01_GfField.mono_l k
  unfold stowagelaw01_GfField.f
  repeat' first
      | (with_reducible exact ih0 _ _ _ _ _)
      | (with_reducible exact ih1 _ _ _ _ _ _)
      | (with_reducible exact ih2 _ _ _ _)
      | (with_reducible exact gf_Div.mono _ _ _)
      | (with_reducible exact gf_Inv.mono _ _)
      | (with_reducible exact gf_Mul.mono _ _ _)
      | (with_reducible exact stowagelaw01_GfKnown.mono _)
      | (with_reducible exact LeO.refl _)
      | (with_reducible exact LeO.none _)
      | (with_reducible refine LeO.ite ?_ ?_)
      | (with_reducible refine LeO.bind ?_ (fun _ => ?_))
      | exact ih0 _ _ _ _ _
      | exact ih1 _ _ _ _ _ _
      | exact ih2 _ _ _ _
      | exact gf_Div.mono _ _ _
      | exact gf_Inv.mono _ _
      | exact gf_Mul.mono _ _ _
      | exact stowagelaw01_GfKnown.mono _
      | exact LeO.none _
      | refine LeO.ite ?_ ?_
      | refine LeO.bind ?_ (fun _ => ?_)
set_option maxHeartbeats 8000000 in
set_option maxRecDepth 100000 in
theorem stowagelaw01_GfField.calls (k : Nat) (a0 : Int) (a1 : Int) (a2 : Int) (r : Bool) (w : World) (h : stowagelaw01_GfField.f k a0 a1 a2 = some r) :
    Calls Try.prog 6 #[.int .u8 a0, .int .u8 a1, .int .u8 a2] w fun e w' => e = .returned (.bool r) ∧ Below w.heap.size w w' := by
  have HB := Aside0.mk (Below.refl w.heap.size w)
  have H : ((stowagelaw01_GfKnown.f k).bind fun t173 => ((gf_Add.f a0 a1).bind fun t174 => ((gf_Add.f a1 a0).bind fun t175 => (if t174 = t175 then ((gf_Add.f a0 a1).bind fun t176 => ((gf_Add.f t176 a2).bind fun t177 => ((gf_Add.f a1 a2).bind fun t178 => ((gf_Add.f a0 t178).bind fun t179 => (if t177 = t179 then ((gf_Add.f a0 0).bind fun t180 => (if t180 = a0 then ((gf_Add.f a0 a0).bind fun t181 => (stowagelaw01_GfField.j0 k a0 a1 a2 t173 (t181 == 0))) else (stowagelaw01_GfField.j0 k a0 a1 a2 t173 false))) else (stowagelaw01_GfField.j0 k a0 a1 a2 t173 false)))))) else (stowagelaw01_GfField.j0 k a0 a1 a2 t173 false))))) = some r := h
  clear h
  replace H := Option.bind_eq_some_iff.mp H
  obtain ⟨t173, A40, H⟩ := H
  replace H : ((gf_Add.f a0 a1).bind fun t174 => ((gf_Add.f a1 a0).bind fun t175 => (if t174 = t175 then ((gf_Add.f a0 a1).bind fun t176 => ((gf_Add.f t176 a2).bind fun t177 => ((gf_Add.f a1 a2).bind fun t178 => ((gf_Add.f a0 t178).bind fun t179 => (if t177 = t179 then ((gf_Add.f a0 0).bind fun t180 => (if t180 = a0 then ((gf_Add.f a0 a0).bind fun t181 => (stowagelaw01_GfField.j0 k a0 a1 a2 t173 (t181 == 0))) else (stowagelaw01_GfField.j0 k a0 a1 a2 t173 false))) else (stowagelaw01_GfField.j0 k a0 a1 a2 t173 false)))))) else (stowagelaw01_GfField.j0 k a0 a1 a2 t173 false)))) = some r := H
  have A4 := Aside0.mk A40
  clear A40
  have HC5 := Aside0.mk H
  clear H
  go_enter Try.func6, Try.ntmps6
  go_upto_region 2 with (first | ((with_reducible refine gate_callee (f := 5) rfl ?_); refine goesL_ (some 14) rfl rfl Try.func5 (by kernel_rfl) rfl #[] rfl (by (try simp only [List.map_toArray, List.map_cons, List.map_nil]); first | done | rfl | (simp only [List.length_drop, List.length_take]; rfl)) ?_; (with_reducible refine (stowagelaw01_GfKnown.calls k  t173 _ A4.out).mono ?_); rintro e w6 ⟨rfl, hb⟩; refine ⟨_, rfl, ?_⟩; have n0_ := Aside0.mk (below_step (by repeat (first | (with_reducible first | exact HB.out | apply below_alloc | apply pw_below_drewN | apply below_drew1) | exact HB.out)) hb); clear HB; have HB := n0_; clear n0_; (try clear hb); (try clear hb2); (try clear hk); (try clear hi)))
  (try simp only [Act.put, List.setIfInBounds_toArray, List.set_cons_zero, List.set_cons_succ])
  go_cut [8] (fun v8 wc => ∃ (kq : Nat) (x8_4 : Bool), v8 = .bool x8_4 ∧ Aside0 (stowagelaw01_GfField.j0 kq a0 a1 a2 t173 x8_4 = some r) ∧ Aside0 (kq ≤ k) ∧ Aside0 (Below w.heap.size w wc))
  case first =>
    have H := HC5.out
    clear HC5
    replace H := Option.bind_eq_some_iff.mp H
    obtain ⟨t174, A70, H⟩ := H
    replace H : ((gf_Add.f a1 a0).bind fun t175 => (if t174 = t175 then ((gf_Add.f a0 a1).bind fun t176 => ((gf_Add.f t176 a2).bind fun t177 => ((gf_Add.f a1 a2).bind fun t178 => ((gf_Add.f a0 t178).bind fun t179 => (if t177 = t179 then ((gf_Add.f a0 0).bind fun t180 => (if t180 = a0 then ((gf_Add.f a0 a0).bind fun t181 => (stowagelaw01_GfField.j0 k a0 a1 a2 t173 (t181 == 0))) else (stowagelaw01_GfField.j0 k a0 a1 a2 t173 false))) else (stowagelaw01_GfField.j0 k a0 a1 a2 t173 false)))))) else (stowagelaw01_GfField.j0 k a0 a1 a2 t173 false))) = some r := H
    have A7 := Aside0.mk A70
    clear A70
    replace H := Option.bind_eq_some_iff.mp H
    obtain ⟨t175, A80, H⟩ := H
    replace H : (if t174 = t175 then ((gf_Add.f a0 a1).bind fun t176 => ((gf_Add.f t176 a2).bind fun t177 => ((gf_Add.f a1 a2).bind fun t178 => ((gf_Add.f a0 t178).bind fun t179 => (if t177 = t179 then ((gf_Add.f a0 0).bind fun t180 => (if t180 = a0 then ((gf_Add.f a0 a0).bind fun t181 => (stowagelaw01_GfField.j0 k a0 a1 a2 t173 (t181 == 0))) else (stowagelaw01_GfField.j0 k a0 a1 a2 t173 false))) else (stowagelaw01_GfField.j0 k a0 a1 a2 t173 false)))))) else (stowagelaw01_GfField.j0 k a0 a1 a2 t173 false)) = some r := H
    have A8 := Aside0.mk A80
    clear A80
    by_cases c9 : t174 = t175
    · rw [if_pos c9] at H
      have c9b0 : (t174 == t175) = true := beq_iff_eq.mpr c9
      have c9b1 : (t174 != t175) = false := bne_eq_false_iff_eq.mpr c9
      clear c9
      (first | rw [c9b0] | (simp only [i64_w, i32_w]; rw [c9b0]) | skip)
      replace H := Option.bind_eq_some_iff.mp H
      obtain ⟨t176, A100, H⟩ := H
      replace H : ((gf_Add.f t176 a2).bind fun t177 => ((gf_Add.f a1 a2).bind fun t178 => ((gf_Add.f a0 t178).bind fun t179 => (if t177 = t179 then ((gf_Add.f a0 0).bind fun t180 => (if t180 = a0 then ((gf_Add.f a0 a0).bind fun t181 => (stowagelaw01_GfField.j0 k a0 a1 a2 t173 (t181 == 0))) else (stowagelaw01_GfField.j0 k a0 a1 a2 t173 false))) else (stowagelaw01_GfField.j0 k a0 a1 a2 t173 false))))) = some r := H
      have A10 := Aside0.mk A100
      clear A100
      replace H := Option.bind_eq_some_iff.mp H
      obtain ⟨t177, A110, H⟩ := H
      replace H : ((gf_Add.f a1 a2).bind fun t178 => ((gf_Add.f a0 t178).bind fun t179 => (if t177 = t179 then ((gf_Add.f a0 0).bind fun t180 => (if t180 = a0 then ((gf_Add.f a0 a0).bind fun t181 => (stowagelaw01_GfField.j0 k a0 a1 a2 t173 (t181 == 0))) else (stowagelaw01_GfField.j0 k a0 a1 a2 t173 false))) else (stowagelaw01_GfField.j0 k a0 a1 a2 t173 false)))) = some r := H
      have A11 := Aside0.mk A110
      clear A110
      replace H := Option.bind_eq_some_iff.mp H
      obtain ⟨t178, A120, H⟩ := H
      replace H : ((gf_Add.f a0 t178).bind fun t179 => (if t177 = t179 then ((gf_Add.f a0 0).bind fun t180 => (if t180 = a0 then ((gf_Add.f a0 a0).bind fun t181 => (stowagelaw01_GfField.j0 k a0 a1 a2 t173 (t181 == 0))) else (stowagelaw01_GfField.j0 k a0 a1 a2 t173 false))) else (stowagelaw01_GfField.j0 k a0 a1 a2 t173 false))) = some r := H
      have A12 := Aside0.mk A120
      clear A120
      replace H := Option.bind_eq_some_iff.mp H
      obtain ⟨t179, A130, H⟩ := H
      replace H : (if t177 = t179 then ((gf_Add.f a0 0).bind fun t180 => (if t180 = a0 then ((gf_Add.f a0 a0).bind fun t181 => (stowagelaw01_GfField.j0 k a0 a1 a2 t173 (t181 == 0))) else (stowagelaw01_GfField.j0 k a0 a1 a2 t173 false))) else (stowagelaw01_GfField.j0 k a0 a1 a2 t173 false)) = some r := H
      have A13 := Aside0.mk A130
      clear A130
      by_cases c14 : t177 = t179
      · rw [if_pos c14] at H
        have c14b0 : (t177 == t179) = true := beq_iff_eq.mpr c14
        have c14b1 : (t177 != t179) = false := bne_eq_false_iff_eq.mpr c14
        clear c14
        replace H := Option.bind_eq_some_iff.mp H
        obtain ⟨t180, A150, H⟩ := H
        replace H : (if t180 = a0 then ((gf_Add.f a0 a0).bind fun t181 => (stowagelaw01_GfField.j0 k a0 a1 a2 t173 (t181 == 0))) else (stowagelaw01_GfField.j0 k a0 a1 a2 t173 false)) = some r := H
        have A15 := Aside0.mk A150
        clear A150
        by_cases c16 : t180 = a0
        · rw [if_pos c16] at H
          have c16b0 : (t180 == a0) = true := beq_iff_eq.mpr c16
          have c16b1 : (t180 != a0) = false := bne_eq_false_iff_eq.mpr c16
          clear c16
          replace H := Option.bind_eq_some_iff.mp H
          obtain ⟨t181, A170, H⟩ := H
          replace H : (stowagelaw01_GfField.j0 k a0 a1 a2 t173 (t181 == 0)) = some r := H
          have A17 := Aside0.mk A170
          clear A170
          have H' := Aside0.mk H
          clear H
          go_wp2_with (first | ((with_reducible refine gate_callee (f := 20) rfl ?_); refine goesL_ (some 17) rfl rfl Try.func20 (by kernel_rfl) rfl #[.int .u8 a0, .int .u8 a1] rfl (by (try simp only [List.map_toArray, List.map_cons, List.map_nil]); first | done | rfl | (simp only [List.length_drop, List.length_take]; rfl)) ?_; (with_reducible refine (gf_Add.calls a0 a1 t174 _ A7.out).mono ?_); rintro e w' ⟨rfl, ⟨nd, rfl⟩⟩; refine ⟨_, rfl, ?_⟩) | ((with_reducible refine gate_callee (f := 20) rfl ?_); refine goesL_ (some 20) rfl rfl Try.func20 (by kernel_rfl) rfl #[.int .u8 a1, .int .u8 a0] rfl (by (try simp only [List.map_toArray, List.map_cons, List.map_nil]); first | done | rfl | (simp only [List.length_drop, List.length_take]; rfl)) ?_; (with_reducible refine (gf_Add.calls a1 a0 t175 _ A8.out).mono ?_); rintro e w' ⟨rfl, ⟨nd, rfl⟩⟩; refine ⟨_, rfl, ?_⟩) | (go_at_call 20; (with_reducible refine (gf_Add.calls a0 a1 t176 _ A10.out).mono ?_); rintro e w' ⟨rfl, ⟨nd, rfl⟩⟩) | (go_at_call 20; (with_reducible refine (gf_Add.calls t176 a2 t177 _ A11.out).mono ?_); rintro e w' ⟨rfl, ⟨nd, rfl⟩⟩) | (go_at_call 20; (with_reducible refine (gf_Add.calls a1 a2 t178 _ A12.out).mono ?_); rintro e w' ⟨rfl, ⟨nd, rfl⟩⟩) | (go_at_call 20; (with_reducible refine (gf_Add.calls a0 t178 t179 _ A13.out).mono ?_); rintro e w' ⟨rfl, ⟨nd, rfl⟩⟩) | (go_at_call 20; (with_reducible refine (gf_Add.calls a0 0 t180 _ A15.out).mono ?_); rintro e w' ⟨rfl, ⟨nd, rfl⟩⟩) | (go_at_call 20; (with_reducible refine (gf_Add.calls a0 a0 t181 _ A17.out).mono ?_); rintro e w' ⟨rfl, ⟨nd, rfl⟩⟩))
          go_meet
          case rel => exact ⟨_, ((t181 == 0)), (by first | rfl | (simp; done) | (simp [*]; done)), H', ⟨by first | omega | exact Nat.le_refl _⟩, ⟨by repeat (first | (with_reducible first | exact HB.out | apply below_alloc | apply pw_below_drewN | apply below_drew1) | exact HB.out)⟩⟩
        · rw [if_neg c16] at H
          have c16b0 : (t180 == a0) = false := beq_eq_false_iff_ne.mpr c16
          have c16b1 : (t180 != a0) = true := bne_iff_ne.mpr c16
          have H' := Aside0.mk H
          clear H
          go_wp2_with (first | ((with_reducible refine gate_callee (f := 20) rfl ?_); refine goesL_ (some 17) rfl rfl Try.func20 (by kernel_rfl) rfl #[.int .u8 a0, .int .u8 a1] rfl (by (try simp only [List.map_toArray, List.map_cons, List.map_nil]); first | done | rfl | (simp only [List.length_drop, List.length_take]; rfl)) ?_; (with_reducible refine (gf_Add.calls a0 a1 t174 _ A7.out).mono ?_); rintro e w' ⟨rfl, ⟨nd, rfl⟩⟩; refine ⟨_, rfl, ?_⟩) | ((with_reducible refine gate_callee (f := 20) rfl ?_); refine goesL_ (some 20) rfl rfl Try.func20 (by kernel_rfl) rfl #[.int .u8 a1, .int .u8 a0] rfl (by (try simp only [List.map_toArray, List.map_cons, List.map_nil]); first | done | rfl | (simp only [List.length_drop, List.length_take]; rfl)) ?_; (with_reducible refine (gf_Add.calls a1 a0 t175 _ A8.out).mono ?_); rintro e w' ⟨rfl, ⟨nd, rfl⟩⟩; refine ⟨_, rfl, ?_⟩) | (go_at_call 20; (with_reducible refine (gf_Add.calls a0 a1 t176 _ A10.out).mono ?_); rintro e w' ⟨rfl, ⟨nd, rfl⟩⟩) | (go_at_call 20; (with_reducible refine (gf_Add.calls t176 a2 t177 _ A11.out).mono ?_); rintro e w' ⟨rfl, ⟨nd, rfl⟩⟩) | (go_at_call 20; (with_reducible refine (gf_Add.calls a1 a2 t178 _ A12.out).mono ?_); rintro e w' ⟨rfl, ⟨nd, rfl⟩⟩) | (go_at_call 20; (with_reducible refine (gf_Add.calls a0 t178 t179 _ A13.out).mono ?_); rintro e w' ⟨rfl, ⟨nd, rfl⟩⟩) | (go_at_call 20; (with_reducible refine (gf_Add.calls a0 0 t180 _ A15.out).mono ?_); rintro e w' ⟨rfl, ⟨nd, rfl⟩⟩))
          go_meet
          case rel => exact ⟨_, (false), (by first | rfl | (simp; done) | (simp [*]; done)), H', ⟨by first | omega | exact Nat.le_refl _⟩, ⟨by repeat (first | (with_reducible first | exact HB.out | apply below_alloc | apply pw_below_drewN | apply below_drew1) | exact HB.out)⟩⟩
      · rw [if_neg c14] at H
        have c14b0 : (t177 == t179) = false := beq_eq_false_iff_ne.mpr c14
        have c14b1 : (t177 != t179) = true := bne_iff_ne.mpr c14
        have H' := Aside0.mk H
        clear H
        go_wp2_with (first | ((with_reducible refine gate_callee (f := 20) rfl ?_); refine goesL_ (some 17) rfl rfl Try.func20 (by kernel_rfl) rfl #[.int .u8 a0, .int .u8 a1] rfl (by (try simp only [List.map_toArray, List.map_cons, List.map_nil]); first | done | rfl | (simp only [List.length_drop, List.length_take]; rfl)) ?_; (with_reducible refine (gf_Add.calls a0 a1 t174 _ A7.out).mono ?_); rintro e w' ⟨rfl, ⟨nd, rfl⟩⟩; refine ⟨_, rfl, ?_⟩) | ((with_reducible refine gate_callee (f := 20) rfl ?_); refine goesL_ (some 20) rfl rfl Try.func20 (by kernel_rfl) rfl #[.int .u8 a1, .int .u8 a0] rfl (by (try simp only [List.map_toArray, List.map_cons, List.map_nil]); first | done | rfl | (simp only [List.length_drop, List.length_take]; rfl)) ?_; (with_reducible refine (gf_Add.calls a1 a0 t175 _ A8.out).mono ?_); rintro e w' ⟨rfl, ⟨nd, rfl⟩⟩; refine ⟨_, rfl, ?_⟩) | (go_at_call 20; (with_reducible refine (gf_Add.calls a0 a1 t176 _ A10.out).mono ?_); rintro e w' ⟨rfl, ⟨nd, rfl⟩⟩) | (go_at_call 20; (with_reducible refine (gf_Add.calls t176 a2 t177 _ A11.out).mono ?_); rintro e w' ⟨rfl, ⟨nd, rfl⟩⟩) | (go_at_call 20; (with_reducible refine (gf_Add.calls a1 a2 t178 _ A12.out).mono ?_); rintro e w' ⟨rfl, ⟨nd, rfl⟩⟩) | (go_at_call 20; (with_reducible refine (gf_Add.calls a0 t178 t179 _ A13.out).mono ?_); rintro e w' ⟨rfl, ⟨nd, rfl⟩⟩))
        go_meet
        case rel => exact ⟨_, (false), (by first | rfl | (simp; done) | (simp [*]; done)), H', ⟨by first | omega | exact Nat.le_refl _⟩, ⟨by repeat (first | (with_reducible first | exact HB.out | apply below_alloc | apply pw_below_drewN | apply below_drew1) | exact HB.out)⟩⟩
    · rw [if_neg c9] at H
      have c9b0 : (t174 == t175) = false := beq_eq_false_iff_ne.mpr c9
      have c9b1 : (t174 != t175) = true := bne_iff_ne.mpr c9
      (first | rw [c9b0] | (simp only [i64_w, i32_w]; rw [c9b0]) | skip)
      have H' := Aside0.mk H
      clear H
      go_wp2_with (first | ((with_reducible refine gate_callee (f := 20) rfl ?_); refine goesL_ (some 17) rfl rfl Try.func20 (by kernel_rfl) rfl #[.int .u8 a0, .int .u8 a1] rfl (by (try simp only [List.map_toArray, List.map_cons, List.map_nil]); first | done | rfl | (simp only [List.length_drop, List.length_take]; rfl)) ?_; (with_reducible refine (gf_Add.calls a0 a1 t174 _ A7.out).mono ?_); rintro e w' ⟨rfl, ⟨nd, rfl⟩⟩; refine ⟨_, rfl, ?_⟩) | ((with_reducible refine gate_callee (f := 20) rfl ?_); refine goesL_ (some 20) rfl rfl Try.func20 (by kernel_rfl) rfl #[.int .u8 a1, .int .u8 a0] rfl (by (try simp only [List.map_toArray, List.map_cons, List.map_nil]); first | done | rfl | (simp only [List.length_drop, List.length_take]; rfl)) ?_; (with_reducible refine (gf_Add.calls a1 a0 t175 _ A8.out).mono ?_); rintro e w' ⟨rfl, ⟨nd, rfl⟩⟩; refine ⟨_, rfl, ?_⟩))
      go_meet
      case rel => exact ⟨_, (false), (by first | rfl | (simp; done) | (simp [*]; done)), H', ⟨by first | omega | exact Nat.le_refl _⟩, ⟨by repeat (first | (with_reducible first | exact HB.out | apply below_alloc | apply pw_below_drewN | apply below_drew1) | exact HB.out)⟩⟩
  case rest =>
    clear HC5
    try clear c1
    try clear c2
    try clear p2
    try clear c5
    try clear c6
    try clear c9
    try clear c9b0
    try clear c9b1
    try clear c14
    try clear c14b0
    try clear c14b1
    try clear c16
    try clear c16b0
    try clear c16b1
    obtain ⟨kq, x8_4, rfl, HA, HJ4, HB⟩ := hcut
    cases kq with
    | zero => exact absurd HA.out (by simp [stowagelaw01_GfField.j0])
    | succ kj4 =>
      have H := HA.out
      clear HA
      simp only [stowagelaw01_GfField.j0] at H
      have HC18 := Aside0.mk H
      clear H
      go_upto_region 3 with (fail)
      go_cut [9] (fun v9 wc => ∃ (kq : Nat) (x9_17 : Bool), v9 = .bool x9_17 ∧ Aside0 (stowagelaw01_GfField.j1 kq a0 a1 a2 t173 x8_4 x9_17 = some r) ∧ Aside0 (kq ≤ kj4) ∧ Aside0 (Below w.heap.size w wc))
      case first =>
        have H := HC18.out
        clear HC18
        replace H := Option.bind_eq_some_iff.mp H
        obtain ⟨t182, A190, H⟩ := H
        replace H : ((gf_Mul.f kj4 a1 a0).bind fun t183 => (if t182 = t183 then ((gf_Mul.f kj4 a0 a1).bind fun t184 => ((gf_Mul.f kj4 t184 a2).bind fun t185 => ((gf_Mul.f kj4 a1 a2).bind fun t186 => ((gf_Mul.f kj4 a0 t186).bind fun t187 => (if t185 = t187 then ((gf_Mul.f kj4 a0 1).bind fun t188 => (if t188 = a0 then ((gf_Mul.f kj4 a0 0).bind fun t189 => (stowagelaw01_GfField.j1 kj4 a0 a1 a2 t173 x8_4 (t189 == 0))) else (stowagelaw01_GfField.j1 kj4 a0 a1 a2 t173 x8_4 false))) else (stowagelaw01_GfField.j1 kj4 a0 a1 a2 t173 x8_4 false)))))) else (stowagelaw01_GfField.j1 kj4 a0 a1 a2 t173 x8_4 false))) = some r := H
        have A19 := Aside0.mk A190
        clear A190
        replace H := Option.bind_eq_some_iff.mp H
        obtain ⟨t183, A200, H⟩ := H
        replace H : (if t182 = t183 then ((gf_Mul.f kj4 a0 a1).bind fun t184 => ((gf_Mul.f kj4 t184 a2).bind fun t185 => ((gf_Mul.f kj4 a1 a2).bind fun t186 => ((gf_Mul.f kj4 a0 t186).bind fun t187 => (if t185 = t187 then ((gf_Mul.f kj4 a0 1).bind fun t188 => (if t188 = a0 then ((gf_Mul.f kj4 a0 0).bind fun t189 => (stowagelaw01_GfField.j1 kj4 a0 a1 a2 t173 x8_4 (t189 == 0))) else (stowagelaw01_GfField.j1 kj4 a0 a1 a2 t173 x8_4 false))) else (stowagelaw01_GfField.j1 kj4 a0 a1 a2 t173 x8_4 false)))))) else (stowagelaw01_GfField.j1 kj4 a0 a1 a2 t173 x8_4 false)) = some r := H
        have A20 := Aside0.mk A200
        clear A200
        by_cases c21 : t182 = t183
        · rw [if_pos c21] at H
          have c21b0 : (t182 == t183) = true := beq_iff_eq.mpr c21
          have c21b1 : (t182 != t183) = false := bne_eq_false_iff_eq.mpr c21
          clear c21
          (first | rw [c21b0] | (simp only [i64_w, i32_w]; rw [c21b0]) | skip)
          replace H := Option.bind_eq_some_iff.mp H
          obtain ⟨t184, A220, H⟩ := H
          replace H : ((gf_Mul.f kj4 t184 a2).bind fun t185 => ((gf_Mul.f kj4 a1 a2).bind fun t186 => ((gf_Mul.f kj4 a0 t186).bind fun t187 => (if t185 = t187 then ((gf_Mul.f kj4 a0 1).bind fun t188 => (if t188 = a0 then ((gf_Mul.f kj4 a0 0).bind fun t189 => (stowagelaw01_GfField.j1 kj4 a0 a1 a2 t173 x8_4 (t189 == 0))) else (stowagelaw01_GfField.j1 kj4 a0 a1 a2 t173 x8_4 false))) else (stowagelaw01_GfField.j1 kj4 a0 a1 a2 t173 x8_4 false))))) = some r := H
          have A22 := Aside0.mk A220
          clear A220
          replace H := Option.bind_eq_some_iff.mp H
          obtain ⟨t185, A230, H⟩ := H
          replace H : ((gf_Mul.f kj4 a1 a2).bind fun t186 => ((gf_Mul.f kj4 a0 t186).bind fun t187 => (if t185 = t187 then ((gf_Mul.f kj4 a0 1).bind fun t188 => (if t188 = a0 then ((gf_Mul.f kj4 a0 0).bind fun t189 => (stowagelaw01_GfField.j1 kj4 a0 a1 a2 t173 x8_4 (t189 == 0))) else (stowagelaw01_GfField.j1 kj4 a0 a1 a2 t173 x8_4 false))) else (stowagelaw01_GfField.j1 kj4 a0 a1 a2 t173 x8_4 false)))) = some r := H
          have A23 := Aside0.mk A230
          clear A230
          replace H := Option.bind_eq_some_iff.mp H
          obtain ⟨t186, A240, H⟩ := H
          replace H : ((gf_Mul.f kj4 a0 t186).bind fun t187 => (if t185 = t187 then ((gf_Mul.f kj4 a0 1).bind fun t188 => (if t188 = a0 then ((gf_Mul.f kj4 a0 0).bind fun t189 => (stowagelaw01_GfField.j1 kj4 a0 a1 a2 t173 x8_4 (t189 == 0))) else (stowagelaw01_GfField.j1 kj4 a0 a1 a2 t173 x8_4 false))) else (stowagelaw01_GfField.j1 kj4 a0 a1 a2 t173 x8_4 false))) = some r := H
          have A24 := Aside0.mk A240
          clear A240
          replace H := Option.bind_eq_some_iff.mp H
          obtain ⟨t187, A250, H⟩ := H
          replace H : (if t185 = t187 then ((gf_Mul.f kj4 a0 1).bind fun t188 => (if t188 = a0 then ((gf_Mul.f kj4 a0 0).bind fun t189 => (stowagelaw01_GfField.j1 kj4 a0 a1 a2 t173 x8_4 (t189 == 0))) else (stowagelaw01_GfField.j1 kj4 a0 a1 a2 t173 x8_4 false))) else (stowagelaw01_GfField.j1 kj4 a0 a1 a2 t173 x8_4 false)) = some r := H
          have A25 := Aside0.mk A250
          clear A250
          by_cases c26 : t185 = t187
          · rw [if_pos c26] at H
            have c26b0 : (t185 == t187) = true := beq_iff_eq.mpr c26
            have c26b1 : (t185 != t187) = false := bne_eq_false_iff_eq.mpr c26
            clear c26
            replace H := Option.bind_eq_some_iff.mp H
            obtain ⟨t188, A270, H⟩ := H
            replace H : (if t188 = a0 then ((gf_Mul.f kj4 a0 0).bind fun t189 => (stowagelaw01_GfField.j1 kj4 a0 a1 a2 t173 x8_4 (t189 == 0))) else (stowagelaw01_GfField.j1 kj4 a0 a1 a2 t173 x8_4 false)) = some r := H
            have A27 := Aside0.mk A270
            clear A270
            by_cases c28 : t188 = a0
            · rw [if_pos c28] at H
              have c28b0 : (t188 == a0) = true := beq_iff_eq.mpr c28
              have c28b1 : (t188 != a0) = false := bne_eq_false_iff_eq.mpr c28
              clear c28
              replace H := Option.bind_eq_some_iff.mp H
              obtain ⟨t189, A290, H⟩ := H
              replace H : (stowagelaw01_GfField.j1 kj4 a0 a1 a2 t173 x8_4 (t189 == 0)) = some r := H
              have A29 := Aside0.mk A290
              clear A290
              have H' := Aside0.mk H
              clear H
              go_wp2_with (first | ((with_reducible refine gate_callee (f := 21) rfl ?_); refine goesL_ (some 49) rfl rfl Try.func21 (by kernel_rfl) rfl #[.int .u8 a0, .int .u8 a1] rfl (by (try simp only [List.map_toArray, List.map_cons, List.map_nil]); first | done | rfl | (simp only [List.length_drop, List.length_take]; rfl)) ?_; (with_reducible refine (gf_Mul.calls kj4 a0 a1 t182 _ A19.out).mono ?_); rintro e w' ⟨rfl, ⟨nd, rfl⟩⟩; refine ⟨_, rfl, ?_⟩) | ((with_reducible refine gate_callee (f := 21) rfl ?_); refine goesL_ (some 52) rfl rfl Try.func21 (by kernel_rfl) rfl #[.int .u8 a1, .int .u8 a0] rfl (by (try simp only [List.map_toArray, List.map_cons, List.map_nil]); first | done | rfl | (simp only [List.length_drop, List.length_take]; rfl)) ?_; (with_reducible refine (gf_Mul.calls kj4 a1 a0 t183 _ A20.out).mono ?_); rintro e w' ⟨rfl, ⟨nd, rfl⟩⟩; refine ⟨_, rfl, ?_⟩) | (go_at_call 21; (with_reducible refine (gf_Mul.calls kj4 a0 a1 t184 _ A22.out).mono ?_); rintro e w' ⟨rfl, ⟨nd, rfl⟩⟩) | (go_at_call 21; (with_reducible refine (gf_Mul.calls kj4 t184 a2 t185 _ A23.out).mono ?_); rintro e w' ⟨rfl, ⟨nd, rfl⟩⟩) | (go_at_call 21; (with_reducible refine (gf_Mul.calls kj4 a1 a2 t186 _ A24.out).mono ?_); rintro e w' ⟨rfl, ⟨nd, rfl⟩⟩) | (go_at_call 21; (with_reducible refine (gf_Mul.calls kj4 a0 t186 t187 _ A25.out).mono ?_); rintro e w' ⟨rfl, ⟨nd, rfl⟩⟩) | (go_at_call 21; (with_reducible refine (gf_Mul.calls kj4 a0 1 t188 _ A27.out).mono ?_); rintro e w' ⟨rfl, ⟨nd, rfl⟩⟩) | (go_at_call 21; (with_reducible refine (gf_Mul.calls kj4 a0 0 t189 _ A29.out).mono ?_); rintro e w' ⟨rfl, ⟨nd, rfl⟩⟩))
              go_meet
              case rel => exact ⟨_, ((t189 == 0)), (by first | rfl | (simp; done) | (simp [*]; done)), H', ⟨by have := HJ4.out; first | omega | exact Nat.le_refl _⟩, ⟨by repeat (first | (with_reducible first | exact HB.out | apply below_alloc | apply pw_below_drewN | apply below_drew1) | exact HB.out)⟩⟩
            · rw [if_neg c28] at H
              have c28b0 : (t188 == a0) = false := beq_eq_false_iff_ne.mpr c28
              have c28b1 : (t188 != a0) = true := bne_iff_ne.mpr c28
              have H' := Aside0.mk H
              clear H
              go_wp2_with (first | ((with_reducible refine gate_callee (f := 21) rfl ?_); refine goesL_ (some 49) rfl rfl Try.func21 (by kernel_rfl) rfl #[.int .u8 a0, .int .u8 a1] rfl (by (try simp only [List.map_toArray, List.map_cons, List.map_nil]); first | done | rfl | (simp only [List.length_drop, List.length_take]; rfl)) ?_; (with_reducible refine (gf_Mul.calls kj4 a0 a1 t182 _ A19.out).mono ?_); rintro e w' ⟨rfl, ⟨nd, rfl⟩⟩; refine ⟨_, rfl, ?_⟩) | ((with_reducible refine gate_callee (f := 21) rfl ?_); refine goesL_ (some 52) rfl rfl Try.func21 (by kernel_rfl) rfl #[.int .u8 a1, .int .u8 a0] rfl (by (try simp only [List.map_toArray, List.map_cons, List.map_nil]); first | done | rfl | (simp only [List.length_drop, List.length_take]; rfl)) ?_; (with_reducible refine (gf_Mul.calls kj4 a1 a0 t183 _ A20.out).mono ?_); rintro e w' ⟨rfl, ⟨nd, rfl⟩⟩; refine ⟨_, rfl, ?_⟩) | (go_at_call 21; (with_reducible refine (gf_Mul.calls kj4 a0 a1 t184 _ A22.out).mono ?_); rintro e w' ⟨rfl, ⟨nd, rfl⟩⟩) | (go_at_call 21; (with_reducible refine (gf_Mul.calls kj4 t184 a2 t185 _ A23.out).mono ?_); rintro e w' ⟨rfl, ⟨nd, rfl⟩⟩) | (go_at_call 21; (with_reducible refine (gf_Mul.calls kj4 a1 a2 t186 _ A24.out).mono ?_); rintro e w' ⟨rfl, ⟨nd, rfl⟩⟩) | (go_at_call 21; (with_reducible refine (gf_Mul.calls kj4 a0 t186 t187 _ A25.out).mono ?_); rintro e w' ⟨rfl, ⟨nd, rfl⟩⟩) | (go_at_call 21; (with_reducible refine (gf_Mul.calls kj4 a0 1 t188 _ A27.out).mono ?_); rintro e w' ⟨rfl, ⟨nd, rfl⟩⟩))
              go_meet
              case rel => exact ⟨_, (false), (by first | rfl | (simp; done) | (simp [*]; done)), H', ⟨by have := HJ4.out; first | omega | exact Nat.le_refl _⟩, ⟨by repeat (first | (with_reducible first | exact HB.out | apply below_alloc | apply pw_below_drewN | apply below_drew1) | exact HB.out)⟩⟩
          · rw [if_neg c26] at H
            have c26b0 : (t185 == t187) = false := beq_eq_false_iff_ne.mpr c26
            have c26b1 : (t185 != t187) = true := bne_iff_ne.mpr c26
            have H' := Aside0.mk H
            clear H
            go_wp2_with (first | ((with_reducible refine gate_callee (f := 21) rfl ?_); refine goesL_ (some 49) rfl rfl Try.func21 (by kernel_rfl) rfl #[.int .u8 a0, .int .u8 a1] rfl (by (try simp only [List.map_toArray, List.map_cons, List.map_nil]); first | done | rfl | (simp only [List.length_drop, List.length_take]; rfl)) ?_; (with_reducible refine (gf_Mul.calls kj4 a0 a1 t182 _ A19.out).mono ?_); rintro e w' ⟨rfl, ⟨nd, rfl⟩⟩; refine ⟨_, rfl, ?_⟩) | ((with_reducible refine gate_callee (f := 21) rfl ?_); refine goesL_ (some 52) rfl rfl Try.func21 (by kernel_rfl) rfl #[.int .u8 a1, .int .u8 a0] rfl (by (try simp only [List.map_toArray, List.map_cons, List.map_nil]); first | done | rfl | (simp only [List.length_drop, List.length_take]; rfl)) ?_; (with_reducible refine (gf_Mul.calls kj4 a1 a0 t183 _ A20.out).mono ?_); rintro e w' ⟨rfl, ⟨nd, rfl⟩⟩; refine ⟨_, rfl, ?_⟩) | (go_at_call 21; (with_reducible refine (gf_Mul.calls kj4 a0 a1 t184 _ A22.out).mono ?_); rintro e w' ⟨rfl, ⟨nd, rfl⟩⟩) | (go_at_call 21; (with_reducible refine (gf_Mul.calls kj4 t184 a2 t185 _ A23.out).mono ?_); rintro e w' ⟨rfl, ⟨nd, rfl⟩⟩) | (go_at_call 21; (with_reducible refine (gf_Mul.calls kj4 a1 a2 t186 _ A24.out).mono ?_); rintro e w' ⟨rfl, ⟨nd, rfl⟩⟩) | (go_at_call 21; (with_reducible refine (gf_Mul.calls kj4 a0 t186 t187 _ A25.out).mono ?_); rintro e w' ⟨rfl, ⟨nd, rfl⟩⟩))
            go_meet
            case rel => exact ⟨_, (false), (by first | rfl | (simp; done) | (simp [*]; done)), H', ⟨by have := HJ4.out; first | omega | exact Nat.le_refl _⟩, ⟨by repeat (first | (with_reducible first | exact HB.out | apply below_alloc | apply pw_below_drewN | apply below_drew1) | exact HB.out)⟩⟩
        · rw [if_neg c21] at H
          have c21b0 : (t182 == t183) = false := beq_eq_false_iff_ne.mpr c21
          have c21b1 : (t182 != t183) = true := bne_iff_ne.mpr c21
          (first | rw [c21b0] | (simp only [i64_w, i32_w]; rw [c21b0]) | skip)
          have H' := Aside0.mk H
          clear H
          go_wp2_with (first | ((with_reducible refine gate_callee (f := 21) rfl ?_); refine goesL_ (some 49) rfl rfl Try.func21 (by kernel_rfl) rfl #[.int .u8 a0, .int .u8 a1] rfl (by (try simp only [List.map_toArray, List.map_cons, List.map_nil]); first | done | rfl | (simp only [List.length_drop, List.length_take]; rfl)) ?_; (with_reducible refine (gf_Mul.calls kj4 a0 a1 t182 _ A19.out).mono ?_); rintro e w' ⟨rfl, ⟨nd, rfl⟩⟩; refine ⟨_, rfl, ?_⟩) | ((with_reducible refine gate_callee (f := 21) rfl ?_); refine goesL_ (some 52) rfl rfl Try.func21 (by kernel_rfl) rfl #[.int .u8 a1, .int .u8 a0] rfl (by (try simp only [List.map_toArray, List.map_cons, List.map_nil]); first | done | rfl | (simp only [List.length_drop, List.length_take]; rfl)) ?_; (with_reducible refine (gf_Mul.calls kj4 a1 a0 t183 _ A20.out).mono ?_); rintro e w' ⟨rfl, ⟨nd, rfl⟩⟩; refine ⟨_, rfl, ?_⟩))
          go_meet
          case rel => exact ⟨_, (false), (by first | rfl | (simp; done) | (simp [*]; done)), H', ⟨by have := HJ4.out; first | omega | exact Nat.le_refl _⟩, ⟨by repeat (first | (with_reducible first | exact HB.out | apply below_alloc | apply pw_below_drewN | apply below_drew1) | exact HB.out)⟩⟩
      case rest =>
        clear HC18
        try clear c1
        try clear c2
        try clear p2
        try clear c5
        try clear c6
        try clear c9
        try clear c9b0
        try clear c9b1
        try clear c14
        try clear c14b0
        try clear c14b1
        try clear c16
        try clear c16b0
        try clear c16b1
        try clear c20
        try clear c21
        try clear c21b0
        try clear c21b1
        try clear c26
        try clear c26b0
        try clear c26b1
        try clear c28
        try clear c28b0
        try clear c28b1
        try clear p2
        obtain ⟨kq, x9_17, rfl, HA, HJ17, HB⟩ := hcut
        cases kq with
        | zero => exact absurd HA.out (by simp [stowagelaw01_GfField.j1])
        | succ kj17 =>
          have H := HA.out
          clear HA
          simp only [stowagelaw01_GfField.j1] at H
          have HC30 := Aside0.mk H
          clear H
          go_upto_region 4 with (fail)
          go_cut [98] (fun v98 wc => ∃ (kq : Nat) (x98_29 : Bool), v98 = .bool x98_29 ∧ Aside0 (stowagelaw01_GfField.j2 kq a0 a1 t173 x98_29 = some r) ∧ Aside0 (kq ≤ kj17) ∧ Aside0 (Below w.heap.size w wc))
          case first =>
            have H := HC30.out
            clear HC30
            by_cases c31 : x8_4 = true
            · subst c31
              have H1 : (if x9_17 = true then ((gf_Add.f a1 a2).bind fun t190 => ((gf_Mul.f kj17 a0 t190).bind fun t191 => ((gf_Mul.f kj17 a0 a1).bind fun t192 => ((gf_Mul.f kj17 a0 a2).bind fun t193 => ((gf_Add.f t192 t193).bind fun t194 => (stowagelaw01_GfField.j2 kj17 a0 a1 t173 (t191 != t194))))))) else (stowagelaw01_GfField.j2 kj17 a0 a1 t173 true)) = some r := by rw [if_pos rfl] at H; exact H
              clear H
              have H := H1
              clear H1
              by_cases c32 : x9_17 = true
              · subst c32
                have H1 : ((gf_Add.f a1 a2).bind fun t190 => ((gf_Mul.f kj17 a0 t190).bind fun t191 => ((gf_Mul.f kj17 a0 a1).bind fun t192 => ((gf_Mul.f kj17 a0 a2).bind fun t193 => ((gf_Add.f t192 t193).bind fun t194 => (stowagelaw01_GfField.j2 kj17 a0 a1 t173 (t191 != t194))))))) = some r := by rw [if_pos rfl] at H; exact H
                clear H
                have H := H1
                clear H1
                replace H := Option.bind_eq_some_iff.mp H
                obtain ⟨t190, A330, H⟩ := H
                replace H : ((gf_Mul.f kj17 a0 t190).bind fun t191 => ((gf_Mul.f kj17 a0 a1).bind fun t192 => ((gf_Mul.f kj17 a0 a2).bind fun t193 => ((gf_Add.f t192 t193).bind fun t194 => (stowagelaw01_GfField.j2 kj17 a0 a1 t173 (t191 != t194)))))) = some r := H
                have A33 := Aside0.mk A330
                clear A330
                replace H := Option.bind_eq_some_iff.mp H
                obtain ⟨t191, A340, H⟩ := H
                replace H : ((gf_Mul.f kj17 a0 a1).bind fun t192 => ((gf_Mul.f kj17 a0 a2).bind fun t193 => ((gf_Add.f t192 t193).bind fun t194 => (stowagelaw01_GfField.j2 kj17 a0 a1 t173 (t191 != t194))))) = some r := H
                have A34 := Aside0.mk A340
                clear A340
                replace H := Option.bind_eq_some_iff.mp H
                obtain ⟨t192, A350, H⟩ := H
                replace H : ((gf_Mul.f kj17 a0 a2).bind fun t193 => ((gf_Add.f t192 t193).bind fun t194 => (stowagelaw01_GfField.j2 kj17 a0 a1 t173 (t191 != t194)))) = some r := H
                have A35 := Aside0.mk A350
                clear A350
                replace H := Option.bind_eq_some_iff.mp H
                obtain ⟨t193, A360, H⟩ := H
                replace H : ((gf_Add.f t192 t193).bind fun t194 => (stowagelaw01_GfField.j2 kj17 a0 a1 t173 (t191 != t194))) = some r := H
                have A36 := Aside0.mk A360
                clear A360
                replace H := Option.bind_eq_some_iff.mp H
                obtain ⟨t194, A370, H⟩ := H
                replace H : (stowagelaw01_GfField.j2 kj17 a0 a1 t173 (t191 != t194)) = some r := H
                have A37 := Aside0.mk A370
                clear A370
                have H' := Aside0.mk H
                clear H
                go_wp2_with (first | (go_at_call 20; (with_reducible refine (gf_Add.calls a1 a2 t190 _ A33.out).mono ?_); rintro e w' ⟨rfl, ⟨nd, rfl⟩⟩) | (go_at_call 21; (with_reducible refine (gf_Mul.calls kj17 a0 t190 t191 _ A34.out).mono ?_); rintro e w' ⟨rfl, ⟨nd, rfl⟩⟩) | (go_at_call 21; (with_reducible refine (gf_Mul.calls kj17 a0 a1 t192 _ A35.out).mono ?_); rintro e w' ⟨rfl, ⟨nd, rfl⟩⟩) | (go_at_call 21; (with_reducible refine (gf_Mul.calls kj17 a0 a2 t193 _ A36.out).mono ?_); rintro e w' ⟨rfl, ⟨nd, rfl⟩⟩) | (go_at_call 20; (with_reducible refine (gf_Add.calls t192 t193 t194 _ A37.out).mono ?_); rintro e w' ⟨rfl, ⟨nd, rfl⟩⟩))
                go_meet
                case rel => exact ⟨_, ((t191 != t194)), (by first | rfl | (simp; done) | (simp [*]; done)), H', ⟨by have := HJ4.out; have := HJ17.out; first | omega | exact Nat.le_refl _⟩, ⟨by repeat (first | (with_reducible first | exact HB.out | apply below_alloc | apply pw_below_drewN | apply below_drew1) | exact HB.out)⟩⟩
              · replace c32 := Bool.eq_false_iff.mpr c32
                subst c32
                have H1 : (stowagelaw01_GfField.j2 kj17 a0 a1 t173 true) = some r := by rw [if_neg (show ¬ (false = true) by decide)] at H; exact H
                clear H
                have H := H1
                clear H1
                have H' := Aside0.mk H
                clear H
                go_wp2
                go_meet
                case rel => exact ⟨_, (true), (by first | rfl | (simp; done) | (simp [*]; done)), H', ⟨by have := HJ4.out; have := HJ17.out; first | omega | exact Nat.le_refl _⟩, ⟨by repeat (first | (with_reducible first | exact HB.out | apply below_alloc | apply pw_below_drewN | apply below_drew1) | exact HB.out)⟩⟩
            · replace c31 := Bool.eq_false_iff.mpr c31
              subst c31
              have H1 : (stowagelaw01_GfField.j2 kj17 a0 a1 t173 true) = some r := by rw [if_neg (show ¬ (false = true) by decide)] at H; exact H
              clear H
              have H := H1
              clear H1
              have H' := Aside0.mk H
              clear H
              go_wp2
              go_meet
              case rel => exact ⟨_, (true), (by first | rfl | (simp; done) | (simp [*]; done)), H', ⟨by have := HJ4.out; have := HJ17.out; first | omega | exact Nat.le_refl _⟩, ⟨by repeat (first | (with_reducible first | exact HB.out | apply below_alloc | apply pw_below_drewN | apply below_drew1) | exact HB.out)⟩⟩
          case rest =>
            clear HC30
            try clear c1
            try clear c2
            try clear p2
            try clear c3
            try clear c5
            try clear c6
            try clear c9
            try clear c9b0
            try clear c9b1
            try clear c14
            try clear c14b0
            try clear c14b1
            try clear c16
            try clear c16b0
            try clear c16b1
            try clear c20
            try clear c21
            try clear c21b0
            try clear c21b1
            try clear c26
            try clear c26b0
            try clear c26b1
            try clear c28
            try clear c28b0
            try clear c28b1
            try clear c31
            try clear c32
            try clear p2
            obtain ⟨kq, x98_29, rfl, HA, HJ29, HB⟩ := hcut
            cases kq with
            | zero => exact absurd HA.out (by simp [stowagelaw01_GfField.j2])
            | succ kj29 =>
              have H := HA.out
              clear HA
              simp only [stowagelaw01_GfField.j2] at H
              by_cases c38 : x98_29 = true
              · subst c38
                have H1 : (some false) = some r := by rw [if_pos rfl] at H; exact H
                clear H
                have H := H1
                clear H1
                obtain rfl := Option.some.inj H
                go_wp2
                go_ret
                exact ⟨by first | rfl | (simp [errW_none, errW_some] <;> rfl) | (simp [*, errW_none, errW_some] <;> rfl), by repeat (first | (with_reducible first | exact HB.out | apply below_alloc | apply pw_below_drewN | apply below_drew1) | exact HB.out)⟩
              · replace c38 := Bool.eq_false_iff.mpr c38
                subst c38
                have H1 : ((gf_Div.f kj29 a0 a1).bind fun bt195 => ((gf_Inv.f kj29 a1).bind fun bt197 => (if a1 = 0 then (if t173 = true then (if bt195.2 = 5 then (some (bt197.2 == 5)) else (some false)) else (some false)) else (if t173 = true then (if bt195.2 = 0 then (if bt197.2 = 0 then ((gf_Mul.f kj29 bt195.1 a1).bind fun t199 => (if t199 = a0 then ((gf_Mul.f kj29 bt197.1 a1).bind fun t200 => (some (t200 == 1))) else (some false))) else (some false)) else (some false)) else (some false))))) = some r := by rw [if_neg (show ¬ (false = true) by decide)] at H; exact H
                clear H
                have H := H1
                clear H1
                replace H := Option.bind_eq_some_iff.mp H
                obtain ⟨⟨t195, t196⟩, A390, H⟩ := H
                replace H : ((gf_Inv.f kj29 a1).bind fun bt197 => (if a1 = 0 then (if t173 = true then (if t196 = 5 then (some (bt197.2 == 5)) else (some false)) else (some false)) else (if t173 = true then (if t196 = 0 then (if bt197.2 = 0 then ((gf_Mul.f kj29 t195 a1).bind fun t199 => (if t199 = a0 then ((gf_Mul.f kj29 bt197.1 a1).bind fun t200 => (some (t200 == 1))) else (some false))) else (some false)) else (some false)) else (some false)))) = some r := H
                have A39 := Aside0.mk A390
                clear A390
                replace H := Option.bind_eq_some_iff.mp H
                obtain ⟨⟨t197, t198⟩, A400, H⟩ := H
                replace H : (if a1 = 0 then (if t173 = true then (if t196 = 5 then (some (t198 == 5)) else (some false)) else (some false)) else (if t173 = true then (if t196 = 0 then (if t198 = 0 then ((gf_Mul.f kj29 t195 a1).bind fun t199 => (if t199 = a0 then ((gf_Mul.f kj29 t197 a1).bind fun t200 => (some (t200 == 1))) else (some false))) else (some false)) else (some false)) else (some false))) = some r := H
                have A40 := Aside0.mk A400
                clear A400
                by_cases c41 : a1 = 0
                · rw [if_pos c41] at H
                  have c41b0 : (a1 == 0) = true := beq_iff_eq.mpr c41
                  have c41b1 : (a1 != 0) = false := bne_eq_false_iff_eq.mpr c41
                  clear c41
                  by_cases c42 : t173 = true
                  · subst c42
                    have H1 : (if t196 = 5 then (some (t198 == 5)) else (some false)) = some r := by rw [if_pos rfl] at H; exact H
                    clear H
                    have H := H1
                    clear H1
                    by_cases c43 : t196 = 5
                    · rw [if_pos c43] at H
                      have c43b0 : (t196 == 5) = true := beq_iff_eq.mpr c43
                      have c43b1 : (t196 != 5) = false := bne_eq_false_iff_eq.mpr c43
                      clear c43
                      obtain rfl := Option.some.inj H
                      go_wp2_with (first | ((with_reducible refine gate_callee (f := 14) rfl ?_); refine goesL_ (some 102) rfl rfl Try.func14 (by kernel_rfl) rfl #[.int .u8 a0, .int .u8 a1] rfl (by (try simp only [List.map_toArray, List.map_cons, List.map_nil]); first | done | rfl | (simp only [List.length_drop, List.length_take]; rfl)) ?_; (with_reducible refine (gf_Div.calls kj29 a0 a1 t195 t196 _ A39.out).mono ?_); rintro e w' ⟨rfl, ⟨nd, rfl⟩⟩; refine ⟨_, rfl, ?_⟩) | ((with_reducible refine gate_callee (f := 12) rfl ?_); refine goesL_ (some 107) rfl rfl Try.func12 (by kernel_rfl) rfl #[.int .u8 a1] rfl (by (try simp only [List.map_toArray, List.map_cons, List.map_nil]); first | done | rfl | (simp only [List.length_drop, List.length_take]; rfl)) ?_; (with_reducible refine (gf_Inv.calls kj29 a1 t197 t198 _ A40.out).mono ?_); rintro e w' ⟨rfl, ⟨nd, rfl⟩⟩; refine ⟨_, rfl, ?_⟩))
                      go_ret
                      exact ⟨by first | rfl | (simp [errW_none, errW_some] <;> rfl) | (simp [*, errW_none, errW_some] <;> rfl), by repeat (first | (with_reducible first | exact HB.out | apply below_alloc | apply pw_below_drewN | apply below_drew1) | exact HB.out)⟩
                    · rw [if_neg c43] at H
                      have c43b0 : (t196 == 5) = false := beq_eq_false_iff_ne.mpr c43
                      have c43b1 : (t196 != 5) = true := bne_iff_ne.mpr c43
                      obtain rfl := Option.some.inj H
                      go_wp2_with (first | ((with_reducible refine gate_callee (f := 14) rfl ?_); refine goesL_ (some 102) rfl rfl Try.func14 (by kernel_rfl) rfl #[.int .u8 a0, .int .u8 a1] rfl (by (try simp only [List.map_toArray, List.map_cons, List.map_nil]); first | done | rfl | (simp only [List.length_drop, List.length_take]; rfl)) ?_; (with_reducible refine (gf_Div.calls kj29 a0 a1 t195 t196 _ A39.out).mono ?_); rintro e w' ⟨rfl, ⟨nd, rfl⟩⟩; refine ⟨_, rfl, ?_⟩) | ((with_reducible refine gate_callee (f := 12) rfl ?_); refine goesL_ (some 107) rfl rfl Try.func12 (by kernel_rfl) rfl #[.int .u8 a1] rfl (by (try simp only [List.map_toArray, List.map_cons, List.map_nil]); first | done | rfl | (simp only [List.length_drop, List.length_take]; rfl)) ?_; (with_reducible refine (gf_Inv.calls kj29 a1 t197 t198 _ A40.out).mono ?_); rintro e w' ⟨rfl, ⟨nd, rfl⟩⟩; refine ⟨_, rfl, ?_⟩))
                      go_ret
                      exact ⟨by first | rfl | (simp [errW_none, errW_some] <;> rfl) | (simp [*, errW_none, errW_some] <;> rfl), by repeat (first | (with_reducible first | exact HB.out | apply below_alloc | apply pw_below_drewN | apply below_drew1) | exact HB.out)⟩
                  · replace c42 := Bool.eq_false_iff.mpr c42
                    subst c42
                    have H1 : (some false) = some r := by rw [if_neg (show ¬ (false = true) by decide)] at H; exact H
                    clear H
                    have H := H1
                    clear H1
                    obtain rfl := Option.some.inj H
                    go_wp2_with (first | ((with_reducible refine gate_callee (f := 14) rfl ?_); refine goesL_ (some 102) rfl rfl Try.func14 (by kernel_rfl) rfl #[.int .u8 a0, .int .u8 a1] rfl (by (try simp only [List.map_toArray, List.map_cons, List.map_nil]); first | done | rfl | (simp only [List.length_drop, List.length_take]; rfl)) ?_; (with_reducible refine (gf_Div.calls kj29 a0 a1 t195 t196 _ A39.out).mono ?_); rintro e w' ⟨rfl, ⟨nd, rfl⟩⟩; refine ⟨_, rfl, ?_⟩) | ((with_reducible refine gate_callee (f := 12) rfl ?_); refine goesL_ (some 107) rfl rfl Try.func12 (by kernel_rfl) rfl #[.int .u8 a1] rfl (by (try simp only [List.map_toArray, List.map_cons, List.map_nil]); first | done | rfl | (simp only [List.length_drop, List.length_take]; rfl)) ?_; (with_reducible refine (gf_Inv.calls kj29 a1 t197 t198 _ A40.out).mono ?_); rintro e w' ⟨rfl, ⟨nd, rfl⟩⟩; refine ⟨_, rfl, ?_⟩))
                    go_ret
                    exact ⟨by first | rfl | (simp [errW_none, errW_some] <;> rfl) | (simp [*, errW_none, errW_some] <;> rfl), by repeat (first | (with_reducible first | exact HB.out | apply below_alloc | apply pw_below_drewN | apply below_drew1) | exact HB.out)⟩
                · rw [if_neg c41] at H
                  have c41b0 : (a1 == 0) = false := beq_eq_false_iff_ne.mpr c41
                  have c41b1 : (a1 != 0) = true := bne_iff_ne.mpr c41
                  by_cases c44 : t173 = true
                  · subst c44
                    have H1 : (if t196 = 0 then (if t198 = 0 then ((gf_Mul.f kj29 t195 a1).bind fun t199 => (if t199 = a0 then ((gf_Mul.f kj29 t197 a1).bind fun t200 => (some (t200 == 1))) else (some false))) else (some false)) else (some false)) = some r := by rw [if_pos rfl] at H; exact H
                    clear H
                    have H := H1
                    clear H1
                    by_cases c45 : t196 = 0
                    · rw [if_pos c45] at H
                      have c45b0 : (t196 == 0) = true := beq_iff_eq.mpr c45
                      have c45b1 : (t196 != 0) = false := bne_eq_false_iff_eq.mpr c45
                      clear c45
                      by_cases c46 : t198 = 0
                      · rw [if_pos c46] at H
                        have c46b0 : (t198 == 0) = true := beq_iff_eq.mpr c46
                        have c46b1 : (t198 != 0) = false := bne_eq_false_iff_eq.mpr c46
                        clear c46
                        replace H := Option.bind_eq_some_iff.mp H
                        obtain ⟨t199, A470, H⟩ := H
                        replace H : (if t199 = a0 then ((gf_Mul.f kj29 t197 a1).bind fun t200 => (some (t200 == 1))) else (some false)) = some r := H
                        have A47 := Aside0.mk A470
                        clear A470
                        by_cases c48 : t199 = a0
                        · rw [if_pos c48] at H
                          have c48b0 : (t199 == a0) = true := beq_iff_eq.mpr c48
                          have c48b1 : (t199 != a0) = false := bne_eq_false_iff_eq.mpr c48
                          clear c48
                          replace H := Option.bind_eq_some_iff.mp H
                          obtain ⟨t200, A490, H⟩ := H
                          replace H : (some (t200 == 1)) = some r := H
                          have A49 := Aside0.mk A490
                          clear A490
                          obtain rfl := Option.some.inj H
                          go_wp2_with (first | ((with_reducible refine gate_callee (f := 14) rfl ?_); refine goesL_ (some 102) rfl rfl Try.func14 (by kernel_rfl) rfl #[.int .u8 a0, .int .u8 a1] rfl (by (try simp only [List.map_toArray, List.map_cons, List.map_nil]); first | done | rfl | (simp only [List.length_drop, List.length_take]; rfl)) ?_; (with_reducible refine (gf_Div.calls kj29 a0 a1 t195 t196 _ A39.out).mono ?_); rintro e w' ⟨rfl, ⟨nd, rfl⟩⟩; refine ⟨_, rfl, ?_⟩) | ((with_reducible refine gate_callee (f := 12) rfl ?_); refine goesL_ (some 107) rfl rfl Try.func12 (by kernel_rfl) rfl #[.int .u8 a1] rfl (by (try simp only [List.map_toArray, List.map_cons, List.map_nil]); first | done | rfl | (simp only [List.length_drop, List.length_take]; rfl)) ?_; (with_reducible refine (gf_Inv.calls kj29 a1 t197 t198 _ A40.out).mono ?_); rintro e w' ⟨rfl, ⟨nd, rfl⟩⟩; refine ⟨_, rfl, ?_⟩) | (go_at_call 21; (with_reducible refine (gf_Mul.calls kj29 t195 a1 t199 _ A47.out).mono ?_); rintro e w' ⟨rfl, ⟨nd, rfl⟩⟩) | (go_at_call 21; (with_reducible refine (gf_Mul.calls kj29 t197 a1 t200 _ A49.out).mono ?_); rintro e w' ⟨rfl, ⟨nd, rfl⟩⟩))
                          go_ret
                          exact ⟨by first | rfl | (simp [errW_none, errW_some] <;> rfl) | (simp [*, errW_none, errW_some] <;> rfl), by repeat (first | (with_reducible first | exact HB.out | apply below_alloc | apply pw_below_drewN | apply below_drew1) | exact HB.out)⟩
                        · rw [if_neg c48] at H
                          have c48b0 : (t199 == a0) = false := beq_eq_false_iff_ne.mpr c48
                          have c48b1 : (t199 != a0) = true := bne_iff_ne.mpr c48
                          obtain rfl := Option.some.inj H
                          go_wp2_with (first | ((with_reducible refine gate_callee (f := 14) rfl ?_); refine goesL_ (some 102) rfl rfl Try.func14 (by kernel_rfl) rfl #[.int .u8 a0, .int .u8 a1] rfl (by (try simp only [List.map_toArray, List.map_cons, List.map_nil]); first | done | rfl | (simp only [List.length_drop, List.length_take]; rfl)) ?_; (with_reducible refine (gf_Div.calls kj29 a0 a1 t195 t196 _ A39.out).mono ?_); rintro e w' ⟨rfl, ⟨nd, rfl⟩⟩; refine ⟨_, rfl, ?_⟩) | ((with_reducible refine gate_callee (f := 12) rfl ?_); refine goesL_ (some 107) rfl rfl Try.func12 (by kernel_rfl) rfl #[.int .u8 a1] rfl (by (try simp only [List.map_toArray, List.map_cons, List.map_nil]); first | done | rfl | (simp only [List.length_drop, List.length_take]; rfl)) ?_; (with_reducible refine (gf_Inv.calls kj29 a1 t197 t198 _ A40.out).mono ?_); rintro e w' ⟨rfl, ⟨nd, rfl⟩⟩; refine ⟨_, rfl, ?_⟩) | (go_at_call 21; (with_reducible refine (gf_Mul.calls kj29 t195 a1 t199 _ A47.out).mono ?_); rintro e w' ⟨rfl, ⟨nd, rfl⟩⟩))
                          go_ret
                          exact ⟨by first | rfl | (simp [errW_none, errW_some] <;> rfl) | (simp [*, errW_none, errW_some] <;> rfl), by repeat (first | (with_reducible first | exact HB.out | apply below_alloc | apply pw_below_drewN | apply below_drew1) | exact HB.out)⟩
                      · rw [if_neg c46] at H
                        have c46b0 : (t198 == 0) = false := beq_eq_false_iff_ne.mpr c46
                        have c46b1 : (t198 != 0) = true := bne_iff_ne.mpr c46
                        obtain rfl := Option.some.inj H
                        go_wp2_with (first | ((with_reducible refine gate_callee (f := 14) rfl ?_); refine goesL_ (some 102) rfl rfl Try.func14 (by kernel_rfl) rfl #[.int .u8 a0, .int .u8 a1] rfl (by (try simp only [List.map_toArray, List.map_cons, List.map_nil]); first | done | rfl | (simp only [List.length_drop, List.length_take]; rfl)) ?_; (with_reducible refine (gf_Div.calls kj29 a0 a1 t195 t196 _ A39.out).mono ?_); rintro e w' ⟨rfl, ⟨nd, rfl⟩⟩; refine ⟨_, rfl, ?_⟩) | ((with_reducible refine gate_callee (f := 12) rfl ?_); refine goesL_ (some 107) rfl rfl Try.func12 (by kernel_rfl) rfl #[.int .u8 a1] rfl (by (try simp only [List.map_toArray, List.map_cons, List.map_nil]); first | done | rfl | (simp only [List.length_drop, List.length_take]; rfl)) ?_; (with_reducible refine (gf_Inv.calls kj29 a1 t197 t198 _ A40.out).mono ?_); rintro e w' ⟨rfl, ⟨nd, rfl⟩⟩; refine ⟨_, rfl, ?_⟩))
                        go_ret
                        exact ⟨by first | rfl | (simp [errW_none, errW_some] <;> rfl) | (simp [*, errW_none, errW_some] <;> rfl), by repeat (first | (with_reducible first | exact HB.out | apply below_alloc | apply pw_below_drewN | apply below_drew1) | exact HB.out)⟩
                    · rw [if_neg c45] at H
                      have c45b0 : (t196 == 0) = false := beq_eq_false_iff_ne.mpr c45
                      have c45b1 : (t196 != 0) = true := bne_iff_ne.mpr c45
                      obtain rfl := Option.some.inj H
                      go_wp2_with (first | ((with_reducible refine gate_callee (f := 14) rfl ?_); refine goesL_ (some 102) rfl rfl Try.func14 (by kernel_rfl) rfl #[.int .u8 a0, .int .u8 a1] rfl (by (try simp only [List.map_toArray, List.map_cons, List.map_nil]); first | done | rfl | (simp only [List.length_drop, List.length_take]; rfl)) ?_; (with_reducible refine (gf_Div.calls kj29 a0 a1 t195 t196 _ A39.out).mono ?_); rintro e w' ⟨rfl, ⟨nd, rfl⟩⟩; refine ⟨_, rfl, ?_⟩) | ((with_reducible refine gate_callee (f := 12) rfl ?_); refine goesL_ (some 107) rfl rfl Try.func12 (by kernel_rfl) rfl #[.int .u8 a1] rfl (by (try simp only [List.map_toArray, List.map_cons, List.map_nil]); first | done | rfl | (simp only [List.length_drop, List.length_take]; rfl)) ?_; (with_reducible refine (gf_Inv.calls kj29 a1 t197 t198 _ A40.out).mono ?_); rintro e w' ⟨rfl, ⟨nd, rfl⟩⟩; refine ⟨_, rfl, ?_⟩))
                      go_ret
                      exact ⟨by first | rfl | (simp [errW_none, errW_some] <;> rfl) | (simp [*, errW_none, errW_some] <;> rfl), by repeat (first | (with_reducible first | exact HB.out | apply below_alloc | apply pw_below_drewN | apply below_drew1) | exact HB.out)⟩
                  · replace c44 := Bool.eq_false_iff.mpr c44
                    subst c44
                    have H1 : (some false) = some r := by rw [if_neg (show ¬ (false = true) by decide)] at H; exact H
                    clear H
                    have H := H1
                    clear H1
                    obtain rfl := Option.some.inj H
                    go_wp2_with (first | ((with_reducible refine gate_callee (f := 14) rfl ?_); refine goesL_ (some 102) rfl rfl Try.func14 (by kernel_rfl) rfl #[.int .u8 a0, .int .u8 a1] rfl (by (try simp only [List.map_toArray, List.map_cons, List.map_nil]); first | done | rfl | (simp only [List.length_drop, List.length_take]; rfl)) ?_; (with_reducible refine (gf_Div.calls kj29 a0 a1 t195 t196 _ A39.out).mono ?_); rintro e w' ⟨rfl, ⟨nd, rfl⟩⟩; refine ⟨_, rfl, ?_⟩) | ((with_reducible refine gate_callee (f := 12) rfl ?_); refine goesL_ (some 107) rfl rfl Try.func12 (by kernel_rfl) rfl #[.int .u8 a1] rfl (by (try simp only [List.map_toArray, List.map_cons, List.map_nil]); first | done | rfl | (simp only [List.length_drop, List.length_take]; rfl)) ?_; (with_reducible refine (gf_Inv.calls kj29 a1 t197 t198 _ A40.out).mono ?_); rintro e w' ⟨rfl, ⟨nd, rfl⟩⟩; refine ⟨_, rfl, ?_⟩))
                    go_ret
                    exact ⟨by first | rfl | (simp [errW_none, errW_some] <;> rfl) | (simp [*, errW_none, errW_some] <;> rfl), by repeat (first | (with_reducible first | exact HB.out | apply below_alloc | apply pw_below_drewN | apply below_drew1) | exact HB.out)⟩

/-- THE ONE PURE STATEMENT of stowagelaw01_GfField: yours. -/
def stowagelaw01_GfField.Pure : Prop := ∀ (a0 : Int) (a1 : Int) (a2 : Int), (Lit.int .u8 a0).wf = true → (Lit.int .u8 a1).wf = true → (Lit.int .u8 a2).wf = true → ∃ k, stowagelaw01_GfField.f k a0 a1 a2 = some true
theorem stowagelaw01_GfField.walk (P : stowagelaw01_GfField.Pure) (a0 : Int) (a1 : Int) (a2 : Int) (w : World) (w0 : (Lit.int .u8 a0).wf = true) (w1 : (Lit.int .u8 a1).wf = true) (w2 : (Lit.int .u8 a2).wf = true) :
    Calls Try.prog 6 #[.int .u8 a0, .int .u8 a1, .int .u8 a2] w fun e w' => e = .returned (.bool true) ∧ Below w.heap.size w w' := by
  obtain ⟨k, h⟩ := P a0 a1 a2 w0 w1 w2
  refine (stowagelaw01_GfField.calls k a0 a1 a2 true w h).mono ?_
  rintro e w' ⟨rfl, hd⟩
  exact ⟨rfl, hd⟩

end Go.Proofs.Ytpogicakpgpkcaa.PGfField
