/- The walk of slices.Insert at []api.Record: one record ahead of others, with room and without. No statement of the seat stands here. -/
import Derived.Test.YtoddlefhlicfiaaGreatDoorRChecked
import Derived.Tactics
import Derived.Tactics2
import Derived.StillTactics
import Derived.Laws.AppendOwn
import Derived.Laws.Rows
import Derived.Laws.NewBlocks
import Derived.Laws.Externs
import Derived.Laws.Append
import Derived.Laws.Slices
import Derived.Laws.Small
import Derived.Laws.World
import Derived.Laws.IdiomCopy
import Derived.Lib.Overlaps
import Derived.Scope
import Derived.Below
import Derived.WalkKit
import Derived.Deep.RegionLaw
import Derived.KernelRfl
import Derived.Test.YtoddlefhlicfiaaGreatDoorRXG
set_option linter.unusedSimpArgs false
set_option linter.unusedVariables false
namespace Go.Proofs.YtoddlefhlicfiaaGreatDoorR.InsertDev
open Go Go.RowKit Go.Lib Go.Proofs.YtoddlefhlicfiaaGreatDoorR.X

theorem infoR : (Tryz.prog.info? 65).map (fun i => (i.zero.map (fun z => z.cells.size), i.size, i.bytes)) = some (some 42, 42, 160) := by kernel_rfl
theorem not_byte : Tryz.prog.underlying 65 ≠ some (.int .u8) := by
  intro h
  have h2 : (match Tryz.prog.underlying 65 with | some (.int .u8) => true | _ => false) = false := by kernel_rfl
  rw [h] at h2
  cases h2
theorem infoR_parts : ∃ (i : TypeInfo) (z : Value), Tryz.prog.info? 65 = some i ∧ i.zero = some z ∧ z.cells.size = 42 ∧ i.size = 42 ∧ i.bytes = 160 := by
  have h := infoR
  cases hi : Tryz.prog.info? 65 with
  | none => rw [hi] at h; cases h
  | some i =>
    rw [hi] at h
    simp only [Option.map_some, Option.some.injEq, Prod.mk.injEq] at h
    obtain ⟨h1, h2, h3⟩ := h
    cases hz : i.zero with
    | none => rw [hz] at h1; cases h1
    | some z => rw [hz] at h1; exact ⟨i, z, rfl, hz, by simpa using h1, h2, h3⟩
theorem drew_setCells (b : Nat) : ∀ (vs : List Value) (o : Nat) (w : World), (w.setCells b o vs).drew = w.drew.setCells b o vs
  | [], _, _ => rfl
  | v :: r, o, w => by rw [World.setCells, World.setCells, drew_setCells b r]; rfl
/-- cells that are stored in a block of which none is frozen -/
theorem store_at {P : Program} (w : World) (b o : Nat) (cc : Array Value) (T : TypeId) (fz : Nat × Nat) (vs : List Value) (hb : w.heap[b]? = some (.cells cc T fz)) (hf : fz.1 = fz.2) (hr : o + vs.length ≤ cc.size) (h1 : ∀ v ∈ vs, v.oneCell' = true) :
    (storeCells ⟨b, o, none⟩ vs).run P w = .ok () (w.setCells b o vs) := by
  have := run_storeCells_cells (P := P) b o vs 0 w
    (fun j hj => by simp only [World.cell?, hb, Nat.add_zero]; simp; omega)
    (fun j hj => by obtain ⟨lo, hi⟩ := fz; simp only at hf; subst hf; simp only [World.frozen?, hb, Nat.add_zero]; simp <;> omega) h1
  simpa using this

set_option maxHeartbeats 4000000 in
set_option maxRecDepth 100000 in
theorem room (b n cap vb vc : Nat) (cc vv : Array Value) (fz fv : Nat × Nat) (w : World) (hn : 1 ≤ n) (hn2 : n < 1000) (hroom : n + 1 ≤ cap) (hcap : cap * 42 ≤ cc.size) (hvs : 42 ≤ vv.size) (hne : vb ≠ b)
    (hb : w.heap[b]? = some (.cells cc 65 fz)) (hv : w.heap[vb]? = some (.cells vv 65 fv)) (hfz : fz.1 = fz.2) (hfv : fv.1 = fv.2) (h1c : ∀ v ∈ cc.toList.take (n * 42), v.oneCell' = true) (h1v : ∀ v ∈ vv.toList.take 42, v.oneCell' = true) :
    Calls Tryz.prog 209 #[.slice (some ⟨b, 0, none⟩) n cap, .int .i64 0, .slice (some ⟨vb, 0, none⟩) 1 vc] w fun e w' =>
      e = .returned (.slice (some ⟨b, 0, none⟩) (n + 1) cap) ∧ w' = (w.drew.setCells b 42 (cc.toList.take (n * 42))).setCells b 0 (vv.toList.take 42) := by
  obtain ⟨i0, z, hi, hz, hzc, hsz, hby⟩ := infoR_parts
  have hsize : ∀ w, (sizeOf 65).run Tryz.prog w = .ok 42 w := fun w => by simp [sizeOf, typeInfo, hi, hsz]
  have hfzf : ∀ (x : Nat), w.frozen? ⟨b, x, none⟩ = false := fun x => by obtain ⟨lo, h⟩ := fz; simp only at hfz; subst hfz; simp only [World.frozen?, hb]; simp <;> omega
  have hfvf : ∀ (x : Nat), w.frozen? ⟨vb, x, none⟩ = false := fun x => by obtain ⟨lo, h⟩ := fv; simp only at hfv; subst hfv; simp only [World.frozen?, hv]; simp <;> omega
  have hmul : (n + 1) * 42 ≤ cap * 42 := Nat.mul_le_mul_right _ hroom
  have hov : ∀ lb cb, (callFunc 257 #[.slice (some ⟨vb, 0, none⟩) 1 vc, .slice (some ⟨b, 42, none⟩) lb cb]).run Tryz.prog w = .ok (.value (.bool false)) w := fun lb cb => by
    rw [run_callFunc_extern Tryz.func257 (by kernel_rfl) (by kernel_rfl) (by kernel_rfl) (e := Extern.SlicesOverlaps.overlaps #[128, 128] #[4]) (by kernel_rfl),
      Lib.run_overlaps_apart w 128 4 65 Tryz.underlying128 42 hsize ⟨vb, 0, none⟩ ⟨b, 42, none⟩ 1 vc lb cb hne 65 65 vv.size cc.size (by simp [World.shape?, hv]) (by simp [World.shape?, hb]) (by omega) (hfvf _) (hfvf _)]
    rfl
  have hl1 : (cc.toList.take (n * 42)).length = n * 42 := by simp; omega
  have hcp1 : ∀ ty dc sc, (Builtin.copy_ #[128, 128] ty #[.slice (some ⟨b, 42, none⟩) n dc, .slice (some ⟨b, 0, none⟩) (n + 1) sc]).run Tryz.prog w.drew = .ok (goInt n) (w.drew.setCells b 42 (cc.toList.take (n * 42))) := fun ty dc sc => by
    have hmin : Nat.min (n + 1) n = n := Nat.min_eq_right (by omega)
    have := copy_run (P := Tryz.prog) w.drew (w.drew.setCells b 42 (cc.toList.take (n * 42))) ty 128 128 65 42 Tryz.underlying128 hi hsz ⟨b, 42, none⟩ ⟨b, 0, none⟩ n dc (n + 1) sc (cc.toList.take (n * 42)).toArray
      (by rw [hmin]; have := loadCells_ok (P := Tryz.prog) (w := w.drew) (b := b) (o := 0) (n := n * 42) (cc := cc) hb (by omega); simpa using this)
      (by rw [List.toList_toArray]; exact store_at w.drew b 42 cc _ fz _ hb hfz (by rw [hl1]; omega) h1c)
    rwa [hmin] at this
  obtain ⟨W1, hW1⟩ : ∃ W1, W1 = w.drew.setCells b 42 (cc.toList.take (n * 42)) := ⟨_, rfl⟩
  obtain ⟨⟨cc1, hc1, hc2⟩, hoth, hs1, _, _, _⟩ := setCells_at b 65 fz (cc.toList.take (n * 42)) 42 w.drew cc hb (by rw [hl1]; omega)
  have hcs : cc1.size = cc.size := by
    have h := congrArg List.length hc2
    simp only [List.length_append, hl1, List.length_take, List.length_drop, Array.length_toList] at h
    omega
  have hcp2 : ∀ (W : World), W.heap = W1.heap → ∀ ty dl dc, 1 ≤ dl → (Builtin.copy_ #[128, 128] ty #[.slice (some ⟨b, 0, none⟩) dl dc, .slice (some ⟨vb, 0, none⟩) 1 vc]).run Tryz.prog W = .ok (goInt 1) (W.setCells b 0 (vv.toList.take 42)) := fun W hW ty dl dc hdl => by
    have hmin : Nat.min 1 dl = 1 := Nat.min_eq_left hdl
    have := copy_run (P := Tryz.prog) W (W.setCells b 0 (vv.toList.take 42)) ty 128 128 65 42 Tryz.underlying128 hi hsz ⟨b, 0, none⟩ ⟨vb, 0, none⟩ dl dc 1 vc (vv.toList.take 42).toArray
      (by rw [hmin]; have := loadCells_ok (P := Tryz.prog) (w := W) (b := vb) (o := 0) (n := 1 * 42) (cc := vv) (by rw [hW, hW1, hoth _ hne]; exact hv) (by omega); simpa using this)
      (by rw [List.toList_toArray]; exact store_at W b 0 cc1 _ fz _ (by rw [hW, hW1]; exact hc1) hfz (by rw [hcs]; simp; omega) h1v)
    rwa [hmin] at this
  rw [← hW1] at hcp1
  have hz2 : ¬ ((0 : Int) = (n : Int)) := by omega
  have hw1 : IntKind.i64.wrap 1 = 1 := by rw [IntKind.wrap_i64]; omega
  have hb1 : (1 : Int) ≤ (n : Int) + 1 := by omega
  have hb2 : (1 : Nat) ≤ n + 1 := by omega
  have hb0 : (0 : Int) ≤ (n : Int) + 1 := by omega
  have hb3 : (0 : Int) ≤ (n : Int) := by omega
  have hz3 : ¬ ((cap : Int) < (n : Int) + 1) := by omega
  have hz4 : ¬ (cap = 0) := by omega
  have hz5 : ¬ (cap = 1) := by omega
  clear hoth hc1 hc2 hcs hs1
  go_enter Tryz.func209, Tryz.ntmps209
  go_wp2_with (simp only [hov])
  go_region_law (refine step_call_run (b := .copy) rfl rfl (by simp [Act.eval, Act.put]) (by simp [Act.eval, Act.put]) (fun _ => copy_b (hcp1 _ (cap - 1) cap)) ?_)
  go_wp2_with (at_builtin; refine wpList_call_run _ (b := .copy) rfl rfl rfl rfl (fun _ => copy_b (hcp2 _ rfl _ _ _ (by omega))) ?_)
  go_ret
  first | exact ⟨rfl, rfl⟩ | exact ⟨rfl, by rw [hW1]⟩

set_option maxHeartbeats 4000000 in
set_option maxRecDepth 100000 in
theorem grown (b n vb vc : Nat) (cc vv : Array Value) (fz fv : Nat × Nat) (w : World) (hn : 1 ≤ n) (hn2 : n < 1000) (hcap : n * 42 ≤ cc.size) (hvs : 42 ≤ vv.size) (hne : vb ≠ b)
    (hb : w.heap[b]? = some (.cells cc 65 fz)) (hv : w.heap[vb]? = some (.cells vv 65 fv)) (h1c : ∀ v ∈ cc.toList.take (n * 42), v.oneCell' = true) (h1v : ∀ v ∈ vv.toList.take 42, v.oneCell' = true) :
    Calls Tryz.prog 209 #[.slice (some ⟨b, 0, none⟩) n n, .int .i64 0, .slice (some ⟨vb, 0, none⟩) 1 vc] w fun e w' =>
      ∃ (G : Nat) (R : Array Value), n + 1 ≤ G ∧ G * 42 ≤ R.size ∧ e = .returned (.slice (some ⟨w.heap.size, 0, none⟩) (n + 1) G) ∧ ∃ (w1 w2 : World), w1.heap = w.heap.push (.cells R 65) ∧ w1.os = w.os ∧ w1.tape = w.tape ∧ w1.output = w.output ∧
        w2 = (w1.setCells w.heap.size 0 (vv.toList.take 42)).setCells w.heap.size 42 (cc.toList.take (n * 42)) ∧ w'.heap = w2.heap ∧ w'.os = w2.os ∧ w'.tape = w2.tape ∧ w'.output = w2.output := by
  obtain ⟨i0, z, hi, hz, hzc, hsz, hby⟩ := infoR_parts
  have hbl : b < w.heap.size := (Array.getElem?_eq_some_iff.1 hb).1
  have hvl : vb < w.heap.size := (Array.getElem?_eq_some_iff.1 hv).1
  have hrl : (repL z.cells.toList (n + 1)).length = (n + 1) * 42 := by rw [rep_len, Array.length_toList, hzc]
  obtain ⟨G, hG⟩ : ∃ G, G = grownCap w (n + 1) n 65 := ⟨_, rfl⟩
  obtain ⟨R, hR⟩ : ∃ R : Array Value, R = #[] ++ (repL z.cells.toList (n + 1)).toArray ++ Builtin.zeroCells z.cells (G - (n + 1)) := ⟨_, rfl⟩
  have hGn : n + 1 ≤ G := by rw [hG]; exact grownCap_ge w _ _ _
  have hRs : R.size = G * 42 := by
    rw [hR, zeroCells_eq]
    simp only [Array.size_append, List.size_toArray, rep_len, Array.length_toList, hzc]
    simp
    omega
  have hap : ∀ ty, (Builtin.append_ #[128, 3] ty #[.slice (some ⟨b, 0, none⟩) 0 n, .int .i64 ((n : Int) + 1)]).run Tryz.prog w = .ok (.slice (some ⟨w.heap.size, 0, none⟩) (n + 1) G) (w.drew.alloc (.cells R 65)) := fun ty => by
    have := append_grows (P := Tryz.prog) (w := w) (ts := #[128, 3]) (ty := ty) (st := 128) (xt := 3) (elem := 65) (xd := .int .i64) (i := i0) (z := z) (size := 42) (n := n + 1) (sLen := 0) (cap' := n) (base' := some ⟨b, 0, none⟩) (x' := .int .i64 ((n + 1 : Nat) : Int))
      (new' := (repL z.cells.toList (n + 1)).toArray) (old' := #[]) rfl Tryz.underlying128 rfl Tryz.underlying3 hi hsz hz (by omega) (.inl ⟨_, rfl, rfl, by omega, rfl, by simpa using hrl⟩) (fun h => absurd rfl (h .i64)) (by omega) (by omega)
      (by simp only [Builtin.firstCells, Nat.zero_mul, loadCells_zero])
    simp only [Nat.zero_add, ← hG, ← hR] at this
    exact this
  obtain ⟨W1, hW1⟩ : ∃ W1, W1 = w.drew.alloc (.cells R 65) := ⟨_, rfl⟩
  have hWh : W1.heap = w.heap.push (.cells R 65) := by rw [hW1]; rfl
  have hWb : W1.heap[b]? = some (.cells cc 65 fz) := by rw [hWh, Array.getElem?_push]; split; omega; exact hb
  have hWv : W1.heap[vb]? = some (.cells vv 65 fv) := by rw [hWh, Array.getElem?_push]; split; omega; exact hv
  have hWN : W1.heap[w.heap.size]? = some (.cells R 65) := by rw [hWh]; simp
  have hl1 : (cc.toList.take (n * 42)).length = n * 42 := by simp; omega
  have hl2 : (vv.toList.take 42).length = 42 := by simp; omega
  have hG42 : (n + 1) * 42 ≤ G * 42 := Nat.mul_le_mul_right _ hGn
  have hcpA : ∀ (W : World), W.heap = W1.heap → ∀ ty dc, (Builtin.copy_ #[128, 128] ty #[.slice (some ⟨w.heap.size, 0, none⟩) (n + 1) dc, .slice (some ⟨vb, 0, none⟩) 1 vc]).run Tryz.prog W = .ok (goInt 1) (W.setCells w.heap.size 0 (vv.toList.take 42)) := fun W hW ty dc => by
    have hmin : Nat.min 1 (n + 1) = 1 := Nat.min_eq_left (by omega)
    have := copy_run (P := Tryz.prog) W (W.setCells w.heap.size 0 (vv.toList.take 42)) ty 128 128 65 42 Tryz.underlying128 hi hsz ⟨w.heap.size, 0, none⟩ ⟨vb, 0, none⟩ (n + 1) dc 1 vc (vv.toList.take 42).toArray
      (by rw [hmin]; have := loadCells_ok (P := Tryz.prog) (w := W) (b := vb) (o := 0) (n := 1 * 42) (cc := vv) (by rw [hW]; exact hWv) (by omega); simpa using this)
      (by rw [List.toList_toArray]; exact store_at W w.heap.size 0 R _ (0, 0) _ (by rw [hW]; exact hWN) rfl (by rw [hl2]; omega) h1v)
    rwa [hmin] at this
  obtain ⟨⟨R1, hR1, hR2⟩, hoth, hs1, _, _, _⟩ := setCells_at w.heap.size 65 (0, 0) (vv.toList.take 42) 0 W1 R hWN (by rw [hl2]; omega)
  have hR1s : R1.size = R.size := by
    have h := congrArg List.length hR2
    simp only [List.length_append, hl2, List.length_take, List.length_drop, Array.length_toList] at h
    omega
  have hcpB : ∀ (W : World), W.heap = (W1.setCells w.heap.size 0 (vv.toList.take 42)).heap → ∀ ty dc sc, (Builtin.copy_ #[128, 128] ty #[.slice (some ⟨w.heap.size, 42, none⟩) n dc, .slice (some ⟨b, 0, none⟩) n sc]).run Tryz.prog W = .ok (goInt n) (W.setCells w.heap.size 42 (cc.toList.take (n * 42))) := fun W hW ty dc sc => by
    have hmin : Nat.min n n = n := Nat.min_self n
    have := copy_run (P := Tryz.prog) W (W.setCells w.heap.size 42 (cc.toList.take (n * 42))) ty 128 128 65 42 Tryz.underlying128 hi hsz ⟨w.heap.size, 42, none⟩ ⟨b, 0, none⟩ n dc n sc (cc.toList.take (n * 42)).toArray
      (by rw [hmin]; have := loadCells_ok (P := Tryz.prog) (w := W) (b := b) (o := 0) (n := n * 42) (cc := cc) (by rw [hW, hoth b (by omega)]; exact hWb) (by omega); simpa using this)
      (by rw [List.toList_toArray]; exact store_at W w.heap.size 42 R1 _ (0, 0) _ (by rw [hW]; exact hR1) rfl (by rw [hl1, hR1s]; omega) h1c)
    rwa [hmin] at this
  rw [← hW1] at hap
  have hz2 : ¬ ((0 : Int) = (n : Int)) := by omega
  have hw1 : IntKind.i64.wrap 1 = 1 := by rw [IntKind.wrap_i64]; omega
  have hb1 : (1 : Int) ≤ (n : Int) + 1 := by omega
  have hb2 : (1 : Nat) ≤ n + 1 := by omega
  have hb0 : (0 : Int) ≤ (n : Int) + 1 := by omega
  have hb3 : (0 : Int) ≤ (n : Int) := by omega
  have hz3 : (n : Int) < (n : Int) + 1 := by omega
  have hGz : ¬ (G = 0) := by omega
  have hG1 : ¬ (G = 1) := by omega
  have hn0 : ¬ (n = 0) := by omega
  clear hoth hR1 hR2 hR1s hs1 hG hR hWh hWb hWv hWN
  go_enter Tryz.func209, Tryz.ntmps209
  go_wp2_with (at_builtin; refine wpList_call_run _ (b := .append) rfl rfl rfl rfl (fun _ => append_b (hap _)) ?_)
  subst hW1
  have hE : ((w.alloc (.cells R 65)).drew.setCells w.heap.size 0 (List.take 42 vv.toList)).drew.heap = ((w.drew.alloc (.cells R 65)).setCells w.heap.size 0 (vv.toList.take 42)).heap := rfl
  go_region_law (refine step_call_run (b := .copy) rfl rfl (by simp [Act.eval, Act.put]) (by simp [Act.eval, Act.put]) (fun _ => copy_b (hcpB _ hE _ (G - 1) n)) ?_)
  go_wp2_with fail
  go_ret
  refine ⟨G, R, hGn, by omega, rfl, w.drew.alloc (.cells R 65), _, rfl, rfl, rfl, rfl, rfl, ?_⟩
  have e1 : (w.alloc (.cells R 65)).drew = w.drew.alloc (.cells R 65) := rfl
  rw [e1, ← drew_setCells]
  exact ⟨rfl, rfl, rfl, rfl⟩

theorem content1 {c1 c2 cc B C : List Value} {k m : Nat} (hB : B.length = k) (hC : C.length = m) (hk : k ≤ cc.length) (h1 : c1 = cc.take k ++ C ++ cc.drop (k + C.length)) (h2 : c2 = c1.take 0 ++ B ++ c1.drop (0 + B.length)) : c2.take (k + m) = B ++ C := by
  have hl : (cc.take k).length = k := by simp; omega
  have e1 : c1.drop k = C ++ cc.drop (k + C.length) := by rw [h1, List.append_assoc, List.drop_append_of_le_length (by omega), List.drop_of_length_le (by omega), List.nil_append]
  rw [h2, Nat.zero_add, hB, e1, List.take_zero, List.nil_append, ← List.append_assoc]
  rw [List.take_append_of_le_length (by simp; omega), List.take_of_length_le (by simp; omega)]
theorem content2 {c1 c2 cc B C : List Value} {k m : Nat} (hB : B.length = k) (hC : C.length = m) (h1 : c1 = cc.take 0 ++ B ++ cc.drop (0 + B.length)) (h2 : c2 = c1.take k ++ C ++ c1.drop (k + C.length)) : c2.take (k + m) = B ++ C := by
  have e1 : c1.take k = B := by rw [h1, List.take_zero, List.nil_append, List.take_append_of_le_length (by omega), List.take_of_length_le (by omega)]
  rw [h2, e1, List.take_append_of_le_length (by simp; omega), List.take_of_length_le (by simp; omega)]
theorem insert_spec : InsertSpec Tryz.prog 209 65 42 := by
  intro b n cap vb vc cc vv fz fv w h1 h2 h3 h4 h5 h6 h7 h8 h9 h10 h11 h12
  have hmn : n * 42 ≤ cap * 42 := Nat.mul_le_mul_right _ h3
  have hl1 : (cc.toList.take (n * 42)).length = n * 42 := by simp; omega
  have hl2 : (vv.toList.take 42).length = 42 := by simp; omega
  have hsum : (n + 1) * 42 = 42 + n * 42 := by omega
  by_cases hr : n + 1 ≤ cap
  · have hmr : (n + 1) * 42 ≤ cap * 42 := Nat.mul_le_mul_right _ hr
    refine (room b n cap vb vc cc vv fz fv w h1 h2 hr h4 h5 h6 h7 h8 h9 h10 h11 h12).mono ?_
    rintro e w' ⟨rfl, rfl⟩
    obtain ⟨⟨c1, a1, a2⟩, a3, a4, a5, a6, a7⟩ := setCells_at b 65 fz (cc.toList.take (n * 42)) 42 w.drew cc h7 (by rw [hl1]; omega)
    have hc1 : c1.size = cc.size := by
      have h := congrArg List.length a2
      simp only [List.length_append, hl1, List.length_take, List.length_drop, Array.length_toList] at h
      omega
    obtain ⟨⟨c2, b1, b2⟩, b3, b4, b5, b6, b7⟩ := setCells_at b 65 fz (vv.toList.take 42) 0 _ c1 a1 (by rw [hl2]; omega)
    have hc2 : c2.size = cc.size := by
      have h := congrArg List.length b2
      simp only [List.length_append, hl2, List.length_take, List.length_drop, Array.length_toList] at h
      omega
    exact ⟨b, cap, c2, fz, rfl, hr, by omega, h9, b1, by rw [hsum]; exact content1 hl2 hl1 (by simp; omega) a2 b2, .inl ⟨rfl, by rw [b4, a4]; rfl, fun k hk => by rw [b3 k hk, a3 k hk]; rfl, by rw [b5, a5]; rfl, by rw [b6, a6]; rfl, by rw [b7, a7]; rfl⟩⟩
  · obtain rfl : cap = n := by omega
    refine (grown b cap vb vc cc vv fz fv w h1 h2 h4 h5 h6 h7 h8 h11 h12).mono ?_
    rintro e w' ⟨G, R, g1, g2, rfl, w1, w2, k1, k2, k3, k4, rfl, k5, k6, k7, k8⟩
    have hmr : (cap + 1) * 42 ≤ G * 42 := Nat.mul_le_mul_right _ g1
    obtain ⟨⟨c1, a1, a2⟩, a3, a4, a5, a6, a7⟩ := setCells_at w.heap.size 65 (0, 0) (vv.toList.take 42) 0 w1 R (by rw [k1]; simp) (by rw [hl2]; omega)
    have hc1 : c1.size = R.size := by
      have h := congrArg List.length a2
      simp only [List.length_append, hl2, List.length_take, List.length_drop, Array.length_toList] at h
      omega
    obtain ⟨⟨c2, b1, b2⟩, b3, b4, b5, b6, b7⟩ := setCells_at w.heap.size 65 (0, 0) (cc.toList.take (cap * 42)) 42 _ c1 a1 (by rw [hl1]; omega)
    have hc2 : c2.size = R.size := by
      have h := congrArg List.length b2
      simp only [List.length_append, hl1, List.length_take, List.length_drop, Array.length_toList] at h
      omega
    refine ⟨w.heap.size, G, c2, (0, 0), rfl, g1, by omega, rfl, by rw [k5]; exact b1, by rw [hsum]; exact content2 hl2 hl1 a2 b2, .inr ⟨Nat.le_refl _, ⟨by rw [k6, b5, a5, k2], by rw [k7, b6, a6, k3], by rw [k8, b7, a7, k4], by rw [k5, b4, a4, k1]; simp, fun k hk => ?_⟩⟩⟩
    rw [k5, b3 k (by omega), a3 k (by omega), k1, Array.getElem?_push, if_neg (by omega)]
end Go.Proofs.YtoddlefhlicfiaaGreatDoorR.InsertDev
