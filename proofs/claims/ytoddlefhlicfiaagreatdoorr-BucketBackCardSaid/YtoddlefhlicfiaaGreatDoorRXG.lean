/- The executor, part G: its texts one behind the other (see each head). No statement of the seat stands here. -/
import Derived.Test.YtoddlefhlicfiaaGreatDoorRXF
import Derived.Laws.Append
set_option linter.unusedVariables false
set_option linter.unusedSimpArgs false
/- The digest's block: what it computes, in words of 32 bits, and the same in numbers, quick for the kernel. -/
set_option linter.unusedVariables false
namespace Go.Proofs.YtoddlefhlicfiaaGreatDoorR.X
open Go

/- in words -/
def rotW (x : BitVec 32) (k : Nat) : BitVec 32 := x <<< (32 - k) ||| x >>> k
structure W8 where
  a : BitVec 32
  b : BitVec 32
  c : BitVec 32
  d : BitVec 32
  e : BitVec 32
  f : BitVec 32
  g : BitVec 32
  h : BitVec 32
def W8.list (x : W8) : List (BitVec 32) := [x.a, x.b, x.c, x.d, x.e, x.f, x.g, x.h]
/-- four bytes, a word -/
def word4 (a b c d : BitVec 8) : BitVec 32 := a.setWidth 32 <<< 24 ||| b.setWidth 32 <<< 16 ||| c.setWidth 32 <<< 8 ||| d.setWidth 32
def wordAt (bs : List (BitVec 8)) (t : Nat) : BitVec 32 := word4 (bs.getD (4 * t) 0) (bs.getD (4 * t + 1) 0) (bs.getD (4 * t + 2) 0) (bs.getD (4 * t + 3) 0)
/-- the first words, the newest one first -/
def fillR (bs : List (BitVec 8)) : Nat → List (BitVec 32)
  | 0 => []
  | t + 1 => wordAt bs t :: fillR bs t
def sig0 (x : BitVec 32) : BitVec 32 := rotW x 7 ^^^ rotW x 18 ^^^ x >>> 3
def sig1 (x : BitVec 32) : BitVec 32 := rotW x 17 ^^^ rotW x 19 ^^^ x >>> 10
def nextW (R : List (BitVec 32)) : BitVec 32 := sig1 (R.getD 1 0) + R.getD 6 0 + sig0 (R.getD 14 0) + R.getD 15 0
def moreR (R : List (BitVec 32)) : Nat → List (BitVec 32)
  | 0 => R
  | k + 1 => nextW (moreR R k) :: moreR R k
def stepW (x : W8) (p : BitVec 32 × BitVec 32) : W8 :=
  let t1 := x.h + (rotW x.e 6 ^^^ rotW x.e 11 ^^^ rotW x.e 25) + (x.e &&& x.f ^^^ ~~~x.e &&& x.g) + p.1 + p.2
  let t2 := (rotW x.a 2 ^^^ rotW x.a 13 ^^^ rotW x.a 22) + (x.a &&& x.b ^^^ x.a &&& x.c ^^^ x.b &&& x.c)
  { a := t1 + t2, b := x.a, c := x.b, d := x.c, e := x.d + t1, f := x.e, g := x.f, h := x.g }
def addW (x y : W8) : W8 := { a := x.a + y.a, b := x.b + y.b, c := x.c + y.c, d := x.d + y.d, e := x.e + y.e, f := x.f + y.f, g := x.g + y.g, h := x.h + y.h }
def schedW (bs : List (BitVec 8)) : List (BitVec 32) := (moreR (fillR bs 16) 48).reverse
def blockW (h : W8) (bs : List (BitVec 8)) (ks : List (BitVec 32)) : W8 := addW h ((ks.zip (schedW bs)).foldl stepW h)

/- in numbers -/
noncomputable def force {α : Type} (n : Nat) (k : Nat → α) : α := Nat.rec (k 0) (fun m _ => k (Nat.succ m)) n
theorem force_eq {α : Type} (n : Nat) (k : Nat → α) : force n k = k n := by cases n <;> rfl
def m32 (n : Nat) : Nat := Nat.mod n 4294967296
def rotN (m k s : Nat) : Nat := Nat.lor (m32 (Nat.shiftLeft m s)) (Nat.shiftRight m k)
noncomputable def getN (l : List Nat) : Nat → Nat := List.rec (fun _ => 0) (fun a _ r i => Nat.rec a (fun j _ => r j) i) l
def wordN (a b c d : Nat) : Nat := Nat.lor (Nat.lor (Nat.lor (m32 (Nat.shiftLeft a 24)) (m32 (Nat.shiftLeft b 16))) (m32 (Nat.shiftLeft c 8))) d
noncomputable def wordsN (acc : List Nat) : List Nat → List Nat
  | a :: b :: c :: d :: r => force (wordN a b c d) fun w => wordsN (w :: acc) r
  | _ => acc
def sig0N (x : Nat) : Nat := Nat.xor (Nat.xor (rotN x 7 25) (rotN x 18 14)) (Nat.shiftRight x 3)
def sig1N (x : Nat) : Nat := Nat.xor (Nat.xor (rotN x 17 15) (rotN x 19 13)) (Nat.shiftRight x 10)
noncomputable def nextN (R : List Nat) : Nat := m32 (Nat.add (Nat.add (Nat.add (sig1N (getN R 1)) (getN R 6)) (sig0N (getN R 14))) (getN R 15))
noncomputable def moreN (R : List Nat) : Nat → List Nat
  | 0 => R
  | k + 1 => force (nextN R) fun w => moreN (w :: R) k
noncomputable def roundsN : List Nat → List Nat → Nat → Nat → Nat → Nat → Nat → Nat → Nat → Nat → List Nat
  | k :: ks, w :: ws, a, b, c, d, e, f, g, h =>
    force (m32 (Nat.add (Nat.add (Nat.add (Nat.add h (Nat.xor (Nat.xor (rotN e 6 26) (rotN e 11 21)) (rotN e 25 7))) (Nat.xor (Nat.land e f) (Nat.land (Nat.sub 4294967295 e) g))) k) w)) fun t1 =>
      force (m32 (Nat.add t1 (Nat.add (Nat.xor (Nat.xor (rotN a 2 30) (rotN a 13 19)) (rotN a 22 10)) (Nat.xor (Nat.xor (Nat.land a b) (Nat.land a c)) (Nat.land b c))))) fun na =>
        force (m32 (Nat.add d t1)) fun ne => roundsN ks ws na a b c ne e f g
  | _, _, a, b, c, d, e, f, g, h => [a, b, c, d, e, f, g, h]
noncomputable def zipAdd : List Nat → List Nat → List Nat
  | a :: l, b :: r => force (m32 (Nat.add a b)) fun s => s :: zipAdd l r
  | _, _ => []
noncomputable def blockN (h bs ks : List Nat) : List Nat := match h with
  | [a, b, c, d, e, f, g, i] => zipAdd h (roundsN ks (List.reverse (moreN (wordsN [] bs) 48)) a b c d e f g i)
  | _ => []

theorem m32_lt (n : Nat) : m32 n < 4294967296 := Nat.mod_lt _ (by decide)
theorem rotN_eq (x : BitVec 32) {k s : Nat} (h : s + k = 32) : rotN x.toNat k s = (rotW x k).toNat := by
  have hs : 32 - k = s := by omega
  simp only [rotN, rotW, m32, hs, BitVec.toNat_or, BitVec.toNat_shiftLeft, BitVec.toNat_ushiftRight]
  rfl
theorem sig0N_eq (x : BitVec 32) : sig0N x.toNat = (sig0 x).toNat := by
  simp only [sig0N, sig0, rotN_eq x (show 25 + 7 = 32 from rfl), rotN_eq x (show 14 + 18 = 32 from rfl), BitVec.toNat_xor, BitVec.toNat_ushiftRight]
  rfl
theorem sig1N_eq (x : BitVec 32) : sig1N x.toNat = (sig1 x).toNat := by
  simp only [sig1N, sig1, rotN_eq x (show 15 + 17 = 32 from rfl), rotN_eq x (show 13 + 19 = 32 from rfl), BitVec.toNat_xor, BitVec.toNat_ushiftRight]
  rfl
theorem getN_eq : ∀ (l : List (BitVec 32)) (i : Nat), getN (l.map (·.toNat)) i = (l.getD i 0).toNat
  | [], i => by simp [getN]
  | a :: l, 0 => rfl
  | a :: l, i + 1 => by
    have := getN_eq l i
    simp only [List.getD_cons_succ]
    exact this
theorem nextN_eq (R : List (BitVec 32)) : nextN (R.map (·.toNat)) = (nextW R).toNat := by
  simp only [nextN, nextW, getN_eq, sig0N_eq, sig1N_eq, BitVec.toNat_add, m32]
  show (_ + _ + _ + _) % 4294967296 = _
  omega
theorem moreN_eq : ∀ (k : Nat) (R : List (BitVec 32)) (j : Nat), moreN ((moreR R j).map (·.toNat)) k = (moreR R (j + k)).map (·.toNat)
  | 0, R, j => rfl
  | k + 1, R, j => by
    rw [show j + (k + 1) = (j + 1) + k from by omega, ← moreN_eq k R (j + 1)]
    simp only [moreN, force_eq, nextN_eq]
    rfl
theorem wordN_eq (a b c d : BitVec 8) : wordN a.toNat b.toNat c.toNat d.toNat = (word4 a b c d).toNat := by
  have w : ∀ x : BitVec 8, x.toNat % 2 ^ 32 = x.toNat := fun x => Nat.mod_eq_of_lt (Nat.lt_of_lt_of_le x.isLt (by decide))
  simp only [wordN, word4, m32, BitVec.toNat_or, BitVec.toNat_shiftLeft, BitVec.toNat_setWidth, w]
  rfl
theorem wordsN_eq (bs : List (BitVec 8)) : ∀ (n t : Nat), 4 * (t + n) = bs.length → wordsN ((fillR bs t).map (·.toNat)) ((bs.drop (4 * t)).map (·.toNat)) = (fillR bs (t + n)).map (·.toNat)
  | 0, t, h => by
    rw [List.drop_of_length_le (by omega)]
    rfl
  | n + 1, t, h => by
    have e0 : bs.drop (4 * t) = bs.getD (4 * t) 0 :: bs.getD (4 * t + 1) 0 :: bs.getD (4 * t + 2) 0 :: bs.getD (4 * t + 3) 0 :: bs.drop (4 * (t + 1)) := by
      have g : ∀ i, i < bs.length → bs.drop i = bs.getD i 0 :: bs.drop (i + 1) := fun i hi => by
        rw [List.drop_eq_getElem_cons hi, List.getD_eq_getElem?_getD, List.getElem?_eq_getElem hi]; rfl
      rw [g (4 * t) (by omega), g (4 * t + 1) (by omega), g (4 * t + 1 + 1) (by omega), g (4 * t + 1 + 1 + 1) (by omega)]
      rfl
    rw [e0]
    simp only [List.map_cons, wordsN, force_eq, wordN_eq]
    have := wordsN_eq bs n (t + 1) (by omega)
    rw [show t + (n + 1) = t + 1 + n from by omega]
    exact this
theorem stepN_1 (x : W8) (k w : BitVec 32) : m32 (Nat.add (Nat.add (Nat.add (Nat.add x.h.toNat (Nat.xor (Nat.xor (rotN x.e.toNat 6 26) (rotN x.e.toNat 11 21)) (rotN x.e.toNat 25 7))) (Nat.xor (Nat.land x.e.toNat x.f.toNat) (Nat.land (Nat.sub 4294967295 x.e.toNat) x.g.toNat))) k.toNat) w.toNat) =
    (x.h + (rotW x.e 6 ^^^ rotW x.e 11 ^^^ rotW x.e 25) + (x.e &&& x.f ^^^ ~~~x.e &&& x.g) + k + w).toNat := by
  have n : ∀ y : BitVec 32, Nat.sub 4294967295 y.toNat = (~~~y).toNat := fun y => by rw [BitVec.toNat_not]; rfl
  simp only [rotN_eq x.e (show 26 + 6 = 32 from rfl), rotN_eq x.e (show 21 + 11 = 32 from rfl), rotN_eq x.e (show 7 + 25 = 32 from rfl), n]
  have x1 : ∀ y z : BitVec 32, Nat.xor y.toNat z.toNat = (y ^^^ z).toNat := fun y z => (BitVec.toNat_xor ..).symm
  have x2 : ∀ y z : BitVec 32, Nat.land y.toNat z.toNat = (y &&& z).toNat := fun y z => (BitVec.toNat_and ..).symm
  simp only [x1, x2, BitVec.toNat_add, m32]
  show (_ + _ + _ + _ + _) % 4294967296 = _
  omega
theorem stepN_2 (x : W8) (t1 : BitVec 32) : m32 (Nat.add t1.toNat (Nat.add (Nat.xor (Nat.xor (rotN x.a.toNat 2 30) (rotN x.a.toNat 13 19)) (rotN x.a.toNat 22 10)) (Nat.xor (Nat.xor (Nat.land x.a.toNat x.b.toNat) (Nat.land x.a.toNat x.c.toNat)) (Nat.land x.b.toNat x.c.toNat)))) =
    (t1 + ((rotW x.a 2 ^^^ rotW x.a 13 ^^^ rotW x.a 22) + (x.a &&& x.b ^^^ x.a &&& x.c ^^^ x.b &&& x.c))).toNat := by
  simp only [rotN_eq x.a (show 30 + 2 = 32 from rfl), rotN_eq x.a (show 19 + 13 = 32 from rfl), rotN_eq x.a (show 10 + 22 = 32 from rfl)]
  have x1 : ∀ y z : BitVec 32, Nat.xor y.toNat z.toNat = (y ^^^ z).toNat := fun y z => (BitVec.toNat_xor ..).symm
  have x2 : ∀ y z : BitVec 32, Nat.land y.toNat z.toNat = (y &&& z).toNat := fun y z => (BitVec.toNat_and ..).symm
  simp only [x1, x2, BitVec.toNat_add, m32]
  show (_ + (_ + _)) % 4294967296 = _
  omega
theorem addN_eq (x y : BitVec 32) : m32 (Nat.add x.toNat y.toNat) = (x + y).toNat := by
  simp only [BitVec.toNat_add, m32]
  rfl
theorem roundsN_eq : ∀ (ks ws : List (BitVec 32)) (x : W8), roundsN (ks.map (·.toNat)) (ws.map (·.toNat)) x.a.toNat x.b.toNat x.c.toNat x.d.toNat x.e.toNat x.f.toNat x.g.toNat x.h.toNat = ((ks.zip ws).foldl stepW x).list.map (·.toNat)
  | [], ws, x => by
    cases ws <;> rfl
  | k :: ks, [], x => rfl
  | k :: ks, w :: ws, x => by
    have ih := roundsN_eq ks ws (stepW x (k, w))
    simp only [List.map_cons, roundsN, force_eq, List.zip_cons_cons, List.foldl_cons]
    rw [← ih, stepN_1, stepN_2, addN_eq]
    rfl
theorem blockN_eq (h : W8) (bs : List (BitVec 8)) (ks : List (BitVec 32)) (hb : bs.length = 64) : blockN (h.list.map (·.toNat)) (bs.map (·.toNat)) (ks.map (·.toNat)) = (blockW h bs ks).list.map (·.toNat) := by
  have e1 : wordsN [] (bs.map (·.toNat)) = (fillR bs 16).map (·.toNat) := wordsN_eq bs 16 0 (by omega)
  have e2 : moreN ((fillR bs 16).map (·.toNat)) 48 = (moreR (fillR bs 16) 48).map (·.toNat) := by
    have := moreN_eq 48 (fillR bs 16) 0
    rw [Nat.zero_add] at this
    exact this
  have e3 : List.reverse ((moreR (fillR bs 16) 48).map (·.toNat)) = (schedW bs).map (·.toNat) := by rw [schedW, List.map_reverse]
  show zipAdd _ (roundsN _ (List.reverse (moreN (wordsN [] (bs.map (·.toNat))) 48)) _ _ _ _ _ _ _ _) = _
  rw [e1, e2, e3, roundsN_eq]
  simp only [W8.list, List.map_cons, List.map_nil, zipAdd, force_eq, addN_eq]
  rfl
theorem moreR_len (R : List (BitVec 32)) : ∀ k, (moreR R k).length = R.length + k
  | 0 => rfl
  | k + 1 => by simp only [moreR, List.length_cons, moreR_len R k]; omega
theorem fillR_len (bs : List (BitVec 8)) : ∀ k, (fillR bs k).length = k
  | 0 => rfl
  | k + 1 => by simp only [fillR, List.length_cons, fillR_len bs k]
theorem schedW_len (bs : List (BitVec 8)) : (schedW bs).length = 64 := by simp [schedW, moreR_len, fillR_len]
end Go.Proofs.YtoddlefhlicfiaaGreatDoorR.X

/- The digest's block as an own answer, from what its walk gives. -/
set_option linter.unusedSimpArgs false
set_option linter.unusedVariables false
namespace Go.Proofs.YtoddlefhlicfiaaGreatDoorR.X
open Go Go.RowKit

def u32V (x : BitVec 32) : Value := .int .u32 (x.toNat : Int)
def u8V (x : BitVec 8) : Value := .int .u8 (x.toNat : Int)
/-- What block's walk gives. -/
def BlockSpec (P : Program) (f : Nat) : Prop := ∀ (h : W8) (bs : List (BitVec 8)) (ks : List (BitVec 32)) (b o n c : Nat) (w : World), bs.length = 64 → ks.length = 64 → 64 ≤ n → (∀ i, i < 64 → w.cell? ⟨b, o + i, none⟩ = some (u8V (bs.getD i 0))) →
  Calls P f #[.agg (h.list.map u32V).toArray, .slice (some ⟨b, o, none⟩) n c, .agg (ks.map u32V).toArray] w fun e w' => e = .returned (.agg ((blockW h bs ks).list.map u32V).toArray) ∧ Below w.heap.size w w'

def natsK (lim kk : Nat) : List Value → M (List Nat)
  | [] => .ok []
  | v :: r => match v with
    | .int k i => match i with
      | .ofNat n => match Nat.blt n lim && Nat.beq (kidx k) kk with
        | true => M.bnd (natsK lim kk r) fun l => .ok (n :: l)
        | false => .error "numbers"
      | .negSucc _ => .error "numbers"
    | _ => .error "numbers"
noncomputable def intsN : List Nat → List Value := List.rec [] (fun n _ r => .int .u32 (.ofNat n) :: r)
/-- the block -/
noncomputable def blockA (args : List Value) (s : St) : M (Value × St) := match args with
  | [x, y, z] => match x with
    | .agg h => match y with
      | .slice p n _ => match p with
        | some a => match z with
          | .agg k => match Nat.ble 64 n with
            | true => M.bnd (natsK 4294967296 6 h.toList) fun h => M.bnd (natsK 4294967296 6 k.toList) fun k => M.bnd (rd s a.block) fun b => M.bnd (rangeN b.c a.off 64) fun l => M.bnd (natsK 256 4 l) fun l =>
              match Nat.beq h.length 8 && Nat.beq k.length 64 with
              | true => .ok (.agg (intsN (blockN h l k)).toArray, s)
              | false => .error "block"
            | false => .error "block"
          | _ => .error "block"
        | none => .error "block"
      | _ => .error "block"
    | _ => .error "block"
  | _ => .error "block"

theorem natsK_u32 : ∀ {l : List Value} {ns : List Nat}, natsK 4294967296 6 l = .ok ns → ∃ xs : List (BitVec 32), l = xs.map u32V ∧ ns = xs.map (·.toNat)
  | [], ns, h => by cases h; exact ⟨[], rfl, rfl⟩
  | v :: r, ns, h => by
    unfold natsK at h
    split at h
    · rename_i k i
      split at h
      · rename_i n
        split at h
        · rename_i hc
          obtain ⟨l, h1, h⟩ := bnd_ok.1 h
          cases h
          obtain ⟨xs, rfl, rfl⟩ := natsK_u32 h1
          simp only [Bool.and_eq_true] at hc
          have hn : n < 4294967296 := by have := hc.1; rw [Nat.blt_eq] at this; exact this
          have hk : k = .u32 := kidx_eq (j := .u32) (Nat.eq_of_beq_eq_true hc.2)
          subst hk
          have e : (BitVec.ofNat 32 n).toNat = n := by rw [BitVec.toNat_ofNat]; exact Nat.mod_eq_of_lt hn
          refine ⟨BitVec.ofNat 32 n :: xs, ?_, ?_⟩
          · simp only [List.map_cons, u32V, e]; rfl
          · simp only [List.map_cons, e]
        · cases h
      · cases h
    · cases h
theorem natsK_u8 : ∀ {l : List Value} {ns : List Nat}, natsK 256 4 l = .ok ns → ∃ xs : List (BitVec 8), l = xs.map u8V ∧ ns = xs.map (·.toNat)
  | [], ns, h => by cases h; exact ⟨[], rfl, rfl⟩
  | v :: r, ns, h => by
    unfold natsK at h
    split at h
    · rename_i k i
      split at h
      · rename_i n
        split at h
        · rename_i hc
          obtain ⟨l, h1, h⟩ := bnd_ok.1 h
          cases h
          obtain ⟨xs, rfl, rfl⟩ := natsK_u8 h1
          simp only [Bool.and_eq_true] at hc
          have hn : n < 256 := by have := hc.1; rw [Nat.blt_eq] at this; exact this
          have hk : k = .u8 := kidx_eq (j := .u8) (Nat.eq_of_beq_eq_true hc.2)
          subst hk
          have e : (BitVec.ofNat 8 n).toNat = n := by rw [BitVec.toNat_ofNat]; exact Nat.mod_eq_of_lt hn
          refine ⟨BitVec.ofNat 8 n :: xs, ?_, ?_⟩
          · simp only [List.map_cons, u8V, e]; rfl
          · simp only [List.map_cons, e]
        · cases h
      · cases h
    · cases h
theorem flats_u32 : ∀ xs : List (BitVec 32), allFlat (xs.map u32V) = true
  | [] => rfl
  | _ :: xs => flats_u32 xs
theorem flats_u8 : ∀ xs : List (BitVec 8), allFlat (xs.map u8V) = true
  | [] => rfl
  | _ :: xs => flats_u8 xs
theorem intsN_eq : ∀ xs : List (BitVec 32), intsN (xs.map (·.toNat)) = xs.map u32V
  | [] => rfl
  | x :: xs => by
    have := intsN_eq xs
    show Value.int .u32 (.ofNat x.toNat) :: intsN (xs.map (·.toNat)) = _
    rw [this]; rfl
theorem W8.of_list {xs : List (BitVec 32)} (h : xs.length = 8) : ∃ x : W8, x.list = xs := by
  match xs, h with
  | [a, b, c, d, e, f, g, i], _ => exact ⟨⟨a, b, c, d, e, f, g, i⟩, rfl⟩
theorem LRel.flatten3 {σ : Sg} {D : Nat → Prop} {x y z : Value} {l : List Value} (h : LRel σ D [x, y, z] l) : ∃ x' y' z', l = [x', y', z'] ∧ VRel σ D x x' ∧ VRel σ D y y' ∧ VRel σ D z z' := by
  match l, h with
  | [a, b, c], h => exact ⟨a, b, c, rfl, h.1, h.2.1, h.2.2.1⟩
theorem block_call {C : Cx} {f : Nat} (hB : BlockSpec C.P f) {B : Nat} {args : List Value} {s s' : St} {v : Value} (h : blockA args s = .ok (v, s')) : CallOk C B f args s v s' := by
  unfold blockA at h
  split at h
  · split at h
    · rename_i ha
      split at h
      · rename_i p n c
        split at h
        · rename_i a
          split at h
          · rename_i ka
            split at h
            · rename_i hn
              obtain ⟨hs, h1, h⟩ := bnd_ok.1 h
              obtain ⟨ks, h2, h⟩ := bnd_ok.1 h
              obtain ⟨bl, h3, h⟩ := bnd_ok.1 h
              obtain ⟨cl, h4, h⟩ := bnd_ok.1 h
              obtain ⟨bs, h5, h⟩ := bnd_ok.1 h
              split at h
              · rename_i hlen
                cases h
                simp only [Bool.and_eq_true] at hlen
                obtain ⟨H, hH, rfl⟩ := natsK_u32 h1
                obtain ⟨K, hK, rfl⟩ := natsK_u32 h2
                obtain ⟨bb, hbb, rfl⟩ := natsK_u8 h5
                have l1 : H.length = 8 := by have := Nat.eq_of_beq_eq_true hlen.1; simpa using this
                have l2 : K.length = 64 := by have := Nat.eq_of_beq_eq_true hlen.2; simpa using this
                obtain ⟨x, rfl⟩ := W8.of_list l1
                have hn := Nat.le_of_ble_eq_true hn
                intro σ w args' hr hA
                obtain ⟨x', y', z', rfl, hx, hy, hz⟩ := LRel.flatten3 hA
                obtain ⟨hcs, rfl, hxl⟩ := hx.agg_inv
                obtain ⟨kcs, rfl, hzl⟩ := hz.agg_inv
                rw [hH] at hxl
                rw [hK] at hzl
                have ex := LRel.flats (flats_u32 _) hxl
                have ez := LRel.flats (flats_u32 _) hzl
                have ex : hcs = (x.list.map u32V).toArray := Array.ext' ex
                have ez : kcs = (K.map u32V).toArray := Array.ext' ez
                subst ex ez
                obtain ⟨_, _, _, _, cc, fz, g1, g2, _⟩ := hr.rd h3
                obtain ⟨g3, g4⟩ := g2.range h4
                rw [hbb] at g3
                have g5 := LRel.flats (flats_u8 _) g3
                have l3 : bb.length = 64 := by
                  have := congrArg List.length g5
                  rw [List.length_take, List.length_drop, List.length_map] at this
                  omega
                have cells : ∀ i, i < 64 → w.cell? ⟨(σ a.block).blk, a.off + i, none⟩ = some (u8V (bb.getD i 0)) := by
                  intro i hi
                  have e1 : (bb.map u8V)[i]? = some (u8V (bb.getD i 0)) := by
                    rw [List.getElem?_map, List.getD_eq_getElem?_getD, List.getElem?_eq_getElem (by omega)]; rfl
                  rw [← g5, List.getElem?_take, if_pos hi, List.getElem?_drop, Array.getElem?_toList] at e1
                  simp only [World.cell?, g1]
                  simp [e1]
                have key : ∃ c', y' = .slice (some ⟨(σ a.block).blk, a.off, none⟩) n c' := by
                  obtain ⟨_, _, q | ⟨_, _, c', _, _, q⟩ | ⟨_, q, o', _⟩⟩ := hy.slice_inv
                  · exact ⟨_, q.2⟩
                  · exact ⟨_, q⟩
                  · omega
                obtain ⟨c', rfl⟩ := key
                refine (hB x bb K _ _ n c' w l3 l2 hn cells).mono ?_
                rintro e w' ⟨rfl, hb⟩
                obtain ⟨k1, k2⟩ := hr.below hb
                refine ⟨_, σ, rfl, ?_, k1, k2⟩
                rw [blockN_eq x bb K l3, intsN_eq]
                exact LRel.agg (LRel.flats_refl (flats_u32 _))
              · cases h
            · cases h
          · cases h
        · cases h
      · cases h
    · cases h
  · cases h
end Go.Proofs.YtoddlefhlicfiaaGreatDoorR.X

/- Runs that read package-level variables whose contents are known, and never written. -/
set_option linter.unusedSimpArgs false
set_option linter.unusedVariables false
namespace Go.Proofs.YtoddlefhlicfiaaGreatDoorR.X
open Go Go.RowKit

theorem HRel.lessG {C C0 : Cx} (hP : C0.P = C.P) (h0 : C0.G = 0) {B : Nat} {σ : Sg} {s : St} {w : World} (h : HRel C B σ s w) : HRel C0 B σ s w where
  big := h.big
  lt := h.lt
  obj i o hi hd := let ⟨h1, o', h2, h3⟩ := h.obj i o hi hd; ⟨h1, o', h2, h3.cx hP.symm⟩
  inj := h.inj
  glob g hg := absurd hg (by rw [h0]; exact Nat.not_lt_zero g)
theorem HRel.moreG {C C0 : Cx} (hP : C0.P = C.P) {B : Nat} {σ σ' : Sg} {s s' : St} {w w' : World} (h0 : HRel C B σ s w) (h : HRel C0 B σ' s' w') (e : Ext σ σ' s s' w w') : HRel C B σ' s' w' where
  big := h.big
  lt := h.lt
  obj i o hi hd := let ⟨h1, o', h2, h3⟩ := h.obj i o hi hd; ⟨h1, o', h2, h3.cx hP⟩
  inj := h.inj
  glob g hg := let ⟨h1, h2⟩ := h0.glob g hg; ⟨Nat.lt_of_lt_of_le h1 e.nx, by rw [e.sg g h1]; exact h2⟩
/-- What holds without known variables holds with them. -/
theorem CallOk.moreG {C C0 : Cx} (hP : C0.P = C.P) (h0 : C0.G = 0) {B f : Nat} {args : List Value} {s s' : St} {v : Value} (h : CallOk C0 B f args s v s') : CallOk C B f args s v s' := by
  intro σ w args' hr ha
  rw [← hP]
  refine (h σ w args' (hr.lessG hP h0) ha).mono ?_
  rintro e w' ⟨v', σ', h1, h2, h3, h4⟩
  exact ⟨v', σ', h1, h2, hr.moreG hP h3 h4, h4⟩
theorem ToldOk.moreG {C C0 : Cx} (hP : C0.P = C.P) (h0 : C0.G = 0) {f : Nat} {t : Told} (h : ToldOk C0 f t) : ToldOk C f t := fun B s => (h B s).moreG hP h0
theorem TldsOk.moreG {C C0 : Cx} (hP : C0.P = C.P) (h0 : C0.G = 0) {f : Nat} : ∀ {l : List Told}, TldsOk C0 f l → TldsOk C f l
  | [], _ => trivial
  | _ :: _, h => ⟨h.1.moreG hP h0, h.2.moreG hP h0⟩
theorem EntryOk.moreG {C C0 : Cx} (hP : C0.P = C.P) (h0 : C0.G = 0) {f : Nat} {e : Entry} (h : EntryOk C0 f e) : EntryOk C f e :=
  let ⟨s1, h1, h2, h3, h4⟩ := h
  ⟨s1, h1, h2, h3, fun B => (h4 B).moreG hP h0⟩
theorem IntrOk.moreG {C C0 : Cx} (hP : C0.P = C.P) (h0 : C0.G = 0) (hi : C0.intr = C.intr) (he : ∀ f, C.ext f = none) (h : IntrOk C0) : IntrOk C where
  ext f i hf := by rw [he] at hf; cases hf
  body f i hf := by rw [← hP]; exact h.body f i (by rw [hi]; exact hf)
  call f i hf B args s v s' hs := (h.call f i (by rw [hi]; exact hf) B args s v s' hs).moreG hP h0

/-- a known variable's block -/
def knownO : AO → Bool
  | .cells c _ g w => allFlat c && !g && !w
  | _ => false
def allKnown (G : Nat) : List (Nat × AO) → Bool
  | [] => true
  | p :: l => Nat.blt p.1 G && knownO p.2 && allKnown G l
/-- A memory in which the variables are as they are said to be. -/
def KnownW (w : World) : List (Nat × AO) → Prop
  | [] => True
  | p :: l => (∃ c e g wr cc fz, p.2 = .cells c e g wr ∧ w.heap[p.1]? = some (.cells cc e fz) ∧ cc.toList = c) ∧ KnownW w l
theorem allKnown_mem {G : Nat} : ∀ {l : List (Nat × AO)}, allKnown G l = true → ∀ p ∈ l, p.1 < G ∧ knownO p.2 = true
  | [], _, p, hp => by cases hp
  | q :: l, h, p, hp => by
    simp only [allKnown, Bool.and_eq_true] at h
    rcases List.mem_cons.1 hp with rfl | hp
    · exact ⟨by have := h.1.1; rw [Nat.blt_eq] at this; exact this, h.1.2⟩
    · exact allKnown_mem h.2 p hp
theorem KnownW.mem {w : World} : ∀ {l : List (Nat × AO)}, KnownW w l → ∀ p ∈ l, ∃ c e g wr cc fz, p.2 = .cells c e g wr ∧ w.heap[p.1]? = some (.cells cc e fz) ∧ cc.toList = c
  | [], _, p, hp => by cases hp
  | q :: l, h, p, hp => by
    rcases List.mem_cons.1 hp with rfl | hp
    · exact h.1
    · exact h.2.mem p hp
noncomputable def gSt (G : Nat) (l : List (Nat × AO)) : St := { h := layAll l .e, nx := G }
def gSg (w : World) : Sg := fun i => ⟨i, match w.heap[i]? with
  | some (.cells cc _ _) => cc.size
  | _ => 0⟩
theorem gSt_mem {G : Nat} {l : List (Nat × AO)} {i : Nat} {o : AO} (h : Tr.get (gSt G l).h i = some o) : (i, o) ∈ l := by
  rcases layAll_get h with h1 | ⟨h1, _⟩
  · exact h1
  · rw [Tr.get_e] at h1; cases h1
theorem known_rel {C : Cx} {G : Nat} {l : List (Nat × AO)} (hG : C.G = G) (hk : allKnown G l = true) {w : World} (hw : KnownW w l) : HRel C 0 (gSg w) (gSt G l) w where
  big := Nat.zero_le _
  lt i o hi := (allKnown_mem hk _ (gSt_mem hi)).1
  obj i o hi hd := by
    have hm := gSt_mem hi
    obtain ⟨c, e, g, wr, cc, fz, h1, h2, h3⟩ := hw.mem _ hm
    simp only at h1 h2
    subst h1
    have hko := (allKnown_mem hk _ hm).2
    simp only [knownO, Bool.and_eq_true, Bool.not_eq_true'] at hko
    refine ⟨Nat.zero_le _, _, h2, cc, fz, rfl, ?_, fun _ => by rw [← h3, Array.length_toList], fun hwr => ?_, ?_⟩
    · have := LRel.pre (LRel.flats_refl (σ := gSg w) (D := (· < (gSt G l).nx)) hko.1.1) []
      rw [List.append_nil] at this
      rw [h3]; exact this
    · rw [hko.2] at hwr; cases hwr
    · simp only [gSg, h2]
  inj i j _ _ h := h
  glob g hg := ⟨by rw [hG] at hg; exact hg, rfl⟩
theorem known_fixed {G : Nat} {l : List (Nat × AO)} (hk : allKnown G l = true) : ∀ i, ¬ LiveW (gSt G l) i := by
  rintro i ⟨o, h1, h2, h3⟩
  have hko := (allKnown_mem hk _ (gSt_mem h1)).2
  cases o with
  | cells c e g wr =>
    simp only [knownO, Bool.and_eq_true, Bool.not_eq_true'] at hko
    simp only [AO.fixed, hko.2] at h3
    cases h3
  | _ => cases hko
/-- The chain's last, of a call that reads variables whose contents are known. -/
theorem chain_known {C : Cx} {G : Nat} (hG : C.G = G) {l : List (Nat × AO)} (hk : allKnown G l = true) {f nx : Nat} {args : List Value} {v : Value} (hp : allPlain args = true) (he : EntryOk C f { args := args, need := l, nx := G, res := v, out := [], nx' := nx })
    (hv : flat v = true) (w : World) (hw : KnownW w l) : Calls C.P f args.toArray w fun e w' => e = .returned v ∧ Below w.heap.size w w' := by
  obtain ⟨s1, _, _, _, h⟩ := he
  refine (h 0 (gSg w) w args (known_rel hG hk hw) (LRel.plains_refl hp)).mono ?_
  rintro e w' ⟨v', σ', rfl, h1, h2, h3⟩
  rw [h1.of_flat hv]
  exact ⟨rfl, ⟨h3.os, h3.tape, h3.output, h3.size, fun k hk' => h3.frame k hk' (fun i hi => absurd hi (known_fixed hk i))⟩⟩
end Go.Proofs.YtoddlefhlicfiaaGreatDoorR.X

/- The digits of bytes as an own answer, from what the walk of digest.digits gives. -/
set_option linter.unusedSimpArgs false
set_option linter.unusedVariables false
namespace Go.Proofs.YtoddlefhlicfiaaGreatDoorR.X
open Go Go.RowKit

def hexD (d : Nat) : UInt8 := match Nat.ble d 9 with
  | true => .ofNat (Nat.add 48 d)
  | false => .ofNat (Nat.add 87 d)
def hexL : List Nat → List UInt8
  | [] => []
  | n :: l => hexD (Nat.div n 16) :: hexD (Nat.mod n 16) :: hexL l
/-- What digits' walk gives. -/
def DigitsSpec (P : Program) (f : Nat) : Prop := ∀ (bs : List (BitVec 8)) (b o n c : Nat) (w : World), bs.length = n → 1 ≤ n → n ≤ 1000000 → (∀ i, i < n → w.cell? ⟨b, o + i, none⟩ = some (u8V (bs.getD i 0))) →
  Calls P f #[.slice (some ⟨b, o, none⟩) n c] w fun e w' => e = .returned (.string ⟨(hexL (bs.map (·.toNat))).toArray⟩) ∧ Below w.heap.size w w'
def digitsA (args : List Value) (s : St) : M (Value × St) := match args with
  | [x] => match x with
    | .slice p n _ => match p with
      | some a => match Nat.ble 1 n && Nat.ble n 1000000 with
        | true => M.bnd (rd s a.block) fun b => M.bnd (rangeN b.c a.off n) fun l => M.bnd (natsK 256 4 l) fun l => .ok (.string ⟨(hexL l).toArray⟩, s)
        | false => .error "digits"
      | none => .error "digits"
    | _ => .error "digits"
  | _ => .error "digits"
theorem digits_call {C : Cx} {f : Nat} (hB : DigitsSpec C.P f) {B : Nat} {args : List Value} {s s' : St} {v : Value} (h : digitsA args s = .ok (v, s')) : CallOk C B f args s v s' := by
  unfold digitsA at h
  split at h
  · split at h
    · rename_i p n c
      split at h
      · rename_i a
        split at h
        · rename_i hn
          obtain ⟨bl, h3, h⟩ := bnd_ok.1 h
          obtain ⟨cl, h4, h⟩ := bnd_ok.1 h
          obtain ⟨bs, h5, h⟩ := bnd_ok.1 h
          cases h
          simp only [Bool.and_eq_true] at hn
          have hn1 := Nat.le_of_ble_eq_true hn.1
          have hn2 := Nat.le_of_ble_eq_true hn.2
          obtain ⟨bb, hbb, rfl⟩ := natsK_u8 h5
          intro σ w args' hr hA
          obtain ⟨y', rfl, hy⟩ := LRel.flatten1 hA
          obtain ⟨_, _, _, _, cc, fz, g1, g2, _⟩ := hr.rd h3
          obtain ⟨g3, g4⟩ := g2.range h4
          rw [hbb] at g3
          have g5 := LRel.flats (flats_u8 _) g3
          have l3 : bb.length = n := by
            have := congrArg List.length g5
            rw [List.length_take, List.length_drop, List.length_map] at this
            omega
          have cells : ∀ i, i < n → w.cell? ⟨(σ a.block).blk, a.off + i, none⟩ = some (u8V (bb.getD i 0)) := by
            intro i hi
            have e1 : (bb.map u8V)[i]? = some (u8V (bb.getD i 0)) := by
              rw [List.getElem?_map, List.getD_eq_getElem?_getD, List.getElem?_eq_getElem (by omega)]; rfl
            rw [← g5, List.getElem?_take, if_pos hi, List.getElem?_drop, Array.getElem?_toList] at e1
            simp only [World.cell?, g1]
            simp [e1]
          have key : ∃ c', y' = .slice (some ⟨(σ a.block).blk, a.off, none⟩) n c' := by
            obtain ⟨_, _, q | ⟨_, _, c', _, _, q⟩ | ⟨_, q, o', _⟩⟩ := hy.slice_inv
            · exact ⟨_, q.2⟩
            · exact ⟨_, q⟩
            · omega
          obtain ⟨c', rfl⟩ := key
          refine (hB bb _ _ n c' w l3 hn1 hn2 cells).mono ?_
          rintro e w' ⟨rfl, hb⟩
          obtain ⟨k1, k2⟩ := hr.below hb
          exact ⟨_, σ, rfl, .flat rfl, k1, k2⟩
        · cases h
      · cases h
    · cases h
  · cases h
/- any function whose arguments and answer hold no address, as an own answer -/
/-- What its walk gives. -/
def FlatSpec (P : Program) (f : Nat) (g : List Value → Option Value) : Prop := ∀ (args : List Value) (v : Value) (w : World), g args = some v → Calls P f args.toArray w fun e w' => e = .returned v ∧ Below w.heap.size w w'
def flatA (g : List Value → Option Value) (args : List Value) (s : St) : M (Value × St) := match g args with
  | some v => match allPlain args && plainV v with
    | true => .ok (v, s)
    | false => .error "flat"
  | none => .error "flat"
theorem flat_call {C : Cx} {f : Nat} {g : List Value → Option Value} (hF : FlatSpec C.P f g) {B : Nat} {args : List Value} {s s' : St} {v : Value} (h : flatA g args s = .ok (v, s')) : CallOk C B f args s v s' := by
  unfold flatA at h
  split at h
  · rename_i u hg
    split at h
    · rename_i hp
      cases h
      simp only [Bool.and_eq_true] at hp
      intro σ w args' hr hA
      have ea := LRel.plains hp.1 hA
      subst ea
      refine (hF _ _ w hg).mono ?_
      rintro e w' ⟨rfl, hb⟩
      obtain ⟨k1, k2⟩ := hr.below hb
      exact ⟨_, σ, rfl, VRel.plain_refl hp.2, k1, k2⟩
    · cases h
  · cases h
end Go.Proofs.YtoddlefhlicfiaaGreatDoorR.X

/- Calls that read one row of plain cells and nothing else, remembered by what the row holds: they serve wherever such a row lies. -/
set_option linter.unusedSimpArgs false
set_option linter.unusedVariables false
namespace Go.Proofs.YtoddlefhlicfiaaGreatDoorR.X
open Go Go.RowKit

/-- the value, its address turned to another block -/
def atB (j : Nat) (v : Value) : Value := match v with
  | .slice p n c => match p with
    | some a => .slice (some ⟨j, a.off, none⟩) n c
    | none => .slice none n c
  | .pointer p => match p with
    | some a => .pointer (some ⟨j, a.off, none⟩)
    | none => .pointer none
  | v => v
def mapAt (j : Nat) : List Value → List Value
  | [] => []
  | v :: l => atB j v :: mapAt j l
/-- no address in it, or one of block 0 -/
def kinArg (v : Value) : Bool := match v with
  | .slice p n c => match p with
    | some a => match a.spot with
      | none => Nat.beq a.block 0
      | some _ => false
    | none => plainV (.slice none n c)
  | .pointer p => match p with
    | some a => match a.spot with
      | none => Nat.beq a.block 0
      | some _ => false
    | none => true
  | v => plainV v
def kinArgs : List Value → Bool
  | [] => true
  | v :: l => match kinArg v with
    | true => kinArgs l
    | false => false
def flatO (o : AO) : Bool := match o with
  | .cells c _ _ _ => allFlat c
  | _ => false
/-- the block of the first address -/
def blkIn : List Value → Option Nat
  | [] => none
  | v :: l => match v with
    | .slice p _ _ => match p with
      | some a => some a.block
      | none => blkIn l
    | .pointer p => match p with
      | some a => some a.block
      | none => blkIn l
    | _ => blkIn l
noncomputable def keyCs (l : List Value) : Nat := List.rec 1 (fun v _ r => Nat.add (keyF v) (Nat.mul 257 r)) l
noncomputable def keyO (o : AO) : Nat := match o with
  | .cells c _ _ _ => keyCs c
  | _ => 0
/-- so many words of a number, the lowest first -/
noncomputable def u32s (n : Nat) : Nat → List Value := Nat.rec (fun _ => []) (fun _ r m => .int .u32 (.ofNat (Nat.mod m 4294967296)) :: r (Nat.div m 4294967296)) n
/-- a call, what the row holds at which it looks, and its answer -/
structure Kin where
  key : Nat
  args : List Value
  blk : AO
  res : Value
noncomputable def KinT (args : List Value) (blk : AO) (res : Value) : Kin := ⟨keyO blk, args, blk, res⟩
def kinPlain (t : Kin) : Bool := kinArgs t.args && plainV t.res && flatO t.blk
noncomputable def kstart (o : AO) : St := { h := layAll [(0, o)] .e, nx := 1 }
/-- It serves wherever such a row lies. -/
def KinOk (C : Cx) (f : Nat) (t : Kin) : Prop := ∀ (B : Nat) (s : St) (j : Nat), Tr.get s.h j = some t.blk → CallOk C B f (mapAt j t.args) s t.res s

theorem PRel.flats_any {σ σ' : Sg} {D D' : Nat → Prop} : ∀ {l r : List Value}, allFlat l = true → PRel σ D l r → PRel σ' D' l r
  | [], _, _, _ => trivial
  | v :: l, [], _, h => h.elim
  | v :: l, u :: r, hf, h => by
    simp only [allFlat] at hf
    split at hf
    · rename_i hv
      refine ⟨?_, PRel.flats_any hf h.2⟩
      rw [h.1.of_flat hv]
      exact .flat hv
    · cases hf
theorem ORel.flat_any {C : Cx} {σ σ' : Sg} {D D' : Nat → Prop} {l : Loc} {o : AO} {o' : Obj} (hf : flatO o = true) (h : ORel C σ D l o o') : ORel C σ' D' l o o' := by
  cases o with
  | cells c e g wr => obtain ⟨cc, fz, h1, h2, h3⟩ := h; exact ⟨cc, fz, h1, h2.flats_any hf, h3⟩
  | _ => cases hf
theorem atB_rel {σ σ0 : Sg} {D D0 : Nat → Prop} {j : Nat} (h0 : σ0 0 = σ j) (d0 : D0 0) {v v' : Value} (hk : kinArg v = true) (h : VRel σ D (atB j v) v') : VRel σ0 D0 v v' := by
  have plain : ∀ u : Value, plainV u = true → VRel σ D u v' → VRel σ0 D0 u v' := fun u hu h => by
    rw [VRel.plain_eq hu h]; exact VRel.plain_refl hu
  unfold kinArg at hk
  unfold atB at h
  split at hk
  · split at hk
    · rename_i a
      split at hk
      · rename_i hs
        obtain ⟨b, o, sp⟩ := a
        simp only at hs hk h
        subst hs
        have hb := Nat.eq_of_beq_eq_true hk
        subst hb
        cases h with
        | flat hf => cases hf
        | slice hd hc => rw [← h0]; exact .slice d0 hc
        | sliceU hd hl hs => rw [← h0] at hs ⊢; exact .sliceU d0 hl hs
        | sliceE hd hc => rw [← h0]; exact .sliceE d0 hc
      · cases hk
    · exact plain _ hk h
  · split at hk
    · rename_i a
      split at hk
      · rename_i hs
        obtain ⟨b, o, sp⟩ := a
        simp only at hs hk h
        subst hs
        have hb := Nat.eq_of_beq_eq_true hk
        subst hb
        cases h with
        | flat hf => cases hf
        | ptr hd => rw [← h0]; exact .ptr d0
      · cases hk
    · exact plain (.pointer none) rfl h
  · rename_i h1 h2
    refine plain v hk ?_
    split at h
    · exact absurd rfl (h1 _ _ _)
    · exact absurd rfl (h2 _)
    · exact h
theorem mapAt_rel {σ σ0 : Sg} {D D0 : Nat → Prop} {j : Nat} (h0 : σ0 0 = σ j) (d0 : D0 0) : ∀ {l r : List Value}, kinArgs l = true → LRel σ D (mapAt j l) r → LRel σ0 D0 l r
  | [], [], _, _ => trivial
  | [], _ :: _, _, h => h
  | v :: l, [], _, h => h
  | v :: l, u :: r, hk, h => by
    simp only [kinArgs] at hk
    split at hk
    · rename_i hv
      exact ⟨atB_rel h0 d0 hv h.1, mapAt_rel h0 d0 hk h.2⟩
    · cases hk
theorem kstart_get {o x : AO} {i : Nat} (h : Tr.get (kstart o).h i = some x) : i = 0 ∧ x = o := by
  rcases layAll_get (l := [(0, o)]) h with h1 | ⟨h1, _⟩
  · rcases List.mem_cons.1 h1 with h2 | h2
    · exact ⟨congrArg Prod.fst h2, congrArg Prod.snd h2⟩
    · cases h2
  · rw [Tr.get_e] at h1; cases h1
theorem flatO_dead {o : AO} (h : flatO o = true) : o.isDead = false := by cases o <;> first | rfl | cases h
theorem kin_ok {C : Cx} (hG : C.G = 0) {f : Nat} {t : Kin} {s1 : St} (hp : kinPlain t = true) (hout : Tr.get s1.h 0 = some t.blk) (h : ∀ B, CallOk C B f t.args (kstart t.blk) t.res s1) : KinOk C f t := by
  simp only [kinPlain, Bool.and_eq_true] at hp
  obtain ⟨⟨hp1, hp2⟩, hp3⟩ := hp
  have hd := flatO_dead hp3
  intro B s j hj σ w args' hr ha
  obtain ⟨b1, o', b2, b3⟩ := hr.obj j _ hj hd
  have small : HRel C B (fun _ => σ j) (kstart t.blk) w :=
    { big := hr.big
      lt := fun i o hi => by rw [(kstart_get hi).1]; exact Nat.zero_lt_one
      obj := fun i o hi _ => by
        rw [(kstart_get hi).2]
        exact ⟨b1, o', b2, b3.flat_any hp3⟩
      inj := fun i k hi hk _ => by
        obtain ⟨x, hx, _⟩ := hi
        obtain ⟨y, hy, _⟩ := hk
        rw [(kstart_get hx).1, (kstart_get hy).1]
      glob := fun g hg => by rw [hG] at hg; cases hg }
  refine (h B (fun _ => σ j) w args' small (mapAt_rel (σ := σ) (σ0 := fun _ => σ j) (D := (· < s.nx)) (D0 := (· < (kstart t.blk).nx)) (j := j) rfl (Nat.zero_lt_one : (0 : Nat) < (kstart t.blk).nx) hp1 ha)).mono ?_
  rintro e w' ⟨v', σ', rfl, k1, k2, k3⟩
  have ev := VRel.plain_eq hp2 k1
  subst ev
  have s0 : σ' 0 = σ j := k3.sg 0 (Nat.zero_lt_one : (0 : Nat) < (kstart t.blk).nx)
  have liveJ : Live s j := ⟨_, hj, hd⟩
  have hlt : ∀ i o, Tr.get s.h i = some o → o.isDead = false → (σ i).blk < w.heap.size := fun i o hi hdi => by
    obtain ⟨_, o2, h3, _⟩ := hr.obj i o hi hdi
    exact (Array.getElem?_eq_some_iff.1 h3).1
  refine ⟨_, σ, rfl, VRel.plain_refl hp2, ⟨k2.big, hr.lt, ?_, hr.inj, hr.glob⟩, ⟨fun _ _ => rfl, Nat.le_refl _, k3.size, ?_, fun i hi => .inl hi, fun i hi => .inl hi, k3.os, k3.tape, k3.output⟩⟩
  · intro i o hi hdi
    by_cases hij : i = j
    · subst hij
      rw [hj] at hi
      injection hi with hi
      subst hi
      obtain ⟨c1, o2, c2, c3⟩ := k2.obj 0 _ hout hd
      rw [s0] at c1 c2 c3
      exact ⟨c1, o2, c2, c3.flat_any hp3⟩
    · obtain ⟨c1, o2, c2, c3⟩ := hr.obj i o hi hdi
      refine ⟨c1, o2, ?_, c3⟩
      rw [k3.frame _ (hlt i o hi hdi) fun k hk he => ?_]
      · exact c2
      · obtain ⟨x, hx, _⟩ := hk
        exact hij (hr.inj i j ⟨o, hi, hdi⟩ liveJ he.symm)
  · intro k hk hf
    refine k3.frame k hk fun i hi he => ?_
    obtain ⟨x, hx, hxd, hxf⟩ := hi
    have hx2 := (kstart_get hx).2
    subst hx2
    exact hf j ⟨_, hj, hxd, hxf⟩ he
noncomputable def findKin (k j : Nat) (o : AO) : List Kin → List Value → Option Value
  | [], _ => none
  | t :: l, args => match Nat.beq t.key k with
    | true => match allL (sameV 8) (mapAt j t.args) args && eqO o t.blk with
      | true => some t.res
      | false => findKin k j o l args
    | false => findKin k j o l args
theorem findKin_mem {k j : Nat} {o : AO} : ∀ {l : List Kin} {args : List Value} {v : Value}, findKin k j o l args = some v → ∃ t ∈ l, mapAt j t.args = args ∧ t.blk = o ∧ t.res = v
  | [], _, _, h => by cases h
  | t :: l, args, v, h => by
    have rest : findKin k j o l args = some v → ∃ u ∈ t :: l, mapAt j u.args = args ∧ u.blk = o ∧ u.res = v := fun h => by
      obtain ⟨u, h1, h2⟩ := findKin_mem h
      exact ⟨u, List.mem_cons_of_mem _ h1, h2⟩
    simp only [findKin] at h
    split at h
    · split at h
      · rename_i he
        simp only [Bool.and_eq_true] at he
        cases h
        exact ⟨t, List.mem_cons_self, allL_eq (sameV_eq 8) he.1, (eqO_eq he.2).symm, rfl⟩
      · exact rest h
    · exact rest h
def lookX : List (Nat × List Kin) → Nat → Option (List Kin)
  | [], _ => none
  | p :: l, g => match Nat.beq p.1 g with
    | true => some p.2
    | false => lookX l g
theorem lookX_mem : ∀ {l : List (Nat × List Kin)} {g : Nat} {es : List Kin}, lookX l g = some es → (g, es) ∈ l
  | [], g, es, h => by cases h
  | p :: l, g, es, h => by
    simp only [lookX] at h
    split at h
    · rename_i hb
      injection h with h
      rw [← Nat.eq_of_beq_eq_true hb, ← h]
      exact List.mem_cons_self
    · exact List.mem_cons_of_mem _ (lookX_mem h)
/-- what is remembered by the row, else reckoned -/
noncomputable def kinOr (C : Cx) (n g : Nat) (es : List Kin) (args : List Value) (s : St) : M (Value × St) := match blkIn args with
  | none => runK C n g args s
  | some j => match Tr.get s.h j with
    | none => runK C n g args s
    | some o => match findKin (keyO o) j o es args with
      | some v => .ok (v, s)
      | none => runK C n g args s
noncomputable def withKin (C : Cx) (n : Nat) (tbl : List (Nat × List Kin)) : Cx := { C with intr := fun g => match lookX tbl g with
  | none => C.intr g
  | some es => match hasBody C g with
    | true => some (kinOr C n g es)
    | false => none }
theorem withKin_P (C : Cx) (n : Nat) (tbl : List (Nat × List Kin)) : (withKin C n tbl).P = C.P := rfl
theorem withKin_G (C : Cx) (n : Nat) (tbl : List (Nat × List Kin)) : (withKin C n tbl).G = C.G := rfl
theorem withKin_cx {C : Cx} (ok : CxOk C) (n : Nat) (tbl : List (Nat × List Kin)) : CxOk (withKin C n tbl) where
  types := ok.types
  funcs := ok.funcs
theorem kinOr_ok {C : Cx} (ok : CxOk C) (hN : NameOk C.P) (hI : IntrOk C) (hM : C.P.follows .mixedOrders = true) {n f : Nat} {es : List Kin} (h : ∀ e ∈ es, KinOk C f e) {B : Nat} {args : List Value} {s s' : St} {v : Value}
    (hi : kinOr C n f es args s = .ok (v, s')) : CallOk C B f args s v s' := by
  unfold kinOr at hi
  split at hi
  · exact call_ok ok hN hI hM n (runK_ok hi)
  · rename_i j hj
    split at hi
    · exact call_ok ok hN hI hM n (runK_ok hi)
    · rename_i o ho
      split at hi
      · rename_i r hm
        cases hi
        obtain ⟨t, h1, rfl, rfl, rfl⟩ := findKin_mem hm
        exact h t h1 B _ j ho
      · exact call_ok ok hN hI hM n (runK_ok hi)
theorem withKin_ok {C : Cx} (ok : CxOk C) (hN : NameOk C.P) (hI : IntrOk C) (hM : C.P.follows .mixedOrders = true) {n : Nat} {tbl : List (Nat × List Kin)}
    (h : ∀ p ∈ tbl, ∀ e ∈ p.2, KinOk C p.1 e) : IntrOk (withKin C n tbl) where
  ext f i hf B args s v s' hi σ w args' hr ha := by
    obtain ⟨v', w', σ', h1, h2, h3, h4⟩ := hI.ext f i hf B args s v s' hi σ w args' (hr.cx (C := withKin C n tbl) (C' := C) (withKin_P C n tbl) (withKin_G C n tbl)) ha
    exact ⟨v', w', σ', h1, h2, h3.cx (C := C) (C' := withKin C n tbl) (withKin_P C n tbl).symm (withKin_G C n tbl).symm, h4⟩
  body f i hf := by
    simp only [withKin] at hf
    split at hf
    · exact hI.body f i hf
    · split at hf
      · rename_i hb
        unfold hasBody at hb
        split at hb
        · rename_i fn hfn
          exact ⟨fn, ok.funcs _ _ hfn, hb⟩
        · cases hb
      · cases hf
  call f i hf B args s v s' hi := by
    simp only [withKin] at hf
    split at hf
    · exact (hI.call f i hf B args s v s' hi).cx (C := C) (C' := withKin C n tbl) (withKin_P C n tbl).symm (withKin_G C n tbl).symm
    · rename_i es hes
      split at hf
      · injection hf with hf
        subst hf
        exact (kinOr_ok ok hN hI hM (h _ (lookX_mem hes)) hi).cx (C := C) (C' := withKin C n tbl) (withKin_P C n tbl).symm (withKin_G C n tbl).symm
      · cases hf
theorem KinOk.cx {C C' : Cx} (hP : C.P = C'.P) (hG : C.G = C'.G) {f : Nat} {t : Kin} (h : KinOk C f t) : KinOk C' f t := fun B s j hj => (h B s j hj).cx hP hG
theorem ToldOk.cx {C C' : Cx} (hP : C.P = C'.P) (hG : C.G = C'.G) {f : Nat} {t : Told} (h : ToldOk C f t) : ToldOk C' f t := fun B s => (h B s).cx hP hG
theorem KinOk.moreG {C C0 : Cx} (hP : C0.P = C.P) (h0 : C0.G = 0) {f : Nat} {t : Kin} (h : KinOk C0 f t) : KinOk C f t := fun B s j hj => (h B s j hj).moreG hP h0
def KinsOk (C : Cx) (g : Nat) : List Kin → Prop
  | [] => True
  | e :: l => KinOk C g e ∧ KinsOk C g l
def AllKin (C : Cx) : List (Nat × List Kin) → Prop
  | [] => True
  | p :: l => KinsOk C p.1 p.2 ∧ AllKin C l
theorem KinsOk.get {C : Cx} {g : Nat} : ∀ {l : List Kin}, KinsOk C g l → ∀ e ∈ l, KinOk C g e
  | [], _, e, h => by cases h
  | a :: l, h, e, he => by
    rcases List.mem_cons.1 he with rfl | he
    · exact h.1
    · exact KinsOk.get h.2 e he
theorem AllKin.get {C : Cx} : ∀ {l : List (Nat × List Kin)}, AllKin C l → ∀ p ∈ l, ∀ e ∈ p.2, KinOk C p.1 e
  | [], _, p, h => by cases h
  | a :: l, h, p, hp => by
    rcases List.mem_cons.1 hp with rfl | hp
    · exact h.1.get
    · exact AllKin.get h.2 p hp
theorem KinsOk.app {C : Cx} {g : Nat} : ∀ {l r : List Kin}, KinsOk C g l → KinsOk C g r → KinsOk C g (l ++ r)
  | [], _, _, h => h
  | _ :: _, _, h1, h => ⟨h1.1, h1.2.app h⟩
theorem KinsOk.moreG {C C0 : Cx} (hP : C0.P = C.P) (h0 : C0.G = 0) {f : Nat} : ∀ {l : List Kin}, KinsOk C0 f l → KinsOk C f l
  | [], _ => trivial
  | _ :: _, h => ⟨h.1.moreG hP h0, h.2.moreG hP h0⟩
theorem TldsOk.cx {C C' : Cx} (hP : C.P = C'.P) (hG : C.G = C'.G) {f : Nat} : ∀ {l : List Told}, TldsOk C f l → TldsOk C' f l
  | [], _ => trivial
  | _ :: _, h => ⟨h.1.cx hP hG, TldsOk.cx hP hG h.2⟩
theorem AllTold.cx {C C' : Cx} (hP : C.P = C'.P) (hG : C.G = C'.G) : ∀ {l : List (Nat × List Told)}, AllTold C l → AllTold C' l
  | [], _ => trivial
  | _ :: _, h => ⟨h.1.cx hP hG, AllTold.cx hP hG h.2⟩
theorem EntsOk.cx {C C' : Cx} (hP : C.P = C'.P) (hG : C.G = C'.G) {f : Nat} : ∀ {l : List Entry}, EntsOk C f l → EntsOk C' f l
  | [], _ => trivial
  | _ :: _, h => ⟨EntryOk.cx hP hG h.1, EntsOk.cx hP hG h.2⟩
theorem AllOk.cx {C C' : Cx} (hP : C.P = C'.P) (hG : C.G = C'.G) : ∀ {l : List (Nat × List Entry)}, AllOk C l → AllOk C' l
  | [], _ => trivial
  | _ :: _, h => ⟨h.1.cx hP hG, AllOk.cx hP hG h.2⟩
/-- Layer by layer, the outermost first: what is not in a function's table is reckoned with the tables of those within. -/
noncomputable def withKinL (C : Cx) (n : Nat) : List (Nat × List Kin) → Cx
  | [] => C
  | p :: l => withKin (withKinL C n l) n [p]
noncomputable def withToldL (C : Cx) (n : Nat) : List (Nat × List Told) → Cx
  | [] => C
  | p :: l => withTold (withToldL C n l) n [p]
/-- A context of the same program that holds. -/
structure CtxOk (C C' : Cx) : Prop where
  P : C'.P = C.P
  G : C'.G = C.G
  ok : CxOk C'
  intr : IntrOk C'
theorem kinL_ok {C : Cx} (ok : CxOk C) (hN : NameOk C.P) (hI : IntrOk C) (hM : C.P.follows .mixedOrders = true) {n : Nat} : ∀ {tbl : List (Nat × List Kin)}, AllKin C tbl → CtxOk C (withKinL C n tbl)
  | [], _ => ⟨rfl, rfl, ok, hI⟩
  | p :: l, h => by
    have ih := kinL_ok ok hN hI hM (n := n) h.2
    have hN' : NameOk (withKinL C n l).P := by rw [ih.P]; exact hN
    have hM' : (withKinL C n l).P.follows .mixedOrders = true := by rw [ih.P]; exact hM
    refine ⟨ih.P, ih.G, withKin_cx ih.ok n [p], withKin_ok ih.ok hN' ih.intr hM' (fun q hq e he => ?_)⟩
    rcases List.mem_cons.1 hq with rfl | hq
    · exact (h.1.get e he).cx ih.P.symm ih.G.symm
    · cases hq
theorem toldL_ok {C : Cx} (ok : CxOk C) (hN : NameOk C.P) (hI : IntrOk C) (hM : C.P.follows .mixedOrders = true) {n : Nat} : ∀ {tbl : List (Nat × List Told)}, AllTold C tbl → CtxOk C (withToldL C n tbl)
  | [], _ => ⟨rfl, rfl, ok, hI⟩
  | p :: l, h => by
    have ih := toldL_ok ok hN hI hM (n := n) h.2
    have hN' : NameOk (withToldL C n l).P := by rw [ih.P]; exact hN
    have hM' : (withToldL C n l).P.follows .mixedOrders = true := by rw [ih.P]; exact hM
    refine ⟨ih.P, ih.G, withTold_cx ih.ok n [p], withTold_ok ih.ok hN' ih.intr hM' (fun q hq e he => ?_)⟩
    rcases List.mem_cons.1 hq with rfl | hq
    · exact (h.1.get e he).cx ih.P.symm ih.G.symm
    · cases hq
theorem both_ok {C : Cx} (ok : CxOk C) (hN : NameOk C.P) (hI : IntrOk C) (hM : C.P.follows .mixedOrders = true) {n : Nat} {ktbl : List (Nat × List Kin)} {utbl : List (Nat × List Told)} (hK : AllKin C ktbl) (hU : AllTold C utbl) :
    CtxOk C (withToldL (withKinL C n ktbl) n utbl) := by
  have a := kinL_ok ok hN hI hM (n := n) hK
  have b := toldL_ok a.ok (by rw [a.P]; exact hN) a.intr (by rw [a.P]; exact hM) (n := n) (hU.cx a.P.symm a.G.symm)
  exact ⟨b.P.trans a.P, b.G.trans a.G, b.ok, b.intr⟩
/-- A link of the chain, with calls that are told and calls that are remembered by their rows. -/
theorem chain3 {C : Cx} (ok : CxOk C) (hN : NameOk C.P) (hI : IntrOk C) (hM : C.P.follows .mixedOrders = true) {n : Nat} {ktbl : List (Nat × List Kin)} {utbl : List (Nat × List Told)} {tbl : List (Nat × List Entry)} (hK : AllKin C ktbl) (hU : AllTold C utbl) (h : AllOk C tbl) {f : Nat} {e : Entry}
    (hc : chunkK (withMemo (withToldL (withKinL C n ktbl) n utbl) n tbl) n f e = true) : EntryOk C f e := by
  have b := both_ok ok hN hI hM (n := n) hK hU
  exact (link (C := withToldL (withKinL C n ktbl) n utbl) b.ok (by rw [b.P]; exact hN) b.intr (by rw [b.P]; exact hM) (fun p hp e he => (h.get p hp e he).cx b.P.symm b.G.symm) hc).cx b.P b.G
/-- Calls that are remembered by their rows, reckoned by others. -/
noncomputable def kinAllK (C : Cx) (n f : Nat) : List Kin → Bool
  | [] => true
  | t :: l => match runK C n f t.args (kstart t.blk) with
    | .ok (v, s) => sameV 8 v t.res && kinPlain t && hasO s (0, t.blk) && kinAllK C n f l
    | .error _ => false
theorem kins_ok {C : Cx} (ok : CxOk C) (hN : NameOk C.P) (hI : IntrOk C) (hM : C.P.follows .mixedOrders = true) (hG : C.G = 0) {n : Nat} {ktbl : List (Nat × List Kin)} {utbl : List (Nat × List Told)} (hK : AllKin C ktbl) (hU : AllTold C utbl) {f : Nat} : ∀ {l : List Kin},
    kinAllK (withToldL (withKinL C n ktbl) n utbl) n f l = true → KinsOk C f l
  | [], _ => trivial
  | t :: l, h => by
    simp only [kinAllK] at h
    split at h
    · rename_i v s1 hr
      simp only [Bool.and_eq_true] at h
      have hv := sameV_eq _ _ _ h.1.1.1
      subst hv
      have b := both_ok ok hN hI hM (n := n) hK hU
      have hc := fun B => call_ok (C := withToldL (withKinL C n ktbl) n utbl) b.ok (by rw [b.P]; exact hN) b.intr (by rw [b.P]; exact hM) n (B := B) (runK_ok hr)
      exact ⟨kin_ok hG h.1.1.2 (hasO_ok h.1.2) fun B => (hc B).cx b.P b.G, kins_ok ok hN hI hM hG hK hU h.2⟩
    · cases h
end Go.Proofs.YtoddlefhlicfiaaGreatDoorR.X

/- Own answers for names: paths of keys, which texts may be names; and a run whose answer is told by a term. -/
set_option linter.unusedSimpArgs false
set_option linter.unusedVariables false
namespace Go.Proofs.YtoddlefhlicfiaaGreatDoorR.X
open Go Go.RowKit

/-- a byte that stands in a path as it is -/
def plainB (n : Nat) : Bool := (Nat.ble 65 n && Nat.ble n 90) || (Nat.beq n 45 || Nat.beq n 95) || ((Nat.ble 97 n && Nat.ble n 122) || (Nat.ble 48 n && Nat.ble n 57))
def escL : List UInt8 → List UInt8
  | [] => []
  | c :: l => match plainB c.toNat with
    | true => c :: escL l
    | false => 37 :: hexD (Nat.div c.toNat 16) :: hexD (Nat.mod c.toNat 16) :: escL l
def pathG (args : List Value) : Option Value := match args with
  | [x, y] => match x with
    | .string b => match y with
      | .string k => match Nat.ble b.size 1000000 && Nat.ble k.size 1000000 with
        | true => some (.string ⟨(bytesL b ++ 47 :: escL (bytesL k)).toArray⟩)
        | false => none
      | _ => none
    | _ => none
  | _ => none
/-- a text that may be a name -/
def inkB : List UInt8 → Bool
  | [] => true
  | c :: l => match Nat.ble 33 c.toNat && Nat.ble c.toNat 126 with
    | true => inkB l
    | false => false
def nameB (most : Nat) (b : ByteArray) : Bool := inkB (bytesL b) && (Nat.ble 1 b.size && Nat.ble b.size most)
/-- a text that may be a path: so long at most, and a name -/
def pathB (most : Nat) (b : ByteArray) : Bool := Nat.ble b.size most && nameB 512 b
def pathOkG (most : Nat) (args : List Value) : Option Value := match args with
  | [x] => match x with
    | .string b => some (.bool (pathB most b))
    | _ => none
  | _ => none
theorem pathOkG_some {most : Nat} {args : List Value} {v : Value} (h : pathOkG most args = some v) : ∃ b : ByteArray, args = [.string b] ∧ v = .bool (pathB most b) := by
  unfold pathOkG at h
  split at h
  · split at h
    · injection h with h
      exact ⟨_, rfl, h.symm⟩
    · cases h
  · cases h
/-- where a byte stands first in a text -/
def idxL (c : Nat) : List UInt8 → Nat → Int
  | [], _ => .negSucc 0
  | b :: l, i => match Nat.beq b.toNat c with
    | true => .ofNat i
    | false => idxL c l (Nat.succ i)
def indexG (args : List Value) : Option Value := match args with
  | [x, y] => match x with
    | .string b => match y with
      | .int k c => match k with
        | .u8 => match c with
          | .ofNat m => match Nat.blt m 256 with
            | true => some (.int .i64 (idxL m (bytesL b) 0))
            | false => none
          | _ => none
        | _ => none
      | _ => none
    | _ => none
  | _ => none
/-- what a run answers -/
def answerOf (x : M (Value × St)) : Value := match x with
  | .ok (v, _) => v
  | .error _ => undef
theorem answerOf_ok {x : M (Value × St)} {b : Bool} (h : answerOf x = .bool b) : ∃ s, x = .ok (.bool b, s) := by
  unfold answerOf at h
  split at h
  · rename_i v s
    subst h
    exact ⟨s, rfl⟩
  · cases h
/-- The chain's last, whose answer is told by a term. -/
theorem chain_val {C : Cx} (ok : CxOk C) (hN : NameOk C.P) (hI : IntrOk C) (hM : C.P.follows .mixedOrders = true) (hG : C.G = 0) {n : Nat} {ktbl : List (Nat × List Kin)} {utbl : List (Nat × List Told)} {tbl : List (Nat × List Entry)} (hK : AllKin C ktbl) (hU : AllTold C utbl) (h : AllOk C tbl) {f : Nat} {args : List Value} {b : Bool}
    (hp : allPlain args = true) (hc : answerOf (runK (withMemo (withToldL (withKinL C n ktbl) n utbl) n tbl) n f args emptyS) = .bool b) (w : World) : Calls C.P f args.toArray w fun e w' => e = .returned (.bool b) ∧ Below w.heap.size w w' := by
  obtain ⟨s, hs⟩ := answerOf_ok hc
  have c := both_ok ok hN hI hM (n := n) hK hU
  have hc := (call_ok (C := withMemo (withToldL (withKinL C n ktbl) n utbl) n tbl) (withMemo_cx c.ok n tbl) (by show NameOk (withToldL (withKinL C n ktbl) n utbl).P; rw [c.P]; exact hN)
    (withMemo_ok c.ok (by rw [c.P]; exact hN) c.intr (by rw [c.P]; exact hM) (fun p hp e he => (h.get p hp e he).cx c.P.symm c.G.symm)) (by show (withToldL (withKinL C n ktbl) n utbl).P.follows .mixedOrders = true; rw [c.P]; exact hM) n (B := 0) (runK_ok hs)).cx (C := withMemo (withToldL (withKinL C n ktbl) n utbl) n tbl) (C' := C) c.P c.G
  refine (hc (fun _ => ⟨0, 0⟩) w args (empty_rel hG w) (LRel.plains_refl hp)).mono ?_
  rintro e w' ⟨v', σ', rfl, h1, h2, h3⟩
  rw [h1.of_flat rfl]
  exact ⟨rfl, ⟨h3.os, h3.tape, h3.output, h3.size, fun k hk => h3.frame k hk (fun i hi => absurd hi (empty_fixed i))⟩⟩
end Go.Proofs.YtoddlefhlicfiaaGreatDoorR.X

/- Tables of both kinds, layer by layer in the order of the calls, the outermost first. -/
set_option linter.unusedSimpArgs false
set_option linter.unusedVariables false
namespace Go.Proofs.YtoddlefhlicfiaaGreatDoorR.X
open Go Go.RowKit

inductive Tab where
  | kin (g : Nat) (l : List Kin)
  | told (g : Nat) (l : List Told)
noncomputable def withTab (C : Cx) (n : Nat) (t : Tab) : Cx := match t with
  | .kin g l => withKin C n [(g, l)]
  | .told g l => withTold C n [(g, l)]
noncomputable def withTabs (C : Cx) (n : Nat) : List Tab → Cx
  | [] => C
  | t :: r => withTab (withTabs C n r) n t
def TabOk (C : Cx) (t : Tab) : Prop := match t with
  | .kin g l => KinsOk C g l
  | .told g l => TldsOk C g l
def TabsOk (C : Cx) : List Tab → Prop
  | [] => True
  | t :: r => TabOk C t ∧ TabsOk C r
theorem tabs_ok {C : Cx} (ok : CxOk C) (hN : NameOk C.P) (hI : IntrOk C) (hM : C.P.follows .mixedOrders = true) {n : Nat} : ∀ {tbl : List Tab}, TabsOk C tbl → CtxOk C (withTabs C n tbl)
  | [], _ => ⟨rfl, rfl, ok, hI⟩
  | t :: r, h => by
    have ih := tabs_ok ok hN hI hM (n := n) h.2
    have hN' : NameOk (withTabs C n r).P := by rw [ih.P]; exact hN
    have hM' : (withTabs C n r).P.follows .mixedOrders = true := by rw [ih.P]; exact hM
    obtain ⟨h1, _⟩ := h
    cases t with
    | kin g l =>
      refine ⟨ih.P, ih.G, withKin_cx ih.ok n [(g, l)], withKin_ok ih.ok hN' ih.intr hM' (fun q hq e he => ?_)⟩
      rcases List.mem_cons.1 hq with rfl | hq
      · exact (KinsOk.get h1 e he).cx ih.P.symm ih.G.symm
      · cases hq
    | told g l =>
      refine ⟨ih.P, ih.G, withTold_cx ih.ok n [(g, l)], withTold_ok ih.ok hN' ih.intr hM' (fun q hq e he => ?_)⟩
      rcases List.mem_cons.1 hq with rfl | hq
      · exact (TldsOk.get h1 e he).cx ih.P.symm ih.G.symm
      · cases hq
/-- A link of the chain. -/
theorem chain4 {C : Cx} (ok : CxOk C) (hN : NameOk C.P) (hI : IntrOk C) (hM : C.P.follows .mixedOrders = true) {n : Nat} {tabs : List Tab} {tbl : List (Nat × List Entry)} (hT : TabsOk C tabs) (h : AllOk C tbl) {f : Nat} {e : Entry}
    (hc : chunkK (withMemo (withTabs C n tabs) n tbl) n f e = true) : EntryOk C f e := by
  have b := tabs_ok ok hN hI hM (n := n) hT
  exact (link (C := withTabs C n tabs) b.ok (by rw [b.P]; exact hN) b.intr (by rw [b.P]; exact hM) (fun p hp e he => (h.get p hp e he).cx b.P.symm b.G.symm) hc).cx b.P b.G
theorem kins4_ok {C : Cx} (ok : CxOk C) (hN : NameOk C.P) (hI : IntrOk C) (hM : C.P.follows .mixedOrders = true) (hG : C.G = 0) {n : Nat} {tabs : List Tab} (hT : TabsOk C tabs) {f : Nat} : ∀ {l : List Kin},
    kinAllK (withTabs C n tabs) n f l = true → KinsOk C f l
  | [], _ => trivial
  | t :: l, h => by
    simp only [kinAllK] at h
    split at h
    · rename_i v s1 hr
      simp only [Bool.and_eq_true] at h
      have hv := sameV_eq _ _ _ h.1.1.1
      subst hv
      have b := tabs_ok ok hN hI hM (n := n) hT
      have hc := fun B => call_ok (C := withTabs C n tabs) b.ok (by rw [b.P]; exact hN) b.intr (by rw [b.P]; exact hM) n (B := B) (runK_ok hr)
      exact ⟨kin_ok hG h.1.1.2 (hasO_ok h.1.2) fun B => (hc B).cx b.P b.G, kins4_ok ok hN hI hM hG hT h.2⟩
    · cases h
/-- The chain's last, whose answer is told by a term. -/
theorem chain_val4 {C : Cx} (ok : CxOk C) (hN : NameOk C.P) (hI : IntrOk C) (hM : C.P.follows .mixedOrders = true) (hG : C.G = 0) {n : Nat} {tabs : List Tab} {tbl : List (Nat × List Entry)} (hT : TabsOk C tabs) (h : AllOk C tbl) {f : Nat} {args : List Value} {b : Bool}
    (hp : allPlain args = true) (hc : answerOf (runK (withMemo (withTabs C n tabs) n tbl) n f args emptyS) = .bool b) (w : World) : Calls C.P f args.toArray w fun e w' => e = .returned (.bool b) ∧ Below w.heap.size w w' := by
  obtain ⟨s, hs⟩ := answerOf_ok hc
  have c := tabs_ok ok hN hI hM (n := n) hT
  have hc := (call_ok (C := withMemo (withTabs C n tabs) n tbl) (withMemo_cx c.ok n tbl) (by show NameOk (withTabs C n tabs).P; rw [c.P]; exact hN)
    (withMemo_ok c.ok (by rw [c.P]; exact hN) c.intr (by rw [c.P]; exact hM) (fun p hp e he => (h.get p hp e he).cx c.P.symm c.G.symm)) (by show (withTabs C n tabs).P.follows .mixedOrders = true; rw [c.P]; exact hM) n (B := 0) (runK_ok hs)).cx (C := withMemo (withTabs C n tabs) n tbl) (C' := C) c.P c.G
  refine (hc (fun _ => ⟨0, 0⟩) w args (empty_rel hG w) (LRel.plains_refl hp)).mono ?_
  rintro e w' ⟨v', σ', rfl, h1, h2, h3⟩
  rw [h1.of_flat rfl]
  exact ⟨rfl, ⟨h3.os, h3.tape, h3.output, h3.size, fun k hk => h3.frame k hk (fun i hi => absurd hi (empty_fixed i))⟩⟩
end Go.Proofs.YtoddlefhlicfiaaGreatDoorR.X

/- slices.Insert: one value ahead of a row whose capacity is not known. -/
set_option linter.unusedSimpArgs false
set_option linter.unusedVariables false
namespace Go.Proofs.YtoddlefhlicfiaaGreatDoorR.X
open Go Go.RowKit

/-- What Insert's walk gives, both where there is room and where there is none. -/
def InsertSpec (P : Program) (f T z : Nat) : Prop := ∀ (b n cap vb vc : Nat) (cc vv : Array Value) (fz fv : Nat × Nat) (w : World),
  1 ≤ n → n < 1000 → n ≤ cap → cap * z ≤ cc.size → z ≤ vv.size → vb ≠ b → w.heap[b]? = some (.cells cc T fz) → w.heap[vb]? = some (.cells vv T fv) → fz.1 = fz.2 → fv.1 = fv.2 →
  (∀ v ∈ cc.toList.take (n * z), v.oneCell' = true) → (∀ v ∈ vv.toList.take z, v.oneCell' = true) →
  Calls P f #[.slice (some ⟨b, 0, none⟩) n cap, .int .i64 0, .slice (some ⟨vb, 0, none⟩) 1 vc] w fun e w' =>
    ∃ (g cap' : Nat) (cc' : Array Value) (fz' : Nat × Nat), e = .returned (.slice (some ⟨g, 0, none⟩) (n + 1) cap') ∧ n + 1 ≤ cap' ∧ cap' * z ≤ cc'.size ∧ fz'.1 = fz'.2 ∧ w'.heap[g]? = some (.cells cc' T fz') ∧
      cc'.toList.take ((n + 1) * z) = vv.toList.take z ++ cc.toList.take (n * z) ∧
      ((g = b ∧ w'.heap.size = w.heap.size ∧ (∀ k, k ≠ b → w'.heap[k]? = w.heap[k]?) ∧ w'.os = w.os ∧ w'.tape = w.tape ∧ w'.output = w.output) ∨ (w.heap.size ≤ g ∧ Below w.heap.size w w'))

/-- the call that is answered so -/
def insQ (z : Nat) : List Value → Option (Addr × Nat × Addr)
  | [x, i, y] => match x with
    | .slice (some a) n cap => match i with
      | .int .i64 k => match y with
        | .slice (some v) m vcap => match eqI k 0 && Nat.beq m 1 && Nat.ble 1 n && Nat.blt n 1000 && Nat.beq cap (UNK + z) && Nat.blt vcap UNK && Nat.beq a.off 0 && Nat.beq v.off 0 && !Nat.beq a.block v.block with
          | true => some (a, n, v)
          | false => none
        | _ => none
      | _ => none
    | _ => none
  | _ => none
def insA (elem z : Nat) (a : Addr) (n : Nat) (v : Addr) (s : St) : M (Value × St) :=
  M.bnd (rd s a.block) fun b => M.bnd (rd s v.block) fun e => M.bnd (rangeN b.c 0 (n * z)) fun old => M.bnd (rangeN e.c 0 z) fun new =>
    match b.grow && Nat.beq elem b.elem && Nat.beq elem e.elem && b.wr && e.wr && noAgg old && noAgg new with
    | true => M.bnd (newO s (.cells (new ++ old) elem true true)) fun q => M.bnd (putO q.2 a.block .dead) fun s => .ok (.slice (some ⟨q.1, 0, none⟩) (n + 1) (UNK + z), s)
    | false => .error "insert"
/-- Insert -/
noncomputable def insertA (C : Cx) (fuel f elem z : Nat) (args : List Value) (s : St) : M (Value × St) := match insQ z args with
  | none => runK C fuel f args s
  | some (a, n, v) => insA elem z a n v s
theorem insQ_ok {z n : Nat} {args : List Value} {a v : Addr} (h : insQ z args = some (a, n, v)) :
    ∃ vc, args = [.slice (some a) n (UNK + z), .int .i64 0, .slice (some v) 1 vc] ∧ 1 ≤ n ∧ n < 1000 ∧ vc < UNK ∧ a.off = 0 ∧ v.off = 0 ∧ a.block ≠ v.block := by
  unfold insQ at h
  split at h
  · split at h
    · split at h
      · split at h
        · rename_i k _ v' m vcap
          split at h
          · rename_i hq
            cases h
            simp only [Bool.and_eq_true, beq_nat, blt_nat, decide_eq_true_eq, Bool.not_eq_true', decide_eq_false_iff_not] at hq
            obtain ⟨⟨⟨⟨⟨⟨⟨⟨q1, q2⟩, q3⟩, q4⟩, q5⟩, q6⟩, q7⟩, q8⟩, q9⟩ := hq
            have k0 : k = 0 := by
              cases k with
              | ofNat j => exact congrArg Int.ofNat (Nat.eq_of_beq_eq_true q1)
              | negSucc j => cases q1
            subst k0; subst q2; subst q5
            exact ⟨_, rfl, Nat.le_of_ble_eq_true q3, q4, q6, q7, q8, q9⟩
          · cases h
        · cases h
      · cases h
    · cases h
  · cases h
set_option maxHeartbeats 1000000 in
theorem insert_call {C : Cx} (ok : CxOk C) (hN : NameOk C.P) (hI : IntrOk C) (hM : C.P.follows .mixedOrders = true) {fuel f elem z : Nat} (hL : InsertSpec C.P f elem z) (hT : C.P.underlying elem ≠ some (.int .u8)) {B : Nat} {args : List Value} {s s' : St} {v : Value}
    (h : insertA C fuel f elem z args s = .ok (v, s')) : CallOk C B f args s v s' := by
  unfold insertA at h
  split at h
  · exact call_ok ok hN hI hM fuel (B := B) (runK_ok h)
  · rename_i a n va hq
    obtain ⟨vc, rfl, hn1, hn2, hvc, ha0, hv0, hne⟩ := insQ_ok hq
    unfold insA at h
    obtain ⟨b, hb, h⟩ := bnd_ok.1 h
    obtain ⟨e, he, h⟩ := bnd_ok.1 h
    obtain ⟨old, hold, h⟩ := bnd_ok.1 h
    obtain ⟨new, hnew, h⟩ := bnd_ok.1 h
    split at h
    case h_2 => cases h
    rename_i hg
    simp only [Bool.and_eq_true, beq_nat, decide_eq_true_eq] at hg
    obtain ⟨⟨⟨⟨⟨⟨g1, g2⟩, g3⟩, g4⟩, g5⟩, g6⟩, g7⟩ := hg
    obtain ⟨⟨r, s1⟩, hq1, h⟩ := bnd_ok.1 h
    obtain ⟨s2, hq2, h⟩ := bnd_ok.1 h
    cases h
    have hr0 : r = s.nx := newO_r hq1
    subst hr0
    intro σ w args' hr ha
    obtain ⟨x', i', y', rfl, hx, hi, hy⟩ := LRel.flatten3 ha
    have hi := hi.of_flat rfl
    subst hi
    obtain ⟨e1, e2, e3⟩ := hx.slice_inv
    obtain ⟨d1, d2, d3⟩ := hy.slice_inv
    obtain ⟨hlv, hgb, hlt, hB, cc, fz, c2, c3, c4, c5, c6⟩ := hr.rd hb
    obtain ⟨hlv', hgv, hlt', hB', vv, fv, v2, v3, v4, v5, v6⟩ := hr.rd he
    have hfz : fz.1 = fz.2 := (c5 g4).elim id fun x => absurd (g2 ▸ x.2) hT
    have hfv : fv.1 = fv.2 := (v5 g5).elim id fun x => absurd (g3 ▸ x.2) hT
    have hblk : (σ va.block).blk ≠ (σ a.block).blk := fun eq => hne (hr.inj _ _ hlv' hlv eq).symm
    obtain ⟨o1, o2⟩ := c3.range hold
    obtain ⟨n1, n2⟩ := v3.range hnew
    simp only [List.drop_zero, Nat.zero_add] at o1 o2 n1 n2
    have hlvW : LiveW s a.block := ⟨_, hgb, rfl, by rw [g4]; rfl⟩
    rcases d3 with ⟨_, d7⟩ | ⟨z', d7, _⟩ | ⟨_, d7, _⟩
    case inr.inl => omega
    case inr.inr => omega
    rcases e3 with ⟨e, _⟩ | ⟨z', e, c', e5, e6, e7⟩ | ⟨_, e6, _⟩
    case inl => omega
    case inr.inr => omega
    have hz' : z' = z := by omega
    subst hz'
    rw [ha0] at e6 e7
    rw [hv0] at d7
    subst e7; subst d7
    rw [Array.length_toList] at n2
    refine (hL (σ a.block).blk n c' (σ va.block).blk vc cc vv fz fv w hn1 hn2 e5 (by omega) n2 hblk (by rw [g2]; exact c2) (by rw [g3]; exact v2) hfz hfv (noAgg_ok o1 g6) (noAgg_ok n1 g7)).mono ?_
    rintro ex w' ⟨g, cap', cc', fz', rfl, p1, p2, p3, p4, p5, p6⟩
    have hpre : ∀ (σ' : Sg) (D' : Nat → Prop), (∀ i, i < s.nx → D' i ∧ σ' i = σ i) → PRel σ' D' (new ++ old) cc'.toList := by
      intro σ' D' hm
      have h1 : LRel σ (· < s.nx) (new ++ old) (cc'.toList.take ((n + 1) * z')) := by rw [p5]; exact n1.app o1
      have h2 := (h1.mono hm).pre (cc'.toList.drop ((n + 1) * z'))
      rwa [List.take_append_drop] at h2
    have hval : ∀ (σ' : Sg) (D' : Nat → Prop), D' s.nx → σ' s.nx = ⟨g, cc'.size⟩ → VRel σ' D' (.slice (some ⟨s.nx, 0, none⟩) (n + 1) (UNK + z')) (.slice (some ⟨g, 0, none⟩) (n + 1) cap') := by
      intro σ' D' h1 h2
      have := VRel.sliceU (σ := σ') (D := D') (b := s.nx) (o := 0) (l := n + 1) (c := cap') (z := z') h1 p1 (by rw [h2]; show 0 + cap' * z' ≤ cc'.size; omega)
      rw [h2] at this
      exact this
    rcases p6 with ⟨rfl, k1, k2, k3, k4, k5⟩ | ⟨hge, hBe⟩
    · obtain ⟨m1, m2, m3⟩ := hr.move (sz := cc'.size) (w' := w') hq1 hq2 rfl hlvW k2 k1 k3 k4 k5
        ⟨_, p4, cc', fz', rfl, hpre σ _ (fun i hi => ⟨hi, rfl⟩), fun e => (by cases e), fun _ => .inl p3, rfl⟩
      exact ⟨_, _, rfl, hval _ _ (by show s.nx < _; omega) (more_same _ _ _), m2, m3⟩
    · obtain ⟨k3, k4⟩ := hr.below hBe
      have hot : ∀ i, i < s.nx → more σ s.nx ⟨g, cc'.size⟩ i = σ i := fun i hi => more_other σ _ (by omega)
      have k5 := k3.congr (σ' := more σ s.nx ⟨g, cc'.size⟩) hot
      obtain ⟨k6, k7, k8, k9⟩ := k5.adopt (ao := .cells (new ++ old) elem true true) (o' := .cells cc' elem fz') hq1 rfl (by rw [more_same]; exact p4)
        (by rw [more_same]; exact ⟨cc', fz', rfl, hpre _ _ (fun i hi => ⟨hi, hot i hi⟩), (fun e => by cases e), (fun _ => .inl p3), rfl⟩) (by rw [more_same]; exact Nat.le_trans hr.big hge)
        (fun j hj => by rw [more_same, hot j (k5.live_lt hj)]; have := hr.live_blk hj; show (σ j).blk ≠ g; omega)
      have hext : Ext σ (more σ s.nx ⟨g, cc'.size⟩) s s1 w w' := by
        refine ⟨hot, by omega, hBe.size, fun k hk _ => hBe.block k hk, fun i hi => ?_, fun i hi => ?_, hBe.os, hBe.tape, hBe.output⟩
        · rcases k7 i hi with h2 | h2
          · exact .inl h2
          · subst h2; exact .inr (.inl (by rw [more_same]; exact hge))
        · rcases k9 i hi with h2 | h2
          · exact .inl h2
          · subst h2; exact .inr (.inl (by rw [more_same]; exact hge))
      have hlb : LiveW s1 a.block := by
        obtain ⟨h1', hs1, hn2⟩ := bnd_ok.1 hq1
        injection hn2 with hn2; injection hn2 with _ hn2; subst hn2
        obtain ⟨_, g2'⟩ := setT_ok hs1
        exact ⟨_, by rw [g2' _ (by omega)]; exact hgb, rfl, by rw [g4]; rfl⟩
      obtain ⟨r1, r2, r3⟩ := k6.put (w' := w') hq2 hlb (fun _ _ => rfl) rfl rfl rfl rfl (fun e => by cases e)
      exact ⟨_, _, rfl, hval _ _ (by show s.nx < _; omega) (more_same _ _ _), r1, Ext.trans hr k6 hext r2⟩

/- laws of the model that Insert's walk leans on -/
section
variable {P : Program}
theorem copy_run (w w' : World) (ty dT sT T z : Nat) {i : TypeInfo} (hu : P.underlying dT = some (.slice T)) (hi : P.info? T = some i) (hz : i.size = z) (da sa : Addr) (dl dc sl sc : Nat) (l : Array Value)
    (hl : (loadCells sa (Nat.min sl dl * z)).run P w = .ok l w) (hs : (storeCells da l.toList).run P w = .ok () w') :
    (Builtin.copy_ #[dT, sT] ty #[.slice (some da) dl dc, .slice (some sa) sl sc]).run P w = .ok (goInt (Nat.min sl dl)) w' := by
  have hu1 : ∀ w, (underlying dT).run P w = .ok (.slice T) w := run_underlying hu
  have hi0 : ∀ w, (typeInfo T).run P w = .ok i w := fun w => by simp [typeInfo, hi]
  have hsz0 : ∀ w, (sizeOf T).run P w = .ok z w := fun w => by simp [sizeOf, hi0, hz]
  have hf : (Builtin.firstCells z (Nat.min sl dl) (.slice (some sa) sl sc)).run P w = .ok l w := by simpa [Builtin.firstCells] using hl
  have hle : (Builtin.lenOf (.slice (some sa) sl sc)).run P w = .ok sl w := by simp [Builtin.lenOf]
  simp [Builtin.copy_, hu1, hle, hsz0, hf, hs]
theorem copy_b {w w' : World} {ts : Array TypeId} {ty : TypeId} {cs : Array Bool} {args : Array Value} {r : Value} (h : (Builtin.copy_ ts ty args).run P w = .ok r w') : (builtin .copy ts ty cs args).run P w = .ok (.value r) w' := by simp [builtin, h]
theorem append_b {w w' : World} {ts : Array TypeId} {ty : TypeId} {cs : Array Bool} {args : Array Value} {r : Value} (h : (Builtin.append_ ts ty args).run P w = .ok r w') : (builtin .append ts ty cs args).run P w = .ok (.value r) w' := by simp [builtin, h]
theorem wp_call_run (w : World) {o : Oper} {a : Act} {K : Act → World → Prop} {Q : Exit → Act → World → Prop} {b : Builtin} {d x : Operand} {ts : Array TypeId}
    (ho : o.op = .call { callee := .builtin b, args := #[d, x], argTypes := ts }) {u v r : Value} (hd : a.eval d = u) (hx : a.eval x = v) {w' : World}
    (hr : ∀ cs, (builtin b ts o.type cs #[u, v]).run P w = .ok (.value r) w') (h : K (a.put o.dst r) w') : o.wp P a w K Q := by
  unfold Oper.wp execOp
  simp only [ho, resolve, invoke, Sem.run_bind, Sem.run_pure, Result.andThen_ok, List.map_toArray, List.map_cons, List.map_nil, hd, hx, hr]
  exact h
theorem wpList_call_run (w : World) {ops : Array Oper} {rest : List Oper} {o : Oper} {a : Act} {Q : Exit → Act → World → Prop} {b : Builtin} {d x : Operand} {ts : Array TypeId} (hgd : o.guard = none)
    (ho : o.op = .call { callee := .builtin b, args := #[d, x], argTypes := ts }) {u v r : Value} (hd : a.eval d = u) (hx : a.eval x = v) {w' : World}
    (hr : ∀ cs, (builtin b ts o.type cs #[u, v]).run P w = .ok (.value r) w') (h : wpList P ops Q rest (a.put o.dst r) w') : wpList P ops Q (o :: rest) a w :=
  wpList_plain hgd fun _ hK => wp_call_run w ho hd hx hr (hK _ _ h)
theorem step_call_run {ops : Array Oper} {o : Oper} {a : Act} {w : World} {K : Act → World → Prop} {Q : Exit → Act → World → Prop} {E : Prop} {b : Builtin} {d x : Operand} {ts : Array TypeId}
    (hg : o.guard = none) (ho : o.op = .call { callee := .builtin b, args := #[d, x], argTypes := ts }) {u v r : Value} (hd : a.eval d = u) (hx : a.eval x = v) {w' : World}
    (hr : ∀ cs, (builtin b ts o.type cs #[u, v]).run P w = .ok (.value r) w') (hK : K (a.put o.dst r) w') : if Region.wanted o (yielded ops a.tmps) = true then Oper.wp P o a w K Q else E := by
  have hw : Region.wanted o (yielded ops a.tmps) = true := by simp [Region.wanted, hg]
  rw [if_pos hw]
  exact wp_call_run w ho hd hx hr hK
end
end Go.Proofs.YtoddlefhlicfiaaGreatDoorR.X
