/- The executor, part A: its texts one behind the other (see each head). No statement of the seat stands here. -/
import Derived.CallsIn
import Derived.Below
import Derived.Laws.Cells
import Derived.Laws.IdiomCopy
import Derived.RangeFuncRecord
import Derived.Laws.Strings
import Derived.Laws.Strings2
import Derived.Laws.Concat
import Derived.Laws.Cover1
import Derived.Laws.BitsLemmas
import Derived.ChangeKeysEq
import Derived.Laws.StructEq
import Derived.Laws.Slices
import Derived.Laws.Build
set_option linter.unusedVariables false
set_option linter.unusedSimpArgs false
/- The executor, its definitions: a big-step reckoning over the model's code, over memory whose blocks have numbers of our own and whose capacities, where an append drew them, are unknown. No statement stands here. -/
namespace Go.Proofs.YtoddlefhlicfiaaGreatDoorR.X
open Go

/-- eight of a kind -/
structure T8 (α : Type) where
  a : α
  b : α
  c : α
  d : α
  e : α
  f : α
  g : α
  h : α
  deriving Inhabited
namespace T8
variable {α : Type}
def get (t : T8 α) : Nat → α
  | 0 => t.a
  | 1 => t.b
  | 2 => t.c
  | 3 => t.d
  | 4 => t.e
  | 5 => t.f
  | 6 => t.g
  | _ => t.h
def set (t : T8 α) (x : α) : Nat → T8 α
  | 0 => ⟨x, t.b, t.c, t.d, t.e, t.f, t.g, t.h⟩
  | 1 => ⟨t.a, x, t.c, t.d, t.e, t.f, t.g, t.h⟩
  | 2 => ⟨t.a, t.b, x, t.d, t.e, t.f, t.g, t.h⟩
  | 3 => ⟨t.a, t.b, t.c, x, t.e, t.f, t.g, t.h⟩
  | 4 => ⟨t.a, t.b, t.c, t.d, x, t.f, t.g, t.h⟩
  | 5 => ⟨t.a, t.b, t.c, t.d, t.e, x, t.g, t.h⟩
  | 6 => ⟨t.a, t.b, t.c, t.d, t.e, t.f, x, t.h⟩
  | _ => ⟨t.a, t.b, t.c, t.d, t.e, t.f, t.g, x⟩
def all (x : α) : T8 α := ⟨x, x, x, x, x, x, x, x⟩
end T8
/-- trees of such, the digits of a place from the lowest on -/
abbrev Tr (α : Type) := T8 (T8 (T8 (T8 (T8 (T8 (Option α))))))
namespace Tr
variable {α : Type}
def e : Tr α := .all (.all (.all (.all (.all (.all none)))))
def get (t : Tr α) (i : Nat) : Option α := match Nat.blt i 262144 with
  | true => (((((T8.get t (Nat.mod i 8)).get (Nat.mod (Nat.div i 8) 8)).get (Nat.mod (Nat.div i 64) 8)).get (Nat.mod (Nat.div i 512) 8)).get (Nat.mod (Nat.div i 4096) 8)).get (Nat.div i 32768)
  | false => none
/-- a value at a place -/
def lay (t : Tr α) (i : Nat) (x : α) : Tr α :=
  let t1 := T8.get t (Nat.mod i 8)
  let t2 := t1.get (Nat.mod (Nat.div i 8) 8)
  let t3 := t2.get (Nat.mod (Nat.div i 64) 8)
  let t4 := t3.get (Nat.mod (Nat.div i 512) 8)
  let t5 := t4.get (Nat.mod (Nat.div i 4096) 8)
  T8.set t (t1.set (t2.set (t3.set (t4.set (t5.set (some x) (Nat.div i 32768)) (Nat.mod (Nat.div i 4096) 8)) (Nat.mod (Nat.div i 512) 8)) (Nat.mod (Nat.div i 64) 8)) (Nat.mod (Nat.div i 8) 8)) (Nat.mod i 8)
def ofL : List α → Nat → Tr α → Tr α
  | [], _, t => t
  | a :: l, i, t => match Nat.blt i 262144 with
    | true => ofL l (Nat.succ i) (t.lay i a)
    | false => t
def ofList (l : List α) : Tr α := ofL l 0 .e
end Tr

abbrev M := Except String
def M.bnd {α β : Type} (x : M α) (f : α → M β) : M β := match x with
  | .ok a => f a
  | .error e => .error e
/-- a word where a reckoning fails -/
def M.note {α : Type} (w : String) (x : M α) : M α := match x with
  | .ok a => .ok a
  | .error e => .error (e ++ " " ++ w)
/-- the value of an option, or a word why there is none -/
def some! {α : Type} (why : String) (x : Option α) : M α := match x with
  | some a => .ok a
  | none => .error why
def setT {α : Type} (t : Tr α) (i : Nat) (x : α) : M (Tr α) := match Nat.blt i 262144 with
  | true => .ok (t.lay i x)
  | false => .error "tree"
/-- another value at a place that has one -/
def updT {α : Type} (t : Tr α) (i : Nat) (x : α) : M (Tr α) := match t.get i with
  | some _ => .ok (t.lay i x)
  | none => .error "tree"
def mapM' {α β : Type} (f : α → M β) : List α → M (List β)
  | [] => .ok []
  | a :: l => M.bnd (f a) fun b => M.bnd (mapM' f l) fun r => .ok (b :: r)

/-- temporaries -/
abbrev Tm := T8 (T8 (T8 (Option Value)))
namespace Tm
def e : Tm := .all (.all (.all none))
def get (t : Tm) (i : Nat) : Option Value := match Nat.blt i 512 with
  | true => ((T8.get t (Nat.mod i 8)).get (Nat.mod (Nat.div i 8) 8)).get (Nat.div i 64)
  | false => none
def lay (t : Tm) (i : Nat) (x : Value) : Tm :=
  let t1 := T8.get t (Nat.mod i 8)
  let t2 := t1.get (Nat.mod (Nat.div i 8) 8)
  T8.set t (t1.set (t2.set (some x) (Nat.div i 64)) (Nat.mod (Nat.div i 8) 8)) (Nat.mod i 8)
def ofL : List Value → Nat → Tm → Tm
  | [], _, t => t
  | a :: l, i, t => match Nat.blt i 512 with
    | true => ofL l (Nat.succ i) (lay t i a)
    | false => t
def ofList (l : List Value) : Tm := ofL l 0 e
end Tm
/-- another value of a temporary -/
def updM (t : Tm) (i : Nat) (x : Value) : M Tm := match Tm.get t i with
  | some _ => .ok (Tm.lay t i x)
  | none => .error "temporary"

structure ALoop where
  st : LoopState
  pend : Option Code
  tmps : Tm
  params : Array Tmp
  assign : Code
  body : Code

inductive AO where
  /-- cells known; more may lie behind them (grow); may be written (wr) -/
  | cells (c : List Value) (elem : TypeId) (grow wr : Bool)
  | map (es : List MapEntry) (clock : Nat)
  | loop (l : ALoop)
  | defd
  | sit (s : ByteArray) (pos : Nat)
  | dead

structure St where
  h : Tr AO
  nx : Nat

/-- a capacity that is not known -/
def UNK : Nat := 1180591620717411303424

structure Cx where
  P : Program
  types : Tr TypeInfo
  funcs : Tr Func
  /-- how many package-level variables there are whose blocks we know, by their own numbers -/
  G : Nat
  intr : Nat → Option (List Value → St → M (Value × St))
  /-- functions without a body -/
  ext : Nat → Option (List Value → St → M (Value × St))

section
variable (C : Cx)
def info (t : TypeId) : M TypeInfo := some! "type" (Tr.get C.types t)
def und (t : TypeId) : M TypeDesc := M.bnd (info C t) fun i => match i.desc with
  | .named _ u => M.bnd (info C u) fun j => .ok j.desc
  | d => .ok d
def szOf (t : TypeId) : M Nat := M.bnd (info C t) fun i => .ok i.size
def flat : Value → Bool
  | .bool _ | .int .. | .float .. | .complex .. | .string _ | .pointer none | .slice none _ _ | .map none | .nilFunc | .nilIface => true
  | _ => false
/-- one cell that is known, or a row of such -/
def flatZ : Value → Bool
  | .agg cs => cs.toList.all flat
  | v => flat v
def zeroOf (t : TypeId) : M Value := M.bnd (info C t) fun i => M.bnd (some! "zero" i.zero) fun v => match flatZ v with
  | true => .ok v
  | false => .error "zero"
def aggD : TypeDesc → Bool
  | .struct _ | .array _ _ => true
  | _ => false
def isAggA (t : TypeId) : M Bool := M.bnd (und C t) fun d => .ok (aggD d)
def cellsL : Value → List Value
  | .agg cs => cs.toList
  | v => [v]

def newO (s : St) (o : AO) : M (Nat × St) := M.bnd (setT s.h s.nx o) fun h => .ok (s.nx, { h, nx := s.nx + 1 })
def putO (s : St) (b : Nat) (o : AO) : M St := M.bnd (updT s.h b o) fun h => .ok { s with h }

structure Blk where
  c : List Value
  elem : TypeId
  grow : Bool
  wr : Bool
def rd (s : St) (b : Nat) : M Blk := match Tr.get s.h b with
  | some (.cells c elem grow wr) => .ok { c, elem, grow, wr }
  | some .dead => .error "a block that may be no more"
  | _ => .error "no cells"

def getL : List Value → Nat → Option Value
  | [], _ => none
  | a :: l, i => match Nat.beq i 0 with
    | true => some a
    | false => getL l (Nat.sub i 1)
def takeN : List Value → Nat → Option (List Value)
  | _, 0 => some []
  | [], _ + 1 => none
  | a :: l, n + 1 => match takeN l n with
    | some r => some (a :: r)
    | none => none
def dropN : List Value → Nat → Option (List Value)
  | l, 0 => some l
  | [], _ + 1 => none
  | _ :: l, n + 1 => dropN l n
/-- n cells from o on -/
def rangeN (l : List Value) (o n : Nat) : M (List Value) := match dropN l o with
  | some r => some! "range of cells" (takeN r n)
  | none => .error "range of cells"
/-- cells laid over those from o on -/
def over : List Value → List Value → Option (List Value)
  | l, [] => some l
  | [], _ :: _ => none
  | _ :: l, v :: vs => match over l vs with
    | some r => some (v :: r)
    | none => none
def splice : List Value → Nat → List Value → Option (List Value)
  | l, 0, vs => over l vs
  | [], _ + 1, _ => none
  | a :: l, o + 1, vs => match splice l o vs with
    | some r => some (a :: r)
    | none => none
def repL (z : List Value) : Nat → List Value
  | 0 => []
  | n + 1 => z ++ repL z n

def loadA (s : St) (t : TypeId) (a : Addr) : M Value := match a.spot with
  | some _ => .error "spot"
  | none => M.bnd (rd s a.block) fun b => M.bnd (isAggA C t) fun g => match g with
    | true => M.bnd (szOf C t) fun n => M.bnd (rangeN b.c a.off n) fun l => .ok (.agg l.toArray)
    | false => some! "cell" (getL b.c a.off)
def isCell : Value → Bool
  | .agg _ | .tuple _ => false
  | _ => true
def noAgg : List Value → Bool
  | [] => true
  | v :: l => match isCell v with
    | true => noAgg l
    | false => false
def storeCellsA (s : St) (a : Addr) (vs : List Value) : M St := match a.spot with
  | some _ => .error "spot"
  | none => M.bnd (rd s a.block) fun b => match b.wr with
    | false => .error "a block that must not be written"
    | true => match noAgg vs with
      | false => .error "cells that are none"
      | true => match splice b.c a.off vs with
        | some c => putO s a.block (.cells c b.elem b.grow true)
        | none => .error "store range"
def storeA (s : St) (t : TypeId) (a : Addr) (v : Value) : M St := M.bnd (szOf C t) fun n => match Nat.beq (cellsL v).length n with
  | true => storeCellsA s a (cellsL v)
  | false => .error "store size"

def runPure {α : Type} : Sem α → M α
  | .pure a => .ok a
  | .program k => runPure (k C.P)
  | _ => .error "not pure or a panic"

def constA (v : Value) : M Value := match flat v with
  | true => .ok v
  | false => .error "a constant with depth"

def evalA (G : Nat) (t : Tm) : Operand → M Value
  | .tmp i => some! "undefined tmp" (Tm.get t i)
  | .const v => constA v
  | .global g => match Nat.blt g G with
    | true => .ok (.pointer (some ⟨g, 0, none⟩))
    | false => .error "a package-level variable"
  | .func f => .ok (.func (.func f) #[] #[])

/- whole numbers -/
def wrapF (k : IntKind) : Int → Int
  | .ofNat m => match k with
    | .i64 => match Nat.blt m 9223372036854775808 with
      | true => .ofNat m
      | false => k.wrap (.ofNat m)
    | .u8 => .ofNat (Nat.mod m 256)
    | .u32 => .ofNat (Nat.mod m 4294967296)
    | .u64 => .ofNat (Nat.mod m 18446744073709551616)
    | _ => k.wrap (.ofNat m)
  | .negSucc m => match k with
    | .i64 => match Nat.blt m 9223372036854775808 with
      | true => .negSucc m
      | false => k.wrap (.negSucc m)
    | _ => k.wrap (.negSucc m)
def eqI (a b : Int) : Bool := match a, b with
  | .ofNat m, .ofNat n => Nat.beq m n
  | .negSucc m, .negSucc n => Nat.beq m n
  | _, _ => false
def ltI (a b : Int) : Bool := match a, b with
  | .ofNat m, .ofNat n => Nat.blt m n
  | .negSucc m, .negSucc n => Nat.blt n m
  | .negSucc _, .ofNat _ => true
  | .ofNat _, .negSucc _ => false
def leI (a b : Int) : Bool := !ltI b a
def slowI (op : BinOp) (t : TypeId) (k j : IntKind) (a b : Int) : M Value := M.bnd (runPure C (binOp op t (.int k a) (.int j b))) constA
def intBin (op : BinOp) (t : TypeId) (k j : IntKind) (a b : Int) : M Value := match op with
  | .add => match decide (k = j) with
    | true => .ok (.int k (wrapF k (Int.add a b)))
    | false => .error "kinds"
  | .sub => match decide (k = j) with
    | true => .ok (.int k (wrapF k (Int.sub a b)))
    | false => .error "kinds"
  | .mul => match decide (k = j) with
    | true => .ok (.int k (wrapF k (Int.mul a b)))
    | false => .error "kinds"
  | .eql => match decide (k = j) with
    | true => .ok (.bool (eqI a b))
    | false => .error "kinds"
  | .neq => match decide (k = j) with
    | true => .ok (.bool (!eqI a b))
    | false => .error "kinds"
  | .lss => match decide (k = j) with
    | true => .ok (.bool (ltI a b))
    | false => .error "kinds"
  | .leq => match decide (k = j) with
    | true => .ok (.bool (leI a b))
    | false => .error "kinds"
  | .gtr => match decide (k = j) with
    | true => .ok (.bool (ltI b a))
    | false => .error "kinds"
  | .geq => match decide (k = j) with
    | true => .ok (.bool (leI b a))
    | false => .error "kinds"
  | op => slowI C op t k j a b

def bytesL (s : ByteArray) : List UInt8 := s.data.toList
def eqB : List UInt8 → List UInt8 → Bool
  | [], [] => true
  | a :: x, b :: y => match Nat.beq a.toNat b.toNat with
    | true => eqB x y
    | false => false
  | _, _ => false
def ltB : List UInt8 → List UInt8 → Bool
  | _, [] => false
  | [], _ :: _ => true
  | a :: x, b :: y => match Nat.blt a.toNat b.toNat with
    | true => true
    | false => match Nat.beq a.toNat b.toNat with
      | true => ltB x y
      | false => false
def strBin (op : BinOp) (a b : ByteArray) : M Value := match op with
  | .add => match Nat.blt (a.size + b.size) 4294967296 with
    | true => .ok (.string ⟨⟨bytesL a ++ bytesL b⟩⟩)
    | false => .error "long strings"
  | .eql => .ok (.bool (eqB (bytesL a) (bytesL b)))
  | .neq => .ok (.bool (!eqB (bytesL a) (bytesL b)))
  | .lss => .ok (.bool (ltB (bytesL a) (bytesL b)))
  | .leq => .ok (.bool (ltB (bytesL a) (bytesL b) || eqB (bytesL a) (bytesL b)))
  | .gtr => .ok (.bool (!(ltB (bytesL a) (bytesL b) || eqB (bytesL a) (bytesL b))))
  | .geq => .ok (.bool (!ltB (bytesL a) (bytesL b)))
  | _ => .error "strings"

def partA (t : TypeId) (cs : List Value) (off : Nat) : M Value := M.bnd (isAggA C t) fun g => match g with
  | true => M.bnd (szOf C t) fun n => M.bnd (rangeN cs off n) fun l => .ok (.agg l.toArray)
  | false => some! "cell" (getL cs off)

/-- all of a list of tests, ended by the first that says no -/
def allM {α : Type} (f : α → M Bool) : List α → M Bool
  | [] => .ok true
  | a :: l => M.bnd (f a) fun b => match b with
    | true => allM f l
    | false => .ok false

def eqA : Nat → TypeId → Value → Value → M Bool
  | 0, _, _, _ => .error "eq depth"
  | d + 1, t, x, y => M.bnd (und C t) fun u => match u with
    | .bool => match x, y with
      | .bool a, .bool b => .ok (a == b)
      | _, _ => .error "eq"
    | .int _ => match x, y with
      | .int k a, .int j b => match decide (k = j) with
        | true => .ok (eqI a b)
        | false => .error "eq"
      | _, _ => .error "eq"
    | .string => match x, y with
      | .string a, .string b => .ok (eqB (bytesL a) (bytesL b))
      | _, _ => .error "eq"
    | .pointer e => match x, y with
      | .pointer none, .pointer b => .ok b.isNone
      | .pointer (some _), .pointer none => .ok false
      | .pointer (some a), .pointer (some b) => M.bnd (szOf C e) fun n => match Nat.beq n 0 with
        | true => .error "eq no size"
        | false => match Nat.beq a.block b.block && a.spot.isNone && b.spot.isNone with
          | true => .ok (Nat.beq a.off b.off)
          | false => .error "eq pointers to different blocks"
      | _, _ => .error "eq"
    | .interface _ => match x, y with
      | .nilIface, .nilIface => .ok true
      | .nilIface, .iface _ _ | .iface _ _, .nilIface => .ok false
      | .iface tx vx, .iface ty vy => match Nat.beq tx ty with
        | false => .ok false
        | true => M.bnd (info C tx) fun i => match i.comparable with
          | true => eqA d tx vx vy
          | false => .error "eq not comparable"
      | _, _ => .error "eq"
    | .struct fields => match x, y with
      | .agg xs, .agg ys => match C.P.stoodInHeld t with
        | true => .error "eq stood in"
        | false => allM (fun (f : Field) => match decide (f.name = "_") with
          | false => M.bnd (partA C f.type xs.toList f.offset) fun a => M.bnd (partA C f.type ys.toList f.offset) fun b => eqA d f.type a b
          | true => .ok true) fields.toList
      | _, _ => .error "eq"
    | .array len e => match x, y with
      | .agg xs, .agg ys => M.bnd (szOf C e) fun n => allM (fun (i : Nat) =>
          M.bnd (partA C e xs.toList (i * n)) fun a => M.bnd (partA C e ys.toList (i * n)) fun b => eqA d e a b) (List.range len)
      | _, _ => .error "eq"
    | .slice _ => match x, y with
      | .slice none _ _, .slice b _ _ => .ok b.isNone
      | .slice (some _) _ _, .slice none _ _ => .ok false
      | _, _ => .error "eq"
    | .map _ _ => match x, y with
      | .map none, .map b => .ok b.isNone
      | .map (some _), .map none => .ok false
      | _, _ => .error "eq"
    | .func _ _ _ => match x, y with
      | .nilFunc, .nilFunc => .ok true
      | .nilFunc, .func _ _ _ | .func _ _ _, .nilFunc => .ok false
      | _, _ => .error "eq"
    | _ => .error "eq"

def binA (op : BinOp) (t : TypeId) (x y : Value) : M Value := match x, y with
  | .int k a, .int j b => intBin C op t k j a b
  | .string a, .string b => strBin op a b
  | x, y => match op with
    | .eql => M.bnd (eqA C 50 t x y) fun b => .ok (.bool b)
    | .neq => M.bnd (eqA C 50 t x y) fun b => .ok (.bool (!b))
    | _ => .error "operands"
end
end Go.Proofs.YtoddlefhlicfiaaGreatDoorR.X

/- The executor, its definitions: the operations. No statement stands here. -/
namespace Go.Proofs.YtoddlefhlicfiaaGreatDoorR.X
open Go
section
variable (C : Cx)

def asI : Value → M Int
  | .int _ n => .ok n
  | _ => .error "int expected"
def natOf : Int → M Nat
  | .ofNat n => .ok n
  | _ => .error "below zero"
def bytesOf : List Value → Option (List UInt8)
  | [] => some []
  | .int .u8 n :: r => match bytesOf r with
    | some l => some (UInt8.ofNat n.toNat :: l)
    | none => none
  | _ => none
def ofBytes (l : List UInt8) : List Value := l.map fun b => .int .u8 b.toNat

def isU8 (t : TypeId) : M Bool := M.bnd (und C t) fun d => match d with
  | .int .u8 => .ok true
  | _ => .ok false
def sliceElem (t : TypeId) : M TypeId := M.bnd (und C t) fun d => match d with
  | .slice e => .ok e
  | _ => .error "slice type"
def at0 (r : Nat) : Value := .pointer (some ⟨r, 0, none⟩)

def convA (s : St) (src dst : TypeId) (x : Value) : M (Value × St) := M.bnd (und C src) fun _ => M.bnd (und C dst) fun d => match d with
  | .int k => match x with
    | .int _ n => .ok (.int k (wrapF k n), s)
    | _ => .error "conv"
  | .string => match x with
    | .string b => .ok (.string b, s)
    | .int _ n => M.bnd (und C src) fun u => match u with
      | .int _ => .ok (.string (Utf8.encode n), s)
      | _ => .error "conv"
    | .slice none _ _ => M.bnd (sliceElem C src) fun e => M.bnd (isU8 C e) fun u => match u with
      | true => .ok (.string ⟨⟨[]⟩⟩, s)
      | false => .error "conv runes"
    | .slice (some a) n _ => M.bnd (sliceElem C src) fun e => M.bnd (isU8 C e) fun u => match u with
      | true => match a.spot with
        | none => M.bnd (rd s a.block) fun b => M.bnd (rangeN b.c a.off n) fun l => M.bnd (some! "bytes" (bytesOf l)) fun r => .ok (.string ⟨⟨r⟩⟩, s)
        | some _ => .error "spot"
      | false => .error "conv runes"
    | _ => .error "conv"
  | .slice e => M.bnd (isU8 C e) fun u => match u with
    | true => match x with
      | .string b => M.bnd (und C src) fun u => match u with
        | .string => M.bnd (newO s (.cells (ofBytes (bytesL b)) e true true)) fun (r, s) => .ok (.slice (some ⟨r, 0, none⟩) b.size (UNK + 1), s)
        | _ => .error "conv"
      | .slice (some a) n c => M.bnd (sliceElem C src) fun _ => match Nat.beq src dst with
        | true => M.bnd (rd s a.block) fun b => match b.wr && Nat.beq b.elem e with
          | true => .ok (.slice (some a) n c, s)
          | false => .error "conv slices"
        | false => .error "conv slices"
      | _ => .error "conv"
    | false => .error "conv slices"
  | _ => .error "conv"

def fillL (place : Nat → M (Nat × Nat)) (cells : List Value) : List (Nat × Value) → M (List Value)
  | [] => .ok cells
  | (i, v) :: rest => M.bnd (place i) fun (off, size) => match Nat.beq (cellsL v).length size with
    | true => M.bnd (some! "fill" (splice cells off (cellsL v))) fun cells => fillL place cells rest
    | false => .error "fill"
/-- where each field lies, and of how many cells it is -/
def placesA (t : TypeId) : M (List (Nat × Nat)) := M.bnd (und C t) fun d => match d with
  | .struct fs => mapM' (fun (f : Field) => M.bnd (szOf C f.type) fun n => .ok (f.offset, n)) fs.toList
  | _ => .error "struct type"
def fieldOf (t : TypeId) (f : Nat) : M Field := M.bnd (und C t) fun d => match d with
  | .struct fs => some! "field" fs[f]?
  | _ => .error "struct type"

def inB (i : Int) (n : Nat) : M Nat := match i with
  | .ofNat m => match Nat.ble m n with
    | true => .ok m
    | false => .error "slice bounds"
  | _ => .error "slice bounds"
def optI : Option Value → Nat → Nat → M Nat
  | some v, n, _ => M.bnd (asI v) fun i => inB i n
  | none, _, d => .ok d
def addr (a : Addr) (n : Nat) : Addr := { a with off := a.off + n }
/-- low and high, where both lie within n; the length is len -/
def boundsA (len n : Nat) (low high : Option Value) : M (Nat × Nat) := M.bnd (optI high n len) fun h => M.bnd (optI low h 0) fun l => .ok (l, h)
/-- the third bound -/
def thirdA (n : Nat) (high mx : Option Value) : M Nat := match mx with
  | none => .ok n
  | some v => match high with
    | some _ => M.bnd (asI v) fun i => inB i n
    | none => .error "slice bounds"
def sliceA (t : TypeId) (x : Value) (low high mx : Option Value) : M Value := M.bnd (und C t) fun d => match d with
  | .string => match x, mx with
    | .string b, none => M.bnd (boundsA b.size b.size low high) fun (l, h) => .ok (.string ⟨⟨((bytesL b).drop l).take (h - l)⟩⟩)
    | _, _ => .error "slice string"
  | .array n elem => match x with
    | .pointer (some a) => M.bnd (thirdA n high mx) fun m => M.bnd (boundsA n m low high) fun (l, h) => M.bnd (szOf C elem) fun z => match Nat.blt n UNK with
      | true => match Nat.beq m l with
        | true => .ok (.slice (some a) (h - l) (m - l))
        | false => .ok (.slice (some (addr a (l * z))) (h - l) (m - l))
      | false => .error "slice array"
    | _ => .error "slice array"
  | .slice elem => match x with
    | .slice none len cap => match Nat.blt cap UNK with
      | false => .error "slice nil"
      | true => M.bnd (thirdA cap high mx) fun m => M.bnd (boundsA len m low high) fun (l, h) => M.bnd (szOf C elem) fun _ => .ok (.slice none (h - l) (m - l))
    | .slice (some a) len cap => M.bnd (szOf C elem) fun z => match Nat.blt cap UNK with
      | true => M.bnd (thirdA cap high mx) fun m => M.bnd (boundsA len m low high) fun (l, h) => match Nat.beq m l with
        | true => .ok (.slice (some a) (h - l) (m - l))
        | false => .ok (.slice (some (addr a (l * z))) (h - l) (m - l))
      | false => match mx with
        | some _ => M.bnd (thirdA len high mx) fun m => M.bnd (boundsA len m low high) fun (l, h) => match Nat.blt m UNK with
          | true => match Nat.beq m l with
            | true => .ok (.slice (some a) (h - l) (m - l))
            | false => .ok (.slice (some (addr a (l * z))) (h - l) (m - l))
          | false => .error "slice long"
        | none => match Nat.beq cap (UNK + z) with
          | true => M.bnd (boundsA len len low high) fun (l, h) => .ok (.slice (some (addr a (l * z))) (h - l) cap)
          | false => .error "slice cells"
    | _ => .error "slice"
  | _ => .error "slice type"

def keyEq : Value → Value → M Bool
  | .int k a, .int j b => match decide (k = j) with
    | true => .ok (eqI a b)
    | false => .error "key"
  | .string a, .string b => .ok (eqB (bytesL a) (bytesL b))
  | _, _ => .error "key kind"
/-- does the key's type fit what findNow reckons by -/
def keyKind (t : TypeId) (k : Value) : M Unit := M.bnd (und C t) fun d => match d, k with
  | .int _, .int _ _ => .ok ()
  | .string, .string _ => .ok ()
  | _, _ => .error "key type"
def findK (k : Value) : List MapEntry → Nat → M (Option Nat)
  | [], _ => .ok none
  | e :: es, i => M.bnd (keyEq k e.key) fun b => match b with
    | true => .ok (some i)
    | false => findK k es (i + 1)
def rdMap (s : St) (r : Nat) : M (List MapEntry × Nat) := match Tr.get s.h r with
  | some (.map es c) => .ok (es, c)
  | _ => .error "no map"
def mapTypes (t : TypeId) : M (TypeId × TypeId) := M.bnd (und C t) fun d => match d with
  | .map k e => .ok (k, e)
  | _ => .error "map type"
def lookupA (s : St) (t : TypeId) (x ix : Value) (ok : Bool) : M Value := M.bnd (mapTypes C t) fun (kt, et) => M.bnd (keyKind C kt ix) fun _ =>
  let found (v : Value) (b : Bool) : M Value := match ok with
    | true => .ok (.tuple #[v, .bool b])
    | false => .ok v
  match x with
  | .map none => M.bnd (zeroOf C et) fun z => found z false
  | .map (some r) => M.bnd (rdMap s r) fun (es, _) => M.bnd (findK ix es 0) fun i => match i with
    | some i => M.bnd (some! "entry" es[i]?) fun e => found e.val true
    | none => M.bnd (zeroOf C et) fun z => found z false
  | _ => .error "lookup"
def modL (f : MapEntry → MapEntry) : List MapEntry → Nat → List MapEntry
  | [], _ => []
  | e :: es, 0 => f e :: es
  | e :: es, n + 1 => e :: modL f es n
def mapUpdateA (s : St) (t : TypeId) (m k x : Value) : M St := M.bnd (mapTypes C t) fun (kt, _) => M.bnd (keyKind C kt k) fun _ => match m with
  | .map (some r) => M.bnd (rdMap s r) fun (es, c) => M.bnd (findK k es 0) fun i => match i with
    | some i => putO s r (.map (modL (fun e => { e with key := k, val := x }) es i) c)
    | none => putO s r (.map (es ++ [{ key := k, val := x, born := c }]) (c + 1))
  | _ => .error "map update"

/-- what a slice or a string holds, its first n cells taken; n times size -/
def lenA : Value → M Nat
  | .slice _ n _ => .ok n
  | .string b => .ok b.size
  | _ => .error "slice or string expected"
def firstA (s : St) (size n : Nat) : Value → M (List Value)
  | .slice none _ _ => .ok []
  | .slice (some a) _ _ => match a.spot with
    | none => match Nat.beq (n * size) 0 with
      | true => .ok []
      | false => M.bnd (rd s a.block) fun b => rangeN b.c a.off (n * size)
    | some _ => .error "spot"
  | .string b => .ok (ofBytes ((bytesL b).take n))
  | _ => .error "slice or string expected"
/-- what is appended: how many elements, and their cells -/
def newsA (s : St) (xd : TypeDesc) (z : Value) (size : Nat) (x : Value) : M (Nat × List Value) := match xd with
  | .int _ => match x with
    | .int .i64 (.ofNat n) => match Nat.ble n 65536 with
      | true => .ok (n, repL (cellsL z) n)
      | false => .error "append of make"
    | _ => .error "append of make"
  | _ => M.bnd (lenA x) fun n => M.bnd (firstA s size n x) fun l => .ok (n, l)
def appendA (s : St) (argTypes : Array TypeId) (args : List Value) : M (Value × St) := match args with
  | [.slice base sLen sCap, x] => M.bnd (some! "append" argTypes[0]?) fun st => M.bnd (sliceElem C st) fun elem => M.bnd (szOf C elem) fun size =>
    M.bnd (some! "append" argTypes[1]?) fun xt => M.bnd (und C xt) fun xd => M.bnd (zeroOf C elem) fun z => M.bnd (info C elem) fun i =>
    M.bnd (newsA s xd z size x) fun (n, new) =>
    match Nat.blt (sLen + n) 1048576 && Nat.beq new.length (n * size) && Nat.beq (cellsL z).length size && Nat.ble i.bytes 65536 with
    | false => .error "append large"
    | true => match Nat.blt sCap UNK with
    | true => match Nat.ble (sLen + n) sCap with
      | true => match base with
        | none => .ok (.slice none (sLen + n) sCap, s)
        | some a => match new with
          | [] => .ok (.slice (some a) (sLen + n) sCap, s)
          | new => M.bnd (storeCellsA s (addr a (sLen * size)) new) fun s => .ok (.slice (some a) (sLen + n) sCap, s)
      | false => M.bnd (firstA s size sLen (.slice base sLen sCap)) fun old => match Nat.beq old.length (sLen * size) with
        | true => M.bnd (newO s (.cells (old ++ new) elem true true)) fun (r, s) => .ok (.slice (some ⟨r, 0, none⟩) (sLen + n) (UNK + size), s)
        | false => .error "append cells"
    | false => match base with
      | none => .error "append nil of unknown capacity"
      | some a => match n with
        | 0 => .ok (.slice (some a) (sLen + 0) sCap, s)
        | n => M.bnd (rd s a.block) fun b => match b.grow && Nat.beq elem b.elem && b.wr && Nat.beq sCap (UNK + size) && Nat.beq a.off 0 && noAgg new with
          | true => M.bnd (rangeN b.c 0 (sLen * size)) fun old => M.bnd (newO s (.cells (old ++ new) elem true true)) fun (r, s) => M.bnd (putO s a.block .dead) fun s =>
            .ok (.slice (some ⟨r, 0, none⟩) (sLen + n) sCap, s)
          | false => .error "append unknown capacity at such a block"
  | _ => .error "append arguments"

def copyA (s : St) (argTypes : Array TypeId) (args : List Value) : M (Value × St) := match args with
  | [.slice base dLen _, src] => M.bnd (some! "copy" argTypes[0]?) fun dt => M.bnd (sliceElem C dt) fun elem => M.bnd (szOf C elem) fun size =>
    M.bnd (lenA src) fun m =>
    let n := Nat.min m dLen
    M.bnd (firstA s size n src) fun l => match base, l with
    | none, _ => .ok (.int .i64 n, s)
    | some _, [] => .ok (.int .i64 n, s)
    | some a, l => M.bnd (storeCellsA s a l) fun s => .ok (.int .i64 n, s)
  | _ => .error "copy arguments"

def foldI (mx : Bool) (k : IntKind) (a : Int) : List Value → M Value
  | [] => .ok (.int k a)
  | .int j b :: r => match decide (k = j) with
    | true => match mx with
      | true => match ltI a b with
        | true => foldI mx k b r
        | false => foldI mx k a r
      | false => match ltI b a with
        | true => foldI mx k b r
        | false => foldI mx k a r
    | false => .error "min max"
  | _ => .error "min max"

def builtinA (s : St) (b : Builtin) (argTypes : Array TypeId) (args : List Value) : M (Value × St) := match b with
  | .append => appendA C s argTypes args
  | .copy => copyA C s argTypes args
  | .len => M.bnd (some! "len" argTypes[0]?) fun t => M.bnd (und C t) fun d => match d, args with
    | .string, [.string b] => .ok (.int .i64 b.size, s)
    | .array n _, [_] => .ok (.int .i64 n, s)
    | .slice _, [.slice _ n _] => .ok (.int .i64 n, s)
    | .map _ _, [.map none] => .ok (.int .i64 0, s)
    | .map _ _, [.map (some r)] => M.bnd (rdMap s r) fun (es, _) => .ok (.int .i64 es.length, s)
    | _, _ => .error "len"
  | .cap => M.bnd (some! "cap" argTypes[0]?) fun t => M.bnd (sliceElem C t) fun _ => match args with
    | [.slice _ _ c] => match Nat.blt c UNK with
      | false => .error "cap unknown"
      | true => .ok (.int .i64 c, s)
    | _ => .error "cap"
  | .min => match args with
    | .int k a :: r => M.bnd (foldI false k a r) fun v => .ok (v, s)
    | _ => .error "min"
  | .max => match args with
    | .int k a :: r => M.bnd (foldI true k a r) fun v => .ok (v, s)
    | _ => .error "max"
  | .delete => M.bnd (some! "delete" argTypes[0]?) fun t => M.bnd (mapTypes C t) fun (kt, _) => match args with
    | [.map (some r), k] => M.bnd (keyKind C kt k) fun _ => M.bnd (rdMap s r) fun (es, c) => M.bnd (findK k es 0) fun i => match i with
      | some i => M.bnd (putO s r (.map (es.eraseIdx i) c)) fun s => .ok (.tuple #[], s)
      | none => .ok (.tuple #[], s)
    | _ => .error "delete"
  | .clear => M.bnd (some! "clear" argTypes[0]?) fun t => M.bnd (sliceElem C t) fun elem => match args with
    | [.slice none _ _] => .ok (.tuple #[], s)
    | [.slice (some a) n _] => match n with
      | 0 => .ok (.tuple #[], s)
      | n + 1 => M.bnd (zeroOf C elem) fun z => M.bnd (storeCellsA s a (repL (cellsL z) (n + 1))) fun s => .ok (.tuple #[], s)
    | _ => .error "clear"
  | _ => .error "builtin"

def allocA (s : St) (elem : TypeId) (l : List Value) : M (Value × St) := M.bnd (newO s (.cells l elem false true)) fun (r, s) => .ok (at0 r, s)

def partsA (ρ : Operand → M Value) (parts : List (Nat × Operand)) : M (List (Nat × Value)) := mapM' (fun (i, x) => M.bnd (ρ x) fun v => .ok (i, v)) parts

def optA (ρ : Operand → M Value) : Option Operand → M (Option Value)
  | some x => M.bnd (ρ x) fun v => .ok (some v)
  | none => .ok none

/-- an operation that calls nothing of Go's -/
def simpleA (s : St) (ρ : Operand → M Value) (op : Op) : M (Value × St) := match op with
  | .move x => M.bnd (ρ x) fun v => .ok (v, s)
  | .assign x => M.bnd (ρ x) fun v => .ok (v, s)
  | .pick c a b => M.bnd (ρ c) fun v => match v with
    | .bool true => M.bnd (ρ a) fun v => .ok (v, s)
    | .bool false => M.bnd (ρ b) fun v => .ok (v, s)
    | _ => .error "pick"
  | .alloc elem => M.bnd (zeroOf C elem) fun z => allocA s elem (cellsL z)
  | .box elem x => M.bnd (ρ x) fun v => allocA s elem (cellsL v)
  | .build t parts => M.bnd (zeroOf C t) fun z => M.bnd (partsA ρ parts.toList) fun ps => M.bnd (und C t) fun d => match d with
    | .struct _ => M.bnd (placesA C t) fun pl => M.bnd (fillL (fun i => some! "place" pl[i]?) (cellsL z) ps) fun l => .ok (.agg l.toArray, s)
    | .array _ elem => M.bnd (szOf C elem) fun n => M.bnd (fillL (fun i => .ok (i * n, n)) (cellsL z) ps) fun l => .ok (.agg l.toArray, s)
    | _ => .error "build"
  | .buildSlice t len parts => M.bnd (sliceElem C t) fun elem => M.bnd (szOf C elem) fun n => M.bnd (zeroOf C elem) fun z => M.bnd (partsA ρ parts.toList) fun ps =>
    match Nat.ble (len * n) 16777216 && Nat.ble len 16777216 && Nat.beq (cellsL z).length n with
    | true => M.bnd (fillL (fun i => .ok (i * n, n)) (repL (cellsL z) len) ps) fun l => M.bnd (newO s (.cells l elem false true)) fun (r, s) => .ok (.slice (some ⟨r, 0, none⟩) len len, s)
    | false => .error "buildSlice"
  | .load t a => M.bnd (ρ a) fun v => match v with
    | .pointer (some a) => M.bnd (loadA C s t a) fun v => .ok (v, s)
    | _ => .error "load"
  | .store t a x => M.bnd (ρ a) fun v => match v with
    | .pointer (some a) => M.bnd (ρ x) fun v => M.bnd (storeA C s t a v) fun s => .ok (undef, s)
    | _ => .error "store"
  | .nilCheck x => M.bnd (ρ x) fun v => match v with
    | .pointer (some a) => .ok (.pointer (some a), s)
    | .func (.func f) first cap => .ok (.func (.func f) first cap, s)
    | .iface t v => .ok (.iface t v, s)
    | _ => .error "nilCheck"
  | .binOp op t x y _ => M.bnd (ρ x) fun a => M.bnd (ρ y) fun b => match a, b with
    | .nilIface, .nilIface => match x, y with
      | .const _, _ | _, .const _ => M.bnd (binA C op t .nilIface .nilIface) fun v => .ok (v, s)
      | _, _ => .error "two nil interface values"
    | .agg xs, .agg ys => match C.P.eqGuardType C.P.depth t with
      | false => M.bnd (binA C op t (.agg xs) (.agg ys)) fun v => .ok (v, s)
      | true => .error "comparison of interface values"
    | a, b => M.bnd (binA C op t a b) fun v => .ok (v, s)
  | .unOp op _ x => M.bnd (ρ x) fun v => match v with
    | .bool b => match op with
      | .not => .ok (.bool (!b), s)
      | _ => .error "unOp"
    | .int k n => M.bnd (M.bnd (runPure C (Op.unary op (.int k n))) constA) fun v => .ok (v, s)
    | _ => .error "unOp"
  | .convert a b x => M.bnd (ρ x) fun v => convA C s a b v
  | .makeInterface t x => M.bnd (und C t) fun d => match d with
    | .interface _ => .error "makeInterface"
    | _ => M.bnd (ρ x) fun v => .ok (.iface t v, s)
  | .makeFunc fn first cap => match fn with
    | .func f => M.bnd (mapM' ρ first.toList) fun fs => M.bnd (mapM' ρ cap.toList) fun cs => .ok (.func (.func f) fs.toArray cs.toArray, s)
    | _ => .error "makeFunc"
  | .makeMap _ r => match r with
    | none => M.bnd (newO s (.map [] 0)) fun (r, s) => .ok (.map (some r), s)
    | some _ => .error "makeMap"
  | .makeSlice t l c => M.bnd (sliceElem C t) fun elem => M.bnd (szOf C elem) fun n => M.bnd (info C elem) fun i => M.bnd (zeroOf C elem) fun z => M.bnd (ρ l) fun l => M.bnd (ρ c) fun c =>
    M.bnd (asI l) fun l => M.bnd (asI c) fun c => M.bnd (natOf l) fun l => M.bnd (natOf c) fun c =>
    match Nat.ble l c && Nat.ble c 65536 && Nat.ble i.bytes 65536 && Nat.beq (cellsL z).length n with
    | true => M.bnd (newO s (.cells (repL (cellsL z) c) elem false true)) fun (r, s) => .ok (.slice (some ⟨r, 0, none⟩) l c, s)
    | false => .error "makeSlice"
  | .slice t x lo hi mx => M.bnd (ρ x) fun v => M.bnd (optA ρ lo) fun lo => M.bnd (optA ρ hi) fun hi => M.bnd (optA ρ mx) fun mx => M.bnd (sliceA C t v lo hi mx) fun v => .ok (v, s)
  | .fieldAddr t x f => M.bnd (ρ x) fun v => match v with
    | .pointer (some a) => M.bnd (fieldOf C t f) fun fd => M.bnd (szOf C fd.type) fun n => match Nat.beq n 0, a.spot with
      | false, none => .ok (.pointer (some (addr a fd.offset)), s)
      | _, _ => .error "fieldAddr"
    | _ => .error "fieldAddr"
  | .field t x f => M.bnd (ρ x) fun v => match v with
    | .agg cs => M.bnd (fieldOf C t f) fun fd => M.bnd (partA C fd.type cs.toList fd.offset) fun v => .ok (v, s)
    | _ => .error "field"
  | .indexAddr t x ix => M.bnd (ρ ix) fun i => M.bnd (asI i) fun i => M.bnd (natOf i) fun i => M.bnd (ρ x) fun v => M.bnd (und C t) fun d => match d with
    | .array len elem => match v with
      | .pointer (some a) => match Nat.blt i len, a.spot with
        | true, none => M.bnd (szOf C elem) fun n => .ok (.pointer (some (addr a (i * n))), s)
        | _, _ => .error "index"
      | _ => .error "index"
    | .slice elem => match v with
      | .slice (some a) len _ => match Nat.blt i len, a.spot with
        | true, none => M.bnd (szOf C elem) fun n => .ok (.pointer (some (addr a (i * n))), s)
        | _, _ => .error "index"
      | _ => .error "index"
    | _ => .error "index"
  | .index t x ix => M.bnd (ρ ix) fun i => M.bnd (asI i) fun i => M.bnd (natOf i) fun i => M.bnd (ρ x) fun v => M.bnd (und C t) fun d => match d with
    | .array len elem => match v with
      | .agg cs => match Nat.blt i len with
        | true => M.bnd (szOf C elem) fun n => M.bnd (partA C elem cs.toList (i * n)) fun v => .ok (v, s)
        | false => .error "index"
      | _ => .error "index"
    | .string => match v with
      | .string b => match (bytesL b)[i]? with
        | some c => .ok (.int .u8 c.toNat, s)
        | none => .error "index"
      | _ => .error "index"
    | _ => .error "index"
  | .lookup t x ix ok => M.bnd (ρ x) fun x => M.bnd (ρ ix) fun ix => M.bnd (lookupA C s t x ix ok) fun v => .ok (v, s)
  | .mapUpdate t m k x => M.bnd (ρ m) fun m => M.bnd (ρ k) fun k => M.bnd (ρ x) fun x => M.bnd (mapUpdateA C s t m k x) fun s => .ok (undef, s)
  | .insert t m k x => M.bnd (ρ m) fun m => M.bnd (ρ k) fun k => M.bnd (ρ x) fun x => M.bnd (mapUpdateA C s t m k x) fun s => .ok (undef, s)
  | .range t x => M.bnd (und C t) fun d => match d with
    | .string => M.bnd (ρ x) fun v => match v with
      | .string b => M.bnd (newO s (.sit b 0)) fun (r, s) => .ok (at0 r, s)
      | _ => .error "range"
    | _ => .error "range"
  | .next it str => match str with
    | true => M.bnd (ρ it) fun v => match v with
      | .pointer (some ⟨r, 0, none⟩) => match Tr.get s.h r with
        | some (.sit b pos) => match Nat.blt pos b.size with
          | true => M.bnd (putO s r (.sit b (pos + (Utf8.decode b pos).2))) fun s => .ok (.tuple #[.bool true, .int .i64 pos, .int .i32 (Utf8.decode b pos).1], s)
          | false => .ok (.tuple #[.bool false], s)
        | _ => .error "next"
      | _ => .error "next"
    | false => .error "next"
  | .typeAssert x _ asserted ok => M.bnd (und C asserted) fun d => M.bnd (ρ x) fun v =>
    let holds (v : Value) : M (Value × St) := match ok with
      | true => .ok (.tuple #[v, .bool true], s)
      | false => .ok (v, s)
    let fails : M (Value × St) := match ok with
      | true => M.bnd (zeroOf C asserted) fun z => .ok (.tuple #[z, .bool false], s)
      | false => .error "type assertion"
    match v with
    | .nilIface => fails
    | .iface t v => match d with
      | .interface want => M.bnd (info C t) fun i => match Instr.missingMethod want i.methods with
        | none => holds (.iface t v)
        | some _ => fails
      | _ => match Nat.beq t asserted with
        | true => holds v
        | false => fails
    | _ => .error "typeAssert"
  | .extract t ix => M.bnd (ρ t) fun v => match v with
    | .tuple vs => M.bnd (some! "tuple" vs.toList[ix]?) fun v => .ok (v, s)
    | _ => .error "extract"
  | .call c => match c.callee with
    | .builtin b => M.bnd (mapM' ρ c.args.toList) fun args => builtinA C s b c.argTypes args
    | _ => .error "call"
  | _ => .error "operation"
end
end Go.Proofs.YtoddlefhlicfiaaGreatDoorR.X

/- The executor, its definitions: calls, rounds, regions in either order, code. No statement stands here. -/
namespace Go.Proofs.YtoddlefhlicfiaaGreatDoorR.X
open Go

inductive Ex where
  | normal
  | exit (id : Nat)
  | ret

structure Fr where
  tmps : Tm
  marks : List Nat

section
variable (C : Cx)

inductive Tgt where
  | fn (f : FuncId) (args : List Value)
  | round (l : Nat) (args : List Value)

def targetA (ρ : Operand → M Value) (c : Call) : M Tgt := M.bnd (mapM' ρ c.args.toList) fun args => match c.callee with
  | .builtin _ => .error "builtin"
  | .value f => M.bnd (ρ f) fun v => match v with
    | .func (.func g) first cap => .ok (.fn g (first.toList ++ args ++ cap.toList))
    | .func (.yield l) first cap => match first.toList, cap.toList with
      | [], [] => .ok (.round l args)
      | _, _ => .error "yield"
    | _ => .error "call of what"
  | .invoke _ name => .error ("a method of an interface value " ++ name)

def resultsA (s : St) (t : Tm) : List ResultVar → M (List Value)
  | [] => .ok []
  | .tmp x :: r => M.bnd (some! "result" (Tm.get t x)) fun v => M.bnd (resultsA s t r) fun vs => .ok (v :: vs)
  | .cell a ty :: r => M.bnd (some! "result" (Tm.get t a)) fun v => match v with
    | .pointer (some a) => M.bnd (loadA C s ty a) fun v => M.bnd (resultsA s t r) fun vs => .ok (v :: vs)
    | _ => .error "result cell"
def oneOf : List Value → Value
  | [v] => v
  | vs => .tuple vs.toArray

abbrev R := M (Ex × Fr × St)
abbrev Rec := Option Nat → Code → Fr → St → R

/-- the marks that loops over functions have left: no deferred call stands behind them -/
def leaveA (s : St) : List Nat → M St
  | [] => .ok s
  | d :: ds => match Tr.get s.h d with
    | some .defd => M.bnd (putO s d .dead) fun s => leaveA s ds
    | _ => .error "deferred calls"

def fillA : List Value → Nat → Tm → M (Tm)
  | [], _, t => .ok t
  | v :: vs, i, t => M.bnd (updM t i v) fun t => fillA vs (i + 1) t
def blank (n : Nat) : Tm := Tm.ofList (List.replicate n undef)
def callF (rec : Rec) (f : Nat) (args : List Value) (s : St) : M (Value × St) := match C.intr f with
  | some i => i args s
  | none => M.bnd (some! "function" (Tr.get C.funcs f)) fun fn => match fn.body with
    | none => .error "no body"
    | some c => M.bnd (fillA args 0 (blank fn.ntmps)) fun t => M.bnd (rec none c { tmps := t, marks := [] } s) fun (e, fr, s) => match e with
      | .normal | .ret => M.bnd (leaveA s fr.marks) fun s => M.bnd (resultsA C s fr.tmps fn.results.toList) fun vs => .ok (oneOf vs, s)
      | _ => .error "left by exit"

def setParams : List Tmp → List Value → Tm → M (Tm)
  | [], [], t => .ok t
  | p :: ps, a :: as, t => M.bnd (updM t p a) fun t => setParams ps as t
  | _, _, _ => .error "yield"
def rdLoop (s : St) (l : Nat) : M ALoop := match Tr.get s.h l with
  | some (.loop r) => .ok r
  | _ => .error "loop"
def jumpOf : Ex → Option Code
  | .normal => none
  | .ret => some .ret
  | .exit id => some (.exit id)

def roundF (rec : Rec) (l : Nat) (args : List Value) (s : St) : M (Value × St) := M.bnd (rdLoop s l) fun r => M.bnd (setParams r.params.toList args r.tmps) fun t =>
  M.bnd (rec (some l) r.assign { tmps := t, marks := [] } s) fun (e, fr, s) => match e, fr.marks with
    | .normal, [] => M.bnd (rdLoop s l) fun r1 => match r1.st with
      | .ready => M.bnd (putO s l (.loop { r1 with st := .busy })) fun s => M.bnd (rec (some l) r.body fr s) fun (e, fr, s) => match fr.marks with
        | [] => M.bnd (rdLoop s l) fun r2 => match jumpOf e with
          | none => M.bnd (putO s l (.loop { r2 with st := .ready, pend := none })) fun s => .ok (.bool true, s)
          | some j => M.bnd (putO s l (.loop { r2 with st := .done, pend := some j })) fun s => .ok (.bool false, s)
        | _ => .error "round marks"
      | _ => .error "round not ready"
    | _, _ => .error "round assign"

/-- an operation, its operands read by ρ -/
def opR (rec : Rec) (o : Oper) (ρ : Operand → M Value) (s : St) : M (Value × St) := match o.op with
  | .call c => match c.callee with
    | .builtin _ => simpleA C s ρ o.op
    | _ => M.bnd (targetA ρ c) fun g => match g with
      | .fn f args => match C.ext f with
        | some i => i args s
        | none => callF C rec f args s
      | .round l args => roundF rec l args s
  | _ => simpleA C s ρ o.op

def put (t : Tm) (dst : Option Tmp) (v : Value) : M (Tm) := match dst with
  | some d => updM t d v
  | none => .ok t

def wantedA (ops : List Oper) (ρ : Operand → M Value) (g : Option (Nat × Bool)) : M Bool := match g with
  | none => .ok true
  | some (j, want) => M.bnd (some! "guard" ops[j]?) fun o => M.bnd (some! "guard" o.dst) fun d => M.bnd (ρ (.tmp d)) fun v => match v with
    | .bool b => .ok (b == want)
    | _ => .ok false

def execOps (rec : Rec) (ops : List Oper) : List Oper → Tm → St → M (Tm × St)
  | [], t, s => .ok (t, s)
  | o :: rest, t, s => M.bnd (wantedA ops (evalA C.G t) o.guard) fun w => match w with
    | false => M.bnd (put t o.dst undef) fun t => execOps rec ops rest t s
    | true => M.bnd (opR C rec o (evalA C.G t) s) fun (v, s) => M.bnd (put t o.dst v) fun t => execOps rec ops rest t s

/- a region that draws its order -/
inductive Cls where
  | pure
  | read
  | alloc
  | write
  deriving DecidableEq
def clsOf (op : Op) : M Cls := match op with
  | .move _ | .assign _ | .pick .. | .build .. | .nilCheck _ | .unOp .. | .makeInterface .. | .makeFunc .. | .slice .. | .fieldAddr .. | .field .. | .indexAddr .. | .index .. | .extract .. | .typeAssert .. | .binOp .. => .ok .pure
  | .load .. | .lookup .. => .ok .read
  | .alloc _ | .box .. | .buildSlice .. | .makeSlice .. | .makeMap .. => .ok .alloc
  | .convert a b _ => M.bnd (und C a) fun x => M.bnd (und C b) fun y => match x, y with
    | .slice _, .slice _ => .ok .write
    | _, .slice _ => .ok .alloc
    | _, _ => .ok .read
  | .call c => match c.callee with
    | .builtin b => match b with
      | .len | .cap | .min | .max => .ok .read
      | _ => .ok .write
    | _ => .ok .write
  | _ => .ok .write

structure PI where
  i : Nat
  o : Oper
  cls : Cls
  bef : Nat

def tb (m n : Nat) : Bool := Nat.beq (Nat.mod (Nat.div m (Nat.pow 2 n)) 2) 1
def bit (n : Nat) : Nat := Nat.pow 2 n
/-- what an operation stands behind, by its edges and by what these stand behind -/
def edgeMask (bef : List Nat) (o : Oper) : Nat := o.after.toList.foldl (fun s e => match Region.binds .any e with
  | true => Nat.lor (Nat.lor s (bit e.on)) (bef.getD e.on 0)
  | false => s) 0
def befsL : List Oper → List Nat → List Nat
  | [], acc => acc
  | o :: os, acc => befsL os (acc ++ [edgeMask acc o])
def pisOf : List Oper → List Cls → List Nat → Nat → List PI
  | o :: os, c :: cs, b :: bs, i => { i, o, cls := c, bef := b } :: pisOf os cs bs (i + 1)
  | _, _, _, _ => []
def maskOf : List PI → Nat
  | [] => 0
  | p :: ps => Nat.lor (bit p.i) (maskOf ps)
def segsOf (all : List PI) : List PI → Nat → List (List PI × PI) × List PI
  | [], done => ([], all.filter fun p => !tb done p.i)
  | w :: ws, done =>
    let fl := all.filter fun p => tb w.bef p.i && !tb done p.i
    let r := segsOf all ws (Nat.lor (Nat.lor done (maskOf fl)) (bit w.i))
    ((fl, w) :: r.1, r.2)
def isWrite : Cls → Bool
  | .write => true
  | _ => false
/-- an operation may come behind those that are done -/
def opOk (n : Nat) (bef : List Nat) (done : Nat) (p : PI) : Bool :=
  !tb done p.i && Nat.blt p.i n && Nat.beq (Nat.land p.bef done) p.bef && Nat.beq (edgeMask bef p.o) p.bef && Nat.beq (bef.getD p.i 0) p.bef
def floatsOk (n : Nat) (bef : List Nat) (wm : Option PI) : List PI → Nat → Option Nat
  | [], done => some done
  | p :: ps, done => match opOk n bef done p && !isWrite p.cls && (match wm with
      | some w => tb w.bef p.i
      | none => true) with
    | true => floatsOk n bef wm ps (Nat.lor done (bit p.i))
    | false => none
def segsOk (n : Nat) (bef : List Nat) : List (List PI × PI) → List PI → Nat → Option Nat → Bool
  | [], last, done, _ => match floatsOk n bef none last done with
    | some d => Nat.beq d (bit n - 1)
    | none => false
  | (fl, w) :: rest, last, done, lw => match floatsOk n bef (some w) fl done with
    | some d => opOk n bef d w && isWrite w.cls && (match lw with
      | some l => tb w.bef l
      | none => true) && segsOk n bef rest last (Nat.lor d (bit w.i)) (some w.i)
    | none => false
/-- the temporaries that an operation reads -/
def readsOf (ops : List Oper) (o : Oper) : List Tmp :=
  (o.op.operands.toList.filterMap fun | .tmp t => some t | _ => none) ++
  (match o.guard with | some (j, _) => (match (ops[j]?).bind (·.dst) with | some d => [d] | none => []) | none => [])
def memT (d : Tmp) : List Tmp → Bool
  | [] => false
  | t :: l => Nat.beq t d || memT d l
/-- what reads a temporary that another one writes is ordered with it; no two write the same -/
def tmpOk (ops : List Oper) (d : Tmp) (q : PI) : List PI → Bool
  | [] => true
  | p :: ps => (Nat.beq p.i q.i || ((!memT d (readsOf ops p.o) || tb p.bef q.i || tb q.bef p.i) && (match p.o.dst with | some d' => !Nat.beq d' d | none => true))) && tmpOk ops d q ps
def tmpsOk (ops : List Oper) (all : List PI) : List PI → Bool
  | [] => true
  | q :: qs => (match q.o.dst with | some d => tmpOk ops d q all | none => true) && tmpsOk ops all qs
structure Plan where
  segs : List (List PI × PI)
  last : List PI
def planA (ops : List Oper) : M Plan := M.bnd (mapM' (fun (o : Oper) => clsOf C o.op) ops) fun cs =>
  let bef := befsL ops []
  let all := pisOf ops cs bef 0
  let r := segsOf all (all.filter fun p => isWrite p.cls) 0
  match segsOk ops.length bef r.1 r.2 0 none && tmpsOk ops all all with
  | true => .ok { segs := r.1, last := r.2 }
  | false => .error "order"

/-- the memories behind the writers till now, the newest one first -/
structure Stage where
  w : Option Nat
  s : St
/-- the same value, told by its text -/
def sameA : Option Addr → Option Addr → Bool
  | none, none => true
  | some a, some b => Nat.beq a.block b.block && Nat.beq a.off b.off && a.spot.isNone && b.spot.isNone
  | _, _ => false
def allL (f : Value → Value → Bool) : List Value → List Value → Bool
  | [], [] => true
  | x :: l, y :: r => f x y && allL f l r
  | _, _ => false
def sameV : Nat → Value → Value → Bool
  | 0, _, _ => false
  | n + 1, .bool a, .bool b => a == b
  | n + 1, .int k a, .int j b => decide (k = j) && eqI a b
  | n + 1, .string a, .string b => eqB (bytesL a) (bytesL b)
  | n + 1, .pointer a, .pointer b => sameA a b
  | n + 1, .map none, .map none => true
  | n + 1, .nilFunc, .nilFunc => true
  | n + 1, .nilIface, .nilIface => true
  | n + 1, .slice a l c, .slice b l' c' => sameA a b && Nat.beq l l' && Nat.beq c c'
  | n + 1, .map (some a), .map (some b) => Nat.beq a b
  | n + 1, .iface t v, .iface u w => Nat.beq t u && sameV n v w
  | n + 1, .agg a, .agg b => allL (sameV n) a.toList b.toList
  | n + 1, .tuple a, .tuple b => allL (sameV n) a.toList b.toList
  | _, _, _ => false
/-- the same value at each memory at which it may be read -/
def readAll (f : St → M Value) (bef : Nat) : List Stage → M Value
  | [] => .error "stages"
  | g :: gs => M.bnd (f g.s) fun v => match g.w with
    | none => .ok v
    | some w => match tb bef w with
      | true => .ok v
      | false => M.bnd (readAll f bef gs) fun u => match sameV 8 v u with
        | true => .ok v
        | false => .error "an order that shows"
def fstA (x : M (Value × St)) : M Value := M.bnd x fun (v, _) => .ok v
/-- an operation that is no writer -/
def floatA (ops : List Oper) (p : PI) (t : Tm) (s : St) (gs : List Stage) : M (Value × St) := M.bnd (wantedA ops (evalA C.G t) p.o.guard) fun w => match w with
  | false => .ok (undef, s)
  | true => match p.cls with
    | .read => M.bnd (readAll (fun s => fstA (simpleA C s (evalA C.G t) p.o.op)) p.bef gs) fun v => .ok (v, s)
    | .pure => M.bnd (fstA (simpleA C s (evalA C.G t) p.o.op)) fun v => .ok (v, s)
    | .alloc => M.bnd (simpleA C s (evalA C.G t) p.o.op) fun (v, s1) => match Nat.beq s1.nx (Nat.succ s.nx) with
      | true => .ok (v, s1)
      | false => .error "alloc"
    | .write => .error "write"
def floatsA (ops : List Oper) (gs : List Stage) : List PI → Tm → St → M (Tm × St)
  | [], t, s => .ok (t, s)
  | p :: ps, t, s => M.bnd (floatA C ops p t s gs) fun (v, s) => M.bnd (put t p.o.dst v) fun t => floatsA ops gs ps t s
def writeA (rec : Rec) (ops : List Oper) (p : PI) (t : Tm) (s : St) : M (Value × St) := M.bnd (wantedA ops (evalA C.G t) p.o.guard) fun w => match w with
  | false => .ok (undef, s)
  | true => M.bnd (opR C rec p.o (evalA C.G t) s) fun (v, s1) => match Nat.ble s.nx s1.nx with
    | true => .ok (v, s1)
    | false => .error "write"
def segsA (rec : Rec) (ops : List Oper) (last : List PI) : List (List PI × PI) → Tm → St → List Stage → M (Tm × St)
  | [], t, s, gs => floatsA C ops gs last t s
  | (fl, w) :: rest, t, s, gs => M.bnd (floatsA C ops gs fl t s) fun (t, s) => M.bnd (writeA C rec ops w t s) fun (v, s) => M.bnd (put t w.o.dst v) fun t => segsA rec ops last rest t s ({ w := some w.i, s } :: gs)

def regionA (rec : Rec) (ops : List Oper) (draw : Bool) (t : Tm) (s : St) : M (Tm × St) := match draw with
  | false => execOps C rec ops ops t s
  | true => M.bnd (planA C ops) fun pl => segsA C rec ops pl.last pl.segs t s [{ w := none, s }]

def rangeA (rec : Rec) (rd : Option Nat) (f : Operand) (params : Array Tmp) (assign body : Code) (fr : Fr) (s : St) : R :=
  M.bnd (match rd with
    | none => M.bnd (newO s .defd) fun (d, s) => .ok ({ fr with marks := d :: fr.marks : Fr }, s)
    | some l => M.bnd (rdLoop s l) fun _ => .ok (fr, s)) fun (fr, s) =>
  M.bnd (newO s (.loop { st := .ready, pend := none, tmps := fr.tmps, params, assign, body })) fun (l, s) =>
  M.bnd (evalA C.G fr.tmps f) fun v => match v with
    | .func (.func g) first cap => M.bnd (callF C rec g (first.toList ++ [.func (.yield l) #[] #[]] ++ cap.toList) s) fun (_, s) => M.bnd (rdLoop s l) fun r => match r.st with
      | .busy => .error "range over a function busy"
      | _ => M.bnd (putO s l (.loop { r with st := .exhausted })) fun s => match r.pend with
        | none => .ok (.normal, fr, s)
        | some c => rec rd c fr s
    | _ => .error "range over what"

def codeA (rec : Rec) (rd : Option Nat) (c : Code) (fr : Fr) (s : St) : R := match c with
  | .skip => .ok (.normal, fr, s)
  | .seq a b => M.bnd (rec rd a fr s) fun (e, fr, s) => match e with
    | .normal => rec rd b fr s
    | e => .ok (e, fr, s)
  | .cond x a b => M.bnd (evalA C.G fr.tmps x) fun v => match v with
    | .bool true => rec rd a fr s
    | .bool false => rec rd b fr s
    | _ => .error "cond"
  | .block id body => M.bnd (rec rd body fr s) fun (e, fr, s) => match e with
    | .exit i => match Nat.beq i id with
      | true => .ok (.normal, fr, s)
      | false => .ok (.exit i, fr, s)
    | e => .ok (e, fr, s)
  | .loop body => M.bnd (rec rd body fr s) fun (e, fr, s) => match e with
    | .normal => rec rd (.loop body) fr s
    | e => .ok (e, fr, s)
  | .exit id => .ok (.exit id, fr, s)
  | .ret => .ok (.ret, fr, s)
  | .region _ ops draw => M.bnd (M.note (match ops.toList with | o :: _ => o.pos | [] => "") (regionA C rec ops.toList draw fr.tmps s)) fun (t, s) => .ok (.normal, { fr with tmps := t }, s)
  | .rangeFunc f params assign body => rangeA C rec rd f params assign body fr s
  | .label _ => .ok (.normal, fr, s)
  | .scope body => rec rd body fr s
  | .goto _ => .error "goto"
  | .refuse _ => .error "refused code"

def exec : Nat → Rec
  | 0, _, _, _, _ => .error "fuel"
  | n + 1, rd, c, fr, s => codeA C (exec n) rd c fr s
end

def mkCx (P : Program) (G : Nat) (intr ext : Nat → Option (List Value → St → M (Value × St))) : Cx := { P, types := Tr.ofList P.types.toList, funcs := Tr.ofList P.funcs.toList, G, intr, ext }
def isTrue : M (Value × St) → Bool
  | .ok (.bool b, _) => b
  | _ => false
end Go.Proofs.YtoddlefhlicfiaaGreatDoorR.X

/- What the executor's values and memory say of the model's: the relation, and how it lasts. -/
namespace Go.Proofs.YtoddlefhlicfiaaGreatDoorR.X
open Go

theorem bnd_ok {α β : Type} {x : M α} {f : α → M β} {r : β} : M.bnd x f = .ok r ↔ ∃ a, x = .ok a ∧ f a = .ok r := by
  cases x with
  | error e => simp [M.bnd]
  | ok a => simp [M.bnd]
theorem note_ok {α : Type} {w : String} {x : M α} {r : α} : M.note w x = .ok r ↔ x = .ok r := by
  cases x <;> simp [M.note]
theorem some_ok {α : Type} {w : String} {x : Option α} {r : α} : some! w x = .ok r ↔ x = some r := by
  cases x <;> simp [some!]

namespace T8
variable {α : Type}
theorem get_set (t : T8 α) (x : α) {i j : Nat} (hi : i < 8) (hj : j < 8) : (t.set x i).get j = if j = i then x else t.get j := by
  have h1 : i = 0 ∨ i = 1 ∨ i = 2 ∨ i = 3 ∨ i = 4 ∨ i = 5 ∨ i = 6 ∨ i = 7 := by omega
  have h2 : j = 0 ∨ j = 1 ∨ j = 2 ∨ j = 3 ∨ j = 4 ∨ j = 5 ∨ j = 6 ∨ j = 7 := by omega
  rcases h1 with rfl | rfl | rfl | rfl | rfl | rfl | rfl | rfl <;> rcases h2 with rfl | rfl | rfl | rfl | rfl | rfl | rfl | rfl <;> rfl
theorem get_all (x : α) (i : Nat) : (all x).get i = x := by
  unfold get all
  split <;> rfl
end T8
namespace Tr
variable {α : Type}
theorem get_lt {t : Tr α} {i : Nat} (h : i < 262144) : t.get i = (((((T8.get t (i % 8)).get (i / 8 % 8)).get (i / 64 % 8)).get (i / 512 % 8)).get (i / 4096 % 8)).get (i / 32768) := by
  have : Nat.blt i 262144 = true := by rw [Nat.blt_eq]; exact h
  unfold get; rw [this]; rfl
theorem get_some {t : Tr α} {i : Nat} {x : α} (h : t.get i = some x) : i < 262144 := by
  unfold get at h
  split at h
  · rename_i hb; rw [Nat.blt_eq] at hb; exact hb
  · cases h
theorem get_e (i : Nat) : (e : Tr α).get i = none := by
  unfold get e
  split
  · simp only [T8.get_all]
  · rfl
theorem lay_get (t : Tr α) (x : α) {i : Nat} (hi : i < 262144) (j : Nat) : (t.lay i x).get j = if j = i then some x else t.get j := by
  by_cases hj : j < 262144
  · rw [get_lt hj, get_lt hj]
    unfold lay
    simp only [show ∀ a b : Nat, Nat.mod a b = a % b from fun _ _ => rfl, show ∀ a b : Nat, Nat.div a b = a / b from fun _ _ => rfl]
    rw [T8.get_set _ _ (by omega) (by omega)]
    by_cases e0 : j % 8 = i % 8
    · rw [if_pos e0, T8.get_set _ _ (by omega) (by omega)]
      by_cases e1 : j / 8 % 8 = i / 8 % 8
      · rw [if_pos e1, T8.get_set _ _ (by omega) (by omega)]
        by_cases e2 : j / 64 % 8 = i / 64 % 8
        · rw [if_pos e2, T8.get_set _ _ (by omega) (by omega)]
          by_cases e3 : j / 512 % 8 = i / 512 % 8
          · rw [if_pos e3, T8.get_set _ _ (by omega) (by omega)]
            by_cases e4 : j / 4096 % 8 = i / 4096 % 8
            · rw [if_pos e4, T8.get_set _ _ (by omega) (by omega)]
              by_cases e5 : j / 32768 = i / 32768
              · rw [if_pos e5, if_pos (by omega)]
              · rw [if_neg e5, if_neg (by intro e; exact e5 (by rw [e])), e0, e1, e2, e3, e4]
            · rw [if_neg e4, if_neg (by intro e; exact e4 (by rw [e])), e0, e1, e2, e3]
          · rw [if_neg e3, if_neg (by intro e; exact e3 (by rw [e])), e0, e1, e2]
        · rw [if_neg e2, if_neg (by intro e; exact e2 (by rw [e])), e0, e1]
      · rw [if_neg e1, if_neg (by intro e; exact e1 (by rw [e])), e0]
    · rw [if_neg e0, if_neg (by intro e; exact e0 (by rw [e]))]
  · have hb : Nat.blt j 262144 = false := by
      cases hx : Nat.blt j 262144 with
      | false => rfl
      | true => rw [Nat.blt_eq] at hx; exact absurd hx hj
    have e1 : ∀ t : Tr α, t.get j = none := fun t => by unfold get; rw [hb]
    rw [e1, e1, if_neg (by omega)]
theorem ofL_get : ∀ (l : List α) (k : Nat) (t : Tr α) (i : Nat) (x : α), (ofL l k t).get i = some x → (∃ j, i = k + j ∧ l[j]? = some x) ∨ t.get i = some x
  | [], _, _, _, _, h => .inr h
  | a :: l, k, t, i, x, h => by
    simp only [ofL] at h
    split at h
    · rename_i hb
      rw [Nat.blt_eq] at hb
      rcases ofL_get l (k + 1) _ i x h with ⟨j, e, hj⟩ | h3
      · exact .inl ⟨j + 1, by omega, by simpa using hj⟩
      · rw [lay_get _ _ hb] at h3
        by_cases e : i = k
        · subst e; rw [if_pos rfl] at h3; injection h3 with h3; subst h3; exact .inl ⟨0, rfl, by simp⟩
        · rw [if_neg e] at h3; exact .inr h3
    · exact .inr h
theorem ofList_get (l : List α) (i : Nat) (x : α) (h : (ofList l).get i = some x) : l[i]? = some x := by
  rcases ofL_get l 0 .e i x h with ⟨j, e, hj⟩ | h
  · rw [Nat.zero_add] at e; exact e ▸ hj
  · rw [get_e] at h; cases h
end Tr
namespace Tm
theorem get_lt {t : Tm} {i : Nat} (h : i < 512) : Tm.get t i = ((T8.get t (i % 8)).get (i / 8 % 8)).get (i / 64) := by
  have : Nat.blt i 512 = true := by rw [Nat.blt_eq]; exact h
  unfold Tm.get; rw [this]; rfl
theorem get_some {t : Tm} {i : Nat} {x : Value} (h : Tm.get t i = some x) : i < 512 := by
  unfold Tm.get at h
  split at h
  · rename_i hb; rw [Nat.blt_eq] at hb; exact hb
  · cases h
theorem get_e (i : Nat) : Tm.get e i = none := by
  unfold Tm.get e
  split
  · simp only [T8.get_all]
  · rfl
theorem lay_get (t : Tm) (x : Value) {i : Nat} (hi : i < 512) (j : Nat) : Tm.get (Tm.lay t i x) j = if j = i then some x else Tm.get t j := by
  by_cases hj : j < 512
  · rw [get_lt hj, get_lt hj]
    unfold Tm.lay
    simp only [show ∀ a b : Nat, Nat.mod a b = a % b from fun _ _ => rfl, show ∀ a b : Nat, Nat.div a b = a / b from fun _ _ => rfl]
    rw [T8.get_set _ _ (by omega) (by omega)]
    by_cases e0 : j % 8 = i % 8
    · rw [if_pos e0, T8.get_set _ _ (by omega) (by omega)]
      by_cases e1 : j / 8 % 8 = i / 8 % 8
      · rw [if_pos e1, T8.get_set _ _ (by omega) (by omega)]
        by_cases e2 : j / 64 = i / 64
        · rw [if_pos e2, if_pos (by omega)]
        · rw [if_neg e2, if_neg (by intro e; exact e2 (by rw [e])), e0, e1]
      · rw [if_neg e1, if_neg (by intro e; exact e1 (by rw [e])), e0]
    · rw [if_neg e0, if_neg (by intro e; exact e0 (by rw [e]))]
  · have hb : Nat.blt j 512 = false := by
      cases hx : Nat.blt j 512 with
      | false => rfl
      | true => rw [Nat.blt_eq] at hx; exact absurd hx hj
    have e1 : ∀ t : Tm, Tm.get t j = none := fun t => by unfold Tm.get; rw [hb]
    rw [e1, e1, if_neg (by omega)]
theorem ofL_get : ∀ (l : List Value) (k : Nat) (t : Tm) (i : Nat) (x : Value), Tm.get (ofL l k t) i = some x → (∃ j, i = k + j ∧ l[j]? = some x) ∨ Tm.get t i = some x
  | [], _, _, _, _, h => .inr h
  | a :: l, k, t, i, x, h => by
    simp only [ofL] at h
    split at h
    · rename_i hb
      rw [Nat.blt_eq] at hb
      rcases ofL_get l (k + 1) _ i x h with ⟨j, e, hj⟩ | h3
      · exact .inl ⟨j + 1, by omega, by simpa using hj⟩
      · rw [lay_get _ _ hb] at h3
        by_cases e : i = k
        · subst e; rw [if_pos rfl] at h3; injection h3 with h3; subst h3; exact .inl ⟨0, rfl, by simp⟩
        · rw [if_neg e] at h3; exact .inr h3
    · exact .inr h
theorem ofList_get (l : List Value) (i : Nat) (x : Value) (h : Tm.get (ofList l) i = some x) : l[i]? = some x := by
  rcases ofL_get l 0 e i x h with ⟨j, e, hj⟩ | h
  · rw [Nat.zero_add] at e; exact e ▸ hj
  · rw [get_e] at h; cases h
end Tm

theorem setT_ok {α : Type} {t t' : Tr α} {i : Nat} {x : α} (h : setT t i x = .ok t') : t'.get i = some x ∧ ∀ j, j ≠ i → t'.get j = t.get j := by
  unfold setT at h
  split at h
  · rename_i hb
    rw [Nat.blt_eq] at hb
    injection h with h; subst h
    exact ⟨by rw [Tr.lay_get _ _ hb, if_pos rfl], fun j hj => by rw [Tr.lay_get _ _ hb, if_neg hj]⟩
  · cases h
theorem updT_ok {α : Type} {t t' : Tr α} {i : Nat} {x : α} (h : updT t i x = .ok t') : (t.get i).isSome ∧ t'.get i = some x ∧ ∀ j, j ≠ i → t'.get j = t.get j := by
  unfold updT at h
  split at h
  · rename_i y hy
    injection h with h; subst h
    have hb := Tr.get_some hy
    exact ⟨by rw [hy]; rfl, by rw [Tr.lay_get _ _ hb, if_pos rfl], fun j hj => by rw [Tr.lay_get _ _ hb, if_neg hj]⟩
  · cases h
theorem updM_ok {t t' : Tm} {i : Nat} {x : Value} (h : updM t i x = .ok t') : (Tm.get t i).isSome ∧ Tm.get t' i = some x ∧ ∀ j, j ≠ i → Tm.get t' j = Tm.get t j := by
  unfold updM at h
  split at h
  · rename_i y hy
    injection h with h; subst h
    have hb := Tm.get_some hy
    exact ⟨by rw [hy]; rfl, by rw [Tm.lay_get _ _ hb, if_pos rfl], fun j hj => by rw [Tm.lay_get _ _ hb, if_neg hj]⟩
  · cases h

/-- Where a block of ours lies in the model's memory, and how many cells lie there. A capacity that is not known is told as UNK + the number of cells of an element. -/
structure Loc where
  blk : Nat
  size : Nat
abbrev Sg := Nat → Loc

/-- A value of ours stands for a value of the model's. -/
inductive VRel (σ : Sg) (D : Nat → Prop) : Value → Value → Prop
  | flat {v : Value} : flat v = true → VRel σ D v v
  | ptr {b o : Nat} : D b → VRel σ D (.pointer (some ⟨b, o, none⟩)) (.pointer (some ⟨(σ b).blk, o, none⟩))
  | slice {b o l c : Nat} : D b → c < UNK → VRel σ D (.slice (some ⟨b, o, none⟩) l c) (.slice (some ⟨(σ b).blk, o, none⟩) l c)
  | sliceU {b o l c z : Nat} : D b → l ≤ c → o + c * z ≤ (σ b).size → VRel σ D (.slice (some ⟨b, o, none⟩) l (UNK + z)) (.slice (some ⟨(σ b).blk, o, none⟩) l c)
  | sliceE {b o o' c : Nat} : D b → (c = 0 ∨ ∃ z, c = UNK + z) → VRel σ D (.slice (some ⟨b, o, none⟩) 0 c) (.slice (some ⟨(σ b).blk, o', none⟩) 0 0)
  | map {r : Nat} : D r → VRel σ D (.map (some r)) (.map (some (σ r).blk))
  | func {f : FuncId} {a a' c c' : Array Value} : a.size = a'.size → (∀ (i : Nat) (v v' : Value), a[i]? = some v → a'[i]? = some v' → VRel σ D v v') → c.size = c'.size →
      (∀ (i : Nat) (v v' : Value), c[i]? = some v → c'[i]? = some v' → VRel σ D v v') → VRel σ D (.func (.func f) a c) (.func (.func f) a' c')
  | yield {l : Nat} : D l → VRel σ D (.func (.yield l) #[] #[]) (.func (.yield (σ l).blk) #[] #[])
  | iface {t : TypeId} {v v' : Value} : VRel σ D v v' → VRel σ D (.iface t v) (.iface t v')
  | agg {a a' : Array Value} : a.size = a'.size → (∀ (i : Nat) (v v' : Value), a[i]? = some v → a'[i]? = some v' → VRel σ D v v') → VRel σ D (.agg a) (.agg a')
  | tuple {a a' : Array Value} : a.size = a'.size → (∀ (i : Nat) (v v' : Value), a[i]? = some v → a'[i]? = some v' → VRel σ D v v') → VRel σ D (.tuple a) (.tuple a')

theorem VRel.mono {σ σ' : Sg} {D D' : Nat → Prop} (h : ∀ i, D i → D' i ∧ σ' i = σ i) {v v' : Value} (hv : VRel σ D v v') : VRel σ' D' v v' := by
  induction hv with
  | flat h => exact .flat h
  | @ptr b o hd => rw [← (h b hd).2]; exact .ptr (h b hd).1
  | @slice b o l c hd hc => rw [← (h b hd).2]; exact .slice (h b hd).1 hc
  | @sliceU b o l c z hd hl hs => rw [← (h b hd).2] at hs ⊢; exact .sliceU (h b hd).1 hl hs
  | @sliceE b o o' c hd hc => rw [← (h b hd).2]; exact .sliceE (h b hd).1 hc
  | @map r hd => rw [← (h r hd).2]; exact .map (h r hd).1
  | func h1 _ h3 _ ih1 ih2 => exact .func h1 ih1 h3 ih2
  | @yield l hd => rw [← (h l hd).2]; exact .yield (h l hd).1
  | iface _ ih => exact .iface ih
  | agg h1 _ ih => exact .agg h1 ih
  | tuple h1 _ ih => exact .tuple h1 ih

/-- lists of them -/
def LRel (σ : Sg) (D : Nat → Prop) : List Value → List Value → Prop
  | [], [] => True
  | a :: l, b :: r => VRel σ D a b ∧ LRel σ D l r
  | _, _ => False
/-- the second list may be longer -/
def PRel (σ : Sg) (D : Nat → Prop) : List Value → List Value → Prop
  | [], _ => True
  | a :: l, b :: r => VRel σ D a b ∧ PRel σ D l r
  | _ :: _, [] => False
theorem LRel.mono {σ σ' : Sg} {D D' : Nat → Prop} (h : ∀ i, D i → D' i ∧ σ' i = σ i) : ∀ {l r : List Value}, LRel σ D l r → LRel σ' D' l r
  | [], [], _ => trivial
  | _ :: _, _ :: _, hl => ⟨hl.1.mono h, LRel.mono h hl.2⟩
theorem PRel.mono {σ σ' : Sg} {D D' : Nat → Prop} (h : ∀ i, D i → D' i ∧ σ' i = σ i) : ∀ {l r : List Value}, PRel σ D l r → PRel σ' D' l r
  | [], _, _ => trivial
  | _ :: _, _ :: _, hl => ⟨hl.1.mono h, PRel.mono h hl.2⟩
theorem LRel.len {σ : Sg} {D : Nat → Prop} : ∀ {l r : List Value}, LRel σ D l r → l.length = r.length
  | [], [], _ => rfl
  | _ :: _, _ :: _, hl => by simp [LRel.len hl.2]
theorem PRel.len {σ : Sg} {D : Nat → Prop} : ∀ {l r : List Value}, PRel σ D l r → l.length ≤ r.length
  | [], _, _ => by simp
  | _ :: _, _ :: _, hl => by have := PRel.len hl.2; simp; omega
theorem LRel.pre {σ : Sg} {D : Nat → Prop} : ∀ {l r : List Value}, LRel σ D l r → ∀ r', PRel σ D l (r ++ r')
  | [], [], _, _ => trivial
  | _ :: _, _ :: _, hl, r' => ⟨hl.1, LRel.pre hl.2 r'⟩
theorem LRel.app {σ : Sg} {D : Nat → Prop} : ∀ {l r : List Value}, LRel σ D l r → ∀ {l' r'}, LRel σ D l' r' → LRel σ D (l ++ l') (r ++ r')
  | [], [], _, _, _, h => h
  | _ :: _, _ :: _, hl, _, _, h => ⟨hl.1, LRel.app hl.2 h⟩
theorem LRel.get {σ : Sg} {D : Nat → Prop} : ∀ {l r : List Value}, LRel σ D l r → ∀ (i : Nat) (v : Value), l[i]? = some v → ∃ v', r[i]? = some v' ∧ VRel σ D v v'
  | [], [], _, i, v, h => by simp at h
  | _ :: _, b :: _, hl, 0, v, h => by simp at h; subst h; exact ⟨b, by simp, hl.1⟩
  | _ :: _, _ :: _, hl, i + 1, v, h => by simp at h; obtain ⟨v', h1, h2⟩ := LRel.get hl.2 i v h; exact ⟨v', by simpa using h1, h2⟩
theorem LRel.of_get {σ : Sg} {D : Nat → Prop} : ∀ {l r : List Value}, l.length = r.length → (∀ (i : Nat) (v v' : Value), l[i]? = some v → r[i]? = some v' → VRel σ D v v') → LRel σ D l r
  | [], [], _, _ => trivial
  | a :: l, b :: r, h, hg => ⟨hg 0 a b (by simp) (by simp), LRel.of_get (by simpa using h) (fun i v v' h1 h2 => hg (i + 1) v v' (by simpa using h1) (by simpa using h2))⟩
  | [], _ :: _, h, _ => by simp at h
  | _ :: _, [], h, _ => by simp at h
theorem LRel.of_arr {σ : Sg} {D : Nat → Prop} {a a' : Array Value} (h : a.size = a'.size) (hg : ∀ (i : Nat) (v v' : Value), a[i]? = some v → a'[i]? = some v' → VRel σ D v v') : LRel σ D a.toList a'.toList :=
  LRel.of_get (by simpa using h) (fun i v v' h1 h2 => hg i v v' (by simpa using h1) (by simpa using h2))
theorem LRel.arr {σ : Sg} {D : Nat → Prop} {l r : List Value} (h : LRel σ D l r) : ∀ (i : Nat) (v v' : Value), l.toArray[i]? = some v → r.toArray[i]? = some v' → VRel σ D v v' := by
  intro i v v' h1 h2
  obtain ⟨u, h3, h4⟩ := h.get i v (by simpa using h1)
  have : some u = some v' := h3.symm.trans (by simpa using h2)
  injection this with this; exact this ▸ h4
theorem LRel.agg {σ : Sg} {D : Nat → Prop} {l r : List Value} (h : LRel σ D l r) : VRel σ D (.agg l.toArray) (.agg r.toArray) := .agg (by simpa using h.len) h.arr
theorem LRel.tup {σ : Sg} {D : Nat → Prop} {l r : List Value} (h : LRel σ D l r) : VRel σ D (.tuple l.toArray) (.tuple r.toArray) := .tuple (by simpa using h.len) h.arr

theorem PRel.get {σ : Sg} {D : Nat → Prop} : ∀ {l r : List Value}, PRel σ D l r → ∀ (i : Nat) (v : Value), getL l i = some v → ∃ v', r[i]? = some v' ∧ VRel σ D v v'
  | [], _, _, i, v, h => by simp [getL] at h
  | a :: l, b :: r, hl, i, v, h => by
    simp only [getL] at h
    cases i with
    | zero => simp [Nat.beq] at h; subst h; exact ⟨b, by simp, hl.1⟩
    | succ i =>
      have : Nat.beq (i + 1) 0 = false := rfl
      rw [this] at h
      obtain ⟨v', h1, h2⟩ := PRel.get hl.2 i v (by simpa using h)
      exact ⟨v', by simpa using h1, h2⟩
theorem PRel.take {σ : Sg} {D : Nat → Prop} : ∀ {l r : List Value}, PRel σ D l r → ∀ n l', takeN l n = some l' → LRel σ D l' (r.take n) ∧ n ≤ r.length
  | _, _, _, 0, l', h => by
    have : l' = [] := by rename_i l _ _; cases l <;> simp [takeN] at h <;> exact h
    subst this; simp [LRel]
  | [], _, _, n + 1, l', h => by simp [takeN] at h
  | a :: l, b :: r, hl, n + 1, l', h => by
    simp only [takeN] at h
    cases hx : takeN l n with
    | none => rw [hx] at h; simp at h
    | some l1 =>
      rw [hx] at h; simp at h; subst h
      obtain ⟨h1, h2⟩ := PRel.take hl.2 n l1 hx
      exact ⟨⟨hl.1, h1⟩, by simp; omega⟩
theorem PRel.drop {σ : Sg} {D : Nat → Prop} : ∀ {l r : List Value}, PRel σ D l r → ∀ n l', dropN l n = some l' → PRel σ D l' (r.drop n) ∧ n ≤ r.length
  | l, r, hl, 0, l', h => by
    have : l' = l := by cases l <;> simp [dropN] at h <;> first | exact h | exact h.symm
    subst this; exact ⟨by simpa using hl, by simp⟩
  | [], _, _, n + 1, l', h => by simp [dropN] at h
  | a :: l, b :: r, hl, n + 1, l', h => by
    simp only [dropN] at h
    obtain ⟨h1, h2⟩ := PRel.drop hl.2 n l' h
    exact ⟨by simpa using h1, by simp; omega⟩
theorem PRel.range {σ : Sg} {D : Nat → Prop} {l r l' : List Value} {o n : Nat} (h : PRel σ D l r) (hr : rangeN l o n = .ok l') : LRel σ D l' ((r.drop o).take n) ∧ o + n ≤ r.length := by
  unfold rangeN at hr
  cases hd : dropN l o with
  | none => rw [hd] at hr; simp at hr
  | some l1 =>
    rw [hd] at hr; simp only [some_ok] at hr
    obtain ⟨h1, h2⟩ := h.drop o l1 hd
    obtain ⟨h3, h4⟩ := h1.take n l' hr
    exact ⟨h3, by simp at h4; omega⟩
theorem LRel.range {σ : Sg} {D : Nat → Prop} {l r l' : List Value} {o n : Nat} (h : LRel σ D l r) (hr : rangeN l o n = .ok l') : LRel σ D l' ((r.drop o).take n) ∧ o + n ≤ r.length := by
  have := PRel.range (by simpa using h.pre []) hr
  simpa using this
/-- laid over -/
theorem PRel.over {σ : Sg} {D : Nat → Prop} : ∀ {l r vs vs' l' : List Value}, PRel σ D l r → LRel σ D vs vs' → X.over l vs = some l' → PRel σ D l' (vs' ++ r.drop vs'.length) ∧ vs'.length ≤ r.length ∧ l'.length = l.length
  | l, r, [], [], l', h, _, ho => by
    have : l' = l := by cases l <;> simp [X.over] at ho <;> first | exact ho | exact ho.symm
    subst this; simpa using h
  | [], r, _ :: _, _, l', h, _, ho => by simp [X.over] at ho
  | a :: l, b :: r, v :: vs, v' :: vs', l', h, hv, ho => by
    simp only [X.over] at ho
    cases hx : X.over l vs with
    | none => rw [hx] at ho; simp at ho
    | some l1 =>
      rw [hx] at ho; simp at ho; subst ho
      obtain ⟨h1, h2, h3⟩ := PRel.over h.2 hv.2 hx
      exact ⟨⟨hv.1, by simpa using h1⟩, by simp; omega, by simp [h3]⟩
theorem PRel.splice {σ : Sg} {D : Nat → Prop} : ∀ {l r vs vs' l' : List Value} {o : Nat}, PRel σ D l r → LRel σ D vs vs' → X.splice l o vs = some l' → PRel σ D l' (r.take o ++ vs' ++ r.drop (o + vs'.length)) ∧ o + vs'.length ≤ r.length ∧ l'.length = l.length
  | l, r, vs, vs', l', 0, h, hv, ho => by
    have ho' : X.over l vs = some l' := by cases l <;> exact ho
    obtain ⟨h1, h2, h3⟩ := PRel.over h hv ho'
    exact ⟨by simpa using h1, by omega, h3⟩
  | [], r, vs, vs', l', o + 1, h, hv, ho => by simp [X.splice] at ho
  | a :: l, b :: r, vs, vs', l', o + 1, h, hv, ho => by
    simp only [X.splice] at ho
    cases hx : X.splice l o vs with
    | none => rw [hx] at ho; simp at ho
    | some l1 =>
      rw [hx] at ho; simp at ho; subst ho
      obtain ⟨h1, h2, h3⟩ := PRel.splice h.2 hv hx
      refine ⟨⟨h.1, ?_⟩, by simp; omega, by simp [h3]⟩
      rw [show o + 1 + vs'.length = (o + vs'.length) + 1 by omega]
      simpa using h1
end Go.Proofs.YtoddlefhlicfiaaGreatDoorR.X

/- The executor's memory and the model's: the relation on blocks, and how it lasts when one is laid, turned, or left behind. -/
namespace Go.Proofs.YtoddlefhlicfiaaGreatDoorR.X
open Go

structure CxOk (C : Cx) : Prop where
  types : ∀ t i, C.types.get t = some i → C.P.types[t]? = some i
  funcs : ∀ f fn, C.funcs.get f = some fn → C.P.funcs[f]? = some fn

theorem mkCx_ok (P : Program) (G : Nat) (intr ext : Nat → Option (List Value → St → M (Value × St))) : CxOk (mkCx P G intr ext) where
  types t i h := by have := Tr.ofList_get _ _ _ h; simpa [mkCx] using this
  funcs t i h := by have := Tr.ofList_get _ _ _ h; simpa [mkCx] using this

section types
variable {C : Cx} (ok : CxOk C)
include ok
theorem info_ok {t : TypeId} {i : TypeInfo} (h : info C t = .ok i) : C.P.info? t = some i := by
  have h1 := ok.types t i (some_ok.1 h)
  have hlt : t < C.P.types.size := (Array.getElem?_eq_some_iff.1 h1).1
  simp only [Tables.info?, hlt, if_true]; exact h1
theorem und_ok {t : TypeId} {d : TypeDesc} (h : und C t = .ok d) : C.P.underlying t = some d := by
  unfold und at h
  obtain ⟨i, hi, h2⟩ := bnd_ok.1 h
  have h1 := info_ok ok hi
  unfold Program.underlying
  rw [h1]
  obtain ⟨desc, a1, a2, a3, a4, a5, a6, a7, a8, a9⟩ := i
  cases desc <;> simp only [] at h2 ⊢
  case named n u =>
    obtain ⟨j, hj, h3⟩ := bnd_ok.1 h2
    rw [info_ok ok hj]
    simp at h3 ⊢; exact h3
  all_goals (injection h2 with h2; rw [h2])
theorem szOf_ok {t : TypeId} {n : Nat} (h : szOf C t = .ok n) : ∃ i, C.P.info? t = some i ∧ i.size = n := by
  obtain ⟨i, hi, h2⟩ := bnd_ok.1 h
  exact ⟨i, info_ok ok hi, by injection h2⟩
theorem zeroOf_ok {t : TypeId} {v : Value} (h : zeroOf C t = .ok v) : ∃ i, C.P.info? t = some i ∧ i.zero = some v ∧ flatZ v = true := by
  obtain ⟨i, hi, h2⟩ := bnd_ok.1 h
  obtain ⟨u, hu, h3⟩ := bnd_ok.1 h2
  cases hf : flatZ u with
  | false => rw [hf] at h3; simp at h3
  | true => rw [hf] at h3; simp at h3; subst h3; exact ⟨i, info_ok ok hi, some_ok.1 hu, hf⟩
theorem run_und {t : TypeId} {d : TypeDesc} (h : und C t = .ok d) (w : World) : (underlying t).run C.P w = .ok d w := by
  simp [underlying, und_ok ok h]
theorem run_size {t : TypeId} {n : Nat} (h : szOf C t = .ok n) (w : World) : (sizeOf t).run C.P w = .ok n w := by
  obtain ⟨i, hi, h2⟩ := szOf_ok ok h
  simp [sizeOf, typeInfo, hi, h2]
theorem run_zero {t : TypeId} {v : Value} (h : zeroOf C t = .ok v) (w : World) : (zeroValue t).run C.P w = .ok v w := by
  obtain ⟨i, hi, h2, _⟩ := zeroOf_ok ok h
  simp [zeroValue, typeInfo, hi, h2]
theorem run_info {t : TypeId} {i : TypeInfo} (h : info C t = .ok i) (w : World) : (typeInfo t).run C.P w = .ok i w := by
  simp [typeInfo, info_ok ok h]
theorem run_isAgg {t : TypeId} {b : Bool} (h : isAggA C t = .ok b) (w : World) : (isAgg t).run C.P w = .ok b w := by
  obtain ⟨d, hd, h2⟩ := bnd_ok.1 h
  injection h2 with h2
  unfold isAgg
  simp only [Sem.run_bind, run_und ok hd, Result.andThen_ok]
  cases d <;> simp [aggD] at h2 ⊢ <;> exact h2
end types

def AO.isDead : AO → Bool
  | .dead => true
  | _ => false
def Live (s : St) (i : Nat) : Prop := ∃ o, s.h.get i = some o ∧ o.isDead = false
/-- cells that are never written -/
def AO.fixed : AO → Bool
  | .cells _ _ _ wr => !wr
  | _ => false
def LiveW (s : St) (i : Nat) : Prop := ∃ o, s.h.get i = some o ∧ o.isDead = false ∧ o.fixed = false
theorem LiveW.live {s : St} {i : Nat} (h : LiveW s i) : Live s i := let ⟨o, h1, h2, _⟩ := h; ⟨o, h1, h2⟩

/-- Tmps. -/
def TRel (σ : Sg) (D : Nat → Prop) (t : Tm) (a : Array Value) : Prop := ∀ i v, Tm.get t i = some v → ∃ v', a[i]? = some v' ∧ VRel σ D v v'
theorem TRel.mono {σ σ' : Sg} {D D' : Nat → Prop} (h : ∀ i, D i → D' i ∧ σ' i = σ i) {t : Tm} {a : Array Value} (ht : TRel σ D t a) : TRel σ' D' t a :=
  fun i v hv => let ⟨v', h1, h2⟩ := ht i v hv; ⟨v', h1, h2.mono h⟩
theorem TRel.set {σ : Sg} {D : Nat → Prop} {t t' : Tm} {a : Array Value} {d : Nat} {v v' : Value} (ht : TRel σ D t a) (hu : updM t d v = .ok t') (hv : VRel σ D v v') : TRel σ D t' (a.setIfInBounds d v') := by
  obtain ⟨h1, h2, h3⟩ := updM_ok hu
  intro i u hi
  by_cases e : i = d
  · subst e
    rw [h2] at hi; injection hi with hi; subst hi
    obtain ⟨x, hx⟩ := Option.isSome_iff_exists.1 h1
    obtain ⟨x', h4, _⟩ := ht _ _ hx
    have hlt := (Array.getElem?_eq_some_iff.1 h4).1
    exact ⟨v', by simp [hlt], hv⟩
  · rw [h3 i e] at hi
    obtain ⟨u', h4, h5⟩ := ht _ _ hi
    exact ⟨u', by rw [Array.getElem?_setIfInBounds_ne (by omega)]; exact h4, h5⟩

def MRel (σ : Sg) (D : Nat → Prop) : List MapEntry → List MapEntry → Prop
  | [], [] => True
  | e :: l, e' :: r => (VRel σ D e.key e'.key ∧ VRel σ D e.val e'.val ∧ e.born = e'.born) ∧ MRel σ D l r
  | _, _ => False
theorem MRel.mono {σ σ' : Sg} {D D' : Nat → Prop} (h : ∀ i, D i → D' i ∧ σ' i = σ i) : ∀ {l r : List MapEntry}, MRel σ D l r → MRel σ' D' l r
  | [], [], _ => trivial
  | _ :: _, _ :: _, hl => ⟨⟨hl.1.1.mono h, hl.1.2.1.mono h, hl.1.2.2⟩, MRel.mono h hl.2⟩

/-- A block of ours stands for an object of the model's. -/
def ORel (C : Cx) (σ : Sg) (D : Nat → Prop) (l : Loc) : AO → Obj → Prop
  | .cells c e g wr, o => ∃ cc fz, o = .cells cc e fz ∧ PRel σ D c cc.toList ∧ (g = false → cc.size = c.length) ∧ (wr = true → fz.1 = fz.2 ∨ (cc.size ≤ fz.1 ∧ C.P.underlying e = some (.int .u8))) ∧ l.size = cc.size
  | .map es clk, o => ∃ es', o = .map es' clk ∧ MRel σ D es es'.toList
  | .loop r, o => ∃ r', o = .loop r' ∧ r'.state = r.st ∧ r'.pending = r.pend ∧ r'.params = r.params ∧ r'.assign = r.assign ∧ r'.body = r.body ∧ TRel σ D r.tmps r'.tmps
  | .defd, o => o = .deferred (some [])
  | .sit s pos, o => o = .stringIter s pos
  | .dead, _ => True
theorem ORel.mono {C : Cx} {σ σ' : Sg} {D D' : Nat → Prop} (h : ∀ i, D i → D' i ∧ σ' i = σ i) {l : Loc} {o : AO} {o' : Obj} (ho : ORel C σ D l o o') : ORel C σ' D' l o o' := by
  cases o with
  | cells c e g wr => obtain ⟨cc, fz, h1, h2, h3⟩ := ho; exact ⟨cc, fz, h1, h2.mono h, h3⟩
  | map es clk => obtain ⟨es', h1, h2⟩ := ho; exact ⟨es', h1, h2.mono h⟩
  | loop r => obtain ⟨r', h1, h2, h3, h4, h5, h6, h7⟩ := ho; exact ⟨r', h1, h2, h3, h4, h5, h6, h7.mono h⟩
  | defd => exact ho
  | sit s pos => exact ho
  | dead => trivial

structure HRel (C : Cx) (B : Nat) (σ : Sg) (s : St) (w : World) : Prop where
  big : B ≤ w.heap.size
  lt : ∀ i o, s.h.get i = some o → i < s.nx
  obj : ∀ i o, s.h.get i = some o → o.isDead = false → B ≤ (σ i).blk ∧ ∃ o', w.heap[(σ i).blk]? = some o' ∧ ORel C σ (· < s.nx) (σ i) o o'
  inj : ∀ i j, Live s i → Live s j → (σ i).blk = (σ j).blk → i = j
  glob : ∀ g, g < C.G → g < s.nx ∧ (σ g).blk = g

structure Ext (σ σ' : Sg) (s s' : St) (w w' : World) : Prop where
  sg : ∀ i, i < s.nx → σ' i = σ i
  nx : s.nx ≤ s'.nx
  size : w.heap.size ≤ w'.heap.size
  frame : ∀ k, k < w.heap.size → (∀ i, LiveW s i → (σ i).blk ≠ k) → w'.heap[k]? = w.heap[k]?
  fresh : ∀ i, Live s' i → Live s i ∨ w.heap.size ≤ (σ' i).blk ∨ ∃ j, Live s j ∧ (σ' i).blk = (σ j).blk
  freshW : ∀ i, LiveW s' i → LiveW s i ∨ w.heap.size ≤ (σ' i).blk ∨ ∃ j, LiveW s j ∧ (σ' i).blk = (σ j).blk
  os : w'.os = w.os
  tape : w'.tape = w.tape
  output : w'.output = w.output

theorem Ext.refl (σ : Sg) (s : St) (w : World) : Ext σ σ s s w w := ⟨fun _ _ => rfl, Nat.le_refl _, Nat.le_refl _, fun _ _ _ => rfl, fun _ h => .inl h, fun _ h => .inl h, rfl, rfl, rfl⟩
theorem HRel.live_lt {C : Cx} {B : Nat} {σ : Sg} {s : St} {w : World} (h : HRel C B σ s w) {i : Nat} (hl : Live s i) : i < s.nx := let ⟨o, ho, _⟩ := hl; h.lt i o ho
theorem Ext.trans {C : Cx} {B : Nat} {σ σ1 σ2 : Sg} {s s1 s2 : St} {w w1 w2 : World} (h : HRel C B σ s w) (h1 : HRel C B σ1 s1 w1) (a : Ext σ σ1 s s1 w w1) (b : Ext σ1 σ2 s1 s2 w1 w2) : Ext σ σ2 s s2 w w2 where
  sg i hi := (b.sg i (Nat.lt_of_lt_of_le hi a.nx)).trans (a.sg i hi)
  nx := Nat.le_trans a.nx b.nx
  size := Nat.le_trans a.size b.size
  frame k hk hf := by
    rw [b.frame k (Nat.lt_of_lt_of_le hk a.size) ?_]
    · exact a.frame k hk hf
    · intro i hi
      rcases a.freshW i hi with h2 | h2 | ⟨j, hj, h2⟩
      · rw [a.sg i (h.live_lt h2.live)]; exact hf i h2
      · omega
      · rw [h2]; exact hf j hj
  fresh i hi := by
    rcases b.fresh i hi with h2 | h2 | ⟨j, hj, h2⟩
    · rw [b.sg i (h1.live_lt h2)]; exact a.fresh i h2
    · exact .inr (.inl (Nat.le_trans a.size h2))
    · rcases a.fresh j hj with h3 | h3 | ⟨k, hk, h3⟩
      · exact .inr (.inr ⟨j, h3, by rw [h2, a.sg j (h.live_lt h3)]⟩)
      · exact .inr (.inl (by omega))
      · exact .inr (.inr ⟨k, hk, h2.trans h3⟩)
  freshW i hi := by
    rcases b.freshW i hi with h2 | h2 | ⟨j, hj, h2⟩
    · rw [b.sg i (h1.live_lt h2.live)]; exact a.freshW i h2
    · exact .inr (.inl (Nat.le_trans a.size h2))
    · rcases a.freshW j hj with h3 | h3 | ⟨k, hk, h3⟩
      · exact .inr (.inr ⟨j, h3, by rw [h2, a.sg j (h.live_lt h3.live)]⟩)
      · exact .inr (.inl (by omega))
      · exact .inr (.inr ⟨k, hk, h2.trans h3⟩)
  os := b.os.trans a.os
  tape := b.tape.trans a.tape
  output := b.output.trans a.output
theorem Ext.mono {σ σ' : Sg} {s s' : St} {w w' : World} (e : Ext σ σ' s s' w w') : ∀ i, i < s.nx → i < s'.nx ∧ σ' i = σ i := fun i hi => ⟨Nat.lt_of_lt_of_le hi e.nx, e.sg i hi⟩
theorem Ext.vrel {σ σ' : Sg} {s s' : St} {w w' : World} (e : Ext σ σ' s s' w w') {v v' : Value} (h : VRel σ (· < s.nx) v v') : VRel σ' (· < s'.nx) v v' := h.mono e.mono
theorem Ext.trel {σ σ' : Sg} {s s' : St} {w w' : World} (e : Ext σ σ' s s' w w') {t : Tm} {a : Array Value} (h : TRel σ (· < s.nx) t a) : TRel σ' (· < s'.nx) t a := h.mono e.mono

/-- the numbering with one more -/
def more (σ : Sg) (n : Nat) (l : Loc) : Sg := fun i => if i = n then l else σ i
theorem more_same (σ : Sg) (n : Nat) (l : Loc) : more σ n l n = l := by simp [more]
theorem more_other (σ : Sg) {n i : Nat} (l : Loc) (h : i ≠ n) : more σ n l i = σ i := by simp [more, h]

/-- One more block. -/
theorem HRel.new {C : Cx} {B : Nat} {σ : Sg} {s s' : St} {w w' : World} {o : AO} {r : Nat} {o' : Obj} {sz : Nat} (h : HRel C B σ s w) (hn : newO s o = .ok (r, s')) (hd : o.isDead = false)
    (hw : w'.heap = w.heap.push o') (hos : w'.os = w.os) (ht : w'.tape = w.tape) (hou : w'.output = w.output) (ho : ORel C σ (· < s.nx) ⟨w.heap.size, sz⟩ o o') :
    r = s.nx ∧ s'.nx = s.nx + 1 ∧ HRel C B (more σ s.nx ⟨w.heap.size, sz⟩) s' w' ∧ Ext σ (more σ s.nx ⟨w.heap.size, sz⟩) s s' w w' ∧ Live s' s.nx := by
  obtain ⟨h1, hs, h2⟩ := bnd_ok.1 hn
  injection h2 with h2
  injection h2 with hr h2
  subst h2; subst hr
  obtain ⟨g1, g2⟩ := setT_ok hs
  have hmono : ∀ i, i < s.nx → i < s.nx + 1 ∧ more σ s.nx ⟨w.heap.size, sz⟩ i = σ i := fun i hi => ⟨by omega, more_other σ _ (by omega)⟩
  have hlive : ∀ i, Live { h := h1, nx := s.nx + 1 } i → i = s.nx ∨ Live s i := by
    rintro i ⟨x, hx, hxd⟩
    by_cases e : i = s.nx
    · exact .inl e
    · exact .inr ⟨x, by rw [← g2 i e]; exact hx, hxd⟩
  have hblk : ∀ i, Live s i → (σ i).blk < w.heap.size := by
    rintro i ⟨x, hx, hxd⟩
    obtain ⟨_, o1, h3, _⟩ := h.obj i x hx hxd
    exact (Array.getElem?_eq_some_iff.1 h3).1
  have hliveW : ∀ i, LiveW { h := h1, nx := s.nx + 1 } i → i = s.nx ∨ LiveW s i := by
    rintro i ⟨x, hx, hxd⟩
    by_cases e : i = s.nx
    · exact .inl e
    · exact .inr ⟨x, by rw [← g2 i e]; exact hx, hxd⟩
  refine ⟨rfl, rfl, ⟨?_, ?_, ?_, ?_, fun g hg => ?_⟩, ⟨?_, ?_, ?_, ?_, ?_, ?_, hos, ht, hou⟩, ⟨o, g1, hd⟩⟩
  · rw [hw]; have := h.big; simp; omega
  · intro i x hx
    by_cases e : i = s.nx
    · subst e; show s.nx < s.nx + 1; omega
    · have := h.lt i x ((g2 i e).symm.trans hx); show i < s.nx + 1; omega
  · intro i x hx hxd
    by_cases e : i = s.nx
    · subst e
      rw [g1] at hx; injection hx with hx; subst hx
      rw [more_same]
      exact ⟨h.big, o', by rw [hw]; simp, ho.mono hmono⟩
    · have hx' : s.h.get i = some x := (g2 i e).symm.trans hx
      rw [more_other σ _ e]
      obtain ⟨h3, o1, h4, h5⟩ := h.obj i x hx' hxd
      have hlt := (Array.getElem?_eq_some_iff.1 h4).1
      exact ⟨h3, o1, by rw [hw, Array.getElem?_push_lt hlt, ← h4, Array.getElem?_eq_getElem hlt], h5.mono hmono⟩
  · intro i j hi hj he
    rcases hlive i hi with e | hi <;> rcases hlive j hj with e' | hj
    · omega
    · subst e
      have := hblk j hj
      rw [more_same, more_other σ _ (by have := h.live_lt hj; omega)] at he
      have he' : w.heap.size = (σ j).blk := he
      omega
    · subst e'
      have := hblk i hi
      rw [more_same, more_other σ _ (by have := h.live_lt hi; omega)] at he
      have he' : (σ i).blk = w.heap.size := he
      omega
    · rw [more_other σ _ (by have := h.live_lt hi; omega), more_other σ _ (by have := h.live_lt hj; omega)] at he
      exact h.inj i j hi hj he
  · obtain ⟨q1, q2⟩ := h.glob g hg
    exact ⟨by show g < s.nx + 1; omega, by rw [more_other σ _ (by omega)]; exact q2⟩
  · intro i hi; exact more_other σ _ (by omega)
  · show s.nx ≤ s.nx + 1; omega
  · rw [hw]; simp
  · intro k hk _; rw [hw, Array.getElem?_push_lt hk, Array.getElem?_eq_getElem hk]
  · intro i hi
    rcases hlive i hi with e | hi
    · subst e; exact .inr (.inl (by rw [more_same]; exact Nat.le_refl _))
    · exact .inl hi
  · intro i hi
    rcases hliveW i hi with e | hi
    · subst e; exact .inr (.inl (by rw [more_same]; exact Nat.le_refl _))
    · exact .inl hi

/-- A block turned into another one, or left behind. -/
theorem HRel.put {C : Cx} {B : Nat} {σ : Sg} {s s' : St} {w w' : World} {b : Nat} {o : AO} (h : HRel C B σ s w) (hp : putO s b o = .ok s') (hlvW : LiveW s b)
    (hother : ∀ k, k ≠ (σ b).blk → w'.heap[k]? = w.heap[k]?) (hsz : w'.heap.size = w.heap.size) (hos : w'.os = w.os) (ht : w'.tape = w.tape) (hou : w'.output = w.output)
    (ho : o.isDead = false → ∃ o', w'.heap[(σ b).blk]? = some o' ∧ ORel C σ (· < s.nx) (σ b) o o') :
    HRel C B σ s' w' ∧ Ext σ σ s s' w w' ∧ s'.nx = s.nx := by
  have hlv := hlvW.live
  obtain ⟨h1, hs, h2⟩ := bnd_ok.1 hp
  injection h2 with h2
  subst h2
  obtain ⟨_, g1, g2⟩ := updT_ok hs
  have hlive : ∀ i, Live { s with h := h1 } i → Live s i := by
    rintro i ⟨x, hx, hxd⟩
    by_cases e : i = b
    · subst e; exact hlv
    · exact ⟨x, by rw [← g2 i e]; exact hx, hxd⟩
  have hliveW : ∀ i, LiveW { s with h := h1 } i → LiveW s i := by
    rintro i ⟨x, hx, hxd⟩
    by_cases e : i = b
    · subst e; exact hlvW
    · exact ⟨x, by rw [← g2 i e]; exact hx, hxd⟩
  refine ⟨⟨?_, ?_, ?_, ?_, h.glob⟩, ⟨fun _ _ => rfl, Nat.le_refl _, by omega, ?_, fun i hi => .inl (hlive i hi), fun i hi => .inl (hliveW i hi), hos, ht, hou⟩, rfl⟩
  · rw [hsz]; exact h.big
  · intro i x hx
    by_cases e : i = b
    · subst e; exact h.live_lt hlv
    · exact h.lt i x ((g2 i e).symm.trans hx)
  · intro i x hx hxd
    by_cases e : i = b
    · subst e
      rw [g1] at hx; injection hx with hx; subst hx
      obtain ⟨x0, hx0, hx0d⟩ := hlv
      obtain ⟨o', h3, h4⟩ := ho hxd
      exact ⟨(h.obj _ _ hx0 hx0d).1, o', h3, h4⟩
    · have hx' : s.h.get i = some x := (g2 i e).symm.trans hx
      obtain ⟨h3, o1, h4, h5⟩ := h.obj i x hx' hxd
      refine ⟨h3, o1, ?_, h5⟩
      rw [hother _ (fun he => e (h.inj i b ⟨x, hx', hxd⟩ hlv he))]; exact h4
  · intro i j hi hj he; exact h.inj i j (hlive i hi) (hlive j hj) he
  · intro k _ hf; exact hother k (fun e => hf b hlvW e.symm)

/-- The same memory of ours, where only the tape was asked. -/
theorem HRel.heap {C : Cx} {B : Nat} {σ : Sg} {s : St} {w w' : World} (h : HRel C B σ s w) (hw : w'.heap = w.heap) : HRel C B σ s w' :=
  ⟨by rw [hw]; exact h.big, h.lt, fun i o hi hd => by rw [hw]; exact h.obj i o hi hd, h.inj, h.glob⟩

/-- what rd tells -/
theorem HRel.rd {C : Cx} {B : Nat} {σ : Sg} {s : St} {w : World} (h : HRel C B σ s w) {b : Nat} {x : Blk} (hr : X.rd s b = .ok x) :
    Live s b ∧ s.h.get b = some (.cells x.c x.elem x.grow x.wr) ∧ b < s.nx ∧ B ≤ (σ b).blk ∧ ∃ cc fz, w.heap[(σ b).blk]? = some (.cells cc x.elem fz) ∧ PRel σ (· < s.nx) x.c cc.toList ∧ (x.grow = false → cc.size = x.c.length) ∧
      (x.wr = true → fz.1 = fz.2 ∨ (cc.size ≤ fz.1 ∧ C.P.underlying x.elem = some (.int .u8))) ∧ (σ b).size = cc.size := by
  unfold X.rd at hr
  cases hg : s.h.get b with
  | none => rw [hg] at hr; simp at hr
  | some o =>
    rw [hg] at hr
    cases o <;> simp at hr
    subst hr
    obtain ⟨h1, o', h2, cc, fz, h3, h4, h5, h6, h7⟩ := h.obj b _ hg rfl
    subst h3
    exact ⟨⟨_, hg, rfl⟩, rfl, h.lt b _ hg, h1, cc, fz, h2, h4, h5, h6, h7⟩
end Go.Proofs.YtoddlefhlicfiaaGreatDoorR.X

/- The executor's plain operations are the model's: numbers, texts, comparisons. -/
set_option linter.unusedSimpArgs false
namespace Go.Proofs.YtoddlefhlicfiaaGreatDoorR.X
open Go

theorem wrap_u (k : IntKind) (m : Nat) (N : Nat) (hs : k.signed = false) (hb : 2 ^ k.bits = N) : IntKind.wrap k (.ofNat m) = .ofNat (Nat.mod m N) := by
  unfold IntKind.wrap
  simp only [hs, Bool.false_and, Bool.false_eq_true, if_false]
  have e : ((2 : Int) ^ k.bits) = ((2 ^ k.bits : Nat) : Int) := by simp
  rw [e, hb]; rfl
theorem wrapF_eq (k : IntKind) (n : Int) : wrapF k n = k.wrap n := by
  cases n with
  | ofNat m =>
    cases k <;> simp only [wrapF]
    case i64 =>
      cases h : Nat.blt m 9223372036854775808 with
      | false => rfl
      | true =>
        have h' : m < 9223372036854775808 := by rw [← Nat.blt_eq]; exact h
        simp only [IntKind.wrap_i64, Int.ofNat_eq_natCast]; omega
    case u8 => rw [wrap_u .u8 m 256 rfl rfl]
    case u32 => rw [wrap_u .u32 m 4294967296 rfl (by decide)]
    case u64 => rw [wrap_u .u64 m 18446744073709551616 rfl (by decide)]
  | negSucc m =>
    cases k <;> simp only [wrapF]
    case i64 =>
      cases h : Nat.blt m 9223372036854775808 with
      | false => rfl
      | true =>
        have h' : m < 9223372036854775808 := by rw [← Nat.blt_eq]; exact h
        simp only [IntKind.wrap_i64, Int.negSucc_eq]; omega
theorem beq_nat (m n : Nat) : Nat.beq m n = decide (m = n) := by
  cases h : Nat.beq m n
  · have : m ≠ n := fun e => by subst e; simp at h
    simp [this]
  · have := Nat.eq_of_beq_eq_true h; simp [this]
theorem blt_nat (m n : Nat) : Nat.blt m n = decide (m < n) := by
  cases h : Nat.blt m n
  · have : ¬ m < n := by rw [← Nat.blt_eq, h]; simp
    simp [this]
  · have : m < n := by rw [← Nat.blt_eq]; exact h
    simp [this]
theorem eqI_eq (a b : Int) : eqI a b = (a == b) := by
  cases a <;> cases b <;> simp only [eqI, beq_nat]
  · rename_i m n; rw [Bool.eq_iff_iff]; simp; omega
  · rename_i m n; rw [Bool.eq_iff_iff]; simp
  · rename_i m n; rw [Bool.eq_iff_iff]; simp
  · rename_i m n; rw [Bool.eq_iff_iff]; simp
theorem ltI_eq (a b : Int) : ltI a b = decide (a < b) := by
  cases a <;> cases b <;> simp only [ltI, blt_nat]
  · rename_i m n; rw [Bool.eq_iff_iff]; simp
  · rename_i m n; rw [Bool.eq_iff_iff]; simp; omega
  · rename_i m n; rw [Bool.eq_iff_iff]; simp; omega
  · rename_i m n; rw [Bool.eq_iff_iff]; simp; omega
theorem leI_eq (a b : Int) : leI a b = decide (a ≤ b) := by
  simp only [leI, ltI_eq]
  by_cases h : a ≤ b
  · have : ¬ b < a := by omega
    simp [h, this]
  · have : b < a := by omega
    simp [h, this]

theorem runPure_ok {C : Cx} {α : Type} {s : Sem α} {v : α} (h : runPure C s = .ok v) : ∀ w, s.run C.P w = .ok v w := by
  induction s with
  | pure a => intro w; simp [runPure] at h; subst h; rfl
  | program k ih => intro w; simp [runPure] at h; exact ih C.P h w
  | _ => simp [runPure] at h
theorem constA_ok {v u : Value} (h : constA v = .ok u) : u = v ∧ flat v = true := by
  unfold constA at h
  cases hf : flat v <;> rw [hf] at h <;> simp at h
  exact ⟨h.symm, rfl⟩
theorem intBin_ok {C : Cx} {op : BinOp} {t : TypeId} {k j : IntKind} {a b : Int} {v : Value} (h : intBin C op t k j a b = .ok v) : flat v = true ∧ ∀ w, (binOp op t (.int k a) (.int j b)).run C.P w = .ok v w := by
  have slow : slowI C op t k j a b = .ok v → flat v = true ∧ ∀ w, (binOp op t (.int k a) (.int j b)).run C.P w = .ok v w := fun h => by
    obtain ⟨u, h1, h2⟩ := bnd_ok.1 h
    obtain ⟨rfl, h3⟩ := constA_ok h2
    exact ⟨h3, runPure_ok h1⟩
  cases op <;> simp only [intBin] at h <;> first
    | exact slow h
    | (by_cases hk : k = j
       · subst hk
         simp at h; subst h
         refine ⟨rfl, fun w => ?_⟩
         simp only [binOp, ne_eq, not_true_eq_false, if_false, Op.intArith, Op.intCmp, wrapF_eq, eqI_eq, ltI_eq, leI_eq, Sem.run_pure]
         try rfl
       · simp [hk] at h)

theorem eqB_eq : ∀ (a b : List UInt8), eqB a b = (a == b)
  | [], [] => rfl
  | [], _ :: _ => rfl
  | _ :: _, [] => rfl
  | a :: x, b :: y => by
    simp only [eqB]
    cases h : Nat.beq a.toNat b.toNat
    · have : a ≠ b := fun e => by subst e; simp at h
      simp [this]
    · have := UInt8.toNat_inj.1 (Nat.eq_of_beq_eq_true h); subst this
      simp [eqB_eq x y]
theorem ltB_eq : ∀ (a b : List UInt8), ltB a b = Op.bytesLess a b
  | [], [] => rfl
  | [], _ :: _ => rfl
  | _ :: _, [] => rfl
  | a :: x, b :: y => by
    simp only [ltB, Op.bytesLess]
    cases h : Nat.blt a.toNat b.toNat
    · have h1 : ¬ a < b := by rw [UInt8.lt_iff_toNat_lt, ← Nat.blt_eq, h]; simp
      cases h2 : Nat.beq a.toNat b.toNat
      · have : a ≠ b := fun e => by subst e; simp at h2
        simp [this, h1]
      · have := UInt8.toNat_inj.1 (Nat.eq_of_beq_eq_true h2); subst this
        simp [ltB_eq x y, h1]
    · have h1 : a < b := by rw [UInt8.lt_iff_toNat_lt, ← Nat.blt_eq]; exact h
      simp [h1]
theorem strBin_ok {P : Program} {op : BinOp} {t : TypeId} {a b : ByteArray} {v : Value} (h : strBin op a b = .ok v) : flat v = true ∧ ∀ w, (binOp op t (.string a) (.string b)).run P w = .ok v w := by
  cases op <;> simp only [strBin] at h <;> first
    | (simp at h; subst h; refine ⟨rfl, fun w => ?_⟩; simp [binOp, Op.stringOp, eqB_eq, ltB_eq, bytesL, ByteArray.toList_eq, bne]; done)
    | (simp at h; done)
    | skip
  case add =>
    cases hb : Nat.blt (a.size + b.size) 4294967296 <;> rw [hb] at h <;> simp at h
    subst h
    have hlt : a.size + b.size < 4294967296 := by rw [← Nat.blt_eq]; exact hb
    refine ⟨rfl, fun w => ?_⟩
    have e : (⟨⟨bytesL a ++ bytesL b⟩⟩ : ByteArray) = a ++ b := by
      apply ByteArray.ext
      rw [ByteArray.data_append]
      apply Array.ext'
      simp [bytesL]
    rw [e]
    have : (binOp .add t (.string a) (.string b)) = Op.stringOp .add a b := by simp [binOp]
    rw [this, run_string_add_sum w a b (by omega)]
end Go.Proofs.YtoddlefhlicfiaaGreatDoorR.X

/- The executor's comparisons are the model's. -/
set_option linter.unusedSimpArgs false
namespace Go.Proofs.YtoddlefhlicfiaaGreatDoorR.X
open Go

section
variable {C : Cx} (ok : CxOk C) {σ : Sg} {D : Nat → Prop}

theorem VRel.of_flat {v v' : Value} (h : VRel σ D v v') (hf : X.flat v = true) : v' = v := by
  cases h <;> first | rfl | (simp [X.flat] at hf)
theorem VRel.int {k : IntKind} {n : Int} {v' : Value} (h : VRel σ D (.int k n) v') : v' = .int k n := h.of_flat rfl
theorem VRel.bool {b : Bool} {v' : Value} (h : VRel σ D (.bool b) v') : v' = .bool b := h.of_flat rfl
theorem VRel.string {b : ByteArray} {v' : Value} (h : VRel σ D (.string b) v') : v' = .string b := h.of_flat rfl
theorem VRel.nilI {v' : Value} (h : VRel σ D .nilIface v') : v' = .nilIface := h.of_flat rfl
theorem VRel.nilF {v' : Value} (h : VRel σ D .nilFunc v') : v' = .nilFunc := h.of_flat rfl
theorem VRel.nilP {v' : Value} (h : VRel σ D (.pointer none) v') : v' = .pointer none := h.of_flat rfl
theorem VRel.nilM {v' : Value} (h : VRel σ D (.map none) v') : v' = .map none := h.of_flat rfl
theorem VRel.nilS {l c : Nat} {v' : Value} (h : VRel σ D (.slice none l c) v') : v' = .slice none l c := h.of_flat rfl
theorem VRel.ptr_inv {a : Addr} {v' : Value} (h : VRel σ D (.pointer (some a)) v') : a.spot = none ∧ D a.block ∧ v' = .pointer (some ⟨(σ a.block).blk, a.off, none⟩) := by
  cases h with
  | flat h => simp [X.flat] at h
  | ptr h => exact ⟨rfl, h, rfl⟩
theorem VRel.slice_inv {a : Addr} {l c : Nat} {v' : Value} (h : VRel σ D (.slice (some a) l c) v') : a.spot = none ∧ D a.block ∧
    ((c < UNK ∧ v' = .slice (some ⟨(σ a.block).blk, a.off, none⟩) l c) ∨ (∃ z, c = UNK + z ∧ ∃ c', l ≤ c' ∧ a.off + c' * z ≤ (σ a.block).size ∧ v' = .slice (some ⟨(σ a.block).blk, a.off, none⟩) l c') ∨
      ((c = 0 ∨ ∃ z, c = UNK + z) ∧ l = 0 ∧ ∃ o', v' = .slice (some ⟨(σ a.block).blk, o', none⟩) 0 0)) := by
  cases h with
  | flat h => simp [X.flat] at h
  | slice h hc => exact ⟨rfl, h, .inl ⟨hc, rfl⟩⟩
  | sliceU h h1 h2 => exact ⟨rfl, h, .inr (.inl ⟨_, rfl, _, h1, h2, rfl⟩)⟩
  | sliceE h hc => exact ⟨rfl, h, .inr (.inr ⟨hc, rfl, _, rfl⟩)⟩
theorem VRel.map_inv {r : Nat} {v' : Value} (h : VRel σ D (.map (some r)) v') : D r ∧ v' = .map (some (σ r).blk) := by
  cases h with
  | flat h => simp [X.flat] at h
  | map h => exact ⟨h, rfl⟩
theorem VRel.iface_inv {t : TypeId} {v v' : Value} (h : VRel σ D (.iface t v) v') : ∃ u, v' = .iface t u ∧ VRel σ D v u := by
  cases h with
  | flat h => simp [X.flat] at h
  | iface h => exact ⟨_, rfl, h⟩
theorem VRel.agg_inv {a : Array Value} {v' : Value} (h : VRel σ D (.agg a) v') : ∃ a', v' = .agg a' ∧ LRel σ D a.toList a'.toList := by
  cases h with
  | flat h => simp [X.flat] at h
  | agg h1 h2 => exact ⟨_, rfl, .of_arr h1 h2⟩
theorem VRel.tuple_inv {a : Array Value} {v' : Value} (h : VRel σ D (.tuple a) v') : ∃ a', v' = .tuple a' ∧ LRel σ D a.toList a'.toList := by
  cases h with
  | flat h => simp [X.flat] at h
  | tuple h1 h2 => exact ⟨_, rfl, .of_arr h1 h2⟩
theorem VRel.func_inv {f : FuncId} {a c : Array Value} {v' : Value} (h : VRel σ D (.func (.func f) a c) v') : ∃ a' c', v' = .func (.func f) a' c' ∧ LRel σ D a.toList a'.toList ∧ LRel σ D c.toList c'.toList := by
  cases h with
  | flat h => simp [X.flat] at h
  | func h1 h2 h3 h4 => exact ⟨_, _, rfl, .of_arr h1 h2, .of_arr h3 h4⟩
theorem VRel.yield_inv {l : Nat} {a c : Array Value} {v' : Value} (h : VRel σ D (.func (.yield l) a c) v') : D l ∧ a = #[] ∧ c = #[] ∧ v' = .func (.yield (σ l).blk) #[] #[] := by
  cases h with
  | flat h => simp [X.flat] at h
  | yield h => exact ⟨h, rfl, rfl, rfl⟩
/-- a value's cells -/
theorem VRel.cells {v v' : Value} (h : VRel σ D v v') : LRel σ D (cellsL v) v'.cells.toList := by
  cases h with
  | flat h => cases v <;> first | (simp [X.flat] at h; done) | exact ⟨.flat h, trivial⟩
  | agg h1 h2 => exact .of_arr h1 h2
  | ptr h => exact ⟨.ptr h, trivial⟩
  | slice h h1 => exact ⟨.slice h h1, trivial⟩
  | sliceU h h1 h2 => exact ⟨.sliceU h h1 h2, trivial⟩
  | sliceE h hc => exact ⟨.sliceE h hc, trivial⟩
  | map h => exact ⟨.map h, trivial⟩
  | func h1 h2 h3 h4 => exact ⟨.func h1 h2 h3 h4, trivial⟩
  | yield h => exact ⟨.yield h, trivial⟩
  | iface h => exact ⟨.iface h, trivial⟩
  | tuple h1 h2 => exact ⟨.tuple h1 h2, trivial⟩

theorem LRel.extract {l : List Value} {a : Array Value} {o n : Nat} {r : List Value} (h : LRel σ D l a.toList) (hr : rangeN l o n = .ok r) : LRel σ D r (a.extract o (o + n)).toList := by
  obtain ⟨h1, _⟩ := h.range hr
  simpa [List.extract_eq_take_drop] using h1
theorem getL_eq : ∀ (l : List Value) (i : Nat), getL l i = l[i]?
  | [], _ => by simp [getL]
  | a :: l, 0 => by simp [getL, Nat.beq]
  | a :: l, i + 1 => by
    have : Nat.beq (i + 1) 0 = false := rfl
    simp only [getL, this]
    have e : Nat.sub (i + 1) 1 = i := rfl
    rw [e, getL_eq l i]; simp

include ok
theorem part_ok {t : TypeId} {cs : List Value} {a : Array Value} {off : Nat} {v : Value} (h : partA C t cs off = .ok v) (hl : LRel σ D cs a.toList) :
    ∃ v', VRel σ D v v' ∧ ∀ w, (part t a off).run C.P w = .ok v' w := by
  unfold partA at h
  obtain ⟨g, hg, h⟩ := bnd_ok.1 h
  cases g with
  | true =>
    obtain ⟨n, hn, h⟩ := bnd_ok.1 h
    obtain ⟨r, hr, h⟩ := bnd_ok.1 h
    injection h with h; subst h
    have h1 := hl.extract hr
    refine ⟨.agg (a.extract off (off + n)), ?_, fun w => ?_⟩
    · have := h1.agg; rw [Array.toArray_toList] at this; exact this
    · simp [part, run_isAgg ok hg, run_size ok hn]
  | false =>
    have h := some_ok.1 h
    rw [getL_eq] at h
    obtain ⟨v', h1, h2⟩ := hl.get off v h
    refine ⟨v', h2, fun w => ?_⟩
    have h3 : a[off]? = some v' := by simpa using h1
    simp [part, run_isAgg ok hg, h3]

theorem eqFields_ok (d : Nat) {xs ys : List Value} {a b : Array Value} (hx : LRel σ D xs a.toList) (hy : LRel σ D ys b.toList) (n : Nat)
    (ih : ∀ {t : TypeId} {x y x' y' : Value} {r : Bool}, eqA C d t x y = .ok r → VRel σ D x x' → VRel σ D y y' → ∀ w, (Op.equalIn n t x' y').run C.P w = .ok r w) :
    ∀ (fs : List Field) {r : Bool}, allM (fun (f : Field) => match decide (f.name = "_") with
          | false => M.bnd (partA C f.type xs f.offset) fun a => M.bnd (partA C f.type ys f.offset) fun b => eqA C d f.type a b
          | true => .ok true) fs = .ok r → ∀ w, (Op.eqFields n a b fs).run C.P w = .ok r w
  | [], r, h, w => by simp [allM] at h; subst h; simp [Op.eqFields]
  | f :: fs, r, h, w => by
    simp only [allM] at h
    obtain ⟨q, hq, h⟩ := bnd_ok.1 h
    have key : f.name ≠ "_" → ∃ x' y', (∀ w, (part f.type a f.offset).run C.P w = .ok x' w) ∧ (∀ w, (part f.type b f.offset).run C.P w = .ok y' w) ∧ ∀ w, (Op.equalIn n f.type x' y').run C.P w = .ok q w := fun hne => by
      have : decide (f.name = "_") = false := by simpa using hne
      rw [this] at hq
      obtain ⟨x, hx1, hq⟩ := bnd_ok.1 hq
      obtain ⟨y, hy1, hq⟩ := bnd_ok.1 hq
      obtain ⟨x', hx2, hx3⟩ := part_ok ok hx1 hx
      obtain ⟨y', hy2, hy3⟩ := part_ok ok hy1 hy
      exact ⟨x', y', hx3, hy3, ih hq hx2 hy2⟩
    by_cases hne : f.name = "_"
    · have : decide (f.name = "_") = true := by simpa using hne
      rw [this] at hq
      injection hq with hq; subst hq
      simp only [Op.eqFields, hne, ne_eq, not_true_eq_false, if_false]
      exact eqFields_ok d hx hy n ih fs h w
    · obtain ⟨x', y', k1, k2, k3⟩ := key hne
      simp only [Op.eqFields, ne_eq, hne, not_false_eq_true, if_true, Sem.run_bind, k1, k2, k3, Result.andThen_ok]
      cases q with
      | false => simp at h; subst h; simp
      | true =>
        have h' := eqFields_ok d hx hy n ih fs h w
        simpa using h'
theorem eqItems_ok (d : Nat) {xs ys : List Value} {a b : Array Value} (hx : LRel σ D xs a.toList) (hy : LRel σ D ys b.toList) (n z : Nat) (e : TypeId)
    (ih : ∀ {t : TypeId} {x y x' y' : Value} {r : Bool}, eqA C d t x y = .ok r → VRel σ D x x' → VRel σ D y y' → ∀ w, (Op.equalIn n t x' y').run C.P w = .ok r w) :
    ∀ (is : List Nat) {r : Bool}, allM (fun (i : Nat) => M.bnd (partA C e xs (i * z)) fun a => M.bnd (partA C e ys (i * z)) fun b => eqA C d e a b) is = .ok r → ∀ w, (Op.eqItems n e z a b is).run C.P w = .ok r w
  | [], r, h, w => by simp [allM] at h; subst h; simp [Op.eqItems]
  | f :: fs, r, h, w => by
    simp only [allM] at h
    obtain ⟨q, hq, h⟩ := bnd_ok.1 h
    obtain ⟨x, hx1, hq⟩ := bnd_ok.1 hq
    obtain ⟨y, hy1, hq⟩ := bnd_ok.1 hq
    obtain ⟨x', hx2, hx3⟩ := part_ok ok hx1 hx
    obtain ⟨y', hy2, hy3⟩ := part_ok ok hy1 hy
    have k3 := ih hq hx2 hy2
    simp only [Op.eqItems, Sem.run_bind, hx3, hy3, k3, Result.andThen_ok]
    cases q with
    | false => simp at h; subst h; simp
    | true => simp at h; simpa using eqItems_ok d hx hy n z e ih fs h w

set_option maxHeartbeats 4000000 in
theorem eq_ok : ∀ (d : Nat) {t : TypeId} {x y x' y' : Value} {r : Bool}, eqA C d t x y = .ok r → VRel σ D x x' → VRel σ D y y' → ∀ n, d ≤ n → ∀ w, (Op.equalIn n t x' y').run C.P w = .ok r w
  | 0, _, _, _, _, _, _, h, _, _, _, _, _ => by simp [eqA] at h
  | d + 1, t, x, y, x', y', r, h, hx, hy, n, hn, w => by
    obtain ⟨n, rfl⟩ : ∃ m, n = m + 1 := ⟨n - 1, by omega⟩
    have ih := fun {t : TypeId} {x y x' y' : Value} {r : Bool} (h : eqA C d t x y = .ok r) (hx : VRel σ D x x') (hy : VRel σ D y y') => eq_ok d h hx hy n (by omega)
    unfold eqA at h
    obtain ⟨u, hu, h⟩ := bnd_ok.1 h
    have hr := run_und ok hu
    have hP := und_ok ok hu
    clear hu
    cases u <;> simp only [] at h <;> try (simp at h; done)
    case bool =>
      cases x with
      | bool a =>
        cases y with
        | bool b =>
          simp at h; subst h
          rw [hx.bool, hy.bool]
          simp [Op.equalIn, hr]
        | _ => simp at h
      | _ => simp at h
    case int =>
      cases x with
      | int k a =>
        cases y with
        | int j b =>
          by_cases e : k = j
          · subst e; simp at h; subst h
            rw [hx.int, hy.int]
            simp [Op.equalIn, hr, eqI_eq]
          · simp [e] at h
        | _ => simp at h
      | _ => simp at h
    case string =>
      cases x with
      | string a =>
        cases y with
        | string b =>
          simp at h; subst h
          rw [hx.string, hy.string]
          simp [Op.equalIn, hr, beq_toListBytes, eqB_eq, bytesL, ByteArray.toList_eq]
        | _ => simp at h
      | _ => simp at h
    case pointer e =>
      cases x with
      | pointer a =>
        cases y with
        | pointer b =>
          cases a with
          | none =>
            simp at h; subst h
            rw [hx.nilP]
            cases b with
            | none => rw [hy.nilP]; simp [Op.equalIn, hr]
            | some b => rw [hy.ptr_inv.2.2]; simp [Op.equalIn, hr]
          | some a =>
            cases b with
            | none => simp at h; subst h; rw [hx.ptr_inv.2.2, hy.nilP]; simp [Op.equalIn, hr]
            | some b =>
              simp only [] at h
              obtain ⟨z, hz, h⟩ := bnd_ok.1 h
              cases hz0 : Nat.beq z 0 with
              | true => rw [hz0] at h; simp at h
              | false =>
                rw [hz0] at h
                have hz1 : z ≠ 0 := fun e => by subst e; simp [Nat.beq] at hz0
                cases hs : (Nat.beq a.block b.block && a.spot.isNone && b.spot.isNone) with
                | false => simp only [hs] at h; simp at h
                | true =>
                  simp only [hs] at h
                  simp only [Bool.and_eq_true, beq_nat, decide_eq_true_eq] at hs
                  injection h with h; subst h
                  rw [hx.ptr_inv.2.2, hy.ptr_inv.2.2]
                  simp only [Op.equalIn, Sem.run_bind, hr, Result.andThen_ok, run_size ok hz, ne_eq, hz1, not_false_eq_true, if_true, sameAddr, hs.1.1, beq_self_eq_true, Sem.run_pure]
                  rw [beq_nat]
                  congr 1
                  rw [Bool.eq_iff_iff]
                  simp
        | _ => cases a <;> simp at h
      | _ => simp at h
    case interface =>
      cases x with
      | iface tx vx =>
        obtain ⟨u1, rfl, hx1⟩ := hx.iface_inv
        cases y with
        | iface ty vy =>
          obtain ⟨u2, rfl, hy1⟩ := hy.iface_inv
          simp only [beq_nat] at h
          by_cases e : tx = ty
          · subst e
            simp only [decide_true] at h
            obtain ⟨i, hi, h⟩ := bnd_ok.1 h
            cases hc : i.comparable with
            | false => rw [hc] at h; simp at h
            | true =>
              rw [hc] at h
              have := ih h hx1 hy1 w
              simp [Op.equalIn, hr, run_info ok hi, hc, this]
          · simp [e] at h; subst h
            simp [Op.equalIn, hr, e]
        | nilIface => simp at h; subst h; rw [hy.nilI]; simp [Op.equalIn, hr]
        | _ => simp at h
      | nilIface =>
        rw [hx.nilI]
        cases y with
        | iface ty vy => obtain ⟨u2, rfl, hy1⟩ := hy.iface_inv; simp at h; subst h; simp [Op.equalIn, hr]
        | nilIface => simp at h; subst h; rw [hy.nilI]; simp [Op.equalIn, hr]
        | _ => simp at h
      | _ => simp at h
    case struct fields =>
      cases x with
      | agg xs =>
        cases y with
        | agg ys =>
          obtain ⟨a, rfl, hx1⟩ := hx.agg_inv
          obtain ⟨b, rfl, hy1⟩ := hy.agg_inv
          simp only [] at h
          cases hs : C.P.stoodInHeld t with
          | true => rw [hs] at h; simp at h
          | false =>
            rw [hs] at h
            have hf : C.P.fieldsOf t = fields := by simp [Program.fieldsOf, hP]
            rw [run_equalIn_struct w n t a b (by rw [hf]; exact hP) hs, hf]
            exact eqFields_ok ok d hx1 hy1 n ih fields.toList h w
        | _ => simp at h
      | _ => simp at h
    case array len e =>
      cases x with
      | agg xs =>
        cases y with
        | agg ys =>
          obtain ⟨a, rfl, hx1⟩ := hx.agg_inv
          obtain ⟨b, rfl, hy1⟩ := hy.agg_inv
          simp only [] at h
          obtain ⟨z, hz, h⟩ := bnd_ok.1 h
          obtain ⟨i, hi, hz1⟩ := szOf_ok ok hz
          have hzc : C.P.cellsOf e = z := by simp [Program.cellsOf, hi, hz1]
          rw [run_equalIn_array w n a b hP hi, hzc]
          exact eqItems_ok ok d hx1 hy1 n z e ih (List.range len) h w
        | _ => simp at h
      | _ => simp at h
    case slice e =>
      cases x with
      | slice a l c =>
        cases y with
        | slice b l' c' =>
          cases a with
          | none =>
            simp at h; subst h
            rw [hx.nilS]
            cases b with
            | none => rw [hy.nilS]; simp [Op.equalIn, hr]
            | some b =>
              obtain ⟨_, _, (⟨_, rfl⟩ | ⟨_, _, _, _, _, rfl⟩ | ⟨_, _, _, rfl⟩)⟩ := hy.slice_inv <;> simp [Op.equalIn, hr]
          | some a =>
            cases b with
            | none =>
              simp at h; subst h; rw [hy.nilS]
              obtain ⟨_, _, (⟨_, rfl⟩ | ⟨_, _, _, _, _, rfl⟩ | ⟨_, _, _, rfl⟩)⟩ := hx.slice_inv <;> simp [Op.equalIn, hr]
            | some b => simp at h
        | _ => cases a <;> simp at h
      | _ => simp at h
    case map k e =>
      cases x with
      | map a =>
        cases y with
        | map b =>
          cases a with
          | none =>
            simp at h; subst h
            rw [hx.nilM]
            cases b with
            | none => rw [hy.nilM]; simp [Op.equalIn, hr]
            | some b => rw [hy.map_inv.2]; simp [Op.equalIn, hr]
          | some a =>
            cases b with
            | none => simp at h; subst h; rw [hx.map_inv.2, hy.nilM]; simp [Op.equalIn, hr]
            | some b => simp at h
        | _ => cases a <;> simp at h
      | _ => simp at h
    case func =>
      cases x with
      | func f a c =>
        cases y with
        | nilFunc =>
          simp at h; subst h
          rw [hy.nilF]
          cases hx with
          | flat h => simp [X.flat] at h
          | func => simp [Op.equalIn, hr]
          | yield => simp [Op.equalIn, hr]
        | _ => simp at h
      | nilFunc =>
        rw [hx.nilF]
        cases y with
        | func f a c =>
          simp at h; subst h
          cases hy with
          | flat h => simp [X.flat] at h
          | func => simp [Op.equalIn, hr]
          | yield => simp [Op.equalIn, hr]
        | nilFunc => simp at h; subst h; rw [hy.nilF]; simp [Op.equalIn, hr]
        | _ => simp at h
      | _ => simp at h
end
end Go.Proofs.YtoddlefhlicfiaaGreatDoorR.X

/- The executor's operations that touch no memory are the model's. -/
set_option linter.unusedSimpArgs false
set_option linter.unusedVariables false
namespace Go.Proofs.YtoddlefhlicfiaaGreatDoorR.X
open Go

section
variable {C : Cx} (ok : CxOk C) {σ : Sg} {D : Nat → Prop}

/-- what the operands read as -/
def ERel (σ : Sg) (D : Nat → Prop) (ρ : Operand → M Value) (a : Act) : Prop := ∀ x v, ρ x = .ok v → VRel σ D v (a.eval x)
theorem TRel.erel {G : Nat} {t : Tm} {a : Act} (h : TRel σ D t a.tmps) (hg : ∀ g, g < G → D g ∧ (σ g).blk = g) : ERel σ D (evalA G t) a := by
  intro x v hx
  cases x with
  | tmp i =>
    obtain ⟨v', h1, h2⟩ := h i v (some_ok.1 hx)
    simp only [Act.eval, Array.getD_eq_getD_getElem?, h1, Option.getD_some]; exact h2
  | const c => obtain ⟨rfl, h1⟩ := constA_ok hx; exact .flat h1
  | global g =>
    simp only [evalA] at hx
    split at hx
    · rename_i hb
      rw [blt_nat] at hb
      simp only [decide_eq_true_eq] at hb
      obtain ⟨h1, h2⟩ := hg g hb
      simp at hx; subst hx
      have := VRel.ptr (σ := σ) (b := g) (o := 0) h1
      rw [h2] at this; exact this
    · cases hx
  | func f => simp [evalA] at hx; subst hx; exact .func rfl (fun i v v' h => by simp at h) rfl (fun i v v' h => by simp at h)

theorem mapM_ok {α β : Type} {f : α → M β} : ∀ {l : List α} {r : List β}, mapM' f l = .ok r → r.length = l.length ∧ ∀ (i : Nat) (x : α), l[i]? = some x → ∃ y, r[i]? = some y ∧ f x = .ok y
  | [], r, h => by simp [mapM'] at h; subst h; simp
  | a :: l, r, h => by
    simp only [mapM'] at h
    obtain ⟨b, hb, h⟩ := bnd_ok.1 h
    obtain ⟨r1, hr, h⟩ := bnd_ok.1 h
    injection h with h; subst h
    obtain ⟨h1, h2⟩ := mapM_ok hr
    refine ⟨by simp [h1], fun i x hx => ?_⟩
    cases i with
    | zero => simp at hx; subst hx; exact ⟨b, by simp, hb⟩
    | succ i => simp at hx; obtain ⟨y, h3, h4⟩ := h2 i x hx; exact ⟨y, by simpa using h3, h4⟩
theorem args_ok {ρ : Operand → M Value} {a : Act} (he : ERel σ D ρ a) : ∀ {l : List Operand} {r : List Value}, mapM' ρ l = .ok r → LRel σ D r (l.map a.eval)
  | [], r, h => by simp [mapM'] at h; subst h; exact trivial
  | x :: l, r, h => by
    simp only [mapM'] at h
    obtain ⟨b, hb, h⟩ := bnd_ok.1 h
    obtain ⟨r1, hr, h⟩ := bnd_ok.1 h
    injection h with h; subst h
    exact ⟨he x b hb, args_ok he hr⟩

theorem zero_rel {v : Value} (h : flatZ v = true) : VRel σ D v v := by
  unfold flatZ at h
  split at h
  · refine .agg rfl (fun i v v' h1 h2 => ?_)
    rw [h1] at h2; injection h2 with h2; subst h2
    simp only [List.all_eq_true] at h
    exact .flat (h v (by have := Array.mem_of_getElem? h1; simpa using this))
  · exact .flat h
theorem zero_cells {v : Value} (h : flatZ v = true) : LRel σ D (cellsL v) v.cells.toList := (zero_rel h).cells

theorem addr_add (b o n : Nat) : (Addr.add ⟨b, o, none⟩ n) = ⟨b, o + n, none⟩ := by
  unfold Addr.add; split
  · subst_vars; rfl
  · rfl

/-- cells laid over, as the model lays them -/
theorem foldset : ∀ (vs : List Value) (k off : Nat) (cs : Array Value), off + k + vs.length ≤ cs.size →
    ((vs.zipIdx k).foldl (fun (cs : Array Value) (x : Value × Nat) => cs.setIfInBounds (off + x.2) x.1) cs).toList = cs.toList.take (off + k) ++ vs ++ cs.toList.drop (off + k + vs.length)
  | [], k, off, cs, h => by simp
  | v :: vs, k, off, cs, h => by
    simp only [List.length_cons] at h
    have ih := foldset vs (k + 1) off (cs.setIfInBounds (off + k) v) (by simp; omega)
    simp only [List.zipIdx_cons, List.foldl_cons, ih, Array.toList_setIfInBounds]
    have e1 : (cs.toList.set (off + k) v).take (off + (k + 1)) = cs.toList.take (off + k) ++ [v] := by
      rw [← Nat.add_assoc, List.take_add_one]
      simp only [List.take_set_of_le (Nat.le_refl _), List.getElem?_set_self (show off + k < cs.toList.length by simp; omega)]
      simp
    have e2 : (cs.toList.set (off + k) v).drop (off + (k + 1) + vs.length) = cs.toList.drop (off + k + (vs.length + 1)) := by
      rw [List.drop_set_of_lt (by omega)]; congr 1; omega
    rw [e1, e2]; simp
theorem fill_ok {pl : List (Nat × Nat)} {place : Nat → M (Nat × Nat)} {place' : Nat → Option (Nat × Nat)} (hp : ∀ i x, place i = .ok x → place' i = some x) :
    ∀ {ps : List (Nat × Value)} {ps' : List (Nat × Value)} {cells : List Value} {cs : Array Value} {l : List Value},
    (ps.map (·.1) = ps'.map (·.1)) → LRel σ D (ps.map (·.2)) (ps'.map (·.2)) → LRel σ D cells cs.toList → fillL place cells ps = .ok l → ∃ cs', Instr.fill place' cs ps' = some cs' ∧ LRel σ D l cs'.toList
  | [], [], cells, cs, l, _, _, hc, h => by simp [fillL] at h; subst h; exact ⟨cs, rfl, hc⟩
  | [], _ :: _, _, _, _, he, _, _, _ => by simp at he
  | _ :: _, [], _, _, _, he, _, _, _ => by simp at he
  | (i, v) :: ps, (i', v') :: ps', cells, cs, l, he, hv, hc, h => by
    simp only [List.map_cons, List.cons.injEq] at he
    obtain ⟨rfl, he⟩ := he
    simp only [fillL] at h
    obtain ⟨⟨off, size⟩, h1, h⟩ := bnd_ok.1 h
    simp only [] at h
    cases hb : Nat.beq (cellsL v).length size with
    | false => rw [hb] at h; simp at h
    | true =>
      rw [hb] at h
      simp only [] at h
      obtain ⟨l1, h2, h⟩ := bnd_ok.1 h
      have hvc := hv.1.cells
      have hl := hvc.len
      have hsz : v'.cells.size = size := by
        have := Nat.eq_of_beq_eq_true hb
        simp at hl; omega
      obtain ⟨h3, h4, h5⟩ := PRel.splice (by simpa using hc.pre []) hvc (some_ok.1 h2)
      simp at h4
      have hlen := hc.len
      have hle : off + v'.cells.size ≤ cs.size := by simpa using h4
      have hnew : LRel σ D l1 (v'.cells.zipIdx.foldl (fun (cs : Array Value) (x : Value × Nat) => cs.setIfInBounds (off + x.2) x.1) cs).toList := by
        have := foldset v'.cells.toList 0 off cs (by simpa using hle)
        rw [← Array.foldl_toList, Array.toList_zipIdx]
        rw [this]
        simp only [Nat.add_zero]
        refine LRel.of_get ?_ ?_
        · rw [h5, hlen]; simp; omega
        · intro j x x' hj hj'
          obtain ⟨x2, hx2, hr⟩ := h3.get j x (by rw [getL_eq]; exact hj)
          rw [hj'] at hx2; injection hx2 with hx2; exact hx2 ▸ hr
      obtain ⟨cs', h6, h7⟩ := fill_ok (pl := pl) hp he hv.2 hnew h
      refine ⟨cs', ?_, h7⟩
      simp only [Instr.fill, hp _ _ h1, hsz]
      have hng : ¬ (off + size > cs.size) := by omega
      simp only [ne_eq, not_true_eq_false, decide_false, Bool.false_or, decide_eq_true_eq, hng, if_false]
      exact h6

theorem parts_ok {ρ : Operand → M Value} {a : Act} (he : ERel σ D ρ a) : ∀ {l : List (Nat × Operand)} {r : List (Nat × Value)}, partsA ρ l = .ok r →
    r.map (·.1) = (l.map fun (x : Nat × Operand) => (x.1, a.eval x.2)).map (·.1) ∧ LRel σ D (r.map (·.2)) ((l.map fun (x : Nat × Operand) => (x.1, a.eval x.2)).map (·.2))
  | [], r, h => by simp [partsA, mapM'] at h; subst h; exact ⟨rfl, trivial⟩
  | (i, x) :: l, r, h => by
    simp only [partsA, mapM'] at h
    obtain ⟨b, hb, h⟩ := bnd_ok.1 h
    obtain ⟨r1, hr, h⟩ := bnd_ok.1 h
    injection h with h; subst h
    obtain ⟨v, hv, hb⟩ := bnd_ok.1 hb
    injection hb with hb; subst hb
    obtain ⟨h1, h2⟩ := parts_ok he (l := l) hr
    exact ⟨by simp at h1 ⊢; exact h1, ⟨he x v hv, h2⟩⟩
end
end Go.Proofs.YtoddlefhlicfiaaGreatDoorR.X
