/- The executor, part E: its texts one behind the other (see each head). No statement of the seat stands here. -/
import Derived.Test.YtoddlefhlicfiaaGreatDoorRXA
set_option linter.unusedVariables false
set_option linter.unusedSimpArgs false
/- The executor, made for the kernel: what hangs on the code alone is reckoned once, what comes is handed on. No statement stands here. -/
namespace Go.Proofs.YtoddlefhlicfiaaGreatDoorR.X
open Go

noncomputable section
/-- the one or the other -/
structure G8 (α : Type) where
  run : T8 α → α
def g8 {α : Type} : Nat → G8 α
  | 0 => ⟨fun t => @T8.rec α (fun _ => α) (fun x _ _ _ _ _ _ _ => x) t⟩
  | 1 => ⟨fun t => @T8.rec α (fun _ => α) (fun _ x _ _ _ _ _ _ => x) t⟩
  | 2 => ⟨fun t => @T8.rec α (fun _ => α) (fun _ _ x _ _ _ _ _ => x) t⟩
  | 3 => ⟨fun t => @T8.rec α (fun _ => α) (fun _ _ _ x _ _ _ _ => x) t⟩
  | 4 => ⟨fun t => @T8.rec α (fun _ => α) (fun _ _ _ _ x _ _ _ => x) t⟩
  | 5 => ⟨fun t => @T8.rec α (fun _ => α) (fun _ _ _ _ _ x _ _ => x) t⟩
  | 6 => ⟨fun t => @T8.rec α (fun _ => α) (fun _ _ _ _ _ _ x _ => x) t⟩
  | _ => ⟨fun t => @T8.rec α (fun _ => α) (fun _ _ _ _ _ _ _ x => x) t⟩
/-- a part, and what stands around it -/
structure P8 (α : Type) where
  run : (β : Type) → T8 α → (α → (α → T8 α) → β) → β
def p8 {α : Type} : Nat → P8 α
  | 0 => ⟨fun β t z => @T8.rec α (fun _ => β) (fun a b c d e f g h => z a fun x => ⟨x, b, c, d, e, f, g, h⟩) t⟩
  | 1 => ⟨fun β t z => @T8.rec α (fun _ => β) (fun a b c d e f g h => z b fun x => ⟨a, x, c, d, e, f, g, h⟩) t⟩
  | 2 => ⟨fun β t z => @T8.rec α (fun _ => β) (fun a b c d e f g h => z c fun x => ⟨a, b, x, d, e, f, g, h⟩) t⟩
  | 3 => ⟨fun β t z => @T8.rec α (fun _ => β) (fun a b c d e f g h => z d fun x => ⟨a, b, c, x, e, f, g, h⟩) t⟩
  | 4 => ⟨fun β t z => @T8.rec α (fun _ => β) (fun a b c d e f g h => z e fun x => ⟨a, b, c, d, x, f, g, h⟩) t⟩
  | 5 => ⟨fun β t z => @T8.rec α (fun _ => β) (fun a b c d e f g h => z f fun x => ⟨a, b, c, d, e, x, g, h⟩) t⟩
  | 6 => ⟨fun β t z => @T8.rec α (fun _ => β) (fun a b c d e f g h => z g fun x => ⟨a, b, c, d, e, f, x, h⟩) t⟩
  | _ => ⟨fun β t z => @T8.rec α (fun _ => β) (fun a b c d e f g h => z h fun x => ⟨a, b, c, d, e, f, g, x⟩) t⟩
/-- where there is a value, go on -/
def oK {α β : Type} (o : Option α) (k : α → M β) : M β := @Option.rec α (fun _ => M β) (.error "") (fun x => k x) o
structure RdK where
  run : (α : Type) → Tm → (Value → M α) → M α
def tmpK (i : Nat) : RdK := match Nat.blt i 512 with
  | true => match g8 (Nat.mod i 8), g8 (Nat.mod (Nat.div i 8) 8), g8 (Nat.div i 64) with
    | ⟨f⟩, ⟨g⟩, ⟨h⟩ => ⟨fun α t k => @Option.rec Value (fun _ => M α) (.error "") (fun x => k x) (h (g (f t)))⟩
  | false => ⟨fun _ _ _ => .error ""⟩
structure PtK where
  run : (α : Type) → Tm → Value → (Tm → M α) → M α
/-- a temporary's new value -/
def putK (i : Nat) : PtK := match Nat.blt i 512 with
  | true => match p8 (Nat.mod i 8), p8 (Nat.mod (Nat.div i 8) 8), p8 (Nat.div i 64) with
    | ⟨f⟩, ⟨g⟩, ⟨h⟩ => ⟨fun α t v k => f (M α) t fun t1 z1 => g (M α) t1 fun t2 z2 => h (M α) t2 fun o z3 => @Option.rec Value (fun _ => M α) (.error "") (fun _ => k (z1 (z2 (z3 (some v))))) o⟩
  | false => ⟨fun _ _ _ _ => .error ""⟩
def dstK (dst : Option Tmp) : PtK := match dst with
  | some d => putK d
  | none => ⟨fun _ t _ k => k t⟩

/- memory -/
/-- a part, by its digit -/
def get8 {α : Type} (t : T8 α) (d : Nat) : α := @T8.rec α (fun _ => α) (fun a b c e f g h i =>
  @Bool.rec (fun _ => _) ((@Bool.rec (fun _ => _) ((@Bool.rec (fun _ => _) (a) (b) (Nat.ble 1 d))) ((@Bool.rec (fun _ => _) (c) (e) (Nat.ble 3 d))) (Nat.ble 2 d))) ((@Bool.rec (fun _ => _) ((@Bool.rec (fun _ => _) (f) (g) (Nat.ble 5 d))) ((@Bool.rec (fun _ => _) (h) (i) (Nat.ble 7 d))) (Nat.ble 6 d))) (Nat.ble 4 d)) t
def set8 {α : Type} (t : T8 α) (x : α) (d : Nat) : T8 α := @T8.rec α (fun _ => T8 α) (fun a b c e f g h i =>
  @Bool.rec (fun _ => _) ((@Bool.rec (fun _ => _) ((@Bool.rec (fun _ => _) (⟨x, b, c, e, f, g, h, i⟩) (⟨a, x, c, e, f, g, h, i⟩) (Nat.ble 1 d))) ((@Bool.rec (fun _ => _) (⟨a, b, x, e, f, g, h, i⟩) (⟨a, b, c, x, f, g, h, i⟩) (Nat.ble 3 d))) (Nat.ble 2 d))) ((@Bool.rec (fun _ => _) ((@Bool.rec (fun _ => _) (⟨a, b, c, e, x, g, h, i⟩) (⟨a, b, c, e, f, x, h, i⟩) (Nat.ble 5 d))) ((@Bool.rec (fun _ => _) (⟨a, b, c, e, f, g, x, i⟩) (⟨a, b, c, e, f, g, h, x⟩) (Nat.ble 7 d))) (Nat.ble 6 d))) (Nat.ble 4 d)) t
def heapK {β : Type} (i : Nat) (h : Tr AO) (k : AO → M β) : M β := @Bool.rec (fun _ => _) (@Option.rec AO (fun _ => M β) (.error "") (fun o => k o) (get8 (get8 (get8 (get8 (get8 (get8 h (Nat.mod i 8)) (Nat.mod (Nat.div i 8) 8)) (Nat.mod (Nat.div i 64) 8)) (Nat.mod (Nat.div i 512) 8)) (Nat.mod (Nat.div i 4096) 8)) (Nat.div i 32768))) (.error "") (Nat.ble 262144 i)
def lay6 (t : T8 (Option AO)) (i : Nat) (x : AO) : T8 (Option AO) := set8 t (some x) (Nat.div i 32768)
def lay5 (t : T8 (T8 (Option AO))) (i : Nat) (x : AO) : T8 (T8 (Option AO)) := set8 t (lay6 (get8 t (Nat.mod (Nat.div i 4096) 8)) i x) (Nat.mod (Nat.div i 4096) 8)
def lay4 (t : T8 (T8 (T8 (Option AO)))) (i : Nat) (x : AO) : T8 (T8 (T8 (Option AO))) := set8 t (lay5 (get8 t (Nat.mod (Nat.div i 512) 8)) i x) (Nat.mod (Nat.div i 512) 8)
def lay3 (t : T8 (T8 (T8 (T8 (Option AO))))) (i : Nat) (x : AO) : T8 (T8 (T8 (T8 (Option AO)))) := set8 t (lay4 (get8 t (Nat.mod (Nat.div i 64) 8)) i x) (Nat.mod (Nat.div i 64) 8)
def lay2 (t : T8 (T8 (T8 (T8 (T8 (Option AO)))))) (i : Nat) (x : AO) : T8 (T8 (T8 (T8 (T8 (Option AO))))) := set8 t (lay3 (get8 t (Nat.mod (Nat.div i 8) 8)) i x) (Nat.mod (Nat.div i 8) 8)
def heapLay (t : Tr AO) (i : Nat) (x : AO) : Tr AO := set8 t (lay2 (get8 t (Nat.mod i 8)) i x) (Nat.mod i 8)
/-- a block's cells -/
def rdK {β : Type} (s : St) (b : Nat) (k : List Value → TypeId → Bool → Bool → M β) : M β := @St.rec (fun _ => M β) (fun h _ => heapK b h fun o => match o with
  | .cells c e g w => k c e g w
  | _ => .error "") s
/-- one more block -/
def newK {β : Type} (s : St) (o : AO) (k : Nat → St → M β) : M β := @St.rec (fun _ => M β) (fun h nx => @Bool.rec (fun _ => _) (k nx { h := heapLay h nx o, nx := Nat.succ nx }) (.error "") (Nat.ble 262144 nx)) s
/-- a block turned, which is there -/
def layK {β : Type} (s : St) (b : Nat) (o : AO) (k : St → M β) : M β := @St.rec (fun _ => M β) (fun h nx => k { h := heapLay h b o, nx := nx }) s
def cellK {β : Type} (l : List Value) : Nat → (Value → M β) → M β := @List.rec Value (fun _ => Nat → (Value → M β) → M β) (fun _ _ => .error "") (fun a _ ih i k => @Nat.rec (fun _ => M β) (k a) (fun j _ => ih j k) i) l

/- operands -/
def opdK (G : Nat) (x : Operand) : RdK := match x with
  | .tmp i => tmpK i
  | .const v => match flat v with
    | true => ⟨fun _ _ k => k v⟩
    | false => ⟨fun _ _ _ => .error ""⟩
  | .global g => match Nat.blt g G with
    | true => ⟨fun _ _ k => k (.pointer (some ⟨g, 0, none⟩))⟩
    | false => ⟨fun _ _ _ => .error ""⟩
  | .func f => ⟨fun _ _ k => k (.func (.func f) #[] #[])⟩
structure RdsK where
  run : (α : Type) → Tm → (List Value → M α) → M α
def opdsK (G : Nat) : List Operand → RdsK
  | [] => ⟨fun _ _ k => k []⟩
  | x :: l => ⟨fun α t k => (opdK G x).run α t fun v => (opdsK G l).run α t fun vs => k (v :: vs)⟩
structure PrsK where
  run : (α : Type) → Tm → (List (Nat × Value) → M α) → M α
def partsK (G : Nat) : List (Nat × Operand) → PrsK
  | [] => ⟨fun _ _ k => k []⟩
  | (i, x) :: l => ⟨fun α t k => (opdK G x).run α t fun v => (partsK G l).run α t fun vs => k ((i, v) :: vs)⟩
structure OptK where
  run : (α : Type) → Tm → (Option Value → M α) → M α
def optK (G : Nat) : Option Operand → OptK
  | none => ⟨fun _ _ k => k none⟩
  | some x => ⟨fun α t k => (opdK G x).run α t fun v => k (some v)⟩

/- values -/
def ptrK {β : Type} (v : Value) (k : Nat → Nat → M β) : M β := match v with
  | .pointer p => match p with
    | some a => match a with
      | ⟨b, o, sp⟩ => match sp with
        | none => k b o
        | some _ => .error ""
    | none => .error ""
  | _ => .error ""
def intV {β : Type} (v : Value) (k : IntKind → Int → M β) : M β := match v with
  | .int kd n => k kd n
  | _ => .error ""
def natV {β : Type} (v : Value) (k : Nat → M β) : M β := match v with
  | .int _ n => match n with
    | .ofNat m => k m
    | .negSucc _ => .error ""
  | _ => .error ""
def boolV {β : Type} (v : Value) (x y : M β) : M β := match v with
  | .bool b => match b with
    | true => x
    | false => y
  | _ => .error ""
def aggV {β : Type} (v : Value) (k : List Value → M β) : M β := match v with
  | .agg cs => k cs.toList
  | _ => .error ""
def tupV {β : Type} (v : Value) (k : List Value → M β) : M β := match v with
  | .tuple cs => k cs.toList
  | _ => .error ""
def sliceV {β : Type} (v : Value) (k : Nat → Nat → Nat → M β) : M β := match v with
  | .slice p l _ => match p with
    | some a => match a with
      | ⟨b, o, sp⟩ => match sp with
        | none => k b o l
        | some _ => .error ""
    | none => .error ""
  | _ => .error ""

/- whole numbers -/
structure IK where
  run : (α : Type) → IntKind → IntKind → Int → Int → (Value → M α) → M α
def addK {β : Type} (a b : Int) (k : Int → M β) : M β := match a with
  | .ofNat m => match b with
    | .ofNat n => k (.ofNat (Nat.add m n))
    | .negSucc n => k (Int.subNatNat m (Nat.succ n))
  | .negSucc m => k (Int.add (.negSucc m) b)
def subK {β : Type} (a b : Int) (k : Int → M β) : M β := match a with
  | .ofNat m => match b with
    | .ofNat n => match Nat.ble n m with
      | true => k (.ofNat (Nat.sub m n))
      | false => k (Int.sub (.ofNat m) (.ofNat n))
    | .negSucc n => k (.ofNat (Nat.add m (Nat.succ n)))
  | .negSucc m => k (Int.sub (.negSucc m) b)
def mulK {β : Type} (a b : Int) (k : Int → M β) : M β := match a with
  | .ofNat m => match b with
    | .ofNat n => k (.ofNat (Nat.mul m n))
    | .negSucc n => k (Int.mul (.ofNat m) (.negSucc n))
  | .negSucc m => k (Int.mul (.negSucc m) b)
/-- the number as the kind holds it -/
structure WK where
  run : (α : Type) → Int → (Value → M α) → M α
def wrapK (kd : IntKind) : WK := match kd with
  | .i64 => ⟨fun _ n k => match n with
    | .ofNat m => match Nat.blt m 9223372036854775808 with
      | true => k (.int .i64 (.ofNat m))
      | false => k (.int .i64 (IntKind.i64.wrap (.ofNat m)))
    | .negSucc m => match Nat.blt m 9223372036854775808 with
      | true => k (.int .i64 (.negSucc m))
      | false => k (.int .i64 (IntKind.i64.wrap (.negSucc m)))⟩
  | .u8 => ⟨fun _ n k => match n with
    | .ofNat m => k (.int .u8 (.ofNat (Nat.mod m 256)))
    | .negSucc m => k (.int .u8 (IntKind.u8.wrap (.negSucc m)))⟩
  | .u32 => ⟨fun _ n k => match n with
    | .ofNat m => k (.int .u32 (.ofNat (Nat.mod m 4294967296)))
    | .negSucc m => k (.int .u32 (IntKind.u32.wrap (.negSucc m)))⟩
  | .u64 => ⟨fun _ n k => match n with
    | .ofNat m => k (.int .u64 (.ofNat (Nat.mod m 18446744073709551616)))
    | .negSucc m => k (.int .u64 (IntKind.u64.wrap (.negSucc m)))⟩
  | kd => ⟨fun _ n k => k (.int kd (wrapF kd n))⟩
/-- are both of a kind -/
def kinds2 {β : Type} (k j : IntKind) (x : M β) : M β := match k with
  | .i64 => match j with
    | .i64 => x
    | _ => .error ""
  | .u8 => match j with
    | .u8 => x
    | _ => .error ""
  | .u32 => match j with
    | .u32 => x
    | _ => .error ""
  | .u64 => match j with
    | .u64 => x
    | _ => .error ""
  | k => match decide (k = j) with
    | true => x
    | false => .error ""
def wrapD {β : Type} (kd : IntKind) (n : Int) (k : Value → M β) : M β := (wrapK kd).run β n k
/-- below this a number of the kind is its own bits -/
def limK (k : IntKind) : Nat := match k with
  | .u8 => 256
  | .u32 => 4294967296
  | .u64 => 18446744073709551616
  | .i64 => 9223372036854775808
  | _ => 0
/-- the same for the kinds without a sign; the second: the number of bits -/
def limU (k : IntKind) : Nat := match k with
  | .u8 => 256
  | .u32 => 4294967296
  | .u64 => 18446744073709551616
  | _ => 0
def widU (k : IntKind) : Nat := match k with
  | .u8 => 8
  | .u32 => 32
  | .u64 => 64
  | _ => 0
def bitsK {β : Type} (k : IntKind) (f : Nat → Nat → Nat) (a b : Int) (c : Value → M β) (slow : M β) : M β := match a with
  | .ofNat m => match b with
    | .ofNat n => @Bool.rec (fun _ => _) (slow) ((@Bool.rec (fun _ => _) (slow) (c (.int k (.ofNat (f m n)))) (Nat.blt n (limK k)))) (Nat.blt m (limK k))
    | .negSucc _ => slow
  | .negSucc _ => slow
def shlK {β : Type} (k : IntKind) (a b : Int) (c : Value → M β) (slow : M β) : M β := match a with
  | .ofNat m => match b with
    | .ofNat n => @Bool.rec (fun _ => _) (slow) ((@Bool.rec (fun _ => _) (slow) (c (.int k (.ofNat (Nat.mod (Nat.mul m (Nat.pow 2 n)) (limU k))))) (Nat.ble n (widU k)))) (Nat.blt 0 (limU k))
    | .negSucc _ => slow
  | .negSucc _ => slow
def shrK {β : Type} (k : IntKind) (a b : Int) (c : Value → M β) (slow : M β) : M β := match a with
  | .ofNat m => match b with
    | .ofNat n => @Bool.rec (fun _ => _) (slow) (c (.int k (.ofNat (Nat.div m (Nat.pow 2 n))))) (Nat.ble n (widU k))
    | .negSucc _ => slow
  | .negSucc _ => slow
section
variable (C : Cx)
def intK (op : BinOp) (ty : TypeId) : IK := match op with
  | .and => ⟨fun _ k j a b c => kinds2 k j (bitsK k Nat.land a b c (M.bnd (intBin C op ty k j a b) c))⟩
  | .or => ⟨fun _ k j a b c => kinds2 k j (bitsK k Nat.lor a b c (M.bnd (intBin C op ty k j a b) c))⟩
  | .xor => ⟨fun _ k j a b c => kinds2 k j (bitsK k Nat.xor a b c (M.bnd (intBin C op ty k j a b) c))⟩
  | .shl => ⟨fun _ k j a b c => shlK k a b c (M.bnd (intBin C op ty k j a b) c)⟩
  | .shr => ⟨fun _ k j a b c => shrK k a b c (M.bnd (intBin C op ty k j a b) c)⟩
  | .add => ⟨fun _ k j a b c => kinds2 k j (addK a b fun n => wrapD k n c)⟩
  | .sub => ⟨fun _ k j a b c => kinds2 k j (subK a b fun n => wrapD k n c)⟩
  | .mul => ⟨fun _ k j a b c => kinds2 k j (mulK a b fun n => wrapD k n c)⟩
  | .eql => ⟨fun _ k j a b c => kinds2 k j (c (.bool (eqI a b)))⟩
  | .neq => ⟨fun _ k j a b c => kinds2 k j (c (.bool (!eqI a b)))⟩
  | .lss => ⟨fun _ k j a b c => kinds2 k j (c (.bool (ltI a b)))⟩
  | .leq => ⟨fun _ k j a b c => kinds2 k j (c (.bool (!ltI b a)))⟩
  | .gtr => ⟨fun _ k j a b c => kinds2 k j (c (.bool (ltI b a)))⟩
  | .geq => ⟨fun _ k j a b c => kinds2 k j (c (.bool (!ltI a b)))⟩
  | op => ⟨fun _ k j a b c => M.bnd (intBin C op ty k j a b) c⟩

/- operations that call nothing -/
structure SimK where
  run : (α : Type) → Tm → St → (Value → St → M α) → M α
def errK : SimK := ⟨fun _ _ _ _ => .error ""⟩
def getOpt {α : Type} (x : M α) (f : α → SimK) : SimK := match x with
  | .ok a => f a
  | .error _ => errK
def binBody (op : BinOp) (t : TypeId) (x y : Operand) (a b : Value) : M Value := match a, b with
  | .nilIface, .nilIface => match x, y with
    | .const _, _ | _, .const _ => binA C op t .nilIface .nilIface
    | _, _ => .error "two nil interface values"
  | .agg xs, .agg ys => match C.P.eqGuardType C.P.depth t with
    | false => binA C op t (.agg xs) (.agg ys)
    | true => .error "comparison of interface values"
  | a, b => binA C op t a b
def loadK (ty : TypeId) (p : RdK) : SimK := getOpt (isAggA C ty) fun g => match g with
  | false => ⟨fun _ t s k => p.run _ t fun v => ptrK v fun b o => rdK s b fun c _ _ _ => cellK c o fun u => k u s⟩
  | true => getOpt (szOf C ty) fun n => ⟨fun _ t s k => p.run _ t fun v => ptrK v fun b o => rdK s b fun c _ _ _ => M.bnd (rangeN c o n) fun l => k (.agg l.toArray) s⟩
def storeK (ty : TypeId) (p x : RdK) : SimK := getOpt (szOf C ty) fun n => match Nat.beq n 1 with
  | true => ⟨fun _ t s k => p.run _ t fun v => ptrK v fun b o => x.run _ t fun u => match isCell u with
    | true => rdK s b fun c e g w => match w with
      | true => oK (splice c o [u]) fun c => layK s b (.cells c e g true) fun s => k undef s
      | false => .error ""
    | false => M.bnd (storeA C s ty ⟨b, o, none⟩ u) fun s => k undef s⟩
  | false => ⟨fun _ t s k => p.run _ t fun v => ptrK v fun b o => x.run _ t fun u => M.bnd (storeA C s ty ⟨b, o, none⟩ u) fun s => k undef s⟩
def indexAddrK (ty : TypeId) (x ix : RdK) : SimK := getOpt (und C ty) fun d => match d with
  | .slice e => getOpt (szOf C e) fun n => ⟨fun _ t s k => ix.run _ t fun i => natV i fun i => x.run _ t fun v => sliceV v fun b o l => match Nat.blt i l with
    | true => k (.pointer (some ⟨b, Nat.add o (Nat.mul i n), none⟩)) s
    | false => .error ""⟩
  | .array len e => getOpt (szOf C e) fun n => ⟨fun _ t s k => ix.run _ t fun i => natV i fun i => x.run _ t fun v => ptrK v fun b o => match Nat.blt i len with
    | true => k (.pointer (some ⟨b, Nat.add o (Nat.mul i n), none⟩)) s
    | false => .error ""⟩
  | _ => errK
def indexK (ty : TypeId) (x ix : RdK) : SimK := getOpt (und C ty) fun d => match d with
  | .array len e => getOpt (szOf C e) fun n => ⟨fun _ t s k => ix.run _ t fun i => natV i fun i => x.run _ t fun v => aggV v fun cs => match Nat.blt i len with
    | true => M.bnd (partA C e cs (i * n)) fun v => k v s
    | false => .error ""⟩
  | .string => ⟨fun _ t s k => ix.run _ t fun i => natV i fun i => x.run _ t fun v => match v with
    | .string b => match (bytesL b)[i]? with
      | some c => k (.int .u8 (.ofNat c.toNat)) s
      | none => .error ""
    | _ => .error ""⟩
  | _ => errK
def fieldAddrK (ty : TypeId) (x : RdK) (f : Nat) : SimK := getOpt (fieldOf C ty f) fun fd => getOpt (szOf C fd.type) fun n => match Nat.beq n 0 with
  | false => ⟨fun _ t s k => x.run _ t fun v => ptrK v fun b o => k (.pointer (some ⟨b, Nat.add o fd.offset, none⟩)) s⟩
  | true => errK
def fieldK (ty : TypeId) (x : RdK) (f : Nat) : SimK := getOpt (fieldOf C ty f) fun fd => ⟨fun _ t s k => x.run _ t fun v => aggV v fun cs => M.bnd (partA C fd.type cs fd.offset) fun v => k v s⟩
def convK (src dst : TypeId) (x : RdK) : SimK := getOpt (und C src) fun _ => getOpt (und C dst) fun d => match d with
  | .int kd => ⟨fun _ t s k => x.run _ t fun v => intV v fun _ n => wrapD kd n fun v => k v s⟩
  | _ => ⟨fun _ t s k => x.run _ t fun v => M.bnd (convA C s src dst v) fun r => k r.1 r.2⟩
def lenK (c : Call) (args : List Operand) : SimK := match args with
  | [x] => getOpt (some! "" c.argTypes[0]?) fun ty => getOpt (und C ty) fun d => match d with
    | .string => ⟨fun _ t s k => (opdK C.G x).run _ t fun v => match v with
      | .string b => k (.int .i64 (.ofNat b.size)) s
      | _ => .error ""⟩
    | .slice _ => ⟨fun _ t s k => (opdK C.G x).run _ t fun v => match v with
      | .slice _ n _ => k (.int .i64 (.ofNat n)) s
      | _ => .error ""⟩
    | _ => ⟨fun _ t s k => (opdK C.G x).run _ t fun v => M.bnd (builtinA C s .len c.argTypes [v]) fun r => k r.1 r.2⟩
  | _ => errK
def buildK (ty : TypeId) (ps : List (Nat × Operand)) : SimK := getOpt (zeroOf C ty) fun z => getOpt (und C ty) fun d => match d with
  | .struct _ => getOpt (placesA C ty) fun pl => ⟨fun _ t s k => (partsK C.G ps).run _ t fun ps => M.bnd (fillL (fun i => some! "place" pl[i]?) (cellsL z) ps) fun l => k (.agg l.toArray) s⟩
  | .array _ e => getOpt (szOf C e) fun n => ⟨fun _ t s k => (partsK C.G ps).run _ t fun ps => M.bnd (fillL (fun i => .ok (i * n, n)) (cellsL z) ps) fun l => k (.agg l.toArray) s⟩
  | _ => errK
def buildSliceK (ty : TypeId) (len : Nat) (ps : List (Nat × Operand)) : SimK := getOpt (sliceElem C ty) fun e => getOpt (szOf C e) fun n => getOpt (zeroOf C e) fun z => match Nat.ble (len * n) 16777216 && Nat.ble len 16777216 && Nat.beq (cellsL z).length n with
  | true => ⟨fun _ t s k => (partsK C.G ps).run _ t fun ps => M.bnd (fillL (fun i => .ok (i * n, n)) (repL (cellsL z) len) ps) fun l => newK s (.cells l e false true) fun r s => k (.slice (some ⟨r, 0, none⟩) len len) s⟩
  | false => errK
def simK (op : Op) : SimK := match op with
  | .move x => ⟨fun _ t s k => (opdK C.G x).run _ t fun v => k v s⟩
  | .assign x => ⟨fun _ t s k => (opdK C.G x).run _ t fun v => k v s⟩
  | .pick c a b => ⟨fun _ t s k => (opdK C.G c).run _ t fun v => boolV v ((opdK C.G a).run _ t fun v => k v s) ((opdK C.G b).run _ t fun v => k v s)⟩
  | .alloc e => getOpt (zeroOf C e) fun z => ⟨fun _ _ s k => newK s (.cells (cellsL z) e false true) fun r s => k (at0 r) s⟩
  | .box e x => ⟨fun _ t s k => (opdK C.G x).run _ t fun v => newK s (.cells (cellsL v) e false true) fun r s => k (at0 r) s⟩
  | .build ty ps => buildK C ty ps.toList
  | .buildSlice ty n ps => buildSliceK C ty n ps.toList
  | .load ty a => loadK C ty (opdK C.G a)
  | .store ty a x => storeK C ty (opdK C.G a) (opdK C.G x)
  | .nilCheck x => ⟨fun _ t s k => (opdK C.G x).run _ t fun v => match v with
    | .pointer p => match p with
      | some a => k (.pointer (some a)) s
      | none => .error ""
    | .func f a c => match f with
      | .func f => k (.func (.func f) a c) s
      | _ => .error ""
    | .iface t v => k (.iface t v) s
    | _ => .error ""⟩
  | .binOp op ty x y _ => getOpt (und C ty) fun d => match d with
    | .int _ => ⟨fun _ t s k => (opdK C.G x).run _ t fun a => (opdK C.G y).run _ t fun b => intV a fun ka m => intV b fun kb n => (intK C op ty).run _ ka kb m n fun v => k v s⟩
    | _ => ⟨fun _ t s k => (opdK C.G x).run _ t fun a => (opdK C.G y).run _ t fun b => M.bnd (binBody C op ty x y a b) fun v => k v s⟩
  | .unOp op _ x => ⟨fun _ t s k => (opdK C.G x).run _ t fun v => match v with
    | .bool b => match op with
      | .not => k (.bool (!b)) s
      | _ => .error ""
    | .int kd n => M.bnd (M.bnd (runPure C (Op.unary op (.int kd n))) constA) fun v => k v s
    | _ => .error ""⟩
  | .convert a b x => convK C a b (opdK C.G x)
  | .makeInterface ty x => getOpt (und C ty) fun d => match d with
    | .interface _ => errK
    | _ => ⟨fun _ t s k => (opdK C.G x).run _ t fun v => k (.iface ty v) s⟩
  | .makeFunc fn first cap => match fn with
    | .func f => ⟨fun _ t s k => (opdsK C.G first.toList).run _ t fun fs => (opdsK C.G cap.toList).run _ t fun cs => k (.func (.func f) fs.toArray cs.toArray) s⟩
    | _ => errK
  | .slice ty x lo hi mx => ⟨fun _ t s k => (opdK C.G x).run _ t fun v => (optK C.G lo).run _ t fun lo => (optK C.G hi).run _ t fun hi => (optK C.G mx).run _ t fun mx => M.bnd (sliceA C ty v lo hi mx) fun v => k v s⟩
  | .fieldAddr ty x f => fieldAddrK C ty (opdK C.G x) f
  | .field ty x f => fieldK C ty (opdK C.G x) f
  | .indexAddr ty x ix => indexAddrK C ty (opdK C.G x) (opdK C.G ix)
  | .index ty x ix => indexK C ty (opdK C.G x) (opdK C.G ix)
  | .lookup ty x ix ok => ⟨fun _ t s k => (opdK C.G x).run _ t fun x => (opdK C.G ix).run _ t fun ix => M.bnd (lookupA C s ty x ix ok) fun v => k v s⟩
  | .mapUpdate ty m k x => ⟨fun _ t s c => (opdK C.G m).run _ t fun m => (opdK C.G k).run _ t fun k => (opdK C.G x).run _ t fun x => M.bnd (mapUpdateA C s ty m k x) fun s => c undef s⟩
  | .insert ty m k x => ⟨fun _ t s c => (opdK C.G m).run _ t fun m => (opdK C.G k).run _ t fun k => (opdK C.G x).run _ t fun x => M.bnd (mapUpdateA C s ty m k x) fun s => c undef s⟩
  | .extract x i => ⟨fun _ t s k => (opdK C.G x).run _ t fun v => tupV v fun vs => cellK vs i fun v => k v s⟩
  | .call c => match c.callee with
    | .builtin b => match b with
      | .len => lenK C c c.args.toList
      | b => ⟨fun _ t s k => (opdsK C.G c.args.toList).run _ t fun args => M.bnd (builtinA C s b c.argTypes args) fun r => k r.1 r.2⟩
    | _ => errK
  | op => ⟨fun _ t s k => M.bnd (simpleA C s (evalA C.G t) op) fun r => k r.1 r.2⟩

/- calls and code -/
abbrev A := M (Value × St)
abbrev RecK := Option Nat → Code → Tm → List Nat → St → (Tm → List Nat → St → A) → (Ex → Tm → List Nat → St → A) → A
structure FunK where
  run : RecK → List Value → St → (Value → St → A) → A
def fillK : List Value → Nat → Tm → (Tm → A) → A
  | [], _, t, k => k t
  | v :: vs, i, t, k => (putK i).run _ t v fun t => fillK vs (Nat.succ i) t k
structure LvK where
  run : St → List Nat → (St → A) → A
def leaveK (s : St) (ms : List Nat) (k : St → A) : A := match ms with
  | [] => k s
  | m :: ms => M.bnd (leaveA s (m :: ms)) k
structure RsK where
  run : Tm → St → (List Value → A) → A
def resultsK : List ResultVar → RsK
  | [] => ⟨fun _ _ k => k []⟩
  | r :: l => match r with
    | .tmp x => ⟨fun t s k => (tmpK x).run _ t fun v => (resultsK l).run t s fun vs => k (v :: vs)⟩
    | .cell a ty => ⟨fun t s k => (loadK C ty (tmpK a)).run _ t s fun v _ => (resultsK l).run t s fun vs => k (v :: vs)⟩
def oneK (vs : List Value) (k : Value → A) : A := match vs with
  | [] => k (.tuple #[])
  | v :: r => match r with
    | [] => k v
    | r => k (.tuple (v :: r).toArray)
def funK (f : Nat) : FunK := match C.intr f with
  | some i => ⟨fun _ args s k => M.bnd (i args s) fun r => k r.1 r.2⟩
  | none => match Tr.get C.funcs f with
    | none => ⟨fun _ _ _ _ => .error ""⟩
    | some fn => match fn.body with
      | none => ⟨fun _ _ _ _ => .error ""⟩
      | some c => ⟨fun rec args s k => fillK args 0 (blank fn.ntmps) fun t => rec none c t [] s
        (fun t ms s => leaveK s ms fun s => (resultsK C fn.results.toList).run t s fun vs => oneK vs fun v => k v s)
        (fun e t ms s => match e with
          | .ret => leaveK s ms fun s => (resultsK C fn.results.toList).run t s fun vs => oneK vs fun v => k v s
          | _ => .error "")⟩
def callK (rec : RecK) (f : Nat) (args : List Value) (s : St) (k : Value → St → A) : A := (funK C f).run rec args s k
def setParamsK (ps : List Tmp) (as : List Value) (t : Tm) (k : Tm → A) : A := M.bnd (setParams ps as t) k
def loopK (s : St) (l : Nat) (k : ALoop → A) : A := heapK l s.h fun o => match o with
  | .loop r => k r
  | _ => .error ""
def roundK (rec : RecK) (l : Nat) (args : List Value) (s : St) (k : Value → St → A) : A := loopK s l fun r => setParamsK r.params.toList args r.tmps fun t =>
  rec (some l) r.assign t [] s (fun t ms s => match ms with
    | [] => loopK s l fun r1 => match r1.st with
      | .ready => layK s l (.loop { r1 with st := .busy }) fun s => rec (some l) r.body t [] s
        (fun _ ms s => match ms with
          | [] => loopK s l fun r2 => layK s l (.loop { r2 with st := .ready, pend := none }) fun s => k (.bool true) s
          | _ => .error "")
        (fun e _ ms s => match ms with
          | [] => loopK s l fun r2 => match jumpOf e with
            | none => .error ""
            | some j => layK s l (.loop { r2 with st := .done, pend := some j }) fun s => k (.bool false) s
          | _ => .error "")
      | _ => .error ""
    | _ => .error "") (fun _ _ _ _ => .error "")
structure OpK where
  run : RecK → Tm → St → (Value → St → A) → A
def goK (rec : RecK) (f : Nat) (args : List Value) (s : St) (k : Value → St → A) : A := match C.ext f with
  | some i => M.bnd (i args s) fun r => k r.1 r.2
  | none => callK C rec f args s k
def opK (o : Op) : OpK := match o with
  | .call c => match c.callee with
    | .builtin _ => ⟨fun _ t s k => (simK C o).run _ t s k⟩
    | .invoke _ _ => ⟨fun _ _ _ _ => .error ""⟩
    | .value f => match f with
      | .func g => match C.ext g with
        | some i => ⟨fun _ t s k => (opdsK C.G c.args.toList).run _ t fun args => M.bnd (i args s) fun r => k r.1 r.2⟩
        | none => ⟨fun rec t s k => (opdsK C.G c.args.toList).run _ t fun args => (funK C g).run rec args s k⟩
      | f => ⟨fun rec t s k => (opdsK C.G c.args.toList).run _ t fun args => (opdK C.G f).run _ t fun v => match v with
        | .func fn first cap => match fn with
          | .func g => goK C rec g (first.toList ++ args ++ cap.toList) s k
          | .yield l => match first.toList with
            | [] => match cap.toList with
              | [] => roundK rec l args s k
              | _ => .error ""
            | _ => .error ""
          | _ => .error ""
        | _ => .error ""⟩
  | o => ⟨fun _ t s k => (simK C o).run _ t s k⟩
structure WtK where
  run : Tm → A → A → A
/-- is an operation wanted -/
def wantK (ops : List Oper) (g : Option (Nat × Bool)) : WtK := match g with
  | none => ⟨fun _ x _ => x⟩
  | some (j, want) => match ops[j]? with
    | none => ⟨fun _ _ _ => .error ""⟩
    | some o => match o.dst with
      | none => ⟨fun _ _ _ => .error ""⟩
      | some d => match want with
        | true => ⟨fun t x y => (tmpK d).run _ t fun v => match v with
          | .bool b => match b with
            | true => x
            | false => y
          | _ => y⟩
        | false => ⟨fun t x y => (tmpK d).run _ t fun v => match v with
          | .bool b => match b with
            | true => y
            | false => x
          | _ => y⟩
structure OpsK where
  run : RecK → Tm → St → (Tm → St → A) → A
def opsK (ops : List Oper) : List Oper → OpsK
  | [] => ⟨fun _ t s k => k t s⟩
  | o :: rest => match o.guard with
    | none => match o.dst with
      | some d => ⟨fun rec t s k => (opK C o.op).run rec t s fun v s => (putK d).run _ t v fun t => (opsK ops rest).run rec t s k⟩
      | none => ⟨fun rec t s k => (opK C o.op).run rec t s fun _ s => (opsK ops rest).run rec t s k⟩
    | some g => ⟨fun rec t s k => (wantK ops (some g)).run t ((opK C o.op).run rec t s fun v s => (dstK o.dst).run _ t v fun t => (opsK ops rest).run rec t s k) ((dstK o.dst).run _ t undef fun t => (opsK ops rest).run rec t s k)⟩
/- regions that draw their order -/
structure FltK where
  run : Tm → St → List Stage → (Value → St → A) → A
def floatK (p : PI) : FltK := match p.cls with
  | .read => ⟨fun t s gs k => M.bnd (readAll (fun s => (simK C p.o.op).run _ t s fun v _ => .ok v) p.bef gs) fun v => k v s⟩
  | .pure => ⟨fun t s _ k => (simK C p.o.op).run _ t s fun v _ => k v s⟩
  | .alloc => ⟨fun t s _ k => (simK C p.o.op).run _ t s fun v s1 => match Nat.beq s1.nx (Nat.succ s.nx) with
    | true => k v s1
    | false => .error ""⟩
  | .write => ⟨fun _ _ _ _ => .error ""⟩
structure FlsK where
  run : Tm → St → List Stage → (Tm → St → A) → A
def floatsK (ops : List Oper) : List PI → FlsK
  | [] => ⟨fun t s _ k => k t s⟩
  | p :: ps => ⟨fun t s gs k => (wantK ops p.o.guard).run t ((floatK C p).run t s gs fun v s => (dstK p.o.dst).run _ t v fun t => (floatsK ops ps).run t s gs k) ((dstK p.o.dst).run _ t undef fun t => (floatsK ops ps).run t s gs k)⟩
structure SgsK where
  run : RecK → Tm → St → List Stage → (Tm → St → A) → A
def segsK (ops : List Oper) (last : List PI) : List (List PI × PI) → SgsK
  | [] => ⟨fun _ t s gs k => (floatsK C ops last).run t s gs k⟩
  | (fl, w) :: rest => ⟨fun rec t s gs k => (floatsK C ops fl).run t s gs fun t s => (wantK ops w.o.guard).run t
      ((opK C w.o.op).run rec t s fun v s1 => match Nat.ble s.nx s1.nx with
        | true => (dstK w.o.dst).run _ t v fun t => (segsK ops last rest).run rec t s1 ({ w := some w.i, s := s1 } :: gs) k
        | false => .error "")
      ((dstK w.o.dst).run _ t undef fun t => (segsK ops last rest).run rec t s ({ w := some w.i, s } :: gs) k)⟩
def regionK (ops : List Oper) (draw : Bool) : OpsK := match draw with
  | false => opsK C ops ops
  | true => match planA C ops with
    | .ok pl => ⟨fun rec t s k => (segsK C ops pl.last pl.segs).run rec t s [{ w := none, s }] k⟩
    | .error _ => ⟨fun _ _ _ _ => .error ""⟩
def rangeCallK (rec : RecK) (rd : Option Nat) (f : RdK) (t : Tm) (ms : List Nat) (l : Nat) (s : St) (kn : Tm → List Nat → St → A) (kx : Ex → Tm → List Nat → St → A) : A := f.run _ t fun v => match v with
  | .func fn first cap => match fn with
    | .func g => callK C rec g (first.toList ++ [.func (.yield l) #[] #[]] ++ cap.toList) s fun _ s => loopK s l fun r => match r.st with
      | .busy => .error ""
      | _ => layK s l (.loop { r with st := .exhausted }) fun s => match r.pend with
        | none => kn t ms s
        | some c => rec rd c t ms s kn kx
    | _ => .error ""
  | _ => .error ""
structure CdK where
  run : RecK → Option Nat → Tm → List Nat → St → (Tm → List Nat → St → A) → (Ex → Tm → List Nat → St → A) → A
def codeK (c : Code) : CdK := match c with
  | .skip | .label _ => ⟨fun _ _ t ms s kn _ => kn t ms s⟩
  | .seq a b => ⟨fun rec rd t ms s kn kx => rec rd a t ms s (fun t ms s => rec rd b t ms s kn kx) kx⟩
  | .cond x a b => ⟨fun rec rd t ms s kn kx => (opdK C.G x).run _ t fun v => boolV v (rec rd a t ms s kn kx) (rec rd b t ms s kn kx)⟩
  | .block id body => ⟨fun rec rd t ms s kn kx => rec rd body t ms s kn fun e t ms s => match e with
    | .exit i => match Nat.beq i id with
      | true => kn t ms s
      | false => kx (.exit i) t ms s
    | e => kx e t ms s⟩
  | .loop body => ⟨fun rec rd t ms s kn kx => rec rd body t ms s (fun t ms s => rec rd (.loop body) t ms s kn kx) kx⟩
  | .exit id => ⟨fun _ _ t ms s _ kx => kx (.exit id) t ms s⟩
  | .ret => ⟨fun _ _ t ms s _ kx => kx .ret t ms s⟩
  | .region _ ops draw => ⟨fun rec _ t ms s kn _ => (regionK C ops.toList draw).run rec t s fun t s => kn t ms s⟩
  | .rangeFunc f params assign body => ⟨fun rec rd t ms s kn kx => match rd with
    | none => newK s .defd fun d s => newK s (.loop { st := .ready, pend := none, tmps := t, params, assign, body }) fun l s => rangeCallK C rec none (opdK C.G f) t (d :: ms) l s kn kx
    | some r => loopK s r fun _ => newK s (.loop { st := .ready, pend := none, tmps := t, params, assign, body }) fun l s => rangeCallK C rec (some r) (opdK C.G f) t ms l s kn kx⟩
  | .scope body => ⟨fun rec rd t ms s kn kx => rec rd body t ms s kn kx⟩
  | .goto _ | .refuse _ => ⟨fun _ _ _ _ _ _ _ => .error ""⟩
def execK (n : Nat) : RecK := Nat.rec (motive := fun _ => RecK) (fun _ _ _ _ _ _ _ => .error "fuel") (fun _ ih rd c t ms s kn kx => (codeK C c).run ih rd t ms s kn kx) n
/-- a call, reckoned -/
def runK (n f : Nat) (args : List Value) (s : St) : A := callK C (execK C n) f args s fun v s => .ok (v, s)
end
end
end Go.Proofs.YtoddlefhlicfiaaGreatDoorR.X

/- What the executor for the kernel comes to, the plain executor comes to: temporaries, memory, numbers, operations that call nothing. -/
set_option linter.unusedSimpArgs false
set_option linter.unusedVariables false
namespace Go.Proofs.YtoddlefhlicfiaaGreatDoorR.X
open Go

theorem oK_ok {α β : Type} {o : Option α} {k : α → M β} {r : β} (h : oK o k = .ok r) : ∃ x, o = some x ∧ k x = .ok r := by
  cases o with
  | none => cases h
  | some x => exact ⟨x, rfl, h⟩
theorem g8_eq {α : Type} (t : T8 α) : ∀ d : Nat, (g8 d).run t = t.get d
  | 0 => by cases t; rfl
  | 1 => by cases t; rfl
  | 2 => by cases t; rfl
  | 3 => by cases t; rfl
  | 4 => by cases t; rfl
  | 5 => by cases t; rfl
  | 6 => by cases t; rfl
  | _ + 7 => by cases t; rfl
theorem p8_eq {α β : Type} (t : T8 α) (z : α → (α → T8 α) → β) : ∀ d : Nat, (p8 d).run β t z = z (t.get d) (fun x => t.set x d)
  | 0 => by cases t; rfl
  | 1 => by cases t; rfl
  | 2 => by cases t; rfl
  | 3 => by cases t; rfl
  | 4 => by cases t; rfl
  | 5 => by cases t; rfl
  | 6 => by cases t; rfl
  | _ + 7 => by cases t; rfl
theorem ble7 (d : Nat) : Nat.ble 4 (d + 7) = true ∧ Nat.ble 6 (d + 7) = true ∧ Nat.ble 7 (d + 7) = true :=
  ⟨Nat.ble_eq_true_of_le (by omega), Nat.ble_eq_true_of_le (by omega), Nat.ble_eq_true_of_le (by omega)⟩
theorem get8_eq {α : Type} (t : T8 α) : ∀ d : Nat, get8 t d = t.get d
  | 0 => by cases t; rfl
  | 1 => by cases t; rfl
  | 2 => by cases t; rfl
  | 3 => by cases t; rfl
  | 4 => by cases t; rfl
  | 5 => by cases t; rfl
  | 6 => by cases t; rfl
  | d + 7 => by
    obtain ⟨h4, h6, h7⟩ := ble7 d
    cases t
    simp only [get8, h4, h6, h7]
    rfl
theorem set8_eq {α : Type} (t : T8 α) (x : α) : ∀ d : Nat, set8 t x d = t.set x d
  | 0 => by cases t; rfl
  | 1 => by cases t; rfl
  | 2 => by cases t; rfl
  | 3 => by cases t; rfl
  | 4 => by cases t; rfl
  | 5 => by cases t; rfl
  | 6 => by cases t; rfl
  | d + 7 => by
    obtain ⟨h4, h6, h7⟩ := ble7 d
    cases t
    simp only [set8, h4, h6, h7]
    rfl
theorem heapLay_eq (t : Tr AO) (i : Nat) (x : AO) : heapLay t i x = Tr.lay t i x := by
  unfold heapLay lay2 lay3 lay4 lay5 lay6
  simp only [get8_eq, set8_eq]
  rfl
theorem blt_of {i n : Nat} (h : Nat.ble n i = false) : Nat.blt i n = true := by
  have h1 : ¬ n ≤ i := fun hle => by rw [Nat.ble_eq_true_of_le hle] at h; cases h
  exact Nat.ble_eq_true_of_le (by omega)
theorem brec_ok {β : Type} {b : Bool} {x y : M β} {r : β} (h : @Bool.rec (fun _ => M β) y x b = .ok r) : (b = true ∧ x = .ok r) ∨ (b = false ∧ y = .ok r) := by
  cases b with
  | true => exact .inl ⟨rfl, h⟩
  | false => exact .inr ⟨rfl, h⟩
section
variable {α : Type} {r : α}
theorem tmpK_ok {i : Nat} {t : Tm} {k : Value → M α} (h : (tmpK i).run α t k = .ok r) : ∃ v, Tm.get t i = some v ∧ k v = .ok r := by
  unfold tmpK at h
  split at h
  · rename_i hb
    have h : oK ((g8 (Nat.div i 64)).run ((g8 (Nat.mod (Nat.div i 8) 8)).run ((g8 (Nat.mod i 8)).run t))) k = .ok r := h
    simp only [g8_eq] at h
    obtain ⟨v, h1, h2⟩ := oK_ok h
    exact ⟨v, by unfold Tm.get; rw [hb]; exact h1, h2⟩
  · cases h
theorem putK_ok {i : Nat} {t : Tm} {v : Value} {k : Tm → M α} (h : (putK i).run α t v k = .ok r) : ∃ t', updM t i v = .ok t' ∧ k t' = .ok r := by
  unfold putK at h
  split at h
  · rename_i hb
    have h : (p8 (Nat.mod i 8)).run (M α) t (fun t1 z1 => (p8 (Nat.mod (Nat.div i 8) 8)).run (M α) t1 fun t2 z2 => (p8 (Nat.div i 64)).run (M α) t2 fun o z3 => oK o fun _ => k (z1 (z2 (z3 (some v))))) = .ok r := h
    simp only [p8_eq] at h
    obtain ⟨u, h1, h2⟩ := oK_ok h
    refine ⟨Tm.lay t i v, ?_, h2⟩
    have : Tm.get t i = some u := by unfold Tm.get; rw [hb]; exact h1
    unfold updM; rw [this]
  · cases h
theorem dstK_ok {dst : Option Tmp} {t : Tm} {v : Value} {k : Tm → M α} (h : (dstK dst).run α t v k = .ok r) : ∃ t', put t dst v = .ok t' ∧ k t' = .ok r := by
  cases dst with
  | none => exact ⟨t, rfl, h⟩
  | some d => exact putK_ok h
theorem heapK_ok {i : Nat} {h : Tr AO} {k : AO → M α} (hh : heapK i h k = .ok r) : ∃ o, Tr.get h i = some o ∧ k o = .ok r := by
  rcases brec_ok hh with ⟨_, h1⟩ | ⟨hb, h1⟩
  · cases h1
  · obtain ⟨o, h2, h3⟩ := oK_ok h1
    simp only [get8_eq] at h2
    exact ⟨o, by unfold Tr.get; rw [blt_of hb]; exact h2, h3⟩
theorem rdK_ok {s : St} {b : Nat} {k : List Value → TypeId → Bool → Bool → M α} (h : rdK s b k = .ok r) : ∃ c e g w, Tr.get s.h b = some (.cells c e g w) ∧ rd s b = .ok ⟨c, e, g, w⟩ ∧ k c e g w = .ok r := by
  cases s with
  | mk sh nx =>
    obtain ⟨o, h1, h2⟩ := heapK_ok h
    cases o with
    | cells c e g w => exact ⟨c, e, g, w, h1, by unfold rd; rw [h1], h2⟩
    | _ => cases h2
theorem newK_ok {s : St} {o : AO} {k : Nat → St → M α} (h : newK s o k = .ok r) : ∃ s', newO s o = .ok (s.nx, s') ∧ k s.nx s' = .ok r := by
  cases s with
  | mk sh nx =>
    rcases brec_ok h with ⟨_, h1⟩ | ⟨hb, h1⟩
    · cases h1
    · refine ⟨⟨Tr.lay sh nx o, Nat.succ nx⟩, ?_, ?_⟩
      · unfold newO setT; rw [blt_of hb]; rfl
      · rw [heapLay_eq] at h1; exact h1
theorem layK_ok {s : St} {b : Nat} {o o1 : AO} {k : St → M α} (hg : Tr.get s.h b = some o1) (h : layK s b o k = .ok r) : ∃ s', putO s b o = .ok s' ∧ k s' = .ok r := by
  cases s with
  | mk sh nx =>
    have h : k { h := heapLay sh b o, nx := nx } = .ok r := h
    rw [heapLay_eq] at h
    exact ⟨_, by unfold putO updT; rw [hg]; rfl, h⟩
theorem cellK_ok : ∀ {l : List Value} {i : Nat} {k : Value → M α}, cellK l i k = .ok r → ∃ v, getL l i = some v ∧ k v = .ok r
  | [], i, k, h => by cases h
  | a :: l, 0, k, h => ⟨a, by simp [getL, Nat.beq], h⟩
  | a :: l, i + 1, k, h => by
    obtain ⟨v, h1, h2⟩ := cellK_ok (l := l) (i := i) h
    refine ⟨v, ?_, h2⟩
    have : Nat.beq (i + 1) 0 = false := rfl
    simp only [getL, this]
    exact h1
theorem getLK_eq : ∀ {l : List Value} {i : Nat} {v : Value}, getL l i = some v → l[i]? = some v
  | [], i, v, h => by cases h
  | a :: l, 0, v, h => by simpa [getL, Nat.beq] using h
  | a :: l, i + 1, v, h => by
    have : Nat.beq (i + 1) 0 = false := rfl
    simp only [getL, this] at h
    exact getLK_eq (l := l) h
theorem opdK_ok {G : Nat} {x : Operand} {t : Tm} {k : Value → M α} (h : (opdK G x).run α t k = .ok r) : ∃ v, evalA G t x = .ok v ∧ k v = .ok r := by
  cases x with
  | tmp i =>
    obtain ⟨v, h1, h2⟩ := tmpK_ok h
    exact ⟨v, by simp [evalA, some!, h1], h2⟩
  | const v =>
    simp only [opdK] at h
    split at h
    · rename_i hf; exact ⟨v, by simp [evalA, constA, hf], h⟩
    · cases h
  | global g =>
    simp only [opdK] at h
    split at h
    · rename_i hf; exact ⟨_, by simp only [evalA, hf], h⟩
    · cases h
  | func f => exact ⟨_, rfl, h⟩
theorem opdsK_ok {G : Nat} : ∀ {l : List Operand} {t : Tm} {k : List Value → M α}, (opdsK G l).run α t k = .ok r → ∃ vs, mapM' (evalA G t) l = .ok vs ∧ k vs = .ok r
  | [], t, k, h => ⟨[], rfl, h⟩
  | x :: l, t, k, h => by
    obtain ⟨v, h1, h2⟩ := opdK_ok h
    obtain ⟨vs, h3, h4⟩ := opdsK_ok h2
    exact ⟨v :: vs, by simp only [mapM', h1, h3, M.bnd], h4⟩
theorem partsK_ok {G : Nat} : ∀ {l : List (Nat × Operand)} {t : Tm} {k : List (Nat × Value) → M α}, (partsK G l).run α t k = .ok r → ∃ vs, partsA (evalA G t) l = .ok vs ∧ k vs = .ok r
  | [], t, k, h => ⟨[], rfl, h⟩
  | (i, x) :: l, t, k, h => by
    obtain ⟨v, h1, h2⟩ := opdK_ok h
    obtain ⟨vs, h3, h4⟩ := partsK_ok h2
    refine ⟨(i, v) :: vs, ?_, h4⟩
    show M.bnd (M.bnd (evalA G t x) fun v => .ok (i, v)) (fun b => M.bnd (partsA (evalA G t) l) fun r => .ok (b :: r)) = _
    rw [h1, h3]
    rfl
theorem optK_ok {G : Nat} {x : Option Operand} {t : Tm} {k : Option Value → M α} (h : (optK G x).run α t k = .ok r) : ∃ v, optA (evalA G t) x = .ok v ∧ k v = .ok r := by
  cases x with
  | none => exact ⟨none, rfl, h⟩
  | some x =>
    obtain ⟨v, h1, h2⟩ := opdK_ok h
    exact ⟨some v, by simp only [optA, h1, M.bnd], h2⟩
theorem ptrK_ok {v : Value} {k : Nat → Nat → M α} (h : ptrK v k = .ok r) : ∃ b o, v = .pointer (some ⟨b, o, none⟩) ∧ k b o = .ok r := by
  unfold ptrK at h
  split at h
  · split at h
    · split at h
      split at h
      · exact ⟨_, _, rfl, h⟩
      · cases h
    · cases h
  · cases h
theorem sliceV_ok {v : Value} {k : Nat → Nat → Nat → M α} (h : sliceV v k = .ok r) : ∃ b o l c, v = .slice (some ⟨b, o, none⟩) l c ∧ k b o l = .ok r := by
  unfold sliceV at h
  split at h
  · split at h
    · split at h
      split at h
      · exact ⟨_, _, _, _, rfl, h⟩
      · cases h
    · cases h
  · cases h
theorem intV_ok {v : Value} {k : IntKind → Int → M α} (h : intV v k = .ok r) : ∃ kd n, v = .int kd n ∧ k kd n = .ok r := by
  unfold intV at h
  split at h
  · exact ⟨_, _, rfl, h⟩
  · cases h
theorem natV_ok {v : Value} {k : Nat → M α} (h : natV v k = .ok r) : ∃ kd n, v = .int kd (.ofNat n) ∧ k n = .ok r := by
  unfold natV at h
  split at h
  · split at h
    · exact ⟨_, _, rfl, h⟩
    · cases h
  · cases h
theorem boolV_ok {v : Value} {x y : M α} (h : boolV v x y = .ok r) : (v = .bool true ∧ x = .ok r) ∨ (v = .bool false ∧ y = .ok r) := by
  unfold boolV at h
  split at h
  · split at h
    · exact .inl ⟨rfl, h⟩
    · exact .inr ⟨rfl, h⟩
  · cases h
theorem aggV_ok {v : Value} {k : List Value → M α} (h : aggV v k = .ok r) : ∃ cs, v = .agg cs ∧ k cs.toList = .ok r := by
  unfold aggV at h
  split at h
  · exact ⟨_, rfl, h⟩
  · cases h
theorem tupV_ok {v : Value} {k : List Value → M α} (h : tupV v k = .ok r) : ∃ cs, v = .tuple cs ∧ k cs.toList = .ok r := by
  unfold tupV at h
  split at h
  · exact ⟨_, rfl, h⟩
  · cases h
theorem kinds2_ok {k j : IntKind} {x : M α} (h : kinds2 k j x = .ok r) : k = j ∧ x = .ok r := by
  unfold kinds2 at h
  split at h
  · split at h
    · exact ⟨rfl, h⟩
    · cases h
  · split at h
    · exact ⟨rfl, h⟩
    · cases h
  · split at h
    · exact ⟨rfl, h⟩
    · cases h
  · split at h
    · exact ⟨rfl, h⟩
    · cases h
  · split at h
    · rename_i hd; exact ⟨of_decide_eq_true hd, h⟩
    · cases h
theorem addK_eq (a b : Int) (k : Int → M α) : addK a b k = k (Int.add a b) := by cases a <;> cases b <;> rfl
theorem subK_eq (a b : Int) (k : Int → M α) : subK a b k = k (Int.sub a b) := by
  cases a with
  | ofNat m =>
    cases b with
    | ofNat n =>
      simp only [subK]
      split
      · rename_i hb
        have hle := Nat.le_of_ble_eq_true hb
        congr 1
        show ((Nat.sub m n : Nat) : Int) = (m : Int) - (n : Int)
        show ((m - n : Nat) : Int) = (m : Int) - (n : Int)
        omega
      · rfl
    | negSucc n => rfl
  | negSucc m => rfl
theorem mulK_eq (a b : Int) (k : Int → M α) : mulK a b k = k (Int.mul a b) := by cases a <;> cases b <;> rfl
theorem wrapD_eq (kd : IntKind) (n : Int) (k : Value → M α) : wrapD kd n k = k (.int kd (wrapF kd n)) := by
  cases n with
  | ofNat m =>
    cases kd
    case i64 =>
      show (match Nat.blt m 9223372036854775808 with
        | true => k (.int .i64 (.ofNat m))
        | false => k (.int .i64 (IntKind.i64.wrap (.ofNat m)))) = k (.int .i64 (match Nat.blt m 9223372036854775808 with
        | true => .ofNat m
        | false => IntKind.i64.wrap (.ofNat m)))
      cases Nat.blt m 9223372036854775808 <;> rfl
    all_goals exact rfl
  | negSucc m =>
    cases kd
    case i64 =>
      show (match Nat.blt m 9223372036854775808 with
        | true => k (.int .i64 (.negSucc m))
        | false => k (.int .i64 (IntKind.i64.wrap (.negSucc m)))) = k (.int .i64 (match Nat.blt m 9223372036854775808 with
        | true => .negSucc m
        | false => IntKind.i64.wrap (.negSucc m)))
      cases Nat.blt m 9223372036854775808 <;> rfl
    all_goals exact rfl
section
variable {C : Cx}
theorem bits_lim (k : IntKind) (m n : Nat) (hm : m < limK k) (hn : n < limK k) : bits .and k m n = ((Nat.land m n : Nat) : Int) ∧ bits .or k m n = ((Nat.lor m n : Nat) : Int) ∧ bits .xor k m n = ((Nat.xor m n : Nat) : Int) := by
  have go : ∀ j : Nat, j ≤ k.bits → (∀ n : Int, 0 ≤ n → n < 2 ^ j → k.wrap n = n) → m < 2 ^ j → n < 2 ^ j → bits .and k m n = ((Nat.land m n : Nat) : Int) ∧ bits .or k m n = ((Nat.lor m n : Nat) : Int) ∧ bits .xor k m n = ((Nat.xor m n : Nat) : Int) := by
    intro j hj hk ha hb
    refine ⟨(bits_nat k j hj hk m n ha hb).1, (bits_nat k j hj hk m n ha hb).2, ?_⟩
    have hp : 2 ^ j ≤ 2 ^ k.bits := Nat.pow_le_pow_right (by decide) hj
    have ha' : m % 2 ^ k.bits = m := Nat.mod_eq_of_lt (Nat.lt_of_lt_of_le ha hp)
    have hb' : n % 2 ^ k.bits = n := Nat.mod_eq_of_lt (Nat.lt_of_lt_of_le hb hp)
    have cast : ∀ n : Nat, n < 2 ^ j → ((n : Nat) : Int) < 2 ^ j := fun n h => by exact_mod_cast h
    simp only [bits, BitVec.ofInt_natCast, BitVec.toNat_xor, BitVec.toNat_ofNat, ha', hb']
    exact hk _ (Int.natCast_nonneg _) (cast _ (Nat.xor_lt_two_pow ha hb))
  cases k <;> simp only [limK] at hm hn
  case u8 => exact go 8 (by decide) (fun n h0 h1 => by rw [IntKind.wrap_u8]; omega) (by omega) (by omega)
  case u32 => exact go 32 (by decide) (fun n h0 h1 => by rw [IntKind.wrap_u32]; omega) (by omega) (by omega)
  case u64 => exact go 64 (by decide) (fun n h0 h1 => by simp only [IntKind.wrap, IntKind.bits, IntKind.signed]; simp; omega) (by omega) (by omega)
  case i64 => exact go 63 (by decide) (fun n h0 h1 => by rw [IntKind.wrap_i64]; omega) (by omega) (by omega)
  all_goals exact absurd hm (Nat.not_lt_zero _)
theorem bitsK_ok {op : BinOp} {ty : TypeId} {k j : IntKind} {a b : Int} {c : Value → M α} {f : Nat → Nat → Nat} (hj : k = j)
    (hf : ∀ m n : Nat, m < limK k → n < limK k → intBin C op ty k k (.ofNat m) (.ofNat n) = .ok (.int k (.ofNat (f m n))))
    (h : bitsK k f a b c (M.bnd (intBin C op ty k j a b) c) = .ok r) : ∃ v, intBin C op ty k j a b = .ok v ∧ c v = .ok r := by
  subst hj
  unfold bitsK at h
  split at h
  · split at h
    · rcases brec_ok h with ⟨h1, h⟩ | ⟨_, h⟩
      · rcases brec_ok h with ⟨h2, h⟩ | ⟨_, h⟩
        · rw [Nat.blt_eq] at h1 h2
          exact ⟨_, hf _ _ h1 h2, h⟩
        · exact bnd_ok.1 h
      · exact bnd_ok.1 h
    · exact bnd_ok.1 h
  · exact bnd_ok.1 h
theorem shift_ok {ty : TypeId} {k j : IntKind} {m n : Nat} (hn : n ≤ k.bits) : intBin C .shl ty k j (.ofNat m) (.ofNat n) = .ok (.int k (k.wrap ((m * 2 ^ n : Nat) : Int))) ∧ intBin C .shr ty k j (.ofNat m) (.ofNat n) = .ok (.int k ((m / 2 ^ n : Nat) : Int)) := by
  have h0 : ¬ (Int.ofNat n < 0) := by simp
  have hmin : min (Int.ofNat n).toNat k.bits = n := by simp; omega
  constructor
  · simp only [intBin, slowI, binOp, Op.shift, if_neg h0, hmin]
    have e : Int.ofNat m * 2 ^ n = ((m * 2 ^ n : Nat) : Int) := by simp
    rw [e]; rfl
  · simp only [intBin, slowI, binOp, Op.shift, if_neg h0, hmin]
    have e : Int.fdiv (Int.ofNat m) (2 ^ n) = ((m / 2 ^ n : Nat) : Int) := by
      have e2 : (2 : Int) ^ n = ((2 ^ n : Nat) : Int) := by simp
      rw [e2]
      rw [Int.fdiv_eq_ediv_of_nonneg _ (Int.natCast_nonneg _)]
      rfl
    rw [e]; rfl
theorem widU_le (k : IntKind) : widU k ≤ k.bits := by cases k <;> decide
theorem intK_ok {op : BinOp} {ty : TypeId} {k j : IntKind} {a b : Int} {c : Value → M α} (h : (intK C op ty).run α k j a b c = .ok r) : ∃ v, intBin C op ty k j a b = .ok v ∧ c v = .ok r := by
  have slow : M.bnd (intBin C op ty k j a b) c = .ok r → ∃ v, intBin C op ty k j a b = .ok v ∧ c v = .ok r := fun h => bnd_ok.1 h
  cases op <;> simp only [intK] at h
  case and =>
    obtain ⟨hv, hh⟩ := kinds2_ok h
    exact bitsK_ok hv (fun m n hm hn => by
      show slowI C .and ty k k _ _ = _
      unfold slowI
      rw [binOp_and, intBits_and, show bits .and k (Int.ofNat m) (Int.ofNat n) = _ from (bits_lim k m n hm hn).1]; rfl) hh
  case or =>
    obtain ⟨hv, hh⟩ := kinds2_ok h
    exact bitsK_ok hv (fun m n hm hn => by
      show slowI C .or ty k k _ _ = _
      unfold slowI
      rw [binOp_or, intBits_or, show bits .or k (Int.ofNat m) (Int.ofNat n) = _ from (bits_lim k m n hm hn).2.1]; rfl) hh
  case xor =>
    obtain ⟨hv, hh⟩ := kinds2_ok h
    exact bitsK_ok hv (fun m n hm hn => by
      show slowI C .xor ty k k _ _ = _
      unfold slowI
      rw [binOp_xor, intBits_xor, show bits .xor k (Int.ofNat m) (Int.ofNat n) = _ from (bits_lim k m n hm hn).2.2]; rfl) hh
  case shl =>
    unfold shlK at h
    split at h
    · rename_i m
      split at h
      · rename_i n
        rcases brec_ok h with ⟨h1, h⟩ | ⟨_, h⟩
        · rcases brec_ok h with ⟨h2, h⟩ | ⟨_, h⟩
          · have hn := Nat.le_trans (Nat.le_of_ble_eq_true h2) (widU_le k)
            refine ⟨_, (shift_ok hn).1, ?_⟩
            have e : k.wrap ((m * 2 ^ n : Nat) : Int) = .ofNat (Nat.mod (Nat.mul m (Nat.pow 2 n)) (limU k)) := by
              cases k <;> simp only [limU] at h1 ⊢
              case u8 => exact wrap_u .u8 _ 256 rfl rfl
              case u32 => exact wrap_u .u32 _ 4294967296 rfl (by decide)
              case u64 => exact wrap_u .u64 _ 18446744073709551616 rfl (by decide)
              all_goals cases h1
            rw [e]; exact h
          · exact slow h
        · exact slow h
      · exact slow h
    · exact slow h
  case shr =>
    unfold shrK at h
    split at h
    · split at h
      · rcases brec_ok h with ⟨h2, h⟩ | ⟨_, h⟩
        · have hn := Nat.le_trans (Nat.le_of_ble_eq_true h2) (widU_le k)
          exact ⟨_, (shift_ok hn).2, h⟩
        · exact slow h
      · exact slow h
    · exact slow h
  all_goals first
    | exact slow h
    | (obtain ⟨hv, hh⟩ := kinds2_ok h
       clear h
       subst hv
       have h := hh
       try simp only [addK_eq, subK_eq, mulK_eq, wrapD_eq] at h
       exact ⟨_, by simp [intBin]; try rfl, h⟩)
theorem getOpt_ok {β : Type} {x : M β} {f : β → SimK} {t : Tm} {s : St} {k : Value → St → M α} (h : (getOpt x f).run α t s k = .ok r) : ∃ a, x = .ok a ∧ (f a).run α t s k = .ok r := by
  cases x with
  | ok a => exact ⟨a, rfl, h⟩
  | error e => cases h
theorem Bnd {β : Type} {x : M β} {f : β → M α} (h : M.bnd x f = .ok r) : ∃ a, x = .ok a ∧ f a = .ok r := bnd_ok.1 h
theorem bnd_eq {β γ : Type} {x : M β} {a : β} (h : x = .ok a) (f : β → M γ) : M.bnd x f = f a := by rw [h]; rfl
/-- what an operation comes to -/
abbrev SimOk (C : Cx) (op : Op) (t : Tm) (s : St) (k : Value → St → M α) (r : α) : Prop := ∃ v s', simpleA C s (evalA C.G t) op = .ok (v, s') ∧ k v s' = .ok r
theorem loadK_ok {ty : TypeId} {x : Operand} {rk : RdK} (hrk : ∀ {t : Tm} {k : Value → M α}, rk.run α t k = .ok r → ∃ v, evalA C.G t x = .ok v ∧ k v = .ok r) {t : Tm} {s : St} {k : Value → St → M α} (h : (loadK C ty rk).run α t s k = .ok r) : SimOk C (.load ty x) t s k r := by
  obtain ⟨g, hg, h⟩ := getOpt_ok h
  cases g with
  | false =>
    obtain ⟨v, h1, h⟩ := hrk h
    obtain ⟨b, o, hv, hh⟩ := ptrK_ok h
    clear h
    subst hv
    have h := hh
    obtain ⟨c, e, gr, w, h2, h3, h⟩ := rdK_ok h
    obtain ⟨u, h4, h⟩ := cellK_ok h
    exact ⟨u, s, by simp only [simpleA, h1, M.bnd, loadA, h3, hg, h4, some!], h⟩
  | true =>
    obtain ⟨n, hn, h⟩ := getOpt_ok h
    obtain ⟨v, h1, h⟩ := hrk h
    obtain ⟨b, o, hv, hh⟩ := ptrK_ok h
    clear h
    subst hv
    have h := hh
    obtain ⟨c, e, gr, w, h2, h3, h⟩ := rdK_ok h
    obtain ⟨l, h4, h⟩ := Bnd h
    exact ⟨_, s, by simp only [simpleA, h1, M.bnd, loadA, h3, hg, hn, h4], h⟩
theorem storeK_ok {ty : TypeId} {p x : Operand} {t : Tm} {s : St} {k : Value → St → M α} (h : (storeK C ty (opdK C.G p) (opdK C.G x)).run α t s k = .ok r) : SimOk C (.store ty p x) t s k r := by
  obtain ⟨n, hn, h⟩ := getOpt_ok h
  have slow : ∀ {b o : Nat} {u : Value}, evalA C.G t p = .ok (.pointer (some ⟨b, o, none⟩)) → evalA C.G t x = .ok u → M.bnd (storeA C s ty ⟨b, o, none⟩ u) (fun s => k undef s) = .ok r → SimOk C (.store ty p x) t s k r := by
    intro b o u h1 h2 h
    obtain ⟨s1, h3, h⟩ := Bnd h
    exact ⟨_, s1, by simp only [simpleA, h1, h2, h3, M.bnd], h⟩
  split at h
  · rename_i hn1
    obtain ⟨v, h1, h⟩ := opdK_ok h
    obtain ⟨b, o, hv, hh⟩ := ptrK_ok h
    clear h
    subst hv
    have h := hh
    obtain ⟨u, h2, h⟩ := opdK_ok h
    split at h
    · rename_i hc
      obtain ⟨c, e, g, w, h3, h4, h⟩ := rdK_ok h
      split at h
      · obtain ⟨c', h5, h⟩ := oK_ok h
        obtain ⟨s1, h6, h⟩ := layK_ok h3 h
        refine ⟨_, s1, ?_, h⟩
        have hcu : cellsL u = [u] := by cases u <;> first | rfl | (simp [isCell] at hc)
        have hna : noAgg [u] = true := by simp [noAgg, hc]
        have hlen : Nat.beq [u].length n = true := by rw [Nat.eq_of_beq_eq_true hn1]; rfl
        simp only [simpleA, h1, h2, M.bnd, storeA, hn, hlen, storeCellsA, h4, hcu, hna, h5, h6]
      · cases h
    · exact slow h1 h2 h
  · obtain ⟨v, h1, h⟩ := opdK_ok h
    obtain ⟨b, o, hv, hh⟩ := ptrK_ok h
    clear h
    subst hv
    have h := hh
    obtain ⟨u, h2, h⟩ := opdK_ok h
    exact slow h1 h2 h
theorem indexAddrK_ok {ty : TypeId} {x ix : Operand} {t : Tm} {s : St} {k : Value → St → M α} (h : (indexAddrK C ty (opdK C.G x) (opdK C.G ix)).run α t s k = .ok r) : SimOk C (.indexAddr ty x ix) t s k r := by
  obtain ⟨d, hd, h⟩ := getOpt_ok h
  split at h
  · obtain ⟨n, hn, h⟩ := getOpt_ok h
    obtain ⟨i, h1, h⟩ := opdK_ok h
    obtain ⟨kd, i, hv, hh⟩ := natV_ok h
    clear h
    subst hv
    have h := hh
    obtain ⟨v, h2, h⟩ := opdK_ok h
    obtain ⟨b, o, l, c, hv, hh⟩ := sliceV_ok h
    clear h
    subst hv
    have h := hh
    split at h
    · rename_i hb
      exact ⟨_, s, by simp only [simpleA, h1, h2, M.bnd, asI, natOf, hd, hb, hn, addr]; rfl, h⟩
    · cases h
  · obtain ⟨n, hn, h⟩ := getOpt_ok h
    obtain ⟨i, h1, h⟩ := opdK_ok h
    obtain ⟨kd, i, hv, hh⟩ := natV_ok h
    clear h
    subst hv
    have h := hh
    obtain ⟨v, h2, h⟩ := opdK_ok h
    obtain ⟨b, o, hv, hh⟩ := ptrK_ok h
    clear h
    subst hv
    have h := hh
    split at h
    · rename_i hb
      exact ⟨_, s, by simp only [simpleA, h1, h2, M.bnd, asI, natOf, hd, hb, hn, addr]; rfl, h⟩
    · cases h
  · cases h
theorem indexK_ok {ty : TypeId} {x ix : Operand} {t : Tm} {s : St} {k : Value → St → M α} (h : (indexK C ty (opdK C.G x) (opdK C.G ix)).run α t s k = .ok r) : SimOk C (.index ty x ix) t s k r := by
  obtain ⟨d, hd, h⟩ := getOpt_ok h
  split at h
  · obtain ⟨n, hn, h⟩ := getOpt_ok h
    obtain ⟨i, h1, h⟩ := opdK_ok h
    obtain ⟨kd, i, hv, hh⟩ := natV_ok h
    clear h
    subst hv
    have h := hh
    obtain ⟨v, h2, h⟩ := opdK_ok h
    obtain ⟨cs, hv, hh⟩ := aggV_ok h
    clear h
    subst hv
    have h := hh
    split at h
    · rename_i hb
      obtain ⟨u, h3, h⟩ := Bnd h
      exact ⟨_, s, by simp only [simpleA, h1, h2, M.bnd, asI, natOf, hd, hb, hn, h3], h⟩
    · cases h
  · obtain ⟨i, h1, h⟩ := opdK_ok h
    obtain ⟨kd, i, hv, hh⟩ := natV_ok h
    clear h
    subst hv
    have h := hh
    obtain ⟨v, h2, h⟩ := opdK_ok h
    split at h
    · split at h
      · rename_i c hc
        exact ⟨_, s, by simp only [simpleA, h1, h2, M.bnd, asI, natOf, hd, hc]; rfl, h⟩
      · cases h
    · cases h
  · cases h
theorem buildK_ok {ty : TypeId} {ps : Array (Nat × Operand)} {t : Tm} {s : St} {k : Value → St → M α} (h : (buildK C ty ps.toList).run α t s k = .ok r) : SimOk C (.build ty ps) t s k r := by
  obtain ⟨z, hz, h⟩ := getOpt_ok h
  obtain ⟨d, hd, h⟩ := getOpt_ok h
  split at h
  · obtain ⟨pl, hpl, h⟩ := getOpt_ok h
    obtain ⟨vs, h1, h⟩ := partsK_ok h
    obtain ⟨l, hl, h⟩ := Bnd h
    exact ⟨_, s, by simp only [simpleA, hz, h1, M.bnd, hd, hpl, hl], h⟩
  · obtain ⟨n, hn, h⟩ := getOpt_ok h
    obtain ⟨vs, h1, h⟩ := partsK_ok h
    obtain ⟨l, hl, h⟩ := Bnd h
    exact ⟨_, s, by simp only [simpleA, hz, h1, M.bnd, hd, hn, hl], h⟩
  · cases h
theorem buildSliceK_ok {ty : TypeId} {len : Nat} {ps : Array (Nat × Operand)} {t : Tm} {s : St} {k : Value → St → M α} (h : (buildSliceK C ty len ps.toList).run α t s k = .ok r) : SimOk C (.buildSlice ty len ps) t s k r := by
  obtain ⟨e, he, h⟩ := getOpt_ok h
  obtain ⟨n, hn, h⟩ := getOpt_ok h
  obtain ⟨z, hz, h⟩ := getOpt_ok h
  split at h
  · rename_i hc
    obtain ⟨vs, h1, h⟩ := partsK_ok h
    obtain ⟨l, hl, h⟩ := Bnd h
    obtain ⟨s1, h2, h⟩ := newK_ok h
    exact ⟨_, s1, by simp only [simpleA, he, hn, hz, h1, M.bnd, hc, hl, h2], h⟩
  · cases h
theorem lenK_ok {c : Call} (hb : c.callee = .builtin .len) {t : Tm} {s : St} {k : Value → St → M α} (h : (lenK C c c.args.toList).run α t s k = .ok r) : SimOk C (.call c) t s k r := by
  unfold lenK at h
  split at h
  · rename_i x hx
    obtain ⟨ty, hty, h⟩ := getOpt_ok h
    obtain ⟨d, hd, h⟩ := getOpt_ok h
    have hty : c.argTypes[0]? = some ty := some_ok.1 hty
    have hargs : ∀ v, evalA C.G t x = .ok v → mapM' (evalA C.G t) c.args.toList = .ok [v] := fun v hv => by rw [hx]; simp only [mapM', hv, M.bnd]
    split at h
    · obtain ⟨v, h1, h⟩ := opdK_ok h
      split at h
      · exact ⟨_, s, by simp only [simpleA, hb, hargs _ h1, M.bnd, builtinA, hty, some!, hd]; rfl, h⟩
      · cases h
    · obtain ⟨v, h1, h⟩ := opdK_ok h
      split at h
      · exact ⟨_, s, by simp only [simpleA, hb, hargs _ h1, M.bnd, builtinA, hty, some!, hd]; rfl, h⟩
      · cases h
    · obtain ⟨v, h1, h⟩ := opdK_ok h
      obtain ⟨⟨u, s1⟩, h2, h⟩ := Bnd h
      exact ⟨u, s1, by simp only [simpleA, hb, hargs _ h1, M.bnd, h2], h⟩
  · cases h
theorem simK_ok {op : Op} {t : Tm} {s : St} {k : Value → St → M α} (h : (simK C op).run α t s k = .ok r) : SimOk C op t s k r := by
  cases op <;> simp only [simK] at h
  case move x => obtain ⟨v, h1, h⟩ := opdK_ok h; exact ⟨v, s, by simp only [simpleA, h1, M.bnd], h⟩
  case assign x => obtain ⟨v, h1, h⟩ := opdK_ok h; exact ⟨v, s, by simp only [simpleA, h1, M.bnd], h⟩
  case pick c x y =>
    obtain ⟨v, h1, h⟩ := opdK_ok h
    rcases boolV_ok h with ⟨rfl, h⟩ | ⟨rfl, h⟩
    · obtain ⟨u, h2, h⟩ := opdK_ok h; exact ⟨u, s, by simp only [simpleA, h1, h2, M.bnd], h⟩
    · obtain ⟨u, h2, h⟩ := opdK_ok h; exact ⟨u, s, by simp only [simpleA, h1, h2, M.bnd], h⟩
  case alloc e =>
    obtain ⟨z, hz, h⟩ := getOpt_ok h
    obtain ⟨s1, h1, h⟩ := newK_ok (show newK s (.cells (cellsL z) e false true) (fun r s => k (at0 r) s) = .ok r from h)
    exact ⟨_, s1, by simp only [simpleA, hz, M.bnd, allocA, h1], h⟩
  case box e x =>
    obtain ⟨v, h1, h⟩ := opdK_ok h
    obtain ⟨s1, h2, h⟩ := newK_ok h
    exact ⟨_, s1, by simp only [simpleA, h1, M.bnd, allocA, h2], h⟩
  case build ty ps => exact buildK_ok h
  case buildSlice ty n ps => exact buildSliceK_ok h
  case load ty x => exact loadK_ok (fun h => opdK_ok h) h
  case store ty p x => exact storeK_ok h
  case nilCheck x =>
    obtain ⟨v, h1, h⟩ := opdK_ok h
    split at h
    · split at h
      · exact ⟨_, s, by simp only [simpleA, h1, M.bnd], h⟩
      · cases h
    · split at h
      · exact ⟨_, s, by simp only [simpleA, h1, M.bnd], h⟩
      · cases h
    · exact ⟨_, s, by simp only [simpleA, h1, M.bnd], h⟩
    · cases h
  case binOp op ty x y ty2 =>
    obtain ⟨d, hd, h⟩ := getOpt_ok h
    split at h
    · obtain ⟨a, h1, h⟩ := opdK_ok h
      obtain ⟨b, h2, h⟩ := opdK_ok h
      obtain ⟨ka, m, hv, hh⟩ := intV_ok h
      clear h
      subst hv
      have h := hh
      obtain ⟨kb, n, hv, hh⟩ := intV_ok h
      clear h
      subst hv
      have h := hh
      obtain ⟨v, h3, h⟩ := intK_ok h
      exact ⟨v, s, by simp only [simpleA, h1, h2, M.bnd, binA, h3], h⟩
    · obtain ⟨a, h1, h⟩ := opdK_ok h
      obtain ⟨b, h2, h⟩ := opdK_ok h
      obtain ⟨v, h3, h⟩ := Bnd h
      refine ⟨v, s, ?_, h⟩
      simp only [simpleA, h1, h2, M.bnd]
      unfold binBody at h3
      split at h3
      · split at h3
        · simp only [h3]
        · simp only [h3]
        · cases h3
      · split at h3
        · rename_i hg; simp only [hg, h3]
        · cases h3
      · simp only [h3]
  case unOp op ty x =>
    obtain ⟨v, h1, h⟩ := opdK_ok h
    split at h
    · split at h
      · exact ⟨_, s, by simp only [simpleA, h1, M.bnd], h⟩
      · cases h
    · obtain ⟨u, h2, h⟩ := Bnd h
      exact ⟨u, s, by simp only [simpleA, h1, bnd_eq rfl, bnd_eq h2], h⟩
    · cases h
  case convert src dst x =>
    obtain ⟨ds, hds, h⟩ := getOpt_ok h
    obtain ⟨dd, hdd, h⟩ := getOpt_ok h
    split at h
    · obtain ⟨v, h1, h⟩ := opdK_ok h
      obtain ⟨kd, n, hv, hh⟩ := intV_ok h
      clear h
      subst hv
      have h := hh
      rw [wrapD_eq] at h
      exact ⟨_, s, by simp only [simpleA, h1, M.bnd, convA, hds, hdd], h⟩
    · obtain ⟨v, h1, h⟩ := opdK_ok h
      obtain ⟨⟨u, s1⟩, h2, h⟩ := Bnd h
      exact ⟨u, s1, by simp only [simpleA, h1, M.bnd]; exact h2, h⟩
  case makeInterface ty x =>
    obtain ⟨d, hd, h⟩ := getOpt_ok h
    cases d <;> simp only [] at h <;> first
      | (cases h; done)
      | (obtain ⟨v, h1, h⟩ := opdK_ok h; exact ⟨_, s, by simp only [simpleA, hd, h1, M.bnd], h⟩)
  case makeFunc fn first cap =>
    split at h
    · obtain ⟨fs, h1, h⟩ := opdsK_ok h
      obtain ⟨cs, h2, h⟩ := opdsK_ok h
      exact ⟨_, s, by simp only [simpleA, h1, h2, M.bnd], h⟩
    · cases h
  case slice ty x lo hi mx =>
    obtain ⟨v, h1, h⟩ := opdK_ok h
    obtain ⟨a, h2, h⟩ := optK_ok h
    obtain ⟨b, h3, h⟩ := optK_ok h
    obtain ⟨c, h4, h⟩ := optK_ok h
    obtain ⟨u, h5, h⟩ := Bnd h
    exact ⟨u, s, by simp only [simpleA, h1, h2, h3, h4, h5, M.bnd], h⟩
  case fieldAddr ty x f =>
    obtain ⟨fd, hf, h⟩ := getOpt_ok h
    obtain ⟨n, hn, h⟩ := getOpt_ok h
    split at h
    · rename_i hb
      obtain ⟨v, h1, h⟩ := opdK_ok h
      obtain ⟨b, o, hv, hh⟩ := ptrK_ok h
      clear h
      subst hv
      have h := hh
      exact ⟨_, s, by simp only [simpleA, h1, M.bnd, hf, hn, hb, addr]; rfl, h⟩
    · cases h
  case field ty x f =>
    obtain ⟨fd, hf, h⟩ := getOpt_ok h
    obtain ⟨v, h1, h⟩ := opdK_ok h
    obtain ⟨cs, hv, hh⟩ := aggV_ok h
    clear h
    subst hv
    have h := hh
    obtain ⟨u, h2, h⟩ := Bnd h
    exact ⟨u, s, by simp only [simpleA, h1, M.bnd, hf, h2], h⟩
  case indexAddr ty x ix => exact indexAddrK_ok h
  case index ty x ix => exact indexK_ok h
  case lookup ty x ix b =>
    obtain ⟨v, h1, h⟩ := opdK_ok h
    obtain ⟨u, h2, h⟩ := opdK_ok h
    obtain ⟨y, h3, h⟩ := Bnd h
    exact ⟨y, s, by simp only [simpleA, h1, h2, h3, M.bnd], h⟩
  case mapUpdate ty m kx x =>
    obtain ⟨v1, h1, h⟩ := opdK_ok h
    obtain ⟨v2, h2, h⟩ := opdK_ok h
    obtain ⟨v3, h3, h⟩ := opdK_ok h
    obtain ⟨s1, h4, h⟩ := Bnd h
    exact ⟨_, s1, by simp only [simpleA, h1, h2, h3, h4, M.bnd], h⟩
  case insert ty m kx x =>
    obtain ⟨v1, h1, h⟩ := opdK_ok h
    obtain ⟨v2, h2, h⟩ := opdK_ok h
    obtain ⟨v3, h3, h⟩ := opdK_ok h
    obtain ⟨s1, h4, h⟩ := Bnd h
    exact ⟨_, s1, by simp only [simpleA, h1, h2, h3, h4, M.bnd], h⟩
  case extract x i =>
    obtain ⟨v, h1, h⟩ := opdK_ok h
    obtain ⟨cs, hv, hh⟩ := tupV_ok h
    clear h
    subst hv
    have h := hh
    obtain ⟨u, h2, h⟩ := cellK_ok h
    exact ⟨u, s, by simp only [simpleA, h1, M.bnd, getLK_eq h2, some!], h⟩
  case call c =>
    cases hc : c.callee with
    | builtin b =>
      rw [hc] at h
      simp only [] at h
      by_cases hb : b = .len
      · subst hb; exact lenK_ok hc h
      · have h : (SimK.mk fun β t s k => (opdsK C.G c.args.toList).run β t fun args => M.bnd (builtinA C s b c.argTypes args) fun r => k r.1 r.2).run α t s k = .ok r := by
          cases b <;> first | exact h | exact absurd rfl hb
        obtain ⟨args, h1, h⟩ := opdsK_ok h
        obtain ⟨⟨u, s1⟩, h2, h⟩ := Bnd h
        exact ⟨u, s1, by simp only [simpleA, hc, h1, M.bnd]; exact h2, h⟩
    | value f => rw [hc] at h; cases h
    | invoke x n => rw [hc] at h; cases h
  all_goals
    obtain ⟨⟨u, s1⟩, h2, h⟩ := Bnd h
    exact ⟨u, s1, h2, h⟩
end
end
end Go.Proofs.YtoddlefhlicfiaaGreatDoorR.X

/- What the executor for the kernel comes to, the plain executor comes to: calls, regions, code. -/
set_option linter.unusedSimpArgs false
set_option linter.unusedVariables false
namespace Go.Proofs.YtoddlefhlicfiaaGreatDoorR.X
open Go

/-- what comes behind, by the way out -/
def contK (kn : Tm → List Nat → St → A) (kx : Ex → Tm → List Nat → St → A) : Ex → Tm → List Nat → St → A
  | .normal, t, ms, s => kn t ms s
  | .ret, t, ms, s => kx .ret t ms s
  | .exit i, t, ms, s => kx (.exit i) t ms s
/-- the one stands for the other -/
def RecSim (rk : RecK) (rec : Rec) : Prop := ∀ (rd : Option Nat) (c : Code) (t : Tm) (ms : List Nat) (s : St) (kn : Tm → List Nat → St → A) (kx : Ex → Tm → List Nat → St → A) (r : Value × St),
  rk rd c t ms s kn kx = .ok r → ∃ e t' ms' s', rec rd c ⟨t, ms⟩ s = .ok (e, ⟨t', ms'⟩, s') ∧ contK kn kx e t' ms' s' = .ok r
section
variable {C : Cx} {rk : RecK} {rec : Rec} {r : Value × St}
theorem fillK_ok : ∀ {vs : List Value} {i : Nat} {t : Tm} {k : Tm → A}, fillK vs i t k = .ok r → ∃ t', fillA vs i t = .ok t' ∧ k t' = .ok r
  | [], i, t, k, h => ⟨t, rfl, h⟩
  | v :: vs, i, t, k, h => by
    obtain ⟨t1, h1, h⟩ := putK_ok h
    obtain ⟨t2, h2, h⟩ := fillK_ok h
    exact ⟨t2, by simp only [fillA, h1, M.bnd]; exact h2, h⟩
theorem leaveK_ok {s : St} {ms : List Nat} {k : St → A} (h : leaveK s ms k = .ok r) : ∃ s', leaveA s ms = .ok s' ∧ k s' = .ok r := by
  cases ms with
  | nil => exact ⟨s, rfl, h⟩
  | cons m ms => exact Bnd h
theorem resultsK_ok : ∀ {l : List ResultVar} {t : Tm} {s : St} {k : List Value → A}, (resultsK C l).run t s k = .ok r → ∃ vs, resultsA C s t l = .ok vs ∧ k vs = .ok r
  | [], t, s, k, h => ⟨[], rfl, h⟩
  | .tmp x :: l, t, s, k, h => by
    obtain ⟨v, h1, h⟩ := tmpK_ok h
    obtain ⟨vs, h2, h⟩ := resultsK_ok h
    exact ⟨v :: vs, by simp only [resultsA, some!, h1, M.bnd, h2], h⟩
  | .cell a ty :: l, t, s, k, h => by
    obtain ⟨v, s1, h1, h⟩ := loadK_ok (x := .tmp a) (fun h => by
      obtain ⟨v, h1, h2⟩ := tmpK_ok h
      exact ⟨v, by simp [evalA, some!, h1], h2⟩) h
    obtain ⟨vs, h2, h⟩ := resultsK_ok h
    refine ⟨v :: vs, ?_, h⟩
    simp only [simpleA] at h1
    obtain ⟨p, hp, h1⟩ := bnd_ok.1 h1
    simp only [evalA] at hp
    have hg : Tm.get t a = some p := some_ok.1 hp
    split at h1
    · obtain ⟨u, hu, h1⟩ := bnd_ok.1 h1
      cases h1
      simp only [resultsA, some!, hg, M.bnd, hu, h2]
    · cases h1
theorem oneK_eq (vs : List Value) (k : Value → A) : oneK vs k = k (oneOf vs) := by
  cases vs with
  | nil => rfl
  | cons v l => cases l <;> rfl
theorem funK_ok (hr : RecSim rk rec) {f : Nat} {args : List Value} {s : St} {k : Value → St → A} (h : (funK C f).run rk args s k = .ok r) : ∃ v s', callF C rec f args s = .ok (v, s') ∧ k v s' = .ok r := by
  unfold funK at h
  unfold callF
  cases hi : C.intr f with
  | some i =>
    simp only [hi] at h
    obtain ⟨⟨v, s1⟩, h1, h⟩ := Bnd h
    exact ⟨v, s1, h1, h⟩
  | none =>
    simp only [hi] at h
    cases hf : Tr.get C.funcs f with
    | none => rw [hf] at h; cases h
    | some fn =>
      rw [hf] at h
      simp only [] at h
      cases hb : fn.body with
      | none => rw [hb] at h; cases h
      | some c =>
        rw [hb] at h
        simp only [] at h
        obtain ⟨t, ht, h⟩ := fillK_ok h
        obtain ⟨e, t', ms', s', he, h⟩ := hr _ _ _ _ _ _ _ _ h
        have key : leaveK s' ms' (fun s => (resultsK C fn.results.toList).run t' s fun vs => oneK vs fun v => k v s) = .ok r → ∃ v s'', M.bnd (leaveA s' ms') (fun s => M.bnd (resultsA C s t' fn.results.toList) fun vs => .ok (oneOf vs, s)) = .ok (v, s'') ∧ k v s'' = .ok r := by
          intro h
          obtain ⟨s2, h1, h⟩ := leaveK_ok h
          obtain ⟨vs, h2, h⟩ := resultsK_ok h
          rw [oneK_eq] at h
          exact ⟨_, s2, by simp only [h1, h2, M.bnd], h⟩
        cases e with
        | normal =>
          obtain ⟨v, s2, h1, h⟩ := key h
          exact ⟨v, s2, by simp only [some!, M.bnd, hb, ht, he]; exact h1, h⟩
        | ret =>
          obtain ⟨v, s2, h1, h⟩ := key h
          exact ⟨v, s2, by simp only [some!, M.bnd, hb, ht, he]; exact h1, h⟩
        | exit i => cases h
theorem loopK_ok {s : St} {l : Nat} {k : ALoop → A} (h : loopK s l k = .ok r) : ∃ lp, Tr.get s.h l = some (.loop lp) ∧ rdLoop s l = .ok lp ∧ k lp = .ok r := by
  obtain ⟨o, h1, h⟩ := heapK_ok h
  split at h
  · exact ⟨_, h1, by unfold rdLoop; rw [h1], h⟩
  · cases h
theorem roundK_ok (hr : RecSim rk rec) {l : Nat} {args : List Value} {s : St} {k : Value → St → A} (h : roundK rk l args s k = .ok r) : ∃ v s', roundF rec l args s = .ok (v, s') ∧ k v s' = .ok r := by
  obtain ⟨lp, h1, h2, h⟩ := loopK_ok h
  obtain ⟨t, h3, h⟩ := Bnd h
  obtain ⟨e, t', ms', s1, h4, h⟩ := hr _ _ _ _ _ _ _ _ h
  cases e with
  | ret => cases h
  | exit i => cases h
  | normal =>
    cases ms' with
    | cons m ms => cases h
    | nil =>
      obtain ⟨lp1, h5, h6, h⟩ := loopK_ok h
      split at h
      · rename_i hst
        obtain ⟨s2, h7, h⟩ := layK_ok h5 h
        obtain ⟨e, t2, ms2, s3, h8, h⟩ := hr _ _ _ _ _ _ _ _ h
        have bad : ∀ {ms2 : List Nat} {x : A}, (match ms2 with | [] => x | _ => (.error "" : A)) = .ok r → ms2 = [] ∧ x = .ok r := by
          intro ms2 x h
          cases ms2 with
          | nil => exact ⟨rfl, h⟩
          | cons m ms => cases h
        cases e with
        | normal =>
          obtain ⟨rfl, h⟩ := bad h
          obtain ⟨lp2, h9, h10, h⟩ := loopK_ok h
          obtain ⟨s4, h11, h⟩ := layK_ok h9 h
          exact ⟨_, s4, by simp only [roundF, h2, h3, h4, h6, hst, h7, h8, h10, h11, jumpOf, M.bnd], h⟩
        | ret =>
          obtain ⟨rfl, h⟩ := bad h
          obtain ⟨lp2, h9, h10, h⟩ := loopK_ok h
          obtain ⟨s4, h11, h⟩ := layK_ok h9 h
          exact ⟨_, s4, by simp only [roundF, h2, h3, h4, h6, hst, h7, h8, h10, h11, jumpOf, M.bnd], h⟩
        | exit i =>
          obtain ⟨rfl, h⟩ := bad h
          obtain ⟨lp2, h9, h10, h⟩ := loopK_ok h
          obtain ⟨s4, h11, h⟩ := layK_ok h9 h
          exact ⟨_, s4, by simp only [roundF, h2, h3, h4, h6, hst, h7, h8, h10, h11, jumpOf, M.bnd], h⟩
      · cases h
theorem goK_ok (hr : RecSim rk rec) {f : Nat} {args : List Value} {s : St} {k : Value → St → A} (h : goK C rk f args s k = .ok r) : ∃ v s', (match C.ext f with | some i => i args s | none => callF C rec f args s) = .ok (v, s') ∧ k v s' = .ok r := by
  unfold goK at h
  cases he : C.ext f with
  | some i =>
    simp only [he] at h
    obtain ⟨⟨v, s1⟩, h1, h⟩ := Bnd h
    exact ⟨v, s1, h1, h⟩
  | none => simp only [he] at h; exact funK_ok hr h
theorem opK_ok (hr : RecSim rk rec) {o : Oper} {t : Tm} {s : St} {k : Value → St → A} (h : (opK C o.op).run rk t s k = .ok r) : ∃ v s', opR C rec o (evalA C.G t) s = .ok (v, s') ∧ k v s' = .ok r := by
  unfold opR
  generalize o.op = op at h ⊢
  cases op
  case call c =>
    cases hc : c.callee with
    | builtin b =>
      simp only [opK, hc] at h
      obtain ⟨v, s1, h1, h⟩ := simK_ok h
      exact ⟨v, s1, by simp only [hc]; exact h1, h⟩
    | invoke x n => simp only [opK, hc] at h; cases h
    | value f =>
      have slow : ∀ {v : Value} {args : List Value}, mapM' (evalA C.G t) c.args.toList = .ok args → evalA C.G t f = .ok v →
          (match v with
          | .func fn first cap => match fn with
            | .func g => goK C rk g (first.toList ++ args ++ cap.toList) s k
            | .yield l => match first.toList with
              | [] => match cap.toList with
                | [] => roundK rk l args s k
                | _ => .error ""
              | _ => .error ""
            | _ => .error ""
          | _ => .error "") = .ok r → ∃ v s', M.bnd (targetA (evalA C.G t) c) (fun g => match g with
            | .fn f args => match C.ext f with
              | some i => i args s
              | none => callF C rec f args s
            | .round l args => roundF rec l args s) = .ok (v, s') ∧ k v s' = .ok r := by
        intro v args h1 h2 h
        split at h
        · split at h
          · obtain ⟨v, s1, h3, h⟩ := goK_ok hr h
            exact ⟨v, s1, by simp only [targetA, h1, hc, h2, M.bnd]; exact h3, h⟩
          · split at h
            · rename_i hf
              split at h
              · rename_i hcap
                obtain ⟨v, s1, h3, h⟩ := roundK_ok hr h
                exact ⟨v, s1, by simp only [targetA, h1, hc, h2, M.bnd, hf, hcap]; exact h3, h⟩
              · cases h
            · cases h
          · cases h
        · cases h
      simp only [opK, hc] at h ⊢
      cases f with
      | func g =>
        have h : ∃ args, mapM' (evalA C.G t) c.args.toList = .ok args ∧ goK C rk g args s k = .ok r := by
          simp only [] at h
          cases he : C.ext g with
          | some i =>
            simp only [he] at h
            obtain ⟨args, h1, h⟩ := opdsK_ok h
            exact ⟨args, h1, by unfold goK; simp only [he]; exact h⟩
          | none =>
            simp only [he] at h
            obtain ⟨args, h1, h⟩ := opdsK_ok h
            exact ⟨args, h1, by unfold goK; simp only [he]; exact h⟩
        obtain ⟨args, h1, h⟩ := h
        refine slow h1 (v := .func (.func g) #[] #[]) rfl ?_
        have e1 : (#[] : Array Value).toList ++ args ++ (#[] : Array Value).toList = args := by simp
        simp only [e1]
        exact h
      | tmp i =>
        obtain ⟨args, h1, h⟩ := opdsK_ok h
        obtain ⟨v, h2, h⟩ := opdK_ok h
        exact slow h1 h2 h
      | const i =>
        obtain ⟨args, h1, h⟩ := opdsK_ok h
        obtain ⟨v, h2, h⟩ := opdK_ok h
        exact slow h1 h2 h
      | global i =>
        obtain ⟨args, h1, h⟩ := opdsK_ok h
        obtain ⟨v, h2, h⟩ := opdK_ok h
        exact slow h1 h2 h
  all_goals
    simp only [opK] at h
    obtain ⟨v, s1, h1, h⟩ := simK_ok h
    exact ⟨v, s1, h1, h⟩
theorem wantK_ok {ops : List Oper} {g : Option (Nat × Bool)} {t : Tm} {x y : A} (h : (wantK ops g).run t x y = .ok r) : ∃ w, wantedA ops (evalA C.G t) g = .ok w ∧ ((w = true ∧ x = .ok r) ∨ (w = false ∧ y = .ok r)) := by
  unfold wantK at h
  unfold wantedA
  split at h
  · exact ⟨true, rfl, .inl ⟨rfl, h⟩⟩
  · rename_i j want
    cases ho : ops[j]? with
    | none => rw [ho] at h; cases h
    | some o =>
      rw [ho] at h
      simp only [] at h
      cases hd : o.dst with
      | none => rw [hd] at h; cases h
      | some d =>
        rw [hd] at h
        simp only [] at h
        cases want with
        | true =>
          obtain ⟨v, h1, h⟩ := tmpK_ok h
          have hev : evalA C.G t (.tmp d) = .ok v := by simp [evalA, some!, h1]
          cases v with
          | bool b =>
            cases b with
            | true => exact ⟨true, by simp only [some!, ho, hd, M.bnd, hev]; rfl, .inl ⟨rfl, h⟩⟩
            | false => exact ⟨false, by simp only [some!, ho, hd, M.bnd, hev]; rfl, .inr ⟨rfl, h⟩⟩
          | _ => exact ⟨false, by simp only [some!, ho, hd, M.bnd, hev], .inr ⟨rfl, h⟩⟩
        | false =>
          obtain ⟨v, h1, h⟩ := tmpK_ok h
          have hev : evalA C.G t (.tmp d) = .ok v := by simp [evalA, some!, h1]
          cases v with
          | bool b =>
            cases b with
            | true => exact ⟨false, by simp only [some!, ho, hd, M.bnd, hev]; rfl, .inr ⟨rfl, h⟩⟩
            | false => exact ⟨true, by simp only [some!, ho, hd, M.bnd, hev]; rfl, .inl ⟨rfl, h⟩⟩
          | _ => exact ⟨false, by simp only [some!, ho, hd, M.bnd, hev], .inr ⟨rfl, h⟩⟩
theorem opsK_ok (hr : RecSim rk rec) {ops : List Oper} : ∀ {l : List Oper} {t : Tm} {s : St} {k : Tm → St → A}, (opsK C ops l).run rk t s k = .ok r → ∃ t' s', execOps C rec ops l t s = .ok (t', s') ∧ k t' s' = .ok r
  | [], t, s, k, h => ⟨t, s, rfl, h⟩
  | o :: rest, t, s, k, h => by
    have run : wantedA ops (evalA C.G t) o.guard = .ok true → (opK C o.op).run rk t s (fun v s => (dstK o.dst).run _ t v fun t => (opsK C ops rest).run rk t s k) = .ok r → ∃ t' s', execOps C rec ops (o :: rest) t s = .ok (t', s') ∧ k t' s' = .ok r := by
      intro hw h
      obtain ⟨v, s1, h1, h⟩ := opK_ok hr h
      obtain ⟨t1, h2, h⟩ := dstK_ok h
      obtain ⟨t2, s2, h3, h⟩ := opsK_ok hr h
      exact ⟨t2, s2, by simp only [execOps, hw, h1, h2, h3, M.bnd], h⟩
    cases hg : o.guard with
    | none =>
      refine run (by rw [hg]; rfl) ?_
      simp only [opsK, hg] at h
      cases hd : o.dst with
      | none => rw [hd] at h; exact h
      | some d => rw [hd] at h; exact h
    | some g =>
      simp only [opsK, hg] at h
      obtain ⟨w, hw, h⟩ := wantK_ok (C := C) h
      rcases h with ⟨rfl, h⟩ | ⟨rfl, h⟩
      · exact run (by rw [hg]; exact hw) h
      · obtain ⟨t1, h2, h⟩ := dstK_ok h
        obtain ⟨t2, s2, h3, h⟩ := opsK_ok hr h
        exact ⟨t2, s2, by simp only [execOps, hg, hw, h2, h3, M.bnd], h⟩
theorem readAll_mono {f g : St → M Value} (hfg : ∀ s v, f s = .ok v → g s = .ok v) {bef : Nat} : ∀ {gs : List Stage} {v : Value}, readAll f bef gs = .ok v → readAll g bef gs = .ok v
  | [], v, h => by cases h
  | a :: gs, v, h => by
    simp only [readAll] at h ⊢
    obtain ⟨u, h1, h⟩ := bnd_ok.1 h
    rw [hfg _ _ h1]
    simp only [M.bnd]
    split at h
    · exact h
    · split at h
      · exact h
      · obtain ⟨w, h2, h⟩ := bnd_ok.1 h
        rw [readAll_mono hfg h2]
        exact h
theorem floatK_ok {ops : List Oper} {p : PI} {t : Tm} {s : St} {gs : List Stage} {k : Value → St → A} (hw : wantedA ops (evalA C.G t) p.o.guard = .ok true) (h : (floatK C p).run t s gs k = .ok r) : ∃ v s', floatA C ops p t s gs = .ok (v, s') ∧ k v s' = .ok r := by
  unfold floatK at h
  unfold floatA
  rw [hw]
  simp only [M.bnd]
  cases hc : p.cls with
  | read =>
    rw [hc] at h
    obtain ⟨v, h1, h⟩ := Bnd h
    have h2 := readAll_mono (g := fun s => fstA (simpleA C s (evalA C.G t) p.o.op)) (fun s v hv => by
      obtain ⟨u, s1, h3, h4⟩ := simK_ok hv
      cases h4
      simp only [fstA, h3, M.bnd]) h1
    exact ⟨v, s, by simp only [h2], h⟩
  | pure =>
    rw [hc] at h
    obtain ⟨v, s1, h1, h⟩ := simK_ok h
    exact ⟨v, s, by simp only [h1, fstA, M.bnd], h⟩
  | alloc =>
    rw [hc] at h
    obtain ⟨v, s1, h1, h⟩ := simK_ok h
    dsimp only at h
    split at h
    · rename_i hb; exact ⟨v, s1, by simp only [h1, hb], h⟩
    · cases h
  | write => rw [hc] at h; cases h
theorem floatsK_ok {ops : List Oper} : ∀ {l : List PI} {t : Tm} {s : St} {gs : List Stage} {k : Tm → St → A}, (floatsK C ops l).run t s gs k = .ok r → ∃ t' s', floatsA C ops gs l t s = .ok (t', s') ∧ k t' s' = .ok r
  | [], t, s, gs, k, h => ⟨t, s, rfl, h⟩
  | p :: ps, t, s, gs, k, h => by
    obtain ⟨w, hw, h⟩ := wantK_ok (C := C) h
    rcases h with ⟨rfl, h⟩ | ⟨rfl, h⟩
    · obtain ⟨v, s1, h1, h⟩ := floatK_ok hw h
      obtain ⟨t1, h2, h⟩ := dstK_ok h
      obtain ⟨t2, s2, h3, h⟩ := floatsK_ok h
      exact ⟨t2, s2, by simp only [floatsA, h1, h2, h3, M.bnd], h⟩
    · obtain ⟨t1, h2, h⟩ := dstK_ok h
      obtain ⟨t2, s2, h3, h⟩ := floatsK_ok h
      exact ⟨t2, s2, by simp only [floatsA, floatA, hw, h2, h3, M.bnd], h⟩
theorem segsK_ok (hr : RecSim rk rec) {ops : List Oper} {last : List PI} : ∀ {l : List (List PI × PI)} {t : Tm} {s : St} {gs : List Stage} {k : Tm → St → A}, (segsK C ops last l).run rk t s gs k = .ok r → ∃ t' s', segsA C rec ops last l t s gs = .ok (t', s') ∧ k t' s' = .ok r
  | [], t, s, gs, k, h => floatsK_ok h
  | (fl, w) :: rest, t, s, gs, k, h => by
    obtain ⟨t1, s1, h1, h⟩ := floatsK_ok h
    obtain ⟨b, hw, h⟩ := wantK_ok (C := C) h
    rcases h with ⟨rfl, h⟩ | ⟨rfl, h⟩
    · obtain ⟨v, s2, h2, h⟩ := opK_ok hr h
      split at h
      · rename_i hb
        obtain ⟨t2, h3, h⟩ := dstK_ok h
        obtain ⟨t3, s3, h4, h⟩ := segsK_ok hr h
        exact ⟨t3, s3, by simp only [segsA, h1, writeA, hw, h2, hb, h3, h4, M.bnd], h⟩
      · cases h
    · obtain ⟨t2, h3, h⟩ := dstK_ok h
      obtain ⟨t3, s3, h4, h⟩ := segsK_ok hr h
      exact ⟨t3, s3, by simp only [segsA, h1, writeA, hw, h3, h4, M.bnd], h⟩
theorem regionK_ok (hr : RecSim rk rec) {ops : List Oper} {draw : Bool} {t : Tm} {s : St} {k : Tm → St → A} (h : (regionK C ops draw).run rk t s k = .ok r) : ∃ t' s', regionA C rec ops draw t s = .ok (t', s') ∧ k t' s' = .ok r := by
  unfold regionK at h
  unfold regionA
  cases draw with
  | false => exact opsK_ok hr h
  | true =>
    simp only [] at h ⊢
    cases hp : planA C ops with
    | error e => rw [hp] at h; cases h
    | ok pl =>
      rw [hp] at h
      exact segsK_ok hr h
theorem rangeCallK_ok (hr : RecSim rk rec) {rd : Option Nat} {f : Operand} {t : Tm} {ms : List Nat} {l : Nat} {s : St} {kn : Tm → List Nat → St → A} {kx : Ex → Tm → List Nat → St → A} (h : rangeCallK C rk rd (opdK C.G f) t ms l s kn kx = .ok r) : ∃ e t' ms' s', (M.bnd (evalA C.G t f) fun v => match v with
    | .func (.func g) first cap => M.bnd (callF C rec g (first.toList ++ [.func (.yield l) #[] #[]] ++ cap.toList) s) fun (_, s) => M.bnd (rdLoop s l) fun r => match r.st with
      | .busy => .error "range over a function busy"
      | _ => M.bnd (putO s l (.loop { r with st := .exhausted })) fun s => match r.pend with
        | none => .ok (.normal, ⟨t, ms⟩, s)
        | some c => rec rd c ⟨t, ms⟩ s
    | _ => .error "range over what" : R) = .ok (e, ⟨t', ms'⟩, s') ∧ contK kn kx e t' ms' s' = .ok r := by
  obtain ⟨v, h1, h⟩ := opdK_ok h
  rw [h1]
  split at h
  · split at h
    · obtain ⟨u, s1, h2, h⟩ := funK_ok hr h
      obtain ⟨lp, h3, h4, h⟩ := loopK_ok h
      simp only [M.bnd, h2, h4]
      have tail : layK s1 l (.loop { lp with st := .exhausted }) (fun s => match lp.pend with
          | none => kn t ms s
          | some c => rk rd c t ms s kn kx) = .ok r → ∃ e t' ms' s', (M.bnd (putO s1 l (.loop { lp with st := .exhausted })) fun s => match lp.pend with
          | none => .ok (.normal, ⟨t, ms⟩, s)
          | some c => rec rd c ⟨t, ms⟩ s : R) = .ok (e, ⟨t', ms'⟩, s') ∧ contK kn kx e t' ms' s' = .ok r := by
        intro h
        obtain ⟨s2, h5, h⟩ := layK_ok h3 h
        rw [h5]
        simp only [M.bnd]
        split at h
        · exact ⟨_, _, _, _, rfl, h⟩
        · exact hr _ _ _ _ _ _ _ _ h
      cases hst : lp.st with
      | busy => rw [hst] at h; cases h
      | ready => rw [hst] at h; exact tail h
      | exhausted => rw [hst] at h; exact tail h
      | done => rw [hst] at h; exact tail h
    · cases h
  · cases h
theorem codeK_ok (hr : RecSim rk rec) : RecSim (fun rd c t ms s kn kx => (codeK C c).run rk rd t ms s kn kx) (fun rd c fr s => codeA C rec rd c fr s) := by
  intro rd c t ms s kn kx r h
  simp only [] at h ⊢
  cases c
  case skip => exact ⟨_, _, _, _, rfl, h⟩
  case label => exact ⟨_, _, _, _, rfl, h⟩
  case seq a b =>
    obtain ⟨e, t1, ms1, s1, h1, h⟩ := hr _ _ _ _ _ _ _ _ h
    cases e with
    | normal =>
      obtain ⟨e, t2, ms2, s2, h2, h⟩ := hr _ _ _ _ _ _ _ _ h
      exact ⟨e, t2, ms2, s2, by simp only [codeA, h1, h2, M.bnd], h⟩
    | ret => exact ⟨.ret, t1, ms1, s1, by simp only [codeA, h1, M.bnd], h⟩
    | exit i => exact ⟨.exit i, t1, ms1, s1, by simp only [codeA, h1, M.bnd], h⟩
  case cond x a b =>
    obtain ⟨v, h1, h⟩ := opdK_ok h
    rcases boolV_ok h with ⟨rfl, h⟩ | ⟨rfl, h⟩
    · obtain ⟨e, t2, ms2, s2, h2, h⟩ := hr _ _ _ _ _ _ _ _ h
      exact ⟨e, t2, ms2, s2, by simp only [codeA, h1, h2, M.bnd], h⟩
    · obtain ⟨e, t2, ms2, s2, h2, h⟩ := hr _ _ _ _ _ _ _ _ h
      exact ⟨e, t2, ms2, s2, by simp only [codeA, h1, h2, M.bnd], h⟩
  case block id body =>
    obtain ⟨e, t1, ms1, s1, h1, h⟩ := hr _ _ _ _ _ _ _ _ h
    cases e with
    | normal => exact ⟨.normal, t1, ms1, s1, by simp only [codeA, h1, M.bnd], h⟩
    | ret => exact ⟨.ret, t1, ms1, s1, by simp only [codeA, h1, M.bnd], h⟩
    | exit i =>
      simp only [contK] at h
      cases hb : Nat.beq i id with
      | true => rw [hb] at h; exact ⟨.normal, t1, ms1, s1, by simp only [codeA, h1, M.bnd, hb], h⟩
      | false => rw [hb] at h; exact ⟨.exit i, t1, ms1, s1, by simp only [codeA, h1, M.bnd, hb], h⟩
  case loop body =>
    obtain ⟨e, t1, ms1, s1, h1, h⟩ := hr _ _ _ _ _ _ _ _ h
    cases e with
    | normal =>
      obtain ⟨e, t2, ms2, s2, h2, h⟩ := hr _ _ _ _ _ _ _ _ h
      exact ⟨e, t2, ms2, s2, by simp only [codeA, h1, h2, M.bnd], h⟩
    | ret => exact ⟨.ret, t1, ms1, s1, by simp only [codeA, h1, M.bnd], h⟩
    | exit i => exact ⟨.exit i, t1, ms1, s1, by simp only [codeA, h1, M.bnd], h⟩
  case exit id => exact ⟨_, _, _, _, rfl, h⟩
  case ret => exact ⟨_, _, _, _, rfl, h⟩
  case region n ops draw =>
    obtain ⟨t1, s1, h1, h⟩ := regionK_ok hr h
    exact ⟨.normal, t1, ms, s1, by simp only [codeA, h1]; rfl, h⟩
  case rangeFunc f params assign body =>
    unfold codeA rangeA
    cases rd with
    | none =>
      obtain ⟨s1, h1, h⟩ := newK_ok (show newK s .defd (fun d s => newK s (.loop { st := .ready, pend := none, tmps := t, params, assign, body }) fun l s => rangeCallK C rk none (opdK C.G f) t (d :: ms) l s kn kx) = .ok r from h)
      obtain ⟨s2, h2, h⟩ := newK_ok h
      simp only [h1, h2, M.bnd]
      exact rangeCallK_ok hr h
    | some l =>
      obtain ⟨lp, _, h1, h⟩ := loopK_ok (show loopK s l (fun _ => newK s (.loop { st := .ready, pend := none, tmps := t, params, assign, body }) fun l2 s => rangeCallK C rk (some l) (opdK C.G f) t ms l2 s kn kx) = .ok r from h)
      obtain ⟨s2, h2, h⟩ := newK_ok h
      simp only [h1, h2, M.bnd]
      exact rangeCallK_ok hr h
  case scope body => exact hr _ _ _ _ _ _ _ _ h
  case goto l => cases h
  case refuse x => cases h
theorem execK_ok : ∀ n : Nat, RecSim (execK C n) (exec C n)
  | 0 => fun _ _ _ _ _ _ _ _ h => by cases h
  | n + 1 => codeK_ok (execK_ok n)
/-- what the kernel reckons is what the executor comes to -/
theorem runK_ok {n f : Nat} {args : List Value} {s s' : St} {v : Value} (h : runK C n f args s = .ok (v, s')) : callF C (exec C n) f args s = .ok (v, s') := by
  obtain ⟨u, s1, h1, h2⟩ := funK_ok (execK_ok n) h
  cases h2
  exact h1
end
end Go.Proofs.YtoddlefhlicfiaaGreatDoorR.X
