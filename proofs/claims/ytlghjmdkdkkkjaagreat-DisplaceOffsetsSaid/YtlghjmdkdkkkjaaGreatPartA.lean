/- A part of a proof: an abstract machine for the given program, and what it says of it. No condition. -/
import Derived.Below
import Derived.Scope
import Derived.Calls
import Derived.Laws.Cells
import Derived.Laws.Small
import Derived.Laws.StructEq
import Derived.Laws.Slices
namespace Go.E

/-! Values of the abstract machine: trees. -/
inductive AV where
  | undef
  | int (k : IntKind) (n : Int)
  | bool (b : Bool)
  | str (s : ByteArray)
  | nilp
  | nilf
  | agg (xs : List AV)
  | sl (st : Nat) (xs : List AV)
  | osl (st : Nat) (xs : List AV)
  | arr (st : Nat) (xs : List AV)
  | ro (x : AV)
  | fn (f : FuncId) (caps : List AV)
  | map (ks vs : List AV)
  | rmap (ks vs : List AV)
  | tup (xs : List AV)
  deriving Inhabited

/-- A closure's captured variable: a box of this frame, or a pointer that shows its value for good. -/
inductive Cap where
  | slot (c : Nat)
  | ro (x : AV)
  deriving Inhabited

inductive Slot where
  | any
  | non
  | v (x : AV)
  | cell (x : AV)
  | loc (s : Nat) (p : List Nat)
  | view (s : Nat) (p : List Nat)
  | box (s : Nat) (p : List Nat)
  | clo (f : FuncId) (caps : List Cap)
  deriving Inhabited

abbrev Frame := List Slot

/-! Sizes -/
mutual
def leaves : AV → Nat
  | .agg xs => leavesL xs
  | _ => 1
def leavesL : List AV → Nat
  | [] => 0
  | x :: xs => leaves x + leavesL xs
end

/-! Is it persistent? -/
mutual
def isP : AV → Bool
  | .undef => false
  | .int _ _ => true
  | .bool _ => true
  | .str _ => true
  | .nilp => true
  | .nilf => true
  | .agg xs => isPL xs
  | .sl _ _ => true
  | .osl _ _ => false
  | .arr _ _ => false
  | .ro _ => true
  | .fn _ _ => true
  | .map _ _ => false
  | .rmap _ _ => true
  | .tup xs => isPL xs
def isPL : List AV → Bool
  | [] => true
  | x :: xs => isP x && isPL xs
end

/-! Nothing in it is to be frozen -/
mutual
def isF : AV → Bool
  | .undef => false
  | .int _ _ => true
  | .bool _ => true
  | .str _ => true
  | .nilp => true
  | .nilf => true
  | .agg xs => isFL xs
  | .sl _ _ => true
  | .osl _ _ => true
  | .arr _ _ => false
  | .ro _ => true
  | .fn _ _ => true
  | .map _ _ => false
  | .rmap _ _ => true
  | .tup _ => false
def isFL : List AV → Bool
  | [] => true
  | x :: xs => isF x && isFL xs
end

/-! A value that leads to no memory -/
mutual
def flatA : AV → Bool
  | .int _ _ => true
  | .bool _ => true
  | .str _ => true
  | .agg xs => flatL xs
  | .tup xs => flatL xs
  | _ => false
def flatL : List AV → Bool
  | [] => true
  | x :: xs => flatA x && flatL xs
end

/-! The persistent reading of a value (pz), and what remains in its place (fz). -/
mutual
def pz : AV → AV
  | .agg xs => .agg (pzL xs)
  | .osl st xs => .sl st xs
  | .arr st xs => .sl st (pzL xs)
  | .map ks vs => .rmap ks vs
  | .tup xs => .tup (pzL xs)
  | x => x
def pzL : List AV → List AV
  | [] => []
  | x :: xs => pz x :: pzL xs
end
mutual
def fz : AV → AV
  | .agg xs => .agg (fzL xs)
  | .osl st xs => .osl st xs
  | .arr st xs => .osl st (pzL xs)
  | .map ks vs => .rmap ks vs
  | .tup xs => .tup (fzL xs)
  | x => x
def fzL : List AV → List AV
  | [] => []
  | x :: xs => fz x :: fzL xs
end

def isTup : AV → Bool
  | .tup _ => true
  | _ => false

/-! Places inside -/
def sub : AV → List Nat → Option AV
  | x, [] => some x
  | .agg xs, i :: p => match xs[i]? with | some y => sub y p | none => none
  | .arr _ xs, i :: p => match xs[i]? with | some y => sub y p | none => none
  | _, _ :: _ => none
def upd : AV → List Nat → AV → Option AV
  | _, [], y => some y
  | .agg xs, i :: p, y => match xs[i]? with
    | some z => match upd z p y with | some z' => some (.agg (xs.set i z')) | none => none
    | none => none
  | .arr st xs, i :: p, y => match xs[i]? with
    | some z => match upd z p y with | some z' => some (.arr st (xs.set i z')) | none => none
    | none => none
  | _, _ :: _, _ => none

def get (f : Frame) (t : Nat) : Slot := f.getD t .any

/-- The content that can be pointed into. -/
def rootOf : Slot → Option AV
  | .cell x => some x
  | .v (.arr st xs) => some (.arr st xs)
  | .v (.osl st xs) => some (.osl st xs)
  | .v (.map ks vs) => some (.map ks vs)
  | _ => none
def setRoot : Slot → AV → Slot
  | .cell _, y => .cell y
  | _, y => .v y
def subAt (f : Frame) (s : Nat) (p : List Nat) : Option AV :=
  match rootOf (get f s) with | some x => sub x p | none => none
def updAt (f : Frame) (s : Nat) (p : List Nat) (y : AV) : Option Slot :=
  match rootOf (get f s) with
  | some x => match upd x p y with | some x' => some (setRoot (get f s) x') | none => none
  | none => none

/-- Pointers into what is written anew go. -/
def killed (s : Nat) (p : List Nat) : Slot → Slot
  | .loc s' q => if s' == s && p.isPrefixOf q && p != q then .any else .loc s' q
  | .view s' q => if s' == s && p.isPrefixOf q then .any else .view s' q
  | .box s' q => if s' == s && p.isPrefixOf q && p != q then .any else .box s' q
  | x => x
def kill (f : Frame) (s : Nat) (p : List Nat) : Frame := f.map (killed s p)
/-- The place holds something else now. -/
def setAt (f : Frame) (s : Nat) (p : List Nat) (y : AV) : Option Frame :=
  match updAt f s p y with | some z => some ((kill f s p).set s z) | none => none

def isRoot : Slot → Bool
  | .cell _ => true
  | .v x => !isP x
  | _ => false

def killedAll (s : Nat) : Slot → Slot
  | .loc s' q => if s' == s then .any else .loc s' q
  | .view s' q => if s' == s then .any else .view s' q
  | .box s' q => if s' == s then .any else .box s' q
  | .clo g cs => if cs.any (fun c => match c with | .slot c => c == s | .ro _ => false) then .any else .clo g cs
  | x => x

def killAll (f : Frame) (s : Nat) : Frame := f.map (killedAll s)

/-- A slot gets a value. -/
def put (f : Frame) (d : Nat) (x : Slot) : Frame := if isRoot x then (killAll f d).set d x else f.set d x
def putO (f : Frame) (d : Option Nat) (x : Slot) : Frame := match d with | some d => put f d x | none => f

abbrev CallF := FuncId → List Slot → Option (AV × List Slot)

/-! Code, made ready: guards by slot; what a drawn order needs to know. -/
def tmpsOf (o : Oper) : List Nat := o.op.operands.toList.filterMap fun x => match x with | .tmp t => some t | _ => none
abbrev Guard := Option (Nat × Bool)
def looks (o : Oper) (g : Guard) : List Nat := match g with | some (d, _) => d :: tmpsOf o | none => tmpsOf o

structure DOp where
  op : Oper
  guard : Guard
  anc : Nat
  uo : List Nat
  lights : List (Oper × Guard)
  last : Bool
  carried : Bool
  deriving Inhabited

inductive ECode where
  | skip
  | region (ops : List (Oper × Guard))
  | drawn (dsts : List Nat) (ops : List DOp)
  | clr (ops : List (Oper × Guard)) (t : TypeId) (a b c : Nat) (d : Option Nat)
  | seq (a b : ECode)
  | cond (c : Operand) (thn els : ECode)
  | block (id : Nat) (body : ECode)
  | loop (body : ECode)
  | exit (id : Nat)
  | ret
  | tidy (m : Nat) (fs : List (Nat × List Nat))
  | isSl (t : Nat)
  deriving Inhabited

/-- What is to be tidied: 4 * id behind a block, + 1 ahead of a loop right in it, and behind each round, + 2 behind a region, + 3 ahead of it. Of a drawn region: the kinds of the slots, the operations that are carried, those that may be loud. -/
structure Hint where
  tidy : Nat → Option (Nat × List (Nat × List Nat))
  drawn : Nat → Option (List Nat × Nat × Nat)

structure EFn where
  body : ECode
  ntmps : Nat
  results : List (ResultVar × TypeId)
  written : List Bool
  deriving Inhabited

structure Cfg where
  P : Program
  code : Nat → Option EFn
  exc : Nat → Nat → Bool
  own : Nat → Nat → Bool
  ret : Nat → Bool
  prim : Nat → Option (CallF → List Slot → Option (AV × List Slot))
  eqT : Nat → Bool

def isAgg : AV → Bool
  | .agg _ => true
  | _ => false
def isAggV : Value → Bool
  | .agg _ => true
  | _ => false
section
variable (C : Cfg)
def under (t : TypeId) : Option TypeDesc := C.P.underlying t
def szT (t : TypeId) : Nat := match C.P.info? t with | some i => i.size | none => 0
def byT (t : TypeId) : Nat := match C.P.info? t with | some i => i.bytes | none => 0
def elemT (t : TypeId) : Option TypeId := match C.P.underlying t with | some (.slice e) => some e | _ => none
def strideT (t : TypeId) : Nat := match elemT C t with | some e => szT C e | none => 0

def aggT (t : TypeId) : Option Bool :=
  match C.P.underlying t with
  | some (.struct _) => some true
  | some (.array _ _) => some true
  | some _ => some false
  | none => none
/-- A tree of this type's form. -/
def fitsT (t : TypeId) (x : AV) : Bool := leaves x == szT C t && (C.P.info? t).isSome && aggT C t == some (isAgg x) && !isTup x

/-- The cells of a tree are these (of a zero value: no memory behind it). -/
def matchZ : AV → List Value → Option (List Value)
  | .int k n, .int k' m :: cs => if k = k' ∧ n = m then some cs else none
  | .bool b, .bool c :: cs => if b = c then some cs else none
  | .str s, .string u :: cs => if s.size = 0 ∧ u.size = 0 then some cs else none
  | .nilp, .pointer none :: cs => some cs
  | .nilf, .nilFunc :: cs => some cs
  | .arr _ [], .slice none 0 0 :: cs => some cs
  | .rmap [] [], .map none :: cs => some cs
  | .agg xs, cs => matchZL xs cs
  | _, _ => none
where matchZL : List AV → List Value → Option (List Value)
  | [], cs => some cs
  | x :: xs, cs => match matchZ x cs with | some cs' => matchZL xs cs' | none => none

def zeroT : Nat → TypeId → Option AV
  | 0, _ => none
  | d + 1, t => match C.P.underlying t with
    | some (.int k) => some (.int k 0)
    | some .bool => some (.bool false)
    | some .string => some (.str ⟨#[]⟩)
    | some (.slice e) => some (.arr (szT C e) [])
    | some (.map _ _) => some (.rmap [] [])
    | some (.pointer _) => some .nilp
    | some (.func _ _ _) => some .nilf
    | some (.struct fs) => (fs.toList.mapM fun f => zeroT d f.type).map .agg
    | _ => none

/-- The zero value, as the program's own table of types has it too. -/
def zeroA (t : TypeId) : Option AV :=
  match zeroT C 20 t, (C.P.info? t).bind (·.zero) with
  | some z, some v => match matchZ z v.cells.toList with | some [] => if isAggV v == isAgg z then some z else none | _ => none
  | _, _ => none

def constA (t : TypeId) : Value → Option AV
  | .int k n => some (.int k n)
  | .bool b => some (.bool b)
  | .string s => some (.str s)
  | .slice none 0 0 => some (.arr (strideT C t) [])
  | .pointer none => some .nilp
  | .nilFunc => some .nilf
  | .map none => some (.rmap [] [])
  | _ => none

/-! Readers that change nothing but what they consume. -/
/-- A slot's value handed on: what is exclusive moves (its slot is told). -/
def moveQ (f : Frame) (ty : TypeId) : Operand → Option (AV × List Nat)
  | .tmp t => match get f t with
    | .v x => if isP x then some (x, []) else some (x, [t])
    | .view s p => match subAt f s p with | some (.osl st xs) => some (.sl st xs, []) | _ => none
    | _ => none
  | .const c => match constA C ty c with | some x => some (x, []) | none => none
  | .func g => some (.fn g [], [])
  | .global _ => none
def movesQ (f : Frame) : List (TypeId × Operand) → Option (List AV × List Nat)
  | [] => some ([], [])
  | (ty, x) :: xs => match moveQ C f ty x with
    | some (y, c) => match movesQ f xs with
      | some (ys, cs) => if c.any cs.contains then none else some (y :: ys, c ++ cs)
      | none => none
    | none => none
/-- The same, all persistent. -/
def byValQ (f : Frame) (ty : TypeId) (x : Operand) : Option (AV × List Nat) :=
  match moveQ C f ty x with | some (y, c) => some (pz y, c) | none => none
def byValsQ (f : Frame) (l : List (TypeId × Operand)) : Option (List AV × List Nat) :=
  match movesQ C f l with | some (ys, cs) => some (pzL ys, cs) | none => none

/-! Readers that freeze. -/
/-- All boxes of a closure frozen. -/
def freezeCaps (f : Frame) : List Cap → Option (List AV × Frame)
  | [] => some ([], f)
  | .slot c :: cs =>
    match get f c with
    | .cell x =>
        match freezeCaps (f.set c (.v (.ro (pz x)))) cs with
        | some (ys, f') => some (.ro (pz x) :: ys, f')
        | none => none
    | _ => none
  | .ro x :: cs =>
      match freezeCaps f cs with
      | some (ys, f') => some (.ro x :: ys, f')
      | none => none

/-- A slot read by value: persistent; what it was read from is frozen. -/
def byValS (f : Frame) (t : Nat) : Option (AV × Frame) :=
  match get f t with
  | .v x => if isP x then some (x, f) else if isTup x then none else some (pz x, f.set t (.v (fz x)))
  | .cell x => some (.ro (pz x), f.set t (.v (.ro (pz x))))
  | .loc s p =>
    match get f s with
    | .cell x =>
        match sub (pz x) p with
        | some y => some (.ro y, f.set s (.v (.ro (pz x))))
        | none => none
    | _ => none
  | .view s p =>
    match subAt f s p with
    | some (.osl st xs) => some (.sl st xs, f)
    | some y => match updAt f s p (fz y) with | some z => some (pz y, f.set s z) | none => none
    | none => none
  | .clo g cs =>
    match freezeCaps f cs with
    | some (ys, f') => some (.fn g ys, f')
    | none => none
  | .box _ _ => none
  | .any => none
  | .non => none

def byVal (f : Frame) (ty : TypeId) : Operand → Option (AV × Frame)
  | .tmp t => byValS f t
  | x => match byValQ C f ty x with | some (y, _) => some (y, f) | none => none

/-- A slot's value handed on: what is exclusive moves, or is frozen. -/
def moveOut (f : Frame) (ty : TypeId) : Operand → Option (AV × Frame)
  | .tmp t => match get f t with
    | .v x => if isP x then some (x, f) else some (x, f.set t .any)
    | _ => byValS f t
  | x => match moveQ C f ty x with | some (y, _) => some (y, f) | none => none

/-! Numbers and tests -/
/-- Plain values. -/
def eqA : AV → AV → Option Bool
  | .int k a, .int k' b => if k = k' then some (a == b) else none
  | .bool a, .bool b => some (a == b)
  | .str a, .str b => some (a.toList == b.toList)
  | _, _ => none
def eqL : List AV → List AV → Option Bool
  | [], [] => some true
  | x :: xs, y :: ys => match eqA x y with | some true => eqL xs ys | some false => some false | none => none
  | _, _ => none

/-- Keys. -/
def eqK : AV → AV → Option Bool
  | .agg xs, .agg ys => eqL xs ys
  | x, y => eqA x y

def bitsA (op : BinOp) (k : IntKind) (x y : Int) : Option Int :=
  let a := BitVec.ofInt k.bits x
  let b := BitVec.ofInt k.bits y
  match op with
  | .and => some (k.wrap (a &&& b).toNat)
  | .or => some (k.wrap (a ||| b).toNat)
  | .xor => some (k.wrap (a ^^^ b).toNat)
  | .andNot => some (k.wrap (a &&& ~~~b).toNat)
  | _ => none

def binA (op : BinOp) : AV → AV → Option AV
  | .int k a, .int k' b =>
    match op with
    | .shl => if b < 0 then none else some (.int k (k.wrap (a * 2 ^ min b.toNat k.bits)))
    | .shr => if b < 0 then none else some (.int k (a.fdiv (2 ^ min b.toNat k.bits)))
    | _ => if k ≠ k' then none else
      match op with
      | .add => some (.int k (k.wrap (a + b)))
      | .sub => some (.int k (k.wrap (a - b)))
      | .mul => some (.int k (k.wrap (a * b)))
      | .quo => if b = 0 then none else some (.int k (k.wrap (a.tdiv b)))
      | .rem => if b = 0 then none else some (.int k (a.tmod b))
      | .eql => some (.bool (a == b))
      | .neq => some (.bool (a != b))
      | .lss => some (.bool (a < b))
      | .leq => some (.bool (a ≤ b))
      | .gtr => some (.bool (a > b))
      | .geq => some (.bool (a ≥ b))
      | _ => match bitsA op k a b with | some n => some (.int k n) | none => none
  | .str a, .str b =>
    match op with
    | .add => if ((a.size + b.size : Nat) : Int) > 9223372036854775807 then none else some (.str (a ++ b))
    | .eql => some (.bool (a.toList == b.toList))
    | .neq => some (.bool !(a.toList == b.toList))
    | .lss => some (.bool (Op.bytesLess a.toList b.toList))
    | .leq => some (.bool (Op.bytesLess a.toList b.toList || a.toList == b.toList))
    | .gtr => some (.bool !(Op.bytesLess a.toList b.toList || a.toList == b.toList))
    | .geq => some (.bool !(Op.bytesLess a.toList b.toList))
    | _ => none
  | .bool a, .bool b =>
    match op with
    | .eql => some (.bool (a == b))
    | .neq => some (.bool !(a == b))
    | _ => none
  | .agg xs, .agg ys =>
    match op with
    | .eql => match eqL xs ys with | some b => some (.bool b) | none => none
    | .neq => match eqL xs ys with | some b => some (.bool !b) | none => none
    | _ => none
  | _, _ => none

def unA (op : UnOp) : AV → Option AV
  | .int k n => match op with
    | .neg => some (.int k (k.wrap (0 - n)))
    | .xor => match bitsA .xor k (if k.signed then -1 else k.max) n with | some m => some (.int k m) | none => none
    | _ => none
  | .bool b => match op with | .not => some (.bool !b) | _ => none
  | _ => none

def flat1 (t : TypeId) : AV → Bool
  | .int _ _ => (match C.P.underlying t with | some (.int _) => true | _ => false)
  | .bool _ => (match C.P.underlying t with | some .bool => true | _ => false)
  | .str _ => (match C.P.underlying t with | some .string => true | _ => false)
  | _ => false
def flatFits : List Field → List AV → Bool
  | [], [] => true
  | g :: gs, x :: xs => flat1 C g.type x && flatFits gs xs
  | _, _ => false
def okAgg (t : TypeId) (xs : List AV) : Bool := C.eqT t && (match C.P.underlying t with | some (.struct fs) => flatFits C fs.toList xs | _ => false)

/-- The operands' type is that of their form (where the comparison looks at it). -/
def okBin (t : TypeId) : AV → Bool
  | .bool _ => (match C.P.underlying t with | some .bool => true | _ => false)
  | .agg xs => okAgg C t xs
  | _ => true

/-- A key of its type's form. -/
def okKey (t : TypeId) : AV → Bool
  | .agg xs => okAgg C t xs
  | x => flat1 C t x

def minmaxA (mx : Bool) : AV → AV → Option AV
  | .int k x, .int _ y => some (.int k (if mx then (if y > x then y else x) else (if y < x then y else x)))
  | _, _ => none

/-- Where field i of a struct type begins, and its type. -/
def fieldT (t : TypeId) (i : Nat) : Option (Nat × TypeId) :=
  match C.P.underlying t with
  | some (.struct fs) => match fs[i]? with | some g => some (g.offset, g.type) | none => none
  | _ => none
def okField (t : TypeId) (i : Nat) (xs : List AV) : Bool :=
  match fieldT C t i, xs[i]? with
  | some (o, u), some y => o == leavesL (xs.take i) && fitsT C u y && szT C u != 0
  | _, _ => false

def idxA (i : AV) (n : Nat) : Option Nat :=
  match i with
  | .int _ k => if 0 ≤ k ∧ k < n then some k.toNat else none
  | _ => none

def findK (k : AV) : List AV → Nat → Option (Option Nat)
  | [], _ => some none
  | x :: xs, i => match eqK k x with | some true => some (some i) | some false => findK k xs (i + 1) | none => none

def lenA : Option TypeDesc → AV → Option Nat
  | some (.slice _), .sl _ xs => some xs.length
  | some (.slice _), .osl _ xs => some xs.length
  | some (.slice _), .arr _ xs => some xs.length
  | some .string, .str s => some s.size
  | some (.map _ _), .map ks _ => some ks.length
  | some (.map _ _), .rmap ks _ => some ks.length
  | _, _ => none

/-- What a slot shows where it is looked into: the value itself, or that of the place. -/
def look (f : Frame) (t : Nat) : Option AV :=
  match get f t with
  | .v x => some x
  | .view s p => subAt f s p
  | _ => none
def lookO (f : Frame) (ty : TypeId) : Operand → Option AV
  | .tmp t => look f t
  | .const c => constA C ty c
  | _ => none

/-- A pointer's place: (slot, path), or what it shows for good. -/
inductive Ptr where
  | at (s : Nat) (p : List Nat)
  | ro (x : AV)
def ptrOf (f : Frame) : Operand → Option Ptr
  | .tmp t => match get f t with
    | .cell _ => some (.at t [])
    | .loc s p => some (.at s p)
    | .v (.ro x) => some (.ro x)
    | _ => none
  | _ => none

/-- A pointer's place, where it is boxed. -/
def placeOf (f : Frame) : Operand → Option (Nat × List Nat)
  | .tmp t => match get f t with
    | .cell _ => some (t, [])
    | .loc s p => some (s, p)
    | _ => none
  | _ => none
/-- The place that a box holds. -/
def unbox (f : Frame) : Operand → Option (Nat × List Nat)
  | .tmp t => match get f t with
    | .box s p => some (s, p)
    | _ => none
  | _ => none

/-- append: the base is taken out of its place. -/
def takeAt (f : Frame) (s : Nat) (p : List Nat) : Option (AV × Frame) :=
  match subAt f s p with
  | some y => match setAt f s p .undef with | some f1 => some (y, f1) | none => none
  | none => none

def slOf : AV → Option (Nat × List AV)
  | .sl st xs => some (st, xs)
  | .osl st xs => some (st, xs)
  | .arr st xs => if isPL xs then some (st, xs) else none
  | _ => none

def opT : Operand → Option Nat
  | .tmp t => some t
  | _ => none

def sameT (x y : Operand) : Bool := match opT x, opT y with | some a, some b => a == b | _, _ => false
/-- The type has a zero value of its size. -/
def zeroOk (e : TypeId) : Bool := match (C.P.info? e).bind (·.zero) with | some z => z.cells.size == szT C e | none => false
def appendA (ex : Bool) (e : TypeId) (x : AV) (ys : List AV) (sty : Nat) : Option AV :=
  let st := szT C e
  if st == 0 || byT C e == 0 || !zeroOk C e then none else
  if !(sty == st || ys.isEmpty) then none else
  match x with
  | .arr sx xs =>
    if !(sx == st) then none else
    if (xs.length + ys.length) * byT C e > 140737488355328 then none else
    if ex then some (.arr st (xs ++ ys)) else if isPL xs then some (.osl st (xs ++ ys)) else some (.arr st (xs ++ ys))
  | .osl sx xs =>
    if !(sx == st) then none else
    if (xs.length + ys.length) * byT C e > 140737488355328 then none else
    some (.osl st (xs ++ ys))
  | _ => none

def noOwn (own : Nat → Bool) : Nat → Nat → Bool
  | _, 0 => true
  | i, n + 1 => !own i && noOwn own (i + 1) n

/-- A place that is lent to a call: the root's slot, and the place. -/
def lentAt (own : Nat → Bool) (f : Frame) (i : Nat) : Operand → Option (Nat × List Nat)
  | .tmp t => match get f t with
    | .cell _ => some (t, [])
    | .loc s p => some (s, p)
    | .view s p => if own i then some (s, p) else none
    | _ => none
  | _ => none

/-- A call's arguments but for those that are lent (none). -/
def valsOf (own : Nat → Bool) (f : Frame) (i : Nat) : List (TypeId × Operand) → Option (List (Option AV) × Frame)
  | [] => some ([], f)
  | (ty, x) :: xs =>
    match lentAt own f i x with
    | some _ => match valsOf own f (i + 1) xs with | some (ys, f2) => some (none :: ys, f2) | none => none
    | none => match (if own i then moveOut C f ty x else byVal C f ty x) with
      | some (y, f1) => match valsOf own f1 (i + 1) xs with | some (ys, f2) => some (some y :: ys, f2) | none => none
      | none => none

/-- A lent place, as the call gets it. -/
def lend (f : Frame) : Operand → Option (Slot × Nat × List Nat × AV)
  | .tmp t => match get f t with
    | .cell y => some (.cell y, t, [], y)
    | .loc s p => match subAt f s p with | some y => some (.cell y, s, p, y) | none => none
    | .view s p => match subAt f s p with | some y => some (.v y, s, p, y) | none => none
    | _ => none
  | _ => none

def fill (f : Frame) : List Operand → List (Option AV) → Option (List Slot × List Nat)
  | [], [] => some ([], [])
  | _ :: xs, some y :: ys => match fill f xs ys with | some (as_, ls) => some (.v y :: as_, ls) | none => none
  | x :: xs, none :: ys => match lend f x with
    | some (a, s, _, _) => match fill f xs ys with | some (as_, ls) => if ls.contains s then none else some (a :: as_, s :: ls) | none => none
    | none => none
  | _, _ => none

/-- What came back in a parameter's slot, for the place that was lent. -/
def gave : Slot → Slot → Option AV
  | .cell _, .cell y => some y
  | .v _, .v y => if isTup y || isAgg y then none else some y
  | _, _ => none
def backs (f e : Frame) : List Operand → List (Option AV) → List Slot → Option Frame
  | [], [], _ => some e
  | _ :: xs, some _ :: ys, _ :: rs => backs f e xs ys rs
  | x :: xs, none :: ys, r :: rs => match lend f x with
    | some (a, s, p, y) => match gave a r with
      | some y' => if leaves y' == leaves y then
          match setAt e s p y' with
          | some e1 => backs f e1 xs ys rs
          | none => none
        else none
      | none => none
    | none => none
  | _, _, _ => none

/-- A call that isn't quiet: places are lent, or arguments are frozen or handed over. -/
def callA (call : CallF) (f : Frame) (d : Option Nat) (g : FuncId) (args : List (TypeId × Operand)) (caps : List AV) : Option Frame :=
  match valsOf C (C.own g) f 0 args with
  | none => none
  | some (ys, f1) =>
    match fill f1 (args.map (·.2)) ys with
    | none => none
    | some (as_, ls) =>
      match call g (as_ ++ caps.map .v) with
      | none => none
      | some (r, outs) =>
        if flatA r && ls.isEmpty && noOwn (C.own g) 0 args.length then some (putO f d (.v r)) else
        match backs f1 f1 (args.map (·.2)) ys outs with
        | none => none
        | some f2 => some (putO f2 d (.v r))

def capOf (f : Frame) : Operand → Option Cap
  | .tmp t => match get f t with
    | .cell _ => some (.slot t)
    | .v (.ro x) => some (.ro x)
    | _ => none
  | _ => none
def capsOf (f : Frame) : List Operand → Option (List Cap)
  | [] => some []
  | x :: xs => match capOf f x with
    | some y => match capsOf f xs with | some ys => some (y :: ys) | none => none
    | none => none

def capSlots (f : Frame) : List Cap → Option (List Nat)
  | [] => some []
  | .slot c :: cs => match get f c with
    | .cell _ => match capSlots f cs with | some ss => some (c :: ss) | none => none
    | _ => none
  | .ro _ :: _ => none

def setAll (zs : List AV) : List (Nat × AV) → Option (List AV)
  | [] => some zs
  | (i, y) :: ys => match zs[i]? with | some z => if leaves z == leaves y then setAll (zs.set i y) ys else none | none => none

/-- The fields lie one behind the other, as the tree has them. -/
def offsOk : Nat → List Field → List AV → Bool
  | _, [], [] => true
  | n, g :: gs, z :: zs => g.offset == n && szT C g.type == leaves z && (C.P.info? g.type).isSome && offsOk (n + leaves z) gs zs
  | _, _, _ => false

def optInt (f : Frame) (dflt : Int) : Option Operand → Option Int
  | none => some dflt
  | some x => match lookO C f 0 x with | some (.int _ n) => some n | _ => none

def foldMM (mx : Bool) (f : Frame) (a : AV) : List Operand → Option AV
  | [] => some a
  | x :: xs => match lookO C f 0 x with
    | some b => match minmaxA mx a b with | some c => foldMM mx f c xs | none => none
    | none => none

def lookupA (ok : Bool) (z : AV) (k : AV) (ks vs : List AV) : Option AV :=
  match findK k ks 0 with
  | some (some i) => match vs[i]? with
    | some u => if isP u then some (if ok then .tup [u, .bool true] else u) else none
    | none => none
  | some none => some (if ok then .tup [pz z, .bool false] else pz z)
  | none => none

/-- An operation that changes nothing but its own slot and the slots that it consumes. -/
def quiet (fid : Nat) (call : CallF) (o : Oper) (f : Frame) : Option (List Nat × Slot) :=
  match o.op with
  | .move (.tmp t) => match get f t with
    | .v x => if isP x then some ([], .v x) else
      match x with
      | .osl _ _ => some ([], .view t [])
      | .arr _ _ => some ([], .view t [])
      | .map _ _ => some ([], .view t [])
      | _ => some ([t], .v x)
    | .cell _ => some ([], .loc t [])
    | .any => none
    | .non => none
    | x => some ([], x)
  | .assign (.tmp t) => match get f t with
    | .cell _ => some ([], .loc t [])
    | .loc s p => some ([], .loc s p)
    | .clo g cs => some ([], .clo g cs)
    | .view _ _ => if C.ret fid then none else match moveQ C f o.type (.tmp t) with | some (x, cs) => some (cs, .v x) | none => none
    | _ => match moveQ C f o.type (.tmp t) with | some (x, cs) => some (cs, .v x) | none => none
  | .move x => match moveQ C f o.type x with | some (y, cs) => some (cs, .v y) | none => none
  | .assign x => match moveQ C f o.type x with | some (y, cs) => some (cs, .v y) | none => none
  | .pick c a b => match lookO C f 0 c with
    | some (.bool z) => match byValQ C f o.type (if z then a else b) with | some (y, cs) => some (cs, .v y) | none => none
    | _ => none
  | .alloc e => match zeroA C e with | some z => some ([], .cell z) | none => none
  | .box e x => match placeOf f x with
    | some (s, p) => match subAt f s p with
      | some _ => if fitsT C e .undef then some ([], .box s p) else none
      | none => none
    | none => match moveQ C f e x with
      | some (y, cs) => if isTup y then none else some (cs, .cell y)
      | none => none
  | .build t ps =>
    match C.P.underlying t with
    | some (.struct fs) =>
      match zeroA C t with
      | some (.agg zs) =>
        match movesQ C f (ps.toList.map fun (i, x) => ((fs[i]?.map (·.type)).getD 0, x)) with
        | some (ys, cs) =>
          if offsOk C 0 fs.toList zs && ys.all (fun y => !isTup y) then
          match setAll zs ((ps.toList.map (·.1)).zip ys) with
          | some zs' => some (cs, .v (.agg zs'))
          | none => none
          else none
        | none => none
      | _ => none
    | _ => none
  | .buildSlice t n ps =>
    match elemT C t with
    | none => none
    | some e =>
      if (ps.toList.map (·.1)) == List.range n then
        match byValsQ C f (ps.toList.map fun (_, x) => (e, x)) with
        | some (ys, cs) =>
          if n * szT C e > 16777216 || szT C e == 0 || !zeroOk C e then none else
          if ys.all (fun y => leaves y == szT C e && !isTup y) then
            if C.exc fid ((o.dst).getD 0) then some (cs, .v (.arr (szT C e) ys)) else some (cs, .v (.osl (szT C e) ys))
          else none
        | none => none
      else none
  | .load t a => match ptrOf f a with
    | some (.ro x) => if fitsT C t x then some ([], .v x) else none
    | some (.at s p) => match subAt f s p with
      | some y => if fitsT C t y then
          if isP y then some ([], .v y) else
          match y with
          | .osl _ _ => some ([], .view s p)
          | .arr _ _ => some ([], .view s p)
          | .map _ _ => some ([], .view s p)
          | _ => if isF y then some ([], .v (pz y)) else none
        else none
      | none => none
    | none => match unbox f a with
      | some (s, p) => match subAt f s p with
        | some _ => if fitsT C t .undef then some ([], .loc s p) else none
        | none => none
      | none => none
  | .nilCheck (.tmp t) => match get f t with
    | .cell _ => some ([], .loc t [])
    | .loc s p => match subAt f s p with | some _ => some ([], .loc s p) | none => none
    | .box s p => match subAt f s p with | some _ => some ([], .box s p) | none => none
    | .v (.ro x) => some ([], .v (.ro x))
    | _ => none
  | .binOp op t x y _ => match lookO C f t x, lookO C f t y with
    | some a, some b => if okBin C t a then (match binA op a b with | some c => some ([], .v c) | none => none) else none
    | _, _ => none
  | .unOp op _ x => match lookO C f o.type x with
    | some a => match unA op a with | some c => some ([], .v c) | none => none
    | _ => none
  | .convert s d x => match C.P.underlying s, C.P.underlying d, lookO C f s x with
    | some _, some (.int k), some (.int _ n) => some ([], .v (.int k (k.wrap n)))
    | some _, some .string, some (.str s) => some ([], .v (.str s))
    | _, _, _ => none
  | .makeFunc (.func g) first caps =>
    if first.size == 0 then
      match capsOf f caps.toList with
      | some cs => some ([], .clo g cs)
      | none => none
    else none
  | .makeMap t none => match C.P.underlying t with | some (.map _ _) => some ([], .v (.map [] [])) | _ => none
  | .makeSlice t n c => match lookO C f 0 n, lookO C f 0 c, elemT C t with
    | some (.int .i64 a), some (.int .i64 b), some e =>
      if a == b && 0 ≤ a && a.toNat * byT C e ≤ 140737488355328 && szT C e != 0 && byT C e != 0 then
        match zeroA C e with
        | some z => if leaves z == szT C e then some ([], .v (.arr (szT C e) (List.replicate a.toNat z))) else none
        | none => none
      else none
    | _, _, _ => none
  | .slice t x lo hi mx =>
    match C.P.underlying t with
    | some .string => match lookO C f t x with
      | some (.str s) =>
        match optInt C f 0 lo, optInt C f s.size hi, mx with
        | some l, some h, none => if 0 ≤ l ∧ l ≤ h ∧ h ≤ s.size then some ([], .v (.str (s.extract l.toNat h.toNat))) else none
        | _, _, _ => none
      | _ => none
    | some (.slice _) =>
      match mx with
      | some _ => none
      | none => match byValQ C f t x with
        | some (.sl st xs, cs) =>
          match optInt C f 0 lo, optInt C f xs.length hi with
          | some l, some h => if st == strideT C t && st != 0 && decide (0 ≤ l ∧ l ≤ h ∧ h ≤ xs.length) then some (cs, .v (.sl st ((xs.take h.toNat).drop l.toNat))) else none
          | _, _ => none
        | _ => none
    | _ => none
  | .fieldAddr t x i => match ptrOf f x with
    | some (.ro (.agg xs)) => if okField C t i xs then (match xs[i]? with | some y => some ([], .v (.ro y)) | none => none) else none
    | some (.at s p) => match subAt f s p with
      | some (.agg xs) => if okField C t i xs then some ([], .loc s (p ++ [i])) else none
      | _ => none
    | _ => none
  | .field t x i => match lookO C f t x with
    | some (.agg xs) => if okField C t i xs then (match xs[i]? with | some y => if isP y then some ([], .v y) else none | none => none) else none
    | _ => none
  | .indexAddr t x i => match lookO C f t x, lookO C f 0 i with
    | some (.sl st xs), some j => match idxA j xs.length with
      | some n => if st == strideT C t && st != 0 then (match xs[n]? with | some y => some ([], .v (.ro y)) | none => none) else none
      | none => none
    | some (.osl st xs), some j => match idxA j xs.length with
      | some n => if st == strideT C t && st != 0 then (match xs[n]? with | some y => some ([], .v (.ro y)) | none => none) else none
      | none => none
    | some (.arr st xs), some j => match idxA j xs.length with
      | some n => if st == strideT C t && st != 0 then
          (match x with
           | .tmp tx => match get f tx with
             | .view s p => some ([], .loc s (p ++ [n]))
             | .v _ => some ([], .loc tx [n])
             | _ => none
           | _ => none) else none
      | none => none
    | _, _ => none
  | .index t x i => match lookO C f t x, lookO C f 0 i, C.P.underlying t with
    | some (.str s), some j, some .string => match idxA j s.size with | some n => (match s[n]? with | some b => some ([], .v (.int .u8 (b.toNat : Int))) | none => none) | none => none
    | _, _, _ => none
  | .lookup t m k ok => match C.P.underlying t with
    | some (.map kt et) => match lookO C f t m, lookO C f kt k, zeroA C et with
      | some (.map ks vs), some y, some z => if okKey C kt y then (match lookupA ok z y ks vs with | some r => some ([], .v r) | none => none) else none
      | some (.rmap ks vs), some y, some z => if okKey C kt y then (match lookupA ok z y ks vs with | some r => some ([], .v r) | none => none) else none
      | _, _, _ => none
    | _ => none
  | .extract (.tmp t) i => match get f t with
    | .v (.tup xs) => match xs[i]? with
      | some y => if isP y then some ([], .v y) else none
      | none => none
    | _ => none
  | .call c =>
    match c.callee with
    | .builtin .len => match c.args.toList, c.argTypes.toList with
      | [x], [t] => match lookO C f t x with
        | some a => match lenA (C.P.underlying t) a with | some n => some ([], .v (.int .i64 n)) | none => none
        | none => none
      | _, _ => none
    | .builtin .append => match c.args.toList, c.argTypes.toList with
      | [x, y], [t, u] => match elemT C t, elemT C u with
        | some e, some _ => if t != u then none else match moveQ C f t x, lookO C f u y with
          | some (b, cs), some ya => match slOf ya with
            | some (sty, ys) =>
              if sameT x y then none else
              match appendA C (C.exc fid ((o.dst).getD 0)) e b ys sty with
              | some r => some (cs, .v r)
              | none => none
            | none => none
          | _, _ => none
        | _, _ => none
      | _, _ => none
    | .builtin .max => match c.args.toList with
      | x :: xs => match lookO C f 0 x with
        | some a => match foldMM C true f a xs with
          | some r => (match a with | .int _ _ => some ([], .v r) | _ => none)
          | none => none
        | none => none
      | [] => none
    | .builtin .min => match c.args.toList with
      | x :: xs => match lookO C f 0 x with
        | some a => match foldMM C false f a xs with
          | some r => (match a with | .int _ _ => some ([], .v r) | _ => none)
          | none => none
        | none => none
      | [] => none
    | .builtin _ => none
    | .value (.func g) =>
      if noOwn (C.own g) 0 c.args.size && c.argTypes.size == c.args.size then
        match byValsQ C f (c.argTypes.toList.zip c.args.toList) with
        | some (as_, cs) => match call g (as_.map .v) with | some (r, _) => some (cs, .v r) | none => none
        | none => none
      else none
    | .value (.tmp t) => match get f t with
      | .v (.fn g caps) =>
        if noOwn (C.own g) 0 c.args.size && c.argTypes.size == c.args.size then
          match byValsQ C f (c.argTypes.toList.zip c.args.toList) with
          | some (as_, cs) => match call g (as_.map .v ++ caps.map .v) with | some (r, _) => some (cs, .v r) | none => none
          | none => none
        else none
      | _ => none
    | _ => none
  | _ => none

/-- An operation that changes places, or freezes. -/
def loud (fid : Nat) (call : CallF) (o : Oper) (f : Frame) : Option Frame :=
  match o.op with
  | .assign (.tmp t) => match get f t with
    | .view s p =>
      if C.ret fid then
        match takeAt f s p with | some (y, f1) => some (putO f1 o.dst (.v y)) | none => none
      else match byValS f t with | some (y, f1) => some (putO f1 o.dst (.v y)) | none => none
    | _ => none
  | .pick c a b => match lookO C f 0 c with
    | some (.bool z) => match byVal C f o.type (if z then a else b) with | some (y, f1) => some (putO f1 o.dst (.v y)) | none => none
    | _ => none
  | .load t a => match ptrOf f a with
    | some (.at s p) => match subAt f s p with
      | some y => if fitsT C t y then
          match updAt f s p (fz y) with
          | some z => some (putO (f.set s z) o.dst (.v (pz y)))
          | none => none
        else none
      | none => none
    | _ => none
  | .store t a x => match moveOut C f t x with
    | some (y, f1) => match ptrOf f1 a with
      | some (.at s p) => match subAt f1 s p with
        | some z => if leaves z == szT C t && fitsT C t y then
            match setAt f1 s p y with
            | some f2 => some (putO f2 o.dst .any)
            | none => none
          else none
        | none => none
      | _ => none
    | none => none
  | .slice t x lo hi mx =>
    match C.P.underlying t, mx with
    | some (.slice _), none => match byVal C f t x with
        | some (.sl st xs, f1) =>
          match optInt C f1 0 lo, optInt C f1 xs.length hi with
          | some l, some h => if st == strideT C t && st != 0 && decide (0 ≤ l ∧ l ≤ h ∧ h ≤ xs.length) then some (putO f1 o.dst (.v (.sl st ((xs.take h.toNat).drop l.toNat)))) else none
          | _, _ => none
        | _ => none
    | _, _ => none
  | .mapUpdate t (.tmp m) k x => match C.P.underlying t with
    | some (.map kt et) => match get f m, lookO C f kt k, byValQ C f et x with
      | .view s p, some ky, some (xy, c2) =>
        if !(okKey C kt ky && isP ky && c2.isEmpty && !isTup xy) then none else
        match subAt f s p with
          | some (.map ks vs) => match findK ky ks 0 with
            | some (some i) => (match updAt f s p (.map (ks.set i ky) (vs.set i xy)) with | some z => some (putO (f.set s z) o.dst .any) | none => none)
            | some none => (match updAt f s p (.map (ks ++ [ky]) (vs ++ [xy])) with | some z => some (putO (f.set s z) o.dst .any) | none => none)
            | none => none
          | _ => none
      | _, _, _ => none
    | _ => none
  | .call c =>
    match c.callee with
    | .builtin .append => match c.args.toList, c.argTypes.toList with
      | [.tmp tx, y], [t, u] => match elemT C t, elemT C u with
        | some e, some _ => if t != u then none else match get f tx, lookO C f u y with
          | .view s p, some ya => match slOf ya, takeAt f s p with
            | some (sty, ys), some (b, f1) =>
              if sameT (.tmp tx) y then none else
              match appendA C (C.exc fid ((o.dst).getD 0)) e b ys sty with
              | some r => some (putO f1 o.dst (.v r))
              | none => none
            | _, _ => none
          | _, _ => none
        | _, _ => none
      | _, _ => none
    | .value (.func g) => if c.argTypes.size == c.args.size then callA C call f o.dst g (c.argTypes.toList.zip c.args.toList) [] else none
    | .value (.tmp t) => match get f t with
      | .v (.fn g caps) => if c.argTypes.size != c.args.size then none else callA C call f o.dst g (c.argTypes.toList.zip c.args.toList) caps
      | .clo g cs =>
        match capSlots f cs with
        | some ss => if c.argTypes.size != c.args.size then none else callA C call f o.dst g (c.argTypes.toList.zip c.args.toList ++ ss.map fun s => (0, .tmp s)) []
        | none => none
      | _ => none
    | _ => none
  | _ => none

def evalOp (fid : Nat) (call : CallF) (o : Oper) (f : Frame) : Option Frame :=
  match quiet C fid call o f with
  | some (cs, x) => some (putO (cs.foldl (fun f c => f.set c .any) f) o.dst x)
  | none => loud C fid call o f

end

/-- A guard's slot. -/
def guardOf (ops : Array Oper) (o : Oper) : Option Guard :=
  match o.guard with
  | none => some none
  | some (j, want) => match (ops[j]?).bind (·.dst) with
    | some d => some (some (d, want))
    | none => none
def guardsOf (ops : Array Oper) : List Oper → Option (List (Oper × Guard))
  | [] => some []
  | o :: os => match guardOf ops o, guardsOf ops os with
    | some g, some gs => some ((o, g) :: gs)
    | _, _ => none

def refsOf : Slot → List Nat
  | .loc s _ => [s]
  | .view s _ => [s]
  | .box s _ => [s]
  | .clo _ cs => cs.filterMap fun c => match c with | .slot i => some i | .ro _ => none
  | _ => []
def refersTo (c : Nat) : Slot → Bool
  | .loc s _ => s == c
  | .view s _ => s == c
  | .box s _ => s == c
  | .clo _ cs => cs.any fun x => match x with | .slot i => i == c | .ro _ => false
  | _ => false
def noRefTo (f : Frame) (c : Nat) : Bool := f.all fun x => !refersTo c x

mutual
def eqAV : AV → AV → Bool
  | .undef, .undef => true
  | .int k n, .int k' n' => k == k' && n == n'
  | .bool b, .bool c => b == c
  | .str s, .str t => decide (s.data = t.data)
  | .nilp, .nilp => true
  | .nilf, .nilf => true
  | .agg xs, .agg ys => eqAVL xs ys
  | .sl n xs, .sl m ys => n == m && eqAVL xs ys
  | .osl n xs, .osl m ys => n == m && eqAVL xs ys
  | .arr n xs, .arr m ys => n == m && eqAVL xs ys
  | .ro x, .ro y => eqAV x y
  | .fn g xs, .fn h ys => g == h && eqAVL xs ys
  | .map a b, .map c d => eqAVL a c && eqAVL b d
  | .rmap a b, .rmap c d => eqAVL a c && eqAVL b d
  | .tup xs, .tup ys => eqAVL xs ys
  | _, _ => false
def eqAVL : List AV → List AV → Bool
  | [], [] => true
  | x :: xs, y :: ys => eqAV x y && eqAVL xs ys
  | _, _ => false
end
def eqSlot : Slot → Slot → Bool
  | .non, .non => true
  | .v x, .v y => eqAV x y
  | .loc s p, .loc t q => s == t && p == q
  | .view s p, .view t q => s == t && p == q
  | .box s p, .box t q => s == t && p == q
  | _, _ => false
def eqFrame : Frame → Frame → Bool
  | [], [] => true
  | .cell x :: f, .cell y :: g => eqAV x y && eqFrame f g
  | x :: f, y :: g => eqSlot x y && eqFrame f g
  | _, _ => false

/-- Slots that a drawn region writes, and does not read before (1), are emptied ahead, with what refers to them; those that it reads before (2) may not refer to others. -/
def cleared (ds : List Nat) (d : Nat) (x : Slot) : Slot :=
  if d == 1 then .any else
  match x with
  | .loc s _ => if d == 2 || ds.getD s 0 == 1 then .any else x
  | .view s _ => if d == 2 || ds.getD s 0 == 1 then .any else x
  | .box s _ => if d == 2 || ds.getD s 0 == 1 then .any else x
  | .clo _ cs => if d == 2 || cs.any (fun c => match c with | .slot i => ds.getD i 0 == 1 | .ro _ => false) then .any else x
  | x => x
def clearWith (all : List Nat) : List Nat → Frame → Frame
  | d :: ds, x :: f => cleared all d x :: clearWith all ds f
  | [], f => f.map (cleared all 0)
  | _ :: _, [] => []
def clear (ds : List Nat) (f : Frame) : Frame := clearWith ds ds f

/-! What is looked at ahead of the run: once for each region. -/
/-- Is a temporary read before this operation writes it? -/
def carriedBy (all : List (Oper × Guard)) (anc : Array Nat) (i : Nat) (o : Oper) : Bool :=
  match o.dst with
  | some t => all.zipIdx.any fun ((o', g'), j) => (looks o' g').contains t && !(anc.getD j 0).testBit i
  | none => false
def mkDOps (all : List (Oper × Guard)) (anc : Array Nat) : List DOp :=
  all.zipIdx.map fun ((o, g), i) =>
    let un := all.zipIdx.filter fun (_, j) => j != i && !(if j < i then (anc.getD i 0).testBit j else (anc.getD j 0).testBit i)
    { op := o, guard := g, anc := anc.getD i 0,
      uo := un.flatMap fun ((o', g'), _) => looks o' g',
      lights := (un.filter fun (_, j) => j < i).map (·.1),
      last := (all.zipIdx.all fun (_, j) => j ≤ i || (anc.getD j 0).testBit i) && (un.all fun ((o', _), j) => !(j < i) || !carriedBy all anc j o'),
      carried := carriedBy all anc i o }
def dstsOf (ops : List DOp) : List Nat := ops.filterMap (·.op.dst)
def natMax : List Nat → Nat := fun l => l.foldl max 0
def boolsOf (l : List Nat) : List Bool := (List.range (natMax l + 1)).map l.contains
def kindsOf (ops : List DOp) : List Nat :=
  (List.range (natMax (dstsOf ops) + 1)).map fun t => if ops.any (fun d => d.op.dst == some t) then (if ops.any fun d => d.op.dst == some t && d.carried then 2 else 1) else 0
/-- The static facts about a drawn region. -/
def okD (ops : List DOp) : Bool :=
  let ix := ops.zipIdx
  (ix.all fun (d, i) => ix.all fun (_, j) => !d.anc.testBit j || j < i) &&
  (ix.all fun (d, _) => d.op.after.toList.all fun e => !Region.binds .any e || (d.anc.testBit e.on && e.on < ops.length)) &&
  (ix.all fun (d, i) => ix.all fun (e, j) => i == j || d.op.dst == none || d.op.dst != e.op.dst) &&
  (ix.all fun (d, _) => ix.all fun (_, j) => !d.anc.testBit j || d.op.after.toList.any fun e => Region.binds .any e && (e.on == j || ix.any fun (x, k) => k == e.on && x.anc.testBit j)) &&
  (ix.all fun (d, i) => (looks d.op d.guard).all fun t => ix.all fun (e, k) => e.op.dst != some t || d.anc.testBit k || e.anc.testBit i)
/-- `clear(x[i:])`: what stands before it, and its operands. -/
def clrOf (ops : Array Oper) : Option (List (Oper × Guard) × TypeId × Nat × Nat × Nat × Option Nat) :=
  match ops.toList with
  | [o1, o2, o3, o4] =>
    match o3.guard, o4.guard, o3.dst, o3.op, o4.op with
    | none, none, some c, .slice t (.tmp a) (some (.tmp b)) none none, .call cl =>
      match cl.callee, cl.args.toList, cl.argTypes.toList, guardsOf ops [o1, o2] with
      | .builtin .clear, [.tmp c'], [t'], some l => if c' == c && t' == t then some (l, t, a, b, c, o4.dst) else none
      | _, _, _, _ => none
    | _, _, _, _, _ => none
  | _ => none
/-- The same, out of a hint. -/
def mkDOpsH (cm lm : Nat) (all : List (Oper × Guard)) (anc : Array Nat) : List DOp :=
  all.zipIdx.map fun ((o, g), i) =>
    let un := all.zipIdx.filter fun (_, j) => j != i && !(if j < i then (anc.getD i 0).testBit j else (anc.getD j 0).testBit i)
    { op := o, guard := g, anc := anc.getD i 0,
      uo := un.flatMap fun ((o', g'), _) => looks o' g',
      lights := (un.filter fun (_, j) => j < i).map (·.1),
      last := lm.testBit i,
      carried := cm.testBit i }
def drawnOf (H : Hint) (id : Nat) (l : List (Oper × Guard)) (anc : Array Nat) : ECode := match H.drawn id with
  | none => .drawn (kindsOf (mkDOps l anc)) (mkDOps l anc)
  | some (ks, cm, lm) => .drawn ks (mkDOpsH cm lm l anc)
def hinted (H : Hint) (k : Nat) (e : ECode) : ECode := match H.tidy k with | none => e | some (m, fs) => .seq e (.tidy m fs)
def hinting (H : Hint) (k : Nat) (e : ECode) : ECode := match H.tidy k with | none => e | some (m, fs) => .seq (.tidy m fs) e
def compile (H : Hint) (cur : Nat) : Code → Option ECode
  | .skip => some .skip
  | .label _ => some .skip
  | .region id ops false => match clrOf ops with
    | some (l, t, a, b, c, d) => some (.clr l t a b c d)
    | none => match guardsOf ops ops.toList with | some l => some (hinting H (4 * id + 3) (hinted H (4 * id + 2) (.region l))) | none => none
  | .region id ops true => match guardsOf ops ops.toList with
    | some l => some (hinting H (4 * id + 3) (hinted H (4 * id + 2) (drawnOf H id l (Region.before ops))))
    | none => none
  | .seq a b => match compile H cur a, compile H cur b with | some x, some y => some (.seq x y) | _, _ => none
  | .cond c a b => match compile H cur a, compile H cur b with | some x, some y => some (.cond c x y) | _, _ => none
  | .block id b => match compile H id b with | some x => some (hinted H (4 * id) (.block id x)) | none => none
  | .loop b => match compile H cur b with | some x => some (hinting H (4 * cur + 1) (.loop (hinted H (4 * cur + 1) x))) | none => none
  | .scope b => compile H cur b
  | .exit id => some (.exit id)
  | .ret => some .ret
  | _ => none

def flagsOK (cm lm : Nat) (ds : List DOp) : Bool := ds.zipIdx.all fun (d, i) => d.carried == cm.testBit i && d.last == lm.testBit i
/-- The static facts of all drawn regions. -/
def okC (H : Hint) : Code → Bool
  | .region id ops true => match guardsOf ops ops.toList with
    | some l => okD (mkDOps l (Region.before ops)) && (match H.drawn id with
      | none => true
      | some (ks, cm, lm) => ks == kindsOf (mkDOps l (Region.before ops)) && flagsOK cm lm (mkDOps l (Region.before ops)))
    | none => true
  | .seq a b => okC H a && okC H b
  | .cond _ a b => okC H a && okC H b
  | .block _ b => okC H b
  | .loop b => okC H b
  | .scope b => okC H b
  | _ => true
def okF (H : Hint) (fn : Func) : Bool := match fn.body with | some c => okC H c | none => true
/-- The slots that code writes. -/
def writesOf : ECode → List Nat
  | .region ops => ops.filterMap (·.1.dst)
  | .drawn _ ops => dstsOf ops
  | .clr ops _ _ _ c d => ops.filterMap (·.1.dst) ++ c :: d.toList
  | .seq a b => writesOf a ++ writesOf b
  | .cond _ a b => writesOf a ++ writesOf b
  | .block _ b => writesOf b
  | .loop b => writesOf b
  | _ => []
def compileF (H : Hint) (fn : Func) : Option EFn :=
  match fn.body with
  | none => none
  | some c => if fn.name == "runtime.NumGoroutine" || fn.results.size != fn.resultTypes.size then none else
    match compile H 0 c with
    | none => none
    | some e => some { body := e, ntmps := fn.ntmps, results := fn.results.toList.zip fn.resultTypes.toList, written := boolsOf (writesOf e) }

section
variable (C : Cfg)
def guardS (g : Guard) (f : Frame) : Option Bool :=
  match g with
  | none => some true
  | some (d, want) => match get f d with | .v (.bool b) => some (b == want) | .non => some false | _ => none

def stepOp (fid : Nat) (call : CallF) (o : Oper) (g : Guard) (f : Frame) : Option Frame :=
  match guardS g f with
  | some true => evalOp C fid call o f
  | some false => some (putO f o.dst .non)
  | none => none

def runOps (fid : Nat) (call : CallF) : List (Oper × Guard) → Frame → Option Frame
  | [], f => some f
  | (o, g) :: os, f => match stepOp C fid call o g f with | some f1 => runOps fid call os f1 | none => none

def isAny : Slot → Bool
  | .any => true
  | _ => false
def isCallV (o : Oper) : Bool := match o.op with | .call c => (match c.callee with | .builtin _ => false | _ => true) | _ => false
/-- An operation says the same behind a loud one. -/
def light (fid : Nat) (call : CallF) (f : Frame) (og : Oper × Guard) : Bool :=
  (tmpsOf og.1).all (fun t => !isAny (get f t)) &&
  match guardS og.2 f, og.1.dst with
  | some true, some d => !isCallV og.1 && (match quiet C fid call og.1 f with | some ([], x) => eqSlot x (get f d) | _ => false)
  | some false, some d => eqSlot .non (get f d)
  | _, _ => false

/-- Nothing refers to the slot that is written. -/
def fresh (d : DOp) (f : Frame) : Bool := !d.carried || (match d.op.dst with | some t => noRefTo f t | none => true)
def stepD (fid : Nat) (call : CallF) (d : DOp) (f : Frame) : Option Frame :=
  match guardS d.guard f with
  | none => none
  | some false => if fresh d f then some (putO f d.op.dst .non) else none
  | some true =>
    match quiet C fid call d.op f with
    | some (cs, x) => if (cs.all fun c => !d.uo.contains c && noRefTo f c) && fresh d f then some (putO (cs.foldl (fun f c => f.set c .any) f) d.op.dst x) else none
    | none =>
      if !d.last then none else
      match loud C fid call d.op f with
      | some f2 => if d.lights.all (light C fid call f2) then some f2 else none
      | none => none
def runD (fid : Nat) (call : CallF) : List DOp → Frame → Option Frame
  | [], f => some f
  | d :: ds, f => match stepD C fid call d f with | some f1 => runD fid call ds f1 | none => none

inductive Out where
  | normal
  | exit (id : Nat)
  | ret
  deriving Inhabited, DecidableEq

def iter (g : Frame → Option (Out × Frame)) : Nat → Frame → Option (Out × Frame)
  | 0, _ => none
  | n + 1, f => match g f with
    | some (.normal, f1) => iter g n f1
    | r => r

/-- The array's tail gets zero values. -/
def clrA (t : TypeId) (a b c : Nat) (f : Frame) : Option Frame :=
  match get f a, look f b, elemT C t with
  | .view s [], some (.int _ n), some e =>
    match get (f.set c .any) s, zeroA C e with
    | .v (.arr st xs), some z =>
      if st == szT C e && st != 0 && leaves z == st && decide (0 ≤ n ∧ n ≤ xs.length) && decide (c < f.length) then setAt (f.set c .any) s [] (.arr st (xs.take n.toNat ++ List.replicate (xs.length - n.toNat) z)) else none
    | _, _ => none
  | _, _, _ => none

/-- A place is frozen where it stands. -/
def frzAt (f : Frame) (s : Nat) (p : List Nat) : Frame :=
  match get f s, p with
  | .v x, [] => if isP x || isTup x then f else f.set s (.v (fz x))
  | .cell _, [] => match subAt f s [] with
    | some y => match updAt f s [] (fz y) with | some z => f.set s z | none => f
    | none => f
  | _, i :: p => match subAt f s (i :: p) with
    | some y => match updAt f s (i :: p) (fz y) with | some z => f.set s z | none => f
    | none => f
  | _, [] => f
def frzAll : List (Nat × List Nat) → Frame → Frame
  | [], f => f
  | (s, p) :: l, f => frzAll l (frzAt f s p)
/-- Only some slots stay. -/
def thinBy (m : Nat) : Nat → Frame → Frame
  | _, [] => []
  | i, x :: f => (if m.testBit i then x else .any) :: thinBy m (i + 1) f

def evalCode (fid : Nat) (call : CallF) (n : Nat) : ECode → Frame → Option (Out × Frame)
  | .skip, f => some (.normal, f)
  | .region ops, f => match runOps C fid call ops f with | some f1 => some (.normal, f1) | none => none
  | .drawn ds ops, f => match runD C fid call ops (clear ds f) with | some f1 => some (.normal, f1) | none => none
  | .clr ops t a b c d, f => match runOps C fid call ops f with
    | some f1 => match clrA C t a b c f1 with | some f2 => some (.normal, putO f2 d .any) | none => none
    | none => none
  | .seq a b, f => match evalCode fid call n a f with
    | some (.normal, f1) => evalCode fid call n b f1
    | r => r
  | .cond c a b, f => match lookO C f 0 c with
    | some (.bool true) => evalCode fid call n a f
    | some (.bool false) => evalCode fid call n b f
    | _ => none
  | .block id b, f => match evalCode fid call n b f with
    | some (.exit i, f1) => if i == id then some (.normal, f1) else some (.exit i, f1)
    | r => r
  | .loop b, f => iter (evalCode fid call n b) n f
  | .exit id, f => some (.exit id, f)
  | .ret, f => some (.ret, f)
  | .tidy m fs, f => some (.normal, thinBy m 0 (frzAll fs f))
  | .isSl t, f => match get f t with | .v (.sl _ _) => some (.normal, f) | _ => none

def resOf (f : Frame) : List (ResultVar × TypeId) → Option (List AV × Frame)
  | [] => some ([], f)
  | (.tmp t, ty) :: rs => match moveOut C f ty (.tmp t) with
    | some (y, f1) => if isTup y then none else match resOf f1 rs with | some (ys, f2) => some (y :: ys, f2) | none => none
    | none => none
  | (.cell t ty, _) :: rs => match get f t with
    | .cell y => if fitsT C ty y then (match resOf (f.set t .any) rs with | some (ys, f2) => some (y :: ys, f2) | none => none) else none
    | _ => none

/-- What of the parameters' slots the caller may look at again. -/
def outsOf : List Bool → Nat → Frame → List Slot
  | _, 0, _ => []
  | _, _ + 1, [] => []
  | [], n + 1, x :: f => x :: outsOf [] n f
  | b :: bs, n + 1, x :: f => (if b then .any else x) :: outsOf bs n f

/-- A function's run, its calls given. -/
def stepF (n : Nat) (call : CallF) : CallF := fun k args =>
    match C.prim k with
    | some g => g call args
    | none =>
    match C.code k with
    | none => none
    | some fn =>
        if args.length > fn.ntmps then none else
        match evalCode C k call n fn.body (args ++ List.replicate (fn.ntmps - args.length) .any) with
        | some (.exit _, _) => none
        | some (_, f) => match resOf C f fn.results with
          | some ([y], f2) => some (if C.ret k then y else pz y, outsOf fn.written args.length f2)
          | some (ys, f2) => some (.tup (if C.ret k then ys else pzL ys), outsOf fn.written args.length f2)
          | none => none
        | none => none

/-- What is known of calls is not run again. -/
def evalT (tab : CallF) : Nat → CallF
  | 0, k, args => tab k args
  | n + 1, k, args => match tab k args with
    | some r => some r
    | none => stepF C n (evalT tab n) k args

def evalF (n : Nat) : CallF := evalT C (fun _ _ => none) n
/-- One more call is known. -/
def addTab (k : Nat) (args : List Slot) (r : AV × List Slot) (tab : CallF) : CallF := fun k' args' =>
  if k' == k then (if eqFrame args' args then some r else tab k' args') else tab k' args'
end
end Go.E

namespace Go.E
open Go.RowKit

/-! ### Ownership: sets of cells -/
abbrev Own := Nat → Nat → Prop
def Own.no : Own := fun _ _ => False
def Own.le (A B : Own) : Prop := ∀ b o, A b o → B b o
def Own.or (A B : Own) : Own := fun b o => A b o ∨ B b o
def Own.disj (A B : Own) : Prop := ∀ b o, A b o → B b o → False
def blk (b : Nat) : Own := fun b' _ => b' = b
def rng (b o n : Nat) : Own := fun b' j => b' = b ∧ o ≤ j ∧ j < o + n
def tail (b o : Nat) : Own := fun b' j => b' = b ∧ o ≤ j

theorem Own.le_refl (A : Own) : A.le A := fun _ _ h => h
theorem Own.le_trans {A B C : Own} (h : A.le B) (k : B.le C) : A.le C := fun b o x => k b o (h b o x)
theorem Own.no_le (A : Own) : Own.no.le A := fun _ _ h => h.elim
theorem Own.or_le {A B C : Own} (h : A.le C) (k : B.le C) : (A.or B).le C := fun b o x => x.elim (h b o) (k b o)
theorem Own.le_or_l (A B : Own) : A.le (A.or B) := fun _ _ h => .inl h
theorem Own.le_or_r (A B : Own) : B.le (A.or B) := fun _ _ h => .inr h
theorem Own.disj.mono {A B A' B' : Own} (h : A.disj B) (ha : A'.le A) (hb : B'.le B) : A'.disj B' := fun b o x y => h b o (ha b o x) (hb b o y)
theorem Own.disj.symm {A B : Own} (h : A.disj B) : B.disj A := fun b o x y => h b o y x
theorem Own.disj_or {A B C : Own} (h : A.disj C) (k : B.disj C) : (A.or B).disj C := fun b o x y => x.elim (fun x => h b o x y) (fun x => k b o x y)
theorem Own.disj_or' {A B C : Own} (h : C.disj A) (k : C.disj B) : C.disj (A.or B) := fun b o x y => y.elim (h b o x) (k b o x)
theorem Own.no_disj (A : Own) : Own.no.disj A := fun _ _ h => h.elim
theorem Own.disj_no (A : Own) : A.disj Own.no := fun _ _ _ h => h.elim

/-! ### What is known for good -/
structure Kn where
  cell : Nat → Nat → Option Value
  map : Nat → Option (Array MapEntry)
structure Kn.le (K K' : Kn) : Prop where
  cell : ∀ b o v, K.cell b o = some v → K'.cell b o = some v
  map : ∀ b es, K.map b = some es → K'.map b = some es
theorem Kn.le_refl (K : Kn) : K.le K := ⟨fun _ _ _ h => h, fun _ _ h => h⟩
theorem Kn.le.trans {K K' K2 : Kn} (h : K.le K') (k : K'.le K2) : K.le K2 := ⟨fun b o v x => k.cell _ _ _ (h.cell b o v x), fun b es x => k.map _ _ (h.map b es x)⟩
structure Sat (K : Kn) (w : World) : Prop where
  cell : ∀ b o v, K.cell b o = some v → w.cell? ⟨b, o, none⟩ = some v
  map : ∀ b es, K.map b = some es → ∃ c, w.heap[b]? = some (Obj.map es c)
/-- Nothing of S is known for good. -/
structure Free (K : Kn) (S : Own) : Prop where
  cell : ∀ b o, S b o → K.cell b o = none
  map : ∀ b o, S b o → K.map b = none
theorem Free.mono {K : Kn} {S S' : Own} (h : Free K S) (hs : S'.le S) : Free K S' := ⟨fun b o x => h.cell b o (hs b o x), fun b o x => h.map b o (hs b o x)⟩
theorem Free.or {K : Kn} {S S' : Own} (h : Free K S) (h' : Free K S') : Free K (S.or S') := ⟨fun b o x => x.elim (h.cell b o) (h'.cell b o), fun b o x => x.elim (h.map b o) (h'.map b o)⟩
theorem Free.no (K : Kn) : Free K Own.no := ⟨fun _ _ h => h.elim, fun _ _ h => h.elim⟩

/-- Blocks keep their type, their size and that nothing is frozen. -/
def Meta (w w' : World) : Prop := ∀ (b : Nat) (cs : Array Value) (e : TypeId) (fr : Nat × Nat), w.heap[b]? = some (Obj.cells cs e fr) → ∃ cs', w'.heap[b]? = some (Obj.cells cs' e fr) ∧ cs'.size = cs.size
theorem Meta.refl (w : World) : Meta w w := fun _ cs _ _ h => ⟨cs, h, rfl⟩
theorem Meta.trans {a b c : World} (h : Meta a b) (k : Meta b c) : Meta a c := fun i cs e fr x => by
  obtain ⟨cs1, h1, h2⟩ := h i cs e fr x
  obtain ⟨cs2, h3, h4⟩ := k i cs1 e fr h1
  exact ⟨cs2, h3, h4.trans h2⟩
/-- The cells of S, and blocks that are S's whole, read as before. -/
structure Agree (S : Own) (w w' : World) : Prop where
  cell : ∀ b o, S b o → w'.cell? ⟨b, o, none⟩ = w.cell? ⟨b, o, none⟩
  blk : ∀ b, (∀ o, S b o) → w'.heap[b]? = w.heap[b]?
theorem Agree.mono {S S' : Own} {w w' : World} (h : Agree S w w') (hs : S'.le S) : Agree S' w w' := ⟨fun b o x => h.cell b o (hs b o x), fun b x => h.blk b fun o => hs b o (x o)⟩
theorem Agree.refl (S : Own) (w : World) : Agree S w w := ⟨fun _ _ _ => rfl, fun _ _ => rfl⟩
theorem Agree.no (w w' : World) : Agree Own.no w w' := ⟨fun _ _ h => h.elim, fun _ h => (h 0).elim⟩
theorem Agree.trans {S : Own} {a b c : World} (h : Agree S a b) (k : Agree S b c) : Agree S a c := ⟨fun i o x => (k.cell i o x).trans (h.cell i o x), fun i x => (k.blk i x).trans (h.blk i x)⟩

/-- These cells lie there, not frozen. -/
def Mem (w : World) (b o : Nat) (cs : List Value) : Prop := ∃ (cur : Array Value) (e : TypeId), w.heap[b]? = some (Obj.cells cur e (0, 0)) ∧ o + cs.length ≤ cur.size ∧ ∀ (j : Nat) (v : Value), cs[j]? = some v → cur[o + j]? = some v

/-! ### What a tree stands for -/
mutual
def rel (K : Kn) (w : World) : AV → List Value → Own → Prop
  | .undef, cs, _ => ∃ v, cs = [v] ∧ v.oneCell' = true
  | .int k n, cs, _ => cs = [.int k n]
  | .bool b, cs, _ => cs = [.bool b]
  | .str s, cs, _ => cs = [.string s]
  | .nilp, cs, _ => cs = [.pointer none]
  | .nilf, cs, _ => cs = [.nilFunc]
  | .agg xs, cs, S => relL K w xs cs S
  | .sl st xs, cs, _ => ∃ (a : Option Addr) (c : Nat), cs = [.slice a xs.length c] ∧ xs.length ≤ c ∧ (∀ x ∈ xs, leaves x = st) ∧
      (xs = [] ∨ ∃ (b o : Nat) (ys : List Value), a = some ⟨b, o, none⟩ ∧ (∀ (j : Nat) (v : Value), ys[j]? = some v → K.cell b (o + j) = some v) ∧ relL K w xs ys Own.no)
  | .osl st xs, cs, S => (xs = [] ∧ ∃ a, cs = [.slice a 0 0]) ∨ ∃ (b c : Nat) (cur : Array Value) (e : TypeId) (ys : List Value), cs = [.slice (some ⟨b, 0, none⟩) xs.length c] ∧ w.heap[b]? = some (Obj.cells cur e (0, 0)) ∧ cur.size = c * st ∧ xs.length ≤ c ∧ c ≤ maxLen ∧ 0 < st ∧
      (∀ x ∈ xs, leaves x = st) ∧ (tail b (xs.length * st)).le S ∧ (∀ (j : Nat) (v : Value), ys[j]? = some v → K.cell b j = some v) ∧ relL K w xs ys Own.no
  | .arr st xs, cs, S => (xs = [] ∧ ∃ a, cs = [.slice a 0 0]) ∨
      ∃ (b c : Nat) (cur : Array Value) (e : TypeId) (ys : List Value) (S2 : Own), cs = [.slice (some ⟨b, 0, none⟩) xs.length c] ∧ w.heap[b]? = some (Obj.cells cur e (0, 0)) ∧ cur.size = c * st ∧ xs.length ≤ c ∧ c ≤ maxLen ∧ 0 < st ∧
      (∀ x ∈ xs, leaves x = st) ∧ (blk b).le S ∧ S2.le S ∧ S2.disj (blk b) ∧ (∀ (j : Nat) (v : Value), ys[j]? = some v → cur[j]? = some v) ∧ relL K w xs ys S2
  | .ro x, cs, _ => ∃ (b o : Nat) (ys : List Value), cs = [.pointer (some ⟨b, o, none⟩)] ∧ (∀ (j : Nat) (v : Value), ys[j]? = some v → K.cell b (o + j) = some v) ∧ rel K w x ys Own.no
  | .fn f caps, cs, _ => ∃ vs, cs = [.func (.func f) #[] vs] ∧ relE K w caps vs.toList
  | .map ks vs, cs, S => ∃ (b : Nat) (es : Array MapEntry) (c : Nat), cs = [.map (some b)] ∧ w.heap[b]? = some (Obj.map es c) ∧ (blk b).le S ∧ relE K w ks (es.toList.map (·.key)) ∧ relE K w vs (es.toList.map (·.val))
  | .rmap ks vs, cs, _ => (ks = [] ∧ vs = [] ∧ cs = [.map none]) ∨ ∃ (b : Nat) (es : Array MapEntry), cs = [.map (some b)] ∧ K.map b = some es ∧ relE K w ks (es.toList.map (·.key)) ∧ relE K w vs (es.toList.map (·.val))
  | .tup _, _, _ => False
def relL (K : Kn) (w : World) : List AV → List Value → Own → Prop
  | [], cs, _ => cs = []
  | x :: xs, cs, S => ∃ c1 c2 S1 S2, cs = c1 ++ c2 ∧ S1.le S ∧ S2.le S ∧ S1.disj S2 ∧ rel K w x c1 S1 ∧ relL K w xs c2 S2
/-- Values beside each other, each for itself (a map's keys, or its elements): persistent. -/
def relE (K : Kn) (w : World) : List AV → List Value → Prop
  | [], vs => vs = []
  | x :: xs, vs => ∃ v vs' cs, vs = v :: vs' ∧ rel K w x cs Own.no ∧ (match x with | .agg _ => v = .agg cs.toArray | _ => cs = [v]) ∧ relE K w xs vs'
end

/-- How a value stands: the cells of a struct as one. -/
def asV (x : AV) (cs : List Value) (v : Value) : Prop := match x with | .agg _ => v = .agg cs.toArray | _ => cs = [v]

/-- A value as it stands in a slot. -/
def relV (K : Kn) (w : World) (x : AV) (v : Value) (S : Own) : Prop :=
  match x with
  | .tup xs => ∃ vs : List Value, v = .tuple vs.toArray ∧ relT K w xs vs S
  | .agg xs => ∃ cs, v = .agg cs.toArray ∧ relL K w xs cs S
  | x => rel K w x [v] S
where relT (K : Kn) (w : World) : List AV → List Value → Own → Prop
  | [], vs, _ => vs = []
  | x :: xs, vs, S => ∃ v vs' S1 S2, vs = v :: vs' ∧ S1.le S ∧ S2.le S ∧ S1.disj S2 ∧ (∃ cs, rel K w x cs S1 ∧ asV x cs v) ∧ relT K w xs vs' S2

mutual
theorem rel_len {K : Kn} {w : World} : ∀ {x : AV} {cs : List Value} {S : Own}, rel K w x cs S → cs.length = leaves x
  | .undef, cs, S, h => by rw [rel] at h; obtain ⟨v, rfl, _⟩ := h; simp [leaves]
  | .int _ _, _, _, h => by rw [rel] at h; simp [h, leaves]
  | .bool _, _, _, h => by rw [rel] at h; simp [h, leaves]
  | .str _, _, _, h => by rw [rel] at h; simp [h, leaves]
  | .nilp, _, _, h => by rw [rel] at h; simp [h, leaves]
  | .nilf, _, _, h => by rw [rel] at h; simp [h, leaves]
  | .agg xs, _, _, h => by rw [rel] at h; rw [leaves]; exact relL_len h
  | .sl _ _, _, _, h => by rw [rel] at h; obtain ⟨a, c, rfl, _⟩ := h; simp [leaves]
  | .osl _ _, _, _, h => by rw [rel] at h; rcases h with ⟨_, _, rfl⟩ | ⟨_, _, _, _, _, rfl, _⟩ <;> simp [leaves]
  | .arr _ _, _, _, h => by rw [rel] at h; rcases h with ⟨_, _, rfl⟩ | ⟨_, _, _, _, _, _, rfl, _⟩ <;> simp [leaves]
  | .ro _, _, _, h => by rw [rel] at h; obtain ⟨_, _, _, rfl, _⟩ := h; simp [leaves]
  | .fn _ _, _, _, h => by rw [rel] at h; obtain ⟨_, rfl, _⟩ := h; simp [leaves]
  | .map _ _, _, _, h => by rw [rel] at h; obtain ⟨_, _, _, rfl, _⟩ := h; simp [leaves]
  | .rmap _ _, _, _, h => by rw [rel] at h; rcases h with ⟨_, _, rfl⟩ | ⟨_, _, rfl, _⟩ <;> simp [leaves]
  | .tup _, _, _, h => by rw [rel] at h; exact h.elim
theorem relL_len {K : Kn} {w : World} : ∀ {xs : List AV} {cs : List Value} {S : Own}, relL K w xs cs S → cs.length = leavesL xs
  | [], _, _, h => by rw [relL] at h; simp [h, leavesL]
  | x :: xs, _, _, h => by
    rw [relL] at h
    obtain ⟨c1, c2, S1, S2, rfl, _, _, _, h1, h2⟩ := h
    rw [List.length_append, rel_len h1, relL_len h2, leavesL]
end

end Go.E

namespace Go.E
open Go.RowKit

mutual
theorem rel_mono {K K' : Kn} {w w' : World} (hk : K.le K') (hm : Meta w w') : ∀ {x : AV} {cs : List Value} {S S' : Own}, rel K w x cs S → Agree S w w' → S.le S' → rel K' w' x cs S'
  | .undef, cs, S, S', h, _, _ => by rw [rel] at h ⊢; exact h
  | .int _ _, _, _, _, h, _, _ => by rw [rel] at h ⊢; exact h
  | .bool _, _, _, _, h, _, _ => by rw [rel] at h ⊢; exact h
  | .str _, _, _, _, h, _, _ => by rw [rel] at h ⊢; exact h
  | .nilp, _, _, _, h, _, _ => by rw [rel] at h ⊢; exact h
  | .nilf, _, _, _, h, _, _ => by rw [rel] at h ⊢; exact h
  | .agg xs, _, _, _, h, ha, hs => by rw [rel] at h ⊢; exact relL_mono hk hm h ha hs
  | .sl _ _, _, _, _, h, _, _ => by
    rw [rel] at h ⊢
    obtain ⟨a, c, h1, h2, h3, h4⟩ := h
    refine ⟨a, c, h1, h2, h3, h4.imp id ?_⟩
    rintro ⟨b, o, ys, h5, h6, h7⟩
    exact ⟨b, o, ys, h5, fun j v hj => hk.cell _ _ _ (h6 j v hj), relL_mono hk hm h7 (Agree.no _ _) (Own.le_refl _)⟩
  | .osl _ _, _, _, _, h, ha, hs => by
    rw [rel] at h ⊢
    refine h.imp id ?_
    rintro ⟨b, c, cur, e, ys, h1, h2, h3, h4, h5, h6, h7, h8, h9, h10⟩
    obtain ⟨cur', g1, g2⟩ := hm _ _ _ _ h2
    exact ⟨b, c, cur', e, ys, h1, g1, g2.trans h3, h4, h5, h6, h7, Own.le_trans h8 hs, fun j v hj => hk.cell _ _ _ (h9 j v hj), relL_mono hk hm h10 (Agree.no _ _) (Own.le_refl _)⟩
  | .arr _ _, _, _, _, h, ha, hs => by
    rw [rel] at h ⊢
    refine h.imp id ?_
    rintro ⟨b, c, cur, e, ys, S2, h1, h2, h3, h4, h5, h6, h7, h8, h9, h10, h11, h12⟩
    refine ⟨b, c, cur, e, ys, S2, h1, ?_, h3, h4, h5, h6, h7, Own.le_trans h8 hs, Own.le_trans h9 hs, h10, h11, relL_mono hk hm h12 (ha.mono h9) (Own.le_refl _)⟩
    rw [ha.blk b (fun o => h8 b o rfl)]
    exact h2
  | .ro _, _, _, _, h, _, _ => by
    rw [rel] at h ⊢
    obtain ⟨b, o, ys, h1, h2, h3⟩ := h
    exact ⟨b, o, ys, h1, fun j v hj => hk.cell _ _ _ (h2 j v hj), rel_mono hk hm h3 (Agree.no _ _) (Own.le_refl _)⟩
  | .fn _ _, _, _, _, h, _, _ => by
    rw [rel] at h ⊢
    obtain ⟨vs, h1, h2⟩ := h
    exact ⟨vs, h1, relE_mono hk hm h2⟩
  | .map _ _, _, _, _, h, ha, hs => by
    rw [rel] at h ⊢
    obtain ⟨b, es, c, h1, h2, h3, h4, h5⟩ := h
    exact ⟨b, es, c, h1, by rw [ha.blk b (fun o => h3 b o rfl)]; exact h2, Own.le_trans h3 hs, relE_mono hk hm h4, relE_mono hk hm h5⟩
  | .rmap _ _, _, _, _, h, _, _ => by
    rw [rel] at h ⊢
    refine h.imp id ?_
    rintro ⟨b, es, h1, h2, h3, h4⟩
    exact ⟨b, es, h1, hk.map _ _ h2, relE_mono hk hm h3, relE_mono hk hm h4⟩
  | .tup _, _, _, _, h, _, _ => by rw [rel] at h; exact h.elim
theorem relL_mono {K K' : Kn} {w w' : World} (hk : K.le K') (hm : Meta w w') : ∀ {xs : List AV} {cs : List Value} {S S' : Own}, relL K w xs cs S → Agree S w w' → S.le S' → relL K' w' xs cs S'
  | [], _, _, _, h, _, _ => by rw [relL] at h ⊢; exact h
  | x :: xs, _, _, _, h, ha, hs => by
    rw [relL] at h ⊢
    obtain ⟨c1, c2, S1, S2, rfl, h1, h2, h3, h4, h5⟩ := h
    exact ⟨c1, c2, S1, S2, rfl, Own.le_trans h1 hs, Own.le_trans h2 hs, h3, rel_mono hk hm h4 (ha.mono h1) (Own.le_refl _), relL_mono hk hm h5 (ha.mono h2) (Own.le_refl _)⟩
theorem relE_mono {K K' : Kn} {w w' : World} (hk : K.le K') (hm : Meta w w') : ∀ {xs : List AV} {vs : List Value}, relE K w xs vs → relE K' w' xs vs
  | [], _, h => by rw [relE] at h ⊢; exact h
  | x :: xs, _, h => by
    rw [relE] at h ⊢
    obtain ⟨v, vs', cs, rfl, h1, h2, h3⟩ := h
    exact ⟨v, vs', cs, rfl, rel_mono hk hm h1 (Agree.no _ _) (Own.le_refl _), h2, relE_mono hk hm h3⟩
end


mutual
theorem rel_P {K : Kn} {w : World} : ∀ {x : AV} {cs : List Value} {S : Own}, isP x = true → rel K w x cs S → rel K w x cs Own.no
  | .undef, _, _, h, _ => by simp [isP] at h
  | .int _ _, _, _, _, h => by rw [rel] at h ⊢; exact h
  | .bool _, _, _, _, h => by rw [rel] at h ⊢; exact h
  | .str _, _, _, _, h => by rw [rel] at h ⊢; exact h
  | .nilp, _, _, _, h => by rw [rel] at h ⊢; exact h
  | .nilf, _, _, _, h => by rw [rel] at h ⊢; exact h
  | .agg xs, _, _, p, h => by rw [rel] at h ⊢; rw [isP] at p; exact relL_P p h
  | .sl _ _, _, _, _, h => by rw [rel] at h ⊢; exact h
  | .osl _ _, _, _, h, _ => by simp [isP] at h
  | .arr _ _, _, _, h, _ => by simp [isP] at h
  | .ro _, _, _, _, h => by rw [rel] at h ⊢; exact h
  | .fn _ _, _, _, _, h => by rw [rel] at h ⊢; exact h
  | .map _ _, _, _, h, _ => by simp [isP] at h
  | .rmap _ _, _, _, _, h => by rw [rel] at h ⊢; exact h
  | .tup _, _, _, _, h => by rw [rel] at h; exact h.elim
theorem relL_P {K : Kn} {w : World} : ∀ {xs : List AV} {cs : List Value} {S : Own}, isPL xs = true → relL K w xs cs S → relL K w xs cs Own.no
  | [], _, _, _, h => by rw [relL] at h ⊢; exact h
  | x :: xs, _, _, p, h => by
    rw [relL] at h ⊢
    rw [isPL, Bool.and_eq_true] at p
    obtain ⟨c1, c2, S1, S2, rfl, _, _, _, h4, h5⟩ := h
    exact ⟨c1, c2, Own.no, Own.no, rfl, Own.le_refl _, Own.le_refl _, Own.no_disj _, rel_P p.1 h4, relL_P p.2 h5⟩
end
theorem rel_le {K : Kn} {w : World} {x : AV} {cs : List Value} {S S' : Own} (h : rel K w x cs S) (hs : S.le S') : rel K w x cs S' :=
  rel_mono (Kn.le_refl K) (Meta.refl w) h (Agree.refl _ _) hs
theorem relL_le {K : Kn} {w : World} {x : List AV} {cs : List Value} {S S' : Own} (h : relL K w x cs S) (hs : S.le S') : relL K w x cs S' :=
  relL_mono (Kn.le_refl K) (Meta.refl w) h (Agree.refl _ _) hs

/-! ### lists -/
theorem leavesL_append (xs ys : List AV) : leavesL (xs ++ ys) = leavesL xs + leavesL ys := by
  induction xs with
  | nil => simp [leavesL]
  | cons x xs ih => simp [leavesL, ih]; omega
theorem leavesL_const {st : Nat} : ∀ {xs : List AV}, (∀ x ∈ xs, leaves x = st) → leavesL xs = xs.length * st
  | [], _ => by simp [leavesL]
  | x :: xs, h => by
    rw [leavesL, leavesL_const (fun y hy => h y (List.mem_cons_of_mem _ hy)), h x (List.mem_cons_self ..)]
    simp [Nat.add_mul]; omega
theorem leavesL_set {xs : List AV} {i : Nat} {z z' : AV} (h : xs[i]? = some z) (hl : leaves z' = leaves z) : leavesL (xs.set i z') = leavesL xs := by
  induction xs generalizing i with
  | nil => simp at h
  | cons x xs ih =>
    cases i with
    | zero => simp at h; subst h; simp [leavesL, hl]
    | succ i => simp at h; simp [leavesL, ih h]
theorem leavesL_take_set {xs : List AV} {i j : Nat} {z z' : AV} (h : xs[i]? = some z) (hl : leaves z' = leaves z) : leavesL ((xs.set i z').take j) = leavesL (xs.take j) := by
  induction xs generalizing i j with
  | nil => simp at h
  | cons x xs ih =>
    cases i with
    | zero => simp at h; subst h; cases j <;> simp [leavesL, hl]
    | succ i => simp at h; cases j with
      | zero => simp [leavesL]
      | succ j => simp [leavesL, ih h]

/-- One element of a row, the others, and how the row stands when it is changed. -/
theorem relL_lens {K : Kn} {w : World} : ∀ {xs : List AV} {cs : List Value} {S : Own} {i : Nat} {z : AV}, relL K w xs cs S → xs[i]? = some z →
    ∃ c1 c2 c3 Sz Sr, cs = c1 ++ (c2 ++ c3) ∧ c1.length = leavesL (xs.take i) ∧ rel K w z c2 Sz ∧ Sz.le S ∧ Sr.le S ∧ Sz.disj Sr ∧
      (∀ (j : Nat) (zj : AV), j ≠ i → xs[j]? = some zj → ∃ d1 d2 d3 Sj, cs = d1 ++ (d2 ++ d3) ∧ d1.length = leavesL (xs.take j) ∧ rel K w zj d2 Sj ∧ Sj.le Sr ∧
        (d1.length + d2.length ≤ c1.length ∨ c1.length + c2.length ≤ d1.length)) ∧
      ∀ {K' : Kn} {w' : World} {z' : AV} {c2' : List Value} {Sz' : Own}, K.le K' → Meta w w' → Agree Sr w w' → rel K' w' z' c2' Sz' → Sz'.disj Sr →
        relL K' w' (xs.set i z') (c1 ++ (c2' ++ c3)) (Sz'.or Sr)
  | [], _, _, _, _, _, h => by simp at h
  | x :: xs, cs, S, i, z, h, hi => by
    rw [relL] at h
    obtain ⟨c1, c2, S1, S2, rfl, h1, h2, h3, h4, h5⟩ := h
    cases i with
    | zero =>
      simp at hi
      subst hi
      refine ⟨[], c1, c2, S1, S2, by simp, by simp [leavesL], h4, h1, h2, h3, ?_, ?_⟩
      · intro j zj hj hz
        cases j with
        | zero => exact absurd rfl hj
        | succ j =>
          simp at hz
          obtain ⟨d1, d2, d3, Sz, Sr, rfl, g1, g2, g3, _⟩ := relL_lens h5 hz
          exact ⟨c1 ++ d1, d2, d3, Sz, by simp, by simp [leavesL, g1, rel_len h4], g2, g3, .inr (by simp)⟩
      · intro K' w' z' c2' Sz' hk hm ha hr hd
        simp only [List.set_cons_zero, List.nil_append]
        rw [relL]
        exact ⟨c2', c2, Sz', S2, rfl, Own.le_or_l _ _, Own.le_or_r _ _, hd, hr, relL_mono hk hm h5 ha (Own.le_refl _)⟩
    | succ i =>
      simp at hi
      obtain ⟨d1, d2, d3, Sz, Sr, rfl, g1, g2, g3, g4, g5, g7, g6⟩ := relL_lens h5 hi
      refine ⟨c1 ++ d1, d2, d3, Sz, S1.or Sr, by simp, by simp [leavesL, g1, rel_len h4], g2, Own.le_trans g3 h2, Own.or_le h1 (Own.le_trans g4 h2),
        Own.disj_or' (h3.symm.mono g3 (Own.le_refl _)) g5, ?_, ?_⟩
      · intro j zj hj hz
        cases j with
        | zero =>
          simp at hz
          subst hz
          exact ⟨[], c1, d1 ++ (d2 ++ d3), S1, by simp, by simp [leavesL], h4, Own.le_or_l _ _, .inl (by simp)⟩
        | succ j =>
          simp at hz
          obtain ⟨e1, e2, e3, Sj, he, k1, k2, k3, k4⟩ := g7 j zj (by omega) hz
          refine ⟨c1 ++ e1, e2, e3, Sj, by rw [he]; simp, by simp [leavesL, k1, rel_len h4], k2, Own.le_trans k3 (Own.le_or_r _ _), ?_⟩
          simp only [List.length_append]
          omega
      · intro K' w' z' c2' Sz' hk hm ha hr hd
        simp only [List.set_cons_succ, List.append_assoc]
        rw [relL]
        refine ⟨c1, d1 ++ (c2' ++ d3), S1, Sz'.or Sr, rfl, fun b o x => .inr (.inl x), Own.or_le (Own.le_or_l _ _) (fun b o x => .inr (.inr x)), ?_, ?_, ?_⟩
        · exact Own.disj_or' (hd.mono (Own.le_refl _) (Own.le_or_l _ _)).symm (h3.mono (Own.le_refl _) g4)
        · exact rel_mono hk hm h4 (ha.mono (Own.le_or_l _ _)) (Own.le_refl _)
        · exact g6 hk hm (ha.mono (Own.le_or_r _ _)) hr (hd.mono (Own.le_refl _) (Own.le_or_r _ _))

theorem relL_append {K : Kn} {w : World} : ∀ {xs ys : List AV} {cs ds : List Value} {S T U : Own}, relL K w xs cs S → relL K w ys ds T → S.disj T → S.le U → T.le U → relL K w (xs ++ ys) (cs ++ ds) U
  | [], ys, cs, ds, S, T, U, h, h', _, _, hU => by rw [relL] at h; subst h; exact relL_le h' hU
  | x :: xs, ys, cs, ds, S, T, U, h, h', hd, hS, hU => by
    rw [relL] at h
    obtain ⟨c1, c2, S1, S2, rfl, h1, h2, h3, h4, h5⟩ := h
    rw [List.cons_append, List.append_assoc, relL]
    refine ⟨c1, c2 ++ ds, S1, S2.or T, rfl, Own.le_trans h1 hS, Own.or_le (Own.le_trans h2 hS) hU, Own.disj_or' h3 (hd.mono h1 (Own.le_refl _)), h4, relL_append h5 h' (hd.mono h2 (Own.le_refl _)) (Own.le_or_l _ _) (Own.le_or_r _ _)⟩

end Go.E

namespace Go.E
open Go.RowKit

/-- K' knows more: only of S. -/
structure Kn.grows (K K' : Kn) (S : Own) : Prop where
  le : K.le K'
  cell : ∀ (b o : Nat) (v : Value), K'.cell b o = some v → K.cell b o = some v ∨ S b o
  map : ∀ (b : Nat) (es : Array MapEntry), K'.map b = some es → K.map b = some es ∨ ∀ o, S b o
theorem Kn.grows_refl (K : Kn) (S : Own) : K.grows K S := ⟨Kn.le_refl K, fun _ _ _ h => .inl h, fun _ _ h => .inl h⟩
theorem Kn.grows.mono {K K' : Kn} {S T : Own} (h : K.grows K' S) (hs : S.le T) : K.grows K' T := ⟨h.le, fun b o v x => (h.cell b o v x).imp id (hs b o), fun b es x => (h.map b es x).imp id fun y o => hs b o (y o)⟩
theorem Kn.grows.trans {K K' K2 : Kn} {S : Own} (h : K.grows K' S) (k : K'.grows K2 S) : K.grows K2 S :=
  ⟨h.le.trans k.le, fun b o v x => (k.cell b o v x).elim (h.cell b o v) .inr, fun b es x => (k.map b es x).elim (h.map b es) .inr⟩
theorem Free.grows {K K' : Kn} {S T : Own} (hf : Free K T) (h : K.grows K' S) (hd : S.disj T) : Free K' T := by
  constructor
  · intro b o ht
    cases hc : K'.cell b o with
    | none => rfl
    | some v =>
      rcases h.cell b o v hc with h1 | h1
      · rw [hf.cell b o ht] at h1; cases h1
      · exact (hd b o h1 ht).elim
  · intro b o ht
    cases hc : K'.map b with
    | none => rfl
    | some v =>
      rcases h.map b v hc with h1 | h1
      · rw [hf.map b o ht] at h1; cases h1
      · exact (hd b o (h1 o) ht).elim

/-- The cells of a block, as they stand in w, known for good below n. -/
def Kn.addCells (K : Kn) (b n : Nat) (cur : Array Value) : Kn := { K with cell := fun b' o => if b' = b ∧ o < n then cur[o]? else K.cell b' o }
def Kn.addMap (K : Kn) (b : Nat) (es : Array MapEntry) : Kn := { K with map := fun b' => if b' = b then some es else K.map b' }
def Kn.addRng (K : Kn) (b o n : Nat) (cur : Array Value) : Kn := { K with cell := fun b' j => if b' = b ∧ o ≤ j ∧ j < o + n then cur[j]? else K.cell b' j }

theorem cell_of_heap {w : World} {b : Nat} {cur : Array Value} {e : TypeId} {fr : Nat × Nat} (h : w.heap[b]? = some (Obj.cells cur e fr)) (o : Nat) : w.cell? ⟨b, o, none⟩ = cur[o]? := by
  simp [World.cell?, h]

theorem Kn.addRng_sat {K : Kn} {w : World} (hs : Sat K w) {b o n : Nat} {cur : Array Value} {e : TypeId} {fr : Nat × Nat} (h : w.heap[b]? = some (Obj.cells cur e fr)) : Sat (K.addRng b o n cur) w := by
  constructor
  · intro b' j v hv
    simp only [Kn.addRng] at hv
    split at hv
    · rename_i hh
      rw [hh.1, cell_of_heap h]
      exact hv
    · exact hs.cell _ _ _ hv
  · exact hs.map
theorem Kn.addRng_grows {K : Kn} {S : Own} (hf : Free K S) {b o n : Nat} {cur : Array Value} (h : (rng b o n).le S) : K.grows (K.addRng b o n cur) S := by
  refine ⟨⟨fun b' j v hv => ?_, fun _ _ h => h⟩, fun b' j v hv => ?_, fun _ _ h => .inl h⟩
  · simp only [Kn.addRng]
    split
    · rename_i hh
      rw [hf.cell b' j (h b' j hh)] at hv
      cases hv
    · exact hv
  · simp only [Kn.addRng] at hv
    split at hv
    · rename_i hh; exact .inr (h b' j hh)
    · exact .inl hv
theorem Kn.addRng_cell {K : Kn} {b o n : Nat} {cur : Array Value} {j : Nat} {v : Value} (h : cur[o + j]? = some v) (hj : j < n) : (K.addRng b o n cur).cell b (o + j) = some v := by
  show (if b = b ∧ o ≤ o + j ∧ o + j < o + n then cur[o + j]? else K.cell b (o + j)) = some v
  rw [if_pos ⟨rfl, by omega, by omega⟩]
  exact h
theorem Kn.addMap_sat {K : Kn} {w : World} (hs : Sat K w) {b c : Nat} {es : Array MapEntry} (h : w.heap[b]? = some (Obj.map es c)) : Sat (K.addMap b es) w := by
  constructor
  · exact hs.cell
  · intro b' es' hv
    simp only [Kn.addMap] at hv
    split at hv
    · rename_i hh
      cases hv
      exact ⟨c, by rw [hh]; exact h⟩
    · exact hs.map _ _ hv
theorem Kn.addMap_grows {K : Kn} {S : Own} (hf : Free K S) {b : Nat} {es : Array MapEntry} (h : (blk b).le S) : K.grows (K.addMap b es) S := by
  refine ⟨⟨fun _ _ _ h => h, fun b' es' hv => ?_⟩, fun _ _ _ h => .inl h, fun b' es' hv => ?_⟩
  · simp only [Kn.addMap]
    split
    · rename_i hh
      rw [hf.map b' 0 (h b' 0 hh)] at hv
      cases hv
    · exact hv
  · simp only [Kn.addMap] at hv
    split at hv
    · rename_i hh; exact .inr fun o => h b' o hh
    · exact .inl hv

theorem leaves_pz : ∀ x : AV, leaves (pz x) = leaves x := by
  intro x
  refine AV.rec (motive_1 := fun x => leaves (pz x) = leaves x) (motive_2 := fun xs => leavesL (pzL xs) = leavesL xs) ?_ ?_ ?_ ?_ ?_ ?_ ?_ ?_ ?_ ?_ ?_ ?_ ?_ ?_ ?_ ?_ ?_ x <;> intros <;> simp_all [pz, pzL, leaves, leavesL]
theorem leaves_fz : ∀ x : AV, leaves (fz x) = leaves x := by
  intro x
  refine AV.rec (motive_1 := fun x => leaves (fz x) = leaves x) (motive_2 := fun xs => leavesL (fzL xs) = leavesL xs) ?_ ?_ ?_ ?_ ?_ ?_ ?_ ?_ ?_ ?_ ?_ ?_ ?_ ?_ ?_ ?_ ?_ x <;> intros <;> simp_all [fz, fzL, leaves, leavesL]
theorem pzL_length : ∀ xs : List AV, (pzL xs).length = xs.length
  | [] => rfl
  | x :: xs => by simp [pzL, pzL_length xs]
theorem pzL_leaves {st : Nat} : ∀ {xs : List AV}, (∀ x ∈ xs, leaves x = st) → ∀ x ∈ pzL xs, leaves x = st
  | [], _, x, h => by simp [pzL] at h
  | y :: xs, hx, x, h => by
    simp only [pzL, List.mem_cons] at h
    rcases h with rfl | h
    · rw [leaves_pz]; exact hx y (List.mem_cons_self ..)
    · exact pzL_leaves (fun z hz => hx z (List.mem_cons_of_mem _ hz)) x h
theorem pz_isAgg (x : AV) (cs : List Value) (v : Value) : asV x cs v → asV (pz x) cs v := by cases x <;> simp [asV, pz]
theorem fz_isAgg (x : AV) (cs : List Value) (v : Value) : asV x cs v → asV (fz x) cs v := by cases x <;> simp [asV, fz]

mutual
/-- What is exclusive becomes known for good. -/
theorem freeze {w : World} : ∀ {x : AV} {K : Kn} {cs : List Value} {S : Own}, rel K w x cs S → Free K S → Sat K w →
    ∃ K' S', K.grows K' S ∧ Sat K' w ∧ rel K' w (pz x) cs Own.no ∧ S'.le S ∧ Free K' S' ∧ rel K' w (fz x) cs S'
  | .undef, K, _, S, h, _, hs => ⟨K, Own.no, Kn.grows_refl K S, hs, by simp only [pz]; rw [rel] at h ⊢; exact h, Own.no_le _, Free.no K, by simp only [fz]; rw [rel] at h ⊢; exact h⟩
  | .int _ _, K, _, S, h, _, hs => ⟨K, Own.no, Kn.grows_refl K S, hs, by simp only [pz]; rw [rel] at h ⊢; exact h, Own.no_le _, Free.no K, by simp only [fz]; rw [rel] at h ⊢; exact h⟩
  | .bool _, K, _, S, h, _, hs => ⟨K, Own.no, Kn.grows_refl K S, hs, by simp only [pz]; rw [rel] at h ⊢; exact h, Own.no_le _, Free.no K, by simp only [fz]; rw [rel] at h ⊢; exact h⟩
  | .str _, K, _, S, h, _, hs => ⟨K, Own.no, Kn.grows_refl K S, hs, by simp only [pz]; rw [rel] at h ⊢; exact h, Own.no_le _, Free.no K, by simp only [fz]; rw [rel] at h ⊢; exact h⟩
  | .nilp, K, _, S, h, _, hs => ⟨K, Own.no, Kn.grows_refl K S, hs, by simp only [pz]; rw [rel] at h ⊢; exact h, Own.no_le _, Free.no K, by simp only [fz]; rw [rel] at h ⊢; exact h⟩
  | .nilf, K, _, S, h, _, hs => ⟨K, Own.no, Kn.grows_refl K S, hs, by simp only [pz]; rw [rel] at h ⊢; exact h, Own.no_le _, Free.no K, by simp only [fz]; rw [rel] at h ⊢; exact h⟩
  | .sl _ _, K, _, S, h, _, hs => ⟨K, Own.no, Kn.grows_refl K S, hs, by simp only [pz]; rw [rel] at h ⊢; exact h, Own.no_le _, Free.no K, by simp only [fz]; rw [rel] at h ⊢; exact h⟩
  | .ro _, K, _, S, h, _, hs => ⟨K, Own.no, Kn.grows_refl K S, hs, by simp only [pz]; rw [rel] at h ⊢; exact h, Own.no_le _, Free.no K, by simp only [fz]; rw [rel] at h ⊢; exact h⟩
  | .fn _ _, K, _, S, h, _, hs => ⟨K, Own.no, Kn.grows_refl K S, hs, by simp only [pz]; rw [rel] at h ⊢; exact h, Own.no_le _, Free.no K, by simp only [fz]; rw [rel] at h ⊢; exact h⟩
  | .rmap _ _, K, _, S, h, _, hs => ⟨K, Own.no, Kn.grows_refl K S, hs, by simp only [pz]; rw [rel] at h ⊢; exact h, Own.no_le _, Free.no K, by simp only [fz]; rw [rel] at h ⊢; exact h⟩
  | .tup _, _, _, _, h, _, _ => by rw [rel] at h; exact h.elim
  | .agg xs, K, cs, S, h, hf, hs => by
    rw [rel] at h
    obtain ⟨K', S', h1, h2, h3, h4, h5, h6⟩ := freezeL h hf hs
    exact ⟨K', S', h1, h2, by rw [pz, rel]; exact h3, h4, h5, by rw [fz, rel]; exact h6⟩
  | .osl st xs, K, cs, S, h, hf, hs => by
    refine ⟨K, S, Kn.grows_refl K S, hs, ?_, Own.le_refl _, hf, by rw [fz]; exact h⟩
    rw [rel] at h
    rcases h with ⟨rfl, a, rfl⟩ | ⟨b, c, cur, e, ys, h1, h2, h3, h4, h5, h6, h7, h8, h9, h10⟩
    · rw [pz, rel]
      exact ⟨a, 0, by simp, by simp, by simp, .inl rfl⟩
    rw [pz, rel]
    exact ⟨some ⟨b, 0, none⟩, c, h1, h4, h7, .inr ⟨b, 0, ys, rfl, fun j v hj => by rw [Nat.zero_add]; exact h9 j v hj, h10⟩⟩
  | .arr st xs, K, cs, S, h, hf, hs => by
    rw [rel] at h
    rcases h with ⟨rfl, a, rfl⟩ | ⟨b, c, cur, e, ys, S2, h1, h2, h3, h4, h5, h6, h7, h8, h9, h10, h11, h12⟩
    · refine ⟨K, Own.no, Kn.grows_refl K S, hs, ?_, Own.no_le _, Free.no K, ?_⟩
      · rw [pz, rel]
        exact ⟨a, 0, by simp [pzL], by simp [pzL], by simp [pzL], .inl (by simp [pzL])⟩
      · rw [fz, rel]
        exact .inl ⟨by simp [pzL], a, rfl⟩
    · cases xs with
      | nil =>
        refine ⟨K, S, Kn.grows_refl K S, hs, ?_, Own.le_refl _, hf, ?_⟩
        · rw [pz, rel]
          exact ⟨some ⟨b, 0, none⟩, c, by simpa [pzL] using h1, by simp [pzL], by simp [pzL], .inl (by simp [pzL])⟩
        · rw [fz, rel]
          exact .inr ⟨b, c, cur, e, [], by simpa [pzL] using h1, h2, h3, by simp [pzL], h5, h6, by simp [pzL], fun b' o hx => h8 b' o hx.1, by simp, by rw [pzL, relL]⟩
      | cons x0 xs0 =>
      obtain ⟨K1, S1, g1, g2, g3, g4, g5, g6⟩ := freezeL h12 (hf.mono h9) hs
      have hfb : Free K1 (blk b) := (hf.mono h8).grows g1 h10
      have hlen := relL_len h12
      rw [leavesL_const h7] at hlen
      have hyk : ∀ (j : Nat) (v : Value), ys[j]? = some v → j < (x0 :: xs0).length * st := fun j v hj => by
        have := (List.getElem?_eq_some_iff.1 hj).1
        omega
      refine ⟨K1.addRng b 0 ((x0 :: xs0).length * st) cur, tail b ((x0 :: xs0).length * st), ?_, Kn.addRng_sat g2 h2, ?_, fun b' o hx => h8 b' o hx.1, ?_, ?_⟩
      · exact (g1.mono h9).trans ((Kn.addRng_grows hfb (fun b' o hx => hx.1)).mono h8)
      · rw [pz, rel]
        refine ⟨some ⟨b, 0, none⟩, c, by rw [pzL_length]; exact h1, by rw [pzL_length]; exact h4, pzL_leaves h7, .inr ⟨b, 0, ys, rfl, fun j v hj => ?_, ?_⟩⟩
        · exact Kn.addRng_cell (by rw [Nat.zero_add]; exact h11 j v hj) (hyk j v hj)
        · exact relL_mono (Kn.addRng_grows hfb (S := blk b) (fun b' o hx => hx.1)).le (Meta.refl w) g3 (Agree.no _ _) (Own.le_refl _)
      · constructor
        · intro b' o hx
          simp only [Kn.addRng]
          rw [if_neg (by have := hx.2; omega)]
          exact hfb.cell b' o hx.1
        · intro b' o hx
          exact hfb.map b' o hx.1
      · rw [fz, rel]
        refine .inr ⟨b, c, cur, e, ys, by rw [pzL_length]; exact h1, h2, h3, by rw [pzL_length]; exact h4, h5, h6, pzL_leaves h7, by rw [pzL_length]; exact Own.le_refl _, fun j v hj => ?_, ?_⟩
        · have := Kn.addRng_cell (K := K1) (b := b) (o := 0) (n := (x0 :: xs0).length * st) (cur := cur) (j := j) (v := v) (by rw [Nat.zero_add]; exact h11 j v hj) (hyk j v hj)
          rwa [Nat.zero_add] at this
        · exact relL_mono (Kn.addRng_grows hfb (S := blk b) (fun b' o hx => hx.1)).le (Meta.refl w) g3 (Agree.no _ _) (Own.le_refl _)
  | .map ks vs, K, cs, S, h, hf, hs => by
    rw [rel] at h
    obtain ⟨b, es, c, h1, h2, h3, h4, h5⟩ := h
    have hg := Kn.addMap_grows (es := es) hf h3
    refine ⟨K.addMap b es, Own.no, hg, Kn.addMap_sat hs h2, ?_, Own.no_le _, Free.no _, ?_⟩
    · rw [pz, rel]
      exact .inr ⟨b, es, h1, by simp [Kn.addMap], relE_mono hg.le (Meta.refl w) h4, relE_mono hg.le (Meta.refl w) h5⟩
    · rw [fz, rel]
      exact .inr ⟨b, es, h1, by simp [Kn.addMap], relE_mono hg.le (Meta.refl w) h4, relE_mono hg.le (Meta.refl w) h5⟩
theorem freezeL {w : World} : ∀ {xs : List AV} {K : Kn} {cs : List Value} {S : Own}, relL K w xs cs S → Free K S → Sat K w →
    ∃ K' S', K.grows K' S ∧ Sat K' w ∧ relL K' w (pzL xs) cs Own.no ∧ S'.le S ∧ Free K' S' ∧ relL K' w (fzL xs) cs S'
  | [], K, _, S, h, _, hs => ⟨K, Own.no, Kn.grows_refl K S, hs, by rw [relL] at h; rw [pzL, relL]; exact h, Own.no_le _, Free.no K, by rw [relL] at h; rw [fzL, relL]; exact h⟩
  | x :: xs, K, cs, S, h, hf, hs => by
    rw [relL] at h
    obtain ⟨c1, c2, S1, S2, rfl, h1, h2, h3, h4, h5⟩ := h
    obtain ⟨K1, T1, a1, a2, a3, a4, a5, a6⟩ := freeze h4 (hf.mono h1) hs
    obtain ⟨K2, T2, b1, b2, b3, b4, b5, b6⟩ := freezeL (relL_mono a1.le (Meta.refl w) h5 (Agree.refl _ _) (Own.le_refl _)) ((hf.mono h2).grows a1 h3) a2
    refine ⟨K2, T1.or T2, (a1.mono h1).trans (b1.mono h2), b2, ?_, Own.or_le (Own.le_trans a4 h1) (Own.le_trans b4 h2), (a5.grows b1 ((h3.symm).mono (Own.le_refl _) a4)).or b5, ?_⟩
    · rw [pzL, relL]
      exact ⟨c1, c2, Own.no, Own.no, rfl, Own.le_refl _, Own.le_refl _, Own.no_disj _, rel_mono b1.le (Meta.refl w) a3 (Agree.no _ _) (Own.le_refl _), b3⟩
    · rw [fzL, relL]
      exact ⟨c1, c2, T1, T2, rfl, Own.le_or_l _ _, Own.le_or_r _ _, h3.mono a4 b4, rel_mono b1.le (Meta.refl w) a6 (Agree.refl _ _) (Own.le_refl _), b6⟩
end

end Go.E

namespace Go.E
open Go.RowKit

/-- A tree that lies in memory at (b, o), and all that it owns. -/
def obj (K : Kn) (w : World) (x : AV) (b o : Nat) (S : Own) : Prop :=
  ∃ cs S1, rel K w x cs S1 ∧ Mem w b o cs ∧ (rng b o (leaves x)).le S ∧ S1.le S ∧ S1.disj (rng b o (leaves x))

/-- Where the place p of a tree lies. -/
def At (w : World) : List Nat → AV → Nat → Nat → Nat → Nat → Prop
  | [], _, b, o, b', o' => b' = b ∧ o' = o
  | i :: p, .agg xs, b, o, b', o' => ∃ z, xs[i]? = some z ∧ At w p z b (o + leavesL (xs.take i)) b' o'
  | i :: p, .arr st xs, b, o, b', o' => ∃ z b1 n c, xs[i]? = some z ∧ w.cell? ⟨b, o, none⟩ = some (.slice (some ⟨b1, 0, none⟩) n c) ∧ At w p z b1 (i * st) b' o'
  | _ :: _, _, _, _, _, _ => False

theorem Mem.cell {w : World} {b o : Nat} {cs : List Value} (h : Mem w b o cs) {j : Nat} {v : Value} (hj : cs[j]? = some v) : w.cell? ⟨b, o + j, none⟩ = some v := by
  obtain ⟨cur, e, h1, _, h3⟩ := h
  rw [cell_of_heap h1]
  exact h3 j v hj
theorem Mem.part {w : World} {b o : Nat} {c1 c2 c3 : List Value} (h : Mem w b o (c1 ++ (c2 ++ c3))) : Mem w b (o + c1.length) c2 := by
  obtain ⟨cur, e, h1, h2, h3⟩ := h
  refine ⟨cur, e, h1, by simp at h2; omega, fun j v hj => ?_⟩
  have hl := (List.getElem?_eq_some_iff.1 hj).1
  rw [Nat.add_assoc]
  refine h3 _ _ ?_
  rw [List.getElem?_append_right (by omega), Nat.add_sub_cancel_left, List.getElem?_append_left hl]
  exact hj
theorem Mem.agree {w w' : World} {b o : Nat} {cs : List Value} (h : Mem w b o cs) (hm : Meta w w') {S : Own} (ha : Agree S w w') (hs : (rng b o cs.length).le S) : Mem w' b o cs := by
  obtain ⟨cur, e, h1, h2, h3⟩ := h
  obtain ⟨cur', g1, g2⟩ := hm _ _ _ _ h1
  refine ⟨cur', e, g1, by omega, fun j v hj => ?_⟩
  have hl := (List.getElem?_eq_some_iff.1 hj).1
  have := ha.cell b (o + j) (hs b (o + j) ⟨rfl, by omega, by omega⟩)
  rw [cell_of_heap g1, cell_of_heap h1] at this
  rw [this]
  exact h3 j v hj
/-- A part is written: the rest is as it was. -/
theorem Mem.join {w w' : World} {b o : Nat} {c1 c2 c3 c2' : List Value} (h : Mem w b o (c1 ++ (c2 ++ c3))) (hm : Meta w w') {S : Own} (ha : Agree S w w')
    (h1 : (rng b o c1.length).le S) (h3 : (rng b (o + c1.length + c2.length) c3.length).le S) (h2 : Mem w' b (o + c1.length) c2') (hl : c2'.length = c2.length) : Mem w' b o (c1 ++ (c2' ++ c3)) := by
  obtain ⟨cur, e, g1, g2, g3⟩ := h
  obtain ⟨cur', e', k1, k2, k3⟩ := h2
  obtain ⟨cur2, k4, k5⟩ := hm _ _ _ _ g1
  rw [k1] at k4
  injection k4 with k4
  injection k4 with k4 k6
  subst k4
  refine ⟨cur', e', k1, by simp at g2 ⊢; omega, fun j v hj => ?_⟩
  have hcell : ∀ i, S b i → cur'[i]? = cur[i]? := fun i hi => by
    have := ha.cell b i hi
    rwa [cell_of_heap k1, cell_of_heap g1] at this
  rcases Nat.lt_or_ge j c1.length with hj1 | hj1
  · rw [List.getElem?_append_left hj1] at hj
    rw [hcell _ (h1 b (o + j) ⟨rfl, by omega, by omega⟩)]
    exact g3 j v (by rw [List.getElem?_append_left hj1]; exact hj)
  · rw [List.getElem?_append_right hj1] at hj
    rcases Nat.lt_or_ge (j - c1.length) c2'.length with hj2 | hj2
    · rw [List.getElem?_append_left hj2] at hj
      have := k3 _ _ hj
      rwa [show o + c1.length + (j - c1.length) = o + j by omega] at this
    · rw [List.getElem?_append_right hj2] at hj
      have hl3 := (List.getElem?_eq_some_iff.1 hj).1
      rw [hcell _ (h3 b (o + j) ⟨rfl, by omega, by omega⟩)]
      refine g3 j v ?_
      rw [List.getElem?_append_right hj1, List.getElem?_append_right (by omega)]
      rw [hl] at hj
      exact hj

theorem obj_mono {K K' : Kn} {w w' : World} {x : AV} {b o : Nat} {S S' : Own} (h : obj K w x b o S) (hk : K.le K') (hm : Meta w w') (ha : Agree S w w') (hs : S.le S') : obj K' w' x b o S' := by
  obtain ⟨cs, S1, h1, h2, h3, h4, h5⟩ := h
  exact ⟨cs, S1, rel_mono hk hm h1 (ha.mono h4) (Own.le_refl _), h2.agree hm ha (by rw [rel_len h1]; exact h3), Own.le_trans h3 hs, Own.le_trans h4 hs, h5⟩

theorem rng_disj {b o n b' o' n' : Nat} (h : b ≠ b' ∨ o + n ≤ o' ∨ o' + n' ≤ o) : (rng b o n).disj (rng b' o' n') := by
  rintro i j ⟨rfl, h1, h2⟩ ⟨rfl, h3, h4⟩
  omega
theorem rng_split {b o n m : Nat} {S : Own} (h1 : (rng b o n).le S) (h2 : (rng b (o + n) m).le S) : (rng b o (n + m)).le S := by
  rintro i j ⟨rfl, h3, h4⟩
  rcases Nat.lt_or_ge j (o + n) with h | h
  · exact h1 _ _ ⟨rfl, h3, h⟩
  · exact h2 _ _ ⟨rfl, h, by omega⟩
/-- A block but for a range. -/
def blkBut (b o n : Nat) : Own := fun b' j => b' = b ∧ ¬(o ≤ j ∧ j < o + n)
theorem blkBut_disj (b o n : Nat) : (rng b o n).disj (blkBut b o n) := by
  rintro i j ⟨_, h1, h2⟩ ⟨_, h3⟩
  exact h3 ⟨h1, h2⟩

/-- Places that the change of a tree leaves where they were. -/
theorem At_stable : ∀ {q : List Nat} {K K' : Kn} {w w' : World} {x : AV} {b o : Nat} {S : Own} {b2 o2 : Nat}, obj K w x b o S → Agree S w w' → At w q x b o b2 o2 → At w' q x b o b2 o2
  | [], _, _, _, _, _, _, _, _, _, _, _, _, h => h
  | i :: q, K, K', w, w', x, b, o, S, b2, o2, ho, ha, h => by
    obtain ⟨cs, S1, h1, h2, h3, h4, h5⟩ := ho
    cases x with
    | agg xs =>
      rw [At] at h ⊢
      obtain ⟨z, hz, h⟩ := h
      rw [rel] at h1
      obtain ⟨c1, c2, c3, Sz, Sr, rfl, g1, g2, g3, g4, g5, _, _⟩ := relL_lens h1 hz
      have hl := relL_len h1
      simp only [List.length_append] at hl
      have e2 := rel_len g2
      refine ⟨z, hz, At_stable (K := K) (K' := K') (S := S) ⟨c2, Sz, g2, by rw [← g1]; exact h2.part, ?_, Own.le_trans g3 h4, ?_⟩ ha h⟩
      · rintro i j ⟨rfl, k1, k2⟩; exact h3 _ _ ⟨rfl, by omega, by rw [leaves]; omega⟩
      · exact h5.mono g3 (by rintro i j ⟨rfl, k1, k2⟩; exact ⟨rfl, by omega, by rw [leaves]; omega⟩)
    | arr st xs =>
      rw [At] at h ⊢
      obtain ⟨z, b1, n, c, hz, hc, h⟩ := h
      rw [rel] at h1
      rcases h1 with ⟨rfl, _⟩ | ⟨b1', c', cur, e, ys, S2, rfl, k2, k3, k4, k5, k6, k7, k8, k9, k10, k11, k12⟩
      · simp at hz
      · have hc0 := h2.cell (j := 0) (v := .slice (some ⟨b1', 0, none⟩) xs.length c') rfl
        rw [Nat.add_zero] at hc0
        rw [hc0] at hc
        injection hc with hc
        injection hc with hc e2 e3
        injection hc with hc
        injection hc with hc
        subst hc
        obtain ⟨c1, c2, c3, Sz, Sr, rfl, g1, g2, g3, g4, g5, _, _⟩ := relL_lens k12 hz
        have hl := relL_len k12
        rw [leavesL_const k7] at hl
        simp only [List.length_append] at hl
        have ez := k7 z (List.mem_of_getElem? hz)
        have e2' := rel_len g2
        have hi : i < xs.length := (List.getElem?_eq_some_iff.1 hz).1
        rw [leavesL_const (fun x hx => k7 x (List.mem_of_mem_take hx)), List.length_take, Nat.min_eq_left (Nat.le_of_lt hi)] at g1
        refine ⟨z, b1', n, c, hz, ?_, At_stable (K := K) (K' := K') (S := S) ⟨c2, Sz, g2, ⟨cur, e, k2, ?_, ?_⟩, ?_, Own.le_trans g3 (Own.le_trans k9 h4), ?_⟩ ha h⟩
        · rw [ha.cell b o (h3 b o ⟨rfl, by omega, by simp [leaves]⟩)]
          rw [hc0, e2, e3]
        · have : xs.length * st ≤ c' * st := Nat.mul_le_mul_right _ k4
          omega
        · intro j v hj
          have hjl := (List.getElem?_eq_some_iff.1 hj).1
          rw [← g1]
          refine k11 _ _ ?_
          rw [List.getElem?_append_right (by omega), Nat.add_sub_cancel_left, List.getElem?_append_left hjl]
          exact hj
        · rintro i j ⟨rfl, _, _⟩; exact h4 _ _ (k8 _ _ rfl)
        · exact k10.mono g3 (by rintro i j ⟨rfl, _, _⟩; rfl)
    | _ => exact h.elim

/-- What lies at a place. -/
theorem obj_sub : ∀ {q : List Nat} {K : Kn} {w : World} {x y : AV} {b o : Nat} {S : Own} {b2 o2 : Nat}, obj K w x b o S → sub x q = some y → At w q x b o b2 o2 → ∃ Sq, Sq.le S ∧ obj K w y b2 o2 Sq
  | [], _, _, _, _, _, _, S, _, _, ho, hy, h => by
    simp only [sub, Option.some.injEq] at hy
    subst hy
    obtain ⟨rfl, rfl⟩ := h
    exact ⟨S, Own.le_refl _, ho⟩
  | i :: q, K, w, x, y, b, o, S, b2, o2, ho, hy, h => by
    obtain ⟨cs, S1, h1, h2, h3, h4, h5⟩ := ho
    cases x with
    | agg xs =>
      rw [At] at h
      obtain ⟨z, hz, h⟩ := h
      simp only [sub, hz] at hy
      rw [rel] at h1
      obtain ⟨c1, c2, c3, Sz, Sr, rfl, g1, g2, g3, g4, g5, _, _⟩ := relL_lens h1 hz
      have hl := relL_len h1
      simp only [List.length_append] at hl
      have e2 := rel_len g2
      refine obj_sub (S := S) ⟨c2, Sz, g2, by rw [← g1]; exact h2.part, ?_, Own.le_trans g3 h4, ?_⟩ hy h
      · rintro i j ⟨rfl, k1, k2⟩; exact h3 _ _ ⟨rfl, by omega, by rw [leaves]; omega⟩
      · exact h5.mono g3 (by rintro i j ⟨rfl, k1, k2⟩; exact ⟨rfl, by omega, by rw [leaves]; omega⟩)
    | arr st xs =>
      rw [At] at h
      obtain ⟨z, b1, n, c, hz, hc, h⟩ := h
      simp only [sub, hz] at hy
      rw [rel] at h1
      rcases h1 with ⟨rfl, _⟩ | ⟨b1', c', cur, e, ys, S2, rfl, k2, k3, k4, k5, k6, k7, k8, k9, k10, k11, k12⟩
      · simp at hz
      · have hc0 := h2.cell (j := 0) (v := .slice (some ⟨b1', 0, none⟩) xs.length c') rfl
        rw [Nat.add_zero] at hc0
        rw [hc0] at hc
        injection hc with hc
        injection hc with hc e2 e3
        injection hc with hc
        injection hc with hc
        subst hc
        obtain ⟨c1, c2, c3, Sz, Sr, rfl, g1, g2, g3, g4, g5, _, _⟩ := relL_lens k12 hz
        have hl := relL_len k12
        rw [leavesL_const k7] at hl
        simp only [List.length_append] at hl
        have ez := k7 z (List.mem_of_getElem? hz)
        have e2' := rel_len g2
        have hi : i < xs.length := (List.getElem?_eq_some_iff.1 hz).1
        rw [leavesL_const (fun x hx => k7 x (List.mem_of_mem_take hx)), List.length_take, Nat.min_eq_left (Nat.le_of_lt hi)] at g1
        refine obj_sub (S := S) ⟨c2, Sz, g2, ⟨cur, e, k2, ?_, ?_⟩, ?_, Own.le_trans g3 (Own.le_trans k9 h4), ?_⟩ hy h
        · have : xs.length * st ≤ c' * st := Nat.mul_le_mul_right _ k4
          omega
        · intro j v hj
          have hjl := (List.getElem?_eq_some_iff.1 hj).1
          rw [← g1]
          refine k11 _ _ ?_
          rw [List.getElem?_append_right (by omega), Nat.add_sub_cancel_left, List.getElem?_append_left hjl]
          exact hj
        · rintro i j ⟨rfl, _, _⟩; exact h4 _ _ (k8 _ _ rfl)
        · exact k10.mono g3 (by rintro i j ⟨rfl, _, _⟩; rfl)
    | _ => exact h.elim

theorem At_unique {w : World} : ∀ {q : List Nat} {x : AV} {b o b1 o1 b2 o2 : Nat}, At w q x b o b1 o1 → At w q x b o b2 o2 → b1 = b2 ∧ o1 = o2
  | [], _, _, _, _, _, _, _, h, k => ⟨h.1.trans k.1.symm, h.2.trans k.2.symm⟩
  | i :: q, .agg xs, b, o, _, _, _, _, h, k => by
    rw [At] at h k
    obtain ⟨z, hz, h⟩ := h
    obtain ⟨z', hz', k⟩ := k
    rw [hz] at hz'
    injection hz' with hz'
    subst hz'
    exact At_unique h k
  | i :: q, .arr st xs, b, o, _, _, _, _, h, k => by
    rw [At] at h k
    obtain ⟨z, b1, n, c, hz, hc, h⟩ := h
    obtain ⟨z', b1', n', c', hz', hc', k⟩ := k
    rw [hz] at hz'
    injection hz' with hz'
    subst hz'
    rw [hc] at hc'
    injection hc' with hc'
    injection hc' with hc'
    injection hc' with hc'
    injection hc' with hc'
    subst hc'
    exact At_unique h k

end Go.E

namespace Go.E
open Go.RowKit

theorem upd_nil (x y : AV) : upd x [] y = some y := by cases x <;> rfl
theorem upd_agg {xs : List AV} {i : Nat} {p : List Nat} {z z' y : AV} (h : xs[i]? = some z) (h' : upd z p y = some z') : upd (.agg xs) (i :: p) y = some (.agg (xs.set i z')) := by simp [upd, h, h']
theorem upd_arr {st : Nat} {xs : List AV} {i : Nat} {p : List Nat} {z z' y : AV} (h : xs[i]? = some z) (h' : upd z p y = some z') : upd (.arr st xs) (i :: p) y = some (.arr st (xs.set i z')) := by simp [upd, h, h']

theorem prefix_cons {i j : Nat} {p q : List Nat} : (i :: p) <+: (j :: q) ↔ i = j ∧ p <+: q := by
  simp [List.cons_prefix_cons]

/-- A place inside a tree that lies in memory: where it lies, what it owns, what the rest owns; and the tree when the place holds something else. -/
theorem obj_lens {K : Kn} {w : World} : ∀ (p : List Nat) {x y : AV} {b o : Nat} {S : Own}, obj K w x b o S → sub x p = some y →
    ∃ b' o' Sy Sr, At w p x b o b' o' ∧ obj K w y b' o' Sy ∧ Sy.le S ∧ Sr.le S ∧ Sy.disj Sr ∧
      (∀ (q : List Nat) (y2 : AV) (b2 o2 : Nat), ¬(p <+: q) → sub x q = some y2 → (∀ ys, y2 ≠ .agg ys) → At w q x b o b2 o2 → Sr b2 o2) ∧
      ∀ {K' : Kn} {w' : World} {y' : AV} {Sy' : Own}, K.le K' → Meta w w' → Agree Sr w w' → obj K' w' y' b' o' Sy' → leaves y' = leaves y → Sy'.disj Sr →
        ∃ x', upd x p y' = some x' ∧ leaves x' = leaves x ∧ obj K' w' x' b o (Sy'.or Sr) ∧
          ∀ (q : List Nat) (b2 o2 : Nat), ¬(p <+: q ∧ p ≠ q) → At w q x b o b2 o2 → At w' q x' b o b2 o2
  | [], x, y, b, o, S, ho, hy => by
    simp only [sub, Option.some.injEq] at hy
    subst hy
    refine ⟨b, o, S, Own.no, ⟨rfl, rfl⟩, ho, Own.le_refl _, Own.no_le _, Own.disj_no _, fun q _ _ _ hq => absurd List.nil_prefix hq, ?_⟩
    intro K' w' y' Sy' hk hm _ ho' hl _
    refine ⟨y', upd_nil _ _, hl, obj_mono ho' (Kn.le_refl _) (Meta.refl _) (Agree.refl _ _) (Own.le_or_l _ _), ?_⟩
    intro q b2 o2 hq ha
    cases q with
    | nil => exact ha
    | cons j q => exact absurd ⟨List.nil_prefix, by simp⟩ hq
  | i :: p, x, y, b, o, S, ho, hy => by
    obtain ⟨cs, S1, h1, h2, h3, h4, h5⟩ := ho
    cases x with
    | agg xs =>
      simp only [sub] at hy
      cases hz : xs[i]? with
      | none => simp [hz] at hy
      | some z =>
      simp only [hz] at hy
      have h1' := h1
      rw [rel] at h1
      obtain ⟨c1, c2, c3, Sz, Sr0, rfl, g1, g2, g3, g4, g5, g7, g6⟩ := relL_lens h1 hz
      have hl := relL_len h1
      simp only [List.length_append] at hl
      have e2 := rel_len g2
      have h3' : (rng b o (c1.length + (c2.length + c3.length))).le S := by rw [hl]; exact h3
      have h5' : S1.disj (rng b o (c1.length + (c2.length + c3.length))) := by rw [hl]; exact h5
      have hoz : obj K w z b (o + c1.length) (Sz.or (rng b (o + c1.length) (leaves z))) :=
        ⟨c2, Sz, g2, h2.part, Own.le_or_r _ _, Own.le_or_l _ _, h5'.mono g3 (by rintro i j ⟨rfl, k1, k2⟩; exact ⟨rfl, by omega, by omega⟩)⟩
      obtain ⟨b', o', Sy, Sr, m1, m2, m3, m4, m5, m7, m6⟩ := obj_lens p hoz hy
      have hzS : (Sz.or (rng b (o + c1.length) (leaves z))).le S := Own.or_le (Own.le_trans g3 h4) (by rintro i j ⟨rfl, k1, k2⟩; exact h3' _ _ ⟨rfl, by omega, by omega⟩)
      -- what is beside the element
      have hro : ∀ {A : Own}, A = Sr0.or ((rng b o c1.length).or (rng b (o + c1.length + c2.length) c3.length)) → A.le S ∧ (Sz.or (rng b (o + c1.length) (leaves z))).disj A := by
        rintro A rfl
        refine ⟨Own.or_le (Own.le_trans g4 h4) (Own.or_le ?_ ?_), Own.disj_or (Own.disj_or' g5 (Own.disj_or' ?_ ?_)) (Own.disj_or' ?_ (Own.disj_or' ?_ ?_))⟩
        · rintro i j ⟨rfl, k1, k2⟩; exact h3' _ _ ⟨rfl, by omega, by omega⟩
        · rintro i j ⟨rfl, k1, k2⟩; exact h3' _ _ ⟨rfl, by omega, by omega⟩
        · exact h5'.mono g3 (by rintro i j ⟨rfl, k1, k2⟩; exact ⟨rfl, by omega, by omega⟩)
        · exact h5'.mono g3 (by rintro i j ⟨rfl, k1, k2⟩; exact ⟨rfl, by omega, by omega⟩)
        · exact (h5'.mono g4 (by rintro i j ⟨rfl, k1, k2⟩; exact ⟨rfl, by omega, by omega⟩)).symm
        · exact rng_disj (by omega)
        · exact rng_disj (by omega)
      obtain ⟨hroS, hzd⟩ := hro rfl
      refine ⟨b', o', Sy, Sr.or (Sr0.or ((rng b o c1.length).or (rng b (o + c1.length + c2.length) c3.length))), ?_, m2, Own.le_trans m3 hzS, Own.or_le (Own.le_trans m4 hzS) hroS, Own.disj_or' m5 (hzd.mono m3 (Own.le_refl _)), ?_, ?_⟩
      · rw [At]; exact ⟨z, hz, by rw [← g1]; exact m1⟩
      · intro q y2 b2 o2 hq hy2 hna haq
        cases q with
        | nil => simp only [sub, Option.some.injEq] at hy2; exact absurd hy2.symm (hna xs)
        | cons j q =>
          rw [At] at haq
          obtain ⟨zj, hzj, haq⟩ := haq
          simp only [sub, hzj] at hy2
          by_cases hji : j = i
          · subst hji
            rw [hz] at hzj
            injection hzj with hzj
            subst hzj
            rw [← g1] at haq
            exact .inl (m7 q y2 b2 o2 (fun hh => hq (prefix_cons.2 ⟨rfl, hh⟩)) hy2 hna haq)
          · obtain ⟨d1, d2, d3, Sj, hcs, q1, q2, q3, q4⟩ := g7 j zj hji hzj
            have ej := rel_len q2
            have hdl : d1.length + d2.length + d3.length = c1.length + c2.length + c3.length := by
              have := congrArg List.length hcs
              simp at this
              omega
            have h2' := h2
            rw [hcs] at h2'
            rw [← q1] at haq
            obtain ⟨Sq, k1, k2⟩ := obj_sub (S := Sr0.or ((rng b o c1.length).or (rng b (o + c1.length + c2.length) c3.length))) ⟨d2, Sj, q2, h2'.part, (by
              rintro i' j' ⟨rfl, k1, k2⟩
              rcases q4 with q4 | q4
              · exact .inr (.inl ⟨rfl, by omega, by omega⟩)
              · exact .inr (.inr ⟨rfl, by omega, by omega⟩)), Own.le_trans q3 (Own.le_or_l _ _), h5'.mono (Own.le_trans q3 g4) (by rintro i' j' ⟨rfl, k1, k2⟩; exact ⟨rfl, by omega, by omega⟩)⟩ hy2 haq
            obtain ⟨_, _, f1, _, f3, _, _⟩ := k2
            refine .inr (k1 _ _ (f3 _ _ ⟨rfl, Nat.le_refl _, ?_⟩))
            have : 0 < leaves y2 := by cases y2 <;> first | (exact absurd rfl (hna _)) | simp [leaves]
            omega
      intro K' w' y' Sy' hk hm ha hy' hly hd
      obtain ⟨z', n1, n2, ⟨c2', S2', n3, n4, n5, n6, n7⟩, n8⟩ := m6 hk hm (ha.mono (Own.le_or_l _ _)) hy' hly (hd.mono (Own.le_refl _) (Own.le_or_l _ _))
      have el2 := rel_len n3
      have hd2 : (Sy'.or Sr).disj (Sr0.or ((rng b o c1.length).or (rng b (o + c1.length + c2.length) c3.length))) :=
        Own.disj_or (hd.mono (Own.le_refl _) (Own.le_or_r _ _)) (hzd.mono m4 (Own.le_refl _))
      have hnew := g6 hk hm (ha.mono (fun b o x => .inr (.inl x))) n3 (hd2.mono n6 (Own.le_or_l _ _))
      refine ⟨.agg (xs.set i z'), upd_agg hz n1, by rw [leaves, leaves, leavesL_set hz n2], ⟨c1 ++ (c2' ++ c3), S2'.or Sr0, by rw [rel]; exact hnew, ?_, ?_, ?_, ?_⟩, ?_⟩
      · exact h2.join hm ha (fun b o x => .inr (.inr (.inl x))) (fun b o x => .inr (.inr (.inr x))) n4 (by omega)
      · rw [leaves, leavesL_set hz n2, ← hl]
        refine rng_split (fun b o x => .inr (.inr (.inr (.inl x)))) (rng_split ?_ (fun b o x => .inr (.inr (.inr (.inr x)))))
        rw [e2, ← n2]
        exact fun b o x => (n5 b o x).elim .inl (fun x => .inr (.inl x))
      · exact Own.or_le (fun b o x => (n6 b o x).elim .inl (fun x => .inr (.inl x))) (fun b o x => .inr (.inr (.inl x)))
      · rw [leaves, leavesL_set hz n2, ← hl]
        refine Own.disj_or ?_ (h5'.mono g4 (Own.le_refl _))
        rintro i j hs ⟨rfl, k1, k2⟩
        rcases Nat.lt_or_ge j (o + c1.length) with hj | hj
        · exact hd2 _ _ (n6 _ _ hs) (.inr (.inl ⟨rfl, k1, hj⟩))
        · rcases Nat.lt_or_ge j (o + c1.length + c2.length) with hj2 | hj2
          · exact n7 _ _ hs ⟨rfl, hj, by omega⟩
          · exact hd2 _ _ (n6 _ _ hs) (.inr (.inr ⟨rfl, hj2, by omega⟩))
      · intro q b2 o2 hq haq
        cases q with
        | nil => exact haq
        | cons j q =>
          rw [At] at haq ⊢
          obtain ⟨zj, hzj, haq⟩ := haq
          by_cases hji : j = i
          · subst hji
            rw [hz] at hzj
            injection hzj with hzj
            subst hzj
            refine ⟨z', by rw [List.getElem?_set_self (List.getElem?_eq_some_iff.1 hz).1], ?_⟩
            rw [leavesL_take_set hz n2]
            rw [← g1] at haq ⊢
            refine n8 q b2 o2 ?_ haq
            intro hh
            exact hq ⟨prefix_cons.2 ⟨rfl, hh.1⟩, fun e => hh.2 (by injection e)⟩
          · refine ⟨zj, by rw [List.getElem?_set_ne (fun e => hji e.symm)]; exact hzj, ?_⟩
            rw [leavesL_take_set hz n2]
            obtain ⟨d1, d2, d3, Sj, hcs, q1, q2, q3, q4⟩ := g7 j zj hji hzj
            have ej := rel_len q2
            have hdl : d1.length + d2.length + d3.length = c1.length + c2.length + c3.length := by
              have := congrArg List.length hcs
              simp at this
              omega
            refine At_stable (K := K) (K' := K) (w := w) (S := Sr0.or ((rng b o c1.length).or (rng b (o + c1.length + c2.length) c3.length))) ⟨d2, Sj, q2, ?_, ?_, Own.le_trans q3 (Own.le_or_l _ _), ?_⟩ (ha.mono (Own.le_or_r _ _)) haq
            · rw [← q1]
              rw [hcs] at h2
              exact h2.part
            · rw [← q1]
              rintro i' j' ⟨rfl, k1, k2⟩
              rcases q4 with q4 | q4
              · exact .inr (.inl ⟨rfl, by omega, by omega⟩)
              · exact .inr (.inr ⟨rfl, by omega, by omega⟩)
            · rw [← q1]
              exact h5'.mono (Own.le_trans q3 g4) (by rintro i' j' ⟨rfl, k1, k2⟩; exact ⟨rfl, by omega, by omega⟩)
    | arr st xs =>
      simp only [sub] at hy
      cases hz : xs[i]? with
      | none => simp [hz] at hy
      | some z =>
      simp only [hz] at hy
      rw [rel] at h1
      rcases h1 with ⟨rfl, _⟩ | ⟨b1, c', cur, e, ys, S2, rfl, k2, k3, k4, k5, k6, k7, k8, k9, k10, k11, k12⟩
      · simp at hz
      obtain ⟨c1, c2, c3, Sz, Sr0, rfl, g1, g2, g3, g4, g5, g7, g6⟩ := relL_lens k12 hz
      have hl := relL_len k12
      rw [leavesL_const k7] at hl
      simp only [List.length_append] at hl
      have ez := k7 z (List.mem_of_getElem? hz)
      have e2 := rel_len g2
      have hi : i < xs.length := (List.getElem?_eq_some_iff.1 hz).1
      rw [leavesL_const (fun x hx => k7 x (List.mem_of_mem_take hx)), List.length_take, Nat.min_eq_left (Nat.le_of_lt hi)] at g1
      have hcap : xs.length * st ≤ c' * st := Nat.mul_le_mul_right _ k4
      have hmem : Mem w b1 0 (c1 ++ (c2 ++ c3)) := ⟨cur, e, k2, by simp only [List.length_append]; omega, fun j v hj => by rw [Nat.zero_add]; exact k11 j v hj⟩
      have hoz : obj K w z b1 (i * st) (Sz.or (rng b1 (i * st) (leaves z))) := by
        refine ⟨c2, Sz, g2, ?_, Own.le_or_r _ _, Own.le_or_l _ _, k10.mono g3 (by rintro i j ⟨rfl, _, _⟩; rfl)⟩
        have := hmem.part
        rwa [Nat.zero_add, g1] at this
      obtain ⟨b', o', Sy, Sr, m1, m2, m3, m4, m5, m7, m6⟩ := obj_lens p hoz hy
      have hzS : (Sz.or (rng b1 (i * st) (leaves z))).le S := Own.or_le (Own.le_trans g3 (Own.le_trans k9 h4)) (by rintro i j ⟨rfl, _, _⟩; exact h4 _ _ (k8 _ _ rfl))
      have hcell0 : (rng b o 1).le S := by simpa [leaves] using h3
      have h50 : S1.disj (rng b o 1) := by simpa [leaves] using h5
      have hroS : (Sr0.or ((blkBut b1 (i * st) (leaves z)).or (rng b o 1))).le S :=
        Own.or_le (Own.le_trans g4 (Own.le_trans k9 h4)) (Own.or_le (by rintro i j ⟨rfl, _⟩; exact h4 _ _ (k8 _ _ rfl)) hcell0)
      have hzd : (Sz.or (rng b1 (i * st) (leaves z))).disj (Sr0.or ((blkBut b1 (i * st) (leaves z)).or (rng b o 1))) := by
        refine Own.disj_or (Own.disj_or' g5 (Own.disj_or' ?_ ?_)) (Own.disj_or' ?_ (Own.disj_or' ?_ ?_))
        · exact k10.mono g3 (by rintro i j ⟨rfl, _⟩; rfl)
        · exact h50.mono (Own.le_trans g3 k9) (Own.le_refl _)
        · exact (k10.mono g4 (by rintro i j ⟨rfl, _, _⟩; rfl)).symm
        · exact blkBut_disj _ _ _
        · exact h50.mono (by rintro i j ⟨rfl, _, _⟩; exact k8 _ _ rfl) (Own.le_refl _)
      refine ⟨b', o', Sy, Sr.or (Sr0.or ((blkBut b1 (i * st) (leaves z)).or (rng b o 1))), ?_, m2, Own.le_trans m3 hzS, Own.or_le (Own.le_trans m4 hzS) hroS, Own.disj_or' m5 (hzd.mono m3 (Own.le_refl _)), ?_, ?_⟩
      · rw [At]
        refine ⟨z, b1, xs.length, c', hz, ?_, m1⟩
        have := h2.cell (j := 0) (v := .slice (some ⟨b1, 0, none⟩) xs.length c') rfl
        rwa [Nat.add_zero] at this
      · intro q y2 b2 o2 hq hy2 hna haq
        cases q with
        | nil =>
          obtain ⟨rfl, rfl⟩ := haq
          exact .inr (.inr (.inr ⟨rfl, Nat.le_refl _, by omega⟩))
        | cons j q =>
          rw [At] at haq
          obtain ⟨zj, b1', n', c'', hzj, hcj, haq⟩ := haq
          have hc0 := h2.cell (j := 0) (v := .slice (some ⟨b1, 0, none⟩) xs.length c') rfl
          rw [Nat.add_zero] at hc0
          rw [hc0] at hcj
          injection hcj with hcj
          injection hcj with hcj _ _
          injection hcj with hcj
          injection hcj with hcj
          subst hcj
          simp only [sub, hzj] at hy2
          by_cases hji : j = i
          · subst hji
            rw [hz] at hzj
            injection hzj with hzj
            subst hzj
            exact .inl (m7 q y2 b2 o2 (fun hh => hq (prefix_cons.2 ⟨rfl, hh⟩)) hy2 hna haq)
          · obtain ⟨d1, d2, d3, Sj, hcs, q1, q2, q3, q4⟩ := g7 j zj hji hzj
            have ej := rel_len q2
            have hj : j < xs.length := (List.getElem?_eq_some_iff.1 hzj).1
            rw [leavesL_const (fun x hx => k7 x (List.mem_of_mem_take hx)), List.length_take, Nat.min_eq_left (Nat.le_of_lt hj)] at q1
            have hmem2 := hmem
            rw [hcs] at hmem2
            have hmem3 := hmem2.part
            rw [Nat.zero_add, q1] at hmem3
            obtain ⟨Sq, k1', k2'⟩ := obj_sub (S := Sr0.or ((blkBut b1 (i * st) (leaves z)).or (rng b o 1))) ⟨d2, Sj, q2, hmem3, (by
              rintro i' j' ⟨rfl, _, _⟩
              refine .inr (.inl ⟨rfl, ?_⟩)
              rcases q4 with q4 | q4 <;> omega), Own.le_trans q3 (Own.le_or_l _ _), k10.mono (Own.le_trans q3 g4) (by rintro i' j' ⟨rfl, _, _⟩; rfl)⟩ hy2 haq
            obtain ⟨_, _, f1, _, f3, _, _⟩ := k2'
            refine .inr (k1' _ _ (f3 _ _ ⟨rfl, Nat.le_refl _, ?_⟩))
            have : 0 < leaves y2 := by cases y2 <;> first | (exact absurd rfl (hna _)) | simp [leaves]
            omega
      intro K' w' y' Sy' hk hm ha hy' hly hd
      obtain ⟨z', n1, n2, ⟨c2', S2', n3, n4, n5, n6, n7⟩, n8⟩ := m6 hk hm (ha.mono (Own.le_or_l _ _)) hy' hly (hd.mono (Own.le_refl _) (Own.le_or_l _ _))
      have el2 := rel_len n3
      have hd2 : (Sy'.or Sr).disj (Sr0.or ((blkBut b1 (i * st) (leaves z)).or (rng b o 1))) :=
        Own.disj_or (hd.mono (Own.le_refl _) (Own.le_or_r _ _)) (hzd.mono m4 (Own.le_refl _))
      have hnew := g6 hk hm (ha.mono (fun b o x => .inr (.inl x))) n3 (hd2.mono n6 (Own.le_or_l _ _))
      have hmem' : Mem w' b1 0 (c1 ++ (c2' ++ c3)) := by
        refine hmem.join hm ha ?_ ?_ (by rw [Nat.zero_add, g1]; exact n4) (by omega)
        · rintro i' j ⟨rfl, q1, q2⟩; exact .inr (.inr (.inl ⟨rfl, by omega⟩))
        · rintro i' j ⟨rfl, q1, q2⟩; exact .inr (.inr (.inl ⟨rfl, by omega⟩))
      obtain ⟨cur', e', f1, f2, f3⟩ := hmem'
      obtain ⟨cur2, f4, f5⟩ := hm _ _ _ _ k2
      rw [f1] at f4
      injection f4 with f4
      injection f4 with f4 f6
      subst f4
      have hS2 : S2'.disj (blk b1) := by
        rintro i' j hs rfl
        by_cases hr : i * st ≤ j ∧ j < i * st + leaves z
        · exact n7 _ _ hs ⟨rfl, hr.1, by omega⟩
        · exact hd2 _ _ (n6 _ _ hs) (.inr (.inl ⟨rfl, hr⟩))
      have hlen : (xs.set i z').length = xs.length := List.length_set
      refine ⟨.arr st (xs.set i z'), upd_arr hz n1, by simp [leaves], ⟨[.slice (some ⟨b1, 0, none⟩) xs.length c'], (S2'.or Sr0).or (blk b1), ?_, ?_, ?_, ?_, ?_⟩, ?_⟩
      · rw [rel]
        refine .inr ⟨b1, c', cur', e', c1 ++ (c2' ++ c3), S2'.or Sr0, by rw [hlen], f1, by omega, by rw [hlen]; exact k4, k5, k6, ?_, Own.le_or_r _ _, Own.le_or_l _ _, Own.disj_or hS2 (k10.mono g4 (Own.le_refl _)), ?_, hnew⟩
        · intro x hx
          rcases List.mem_or_eq_of_mem_set hx with hx | rfl
          · exact k7 x hx
          · rw [n2]; exact ez
        · intro j v hj
          have := f3 j v hj
          rwa [Nat.zero_add] at this
      · exact h2.agree hm ha (by rintro i' j hx; exact .inr (.inr (.inr hx)))
      · simp only [leaves]; exact fun b o x => .inr (.inr (.inr (.inr x)))
      · refine Own.or_le (Own.or_le (fun b o x => (n6 b o x).elim .inl (fun x => .inr (.inl x))) (fun b o x => .inr (.inr (.inl x)))) ?_
        rintro i' j rfl
        by_cases hr : i * st ≤ j ∧ j < i * st + leaves z
        · exact (n5 _ _ ⟨rfl, hr.1, by omega⟩).elim .inl (fun x => .inr (.inl x))
        · exact .inr (.inr (.inr (.inl ⟨rfl, hr⟩)))
      · simp only [leaves]
        refine Own.disj_or (Own.disj_or ?_ (h50.mono (Own.le_trans g4 k9) (Own.le_refl _))) (h50.mono k8 (Own.le_refl _))
        exact fun i' j hs hx => hd2 _ _ (n6 _ _ hs) (.inr (.inr hx))
      · intro q b2 o2 hq haq
        cases q with
        | nil => exact haq
        | cons j q =>
          rw [At] at haq ⊢
          obtain ⟨zj, b1', n', c'', hzj, hcj, haq⟩ := haq
          have hc0 := h2.cell (j := 0) (v := .slice (some ⟨b1, 0, none⟩) xs.length c') rfl
          rw [Nat.add_zero] at hc0
          have hcj0 := hcj
          rw [hc0] at hcj
          injection hcj with hcj
          injection hcj with hcj _ _
          injection hcj with hcj
          injection hcj with hcj
          subst hcj
          have hcj' : w'.cell? ⟨b, o, none⟩ = some (.slice (some ⟨b1, 0, none⟩) n' c'') := by
            rw [ha.cell b o (.inr (.inr (.inr ⟨rfl, by omega, by omega⟩)))]
            exact hcj0
          by_cases hji : j = i
          · subst hji
            rw [hz] at hzj
            injection hzj with hzj
            subst hzj
            refine ⟨z', b1, n', c'', by rw [List.getElem?_set_self hi], hcj', ?_⟩
            refine n8 q b2 o2 ?_ haq
            intro hh
            exact hq ⟨prefix_cons.2 ⟨rfl, hh.1⟩, fun e => hh.2 (by injection e)⟩
          · refine ⟨zj, b1, n', c'', by rw [List.getElem?_set_ne (fun e => hji e.symm)]; exact hzj, hcj', ?_⟩
            obtain ⟨d1, d2, d3, Sj, hcs, q1, q2, q3, q4⟩ := g7 j zj hji hzj
            have ej := rel_len q2
            have hj : j < xs.length := (List.getElem?_eq_some_iff.1 hzj).1
            rw [leavesL_const (fun x hx => k7 x (List.mem_of_mem_take hx)), List.length_take, Nat.min_eq_left (Nat.le_of_lt hj)] at q1
            refine At_stable (K := K) (K' := K) (w := w) (S := Sr0.or ((blkBut b1 (i * st) (leaves z)).or (rng b o 1))) ⟨d2, Sj, q2, ?_, ?_, Own.le_trans q3 (Own.le_or_l _ _), ?_⟩ (ha.mono (Own.le_or_r _ _)) haq
            · rw [hcs] at hmem
              have := hmem.part
              rwa [Nat.zero_add, q1] at this
            · rintro i' j' ⟨rfl, _, _⟩
              refine .inr (.inl ⟨rfl, ?_⟩)
              rcases q4 with q4 | q4 <;> omega
            · exact k10.mono (Own.le_trans q3 g4) (by rintro i' j' ⟨rfl, _, _⟩; rfl)
    | _ => simp [sub] at hy

end Go.E

namespace Go.E
open Go.RowKit

theorem arr_lens {K : Kn} {w : World} {st i : Nat} {xs : List AV} {z : AV} {v : Value} {S : Own} (h : rel K w (.arr st xs) [v] S) (hz : xs[i]? = some z) :
    ∃ b1 n c Sz Sr, v = .slice (some ⟨b1, 0, none⟩) n c ∧ obj K w z b1 (i * st) Sz ∧ Sz.le S ∧ Sr.le S ∧ Sz.disj Sr ∧
      (∀ (j : Nat) (zj : AV), j ≠ i → xs[j]? = some zj → ∃ Sj, Sj.le Sr ∧ obj K w zj b1 (j * st) Sj) ∧
      ∀ {K' : Kn} {w' : World} {z' : AV} {Sz' : Own}, K.le K' → Meta w w' → Agree Sr w w' → obj K' w' z' b1 (i * st) Sz' → leaves z' = leaves z → Sz'.disj Sr →
        rel K' w' (.arr st (xs.set i z')) [v] (Sz'.or Sr) := by
  rw [rel] at h
  rcases h with ⟨rfl, _⟩ | ⟨b1, c', cur, e, ys, S2, hv, k2, k3, k4, k5, k6, k7, k8, k9, k10, k11, k12⟩
  · simp at hz
  injection hv with hv _
  subst hv
  obtain ⟨c1, c2, c3, Sz, Sr0, rfl, g1, g2, g3, g4, g5, g7, g6⟩ := relL_lens k12 hz
  have hl := relL_len k12
  rw [leavesL_const k7] at hl
  simp only [List.length_append] at hl
  have ez := k7 z (List.mem_of_getElem? hz)
  have e2 := rel_len g2
  have hi : i < xs.length := (List.getElem?_eq_some_iff.1 hz).1
  rw [leavesL_const (fun x hx => k7 x (List.mem_of_mem_take hx)), List.length_take, Nat.min_eq_left (Nat.le_of_lt hi)] at g1
  have hcap : xs.length * st ≤ c' * st := Nat.mul_le_mul_right _ k4
  have hmem : Mem w b1 0 (c1 ++ (c2 ++ c3)) := ⟨cur, e, k2, by simp only [List.length_append]; omega, fun j v hj => by rw [Nat.zero_add]; exact k11 j v hj⟩
  refine ⟨b1, xs.length, c', Sz.or (rng b1 (i * st) (leaves z)), Sr0.or (blkBut b1 (i * st) (leaves z)), rfl, ⟨c2, Sz, g2, ?_, Own.le_or_r _ _, Own.le_or_l _ _, k10.mono g3 (by rintro i j ⟨rfl, _, _⟩; rfl)⟩,
    Own.or_le (Own.le_trans g3 k9) (by rintro i j ⟨rfl, _, _⟩; exact k8 _ _ rfl), Own.or_le (Own.le_trans g4 k9) (by rintro i j ⟨rfl, _⟩; exact k8 _ _ rfl), ?_, ?_, ?_⟩
  · have := hmem.part
    rwa [Nat.zero_add, g1] at this
  · refine Own.disj_or (Own.disj_or' g5 (k10.mono g3 (by rintro i j ⟨rfl, _⟩; rfl))) (Own.disj_or' (k10.mono g4 (by rintro i j ⟨rfl, _, _⟩; rfl)).symm (blkBut_disj _ _ _))
  · intro j zj hji hzj
    obtain ⟨d1, d2, d3, Sj, hcs, q1, q2, q3, q4⟩ := g7 j zj hji hzj
    have ej := rel_len q2
    have hj : j < xs.length := (List.getElem?_eq_some_iff.1 hzj).1
    rw [leavesL_const (fun x hx => k7 x (List.mem_of_mem_take hx)), List.length_take, Nat.min_eq_left (Nat.le_of_lt hj)] at q1
    have hmem2 := hmem
    rw [hcs] at hmem2
    have hmem3 := hmem2.part
    rw [Nat.zero_add, q1] at hmem3
    refine ⟨Sr0.or (blkBut b1 (i * st) (leaves z)), Own.le_refl _, d2, Sj, q2, hmem3, ?_, Own.le_trans q3 (Own.le_or_l _ _), k10.mono (Own.le_trans q3 g4) (by rintro i' j' ⟨rfl, _, _⟩; rfl)⟩
    rintro i' j' ⟨rfl, _, _⟩
    refine .inr ⟨rfl, ?_⟩
    rcases q4 with q4 | q4 <;> omega
  intro K' w' z' Sz' hk hm ha ⟨c2', S2', n3, n4, n5, n6, n7⟩ n2 hd
  have el2 := rel_len n3
  have hnew := g6 hk hm (ha.mono (Own.le_or_l _ _)) n3 (hd.mono n6 (Own.le_or_l _ _))
  have hmem' : Mem w' b1 0 (c1 ++ (c2' ++ c3)) := by
    refine hmem.join hm ha ?_ ?_ (by rw [Nat.zero_add, g1]; exact n4) (by omega)
    · rintro i' j ⟨rfl, q1, q2⟩; exact .inr ⟨rfl, by omega⟩
    · rintro i' j ⟨rfl, q1, q2⟩; exact .inr ⟨rfl, by omega⟩
  obtain ⟨cur', e', f1, f2, f3⟩ := hmem'
  obtain ⟨cur2, f4, f5⟩ := hm _ _ _ _ k2
  rw [f1] at f4
  injection f4 with f4
  injection f4 with f4 f6
  subst f4
  have hlen : (xs.set i z').length = xs.length := List.length_set
  rw [rel]
  refine .inr ⟨b1, c', cur', e', c1 ++ (c2' ++ c3), S2'.or Sr0, by rw [hlen], f1, by omega, by rw [hlen]; exact k4, k5, k6, ?_, ?_, Own.or_le (fun b o x => .inl (n6 b o x)) (fun b o x => .inr (.inl x)), Own.disj_or ?_ (k10.mono g4 (Own.le_refl _)), ?_, hnew⟩
  · intro x hx
    rcases List.mem_or_eq_of_mem_set hx with hx | rfl
    · exact k7 x hx
    · rw [n2]; exact ez
  · rintro i' j rfl
    by_cases hr : i * st ≤ j ∧ j < i * st + leaves z
    · exact .inl (n5 _ _ ⟨rfl, hr.1, by omega⟩)
    · exact .inr (.inr ⟨rfl, hr⟩)
  · rintro i' j hs rfl
    by_cases hr : i * st ≤ j ∧ j < i * st + leaves z
    · exact n7 _ _ hs ⟨rfl, hr.1, by omega⟩
    · exact hd _ _ (n6 _ _ hs) (.inr ⟨rfl, hr⟩)
  · intro j v hj
    have := f3 j v hj
    rwa [Nat.zero_add] at this

/-! ### Slots -/
def RootR (K : Kn) (w : World) (sl : Slot) (v : Value) (S : Own) : Prop :=
  match sl with
  | .cell x => ∃ b o, v = .pointer (some ⟨b, o, none⟩) ∧ obj K w x b o S
  | .v x => relV K w x v S
  | _ => False

def AtS (w : World) (sl : Slot) (v : Value) (p : List Nat) (b' o' : Nat) : Prop :=
  match sl with
  | .cell x => ∃ b o, v = .pointer (some ⟨b, o, none⟩) ∧ At w p x b o b' o'
  | .v (.arr st xs) => ∃ b n c i q z, v = .slice (some ⟨b, 0, none⟩) n c ∧ p = i :: q ∧ xs[i]? = some z ∧ At w q z b (i * st) b' o'
  | _ => False

theorem AtS_unique {w : World} {sl : Slot} {v : Value} {p : List Nat} {b1 o1 b2 o2 : Nat} (h : AtS w sl v p b1 o1) (k : AtS w sl v p b2 o2) : b1 = b2 ∧ o1 = o2 := by
  cases sl with
  | cell x =>
    obtain ⟨b, o, rfl, h⟩ := h
    obtain ⟨b', o', e, k⟩ := k
    injection e with e
    injection e with e
    injection e with e1 e2
    subst e1 e2
    exact At_unique h k
  | v x =>
    cases x with
    | arr st xs =>
      obtain ⟨b, n, c, i, q, z, rfl, rfl, hz, h⟩ := h
      obtain ⟨b', n', c', i', q', z', e, e2, hz', k⟩ := k
      injection e2 with e2 e3
      subst e2 e3
      injection e with e
      injection e with e
      injection e with e1
      subst e1
      rw [hz] at hz'
      injection hz' with hz'
      subst hz'
      exact At_unique h k
    | _ => exact h.elim
  | _ => exact h.elim

/-- The same, of a slot's root. -/
theorem slot_lens {K : Kn} {w : World} {sl : Slot} {v : Value} {S : Own} {x y : AV} {p : List Nat} (h : RootR K w sl v S) (hx : rootOf sl = some x) (hy : sub x p = some y) (hp : p ≠ [] ∨ sl = .cell x) :
    ∃ b' o' Sy Sr, AtS w sl v p b' o' ∧ obj K w y b' o' Sy ∧ Sy.le S ∧ Sr.le S ∧ Sy.disj Sr ∧
      (∀ (q : List Nat) (y2 : AV) (b2 o2 : Nat), ¬(p <+: q) → sub x q = some y2 → (∀ ys, y2 ≠ .agg ys) → AtS w sl v q b2 o2 → Sr b2 o2) ∧
      ∀ {K' : Kn} {w' : World} {y' : AV} {Sy' : Own}, K.le K' → Meta w w' → Agree Sr w w' → obj K' w' y' b' o' Sy' → leaves y' = leaves y → Sy'.disj Sr →
        ∃ x', upd x p y' = some x' ∧ RootR K' w' (setRoot sl x') v (Sy'.or Sr) ∧ rootOf (setRoot sl x') = some x' ∧
          ∀ (q : List Nat) (b2 o2 : Nat), ¬(p <+: q ∧ p ≠ q) → AtS w sl v q b2 o2 → AtS w' (setRoot sl x') v q b2 o2 := by
  cases sl with
  | cell x0 =>
    simp only [rootOf, Option.some.injEq] at hx
    subst hx
    obtain ⟨b, o, rfl, ho⟩ := h
    obtain ⟨b', o', Sy, Sr, h1, h2, h3, h4, h5, h6, h7⟩ := obj_lens p ho hy
    refine ⟨b', o', Sy, Sr, ⟨b, o, rfl, h1⟩, h2, h3, h4, h5, ?_, ?_⟩
    · rintro q y2 b2 o2 hq hy2 hna ⟨b0, o0, e, ha⟩
      injection e with e
      injection e with e
      injection e with e1 e2
      subst e1 e2
      exact h6 q y2 b2 o2 hq hy2 hna ha
    · intro K' w' y' Sy' hk hm ha ho' hl hd
      obtain ⟨x', g1, g2, g3, g4⟩ := h7 hk hm ha ho' hl hd
      refine ⟨x', g1, ⟨b, o, rfl, g3⟩, rfl, ?_⟩
      rintro q b2 o2 hq ⟨b0, o0, e, ha⟩
      injection e with e
      injection e with e
      injection e with e1 e2
      subst e1 e2
      exact ⟨b, o, rfl, g4 q b2 o2 hq ha⟩
  | v x0 =>
    have hp' : p ≠ [] := hp.resolve_right (by simp)
    cases p with
    | nil => exact absurd rfl hp'
    | cons i p =>
    cases x0 with
    | arr st xs =>
      simp only [rootOf, Option.some.injEq] at hx
      subst hx
      simp only [sub] at hy
      cases hz : xs[i]? with
      | none => simp [hz] at hy
      | some z =>
      simp only [hz] at hy
      obtain ⟨b1, n, c, Sz, Sr, rfl, g1, g2, g3, g4, g5, g6⟩ := arr_lens h hz
      obtain ⟨b', o', Sy, Sr', h1, h2, h3, h4, h5, h6, h7⟩ := obj_lens p g1 hy
      have hi : i < xs.length := (List.getElem?_eq_some_iff.1 hz).1
      refine ⟨b', o', Sy, Sr'.or Sr, ⟨b1, n, c, i, p, z, rfl, rfl, hz, h1⟩, h2, Own.le_trans h3 g2, Own.or_le (Own.le_trans h4 g2) g3, Own.disj_or' h5 (g4.mono h3 (Own.le_refl _)), ?_, ?_⟩
      · rintro q y2 b2 o2 hq hy2 hna ⟨b0, n0, c0, j, q', zj, e, rfl, hzj, ha⟩
        injection e with e
        injection e with e
        injection e with e1
        subst e1
        simp only [sub, hzj] at hy2
        by_cases hji : j = i
        · subst hji
          rw [hz] at hzj
          injection hzj with hzj
          subst hzj
          exact .inl (h6 q' y2 b2 o2 (fun hh => hq (prefix_cons.2 ⟨rfl, hh⟩)) hy2 hna ha)
        · obtain ⟨Sj, k1, k2⟩ := g5 j zj hji hzj
          obtain ⟨Sq, k3, k4⟩ := obj_sub k2 hy2 ha
          obtain ⟨_, _, f1, _, f3, _, _⟩ := k4
          refine .inr (k1 _ _ (k3 _ _ (f3 _ _ ⟨rfl, Nat.le_refl _, ?_⟩)))
          have : 0 < leaves y2 := by cases y2 <;> first | (exact absurd rfl (hna _)) | simp [leaves]
          omega
      · intro K' w' y' Sy' hk hm ha ho' hl hd
        obtain ⟨z', n1, n2, n3, n4⟩ := h7 hk hm (ha.mono (Own.le_or_l _ _)) ho' hl (hd.mono (Own.le_refl _) (Own.le_or_l _ _))
        have hnew := g6 hk hm (ha.mono (Own.le_or_r _ _)) n3 n2 (Own.disj_or (hd.mono (Own.le_refl _) (Own.le_or_r _ _)) (g4.mono h4 (Own.le_refl _)))
        refine ⟨.arr st (xs.set i z'), upd_arr hz n1, ?_, rfl, ?_⟩
        · show relV K' w' (.arr st (xs.set i z')) _ _
          refine rel_le hnew ?_
          exact fun b o x => x.elim (fun x => x.elim .inl (fun x => .inr (.inl x))) (fun x => .inr (.inr x))
        · rintro q b2 o2 hq ⟨b0, n0, c0, j, q', zj, e, rfl, hzj, haq⟩
          injection e with e
          injection e with e
          injection e with e1
          subst e1
          by_cases hji : j = i
          · subst hji
            rw [hz] at hzj
            injection hzj with hzj
            subst hzj
            refine ⟨b1, n, c, j, q', z', rfl, rfl, by rw [List.getElem?_set_self hi], n4 q' b2 o2 ?_ haq⟩
            intro hh
            exact hq ⟨prefix_cons.2 ⟨rfl, hh.1⟩, fun e => hh.2 (by injection e)⟩
          · obtain ⟨Sj, k1, k2⟩ := g5 j zj hji hzj
            exact ⟨b1, n, c, j, q', zj, rfl, rfl, by rw [List.getElem?_set_ne (fun e => hji e.symm)]; exact hzj, At_stable (K' := K') k2 (ha.mono (Own.le_trans k1 (Own.le_or_r _ _))) haq⟩
    | osl st xs => simp only [rootOf, Option.some.injEq] at hx; subst hx; simp [sub] at hy
    | map ks vs => simp only [rootOf, Option.some.injEq] at hx; subst hx; simp [sub] at hy
    | _ => simp [rootOf] at hx
  | _ => simp [rootOf] at hx

def CapsR (K : Kn) (w : World) (f : Frame) (a : Nat → Value) : List Cap → List Value → Prop
  | [], vs => vs = []
  | c :: cs, vs => ∃ v vs', vs = v :: vs' ∧ (match c with | .slot c => ∀ x, get f c = .cell x → v = a c | .ro x => rel K w (.ro x) [v] Own.no) ∧ CapsR K w f a cs vs'

/-- What slot t of a frame says of the value that stands there; S: what it owns. -/
def SlotR (K : Kn) (w : World) (f : Frame) (a : Nat → Value) (t : Nat) (S : Own) : Prop :=
  match get f t with
  | .any => True
  | .non => a t = undef
  | .v x => relV K w x (a t) S
  | .cell x => ∃ b o, a t = .pointer (some ⟨b, o, none⟩) ∧ obj K w x b o S
  | .loc s p => (∃ y, subAt f s p = some y) → ∃ b o, a t = .pointer (some ⟨b, o, none⟩) ∧ AtS w (get f s) (a s) p b o
  | .view s p => ∀ y, subAt f s p = some y → (p = [] ∧ get f s = .v y ∧ a t = a s) ∨ ((∀ ys, y ≠ .agg ys) ∧ ∃ b o, AtS w (get f s) (a s) p b o ∧ w.cell? ⟨b, o, none⟩ = some (a t))
  | .box s p => (∃ y, subAt f s p = some y) → ∃ b' o' b o, a t = .pointer (some ⟨b', o', none⟩) ∧ K.cell b' o' = some (.pointer (some ⟨b, o, none⟩)) ∧ AtS w (get f s) (a s) p b o
  | .clo g cs => ∃ vs : List Value, a t = .func (.func g) #[] vs.toArray ∧ CapsR K w f a cs vs

def vals (a : Array Value) : Nat → Value := fun t => a.getD t undef

structure FR (K : Kn) (w : World) (f : Frame) (a : Array Value) (O : Nat → Own) : Prop where
  len : f.length = a.size
  slot : ∀ t, SlotR K w f (vals a) t (O t)
  disj : ∀ s t, s ≠ t → (O s).disj (O t)
  free : ∀ t, Free K (O t)
  lt : ∀ t b o, O t b o → b < w.heap.size

end Go.E

namespace Go.E
open Go.RowKit

theorem relT_mono {K K' : Kn} {w w' : World} (hk : K.le K') (hm : Meta w w') : ∀ {xs : List AV} {vs : List Value} {S S' : Own}, relV.relT K w xs vs S → Agree S w w' → S.le S' → relV.relT K' w' xs vs S'
  | [], _, _, _, h, _, _ => by rw [relV.relT] at h ⊢; exact h
  | x :: xs, _, _, _, h, ha, hs => by
    rw [relV.relT] at h ⊢
    obtain ⟨v, vs', S1, S2, rfl, h1, h2, h3, ⟨cs, h4, h5⟩, h6⟩ := h
    exact ⟨v, vs', S1, S2, rfl, Own.le_trans h1 hs, Own.le_trans h2 hs, h3, ⟨cs, rel_mono hk hm h4 (ha.mono h1) (Own.le_refl _), h5⟩, relT_mono hk hm h6 (ha.mono h2) (Own.le_refl _)⟩

theorem relV_mono {K K' : Kn} {w w' : World} (hk : K.le K') (hm : Meta w w') {x : AV} {v : Value} {S S' : Own} (h : relV K w x v S) (ha : Agree S w w') (hs : S.le S') : relV K' w' x v S' := by
  cases x with
  | tup xs => obtain ⟨vs, h1, h2⟩ := h; exact ⟨vs, h1, relT_mono hk hm h2 ha hs⟩
  | agg xs => obtain ⟨cs, h1, h2⟩ := h; exact ⟨cs, h1, relL_mono hk hm h2 ha hs⟩
  | _ => exact rel_mono hk hm h ha hs
theorem relV_le {K : Kn} {w : World} {x : AV} {v : Value} {S S' : Own} (h : relV K w x v S) (hs : S.le S') : relV K w x v S' :=
  relV_mono (Kn.le_refl K) (Meta.refl w) h (Agree.refl _ _) hs

theorem AtS_stable {K : Kn} {w w' : World} {sl : Slot} {v : Value} {S : Own} {p : List Nat} {b o : Nat} (h : RootR K w sl v S) (ha : Agree S w w') (hat : AtS w sl v p b o) : AtS w' sl v p b o := by
  cases sl with
  | cell x =>
    obtain ⟨b0, o0, rfl, ho⟩ := h
    obtain ⟨b1, o1, e, hat⟩ := hat
    injection e with e
    injection e with e
    injection e with e1 e2
    subst e1 e2
    exact ⟨b0, o0, rfl, At_stable (K' := K) ho ha hat⟩
  | v x =>
    cases x with
    | arr st xs =>
      obtain ⟨b0, n0, c0, i, q, z, rfl, rfl, hz, hat⟩ := hat
      obtain ⟨b1, n, c, Sz, Sr, e, g1, g2, _⟩ := arr_lens h hz
      injection e with e
      injection e with e
      injection e with e1
      subst e1
      exact ⟨b0, n0, c0, i, q, z, rfl, rfl, hz, At_stable (K' := K) g1 (ha.mono g2) hat⟩
    | _ => exact hat.elim
  | _ => exact h.elim

theorem AtS_sub {K : Kn} {w : World} {sl : Slot} {v : Value} {S : Own} {x y : AV} {p : List Nat} {b o : Nat} (h : RootR K w sl v S) (hx : rootOf sl = some x) (hy : sub x p = some y) (hat : AtS w sl v p b o) :
    ∃ Sq, Sq.le S ∧ obj K w y b o Sq := by
  cases sl with
  | cell x0 =>
    simp only [rootOf, Option.some.injEq] at hx
    subst hx
    obtain ⟨b0, o0, rfl, ho⟩ := h
    obtain ⟨b1, o1, e, hat⟩ := hat
    injection e with e
    injection e with e
    injection e with e1 e2
    subst e1 e2
    exact obj_sub ho hy hat
  | v x0 =>
    cases x0 with
    | arr st xs =>
      simp only [rootOf, Option.some.injEq] at hx
      subst hx
      obtain ⟨b0, n0, c0, i, q, z, rfl, rfl, hz, hat⟩ := hat
      obtain ⟨b1, n, c, Sz, Sr, e, g1, g2, _⟩ := arr_lens h hz
      injection e with e
      injection e with e
      injection e with e1
      subst e1
      simp only [sub, hz] at hy
      obtain ⟨Sq, k1, k2⟩ := obj_sub g1 hy hat
      exact ⟨Sq, Own.le_trans k1 g2, k2⟩
    | _ => exact hat.elim
  | _ => exact h.elim

theorem obj_cell {K : Kn} {w : World} {y : AV} {b o : Nat} {S : Own} (h : obj K w y b o S) (hna : ∀ ys, y ≠ .agg ys) : S b o := by
  obtain ⟨_, _, f1, _, f3, _, _⟩ := h
  refine f3 _ _ ⟨rfl, Nat.le_refl _, ?_⟩
  have : 0 < leaves y := by cases y <;> first | (exact absurd rfl (hna _)) | simp [leaves]
  omega

theorem SlotR.root {K : Kn} {w : World} {f : Frame} {a : Nat → Value} {t : Nat} {S : Own} {x : AV} (h : SlotR K w f a t S) (hx : rootOf (get f t) = some x) : RootR K w (get f t) (a t) S := by
  unfold SlotR at h
  cases hg : get f t with
  | cell x => rw [hg] at h; exact h
  | v x => rw [hg] at h; exact h
  | _ => rw [hg] at hx; simp [rootOf] at hx

theorem CapsR_mono {K K' : Kn} {w w' : World} (hk : K.le K') (hm : Meta w w') {f : Frame} {a : Nat → Value} : ∀ {cs : List Cap} {vs : List Value}, CapsR K w f a cs vs → CapsR K' w' f a cs vs
  | [], _, h => h
  | c :: cs, _, h => by
    obtain ⟨v, vs', rfl, h1, h2⟩ := h
    refine ⟨v, vs', rfl, ?_, CapsR_mono hk hm h2⟩
    cases c with
    | slot c => exact h1
    | ro x => exact rel_mono hk hm h1 (Agree.no _ _) (Own.le_refl _)

theorem subAt_root {f : Frame} {s : Nat} {p : List Nat} {y : AV} (h : subAt f s p = some y) : ∃ x, rootOf (get f s) = some x ∧ sub x p = some y := by
  unfold subAt at h
  cases hr : rootOf (get f s) with
  | none => rw [hr] at h; cases h
  | some x => rw [hr] at h; exact ⟨x, rfl, h⟩

/-- The world goes on; what the slots own stays. -/
theorem FR.world {K K' : Kn} {w w' : World} {f : Frame} {a : Array Value} {O : Nat → Own} (h : FR K w f a O) (hk : K.le K') (hm : Meta w w') (ha : ∀ t, Agree (O t) w w') (hf : ∀ t, Free K' (O t)) (hs : w.heap.size ≤ w'.heap.size) : FR K' w' f a O := by
  refine ⟨h.len, fun t => ?_, h.disj, hf, fun t b o x => Nat.lt_of_lt_of_le (h.lt t b o x) hs⟩
  have ht := h.slot t
  unfold SlotR at ht ⊢
  cases hg : get f t with
  | any => trivial
  | non => rw [hg] at ht; exact ht
  | v x => rw [hg] at ht; exact relV_mono hk hm ht (ha t) (Own.le_refl _)
  | cell x => rw [hg] at ht; obtain ⟨b, o, h1, h2⟩ := ht; exact ⟨b, o, h1, obj_mono h2 hk hm (ha t) (Own.le_refl _)⟩
  | loc s p =>
    rw [hg] at ht
    intro hy
    obtain ⟨b, o, h1, h2⟩ := ht hy
    obtain ⟨y, hy⟩ := hy
    obtain ⟨x, hx, _⟩ := subAt_root hy
    exact ⟨b, o, h1, AtS_stable ((h.slot s).root hx) (ha s) h2⟩
  | box s p =>
    rw [hg] at ht
    intro hy
    obtain ⟨b', o', b, o, h1, h3, h2⟩ := ht hy
    obtain ⟨y, hy⟩ := hy
    obtain ⟨x, hx, _⟩ := subAt_root hy
    exact ⟨b', o', b, o, h1, hk.cell _ _ _ h3, AtS_stable ((h.slot s).root hx) (ha s) h2⟩
  | view s p =>
    rw [hg] at ht
    intro y hy
    rcases ht y hy with h1 | ⟨hna, b, o, h1, h2⟩
    · exact .inl h1
    · obtain ⟨x, hx, hxy⟩ := subAt_root hy
      have hr := (h.slot s).root hx
      obtain ⟨Sq, k1, k2⟩ := AtS_sub hr hx hxy h1
      refine .inr ⟨hna, b, o, AtS_stable hr (ha s) h1, ?_⟩
      rw [(ha s).cell b o (k1 _ _ (obj_cell k2 hna))]
      exact h2
  | clo g cs => rw [hg] at ht; obtain ⟨vs, h1, h2⟩ := ht; exact ⟨vs, h1, CapsR_mono hk hm h2⟩

def rootish : Slot → Bool
  | .cell _ => true
  | .v (.arr _ _) => true
  | .v (.osl _ _) => true
  | .v (.map _ _) => true
  | _ => false
theorem rootish_none {x : Slot} (h : rootish x = false) : rootOf x = none := by
  cases x with
  | cell x => simp [rootish] at h
  | v x => cases x <;> simp_all [rootish, rootOf]
  | _ => rfl
theorem isRoot_rootish {x : Slot} (h : isRoot x = false) : rootish x = false := by
  cases x with
  | cell x => simp [isRoot] at h
  | v x => cases x <;> simp_all [rootish, isRoot, isP]
  | _ => rfl

def NoRef (t : Nat) : Slot → Prop
  | .loc s _ => s ≠ t
  | .view s _ => s ≠ t
  | .box s _ => s ≠ t
  | .clo _ cs => ∀ c ∈ cs, ∀ i, c = .slot i → i ≠ t
  | _ => True

theorem get_set_ne {f : Frame} {t u : Nat} {x : Slot} (h : u ≠ t) : get (f.set t x) u = get f u := by
  simp [get, List.getD_eq_getElem?_getD, List.getElem?_set_ne (Ne.symm h)]
theorem get_set_self {f : Frame} {t : Nat} {x : Slot} (h : t < f.length) : get (f.set t x) t = x := by
  simp [get, List.getD_eq_getElem?_getD, List.getElem?_set_self h]
theorem get_big {f : Frame} {t : Nat} (h : f.length ≤ t) : get f t = .any := by
  simp [get, List.getD_eq_getElem?_getD, List.getElem?_eq_none h]
theorem vals_set_ne {a : Array Value} {t u : Nat} {v : Value} (h : u ≠ t) : vals (a.setIfInBounds t v) u = vals a u := by
  simp [vals, Array.getElem?_setIfInBounds_ne (Ne.symm h)]
theorem vals_set_self {a : Array Value} {t : Nat} {v : Value} (h : t < a.size) : vals (a.setIfInBounds t v) t = v := by
  simp [vals, h]

theorem CapsR_frame {K : Kn} {w : World} {f f' : Frame} {a a' : Nat → Value} : ∀ {cs : List Cap} {vs : List Value}, CapsR K w f a cs vs → (∀ c ∈ cs, ∀ i x, c = .slot i → get f' i = .cell x → (∃ x', get f i = .cell x') ∧ a' i = a i) → CapsR K w f' a' cs vs
  | [], _, h, _ => h
  | c :: cs, _, h, hh => by
    obtain ⟨v, vs', rfl, h1, h2⟩ := h
    refine ⟨v, vs', rfl, ?_, CapsR_frame h2 fun c hc => hh c (List.mem_cons_of_mem _ hc)⟩
    cases c with
    | slot c =>
      intro x hx
      obtain ⟨⟨x', e1⟩, e2⟩ := hh _ (List.mem_cons_self ..) c x rfl hx
      rw [e2]
      exact h1 x' e1
    | ro x => exact h1

/-- A slot gets something else. -/
theorem FR.set_slot {K : Kn} {w : World} {f : Frame} {a : Array Value} {O : Nat → Own} (h : FR K w f a O) {t : Nat} {x : Slot} {v : Value} {S : Own}
    (hr : rootish x = true → ∀ u, u ≠ t → NoRef t (get f u)) (hf : Free K S) (hl : ∀ b o, S b o → b < w.heap.size) (hd : ∀ u, u ≠ t → S.disj (O u))
    (hx : t < f.length → SlotR K w (f.set t x) (vals (a.setIfInBounds t v)) t S) : FR K w (f.set t x) (a.setIfInBounds t v) (fun u => if u = t then S else O u) := by
  refine ⟨by simp [h.len], fun u => ?_, fun s u hsu => ?_, fun u => ?_, fun u b o hu => ?_⟩
  · by_cases hu : u = t
    · subst hu
      simp only [if_true]
      rcases Nat.lt_or_ge u f.length with hlt | hge
      · exact hx hlt
      · unfold SlotR
        rw [get_big (by simpa using hge)]
        trivial
    · simp only [if_neg hu]
      have hsu := h.slot u
      unfold SlotR at hsu ⊢
      rw [get_set_ne hu]
      rw [vals_set_ne hu]
      have hsub : ∀ s p, s ≠ t → subAt (f.set t x) s p = subAt f s p := fun s p hs => by simp only [subAt, get_set_ne hs]
      have hsubt : ∀ p y, subAt (f.set t x) t p = some y → rootish x = true := fun p y hy => by
        cases hc : rootish x with
        | true => rfl
        | false =>
          obtain ⟨x', hx', _⟩ := subAt_root hy
          rcases Nat.lt_or_ge t f.length with hlt | hge
          · rw [get_set_self hlt, rootish_none hc] at hx'; cases hx'
          · rw [get_big (by simpa using hge)] at hx'; simp [rootOf] at hx'
      cases hg : get f u with
      | any => trivial
      | non => rw [hg] at hsu; exact hsu
      | v y => rw [hg] at hsu; exact hsu
      | cell y => rw [hg] at hsu; exact hsu
      | loc s p =>
        rw [hg] at hsu
        rintro ⟨y, hy⟩
        by_cases hs : s = t
        · subst hs
          have := hr (hsubt p y hy) u hu
          rw [hg] at this
          exact absurd rfl this
        · rw [hsub s p hs] at hy
          rw [get_set_ne hs, vals_set_ne hs]
          exact hsu ⟨y, hy⟩
      | box s p =>
        rw [hg] at hsu
        rintro ⟨y, hy⟩
        by_cases hs : s = t
        · subst hs
          have := hr (hsubt p y hy) u hu
          rw [hg] at this
          exact absurd rfl this
        · rw [hsub s p hs] at hy
          rw [get_set_ne hs, vals_set_ne hs]
          exact hsu ⟨y, hy⟩
      | view s p =>
        rw [hg] at hsu
        intro y hy
        by_cases hs : s = t
        · subst hs
          have := hr (hsubt p y hy) u hu
          rw [hg] at this
          exact absurd rfl this
        · rw [hsub s p hs] at hy
          rw [get_set_ne hs, vals_set_ne hs]
          exact hsu y hy
      | clo g cs =>
        rw [hg] at hsu
        obtain ⟨vs, h1, h2⟩ := hsu
        refine ⟨vs, h1, CapsR_frame h2 ?_⟩
        rintro c hc i x' rfl hi
        by_cases hit : i = t
        · subst hit
          have hrx : rootish x = true := by
            rcases Nat.lt_or_ge i f.length with hlt | hge
            · rw [get_set_self hlt] at hi; rw [hi]; rfl
            · rw [get_big (by simpa using hge)] at hi; cases hi
          have := hr hrx u hu
          rw [hg] at this
          exact absurd rfl (this _ hc i rfl)
        · rw [get_set_ne hit] at hi
          exact ⟨⟨x', hi⟩, vals_set_ne hit⟩
  · by_cases h1 : s = t
    · subst h1
      simp only [if_true, if_neg (Ne.symm hsu)]
      exact hd u (Ne.symm hsu)
    · by_cases h2 : u = t
      · subst h2
        simp only [if_true, if_neg h1]
        exact (hd s h1).symm
      · simp only [if_neg h1, if_neg h2]
        exact h.disj s u hsu
  · by_cases h1 : u = t
    · simp only [if_pos h1]; exact hf
    · simp only [if_neg h1]; exact h.free u
  · by_cases h1 : u = t
    · simp only [if_pos h1] at hu; exact hl b o hu
    · simp only [if_neg h1] at hu; exact h.lt u b o hu

/-- Some slots are forgotten; the roots stay. -/
theorem FR.of_sub {K : Kn} {w : World} {f f' : Frame} {a : Array Value} {O : Nat → Own} (h : FR K w f a O) (hl : f'.length = f.length)
    (hh : ∀ u, get f' u = get f u ∨ (get f' u = .any ∧ rootish (get f u) = false)) : FR K w f' a O := by
  have hroot : ∀ s, rootOf (get f' s) = rootOf (get f s) := fun s => by
    rcases hh s with e | ⟨e, e2⟩
    · rw [e]
    · rw [e, rootish_none e2]; rfl
  have hsub : ∀ s p, subAt f' s p = subAt f s p := fun s p => by simp only [subAt, hroot]
  have hget : ∀ s p y, subAt f s p = some y → get f' s = get f s := fun s p y hy => by
    obtain ⟨x, hx, _⟩ := subAt_root hy
    rcases hh s with e | ⟨e, e2⟩
    · exact e
    · rw [rootish_none e2] at hx; cases hx
  refine ⟨by rw [hl, h.len], fun u => ?_, h.disj, h.free, h.lt⟩
  have hu := h.slot u
  unfold SlotR at hu ⊢
  rcases hh u with e | ⟨e, _⟩
  · rw [e]
    cases hg : get f u with
    | any => trivial
    | non => rw [hg] at hu; exact hu
    | v y => rw [hg] at hu; exact hu
    | cell y => rw [hg] at hu; exact hu
    | loc s p =>
      rw [hg] at hu
      rintro ⟨y, hy⟩
      rw [hsub] at hy
      rw [hget s p y hy]
      exact hu ⟨y, hy⟩
    | box s p =>
      rw [hg] at hu
      rintro ⟨y, hy⟩
      rw [hsub] at hy
      rw [hget s p y hy]
      exact hu ⟨y, hy⟩
    | view s p =>
      rw [hg] at hu
      intro y hy
      rw [hsub] at hy
      rw [hget s p y hy]
      exact hu y hy
    | clo g cs =>
      rw [hg] at hu
      obtain ⟨vs, h1, h2⟩ := hu
      refine ⟨vs, h1, CapsR_frame h2 ?_⟩
      rintro c hc i x' rfl hi
      rcases hh i with e | ⟨e, _⟩
      · rw [e] at hi; exact ⟨⟨x', hi⟩, rfl⟩
      · rw [e] at hi; cases hi
  · rw [e]; trivial

/-- A slot is forgotten. -/
theorem FR.drop {K : Kn} {w : World} {f : Frame} {a : Array Value} {O : Nat → Own} (h : FR K w f a O) (t : Nat) : FR K w (f.set t .any) a (fun u => if u = t then Own.no else O u) := by
  have := h.set_slot (t := t) (x := .any) (v := vals a t) (S := Own.no) (by simp [rootish]) (Free.no K) (fun _ _ h => h.elim) (fun _ _ => Own.no_disj _)
    (fun hl => by unfold SlotR; rw [get_set_self hl]; trivial)
  have e : a.setIfInBounds t (vals a t) = a := by
    apply Array.ext (by simp)
    intro i h1 h2
    by_cases hi : i = t
    · subst hi; simp [vals, h2]
    · rw [Array.getElem_setIfInBounds_ne h2 (Ne.symm hi)]
  rwa [e] at this

theorem get_map {f : Frame} {g : Slot → Slot} (hg : g .any = .any) (t : Nat) : get (f.map g) t = g (get f t) := by
  simp only [get, List.getD_eq_getElem?_getD, List.getElem?_map]
  cases f[t]? with
  | none => simp [hg]
  | some x => rfl
theorem killedAll_ok (s : Nat) (x : Slot) : killedAll s x = x ∨ (killedAll s x = .any ∧ rootish x = false) := by
  cases x <;> simp only [killedAll] <;> first | (exact .inl trivial) | (split <;> first | exact .inr ⟨rfl, rfl⟩ | exact .inl rfl)
theorem killed_ok (s : Nat) (p : List Nat) (x : Slot) : killed s p x = x ∨ (killed s p x = .any ∧ rootish x = false) := by
  cases x <;> simp only [killed] <;> first | (exact .inl trivial) | (split <;> first | exact .inr ⟨rfl, rfl⟩ | exact .inl rfl)
theorem killedAll_noRef (s : Nat) (x : Slot) : NoRef s (killedAll s x) := by
  cases x with
  | loc s' q =>
    simp only [killedAll]
    split
    · trivial
    · rename_i h; exact fun e => h (by simp [e])
  | box s' q =>
    simp only [killedAll]
    split
    · trivial
    · rename_i h; exact fun e => h (by simp [e])
  | view s' q =>
    simp only [killedAll]
    split
    · trivial
    · rename_i h; exact fun e => h (by simp [e])
  | clo g cs =>
    simp only [killedAll]
    split
    · trivial
    · rename_i h
      rintro c hc i rfl e
      subst e
      refine h (List.any_eq_true.2 ⟨_, hc, ?_⟩)
      simp
  | _ => trivial
theorem FR.kill_all {K : Kn} {w : World} {f : Frame} {a : Array Value} {O : Nat → Own} (h : FR K w f a O) (s : Nat) : FR K w (killAll f s) a O :=
  h.of_sub (by simp [Go.E.killAll]) fun u => by rw [Go.E.killAll, get_map rfl]; exact killedAll_ok s _
theorem FR.kill_at {K : Kn} {w : World} {f : Frame} {a : Array Value} {O : Nat → Own} (h : FR K w f a O) (s : Nat) (p : List Nat) : FR K w (kill f s p) a O :=
  h.of_sub (by simp [Go.E.kill]) fun u => by rw [Go.E.kill, get_map rfl]; exact killed_ok s p _

end Go.E

namespace Go.E
open Go.RowKit

/-- What a slot says that refers to no other slot. -/
def selfR (K : Kn) (w : World) (x : Slot) (v : Value) (S : Own) : Prop :=
  match x with
  | .any => True
  | .non => v = undef
  | .v y => relV K w y v S
  | .cell y => ∃ b o, v = .pointer (some ⟨b, o, none⟩) ∧ obj K w y b o S
  | _ => False
theorem selfR_slot {K : Kn} {w : World} {x : Slot} {v : Value} {S : Own} (h : selfR K w x v S) {f : Frame} {a : Nat → Value} {t : Nat} (hg : get f t = x) (hv : a t = v) : SlotR K w f a t S := by
  unfold SlotR
  rw [hg, hv]
  cases x with
  | any => trivial
  | non => exact h
  | v y => exact h
  | cell y => exact h
  | _ => exact h.elim

theorem put_length (f : Frame) (d : Nat) (x : Slot) : (put f d x).length = f.length := by
  unfold put killAll; split <;> simp
theorem putO_length (f : Frame) (d : Option Nat) (x : Slot) : (putO f d x).length = f.length := by
  cases d <;> simp [putO, put_length]

/-- A slot gets a value that refers to no other slot. -/
theorem FR.put_self {K : Kn} {w : World} {f : Frame} {a : Array Value} {O : Nat → Own} (h : FR K w f a O) {t : Nat} {x : Slot} {v : Value} {S : Own}
    (hf : Free K S) (hl : ∀ b o, S b o → b < w.heap.size) (hd : ∀ u, u ≠ t → S.disj (O u)) (hx : selfR K w x v S) :
    FR K w (put f t x) (a.setIfInBounds t v) (fun u => if u = t then S else O u) := by
  unfold put
  have hv : ∀ f' : Frame, t < f'.length → f'.length = a.size → SlotR K w (f'.set t x) (vals (a.setIfInBounds t v)) t S := fun f' hl' he =>
    selfR_slot hx (get_set_self hl') (vals_set_self (by omega))
  split
  · refine (h.kill_all t).set_slot ?_ hf hl hd (fun hlt => hv _ hlt (by simp [killAll, h.len]))
    intro _ u hu
    rw [killAll, get_map rfl]
    exact killedAll_noRef t _
  · rename_i hc
    refine h.set_slot ?_ hf hl hd (fun hlt => hv _ hlt h.len)
    intro hr
    rw [isRoot_rootish (by simpa using hc)] at hr
    cases hr

/-- A slot gets a pointer into another one, or an alias, or a closure. -/
theorem FR.put_ref {K : Kn} {w : World} {f : Frame} {a : Array Value} {O : Nat → Own} (h : FR K w f a O) {t : Nat} {x : Slot} {v : Value}
    (hroot : isRoot x = false)
    (hx : t < f.length → SlotR K w (f.set t x) (vals (a.setIfInBounds t v)) t Own.no) :
    FR K w (put f t x) (a.setIfInBounds t v) (fun u => if u = t then Own.no else O u) := by
  unfold put
  rw [if_neg (by simp [hroot])]
  refine h.set_slot ?_ (Free.no K) (fun _ _ h => h.elim) (fun _ _ => Own.no_disj _) hx
  intro hr
  rw [isRoot_rootish hroot] at hr
  cases hr

theorem isPrefixOf_iff {p q : List Nat} : p.isPrefixOf q = true ↔ p <+: q := List.isPrefixOf_iff_prefix

theorem rootOf_setRoot_cases {sl : Slot} {x x' : AV} (h : rootOf sl = some x) : (∃ y, sl = .cell y ∧ setRoot sl x' = .cell x') ∨ (sl = .v x ∧ setRoot sl x' = .v x') := by
  cases sl with
  | cell y => exact .inl ⟨y, rfl, rfl⟩
  | v y => right; cases y <;> simp_all [rootOf, setRoot]
  | _ => simp [rootOf] at h

theorem sub_upd_some {x x' y y' z : AV} {p q : List Nat} (hu : upd x p y' = some x') (hs : sub x p = some y) (hz : sub x' q = some z) (hq : ¬(p <+: q ∧ p ≠ q)) : ∃ z0, sub x q = some z0 := by
  induction p generalizing x x' q with
  | nil =>
    have : q = [] := by
      cases q with
      | nil => rfl
      | cons j q => exact absurd ⟨List.nil_prefix, by simp⟩ hq
    subst this
    exact ⟨x, by cases x <;> rfl⟩
  | cons i p ih =>
    cases q with
    | nil => exact ⟨x, by cases x <;> rfl⟩
    | cons j q =>
      cases x with
      | agg xs =>
        simp only [sub] at hs
        cases hi : xs[i]? with
        | none => simp [hi] at hs
        | some zi =>
          simp only [hi] at hs
          simp only [upd, hi] at hu
          cases hu' : upd zi p y' with
          | none => simp [hu'] at hu
          | some zi' =>
            simp only [hu', Option.some.injEq] at hu
            subst hu
            simp only [sub] at hz ⊢
            by_cases hji : j = i
            · subst hji
              rw [List.getElem?_set_self (List.getElem?_eq_some_iff.1 hi).1] at hz
              rw [hi]
              exact ih hu' hs hz fun hh => hq ⟨prefix_cons.2 ⟨rfl, hh.1⟩, fun e => hh.2 (by injection e)⟩
            · rw [List.getElem?_set_ne (fun e => hji e.symm)] at hz
              exact ⟨z, hz⟩
      | arr st xs =>
        simp only [sub] at hs
        cases hi : xs[i]? with
        | none => simp [hi] at hs
        | some zi =>
          simp only [hi] at hs
          simp only [upd, hi] at hu
          cases hu' : upd zi p y' with
          | none => simp [hu'] at hu
          | some zi' =>
            simp only [hu', Option.some.injEq] at hu
            subst hu
            simp only [sub] at hz ⊢
            by_cases hji : j = i
            · subst hji
              rw [List.getElem?_set_self (List.getElem?_eq_some_iff.1 hi).1] at hz
              rw [hi]
              exact ih hu' hs hz fun hh => hq ⟨prefix_cons.2 ⟨rfl, hh.1⟩, fun e => hh.2 (by injection e)⟩
            · rw [List.getElem?_set_ne (fun e => hji e.symm)] at hz
              exact ⟨z, hz⟩
      | _ => simp [sub] at hs
theorem sub_upd_na {x x' y y' z z0 : AV} {p q : List Nat} (hu : upd x p y' = some x') (hs : sub x p = some y) (hz : sub x' q = some z) (hq : ¬(p <+: q)) (hz0 : sub x q = some z0) (hna : ∀ ys, z0 ≠ .agg ys) : ∀ ys, z ≠ .agg ys := by
  induction p generalizing x x' q with
  | nil => exact absurd List.nil_prefix hq
  | cons i p ih =>
    cases x with
    | agg xs =>
      simp only [sub] at hs
      cases hi : xs[i]? with
      | none => simp [hi] at hs
      | some zi =>
        simp only [hi] at hs
        simp only [upd, hi] at hu
        cases hu' : upd zi p y' with
        | none => simp [hu'] at hu
        | some zi' =>
          simp only [hu', Option.some.injEq] at hu
          subst hu
          cases q with
          | nil =>
            simp only [sub, Option.some.injEq] at hz0
            exact absurd hz0.symm (hna xs)
          | cons j q =>
            simp only [sub] at hz hz0
            by_cases hji : j = i
            · subst hji
              rw [List.getElem?_set_self (List.getElem?_eq_some_iff.1 hi).1] at hz
              rw [hi] at hz0
              exact ih hu' hs hz (fun hh => hq (prefix_cons.2 ⟨rfl, hh⟩)) hz0
            · rw [List.getElem?_set_ne (fun e => hji e.symm)] at hz
              rw [hz0] at hz
              injection hz with hz
              rw [← hz]
              exact hna
    | arr st xs =>
      simp only [sub] at hs
      cases hi : xs[i]? with
      | none => simp [hi] at hs
      | some zi =>
        simp only [hi] at hs
        simp only [upd, hi] at hu
        cases hu' : upd zi p y' with
        | none => simp [hu'] at hu
        | some zi' =>
          simp only [hu', Option.some.injEq] at hu
          subst hu
          cases q with
          | nil =>
            simp only [sub, Option.some.injEq] at hz
            rw [← hz]
            intro ys e
            cases e
          | cons j q =>
            simp only [sub] at hz hz0
            by_cases hji : j = i
            · subst hji
              rw [List.getElem?_set_self (List.getElem?_eq_some_iff.1 hi).1] at hz
              rw [hi] at hz0
              exact ih hu' hs hz (fun hh => hq (prefix_cons.2 ⟨rfl, hh⟩)) hz0
            · rw [List.getElem?_set_ne (fun e => hji e.symm)] at hz
              rw [hz0] at hz
              injection hz with hz
              rw [← hz]
              exact hna
    | _ => simp [sub] at hs

/-- A place holds something else, in a world that has gone on: places further in are forgotten. -/
theorem FR.set_at {K K' : Kn} {w w' : World} {f f' : Frame} {a : Array Value} {O : Nat → Own} (h : FR K w f a O) {s : Nat} {p : List Nat} {y y' : AV}
    (hy : subAt f s p = some y) (hp : p ≠ [] ∨ ∃ x, get f s = .cell x) (hf' : setAt f s p y' = some f') (hl : leaves y' = leaves y)
    {b' o' : Nat} {Sy Sr Sy' : Own} (hat : AtS w (get f s) (vals a s) p b' o')
    (hk : K.le K') (hm : Meta w w') (hsz : w.heap.size ≤ w'.heap.size)
    (hlens : ∃ x, rootOf (get f s) = some x ∧ sub x p = some y ∧
      (∀ (q : List Nat) (y2 : AV) (b2 o2 : Nat), ¬(p <+: q) → sub x q = some y2 → (∀ ys, y2 ≠ .agg ys) → AtS w (get f s) (vals a s) q b2 o2 → Sr b2 o2) ∧
      ∃ x', upd x p y' = some x' ∧ RootR K' w' (setRoot (get f s) x') (vals a s) (Sy'.or Sr) ∧ rootOf (setRoot (get f s) x') = some x' ∧
          ∀ (q : List Nat) (b2 o2 : Nat), ¬(p <+: q ∧ p ≠ q) → AtS w (get f s) (vals a s) q b2 o2 → AtS w' (setRoot (get f s) x') (vals a s) q b2 o2)
    (hr : Agree Sr w w') (ha : ∀ t, t ≠ s → Agree (O t) w w')
    (hfree : ∀ t, t ≠ s → Free K' (O t)) (hfree' : Free K' (Sy'.or Sr)) (hlt : ∀ b o, (Sy'.or Sr) b o → b < w'.heap.size) (hd : ∀ t, t ≠ s → (Sy'.or Sr).disj (O t)) :
    FR K' w' f' a (fun u => if u = s then Sy'.or Sr else O u) := by
  obtain ⟨x, hx, hxy, hC, x', hx', hroot', hro', hD⟩ := hlens
  have hslt : s < f.length := by
    rcases Nat.lt_or_ge s f.length with g | g
    · exact g
    · rw [get_big g] at hx; simp [rootOf] at hx
  have hf2 : f' = (kill f s p).set s (setRoot (get f s) x') := by
    unfold Go.E.setAt updAt at hf'
    rw [hx] at hf'
    simp only [hx'] at hf'
    exact (Option.some.inj hf').symm
  have hrne : killed s p (get f s) = get f s := by
    rcases rootOf_setRoot_cases (x' := x') hx with ⟨y0, e, _⟩ | ⟨e, _⟩ <;> rw [e] <;> rfl
  subst hf2
  have hkl : (kill f s p).length = f.length := by simp [kill]
  have hgs : get ((kill f s p).set s (setRoot (get f s) x')) s = setRoot (get f s) x' := get_set_self (by omega)
  have hgu : ∀ u, u ≠ s → get ((kill f s p).set s (setRoot (get f s) x')) u = killed s p (get f u) := fun u hu => by
    rw [get_set_ne hu, kill, get_map rfl]
  have hgroot : ∀ u z, u ≠ s → rootOf (get f u) = some z → get ((kill f s p).set s (setRoot (get f s) x')) u = get f u := fun u z hu hz => by
    rw [hgu u hu]
    rcases rootOf_setRoot_cases (x' := z) hz with ⟨y0, e, _⟩ | ⟨e, _⟩ <;> rw [e] <;> rfl
  have hsubu : ∀ u q z, u ≠ s → subAt ((kill f s p).set s (setRoot (get f s) x')) u q = some z → subAt f u q = some z ∧ get ((kill f s p).set s (setRoot (get f s) x')) u = get f u := fun u q z hu hz => by
    obtain ⟨x1, h1, h2⟩ := subAt_root hz
    rw [hgu u hu] at h1
    rcases killed_ok s p (get f u) with e | ⟨e, _⟩
    · rw [e] at h1
      refine ⟨by simp only [subAt, h1]; exact h2, by rw [hgu u hu, e]⟩
    · rw [e] at h1; simp [rootOf] at h1
  refine ⟨by simp [hkl, h.len], fun u => ?_, fun u1 u2 hu => ?_, fun u => ?_, fun u b o hu => ?_⟩
  · by_cases hu : u = s
    · subst hu
      simp only [if_true]
      unfold SlotR
      rw [hgs]
      rcases rootOf_setRoot_cases (x' := x') hx with ⟨y0, e, e2⟩ | ⟨e, e2⟩
      · rw [e2]; rw [e2] at hroot'; exact hroot'
      · rw [e2]; rw [e2] at hroot'; exact hroot'
    · simp only [if_neg hu]
      have hsu := h.slot u
      unfold SlotR at hsu ⊢
      rw [hgu u hu]
      have hAg := ha u hu
      cases hg : get f u with
      | any => trivial
      | non => rw [hg] at hsu; exact hsu
      | v z => rw [hg] at hsu; exact relV_mono hk hm hsu hAg (Own.le_refl _)
      | cell z => rw [hg] at hsu; obtain ⟨b, o, h1, h2⟩ := hsu; exact ⟨b, o, h1, obj_mono h2 hk hm hAg (Own.le_refl _)⟩
      | loc s2 q =>
        rw [hg] at hsu
        by_cases hc : (s2 == s && p.isPrefixOf q && p != q) = true
        · simp only [killed, if_pos hc]
        simp only [killed, if_neg hc]
        rintro ⟨z, hz⟩
        by_cases hs : s2 = s
        · subst hs
          have hq : ¬(p <+: q ∧ p ≠ q) := fun hh => hc (by simp [isPrefixOf_iff.2 hh.1, hh.2])
          rw [hgs]
          have hsome : ∃ z0, subAt f s2 q = some z0 := by
            obtain ⟨x1, h1, h2⟩ := subAt_root hz
            rw [hgs, hro'] at h1
            injection h1 with h1
            subst h1
            obtain ⟨z0, hz0⟩ := sub_upd_some hx' hxy h2 hq
            exact ⟨z0, by simp only [subAt, hx]; exact hz0⟩
          obtain ⟨b, o, h1, h2⟩ := hsu hsome
          exact ⟨b, o, h1, hD q b o hq h2⟩
        · obtain ⟨h1, h2⟩ := hsubu s2 q z hs hz
          rw [h2]
          obtain ⟨b, o, h3, h4⟩ := hsu ⟨z, h1⟩
          obtain ⟨x1, k1, _⟩ := subAt_root h1
          exact ⟨b, o, h3, AtS_stable ((h.slot s2).root k1) (ha s2 hs) h4⟩
      | box s2 q =>
        rw [hg] at hsu
        by_cases hc : (s2 == s && p.isPrefixOf q && p != q) = true
        · simp only [killed, if_pos hc]
        simp only [killed, if_neg hc]
        rintro ⟨z, hz⟩
        by_cases hs : s2 = s
        · subst hs
          have hq : ¬(p <+: q ∧ p ≠ q) := fun hh => hc (by simp [isPrefixOf_iff.2 hh.1, hh.2])
          rw [hgs]
          have hsome : ∃ z0, subAt f s2 q = some z0 := by
            obtain ⟨x1, h1, h2⟩ := subAt_root hz
            rw [hgs, hro'] at h1
            injection h1 with h1
            subst h1
            obtain ⟨z0, hz0⟩ := sub_upd_some hx' hxy h2 hq
            exact ⟨z0, by simp only [subAt, hx]; exact hz0⟩
          obtain ⟨bq, oq, b, o, h1, hKq, h2⟩ := hsu hsome
          exact ⟨bq, oq, b, o, h1, hk.cell _ _ _ hKq, hD q b o hq h2⟩
        · obtain ⟨h1, h2⟩ := hsubu s2 q z hs hz
          rw [h2]
          obtain ⟨bq, oq, b, o, h3, hKq, h4⟩ := hsu ⟨z, h1⟩
          obtain ⟨x1, k1, _⟩ := subAt_root h1
          exact ⟨bq, oq, b, o, h3, hk.cell _ _ _ hKq, AtS_stable ((h.slot s2).root k1) (ha s2 hs) h4⟩
      | view s2 q =>
        rw [hg] at hsu
        by_cases hc : (s2 == s && p.isPrefixOf q) = true
        · simp only [killed, if_pos hc]
        simp only [killed, if_neg hc]
        intro z hz
        by_cases hs : s2 = s
        · subst hs
          have hq : ¬(p <+: q) := fun hh => hc (by simp [isPrefixOf_iff.2 hh])
          have hq' : ¬(p <+: q ∧ p ≠ q) := fun hh => hq hh.1
          obtain ⟨x1, h1, h2⟩ := subAt_root hz
          rw [hgs, hro'] at h1
          injection h1 with h1
          subst h1
          obtain ⟨z0, hz0⟩ := sub_upd_some hx' hxy h2 hq'
          have hz0' : subAt f s2 q = some z0 := by simp only [subAt, hx]; exact hz0
          rcases hsu z0 hz0' with ⟨rfl, k2, k3⟩ | ⟨hna, b, o, k1, k2⟩
          · left
            refine ⟨rfl, ?_, k3⟩
            rw [hgs]
            rcases rootOf_setRoot_cases (x' := x') hx with ⟨y0, e, e2⟩ | ⟨e, e2⟩
            · rw [e] at k2; cases k2
            · rw [e2]; simp only [sub, Option.some.injEq] at h2; rw [h2]
          · right
            refine ⟨?_, b, o, by rw [hgs]; exact hD q b o hq' k1, ?_⟩
            · exact sub_upd_na hx' hxy h2 hq hz0 hna
            · rw [hr.cell b o (hC q z0 b o hq hz0 hna k1)]; exact k2
        · obtain ⟨h1, h2⟩ := hsubu s2 q z hs hz
          rw [h2]
          rcases hsu z h1 with k | ⟨hna, b, o, k1, k2⟩
          · exact .inl k
          · obtain ⟨x1, m1, m2⟩ := subAt_root h1
            have hr2 := (h.slot s2).root m1
            obtain ⟨Sq, n1, n2⟩ := AtS_sub hr2 m1 m2 k1
            refine .inr ⟨hna, b, o, AtS_stable hr2 (ha s2 hs) k1, ?_⟩
            rw [(ha s2 hs).cell b o (n1 _ _ (obj_cell n2 hna))]
            exact k2
      | clo g cs =>
        rw [hg] at hsu
        obtain ⟨vs, h1, h2⟩ := hsu
        refine ⟨vs, h1, CapsR_frame (CapsR_mono hk hm h2) ?_⟩
        rintro c hc i z rfl hi
        by_cases his : i = s
        · subst his
          rw [hgs] at hi
          rcases rootOf_setRoot_cases (x' := x') hx with ⟨y0, e, e2⟩ | ⟨e, e2⟩
          · exact ⟨⟨y0, e⟩, rfl⟩
          · rw [e2] at hi; cases hi
        · rw [hgu i his] at hi
          rcases killed_ok s p (get f i) with e | ⟨e, _⟩
          · rw [e] at hi; exact ⟨⟨z, hi⟩, rfl⟩
          · rw [e] at hi; cases hi
  · by_cases h1 : u1 = s
    · subst h1
      simp only [if_true, if_neg (Ne.symm hu)]
      exact hd u2 (Ne.symm hu)
    · by_cases h2 : u2 = s
      · subst h2
        simp only [if_true, if_neg h1]
        exact (hd u1 h1).symm
      · simp only [if_neg h1, if_neg h2]
        exact h.disj u1 u2 hu
  · by_cases h1 : u = s
    · simp only [if_pos h1]; exact hfree'
    · simp only [if_neg h1]; exact hfree u h1
  · by_cases h1 : u = s
    · simp only [if_pos h1] at hu; exact hlt b o hu
    · simp only [if_neg h1] at hu; exact Nat.lt_of_lt_of_le (h.lt u b o hu) hsz

end Go.E

namespace Go.E
open Go.RowKit

def subOf (z : Slot) (q : List Nat) : Option AV := match rootOf z with | some x => sub x q | none => none

/-- A slot's root is told otherwise (frozen; a map's entries): its value, and all addresses, stand. -/
theorem FR.set_same {K K' : Kn} {w w' : World} {f : Frame} {a : Array Value} {O : Nat → Own} (h : FR K w f a O) {s : Nat} {z : Slot} {S' : Own}
    (hroot : rootish (get f s) = true)
    (hz : ∀ (q : List Nat) (z' : AV), subOf z q = some z' → ∃ z0, subAt f s q = some z0 ∧ ((∀ ys, z0 ≠ .agg ys) → ∀ ys, z' ≠ .agg ys) ∧
      (∀ b o, AtS w (get f s) (vals a s) q b o → AtS w' z (vals a s) q b o) ∧ (q = [] → get f s = .v z0 → z = .v z'))
    (hcap : ∀ y, z = .cell y → ∃ y0, get f s = .cell y0)
    (hc : ∀ (b o : Nat), w'.cell? ⟨b, o, none⟩ = w.cell? ⟨b, o, none⟩)
    (hk : K.le K') (hm : Meta w w') (hsz : w.heap.size ≤ w'.heap.size)
    (hself : selfR K' w' z (vals a s) S') (ha : ∀ t, t ≠ s → Agree (O t) w w') (hfree : ∀ t, t ≠ s → Free K' (O t)) (hfree' : Free K' S') (hlt : ∀ b o, S' b o → b < w'.heap.size)
    (hd : ∀ t, t ≠ s → S'.disj (O t)) : FR K' w' (f.set s z) a (fun u => if u = s then S' else O u) := by
  have hslt : s < f.length := by
    rcases Nat.lt_or_ge s f.length with g | g
    · exact g
    · rw [get_big g] at hroot; cases hroot
  have hgs : get (f.set s z) s = z := get_set_self hslt
  refine ⟨by simp [h.len], fun u => ?_, fun u1 u2 hu => ?_, fun u => ?_, fun u b o hu => ?_⟩
  · by_cases hu : u = s
    · subst hu
      simp only [if_true]
      exact selfR_slot hself hgs rfl
    · simp only [if_neg hu]
      have hsu := h.slot u
      unfold SlotR at hsu ⊢
      rw [get_set_ne hu]
      have hAg := ha u hu
      cases hg : get f u with
      | any => trivial
      | non => rw [hg] at hsu; exact hsu
      | v y => rw [hg] at hsu; exact relV_mono hk hm hsu hAg (Own.le_refl _)
      | cell y => rw [hg] at hsu; obtain ⟨b, o, h1, h2⟩ := hsu; exact ⟨b, o, h1, obj_mono h2 hk hm hAg (Own.le_refl _)⟩
      | loc s2 q =>
        rw [hg] at hsu
        rintro ⟨y, hy⟩
        by_cases hs : s2 = s
        · subst hs
          have hy' : subOf z q = some y := by unfold subAt at hy; rw [hgs] at hy; exact hy
          obtain ⟨z0, h1, _, h3, _⟩ := hz q y hy'
          obtain ⟨b, o, h4, h5⟩ := hsu ⟨z0, h1⟩
          rw [hgs]
          exact ⟨b, o, h4, h3 b o h5⟩
        · have hy' : subAt f s2 q = some y := by simpa only [subAt, get_set_ne hs] using hy
          rw [get_set_ne hs]
          obtain ⟨b, o, h3, h4⟩ := hsu ⟨y, hy'⟩
          obtain ⟨x1, k1, _⟩ := subAt_root hy'
          exact ⟨b, o, h3, AtS_stable ((h.slot s2).root k1) (ha s2 hs) h4⟩
      | box s2 q =>
        rw [hg] at hsu
        rintro ⟨y, hy⟩
        by_cases hs : s2 = s
        · subst hs
          have hy' : subOf z q = some y := by unfold subAt at hy; rw [hgs] at hy; exact hy
          obtain ⟨z0, h1, _, h3, _⟩ := hz q y hy'
          obtain ⟨bq, oq, b, o, h4, hKq, h5⟩ := hsu ⟨z0, h1⟩
          rw [hgs]
          exact ⟨bq, oq, b, o, h4, hk.cell _ _ _ hKq, h3 b o h5⟩
        · have hy' : subAt f s2 q = some y := by simpa only [subAt, get_set_ne hs] using hy
          rw [get_set_ne hs]
          obtain ⟨bq, oq, b, o, h3, hKq, h4⟩ := hsu ⟨y, hy'⟩
          obtain ⟨x1, k1, _⟩ := subAt_root hy'
          exact ⟨bq, oq, b, o, h3, hk.cell _ _ _ hKq, AtS_stable ((h.slot s2).root k1) (ha s2 hs) h4⟩
      | view s2 q =>
        rw [hg] at hsu
        intro y hy
        by_cases hs : s2 = s
        · subst hs
          have hy' : subOf z q = some y := by unfold subAt at hy; rw [hgs] at hy; exact hy
          obtain ⟨z0, h1, h2, h3, h4⟩ := hz q y hy'
          rw [hgs]
          rcases hsu z0 h1 with ⟨k1, k2, k3⟩ | ⟨hna, b, o, k1, k2⟩
          · exact .inl ⟨k1, h4 k1 k2, k3⟩
          · exact .inr ⟨h2 hna, b, o, h3 b o k1, by rw [hc]; exact k2⟩
        · have hy' : subAt f s2 q = some y := by simpa only [subAt, get_set_ne hs] using hy
          rw [get_set_ne hs]
          rcases hsu y hy' with k | ⟨hna, b, o, k1, k2⟩
          · exact .inl k
          · obtain ⟨x1, m1, m2⟩ := subAt_root hy'
            exact .inr ⟨hna, b, o, AtS_stable ((h.slot s2).root m1) (ha s2 hs) k1, by rw [hc]; exact k2⟩
      | clo g cs =>
        rw [hg] at hsu
        obtain ⟨vs, h1, h2⟩ := hsu
        refine ⟨vs, h1, CapsR_frame (CapsR_mono hk hm h2) ?_⟩
        rintro c hc' i y rfl hi
        by_cases his : i = s
        · subst his
          rw [hgs] at hi
          exact ⟨hcap y hi, rfl⟩
        · rw [get_set_ne his] at hi
          exact ⟨⟨y, hi⟩, rfl⟩
  · by_cases h1 : u1 = s
    · subst h1
      simp only [if_true, if_neg (Ne.symm hu)]
      exact hd u2 (Ne.symm hu)
    · by_cases h2 : u2 = s
      · subst h2
        simp only [if_true, if_neg h1]
        exact (hd u1 h1).symm
      · simp only [if_neg h1, if_neg h2]
        exact h.disj u1 u2 hu
  · by_cases h1 : u = s
    · simp only [if_pos h1]; exact hfree'
    · simp only [if_neg h1]; exact hfree u h1
  · by_cases h1 : u = s
    · simp only [if_pos h1] at hu; exact hlt b o hu
    · simp only [if_neg h1] at hu; exact Nat.lt_of_lt_of_le (h.lt u b o hu) hsz

/-- What changes in a tree without any address turning. -/
def Steady (w w' : World) (y y' : AV) : Prop :=
  ∀ (r : List Nat) (z' : AV), sub y' r = some z' → ∃ z0, sub y r = some z0 ∧ ((∀ ys, z0 ≠ .agg ys) → ∀ ys, z' ≠ .agg ys) ∧ ∀ b o b2 o2, At w r y b o b2 o2 → At w' r y' b o b2 o2

theorem leavesL_fz : ∀ xs : List AV, leavesL (fzL xs) = leavesL xs
  | [] => rfl
  | x :: xs => by rw [fzL, leavesL, leavesL, leaves_fz, leavesL_fz xs]
theorem leavesL_pz : ∀ xs : List AV, leavesL (pzL xs) = leavesL xs
  | [] => rfl
  | x :: xs => by rw [pzL, leavesL, leavesL, leaves_pz, leavesL_pz xs]
theorem fzL_take : ∀ (xs : List AV) (i : Nat), (fzL xs).take i = fzL (xs.take i)
  | [], _ => by simp [fzL]
  | x :: xs, 0 => by simp [fzL]
  | x :: xs, i + 1 => by simp [fzL, fzL_take xs i]
mutual
theorem steady_fz {w : World} : ∀ (y : AV) (r : List Nat) (z' : AV), sub (fz y) r = some z' → ∃ z0, sub y r = some z0 ∧ ((∀ ys, z0 ≠ .agg ys) → ∀ ys, z' ≠ .agg ys) ∧ ∀ b o b2 o2, At w r y b o b2 o2 → At w r (fz y) b o b2 o2
  | y, [], z', h => by
    have e : fz y = z' := by cases hy : fz y <;> (rw [hy] at h; simp only [sub, Option.some.injEq] at h; exact h)
    subst e
    refine ⟨y, by cases y <;> rfl, fun hna ys e => ?_, fun _ _ _ _ h => by rw [At] at h ⊢; exact h⟩
    cases y <;> simp [fz] at e
    exact hna _ rfl
  | .agg xs, i :: r, z', h => by
    simp only [fz, sub] at h
    cases hi : (fzL xs)[i]? with
    | none => simp [hi] at h
    | some zi =>
      simp only [hi] at h
      obtain ⟨z0, h1, h2, h3, h4⟩ := steady_fzL xs i r zi z' hi h
      refine ⟨z0, by simp only [sub, h1]; exact h2, h3, ?_⟩
      intro b o b2 o2 hat
      rw [At] at hat
      obtain ⟨z1, hz1, hat⟩ := hat
      rw [fz, At]
      refine ⟨zi, hi, ?_⟩
      rw [fzL_take, leavesL_fz]
      rw [h1] at hz1
      injection hz1 with hz1
      subst hz1
      exact h4 _ _ _ _ hat
  | .undef, i :: r, z', h => by simp [fz, sub] at h
  | .int _ _, i :: r, z', h => by simp [fz, sub] at h
  | .bool _, i :: r, z', h => by simp [fz, sub] at h
  | .str _, i :: r, z', h => by simp [fz, sub] at h
  | .nilp, i :: r, z', h => by simp [fz, sub] at h
  | .nilf, i :: r, z', h => by simp [fz, sub] at h
  | .sl _ _, i :: r, z', h => by simp [fz, sub] at h
  | .osl _ _, i :: r, z', h => by simp [fz, sub] at h
  | .arr _ _, i :: r, z', h => by simp [fz, sub] at h
  | .ro _, i :: r, z', h => by simp [fz, sub] at h
  | .fn _ _, i :: r, z', h => by simp [fz, sub] at h
  | .map _ _, i :: r, z', h => by simp [fz, sub] at h
  | .rmap _ _, i :: r, z', h => by simp [fz, sub] at h
  | .tup _, i :: r, z', h => by simp [fz, sub] at h
theorem steady_fzL {w : World} : ∀ (xs : List AV) (i : Nat) (r : List Nat) (zi z' : AV), (fzL xs)[i]? = some zi → sub zi r = some z' → ∃ z0, ∃ h1 : xs[i]? = some (xs.getD i .undef), sub (xs.getD i .undef) r = some z0 ∧ ((∀ ys, z0 ≠ .agg ys) → ∀ ys, z' ≠ .agg ys) ∧ ∀ b o b2 o2, At w r (xs.getD i .undef) b o b2 o2 → At w r zi b o b2 o2
  | [], i, _, _, _, h, _ => by simp [fzL] at h
  | x :: xs, 0, r, zi, z', h, hs => by
    simp only [fzL, List.getElem?_cons_zero, Option.some.injEq] at h
    subst h
    obtain ⟨z0, h1, h2, h3⟩ := steady_fz (w := w) x r z' hs
    exact ⟨z0, by simp, by simpa using h1, h2, by simpa using h3⟩
  | x :: xs, i + 1, r, zi, z', h, hs => by
    simp only [fzL, List.getElem?_cons_succ] at h
    obtain ⟨z0, h0, h1, h2, h3⟩ := steady_fzL (w := w) xs i r zi z' h hs
    exact ⟨z0, by simpa using h0, by simpa using h1, h2, by simpa using h3⟩
end
end Go.E

namespace Go.E
open Go.RowKit

theorem sub_append : ∀ (p : List Nat) {r : List Nat} {x : AV}, sub x (p ++ r) = match sub x p with | some y => sub y r | none => none
  | [], r, x => by cases x <;> rfl
  | i :: p, r, x => by
    cases x with
    | agg xs =>
      simp only [List.cons_append, sub]
      cases xs[i]? with
      | none => rfl
      | some z => exact sub_append p
    | arr st xs =>
      simp only [List.cons_append, sub]
      cases xs[i]? with
      | none => rfl
      | some z => exact sub_append p
    | _ => rfl
theorem sub_upd : ∀ (p : List Nat) {x x' y y' : AV}, sub x p = some y → upd x p y' = some x' → sub x' p = some y'
  | [], x, x', y, y', _, h => by rw [upd_nil] at h; injection h with h; subst h; cases y' <;> rfl
  | i :: p, x, x', y, y', hs, hu => by
    cases x with
    | agg xs =>
      simp only [sub] at hs
      cases hi : xs[i]? with
      | none => simp [hi] at hs
      | some zi =>
        simp only [hi] at hs
        simp only [upd, hi] at hu
        cases hu' : upd zi p y' with
        | none => simp [hu'] at hu
        | some zi' =>
          simp only [hu', Option.some.injEq] at hu
          subst hu
          simp only [sub, List.getElem?_set_self (List.getElem?_eq_some_iff.1 hi).1]
          exact sub_upd p hs hu'
    | arr st xs =>
      simp only [sub] at hs
      cases hi : xs[i]? with
      | none => simp [hi] at hs
      | some zi =>
        simp only [hi] at hs
        simp only [upd, hi] at hu
        cases hu' : upd zi p y' with
        | none => simp [hu'] at hu
        | some zi' =>
          simp only [hu', Option.some.injEq] at hu
          subst hu
          simp only [sub, List.getElem?_set_self (List.getElem?_eq_some_iff.1 hi).1]
          exact sub_upd p hs hu'
    | _ => simp [sub] at hs

theorem At_split {w : World} : ∀ (p : List Nat) {r : List Nat} {x y : AV} {b o b2 o2 : Nat}, sub x p = some y → At w (p ++ r) x b o b2 o2 → ∃ b1 o1, At w p x b o b1 o1 ∧ At w r y b1 o1 b2 o2
  | [], r, x, y, b, o, b2, o2, hs, h => by
    simp only [sub, Option.some.injEq] at hs
    subst hs
    exact ⟨b, o, ⟨rfl, rfl⟩, h⟩
  | i :: p, r, x, y, b, o, b2, o2, hs, h => by
    cases x with
    | agg xs =>
      rw [List.cons_append, At] at h
      obtain ⟨z, hz, h⟩ := h
      simp only [sub, hz] at hs
      obtain ⟨b1, o1, h1, h2⟩ := At_split p hs h
      exact ⟨b1, o1, by rw [At]; exact ⟨z, hz, h1⟩, h2⟩
    | arr st xs =>
      rw [List.cons_append, At] at h
      obtain ⟨z, b0, n, c, hz, hc, h⟩ := h
      simp only [sub, hz] at hs
      obtain ⟨b1, o1, h1, h2⟩ := At_split p hs h
      exact ⟨b1, o1, by rw [At]; exact ⟨z, b0, n, c, hz, hc, h1⟩, h2⟩
    | _ => simp [sub] at hs
theorem At_join {w : World} : ∀ (p : List Nat) {r : List Nat} {x y : AV} {b o b1 o1 b2 o2 : Nat}, sub x p = some y → At w p x b o b1 o1 → At w r y b1 o1 b2 o2 → At w (p ++ r) x b o b2 o2
  | [], r, x, y, b, o, b1, o1, b2, o2, hs, h, k => by
    simp only [sub, Option.some.injEq] at hs
    subst hs
    obtain ⟨rfl, rfl⟩ := h
    exact k
  | i :: p, r, x, y, b, o, b1, o1, b2, o2, hs, h, k => by
    cases x with
    | agg xs =>
      rw [At] at h
      obtain ⟨z, hz, h⟩ := h
      simp only [sub, hz] at hs
      rw [List.cons_append, At]
      exact ⟨z, hz, At_join p hs h k⟩
    | arr st xs =>
      rw [At] at h
      obtain ⟨z, b0, n, c, hz, hc, h⟩ := h
      simp only [sub, hz] at hs
      rw [List.cons_append, At]
      exact ⟨z, b0, n, c, hz, hc, At_join p hs h k⟩
    | _ => simp [sub] at hs
theorem AtS_split {w : World} {sl : Slot} {v : Value} {x y : AV} {p r : List Nat} {b2 o2 : Nat} (hx : rootOf sl = some x) (hp : p ≠ [] ∨ ∃ x, sl = .cell x) (hs : sub x p = some y) (h : AtS w sl v (p ++ r) b2 o2) :
    ∃ b1 o1, AtS w sl v p b1 o1 ∧ At w r y b1 o1 b2 o2 := by
  cases sl with
  | cell x0 =>
    simp only [rootOf, Option.some.injEq] at hx
    subst hx
    obtain ⟨b, o, rfl, h⟩ := h
    obtain ⟨b1, o1, h1, h2⟩ := At_split p hs h
    exact ⟨b1, o1, ⟨b, o, rfl, h1⟩, h2⟩
  | v x0 =>
    have hp' : p ≠ [] := hp.resolve_right (by rintro ⟨_, e⟩; cases e)
    cases p with
    | nil => exact absurd rfl hp'
    | cons i p =>
    cases x0 with
    | arr st xs =>
      simp only [rootOf, Option.some.injEq] at hx
      subst hx
      obtain ⟨b, n, c, j, q, z, rfl, e, hz, h⟩ := h
      rw [List.cons_append] at e
      injection e with e1 e2
      subst e1 e2
      simp only [sub, hz] at hs
      obtain ⟨b1, o1, h1, h2⟩ := At_split p hs h
      exact ⟨b1, o1, ⟨b, n, c, i, p, z, rfl, rfl, hz, h1⟩, h2⟩
    | _ => exact h.elim
  | _ => exact h.elim
theorem AtS_join {w : World} {sl : Slot} {v : Value} {x y : AV} {p r : List Nat} {b1 o1 b2 o2 : Nat} (hx : rootOf sl = some x) (hs : sub x p = some y) (h : AtS w sl v p b1 o1) (k : At w r y b1 o1 b2 o2) : AtS w sl v (p ++ r) b2 o2 := by
  cases sl with
  | cell x0 =>
    simp only [rootOf, Option.some.injEq] at hx
    subst hx
    obtain ⟨b, o, rfl, h⟩ := h
    exact ⟨b, o, rfl, At_join p hs h k⟩
  | v x0 =>
    cases x0 with
    | arr st xs =>
      simp only [rootOf, Option.some.injEq] at hx
      subst hx
      obtain ⟨b, n, c, j, q, z, rfl, rfl, hz, h⟩ := h
      simp only [sub, hz] at hs
      exact ⟨b, n, c, j, q ++ r, z, rfl, rfl, hz, At_join q hs h k⟩
    | _ => exact h.elim
  | _ => exact h.elim

/-- What a place of a frame's slot is good for. -/
structure Lens (K : Kn) (w : World) (f : Frame) (a : Nat → Value) (s : Nat) (p : List Nat) (y : AV) (S : Own) (b' o' : Nat) (Sy Sr : Own) : Prop where
  at_ : AtS w (get f s) (a s) p b' o'
  obj : obj K w y b' o' Sy
  le : Sy.le S
  rest : Sr.le S
  disj : Sy.disj Sr
  cell : ∀ (x : AV) (q : List Nat) (y2 : AV) (b2 o2 : Nat), rootOf (get f s) = some x → ¬(p <+: q) → sub x q = some y2 → (∀ ys, y2 ≠ .agg ys) → AtS w (get f s) (a s) q b2 o2 → Sr b2 o2
  upd : ∀ {K' : Kn} {w' : World} {y' : AV} {Sy' : Own} (x : AV), rootOf (get f s) = some x → K.le K' → Meta w w' → Agree Sr w w' → Go.E.obj K' w' y' b' o' Sy' → leaves y' = leaves y → Sy'.disj Sr →
        ∃ x', Go.E.upd x p y' = some x' ∧ RootR K' w' (setRoot (get f s) x') (a s) (Sy'.or Sr) ∧ rootOf (setRoot (get f s) x') = some x' ∧
          ∀ (q : List Nat) (b2 o2 : Nat), ¬(p <+: q ∧ p ≠ q) → AtS w (get f s) (a s) q b2 o2 → AtS w' (setRoot (get f s) x') (a s) q b2 o2

theorem FR.lens {K : Kn} {w : World} {f : Frame} {a : Array Value} {O : Nat → Own} (h : FR K w f a O) {s : Nat} {p : List Nat} {y : AV} (hy : subAt f s p = some y) (hp : p ≠ [] ∨ ∃ x, get f s = .cell x) :
    ∃ b' o' Sy Sr, Lens K w f (vals a) s p y (O s) b' o' Sy Sr := by
  obtain ⟨x, hx, hxy⟩ := subAt_root hy
  have hp' : p ≠ [] ∨ get f s = .cell x := hp.imp id (by rintro ⟨x0, e⟩; rw [e] at hx; simp only [rootOf, Option.some.injEq] at hx; rw [e, hx])
  obtain ⟨b', o', Sy, Sr, h1, h2, h3, h4, h5, h6, h7⟩ := slot_lens ((h.slot s).root hx) hx hxy hp'
  refine ⟨b', o', Sy, Sr, h1, h2, h3, h4, h5, fun x1 q y2 b2 o2 hx1 => ?_, fun x1 hx1 => ?_⟩
  · rw [hx] at hx1; injection hx1 with hx1; subst hx1; exact h6 q y2 b2 o2
  · rw [hx] at hx1; injection hx1 with hx1; subst hx1; exact h7

/-- A place is told otherwise, no address turns. -/
theorem FR.steady_at {K K' : Kn} {w w' : World} {f : Frame} {a : Array Value} {O : Nat → Own} (h : FR K w f a O) {s : Nat} {p : List Nat} {y y' : AV} {z : Slot} {b' o' : Nat} {Sy Sr Sy' : Own}
    (hL : Lens K w f (vals a) s p y (O s) b' o' Sy Sr) (hy : subAt f s p = some y) (hp : p ≠ [] ∨ ∃ x, get f s = .cell x) (hz : updAt f s p y' = some z) (hst : Steady w w' y y') (hl : leaves y' = leaves y)
    (hc : ∀ (b o : Nat), w'.cell? ⟨b, o, none⟩ = w.cell? ⟨b, o, none⟩) (hk : K.le K') (hm : Meta w w') (hsz : w.heap.size ≤ w'.heap.size)
    (ho : obj K' w' y' b' o' Sy') (hSy : Sy'.le Sy) (hr : Agree Sr w w') (ha : ∀ t, t ≠ s → Agree (O t) w w') (hfree : ∀ t, t ≠ s → Free K' (O t)) (hf1 : Free K' Sy') (hf2 : Free K' Sr) :
    FR K' w' (f.set s z) a (fun u => if u = s then Sy'.or Sr else O u) := by
  obtain ⟨x, hx, hxy⟩ := subAt_root hy
  obtain ⟨x', hx', hR, hro, hD⟩ := hL.upd x hx hk hm hr ho hl (hL.disj.mono hSy (Own.le_refl _))
  have hz' : z = setRoot (get f s) x' := by
    unfold updAt at hz
    rw [hx] at hz
    simp only [hx'] at hz
    exact (Option.some.inj hz).symm
  subst hz'
  have hle : (Sy'.or Sr).le (O s) := Own.or_le (Own.le_trans hSy hL.le) hL.rest
  refine h.set_same ?_ ?_ ?_ hc hk hm hsz ?_ ha hfree (hf1.or hf2) (fun b o hb => Nat.lt_of_lt_of_le (h.lt s b o (hle b o hb)) hsz) (fun t ht => (h.disj s t (Ne.symm ht)).mono hle (Own.le_refl _))
  · rcases rootOf_setRoot_cases (x' := x') hx with ⟨y0, e, _⟩ | ⟨e, _⟩
    · rw [e]; rfl
    · rw [e] at hx ⊢
      cases x <;> simp_all [rootOf, rootish]
  · intro q z1 hq0
    have hq : sub x' q = some z1 := by unfold subOf at hq0; rw [hro] at hq0; exact hq0
    by_cases hpq : p <+: q
    · obtain ⟨r, rfl⟩ := hpq
      rw [sub_append, sub_upd p hxy hx'] at hq
      obtain ⟨z0, k1, k2, k3⟩ := hst r z1 hq
      refine ⟨z0, by simp only [subAt, hx]; rw [sub_append, hxy]; exact k1, k2, ?_, ?_⟩
      · intro b o hat
        obtain ⟨b1, o1, m1, m2⟩ := AtS_split hx hp hxy hat
        exact AtS_join hro (sub_upd p hxy hx') (hD p b1 o1 (fun hh => hh.2 rfl) m1) (k3 _ _ _ _ m2)
      · intro e0 e
        have : p = [] := by cases p with | nil => rfl | cons _ _ => cases e0
        subst this
        rcases hp with hp | ⟨x0, hp⟩
        · exact absurd rfl hp
        · rw [hp] at e; cases e
    · have hpq' : ¬(p <+: q ∧ p ≠ q) := fun hh => hpq hh.1
      obtain ⟨z0, hz0⟩ := sub_upd_some hx' hxy hq hpq'
      refine ⟨z0, by simp only [subAt, hx]; exact hz0, sub_upd_na hx' hxy hq hpq hz0, fun b o => hD q b o hpq', ?_⟩
      intro e0 e
      subst e0
      rcases rootOf_setRoot_cases (x' := x') hx with ⟨y0, e1, _⟩ | ⟨e1, e2⟩
      · rw [e1] at e; cases e
      · rw [e2]
        simp only [sub, Option.some.injEq] at hq
        rw [hq]
  · intro y1 e
    rcases rootOf_setRoot_cases (x' := x') hx with ⟨y0, e1, _⟩ | ⟨e1, e2⟩
    · exact ⟨y0, e1⟩
    · rw [e2] at e; cases e
  · rcases rootOf_setRoot_cases (x' := x') hx with ⟨y0, e1, e2⟩ | ⟨e1, e2⟩
    · rw [e2]; rw [e2] at hR; exact hR
    · rw [e2]; rw [e2] at hR; exact hR

end Go.E

namespace Go.E
open Go.RowKit

/-- What is made from here on. -/
def new (w : World) : Own := fun b _ => w.heap.size ≤ b

/-- All but S stays. -/
structure Keeps (S : Own) (w w' : World) : Prop where
  met : Meta w w'
  size : w.heap.size ≤ w'.heap.size
  cell : ∀ b o, b < w.heap.size → ¬ S b o → w'.cell? ⟨b, o, none⟩ = w.cell? ⟨b, o, none⟩
  blk : ∀ b, b < w.heap.size → (∀ o, ¬ S b o) → w'.heap[b]? = w.heap[b]?
  rest : w'.tape = w.tape ∧ w'.os = w.os ∧ w'.output = w.output

theorem Keeps.refl (S : Own) (w : World) : Keeps S w w := ⟨Meta.refl w, Nat.le_refl _, fun _ _ _ _ => rfl, fun _ _ _ => rfl, rfl, rfl, rfl⟩
theorem Keeps.mono {S T : Own} {w w' : World} (h : Keeps S w w') (hs : S.le T) : Keeps T w w' :=
  ⟨h.met, h.size, fun b o hb hn => h.cell b o hb fun x => hn (hs b o x), fun b hb hn => h.blk b hb fun o x => hn o (hs b o x), h.rest⟩
theorem Keeps.trans {S T : Own} {w w1 w2 : World} (h : Keeps S w w1) (k : Keeps T w1 w2) (ht : T.le (S.or (new w))) : Keeps S w w2 := by
  refine ⟨h.met.trans k.met, Nat.le_trans h.size k.size, fun b o hb hn => ?_, fun b hb hn => ?_, k.rest.1.trans h.rest.1, k.rest.2.1.trans h.rest.2.1, k.rest.2.2.trans h.rest.2.2⟩
  · rw [k.cell b o (Nat.lt_of_lt_of_le hb h.size) (fun x => (ht b o x).elim hn (fun x => Nat.not_le_of_lt hb x)), h.cell b o hb hn]
  · rw [k.blk b (Nat.lt_of_lt_of_le hb h.size) (fun o x => (ht b o x).elim (hn o) (fun x => Nat.not_le_of_lt hb x)), h.blk b hb hn]
theorem Keeps.agree {S T : Own} {w w' : World} (h : Keeps S w w') (hd : S.disj T) (hl : ∀ b o, T b o → b < w.heap.size) : Agree T w w' :=
  ⟨fun b o x => h.cell b o (hl b o x) fun y => hd b o y x, fun b x => h.blk b (hl b 0 (x 0)) fun o y => hd b o y (x o)⟩
theorem block_lt {w : World} {b o : Nat} {v : Value} (h : w.cell? ⟨b, o, none⟩ = some v) : b < w.heap.size := by
  rcases Nat.lt_or_ge b w.heap.size with g | g
  · exact g
  · simp [World.cell?, Array.getElem?_eq_none g] at h
theorem Sat.keep {K : Kn} {S : Own} {w w' : World} (hs : Sat K w) (hf : Free K S) (hk : Keeps S w w') : Sat K w' := by
  constructor
  · intro b o v h
    have h1 := hs.cell b o v h
    rw [hk.cell b o (block_lt h1) (fun x => by rw [hf.cell b o x] at h; cases h)]
    exact h1
  · intro b es h
    obtain ⟨c, h1⟩ := hs.map b es h
    have hb : b < w.heap.size := by
      rcases Nat.lt_or_ge b w.heap.size with g | g
      · exact g
      · simp [Array.getElem?_eq_none g] at h1
    exact ⟨c, by rw [hk.blk b hb (fun o x => by rw [hf.map b o x] at h; cases h)]; exact h1⟩
theorem Free.new {K : Kn} {w : World} (hs : Sat K w) : Free K (new w) := by
  constructor
  · intro b o hb
    cases h : K.cell b o with
    | none => rfl
    | some v => exact absurd (block_lt (hs.cell b o v h)) (Nat.not_lt_of_le hb)
  · intro b o hb
    cases h : K.map b with
    | none => rfl
    | some es =>
      obtain ⟨c, h1⟩ := hs.map b es h
      have hb' : w.heap.size ≤ b := hb
      simp [Array.getElem?_eq_none hb'] at h1

/-- An operation's effect beyond its value: S0 is what it may touch of the old, S what its value owns. -/
structure Eff (K K' : Kn) (S0 : Own) (w w' : World) (S : Own) : Prop where
  sat : Sat K' w'
  grows : K.grows K' (S0.or (new w))
  keeps : Keeps S0 w w'
  own : S.le (S0.or (new w))
  free : Free K' S
  lt : ∀ b o, S b o → b < w'.heap.size
theorem Eff.none {K : Kn} {w : World} (S0 : Own) (hs : Sat K w) : Eff K K S0 w w Own.no :=
  ⟨hs, Kn.grows_refl K _, Keeps.refl _ _, Own.no_le _, Free.no K, fun _ _ h => h.elim⟩

def ownOf (O : Nat → Own) (cs : List Nat) : Own := fun b o => ∃ c ∈ cs, O c b o
def tot (O : Nat → Own) : Own := fun b o => ∃ t, O t b o
theorem ownOf_le (O : Nat → Own) (cs : List Nat) : (ownOf O cs).le (tot O) := fun _ _ ⟨c, _, h⟩ => ⟨c, h⟩
theorem le_tot (O : Nat → Own) (t : Nat) : (O t).le (tot O) := fun _ _ h => ⟨t, h⟩

/-- What a slot says that refers to another one. -/
def refR (K : Kn) (w : World) (f : Frame) (a : Nat → Value) (x : Slot) (v : Value) : Prop :=
  match x with
  | .loc s p => (∃ y, subAt f s p = some y) → ∃ b o, v = .pointer (some ⟨b, o, none⟩) ∧ AtS w (get f s) (a s) p b o
  | .view s p => ∀ y, subAt f s p = some y → (p = [] ∧ get f s = .v y ∧ v = a s) ∨ ((∀ ys, y ≠ .agg ys) ∧ ∃ b o, AtS w (get f s) (a s) p b o ∧ w.cell? ⟨b, o, none⟩ = some v)
  | .box s p => (∃ y, subAt f s p = some y) → ∃ b' o' b o, v = .pointer (some ⟨b', o', none⟩) ∧ K.cell b' o' = some (.pointer (some ⟨b, o, none⟩)) ∧ AtS w (get f s) (a s) p b o
  | .clo g cs => ∃ vs : List Value, v = .func (.func g) #[] vs.toArray ∧ CapsR K w f a cs vs
  | _ => False
theorem refR_of_slot {K : Kn} {w : World} {f : Frame} {a : Nat → Value} {t : Nat} {S : Own} {x : Slot} (h : SlotR K w f a t S) (hg : get f t = x) (hx : (∃ s p, x = .loc s p) ∨ (∃ s p, x = .view s p) ∨ (∃ g cs, x = .clo g cs) ∨ ∃ s p, x = .box s p) : refR K w f a x (a t) := by
  unfold SlotR at h
  rw [hg] at h
  rcases hx with ⟨s, p, rfl⟩ | ⟨s, p, rfl⟩ | ⟨g, cs, rfl⟩ | ⟨s, p, rfl⟩ <;> exact h
theorem slot_of_refR {K : Kn} {w : World} {f : Frame} {a : Array Value} {d : Nat} {x : Slot} {v : Value} {S : Own} (h : refR K w f (vals a) x v) (hd : d < f.length) (hl : f.length = a.size) :
    SlotR K w (f.set d x) (vals (a.setIfInBounds d v)) d S := by
  unfold SlotR
  rw [get_set_self hd, vals_set_self (by omega)]
  have hsub : ∀ s p y, isRoot x = false → subAt (f.set d x) s p = some y → s ≠ d := fun s p y hx hy e => by
    subst e
    obtain ⟨x', hx', _⟩ := subAt_root hy
    rw [get_set_self hd] at hx'
    rw [rootish_none (isRoot_rootish hx)] at hx'
    cases hx'
  cases x with
  | loc s p =>
    rintro ⟨y, hy⟩
    have hs := hsub s p y rfl hy
    have : subAt f s p = some y := by simpa only [subAt, get_set_ne hs] using hy
    rw [get_set_ne hs, vals_set_ne hs]
    exact h ⟨y, this⟩
  | box s p =>
    rintro ⟨y, hy⟩
    have hs := hsub s p y rfl hy
    have : subAt f s p = some y := by simpa only [subAt, get_set_ne hs] using hy
    rw [get_set_ne hs, vals_set_ne hs]
    exact h ⟨y, this⟩
  | view s p =>
    intro y hy
    have hs := hsub s p y rfl hy
    have : subAt f s p = some y := by simpa only [subAt, get_set_ne hs] using hy
    rw [get_set_ne hs, vals_set_ne hs]
    exact h y this
  | clo g cs =>
    obtain ⟨vs, h1, h2⟩ := h
    refine ⟨vs, h1, CapsR_frame h2 ?_⟩
    rintro c hc i x' rfl hi
    by_cases hid : i = d
    · subst hid; rw [get_set_self hd] at hi; cases hi
    · rw [get_set_ne hid] at hi
      exact ⟨⟨x', hi⟩, vals_set_ne hid⟩
  | _ => exact h.elim

/-- After a quiet operation. -/
def Post (K : Kn) (w : World) (f : Frame) (a : Array Value) (O : Nat → Own) (cs : List Nat) (x : Slot) (v : Value) (w' : World) : Prop :=
  (∃ K' S, Eff K K' (ownOf O cs) w w' S ∧ selfR K' w' x v S) ∨ (cs = [] ∧ w' = w ∧ isRoot x = false ∧ refR K w f (vals a) x v) ∨
    (cs = [] ∧ isRoot x = false ∧ ∃ K', Eff K K' Own.no w w' Own.no ∧ refR K' w' f (vals a) x v)

/-- One step of the whole. -/
structure Goes (K : Kn) (w : World) (O : Nat → Own) (K' : Kn) (w' : World) (O' : Nat → Own) : Prop where
  sat : Sat K' w'
  grows : K.grows K' ((tot O).or (new w))
  keeps : Keeps (tot O) w w'
  own : (tot O').le ((tot O).or (new w))
theorem Goes.refl {K : Kn} {w : World} {O : Nat → Own} (hs : Sat K w) : Goes K w O K w O := ⟨hs, Kn.grows_refl K _, Keeps.refl _ _, Own.le_or_l _ _⟩
theorem new_le {w w' : World} (h : w.heap.size ≤ w'.heap.size) : (new w').le (new w) := fun _ _ x => Nat.le_trans h x
theorem Goes.trans {K K1 K2 : Kn} {w w1 w2 : World} {O O1 O2 : Nat → Own} (h : Goes K w O K1 w1 O1) (k : Goes K1 w1 O1 K2 w2 O2) : Goes K w O K2 w2 O2 := by
  have hle : ((tot O1).or (new w1)).le ((tot O).or (new w)) := Own.or_le h.own (Own.le_trans (new_le h.keeps.size) (Own.le_or_r _ _))
  exact ⟨k.sat, h.grows.trans (k.grows.mono hle), h.keeps.trans k.keeps h.own, Own.le_trans k.own hle⟩

def dropAll (f : Frame) (cs : List Nat) : Frame := cs.foldl (fun f c => f.set c .any) f
theorem FR.drop_all {K : Kn} {w : World} {a : Array Value} : ∀ (cs : List Nat) {f : Frame} {O : Nat → Own}, FR K w f a O → FR K w (dropAll f cs) a (fun u => if u ∈ cs then Own.no else O u)
  | [], f, O, h => by simpa [dropAll] using h
  | c :: cs, f, O, h => by
    have := FR.drop_all cs (h.drop c)
    refine cast ?_ this
    unfold dropAll
    congr 1
    funext u
    by_cases h1 : u ∈ cs
    · simp [h1]
    · by_cases h2 : u = c <;> simp [h1, h2]

def putA (a : Array Value) (d : Option Nat) (v : Value) : Array Value := match d with | some d => a.setIfInBounds d v | none => a

theorem FR.quiet {K : Kn} {w w' : World} {f : Frame} {a : Array Value} {O : Nat → Own} {cs : List Nat} {x : Slot} {v : Value} (h : FR K w f a O) (hs : Sat K w) (hp : Post K w f a O cs x v w') (d : Option Nat) :
    ∃ K' O', FR K' w' (putO (dropAll f cs) d x) (putA a d v) O' ∧ Goes K w O K' w' O' := by
  rcases hp with ⟨K', S, he, hx⟩ | ⟨rfl, rfl, hr, hx⟩ | ⟨rfl, hr, K', he, hx⟩
  · have h1 := h.drop_all cs
    have hdisj : ∀ u, (ownOf O cs).disj ((fun u => if u ∈ cs then Own.no else O u) u) := by
      intro u b o ⟨c, hc, h1⟩ h2
      by_cases hu : u ∈ cs
      · simp only [if_pos hu] at h2; exact h2
      · simp only [if_neg hu] at h2
        exact h.disj c u (fun e => hu (e ▸ hc)) b o h1 h2
    have hlt : ∀ u b o, (fun u => if u ∈ cs then Own.no else O u) u b o → b < w.heap.size := fun u b o x => h1.lt u b o x
    have h2 : FR K' w' (dropAll f cs) a (fun u => if u ∈ cs then Own.no else O u) := by
      refine h1.world he.grows.le he.keeps.met (fun u => he.keeps.agree (hdisj u) (hlt u)) (fun u => ?_) he.keeps.size
      refine (h1.free u).grows he.grows (Own.disj_or (hdisj u) ?_)
      intro b o x y
      exact Nat.not_le_of_lt (hlt u b o y) x
    have hle : ∀ O' : Nat → Own, (∀ u, (O' u).le ((tot O).or (new w))) → (tot O').le ((tot O).or (new w)) := fun O' hh b o ⟨t, ht⟩ => hh t b o ht
    have hO : ∀ u, ((fun u => if u ∈ cs then Own.no else O u) u).le ((tot O).or (new w)) := by
      intro u b o hx
      by_cases hu : u ∈ cs
      · simp only [if_pos hu] at hx; exact hx.elim
      · simp only [if_neg hu] at hx; exact .inl ⟨u, hx⟩
    have hS : S.le ((tot O).or (new w)) := Own.le_trans he.own (Own.or_le (Own.le_trans (ownOf_le O cs) (Own.le_or_l _ _)) (Own.le_or_r _ _))
    have hg : K.grows K' ((tot O).or (new w)) := he.grows.mono (Own.or_le (Own.le_trans (ownOf_le O cs) (Own.le_or_l _ _)) (Own.le_or_r _ _))
    have hk : Keeps (tot O) w w' := he.keeps.mono (ownOf_le O cs)
    cases d with
    | none => exact ⟨K', _, h2, he.sat, hg, hk, hle _ hO⟩
    | some d =>
      refine ⟨K', _, h2.put_self he.free he.lt (fun u hu => ?_) hx, he.sat, hg, hk, hle _ fun u => ?_⟩
      · exact (Own.disj_or (hdisj u) (fun b o x y => Nat.not_le_of_lt (hlt u b o y) x)).mono he.own (Own.le_refl _)
      · by_cases hu : u = d
        · simp only [if_pos hu]; exact hS
        · simp only [if_neg hu]; exact hO u
  · cases d with
    | none => exact ⟨K, O, h, Goes.refl hs⟩
    | some d =>
      refine ⟨K, _, h.put_ref hr (fun hd => slot_of_refR hx hd h.len), hs, Kn.grows_refl K _, Keeps.refl _ _, ?_⟩
      intro b o ⟨t, ht⟩
      by_cases hu : t = d
      · simp only [if_pos hu] at ht; exact ht.elim
      · simp only [if_neg hu] at ht; exact .inl ⟨t, ht⟩
  · have hnd : ∀ u, Own.no.disj (O u) := fun u => Own.no_disj _
    have h2 : FR K' w' f a O := by
      refine h.world he.grows.le he.keeps.met (fun u => he.keeps.agree (hnd u) (h.lt u)) (fun u => ?_) he.keeps.size
      refine (h.free u).grows he.grows (Own.disj_or (hnd u) ?_)
      intro b o x y
      exact Nat.not_le_of_lt (h.lt u b o y) x
    have hg : K.grows K' ((tot O).or (new w)) := he.grows.mono (Own.or_le (Own.no_le _) (Own.le_or_r _ _))
    have hk : Keeps (tot O) w w' := he.keeps.mono (Own.no_le _)
    cases d with
    | none => exact ⟨K', O, h2, he.sat, hg, hk, Own.le_or_l _ _⟩
    | some d =>
      refine ⟨K', _, h2.put_ref hr (fun hd => slot_of_refR hx hd h.len), he.sat, hg, hk, ?_⟩
      intro b o ⟨t, ht⟩
      by_cases hu : t = d
      · simp only [if_pos hu] at ht; exact ht.elim
      · simp only [if_neg hu] at ht; exact .inl ⟨t, ht⟩

/-- An operation that ends in a value. -/
def Does (P : Program) (o : Oper) (a : Act) (w : World) (R : Value → World → Prop) : Prop :=
  ∀ (next : Act → World → Prop) (Q : Exit → Act → World → Prop), (∀ v w', R v w' → next (a.put o.dst v) w') → o.wp P a w next Q
theorem Does.value {P : Program} {o : Oper} {a : Act} {w w' : World} {R : Value → World → Prop} {v : Value} (h : (execOp a.eval o).run P w = .ok (.value v) w') (hr : R v w') : Does P o a w R := fun next Q hn => by
  unfold Oper.wp
  rw [h]
  exact hn v w' hr
theorem Does.skip {P : Program} {o : Oper} {a : Act} {w w' : World} {R : Value → World → Prop} (h : (execOp a.eval o).run P w = .ok .skip w') (hr : R undef w') : Does P o a w R := fun next Q hn => by
  unfold Oper.wp
  rw [h]
  exact hn undef w' hr
theorem Does.enter {P : Program} {o : Oper} {a : Act} {w w' : World} {R : Value → World → Prop} {k : FuncId} {args : Array Value} (h : (execOp a.eval o).run P w = .ok (.enter k args) w')
    (hr : Calls P k args w' fun e w2 => ∃ v, e = .returned v ∧ R v w2) : Does P o a w R := fun next Q hn => by
  unfold Oper.wp
  rw [h]
  refine Calls.mono hr ?_
  rintro e w2 ⟨v, rfl, hv⟩
  exact hn v w2 hv
theorem Does.mono {P : Program} {o : Oper} {a : Act} {w : World} {R R' : Value → World → Prop} (h : Does P o a w R) (hr : ∀ v w', R v w' → R' v w') : Does P o a w R' := fun next Q hn => h next Q fun v w' x => hn v w' (hr v w' x)

end Go.E

namespace Go.E
open Go.RowKit

mutual
/-- A tree's cells are single ones. -/
theorem rel_one {K : Kn} {w : World} : ∀ {x : AV} {cs : List Value} {S : Own}, rel K w x cs S → ∀ c ∈ cs, c.oneCell' = true
  | .undef, cs, S, h => by rw [rel] at h; obtain ⟨v, rfl, h⟩ := h; simpa using h
  | .int _ _, _, _, h => by rw [rel] at h; subst h; simp [Value.oneCell']
  | .bool _, _, _, h => by rw [rel] at h; subst h; simp [Value.oneCell']
  | .str _, _, _, h => by rw [rel] at h; subst h; simp [Value.oneCell']
  | .nilp, _, _, h => by rw [rel] at h; subst h; simp [Value.oneCell']
  | .nilf, _, _, h => by rw [rel] at h; subst h; simp [Value.oneCell']
  | .agg xs, _, _, h => by rw [rel] at h; exact relL_one h
  | .sl _ _, _, _, h => by rw [rel] at h; obtain ⟨a, c, rfl, _⟩ := h; simp [Value.oneCell']
  | .osl _ _, _, _, h => by rw [rel] at h; rcases h with ⟨_, _, rfl⟩ | ⟨_, _, _, _, _, rfl, _⟩ <;> simp [Value.oneCell']
  | .arr _ _, _, _, h => by rw [rel] at h; rcases h with ⟨_, _, rfl⟩ | ⟨_, _, _, _, _, _, rfl, _⟩ <;> simp [Value.oneCell']
  | .ro _, _, _, h => by rw [rel] at h; obtain ⟨_, _, _, rfl, _⟩ := h; simp [Value.oneCell']
  | .fn _ _, _, _, h => by rw [rel] at h; obtain ⟨_, rfl, _⟩ := h; simp [Value.oneCell']
  | .map _ _, _, _, h => by rw [rel] at h; obtain ⟨_, _, _, rfl, _⟩ := h; simp [Value.oneCell']
  | .rmap _ _, _, _, h => by rw [rel] at h; rcases h with ⟨_, _, rfl⟩ | ⟨_, _, rfl, _⟩ <;> simp [Value.oneCell']
  | .tup _, _, _, h => by rw [rel] at h; exact h.elim
theorem relL_one {K : Kn} {w : World} : ∀ {xs : List AV} {cs : List Value} {S : Own}, relL K w xs cs S → ∀ c ∈ cs, c.oneCell' = true
  | [], _, _, h => by rw [relL] at h; subst h; simp
  | x :: xs, _, _, h => by
    rw [relL] at h
    obtain ⟨c1, c2, S1, S2, rfl, _, _, _, h1, h2⟩ := h
    intro c hc
    rcases List.mem_append.1 hc with hc | hc
    · exact rel_one h1 c hc
    · exact relL_one h2 c hc
end
theorem cells_one {v : Value} (h : v.oneCell' = true) : v.cells = #[v] := by cases v <;> first | rfl | simp [Value.oneCell'] at h

theorem asV_cells {K : Kn} {w : World} {x : AV} {cs : List Value} {v : Value} {S : Own} (h : rel K w x cs S) (hv : asV x cs v) : v.cells.toList = cs := by
  cases x with
  | agg xs => rw [show v = .agg cs.toArray from hv]; rfl
  | _ =>
    have e : cs = [v] := hv
    rw [cells_one (rel_one h v (by rw [e]; exact List.mem_cons_self ..)), e]
theorem relV_cells {K : Kn} {w : World} {x : AV} {v : Value} {S : Own} (h : relV K w x v S) (ht : ∀ ys, x ≠ .tup ys) : ∃ cs, rel K w x cs S ∧ asV x cs v ∧ v.cells.toList = cs := by
  cases x with
  | tup ys => exact absurd rfl (ht ys)
  | agg xs =>
    obtain ⟨cs, rfl, h⟩ := h
    exact ⟨cs, by rw [rel]; exact h, rfl, rfl⟩
  | _ => exact ⟨[v], h, rfl, by rw [cells_one (rel_one h v (List.mem_cons_self ..))]⟩
theorem relV_of_cells {K : Kn} {w : World} {x : AV} {cs : List Value} {v : Value} {S : Own} (h : rel K w x cs S) (hv : asV x cs v) : relV K w x v S := by
  cases x with
  | tup ys => rw [rel] at h; exact h.elim
  | agg xs => rw [rel] at h; exact ⟨cs, hv, h⟩
  | _ =>
    have e : cs = [v] := hv
    subst e
    exact h

theorem relT_P {K : Kn} {w : World} : ∀ {xs : List AV} {vs : List Value} {S : Own}, isPL xs = true → relV.relT K w xs vs S → relV.relT K w xs vs Own.no
  | [], _, _, _, h => by rw [relV.relT] at h ⊢; exact h
  | x :: xs, _, _, p, h => by
    rw [relV.relT] at h ⊢
    obtain ⟨v, vs', S1, S2, rfl, h1, h2, h3, ⟨cs, h4, h5⟩, h6⟩ := h
    simp only [isPL, Bool.and_eq_true] at p
    exact ⟨v, vs', Own.no, Own.no, rfl, Own.le_refl _, Own.le_refl _, Own.no_disj _, ⟨cs, rel_P p.1 h4, h5⟩, relT_P p.2 h6⟩
theorem relV_P {K : Kn} {w : World} {x : AV} {v : Value} {S : Own} (p : isP x = true) (h : relV K w x v S) : relV K w x v Own.no := by
  cases x with
  | tup xs => obtain ⟨vs, h1, h2⟩ := h; rw [isP] at p; exact ⟨vs, h1, relT_P p h2⟩
  | agg xs => obtain ⟨cs, h1, h2⟩ := h; rw [isP] at p; exact ⟨cs, h1, relL_P p h2⟩
  | undef => simp [isP] at p
  | osl _ _ => simp [isP] at p
  | arr _ _ => simp [isP] at p
  | map _ _ => simp [isP] at p
  | _ => exact rel_P (x := _) (S := S) p h

theorem freezeT {w : World} : ∀ {xs : List AV} {K : Kn} {vs : List Value} {S : Own}, relV.relT K w xs vs S → Free K S → Sat K w →
    ∃ K', K.grows K' S ∧ Sat K' w ∧ relV.relT K' w (pzL xs) vs Own.no
  | [], K, vs, S, h, _, hs => ⟨K, Kn.grows_refl K S, hs, by rw [relV.relT] at h; rw [pzL, relV.relT]; exact h⟩
  | x :: xs, K, _, S, h, hf, hs => by
    rw [relV.relT] at h
    obtain ⟨v, vs', S1, S2, rfl, h1, h2, h3, ⟨cs, h4, h5⟩, h6⟩ := h
    obtain ⟨K1, T1, a1, a2, a3, a4, a5, a6⟩ := freeze h4 (hf.mono h1) hs
    obtain ⟨K2, b1, b2, b3⟩ := freezeT (relT_mono a1.le (Meta.refl w) h6 (Agree.refl _ _) (Own.le_refl _)) ((hf.mono h2).grows a1 h3) a2
    refine ⟨K2, (a1.mono h1).trans (b1.mono h2), b2, ?_⟩
    rw [pzL, relV.relT]
    exact ⟨v, vs', Own.no, Own.no, rfl, Own.le_refl _, Own.le_refl _, Own.no_disj _, ⟨cs, rel_mono b1.le (Meta.refl w) a3 (Agree.no _ _) (Own.le_refl _), pz_isAgg x cs v h5⟩, b3⟩
theorem freezeV {w : World} {x : AV} {K : Kn} {v : Value} {S : Own} (h : relV K w x v S) (hf : Free K S) (hs : Sat K w) :
    ∃ K', K.grows K' S ∧ Sat K' w ∧ relV K' w (pz x) v Own.no := by
  cases x with
  | tup xs =>
    obtain ⟨vs, h1, h2⟩ := h
    obtain ⟨K', g1, g2, g3⟩ := freezeT h2 hf hs
    exact ⟨K', g1, g2, by rw [pz]; exact ⟨vs, h1, g3⟩⟩
  | agg xs =>
    obtain ⟨cs, h1, h2⟩ := h
    obtain ⟨K', S', g1, g2, g3, _⟩ := freezeL h2 hf hs
    exact ⟨K', g1, g2, by rw [pz]; exact ⟨cs, h1, g3⟩⟩
  | _ =>
    obtain ⟨K', S', g1, g2, g3, _⟩ := freeze (x := _) h hf hs
    exact ⟨K', g1, g2, relV_of_cells g3 (pz_isAgg _ _ _ rfl)⟩

/-- Values beside each other. -/
def relA (K : Kn) (w : World) : List AV → List Value → Own → Prop
  | [], vs, _ => vs = []
  | x :: xs, vs, S => ∃ v vs' S1 S2, vs = v :: vs' ∧ S1.le S ∧ S2.le S ∧ S1.disj S2 ∧ relV K w x v S1 ∧ relA K w xs vs' S2
theorem relA_mono {K K' : Kn} {w w' : World} (hk : K.le K') (hm : Meta w w') : ∀ {xs : List AV} {vs : List Value} {S S' : Own}, relA K w xs vs S → Agree S w w' → S.le S' → relA K' w' xs vs S'
  | [], _, _, _, h, _, _ => h
  | x :: xs, _, _, _, h, ha, hs => by
    obtain ⟨v, vs', S1, S2, rfl, h1, h2, h3, h4, h5⟩ := h
    exact ⟨v, vs', S1, S2, rfl, Own.le_trans h1 hs, Own.le_trans h2 hs, h3, relV_mono hk hm h4 (ha.mono h1) (Own.le_refl _), relA_mono hk hm h5 (ha.mono h2) (Own.le_refl _)⟩
theorem freezeA {w : World} : ∀ {xs : List AV} {K : Kn} {vs : List Value} {S : Own}, relA K w xs vs S → Free K S → Sat K w →
    ∃ K', K.grows K' S ∧ Sat K' w ∧ relA K' w (pzL xs) vs Own.no
  | [], K, vs, S, h, _, hs => ⟨K, Kn.grows_refl K S, hs, h⟩
  | x :: xs, K, _, S, h, hf, hs => by
    obtain ⟨v, vs', S1, S2, rfl, h1, h2, h3, h4, h6⟩ := h
    obtain ⟨K1, a1, a2, a3⟩ := freezeV h4 (hf.mono h1) hs
    obtain ⟨K2, b1, b2, b3⟩ := freezeA (relA_mono a1.le (Meta.refl w) h6 (Agree.refl _ _) (Own.le_refl _)) ((hf.mono h2).grows a1 h3) a2
    exact ⟨K2, (a1.mono h1).trans (b1.mono h2), b2, v, vs', Own.no, Own.no, rfl, Own.le_refl _, Own.le_refl _, Own.no_disj _, relV_mono b1.le (Meta.refl w) a3 (Agree.no _ _) (Own.le_refl _), b3⟩

/-! ### What is read of a frame -/
def ev (a : Array Value) : Operand → Value
  | .tmp t => vals a t
  | .const v => v
  | .global g => .pointer (some ⟨g, 0, none⟩)
  | .func f => .func (.func f) #[] #[]
theorem eval_ev (a : Act) : a.eval = ev a.tmps := by
  funext x
  cases x <;> rfl

section
variable {C : Cfg} {K : Kn} {w : World} {f : Frame} {a : Array Value} {O : Nat → Own}

theorem constA_sound {ty : TypeId} {c : Value} {x : AV} (h : constA C ty c = some x) : relV K w x c Own.no := by
  unfold constA at h
  split at h
  · injection h with h; subst h; show rel K w _ _ _; rw [rel]
  · injection h with h; subst h; show rel K w _ _ _; rw [rel]
  · injection h with h; subst h; show rel K w _ _ _; rw [rel]
  · injection h with h; subst h; show rel K w _ _ _; rw [rel]; exact .inl ⟨rfl, none, rfl⟩
  · injection h with h; subst h; show rel K w _ _ _; rw [rel]
  · injection h with h; subst h; show rel K w _ _ _; rw [rel]
  · injection h with h; subst h; show rel K w _ _ _; rw [rel]; exact .inl ⟨rfl, rfl, rfl⟩
  · cases h

theorem FR.val (h : FR K w f a O) {t : Nat} {x : AV} (hg : get f t = .v x) : relV K w x (vals a t) (O t) := by
  have := h.slot t
  unfold SlotR at this
  rw [hg] at this
  exact this
theorem FR.cellR (h : FR K w f a O) {t : Nat} {x : AV} (hg : get f t = .cell x) : ∃ b o, vals a t = .pointer (some ⟨b, o, none⟩) ∧ obj K w x b o (O t) := by
  have := h.slot t
  unfold SlotR at this
  rw [hg] at this
  exact this
theorem AtS_ne {sl : Slot} {v : Value} {p : List Nat} {b o : Nat} (h : AtS w sl v p b o) : p ≠ [] ∨ ∃ x, sl = .cell x := by
  cases sl with
  | cell x => exact .inr ⟨x, rfl⟩
  | v x =>
    cases x with
    | arr st xs => obtain ⟨_, _, _, _, _, _, _, rfl, _⟩ := h; exact .inl (by simp)
    | _ => exact h.elim
  | _ => exact h.elim
/-- What lies at a place. -/
theorem FR.at_obj (h : FR K w f a O) {s : Nat} {p : List Nat} {y : AV} {b o : Nat} (hy : subAt f s p = some y) (ha : AtS w (get f s) (vals a s) p b o) : ∃ Sy, obj K w y b o Sy ∧ Sy.le (O s) := by
  obtain ⟨b', o', Sy, Sr, hL⟩ := h.lens hy (AtS_ne ha)
  obtain ⟨rfl, rfl⟩ := AtS_unique hL.at_ ha
  exact ⟨Sy, hL.obj, hL.le⟩
/-- What an alias shows. -/
theorem FR.view (h : FR K w f a O) {t s : Nat} {p : List Nat} {y : AV} (hg : get f t = .view s p) (hy : subAt f s p = some y) : ∃ S, S.le (O s) ∧ relV K w y (vals a t) S := by
  have := h.slot t
  unfold SlotR at this
  rw [hg] at this
  rcases this y hy with ⟨rfl, h1, h2⟩ | ⟨h1, b, o, h2, h3⟩
  · rw [h2]; exact ⟨O s, Own.le_refl _, h.val h1⟩
  · obtain ⟨Sy, ⟨cs, S1, k1, k2, k3, k4, k5⟩, hle⟩ := h.at_obj hy h2
    refine ⟨S1, Own.le_trans k4 hle, ?_⟩
    have hl := rel_len k1
    have e : ∃ v, cs = [v] := by
      have h1' : leaves y = 1 := by cases y <;> first | (exact absurd rfl (h1 _)) | rfl
      rw [h1'] at hl
      match cs, hl with
      | [v], _ => exact ⟨v, rfl⟩
    obtain ⟨v, rfl⟩ := e
    have := k2.cell (j := 0) (v := v) rfl
    rw [Nat.add_zero, h3] at this
    injection this with this
    subst this
    refine relV_of_cells k1 ?_
    cases y <;> first | (exact absurd rfl (h1 _)) | rfl

theorem osl_sl {st : Nat} {xs : List AV} {cs : List Value} {S : Own} (h : rel K w (.osl st xs) cs S) : rel K w (.sl st xs) cs Own.no := by
  rw [rel] at h
  rcases h with ⟨rfl, a, rfl⟩ | ⟨b, c, cur, e, ys, h1, h2, h3, h4, h5, h6, h7, h8, h9, h10⟩
  · rw [rel]; exact ⟨a, 0, by simp, by simp, by simp, .inl rfl⟩
  · rw [rel]
    exact ⟨some ⟨b, 0, none⟩, c, h1, h4, h7, .inr ⟨b, 0, ys, rfl, fun j v hj => by rw [Nat.zero_add]; exact h9 j v hj, h10⟩⟩

theorem fn_nil {g : FuncId} : relV K w (.fn g []) (.func (.func g) #[] #[]) Own.no := by
  show rel K w _ _ _
  rw [rel]
  exact ⟨#[], rfl, by rw [show (#[] : Array Value).toList = [] from rfl, relE]⟩

theorem moveQ_sound (h : FR K w f a O) {ty : TypeId} {x : Operand} {y : AV} {cs : List Nat} (hm : moveQ C f ty x = some (y, cs)) :
    ∃ S, relV K w y (ev a x) S ∧ S.le (ownOf O cs) ∧ cs.length ≤ 1 := by
  unfold moveQ at hm
  split at hm
  · rename_i t
    split at hm
    · rename_i z hg
      split at hm
      · rename_i hp
        injection hm with hm
        injection hm with h1 h2
        subst h1 h2
        exact ⟨Own.no, relV_P hp (h.val hg), Own.no_le _, by simp⟩
      · injection hm with hm
        injection hm with h1 h2
        subst h1 h2
        exact ⟨O t, h.val hg, fun b o x => ⟨t, List.mem_cons_self .., x⟩, by simp⟩
    · rename_i s p hg
      split at hm
      · rename_i st xs hy
        injection hm with hm
        injection hm with h1 h2
        subst h1 h2
        obtain ⟨S, _, hr⟩ := h.view hg hy
        exact ⟨Own.no, osl_sl hr, Own.no_le _, by simp⟩
      · cases hm
    · cases hm
  · rename_i c
    split at hm
    · rename_i z hz
      injection hm with hm
      injection hm with h1 h2
      subst h1 h2
      exact ⟨Own.no, constA_sound hz, Own.no_le _, by simp⟩
    · cases hm
  · injection hm with hm
    injection hm with h1 h2
    subst h1 h2
    exact ⟨Own.no, fn_nil, Own.no_le _, by simp⟩
  · cases hm
theorem ownOf_append (O : Nat → Own) (c cs : List Nat) : (ownOf O cs).le (ownOf O (c ++ cs)) := fun _ _ ⟨t, ht, hx⟩ => ⟨t, List.mem_append_right _ ht, hx⟩
theorem ownOf_append' (O : Nat → Own) (c cs : List Nat) : (ownOf O c).le (ownOf O (c ++ cs)) := fun _ _ ⟨t, ht, hx⟩ => ⟨t, List.mem_append_left _ ht, hx⟩
theorem movesQ_sound (h : FR K w f a O) : ∀ {l : List (TypeId × Operand)} {ys : List AV} {cs : List Nat}, movesQ C f l = some (ys, cs) →
    ∃ S, relA K w ys (l.map fun x => ev a x.2) S ∧ S.le (ownOf O cs)
  | [], ys, cs, hm => by
    simp only [movesQ, Option.some.injEq, Prod.mk.injEq] at hm
    obtain ⟨rfl, rfl⟩ := hm
    exact ⟨Own.no, rfl, Own.no_le _⟩
  | (ty, x) :: l, ys, cs, hm => by
    rw [movesQ] at hm
    split at hm
    · rename_i y c h1
      split at hm
      · rename_i ys' cs' h2
        split at hm
        · cases hm
        · rename_i hd
          simp only [Option.some.injEq, Prod.mk.injEq] at hm
          obtain ⟨rfl, rfl⟩ := hm
          obtain ⟨S1, a1, a2, _⟩ := moveQ_sound h h1
          obtain ⟨S2, b1, b2⟩ := movesQ_sound h h2
          refine ⟨S1.or S2, ⟨_, _, S1, S2, rfl, Own.le_or_l _ _, Own.le_or_r _ _, ?_, a1, b1⟩, Own.or_le (Own.le_trans a2 (ownOf_append' _ _ _)) (Own.le_trans b2 (ownOf_append _ _ _))⟩
          intro b o k1 k2
          obtain ⟨t1, m1, n1⟩ := a2 b o k1
          obtain ⟨t2, m2, n2⟩ := b2 b o k2
          by_cases e : t1 = t2
          · subst e
            exact hd (List.any_eq_true.2 ⟨t1, m1, by simpa using m2⟩)
          · exact h.disj t1 t2 e b o n1 n2
      · cases hm
    · cases hm
theorem FR.freeOf (h : FR K w f a O) (cs : List Nat) : Free K (ownOf O cs) := ⟨fun b o ⟨c, _, x⟩ => (h.free c).cell b o x, fun b o ⟨c, _, x⟩ => (h.free c).map b o x⟩
theorem byValQ_sound (h : FR K w f a O) (hs : Sat K w) {ty : TypeId} {x : Operand} {y : AV} {cs : List Nat} (hm : byValQ C f ty x = some (y, cs)) :
    ∃ K', K.grows K' (ownOf O cs) ∧ Sat K' w ∧ relV K' w y (ev a x) Own.no := by
  unfold byValQ at hm
  split at hm
  · rename_i z c h1
    simp only [Option.some.injEq, Prod.mk.injEq] at hm
    obtain ⟨rfl, rfl⟩ := hm
    obtain ⟨S, a1, a2, _⟩ := moveQ_sound h h1
    obtain ⟨K', b1, b2, b3⟩ := freezeV a1 ((h.freeOf _).mono a2) hs
    exact ⟨K', b1.mono a2, b2, b3⟩
  · cases hm
theorem byValsQ_sound (h : FR K w f a O) (hs : Sat K w) {l : List (TypeId × Operand)} {ys : List AV} {cs : List Nat} (hm : byValsQ C f l = some (ys, cs)) :
    ∃ K', K.grows K' (ownOf O cs) ∧ Sat K' w ∧ relA K' w ys (l.map fun x => ev a x.2) Own.no := by
  unfold byValsQ at hm
  split at hm
  · rename_i z c h1
    simp only [Option.some.injEq, Prod.mk.injEq] at hm
    obtain ⟨rfl, rfl⟩ := hm
    obtain ⟨S, a1, a2⟩ := movesQ_sound h h1
    obtain ⟨K', b1, b2, b3⟩ := freezeA a1 ((h.freeOf _).mono a2) hs
    exact ⟨K', b1.mono a2, b2, b3⟩
  · cases hm
theorem look_sound (h : FR K w f a O) {t : Nat} {y : AV} (hl : look f t = some y) : ∃ S, S.le (tot O) ∧ relV K w y (vals a t) S := by
  unfold look at hl
  split at hl
  · rename_i z hg
    injection hl with hl
    subst hl
    exact ⟨O t, le_tot O t, h.val hg⟩
  · rename_i s p hg
    obtain ⟨S, h1, h2⟩ := h.view hg hl
    exact ⟨S, Own.le_trans h1 (le_tot O s), h2⟩
  · cases hl
theorem lookO_sound (h : FR K w f a O) {ty : TypeId} {x : Operand} {y : AV} (hl : lookO C f ty x = some y) : ∃ S, S.le (tot O) ∧ relV K w y (ev a x) S := by
  unfold lookO at hl
  split at hl
  · exact look_sound h hl
  · exact ⟨Own.no, Own.no_le _, constA_sound hl⟩
  · cases hl
theorem ptrOf_at (h : FR K w f a O) {x : Operand} {s : Nat} {p : List Nat} (hp : ptrOf f x = some (.at s p)) {y : AV} (hy : subAt f s p = some y) :
    ∃ b o, ev a x = .pointer (some ⟨b, o, none⟩) ∧ AtS w (get f s) (vals a s) p b o := by
  unfold ptrOf at hp
  split at hp
  · rename_i t
    split at hp
    · rename_i z hg
      simp only [Option.some.injEq, Ptr.at.injEq] at hp
      obtain ⟨rfl, rfl⟩ := hp
      obtain ⟨b, o, h1, h2⟩ := h.cellR hg
      exact ⟨b, o, h1, by rw [hg, h1]; exact ⟨b, o, rfl, rfl, rfl⟩⟩
    · rename_i s' p' hg
      simp only [Option.some.injEq, Ptr.at.injEq] at hp
      obtain ⟨rfl, rfl⟩ := hp
      have := h.slot t
      unfold SlotR at this
      rw [hg] at this
      exact this ⟨y, hy⟩
    · cases hp
    · cases hp
  · cases hp
theorem ptrOf_ro (h : FR K w f a O) {x : Operand} {y : AV} (hp : ptrOf f x = some (.ro y)) :
    ∃ b o ys, ev a x = .pointer (some ⟨b, o, none⟩) ∧ (∀ (j : Nat) (v : Value), ys[j]? = some v → K.cell b (o + j) = some v) ∧ rel K w y ys Own.no := by
  unfold ptrOf at hp
  split at hp
  · rename_i t
    split at hp
    · cases hp
    · cases hp
    · rename_i z hg
      simp only [Option.some.injEq, Ptr.ro.injEq] at hp
      subst hp
      have hr : rel K w _ _ _ := h.val hg
      rw [rel] at hr
      obtain ⟨b, o, ys, h1, h2, h3⟩ := hr
      injection h1 with h1
      exact ⟨b, o, ys, h1, h2, h3⟩
    · cases hp
  · cases hp

/-- A quiet operation that hands a value on, and changes nothing. -/
theorem Post.keep (hs : Sat K w) {cs : List Nat} {y : AV} {v : Value} {S : Own} (hr : relV K w y v S) (hS : S.le (ownOf O cs)) (h : FR K w f a O) : Post K w f a O cs (.v y) v w :=
  .inl ⟨K, S, ⟨hs, Kn.grows_refl K _, Keeps.refl _ _, Own.le_trans hS (Own.le_or_l _ _), (h.freeOf cs).mono hS, fun b o x => by obtain ⟨c, _, k⟩ := hS b o x; exact h.lt c b o k⟩, hr⟩
theorem Post.flat (hs : Sat K w) {y : AV} {v : Value} (hr : relV K w y v Own.no) (cs : List Nat) : Post K w f a O cs (.v y) v w :=
  .inl ⟨K, Own.no, Eff.none _ hs, hr⟩
theorem Post.frozen {K' : Kn} {y : AV} {v : Value} {cs : List Nat} (hg : K.grows K' (ownOf O cs)) (hs : Sat K' w) (hr : relV K' w y v Own.no) : Post K w f a O cs (.v y) v w :=
  .inl ⟨K', Own.no, ⟨hs, hg.mono (Own.le_or_l _ _), Keeps.refl _ _, Own.no_le _, Free.no _, fun _ _ h => h.elim⟩, hr⟩
end
end Go.E

namespace Go.E
open Go.RowKit

section
variable {C : Cfg} {K : Kn} {w : World} {f : Frame} {a : Act} {O : Nat → Own} {fid : Nat} {call : CallF} {o : Oper} {cs : List Nat} {z : Slot}

theorem FR.viewR (h : FR K w f a.tmps O) {t : Nat} {x : Slot} (hg : get f t = x) (hx : (∃ s p, x = .loc s p) ∨ (∃ s p, x = .view s p) ∨ (∃ g cs, x = .clo g cs) ∨ ∃ s p, x = .box s p) : Post K w f a.tmps O [] x (vals a.tmps t) w :=
  .inr (.inl ⟨rfl, rfl, by rcases hx with ⟨s, p, rfl⟩ | ⟨s, p, rfl⟩ | ⟨g, cs, rfl⟩ | ⟨s, p, rfl⟩ <;> rfl, refR_of_slot (h.slot t) hg hx⟩)
theorem FR.selfLoc (h : FR K w f a.tmps O) {t : Nat} {y : AV} (hg : get f t = .cell y) : Post K w f a.tmps O [] (.loc t []) (vals a.tmps t) w := by
  refine .inr (.inl ⟨rfl, rfl, rfl, fun _ => ?_⟩)
  obtain ⟨b, o, h1, h2⟩ := h.cellR hg
  exact ⟨b, o, h1, by rw [hg, h1]; exact ⟨b, o, rfl, rfl, rfl⟩⟩
theorem FR.selfView (h : FR K w f a.tmps O) {t : Nat} {y : AV} (hg : get f t = .v y) (hy : rootOf (.v y) = some y) : Post K w f a.tmps O [] (.view t []) (vals a.tmps t) w := by
  refine .inr (.inl ⟨rfl, rfl, rfl, fun z hz => .inl ⟨rfl, ?_, rfl⟩⟩)
  simp only [subAt, hg, hy] at hz
  rw [hg]
  have : y = z := by cases y <;> (simp only [sub, Option.some.injEq] at hz; exact hz)
  rw [this]
theorem FR.moveP (h : FR K w f a.tmps O) (hs : Sat K w) {ty : TypeId} {x : Operand} {y : AV} (hm : moveQ C f ty x = some (y, cs)) : Post K w f a.tmps O cs (.v y) (ev a.tmps x) w := by
  obtain ⟨S, h1, h2, _⟩ := moveQ_sound h hm
  exact .keep hs h1 h2 h

theorem q_move {x : Operand} (ho : o.op = .move x) (h : FR K w f a.tmps O) (hs : Sat K w) (hq : quiet C fid call o f = some (cs, z)) : Does C.P o a w (Post K w f a.tmps O cs z) := by
  refine Does.value (v := ev a.tmps x) (w' := w) (by simp [execOp, ho, eval_ev]) ?_
  unfold quiet at hq
  rw [ho] at hq
  cases x with
  | tmp t =>
    simp only at hq
    cases hg : get f t with
    | any => simp [hg] at hq
    | non => simp [hg] at hq
    | v y =>
      simp only [hg] at hq
      split at hq
      · rename_i hp
        simp only [Option.some.injEq, Prod.mk.injEq] at hq
        obtain ⟨rfl, rfl⟩ := hq
        exact .flat hs (relV_P hp (h.val hg)) _
      · split at hq <;> simp only [Option.some.injEq, Prod.mk.injEq] at hq <;> obtain ⟨rfl, rfl⟩ := hq
        · exact h.selfView hg rfl
        · exact h.selfView hg rfl
        · exact h.selfView hg rfl
        · exact .keep hs (h.val hg) (fun b o x => ⟨t, List.mem_cons_self .., x⟩) h
    | cell y =>
      simp only [hg, Option.some.injEq, Prod.mk.injEq] at hq
      obtain ⟨rfl, rfl⟩ := hq
      exact h.selfLoc hg
    | loc s p =>
      simp only [hg, Option.some.injEq, Prod.mk.injEq] at hq
      obtain ⟨rfl, rfl⟩ := hq
      exact h.viewR hg (.inl ⟨s, p, rfl⟩)
    | box s p =>
      simp only [hg, Option.some.injEq, Prod.mk.injEq] at hq
      obtain ⟨rfl, rfl⟩ := hq
      exact h.viewR hg (.inr (.inr (.inr ⟨s, p, rfl⟩)))
    | view s p =>
      simp only [hg, Option.some.injEq, Prod.mk.injEq] at hq
      obtain ⟨rfl, rfl⟩ := hq
      exact h.viewR hg (.inr (.inl ⟨s, p, rfl⟩))
    | clo g cs =>
      simp only [hg, Option.some.injEq, Prod.mk.injEq] at hq
      obtain ⟨rfl, rfl⟩ := hq
      exact h.viewR hg (.inr (.inr (.inl ⟨g, cs, rfl⟩)))
  | const c =>
    simp only at hq
    split at hq
    · rename_i y c' hm
      simp only [Option.some.injEq, Prod.mk.injEq] at hq
      obtain ⟨rfl, rfl⟩ := hq
      exact h.moveP hs hm
    · cases hq
  | func g =>
    simp only at hq
    split at hq
    · rename_i y c' hm
      simp only [Option.some.injEq, Prod.mk.injEq] at hq
      obtain ⟨rfl, rfl⟩ := hq
      exact h.moveP hs hm
    · cases hq
  | global g =>
    simp only at hq
    split at hq
    · rename_i y c' hm
      simp only [Option.some.injEq, Prod.mk.injEq] at hq
      obtain ⟨rfl, rfl⟩ := hq
      exact h.moveP hs hm
    · cases hq

theorem moveSome {ty : TypeId} {x : Operand} (h : FR K w f a.tmps O) (hs : Sat K w) (hq : (match moveQ C f ty x with | some (y, cs) => some (cs, Slot.v y) | none => none) = some (cs, z)) : Post K w f a.tmps O cs z (ev a.tmps x) w := by
  split at hq
  · rename_i y c' hm
    simp only [Option.some.injEq, Prod.mk.injEq] at hq
    obtain ⟨rfl, rfl⟩ := hq
    exact h.moveP hs hm
  · cases hq

theorem q_assign {x : Operand} (ho : o.op = .assign x) (h : FR K w f a.tmps O) (hs : Sat K w) (hq : quiet C fid call o f = some (cs, z)) : Does C.P o a w (Post K w f a.tmps O cs z) := by
  refine Does.value (v := ev a.tmps x) (w' := w) (by simp [execOp, ho, eval_ev]) ?_
  unfold quiet at hq
  rw [ho] at hq
  cases x with
  | tmp t =>
    simp only at hq
    split at hq
    · rename_i y hg
      simp only [Option.some.injEq, Prod.mk.injEq] at hq
      obtain ⟨rfl, rfl⟩ := hq
      exact h.selfLoc hg
    · rename_i s p hg
      simp only [Option.some.injEq, Prod.mk.injEq] at hq
      obtain ⟨rfl, rfl⟩ := hq
      exact h.viewR hg (.inl ⟨s, p, rfl⟩)
    · rename_i g cs' hg
      simp only [Option.some.injEq, Prod.mk.injEq] at hq
      obtain ⟨rfl, rfl⟩ := hq
      exact h.viewR hg (.inr (.inr (.inl ⟨g, cs', rfl⟩)))
    · split at hq
      · cases hq
      · exact moveSome h hs hq
    · exact moveSome h hs hq
  | _ => simp only at hq; exact moveSome (C := C) (ty := o.type) h hs hq

theorem bool_of {K : Kn} {w : World} {b : Bool} {v : Value} {S : Own} (h : relV K w (.bool b) v S) : v = .bool b := by
  have h' : rel K w _ _ _ := h
  rw [rel] at h'
  injection h'
theorem int_of {K : Kn} {w : World} {k : IntKind} {n : Int} {v : Value} {S : Own} (h : relV K w (.int k n) v S) : v = .int k n := by
  have h' : rel K w _ _ _ := h
  rw [rel] at h'
  injection h'
theorem str_of {K : Kn} {w : World} {s : ByteArray} {v : Value} {S : Own} (h : relV K w (.str s) v S) : v = .string s := by
  have h' : rel K w _ _ _ := h
  rw [rel] at h'
  injection h'
theorem of_bool {K : Kn} {w : World} {b : Bool} : relV K w (.bool b) (.bool b) Own.no := by show rel K w _ _ _; rw [rel]
theorem of_int {K : Kn} {w : World} {k : IntKind} {n : Int} : relV K w (.int k n) (.int k n) Own.no := by show rel K w _ _ _; rw [rel]
theorem of_str {K : Kn} {w : World} {s : ByteArray} : relV K w (.str s) (.string s) Own.no := by show rel K w _ _ _; rw [rel]

theorem q_pick {c x y : Operand} (ho : o.op = .pick c x y) (h : FR K w f a.tmps O) (hs : Sat K w) (hq : quiet C fid call o f = some (cs, z)) : Does C.P o a w (Post K w f a.tmps O cs z) := by
  unfold quiet at hq
  rw [ho] at hq
  simp only at hq
  split at hq
  · rename_i b hb
    obtain ⟨S, _, hr⟩ := lookO_sound h hb
    have hc := bool_of hr
    split at hq
    · rename_i y' c' hm
      simp only [Option.some.injEq, Prod.mk.injEq] at hq
      obtain ⟨rfl, rfl⟩ := hq
      refine Does.value (v := ev a.tmps (if b then x else y)) (w' := w) ?_ ?_
      · simp only [execOp, ho, eval_ev, hc, asBool]
        cases b <;> rfl
      · obtain ⟨K', g1, g2, g3⟩ := byValQ_sound h hs hm
        exact .frozen g1 g2 g3
    · cases hq
  · cases hq

theorem q_nilCheck {x : Operand} (ho : o.op = .nilCheck x) (h : FR K w f a.tmps O) (hs : Sat K w) (hq : quiet C fid call o f = some (cs, z)) : Does C.P o a w (Post K w f a.tmps O cs z) := by
  unfold quiet at hq
  rw [ho] at hq
  cases x with
  | tmp t =>
    simp only at hq
    split at hq
    · rename_i y hg
      simp only [Option.some.injEq, Prod.mk.injEq] at hq
      obtain ⟨rfl, rfl⟩ := hq
      obtain ⟨b, o', h1, h2⟩ := h.cellR hg
      refine Does.value (v := vals a.tmps t) (w' := w) ?_ (h.selfLoc hg)
      simp only [execOp, ho, eval_ev, ev, h1]
      rfl
    · rename_i s p hg
      split at hq
      · rename_i y hy
        simp only [Option.some.injEq, Prod.mk.injEq] at hq
        obtain ⟨rfl, rfl⟩ := hq
        obtain ⟨b, o', h1, h2⟩ := ptrOf_at h (x := .tmp t) (by simp only [ptrOf, hg]) hy
        refine Does.value (v := vals a.tmps t) (w' := w) ?_ (h.viewR hg (.inl ⟨s, p, rfl⟩))
        simp only [ev] at h1
        simp only [execOp, ho, eval_ev, ev, h1]
        rfl
      · cases hq
    · rename_i s p hg
      split at hq
      · rename_i y hy
        simp only [Option.some.injEq, Prod.mk.injEq] at hq
        obtain ⟨rfl, rfl⟩ := hq
        have hsl := h.slot t
        unfold SlotR at hsl
        rw [hg] at hsl
        obtain ⟨b', o', b, o2, h1, _⟩ := hsl ⟨y, hy⟩
        refine Does.value (v := vals a.tmps t) (w' := w) ?_ (h.viewR hg (.inr (.inr (.inr ⟨s, p, rfl⟩))))
        simp only [execOp, ho, eval_ev, ev, h1]
        rfl
      · cases hq
    · rename_i y hg
      simp only [Option.some.injEq, Prod.mk.injEq] at hq
      obtain ⟨rfl, rfl⟩ := hq
      have hr := h.val hg
      have hr' : rel K w _ _ _ := hr
      rw [rel] at hr'
      obtain ⟨b, o', ys, h1, _⟩ := hr'
      injection h1 with h1
      refine Does.value (v := vals a.tmps t) (w' := w) ?_ (.flat hs (relV_P rfl hr) _)
      simp only [execOp, ho, eval_ev, ev, h1]
      rfl
    · cases hq
  | _ => cases hq

theorem relT_get {K : Kn} {w : World} : ∀ {xs : List AV} {vs : List Value} {S : Own} {i : Nat} {y : AV}, relV.relT K w xs vs S → xs[i]? = some y → ∃ v S', vs[i]? = some v ∧ relV K w y v S'
  | [], _, _, _, _, _, h => by simp at h
  | x :: xs, _, _, 0, y, h, hy => by
    rw [relV.relT] at h
    obtain ⟨v, vs', S1, S2, rfl, h1, h2, h3, ⟨cs, h4, h5⟩, h6⟩ := h
    simp only [List.getElem?_cons_zero, Option.some.injEq] at hy
    subst hy
    exact ⟨v, S1, rfl, relV_of_cells h4 h5⟩
  | x :: xs, _, _, i + 1, y, h, hy => by
    rw [relV.relT] at h
    obtain ⟨v, vs', S1, S2, rfl, h1, h2, h3, ⟨cs, h4, h5⟩, h6⟩ := h
    simp only [List.getElem?_cons_succ] at hy
    obtain ⟨u, S', k1, k2⟩ := relT_get h6 hy
    exact ⟨u, S', by simpa using k1, k2⟩

theorem q_extract {t : Nat} {i : Nat} (ho : o.op = .extract (.tmp t) i) (h : FR K w f a.tmps O) (hs : Sat K w) (hq : quiet C fid call o f = some (cs, z)) : Does C.P o a w (Post K w f a.tmps O cs z) := by
  unfold quiet at hq
  rw [ho] at hq
  simp only at hq
  split at hq
  · rename_i xs hg
    split at hq
    · rename_i y hy
      split at hq
      · rename_i hp
        simp only [Option.some.injEq, Prod.mk.injEq] at hq
        obtain ⟨rfl, rfl⟩ := hq
        obtain ⟨vs, hv, hT⟩ := h.val hg
        obtain ⟨v, S, h1, h2⟩ := relT_get hT hy
        refine Does.value (v := v) (w' := w) ?_ (.flat hs (relV_P hp h2) _)
        simp [execOp, ho, eval_ev, ev, hv, Instr.extract, h1]
      · cases hq
    · cases hq
  · cases hq
end
end Go.E

namespace Go.E
open Go.RowKit

mutual
theorem rel_F {K : Kn} {w : World} : ∀ {x : AV} {cs : List Value} {S : Own}, isF x = true → rel K w x cs S → rel K w (pz x) cs Own.no
  | .undef, _, _, h, _ => by simp [isF] at h
  | .int _ _, _, _, _, h => by simp only [pz]; rw [rel] at h ⊢; exact h
  | .bool _, _, _, _, h => by simp only [pz]; rw [rel] at h ⊢; exact h
  | .str _, _, _, _, h => by simp only [pz]; rw [rel] at h ⊢; exact h
  | .nilp, _, _, _, h => by simp only [pz]; rw [rel] at h ⊢; exact h
  | .nilf, _, _, _, h => by simp only [pz]; rw [rel] at h ⊢; exact h
  | .agg xs, _, _, p, h => by simp only [pz]; rw [rel] at h ⊢; exact relL_F (by simpa [isF] using p) h
  | .sl _ _, _, _, _, h => by simp only [pz]; rw [rel] at h ⊢; exact h
  | .osl _ _, _, _, _, h => by simp only [pz]; exact osl_sl h
  | .arr _ _, _, _, h, _ => by simp [isF] at h
  | .ro _, _, _, _, h => by simp only [pz]; rw [rel] at h ⊢; exact h
  | .fn _ _, _, _, _, h => by simp only [pz]; rw [rel] at h ⊢; exact h
  | .map _ _, _, _, h, _ => by simp [isF] at h
  | .rmap _ _, _, _, _, h => by simp only [pz]; rw [rel] at h ⊢; exact h
  | .tup _, _, _, h, _ => by simp [isF] at h
theorem relL_F {K : Kn} {w : World} : ∀ {xs : List AV} {cs : List Value} {S : Own}, isFL xs = true → relL K w xs cs S → relL K w (pzL xs) cs Own.no
  | [], _, _, _, h => by rw [pzL]; rw [relL] at h ⊢; exact h
  | x :: xs, _, _, p, h => by
    rw [pzL]
    rw [relL] at h ⊢
    rw [isFL, Bool.and_eq_true] at p
    obtain ⟨c1, c2, S1, S2, rfl, _, _, _, h4, h5⟩ := h
    exact ⟨c1, c2, Own.no, Own.no, rfl, Own.le_refl _, Own.le_refl _, Own.no_disj _, rel_F p.1 h4, relL_F p.2 h5⟩
end
theorem relV_F {K : Kn} {w : World} {x : AV} {v : Value} {S : Own} (p : isF x = true) (h : relV K w x v S) : relV K w (pz x) v Own.no := by
  obtain ⟨cs, h1, h2, _⟩ := relV_cells h (fun ys e => by rw [e] at p; simp [isF] at p)
  exact relV_of_cells (rel_F p h1) (pz_isAgg _ _ _ h2)

section
variable {C : Cfg} {K : Kn} {w : World}

theorem run_isAgg {t : TypeId} {g : Bool} (h : aggT C t = some g) : (Go.isAgg t).run C.P w = .ok g w := by
  unfold aggT at h
  unfold Go.isAgg
  rw [Sem.run_bind]
  cases hu : C.P.underlying t with
  | none => simp [hu] at h
  | some d =>
    rw [run_underlying hu]
    simp only [hu] at h
    cases d <;> simp_all
theorem run_sizeOf {t : TypeId} (h : (C.P.info? t).isSome = true) : (sizeOf t).run C.P w = .ok (szT C t) w := by
  cases hi : C.P.info? t with
  | none => simp [hi] at h
  | some i => simp [sizeOf, typeInfo, hi, szT]
theorem szT_some {t : TypeId} (h : szT C t ≠ 0) : (C.P.info? t).isSome = true := by
  unfold szT at h
  cases hi : C.P.info? t with
  | none => simp [hi] at h
  | some i => rfl
theorem fitsT_eq {t : TypeId} {x : AV} (h : fitsT C t x = true) : leaves x = szT C t ∧ (C.P.info? t).isSome = true ∧ aggT C t = some (isAgg x) ∧ isTup x = false := by
  simp only [fitsT, Bool.and_eq_true, beq_iff_eq, Bool.not_eq_true'] at h
  exact ⟨h.1.1.1, h.1.1.2, h.1.2, h.2⟩

/-- The value that these cells are, by the tree's form. -/
theorem asV_exists {x : AV} {cs : List Value} {S : Own} (h : rel K w x cs S) : ∃ v, asV x cs v := by
  cases x with
  | agg xs => exact ⟨_, rfl⟩
  | _ =>
    have hl := rel_len h
    match cs, hl with
    | [v], _ => exact ⟨v, rfl⟩

theorem run_loadVar {t : TypeId} {x : AV} {cs : List Value} {S : Own} {b o : Nat} {v : Value} (hf : fitsT C t x = true) (hr : rel K w x cs S) (hv : asV x cs v) (hc : ∀ (j : Nat) (u : Value), cs[j]? = some u → w.cell? ⟨b, o + j, none⟩ = some u) :
    (loadVar t ⟨b, o, none⟩).run C.P w = .ok v w := by
  obtain ⟨h1, h2, h3, h4⟩ := fitsT_eq hf
  have hl := rel_len hr
  unfold loadVar
  rw [Sem.run_bind, run_isAgg h3, Result.andThen_ok]
  cases x with
  | agg xs =>
    have hv : v = .agg cs.toArray := hv
    simp only [isAgg, if_true, Sem.run_bind, run_sizeOf h2, Result.andThen_ok]
    rw [← h1, ← hl, run_loadCells_list (P := C.P) w ⟨b, o, none⟩ cs (fun j u hj => by rw [Addr.add_lit]; exact hc j u hj)]
    simp [hv]
  | _ =>
    have hv : cs = [v] := hv
    subst hv
    have := hc 0 v rfl
    rw [Nat.add_zero] at this
    simp [isAgg, this]

theorem obj_load {t : TypeId} {y : AV} {b o : Nat} {Sy : Own} (hf : fitsT C t y = true) (ho : obj K w y b o Sy) : ∃ v S1, (loadVar t ⟨b, o, none⟩).run C.P w = .ok v w ∧ relV K w y v S1 ∧ S1.le Sy ∧ (∀ cs, asV y cs v → ∀ (j : Nat) (u : Value), cs[j]? = some u → w.cell? ⟨b, o + j, none⟩ = some u) := by
  obtain ⟨cs, S1, h1, h2, h3, h4, h5⟩ := ho
  obtain ⟨v, hv⟩ := asV_exists h1
  refine ⟨v, S1, run_loadVar hf h1 hv (fun j u hj => h2.cell hj), relV_of_cells h1 hv, h4, fun cs' hv' j u hj => ?_⟩
  have : cs' = cs := by rw [← asV_cells h1 hv]; cases y <;> first | (have e : v = .agg cs'.toArray := hv'; rw [e]; rfl) | (have e : cs' = [v] := hv'; have e2 : cs = [v] := hv; rw [asV_cells h1 hv, e, e2])
  subst this
  exact h2.cell hj

theorem run_part {t : TypeId} {x : AV} {c1 c2 c3 : List Value} {S : Own} {v : Value} {o : Nat} (hf : fitsT C t x = true) (hr : rel K w x c2 S) (hv : asV x c2 v) (ho : o = c1.length) :
    (part t (c1 ++ (c2 ++ c3)).toArray o).run C.P w = .ok v w := by
  obtain ⟨h1, h2, h3, h4⟩ := fitsT_eq hf
  have hl := rel_len hr
  unfold part
  rw [Sem.run_bind, run_isAgg h3, Result.andThen_ok]
  subst ho
  cases x with
  | agg xs =>
    have hv : v = .agg c2.toArray := hv
    simp only [isAgg, if_true, Sem.run_bind, run_sizeOf h2, Result.andThen_ok, Sem.run_pure]
    rw [← h1, ← hl, hv]
    congr 2
    simp
  | _ =>
    have hv : c2 = [v] := hv
    subst hv
    simp [isAgg]
end
end Go.E

namespace Go.E
open Go.RowKit

section
variable {C : Cfg} {K : Kn} {w : World} {f : Frame} {a : Act} {O : Nat → Own} {fid : Nat} {call : CallF} {o : Oper} {cs : List Nat} {z : Slot}

theorem q_load {t : TypeId} {x : Operand} (ho : o.op = .load t x) (h : FR K w f a.tmps O) (hs : Sat K w) (hq : quiet C fid call o f = some (cs, z)) : Does C.P o a w (Post K w f a.tmps O cs z) := by
  unfold quiet at hq
  rw [ho] at hq
  simp only at hq
  split at hq
  · rename_i y hp
    split at hq
    · rename_i hf
      simp only [Option.some.injEq, Prod.mk.injEq] at hq
      obtain ⟨rfl, rfl⟩ := hq
      obtain ⟨b, o', ys, h1, h2, h3⟩ := ptrOf_ro h hp
      obtain ⟨v, hv⟩ := asV_exists h3
      have hr := run_loadVar (C := C) (w := w) (b := b) (o := o') hf h3 hv (fun j u hj => hs.cell _ _ _ (h2 j u hj))
      refine Does.value (v := v) (w' := w) ?_ (.flat hs (relV_of_cells h3 hv) _)
      simp [execOp, ho, eval_ev, h1, Instr.loadAt, Instr.sureAddr, hr]
    · cases hq
  · rename_i s p hp
    split at hq
    · rename_i y hy
      split at hq
      · rename_i hf
        obtain ⟨b, o', h1, h2⟩ := ptrOf_at h hp hy
        obtain ⟨Sy, hob, hle⟩ := h.at_obj hy h2
        obtain ⟨v, S1, hr, hv, hS1, hc⟩ := obj_load (C := C) hf hob
        have hx : (execOp a.eval o).run C.P w = .ok (.value v) w := by simp [execOp, ho, eval_ev, h1, Instr.loadAt, Instr.sureAddr, hr]
        split at hq
        · rename_i hp'
          simp only [Option.some.injEq, Prod.mk.injEq] at hq
          obtain ⟨rfl, rfl⟩ := hq
          exact Does.value hx (.flat hs (relV_P hp' hv) _)
        · have hview : (∀ ys, y ≠ .agg ys) → asV y [v] v → Post K w f a.tmps O [] (.view s p) v w := fun hna hv' => by
            refine .inr (.inl ⟨rfl, rfl, rfl, fun y' hy' => .inr ?_⟩)
            rw [hy] at hy'
            injection hy' with hy'
            subst hy'
            refine ⟨hna, b, o', h2, ?_⟩
            have := hc [v] hv' 0 v rfl
            rwa [Nat.add_zero] at this
          split at hq
          · simp only [Option.some.injEq, Prod.mk.injEq, reduceCtorEq] at hq
            obtain ⟨rfl, rfl⟩ := hq
            exact Does.value hx (hview (by simp) rfl)
          · simp only [Option.some.injEq, Prod.mk.injEq, reduceCtorEq] at hq
            obtain ⟨rfl, rfl⟩ := hq
            exact Does.value hx (hview (by simp) rfl)
          · simp only [Option.some.injEq, Prod.mk.injEq, reduceCtorEq] at hq
            obtain ⟨rfl, rfl⟩ := hq
            exact Does.value hx (hview (by simp) rfl)
          · split at hq
            · rename_i hF
              simp only [Option.some.injEq, Prod.mk.injEq, reduceCtorEq] at hq
              obtain ⟨rfl, rfl⟩ := hq
              exact Does.value hx (.flat hs (relV_F hF hv) _)
            · cases hq
      · cases hq
    · cases hq
  · split at hq
    · rename_i s p hub
      split at hq
      · rename_i y hy
        split at hq
        · rename_i hf
          simp only [Option.some.injEq, Prod.mk.injEq] at hq
          obtain ⟨rfl, rfl⟩ := hq
          cases x with
          | tmp t' =>
            unfold unbox at hub
            simp only at hub
            split at hub
            · rename_i s' p' hg
              simp only [Option.some.injEq, Prod.mk.injEq] at hub
              obtain ⟨rfl, rfl⟩ := hub
              have hsl := h.slot t'
              unfold SlotR at hsl
              rw [hg] at hsl
              obtain ⟨b', o', b, o2, h1, hK, hA⟩ := hsl ⟨y, hy⟩
              have h3 : rel K w .undef [.pointer (some ⟨b, o2, none⟩)] Own.no := by rw [rel]; exact ⟨_, rfl, rfl⟩
              have hr := run_loadVar (C := C) (w := w) (b := b') (o := o') hf h3 (v := .pointer (some ⟨b, o2, none⟩)) rfl (fun j u hj => by
                cases j with
                | zero => simp only [List.getElem?_cons_zero, Option.some.injEq] at hj; subst hj; exact hs.cell _ _ _ hK
                | succ j => simp at hj)
              refine Does.value (v := .pointer (some ⟨b, o2, none⟩)) (w' := w) ?_ (.inr (.inl ⟨rfl, rfl, rfl, fun _ => ⟨b, o2, rfl, hA⟩⟩))
              simp [execOp, ho, eval_ev, ev, h1, Instr.loadAt, Instr.sureAddr, hr]
            · cases hub
          | _ => cases hub
        · cases hq
      · cases hq
    · cases hq

theorem fieldT_eq {t : TypeId} {i : Nat} {off : Nat} {u : TypeId} (h : fieldT C t i = some (off, u)) : ∃ fs g, C.P.underlying t = some (.struct fs) ∧ fs[i]? = some g ∧ g.offset = off ∧ g.type = u := by
  unfold fieldT at h
  split at h
  · rename_i fs hu
    split at h
    · rename_i g hg
      simp only [Option.some.injEq, Prod.mk.injEq] at h
      exact ⟨fs, g, hu, hg, h.1, h.2⟩
    · cases h
  · cases h
theorem okField_eq {t : TypeId} {i : Nat} {xs : List AV} (h : okField C t i xs = true) : ∃ fs g y, C.P.underlying t = some (.struct fs) ∧ fs[i]? = some g ∧ g.offset = leavesL (xs.take i) ∧ xs[i]? = some y ∧ fitsT C g.type y = true ∧ szT C g.type ≠ 0 := by
  unfold okField at h
  split at h
  · rename_i off u y h1 h2
    obtain ⟨fs, g, k1, k2, rfl, rfl⟩ := fieldT_eq h1
    simp only [Bool.and_eq_true, beq_iff_eq, bne_iff_ne, ne_eq] at h
    exact ⟨fs, g, y, k1, k2, h.1.1, h2, h.1.2, h.2⟩
  · cases h

theorem q_field {t : TypeId} {x : Operand} {i : Nat} (ho : o.op = .field t x i) (h : FR K w f a.tmps O) (hs : Sat K w) (hq : quiet C fid call o f = some (cs, z)) : Does C.P o a w (Post K w f a.tmps O cs z) := by
  unfold quiet at hq
  rw [ho] at hq
  simp only at hq
  split at hq
  · rename_i xs hx
    split at hq
    · rename_i hok
      obtain ⟨fs, g, y, k1, k2, k3, k4, k5, k6⟩ := okField_eq hok
      rw [k4] at hq
      simp only at hq
      split at hq
      · rename_i hp
        simp only [Option.some.injEq, Prod.mk.injEq] at hq
        obtain ⟨rfl, rfl⟩ := hq
        obtain ⟨S, _, cs, hv, hr⟩ := lookO_sound h hx
        obtain ⟨c1, c2, c3, Sz, Sr, rfl, g1, g2, _⟩ := relL_lens hr k4
        obtain ⟨v, hv2⟩ := asV_exists g2
        have hpart := run_part (C := C) (w := w) (c1 := c1) (c3 := c3) (o := g.offset) k5 g2 hv2 (by rw [k3, g1])
        refine Does.value (v := v) (w' := w) ?_ (.flat hs (relV_P hp (relV_of_cells g2 hv2)) _)
        simp [execOp, ho, eval_ev, hv, Instr.field, run_underlying k1, k2, asAgg, hpart]
      · cases hq
    · cases hq
  · cases hq

theorem run_fieldPlace {b o' : Nat} {g : Field} (h : szT C g.type ≠ 0) : (fieldPlace ⟨b, o', none⟩ g).run C.P w = .ok ⟨b, o' + g.offset, none⟩ w := by
  unfold fieldPlace
  rw [Sem.run_bind, run_sizeOf (szT_some h), Result.andThen_ok]
  simp [h, Addr.add_lit]

theorem sub_nil (x : AV) : sub x [] = some x := by cases x <;> rfl

theorem q_fieldAddr {t : TypeId} {x : Operand} {i : Nat} (ho : o.op = .fieldAddr t x i) (h : FR K w f a.tmps O) (hs : Sat K w) (hq : quiet C fid call o f = some (cs, z)) : Does C.P o a w (Post K w f a.tmps O cs z) := by
  unfold quiet at hq
  rw [ho] at hq
  simp only at hq
  split at hq
  · rename_i xs hp
    split at hq
    · rename_i hok
      obtain ⟨fs, g, y, k1, k2, k3, k4, k5, k6⟩ := okField_eq hok
      rw [k4] at hq
      simp only [Option.some.injEq, Prod.mk.injEq] at hq
      obtain ⟨rfl, rfl⟩ := hq
      obtain ⟨b, o', ys, h1, h2, h3⟩ := ptrOf_ro h hp
      rw [rel] at h3
      obtain ⟨c1, c2, c3, Sz, Sr, rfl, g1, g2, g3, _⟩ := relL_lens h3 k4
      refine Does.value (v := .pointer (some ⟨b, o' + g.offset, none⟩)) (w' := w) ?_ (.flat hs ?_ _)
      · simp [execOp, ho, eval_ev, h1, Instr.fieldAt, Instr.sureAddr, run_underlying k1, k2, run_fieldPlace k6]
      · show rel K w _ _ _
        rw [rel]
        refine ⟨b, o' + g.offset, c2, rfl, fun j v hj => ?_, rel_le g2 g3⟩
        rw [Nat.add_assoc]
        refine h2 _ _ ?_
        rw [k3, ← g1, List.getElem?_append_right (by omega), Nat.add_sub_cancel_left, List.getElem?_append_left (List.getElem?_eq_some_iff.1 hj).1]
        exact hj
    · cases hq
  · rename_i s p hp
    split at hq
    · rename_i xs hy
      split at hq
      · rename_i hok
        obtain ⟨fs, g, y, k1, k2, k3, k4, k5, k6⟩ := okField_eq hok
        simp only [Option.some.injEq, Prod.mk.injEq] at hq
        obtain ⟨rfl, rfl⟩ := hq
        obtain ⟨b, o', h1, h2⟩ := ptrOf_at h hp hy
        refine Does.value (v := .pointer (some ⟨b, o' + g.offset, none⟩)) (w' := w) ?_ (.inr (.inl ⟨rfl, rfl, rfl, fun _ => ⟨b, _, rfl, ?_⟩⟩))
        · simp [execOp, ho, eval_ev, h1, Instr.fieldAt, Instr.sureAddr, run_underlying k1, k2, run_fieldPlace k6]
        · obtain ⟨x0, hx0, hxy⟩ := subAt_root hy
          exact AtS_join hx0 hxy h2 (by rw [At]; exact ⟨y, k4, by rw [At, k3]; exact ⟨rfl, rfl⟩⟩)
      · cases hq
    · cases hq
  · cases hq

theorem elemT_eq {t e : TypeId} (h : elemT C t = some e) : C.P.underlying t = some (.slice e) := by
  unfold elemT at h
  split at h
  · rename_i e' hu; injection h with h; subst h; exact hu
  · cases h
theorem strideT_eq {t : TypeId} {st : Nat} (h : (st == strideT C t && st != 0) = true) : ∃ e, C.P.underlying t = some (.slice e) ∧ szT C e = st ∧ st ≠ 0 := by
  simp only [Bool.and_eq_true, beq_iff_eq, bne_iff_ne, ne_eq] at h
  obtain ⟨h1, h2⟩ := h
  unfold strideT at h1
  split at h1
  · rename_i e he; exact ⟨e, elemT_eq he, h1.symm, h2⟩
  · exact absurd h1 h2
theorem idxA_eq {i : AV} {n m : Nat} (h : idxA i n = some m) : ∃ k, i = .int k m ∧ m < n := by
  unfold idxA at h
  split at h
  · rename_i k j
    split at h
    · rename_i hh
      simp only [Option.some.injEq] at h
      refine ⟨k, ?_, by omega⟩
      rw [← h, Int.toNat_of_nonneg hh.1]
    · cases h
  · cases h
theorem run_indexAt {t e : TypeId} {b o' len cap n : Nat} {k : IntKind} (h : C.P.underlying t = some (.slice e)) (hz : szT C e ≠ 0) (hn : n < len) :
    (Instr.indexAt t (.slice (some ⟨b, o', none⟩) len cap) (.int k n)).run C.P w = .ok (.pointer (some ⟨b, o' + n * szT C e, none⟩)) w := by
  have h0 : (0 : Int) ≤ (n : Int) ∧ (n : Int) < (len : Int) := ⟨by omega, by omega⟩
  simp [Instr.indexAt, asIntOf, run_underlying h, h0, hn, run_sizeOf (szT_some hz), Addr.add_lit]

theorem slIndex {st n : Nat} {xs : List AV} {y : AV} {v : Value} {S : Own} (h : rel K w (.sl st xs) [v] S) (hy : xs[n]? = some y) :
    ∃ b o' c ys, v = .slice (some ⟨b, o', none⟩) xs.length c ∧ (∀ (j : Nat) (v : Value), ys[j]? = some v → K.cell b (o' + n * st + j) = some v) ∧ rel K w y ys Own.no := by
  rw [rel] at h
  obtain ⟨a, c, h1, h2, h3, h4⟩ := h
  rcases h4 with rfl | ⟨b, o', ys, rfl, h5, h6⟩
  · simp at hy
  · injection h1 with h1
    obtain ⟨c1, c2, c3, Sz, Sr, rfl, g1, g2, g3, _⟩ := relL_lens h6 hy
    have hn : n < xs.length := (List.getElem?_eq_some_iff.1 hy).1
    rw [leavesL_const (fun x hx => h3 x (List.mem_of_mem_take hx)), List.length_take, Nat.min_eq_left (Nat.le_of_lt hn)] at g1
    refine ⟨b, o', c, c2, h1, fun j v hj => ?_, rel_le g2 g3⟩
    rw [Nat.add_assoc]
    refine h5 _ _ ?_
    rw [← g1, List.getElem?_append_right (by omega), Nat.add_sub_cancel_left, List.getElem?_append_left (List.getElem?_eq_some_iff.1 hj).1]
    exact hj

theorem q_indexAddr {t : TypeId} {x i : Operand} (ho : o.op = .indexAddr t x i) (h : FR K w f a.tmps O) (hs : Sat K w) (hq : quiet C fid call o f = some (cs, z)) : Does C.P o a w (Post K w f a.tmps O cs z) := by
  unfold quiet at hq
  rw [ho] at hq
  simp only at hq
  have hsl : ∀ {st : Nat} {xs : List AV} {j : AV} {S : Own}, rel K w (.sl st xs) [ev a.tmps x] S → lookO C f 0 i = some j →
      (match idxA j xs.length with
      | some n => if (st == strideT C t && st != 0) = true then (match xs[n]? with | some y => some (([] : List Nat), Slot.v (.ro y)) | none => none) else none
      | none => none) = some (cs, z) → Does C.P o a w (Post K w f a.tmps O cs z) := fun {st xs j S} hr hj hq => by
    split at hq
    · rename_i n hn
      split at hq
      · rename_i hst
        split at hq
        · rename_i y hy
          simp only [Option.some.injEq, Prod.mk.injEq] at hq
          obtain ⟨rfl, rfl⟩ := hq
          obtain ⟨e, he, hse, hst0⟩ := strideT_eq hst
          obtain ⟨k, rfl, hlt⟩ := idxA_eq hn
          obtain ⟨S', _, hri⟩ := lookO_sound h hj
          obtain ⟨b, o', c, ys, h1, h2, h3⟩ := slIndex hr hy
          refine Does.value (v := .pointer (some ⟨b, o' + n * szT C e, none⟩)) (w' := w) ?_ (.flat hs ?_ _)
          · simp [execOp, ho, eval_ev, h1, int_of hri, run_indexAt he (by rw [hse]; exact hst0) hlt]
          · show rel K w _ _ _
            rw [rel]
            exact ⟨b, _, ys, rfl, by rw [hse]; exact h2, h3⟩
        · cases hq
      · cases hq
    · cases hq
  split at hq
  · rename_i st xs j hx hj
    obtain ⟨S, _, hr⟩ := lookO_sound h hx
    exact hsl (S := S) hr hj hq
  · rename_i st xs j hx hj
    obtain ⟨S, _, hr⟩ := lookO_sound h hx
    exact hsl (S := Own.no) (osl_sl (S := S) hr) hj hq
  · rename_i st xs j hx hj
    split at hq
    · rename_i n hn
      split at hq
      · rename_i hst
        obtain ⟨e, he, hse, hst0⟩ := strideT_eq hst
        obtain ⟨k, rfl, hlt⟩ := idxA_eq hn
        obtain ⟨S', _, hri⟩ := lookO_sound h hj
        obtain ⟨S, _, hr⟩ := lookO_sound h hx
        have hr' : rel K w _ _ _ := hr
        rw [rel] at hr'
        rcases hr' with ⟨rfl, _⟩ | ⟨b, c, cur, e', ys, S2, h1, _⟩
        · simp at hlt
        injection h1 with h1
        have hx' : (execOp a.eval o).run C.P w = .ok (.value (.pointer (some ⟨b, 0 + n * szT C e, none⟩))) w := by
          simp only [execOp, ho, eval_ev, h1, int_of hri, Sem.run_bind, run_indexAt he (by rw [hse]; exact hst0) hlt]
          rfl
        have hz : ∃ y, xs[n]? = some y := ⟨_, List.getElem?_eq_getElem hlt⟩
        obtain ⟨y, hy⟩ := hz
        split at hq
        · rename_i tx
          split at hq
          · rename_i s p hg
            simp only [Option.some.injEq, Prod.mk.injEq] at hq
            obtain ⟨rfl, rfl⟩ := hq
            have hsub : subAt f s p = some (.arr st xs) := by simpa [lookO, look, hg] using hx
            refine Does.value hx' (.inr (.inl ⟨rfl, rfl, rfl, fun _ => ⟨b, _, rfl, ?_⟩⟩))
            have hv := h.slot tx
            unfold SlotR at hv
            rw [hg] at hv
            simp only [ev] at h1
            rcases hv _ hsub with ⟨rfl, k1, k2⟩ | ⟨_, b1, o1, k1, k2⟩
            · rw [k1, ← k2, h1]
              exact ⟨b, _, c, n, [], y, rfl, rfl, hy, by rw [At, hse, Nat.zero_add]; exact ⟨rfl, rfl⟩⟩
            · obtain ⟨x0, hx0, hxy⟩ := subAt_root hsub
              rw [h1] at k2
              exact AtS_join hx0 hxy k1 (by rw [At]; exact ⟨y, b, _, c, hy, k2, by rw [At, hse, Nat.zero_add]; exact ⟨rfl, rfl⟩⟩)
          · rename_i y' hg
            simp only [Option.some.injEq, Prod.mk.injEq] at hq
            obtain ⟨rfl, rfl⟩ := hq
            have hsub : y' = .arr st xs := by simpa [lookO, look, hg] using hx
            subst hsub
            refine Does.value hx' (.inr (.inl ⟨rfl, rfl, rfl, fun _ => ⟨b, _, rfl, ?_⟩⟩))
            simp only [ev] at h1
            rw [hg, h1]
            exact ⟨b, _, c, n, [], y, rfl, rfl, hy, by rw [At, hse, Nat.zero_add]; exact ⟨rfl, rfl⟩⟩
          · cases hq
        · cases hq
      · cases hq
    · cases hq
  · cases hq
end
end Go.E

namespace Go.E
open Go.RowKit

/-- A struct type whose comparison is that of its fields, each a plain value in one cell. -/
structure EqT (P : Program) (t : TypeId) : Prop where
  guard : P.eqGuardType P.depth t = false
  held : P.stoodInHeld t = false
  fields : ∀ fs, P.underlying t = some (.struct fs) → ∀ (i : Nat) (g : Field), fs.toList[i]? = some g → g.offset = i ∧ g.name ≠ "_"

section
variable {C : Cfg} {K : Kn} {w : World} {f : Frame} {a : Act} {O : Nat → Own} {fid : Nat} {call : CallF} {o : Oper} {cs : List Nat} {z : Slot}

theorem eqA_cases {x y : AV} {b : Bool} (h : eqA x y = some b) : (∃ k m n, x = .int k m ∧ y = .int k n ∧ b = (m == n)) ∨ (∃ m n, x = .bool m ∧ y = .bool n ∧ b = (m == n)) ∨ ∃ m n, x = .str m ∧ y = .str n ∧ b = (m.toList == n.toList) := by
  unfold eqA at h
  split at h
  · split at h
    · rename_i hk
      injection h with h
      subst hk
      exact .inl ⟨_, _, _, rfl, rfl, h.symm⟩
    · cases h
  · injection h with h; exact .inr (.inl ⟨_, _, rfl, rfl, h.symm⟩)
  · injection h with h; exact .inr (.inr ⟨_, _, rfl, rfl, h.symm⟩)
  · cases h

/-- A plain value's cells, and its type. -/
theorem flat1_cell {t : TypeId} {x : AV} {cs : List Value} {S : Own} (hf : flat1 C t x = true) (h : rel K w x cs S) :
    ∃ v, cs = [v] ∧ aggT C t = some false ∧ ((∃ k n k', x = .int k n ∧ v = .int k n ∧ C.P.underlying t = some (.int k')) ∨ (∃ b, x = .bool b ∧ v = .bool b ∧ C.P.underlying t = some .bool) ∨ ∃ s, x = .str s ∧ v = .string s ∧ C.P.underlying t = some .string) := by
  unfold flat1 at hf
  split at hf
  · split at hf
    · rename_i k hk
      rw [rel] at h
      exact ⟨_, h, by simp [aggT, hk], .inl ⟨_, _, _, rfl, rfl, hk⟩⟩
    · cases hf
  · split at hf
    · rename_i hk
      rw [rel] at h
      exact ⟨_, h, by simp [aggT, hk], .inr (.inl ⟨_, rfl, rfl, hk⟩)⟩
    · cases hf
  · split at hf
    · rename_i hk
      rw [rel] at h
      exact ⟨_, h, by simp [aggT, hk], .inr (.inr ⟨_, rfl, rfl, hk⟩)⟩
    · cases hf
  · cases hf
theorem eqA_cell {x y : AV} {b : Bool} {cs : List Value} {S : Own} (h : eqA x y = some b) (hr : rel K w y cs S) : (∃ k m n, x = .int k m ∧ cs = [.int k n] ∧ b = (m == n)) ∨ (∃ m n, x = .bool m ∧ cs = [.bool n] ∧ b = (m == n)) ∨ ∃ m n, x = .str m ∧ cs = [.string n] ∧ b = (m.toList == n.toList) := by
  rcases eqA_cases h with ⟨k, m, n, rfl, rfl, rfl⟩ | ⟨m, n, rfl, rfl, rfl⟩ | ⟨m, n, rfl, rfl, rfl⟩ <;> rw [rel] at hr
  · exact .inl ⟨k, m, n, rfl, hr, rfl⟩
  · exact .inr (.inl ⟨m, n, rfl, hr, rfl⟩)
  · exact .inr (.inr ⟨m, n, rfl, hr, rfl⟩)

theorem run_equalIn_flat {d : Nat} {t : TypeId} {x y : AV} {u v : Value} {b : Bool} {S S' : Own} (h : eqA x y = some b) (hf : flat1 C t x = true) (hx : rel K w x [u] S) (hy : rel K w y [v] S') :
    (Op.equalIn (d + 1) t u v).run C.P w = .ok b w := by
  obtain ⟨u', hu, _, hc⟩ := flat1_cell hf hx
  injection hu with hu
  subst hu
  rcases eqA_cell h hy with ⟨k, m, n, rfl, e, rfl⟩ | ⟨m, n, rfl, e, rfl⟩ | ⟨m, n, rfl, e, rfl⟩ <;> injection e with e <;> subst e
  · rcases hc with ⟨k1, n1, k', e1, rfl, hk⟩ | ⟨b, e1, _⟩ | ⟨s, e1, _⟩
    · injection e1 with e1 e2; subst e1 e2; exact run_equalIn_int w d t k k' m n hk
    · cases e1
    · cases e1
  · rcases hc with ⟨k1, n1, k', e1, _⟩ | ⟨b, e1, rfl, hk⟩ | ⟨s, e1, _⟩
    · cases e1
    · injection e1 with e1; subst e1; exact run_equalIn_bool' w d t m n hk
    · cases e1
  · rcases hc with ⟨k1, n1, k', e1, _⟩ | ⟨b, e1, _⟩ | ⟨s, e1, rfl, hk⟩
    · cases e1
    · cases e1
    · injection e1 with e1; subst e1; exact run_equalIn_string w d t m n hk

theorem run_eqFields {d : Nat} : ∀ {fs : List Field} {xs ys : List AV} {b : Bool} {pre pre' cs ds : List Value} {S S' : Own}, flatFits C fs xs = true → eqL xs ys = some b → relL K w xs cs S → relL K w ys ds S' → pre'.length = pre.length →
    (∀ (i : Nat) (g : Field), fs[i]? = some g → g.offset = pre.length + i ∧ g.name ≠ "_") → (Op.eqFields (d + 1) (pre ++ cs).toArray (pre' ++ ds).toArray fs).run C.P w = .ok b w
  | [], xs, ys, b, pre, pre', cs, ds, S, S', hf, he, hx, hy, hl, hg => by
    cases xs with
    | cons x xs => simp [flatFits] at hf
    | nil =>
      cases ys with
      | cons y ys => simp [eqL] at he
      | nil => simp [eqL] at he; subst he; simp [Op.eqFields]
  | g :: fs, xs, ys, b, pre, pre', cs, ds, S, S', hf, he, hx, hy, hl, hg => by
    cases xs with
    | nil => simp [flatFits] at hf
    | cons x xs =>
    cases ys with
    | nil => simp [eqL] at he
    | cons y ys =>
    simp only [flatFits, Bool.and_eq_true] at hf
    obtain ⟨hf1, hf2⟩ := hf
    rw [relL] at hx hy
    obtain ⟨c1, c2, S1, S2, rfl, _, _, _, hx1, hx2⟩ := hx
    obtain ⟨d1, d2, T1, T2, rfl, _, _, _, hy1, hy2⟩ := hy
    obtain ⟨u, rfl, hag, _⟩ := flat1_cell hf1 hx1
    obtain ⟨ho, hn⟩ := hg 0 g rfl
    rw [Nat.add_zero] at ho
    have key : ∀ b', eqA x y = some b' → ∃ v, d1 = [v] ∧ (part g.type (pre ++ ([u] ++ c2)).toArray g.offset).run C.P w = .ok u w ∧ (part g.type (pre' ++ (d1 ++ d2)).toArray g.offset).run C.P w = .ok v w ∧ (Op.equalIn (d + 1) g.type u v).run C.P w = .ok b' w := by
      intro b' hb'
      have hv : ∃ v, d1 = [v] := by
        rcases eqA_cell hb' hy1 with ⟨_, _, _, _, e, _⟩ | ⟨_, _, _, e, _⟩ | ⟨_, _, _, e, _⟩ <;> exact ⟨_, e⟩
      obtain ⟨v, rfl⟩ := hv
      refine ⟨v, rfl, ?_, ?_, run_equalIn_flat hb' hf1 hx1 hy1⟩
      · unfold part
        rw [Sem.run_bind, run_isAgg hag, Result.andThen_ok, ho]
        simp
      · unfold part
        rw [Sem.run_bind, run_isAgg hag, Result.andThen_ok, ho, ← hl]
        simp
    simp only [eqL] at he
    simp only [Op.eqFields, if_pos hn, Sem.run_bind]
    split at he
    · rename_i h1
      obtain ⟨v, rfl, k1, k2, k3⟩ := key true h1
      rw [k1, Result.andThen_ok, k2, Result.andThen_ok, k3, Result.andThen_ok]
      simp only [Bool.not_true, Bool.false_eq_true, if_false]
      have := run_eqFields (d := d) (pre := pre ++ [u]) (pre' := pre' ++ [v]) hf2 he hx2 hy2 (by simp [hl]) (fun i g' hg' => by
        obtain ⟨k4, k5⟩ := hg (i + 1) g' (by simpa using hg')
        exact ⟨by rw [k4]; simp; omega, k5⟩)
      simpa using this
    · rename_i h1
      obtain ⟨v, rfl, k1, k2, k3⟩ := key false h1
      injection he with he
      subst he
      rw [k1, Result.andThen_ok, k2, Result.andThen_ok, k3, Result.andThen_ok]
      simp
    · cases he

theorem run_equal_agg {t : TypeId} {xs ys : List AV} {cs ds : List Value} {S S' : Own} {b : Bool} (hE : ∀ t, C.eqT t = true → EqT C.P t) (hk : okAgg C t xs = true) (he : eqL xs ys = some b) (hx : relL K w xs cs S) (hy : relL K w ys ds S') :
    (Op.equal t (.agg cs.toArray) (.agg ds.toArray)).run C.P w = .ok b w := by
  unfold okAgg at hk
  simp only [Bool.and_eq_true] at hk
  obtain ⟨h1, h2⟩ := hk
  have hT := hE t h1
  split at h2
  · rename_i fs hu
    have hfo : C.P.fieldsOf t = fs := by simp [Program.fieldsOf, hu]
    unfold Op.equal
    rw [show Op.maxDepth = 9998 + 1 + 1 from rfl, run_equalIn_struct w _ t _ _ (by rw [hfo]; exact hu) hT.held, hfo]
    have := run_eqFields (d := 9998) (pre := []) (pre' := []) h2 he hx hy rfl (fun i g hg => by
      have := hT.fields fs hu i g hg
      simpa using this)
    simpa using this
  · cases h2
end
end Go.E

namespace Go.E
open Go.RowKit

section
variable {C : Cfg} {K : Kn} {w : World} {f : Frame} {a : Act} {O : Nat → Own} {fid : Nat} {call : CallF} {o : Oper} {cs : List Nat} {z : Slot}

theorem bitsA_run {op : BinOp} {k : IntKind} {m n r : Int} (h : bitsA op k m n = some r) : Op.intBits op k m n = pure (.int k r) := by
  unfold bitsA at h
  cases op <;> simp only [reduceCtorEq, Option.some.injEq] at h <;> subst h <;> rfl

theorem run_binOp (hE : ∀ t, C.eqT t = true → EqT C.P t) {op : BinOp} {t : TypeId} {x y : Operand} {A B R : AV} {u v : Value} {S S' : Own} (hx : relV K w A u S) (hy : relV K w B v S') (hk : okBin C t A = true) (hr : binA op A B = some R) :
    ∃ r, ((do eqGuard op t x y u v; binOp op t u v : Sem Value)).run C.P w = .ok r w ∧ relV K w R r Own.no ∧ isP R = true := by
  unfold binA at hr
  split at hr
  · rename_i k m k' n
    rw [int_of hx, int_of hy]
    rw [eqGuard_at_int]
    have pk : ∀ {k' : IntKind} {n' : Int}, isP (.int k' n') = true := rfl
    split at hr
    · split at hr
      · cases hr
      · rename_i hn
        injection hr with hr; subst hr
        exact ⟨_, by simp [binOp_shl, Op.shift, hn], of_int, rfl⟩
    · split at hr
      · cases hr
      · rename_i hn
        injection hr with hr; subst hr
        exact ⟨_, by simp [binOp_shr, Op.shift, hn], of_int, rfl⟩
    · rename_i h1 h2
      split at hr
      · cases hr
      · rename_i hkk
        have hkk : k = k' := by simpa using hkk
        subst hkk
        split at hr
        · injection hr with hr; subst hr; exact ⟨_, by simp [binOp_add, Op.intArith], of_int, rfl⟩
        · injection hr with hr; subst hr; exact ⟨_, by simp [binOp_sub, Op.intArith], of_int, rfl⟩
        · injection hr with hr; subst hr; exact ⟨_, by simp [binOp_mul, Op.intArith], of_int, rfl⟩
        · split at hr
          · cases hr
          · rename_i hn
            injection hr with hr; subst hr; exact ⟨_, by simp [binOp_quo, Op.intDiv, hn], of_int, rfl⟩
        · split at hr
          · cases hr
          · rename_i hn
            injection hr with hr; subst hr; exact ⟨_, by simp [binOp_rem, Op.intDiv, hn], of_int, rfl⟩
        · injection hr with hr; subst hr; exact ⟨_, by simp [binOp_eql], of_bool, rfl⟩
        · injection hr with hr; subst hr; exact ⟨_, by simp [binOp_neq], of_bool, rfl⟩
        · injection hr with hr; subst hr; exact ⟨_, by simp [binOp_lss], of_bool, rfl⟩
        · injection hr with hr; subst hr; exact ⟨_, by simp [binOp_leq], of_bool, rfl⟩
        · injection hr with hr; subst hr; exact ⟨_, by simp [binOp_gtr], of_bool, rfl⟩
        · injection hr with hr; subst hr; exact ⟨_, by simp [binOp_geq], of_bool, rfl⟩
        · split at hr
          · rename_i r hb
            injection hr with hr; subst hr
            have h3 := bitsA_run hb
            refine ⟨_, ?_, of_int, rfl⟩
            cases op <;> simp_all [binOp, bitsA]
          · cases hr
  · rename_i m n
    rw [str_of hx, str_of hy]
    rw [eqGuard_at_string]
    split at hr
    · split at hr
      · cases hr
      · rename_i hs
        injection hr with hr; subst hr
        refine ⟨_, ?_, of_str, rfl⟩
        simp only [binOp, Op.stringOp, IntKind.max_i64, hs, if_false]
        rfl
    all_goals first | (injection hr with hr; subst hr; refine ⟨_, ?_, of_bool, rfl⟩; simp only [binOp, Op.stringOp]; rfl) | cases hr
  · rename_i m n
    rw [bool_of hx, bool_of hy]
    simp only [okBin] at hk
    split at hk
    · rename_i hu
      rw [eqGuard_at_bool]
      split at hr
      · injection hr with hr; subst hr; exact ⟨_, by simp [run_eql_bool w t m n hu], of_bool, rfl⟩
      · injection hr with hr; subst hr; exact ⟨_, by simp [run_neq_bool w t m n hu], of_bool, rfl⟩
      · cases hr
    · cases hk
  · rename_i xs ys
    obtain ⟨cs, rfl, hx⟩ := hx
    obtain ⟨ds, rfl, hy⟩ := hy
    simp only [okBin] at hk
    have hk' := hk
    unfold okAgg at hk'
    simp only [Bool.and_eq_true] at hk'
    have hg := (hE t hk'.1).guard
    have hgd : ∀ op, (eqGuard op t x y (.agg cs.toArray) (.agg ds.toArray)).run C.P w = .ok () w := fun op => by cases op <;> simp [eqGuard, hg]
    split at hr
    · split at hr
      · rename_i b hb
        injection hr with hr; subst hr
        refine ⟨.bool b, ?_, of_bool, rfl⟩
        rw [Sem.run_bind, hgd, Result.andThen_ok]
        simp [binOp, run_equal_agg hE hk hb hx hy]
      · cases hr
    · split at hr
      · rename_i b hb
        injection hr with hr; subst hr
        refine ⟨.bool !b, ?_, of_bool, rfl⟩
        rw [Sem.run_bind, hgd, Result.andThen_ok]
        simp [binOp, run_equal_agg hE hk hb hx hy]
      · cases hr
    · cases hr
  · cases hr

theorem q_binOp (hE : ∀ t, C.eqT t = true → EqT C.P t) {op : BinOp} {t : TypeId} {x y : Operand} {pz' : _} (ho : o.op = .binOp op t x y pz') (h : FR K w f a.tmps O) (hs : Sat K w) (hq : quiet C fid call o f = some (cs, z)) : Does C.P o a w (Post K w f a.tmps O cs z) := by
  unfold quiet at hq
  rw [ho] at hq
  simp only at hq
  split at hq
  · rename_i A B hA hB
    split at hq
    · rename_i hk
      split at hq
      · rename_i R hR
        simp only [Option.some.injEq, Prod.mk.injEq] at hq
        obtain ⟨rfl, rfl⟩ := hq
        obtain ⟨S, _, hx⟩ := lookO_sound h hA
        obtain ⟨S', _, hy⟩ := lookO_sound h hB
        obtain ⟨r, h1, h2, _⟩ := run_binOp (x := x) (y := y) hE hx hy hk hR
        refine Does.value (v := r) (w' := w) ?_ (.flat hs h2 _)
        simp only [execOp, ho, eval_ev]
        rw [Sem.run_bind, h1]
        rfl
      · cases hq
    · cases hq
  · cases hq

theorem q_unOp {op : UnOp} {t : TypeId} {x : Operand} (ho : o.op = .unOp op t x) (h : FR K w f a.tmps O) (hs : Sat K w) (hq : quiet C fid call o f = some (cs, z)) : Does C.P o a w (Post K w f a.tmps O cs z) := by
  unfold quiet at hq
  rw [ho] at hq
  simp only at hq
  split at hq
  · rename_i A hA
    split at hq
    · rename_i R hR
      simp only [Option.some.injEq, Prod.mk.injEq] at hq
      obtain ⟨rfl, rfl⟩ := hq
      obtain ⟨S, _, hx⟩ := lookO_sound h hA
      have key : ∃ r, (Op.unary op (ev a.tmps x)).run C.P w = .ok r w ∧ relV K w R r Own.no := by
        unfold unA at hR
        split at hR
        · rw [int_of hx]
          split at hR
          · injection hR with hR; subst hR; exact ⟨_, by simp [Op.unary, Op.intArith], of_int⟩
          · split at hR
            · rename_i m hb
              injection hR with hR; subst hR
              exact ⟨_, by simp [Op.unary, bitsA_run hb], of_int⟩
            · cases hR
          · cases hR
        · rw [bool_of hx]
          split at hR
          · injection hR with hR; subst hR; exact ⟨_, by simp [Op.unary], of_bool⟩
          · cases hR
        · cases hR
      obtain ⟨r, h1, h2⟩ := key
      refine Does.value (v := r) (w' := w) ?_ (.flat hs h2 _)
      simp only [execOp, ho, eval_ev]
      rw [Sem.run_bind, h1]
      rfl
    · cases hq
  · cases hq

theorem q_convert {s d : TypeId} {x : Operand} (ho : o.op = .convert s d x) (h : FR K w f a.tmps O) (hs : Sat K w) (hq : quiet C fid call o f = some (cs, z)) : Does C.P o a w (Post K w f a.tmps O cs z) := by
  unfold quiet at hq
  rw [ho] at hq
  simp only at hq
  split at hq
  · rename_i s' k k' n hsu hdu hx
    simp only [Option.some.injEq, Prod.mk.injEq] at hq
    obtain ⟨rfl, rfl⟩ := hq
    obtain ⟨S, _, hr⟩ := lookO_sound h hx
    refine Does.value (v := .int k (k.wrap n)) (w' := w) ?_ (.flat hs of_int _)
    simp [execOp, ho, eval_ev, int_of hr, convert, run_underlying hsu, run_underlying hdu, Conv.intToInt]
  · rename_i s' str hsu hdu hx
    simp only [Option.some.injEq, Prod.mk.injEq] at hq
    obtain ⟨rfl, rfl⟩ := hq
    obtain ⟨S, _, hr⟩ := lookO_sound h hx
    refine Does.value (v := .string str) (w' := w) ?_ (.flat hs of_str _)
    simp [execOp, ho, eval_ev, str_of hr, convert, run_underlying hsu, run_underlying hdu]
  · cases hq

theorem q_index {t : TypeId} {x i : Operand} (ho : o.op = .index t x i) (h : FR K w f a.tmps O) (hs : Sat K w) (hq : quiet C fid call o f = some (cs, z)) : Does C.P o a w (Post K w f a.tmps O cs z) := by
  unfold quiet at hq
  rw [ho] at hq
  simp only at hq
  split at hq
  · rename_i s j hx hj hu
    split at hq
    · rename_i n hn
      split at hq
      · rename_i b hg
        simp only [Option.some.injEq, Prod.mk.injEq] at hq
        obtain ⟨rfl, rfl⟩ := hq
        obtain ⟨S, _, hr⟩ := lookO_sound h hx
        obtain ⟨S', _, hr'⟩ := lookO_sound h hj
        obtain ⟨k, rfl, hlt⟩ := idxA_eq hn
        refine Does.value (v := .int .u8 (b.toNat : Int)) (w' := w) ?_ (.flat hs of_int _)
        have h0 : (0 : Int) ≤ (n : Int) := by omega
        simp [execOp, ho, eval_ev, str_of hr, int_of hr', Instr.index, asIntOf, run_underlying hu, h0, hg]
      · cases hq
    · cases hq
  · cases hq
end
end Go.E
