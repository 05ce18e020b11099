/- The words of a symbolic walk: pieces of memory, frames of slots, operations, and what must be shown of a text; no condition. -/
import Derived.WalkKit
import Derived.Deep.QuietTactic
namespace Go.Proofs.Ytniobbepliknmaa.V
open Go
set_option linter.unusedVariables false
set_option linter.unusedSimpArgs false

/-! ### pieces of memory -/
abbrev PH := Nat → Option Obj
abbrev Ctx := List PH
def Disj (h h' : PH) : Prop := ∀ k, h k = none ∨ h' k = none
def one (b : Nat) (o : Obj) : PH := fun k => if k = b then some o else none
def emp : PH := fun _ => none
def uni (h h' : PH) : PH := fun k => match h k with | some o => some o | none => h' k
def upd (h : PH) (b : Nat) (o : Obj) : PH := fun k => if k = b then some o else h k
structure Sat (Γ : Ctx) (w : World) : Prop where
  holds : ∀ h ∈ Γ, ∀ k o, h k = some o → w.heap[k]? = some o
  apart : Γ.Pairwise Disj
/-- every block of h is a block of one of Γ, with the same content -/
def Cov (Γ : Ctx) (h : PH) : Prop := ∀ k o, h k = some o → ∃ g ∈ Γ, g k = some o
structure Ent (Γ Γ' : Ctx) : Prop where
  cov : ∀ h ∈ Γ', Cov Γ h
  apart : Γ.Pairwise Disj → Γ'.Pairwise Disj
def Up (Γ : Ctx) (Φ : Ctx → Prop) : Prop := Γ.Pairwise Disj → ∃ Γ', Ent Γ Γ' ∧ Φ Γ'

/-! ### frames -/
inductive Sl where
  | dead
  | v (e : Bool) (x : Value)
  | box (b : Nat) (T : TypeId) (cs : List Value)
  | ref (e : Bool) (s : Nat) (b off : Nat)
abbrev Fr := List (Nat × Sl)
def look : Fr → Nat → Sl
  | [], _ => .dead
  | (k, x) :: r, t => bif k == t then x else look r t
def proj (φ : Fr) : List Nat → Fr
  | [] => []
  | t :: L => (t, look φ t) :: proj φ L
def looks (φ : Fr) : List Nat → List Sl
  | [] => []
  | t :: L => look φ t :: looks φ L
def zipS : List Nat → List Sl → Fr
  | t :: L, x :: r => (t, x) :: zipS L r
  | _, _ => []
def updBox : Fr → Nat → List Value → Fr
  | [], _, _ => []
  | (k, x) :: r, t, cs => bif k == t then (match x with | .box b T _ => (k, .box b T cs) :: r | x => (k, x) :: r) else (k, x) :: updBox r t cs
/-- a slot's value, and whether it is there -/
def Sl.val : Sl → Bool × Value
  | .dead => (false, undef)
  | .v e x => (e, x)
  | .box b _ _ => (true, .pointer (some ⟨b, 0, none⟩))
  | .ref e _ b off => (e, .pointer (some ⟨b, off, none⟩))
def val (φ : Fr) : Operand → Bool × Value
  | .tmp t => (look φ t).val
  | .const x => (true, x)
  | .global g => (true, .pointer (some ⟨g, 0, none⟩))
  | .func f => (true, .func (.func f) #[] #[])
def vals (φ : Fr) : List Operand → List Value
  | [] => []
  | x :: r => (val φ x).2 :: vals φ r
def allOn (φ : Fr) (e : Bool) : List Operand → Prop
  | [] => True
  | x :: r => (e = true → (val φ x).1 = true) ∧ allOn φ e r
def slotOf (φ : Fr) (e : Bool) : Operand → Sl
  | .tmp t => match look φ t with
    | .box b _ _ => .ref e t b 0
    | .ref _ s b off => .ref e s b off
    | x => .v e x.val.2
  | x => .v e (val φ x).2

/-! ### operations -/
/-- operations that compute a value out of values -/
inductive Fk where
  | min | max | cat | rune
  | bits (op : BinOp)
/-- operations that go by the meaning of their text -/
inductive Qk where
  | bin (op : BinOp) (t : TypeId) (x y : Operand)
  | cnv (s d : TypeId)
  | bi (b : Nat) (ats : List TypeId)
  | slc (t : TypeId) (lo hi mx : Bool)
  | index (t : TypeId)
  | look (t : TypeId) (ok : Bool)
  | upd (t : TypeId)
  | mkmap (t : TypeId)
  | rng (t : TypeId)
  | next (str : Bool)
  | mkI (t : TypeId)
inductive SOp where
  | mv (x : Operand)
  | pick (c a b : Operand)
  | ibin (op : BinOp) (x y : Operand)
  | idiv (op : BinOp) (x y : Operand)
  | ishift (op : BinOp) (x y : Operand)
  | sbin (op : BinOp) (x y : Operand)
  | beq (neg : Bool) (x y : Operand)
  | nilq (kd : Nat) (neg : Bool) (x y : Operand)
  | un (op : UnOp) (x : Operand)
  | conv (k : IntKind) (x : Operand)
  | box (loc : Bool) (T : TypeId) (x : Operand)
  | alloc (loc : Bool) (T : TypeId) (z : Value)
  | build (t : TypeId) (z : List Value) (parts : List (Nat × Nat × Operand))
  | buildS (e : TypeId) (len : Nat) (z : List Value) (parts : List (Nat × Nat × Operand))
  | load (agg : Bool) (n : Nat) (x : Operand)
  | store (n : Nat) (x v : Operand)
  | fld (off : Nat) (x : Operand)
  | nilCheck (x : Operand)
  | idx (sz : Nat) (x i : Operand)
  | idxA (len sz : Nat) (x i : Operand)
  | field (agg : Bool) (off n : Nat) (x : Operand)
  | slc (sz : Nat) (x : Operand) (lo hi mx : Option Operand)
  | len (str : Bool) (x : Operand)
  | append (t e : TypeId) (sz bytes : Nat) (z : Value) (s x : Operand)
  | appz (t u e : TypeId) (sz bytes : Nat) (z : Value) (s x : Operand)
  | mk (e : TypeId) (sz bytes : Nat) (z : Value) (n c : Operand)
  | call (f : Operand) (args : List Operand)
  | extract (i : Nat) (x : Operand)
  | mkFunc (fn : FuncId) (caps : List Operand)
  | fn (c : Fk) (xs : List Operand)
  | q (c : Qk) (xs : List Operand)
  | a (c : Qk) (xs : List Operand)
  | n (c : Qk) (xs : List Operand)
  | dead
structure SOper where
  dst : Option Nat
  guard : Option (Nat × Bool)
  op : SOp

/-- operations whose order is drawn, and some of which stand in either order: q: one that only reads; alt: either this one comes first of all that act, or one of those behind it -/
inductive DT (α : Type) where
  | fin
  | q (x : α) (r : DT α)
  | alt (e : α) (r s : DT α)
  | no
inductive Stmt where
  | tree (t : DT (Bool × SOper)) (L : List Nat)
  | region (ops : List SOper) (L : List Nat)
  | quiet (ops : List SOper) (L : List Nat)
  | drawn (ops : List (Bool × SOper)) (L : List Nat)
  | seq (a b : Stmt)
  | join (a b : Stmt) (M N : List Nat)
  | cond (c : Operand) (a b : Stmt)
  | block (id : Nat) (a : Stmt)
  | loop (a : Stmt) (M N : List Nat)
  | exit (id : Nat)
  | ret
  | skip
  | bad

structure Post where
  nrm : Fr → Ctx → Prop
  ret : Fr → Ctx → Prop
  ex : Nat → Fr → Ctx → Prop

/-! ### what a call does -/
structure Done (Γr Γm Γ' : Ctx) (w w' : World) : Prop where
  sat : Sat (Γ' ++ Γr) w'
  own : ∀ h ∈ Γ', ∀ k, h k ≠ none → w.heap.size ≤ k ∨ ∃ g ∈ Γm, g k ≠ none
  os : w'.os = w.os
  tape : w'.tape = w.tape
  output : w'.output = w.output
  size : w.heap.size ≤ w'.heap.size
  same : ∀ k, k < w.heap.size → (∀ g ∈ Γm, g k = none) → w'.heap[k]? = w.heap[k]?
def isFn (P : Program) (f : FuncId) : Bool := match P.funcs[f]? with
  | some fn => fn.body.isSome && !(fn.name == "runtime.NumGoroutine")
  | none => false
/-- Called with these values, where the heaps Γr (to be read) and Γm (to be changed) lie in memory: returns v, and the heaps Γ' in the place of Γm. -/
structure Ret (P : Program) (f : FuncId) (args : List Value) (Γr Γm : Ctx) (R : Value → Ctx → Prop) : Prop where
  fn : isFn P f = true
  calls : ∀ w, Sat (Γm ++ Γr) w → Calls P f args.toArray w (fun e w' => ∃ v Γ', e = .returned v ∧ R v Γ' ∧ Done Γr Γm Γ' w w')

/-! ### values of operations -/
def fnV : Fk → List Value → Option Value
  | .min, [.int k a, .int k' b] => bif k == k' then some (.int k (if b < a then b else a)) else none
  | .max, [.int k a, .int k' b] => bif k == k' then some (.int k (if a < b then b else a)) else none
  | .cat, [.string a, .string b] => if a.size + b.size ≤ 9223372036854775807 then some (.string (a ++ b)) else none
  | .rune, [.int _ n] => some (.string (Utf8.encode n))
  | .bits .and, [.int k a, .int k' b] => bif k == k' then some (.int k (k.wrap (BitVec.ofInt k.bits a &&& BitVec.ofInt k.bits b).toNat)) else none
  | .bits .or, [.int k a, .int k' b] => bif k == k' then some (.int k (k.wrap (BitVec.ofInt k.bits a ||| BitVec.ofInt k.bits b).toNat)) else none
  | .bits .xor, [.int k a, .int k' b] => bif k == k' then some (.int k (k.wrap (BitVec.ofInt k.bits a ^^^ BitVec.ofInt k.bits b).toNat)) else none
  | .bits .andNot, [.int k a, .int k' b] => bif k == k' then some (.int k (k.wrap (BitVec.ofInt k.bits a &&& ~~~BitVec.ofInt k.bits b).toNat)) else none
  | _, _ => none
def popO : Bool → List Value → Option Value × List Value
  | true, v :: r => (some v, r)
  | _, r => (none, r)
def qsem : Qk → List Value → Sem Value
  | .bin op t ox oy, [x, y] => do eqGuard op t ox oy x y; binOp op t x y
  | .cnv s d, [x] => convert s d x
  | .bi 0 ats, vs => Builtin.cap_ ats.toArray 0 vs.toArray
  | .bi 1 ats, vs => Builtin.clear_ ats.toArray 0 vs.toArray
  | .bi 2 ats, vs => Builtin.copy_ ats.toArray 0 vs.toArray
  | .bi 3 ats, vs => Builtin.delete_ ats.toArray 0 vs.toArray
  | .bi 4 ats, vs => Builtin.len_ ats.toArray 0 vs.toArray
  | .bi 5 ats, vs => Builtin.min_ ats.toArray 0 vs.toArray
  | .bi 6 ats, vs => Builtin.max_ ats.toArray 0 vs.toArray
  | .slc t lo hi mx, x :: vs => Instr.sliceAt t x (popO lo vs).1 (popO hi (popO lo vs).2).1 (popO mx (popO hi (popO lo vs).2).2).1
  | .index t, [x, i] => Instr.index t x i
  | .look t ok, [x, i] => Instr.lookup t x i ok
  | .upd t, [m, k, x] => do Instr.mapUpdate t m k x; pure undef
  | .mkmap t, vs => Instr.makeMap t (vs.head?)
  | .rng t, [x] => Instr.range t x
  | .next str, [it] => Instr.next it str 0
  | .mkI t, [x] => Instr.makeInterface t x
  | _, _ => stuck "V: no such operation"
def Holds (Γ : Ctx) (w : World) : Prop := ∀ h ∈ Γ, ∀ k o, h k = some o → w.heap[k]? = some o
/-- what an operation that only reads answers wherever these heaps lie in memory -/
def QR (P : Program) (c : Qk) (vs : List Value) (Γ : Ctx) (r : Value) : Prop := ∀ w, Holds Γ w → (qsem c vs).run P w = .ok r w
def setBlk (w : World) (b : Nat) (q : Obj) : World := { w with heap := w.heap.setIfInBounds b q }
def ibinV : BinOp → IntKind → Int → Int → Value
  | .add, k, a, b => .int k (k.wrap (a + b))
  | .sub, k, a, b => .int k (k.wrap (a - b))
  | .mul, k, a, b => .int k (k.wrap (a * b))
  | .eql, _, a, b => .bool (decide (a = b))
  | .neq, _, a, b => .bool (!decide (a = b))
  | .lss, _, a, b => .bool (decide (a < b))
  | .leq, _, a, b => .bool (decide (a ≤ b))
  | .gtr, _, a, b => .bool (decide (b < a))
  | .geq, _, a, b => .bool (decide (b ≤ a))
  | _, _, _, _ => undef
def ibinOk : BinOp → Bool
  | .add | .sub | .mul | .eql | .neq | .lss | .leq | .gtr | .geq => true
  | _ => false
def idivV : BinOp → IntKind → Int → Int → Value
  | .quo, k, a, b => .int k (k.wrap (a.tdiv b))
  | .rem, k, a, b => .int k (a.tmod b)
  | _, _, _, _ => undef
def ishiftV : BinOp → IntKind → Int → Int → Value
  | .shl, k, a, b => .int k (k.wrap (a * 2 ^ (min b.toNat k.bits)))
  | .shr, k, a, b => .int k (a.fdiv (2 ^ (min b.toNat k.bits)))
  | _, _, _, _ => undef
def nilV : Nat → Value → Option Bool
  | 0, .slice a _ _ => some a.isNone
  | 1, .pointer a => some a.isNone
  | 2, .map r => some r.isNone
  | 3, .nilFunc => some true
  | 3, .func _ _ _ => some false
  | _, _ => none
def isNil : Nat → Value → Bool
  | 0, .slice none _ _ => true
  | 1, .pointer none => true
  | 2, .map none => true
  | 3, .nilFunc => true
  | _, _ => false
def zerosL (z : List Value) : Nat → List Value
  | 0 => []
  | n + 1 => z ++ zerosL z n
def mkv (agg : Bool) (vs : List Value) : Value := bif agg then .agg vs.toArray else vs.headD undef
/-- the cells of a value -/
def cellsV : Value → List Value
  | .agg cs => cs.toList
  | x => [x]
def fillL (z : List Value) : List (Nat × Nat × Value) → List Value
  | [] => z
  | (off, n, x) :: r => fillL (z.take off ++ cellsV x ++ z.drop (off + n)) r
def fits : List (Nat × Nat × Value) → Prop
  | [] => True
  | (_, n, x) :: r => (cellsV x).length = n ∧ fits r
def partVals (φ : Fr) : List (Nat × Nat × Operand) → List (Nat × Nat × Value)
  | [] => []
  | (off, n, x) :: r => (off, n, (val φ x).2) :: partVals φ r
def partOn (φ : Fr) (e : Bool) : List (Nat × Nat × Operand) → Prop
  | [] => True
  | (_, _, x) :: r => (e = true → (val φ x).1 = true) ∧ partOn φ e r

/-- the cells vs lie at this address in one of the heaps -/
def Cells (Γ : Ctx) (b o : Nat) (vs : List Value) : Prop :=
  ∃ h ∈ Γ, ∃ cells T fr, h b = some (.cells cells T fr) ∧ ∀ j, j < vs.length → cells[o + j]? = vs[j]?

/-! ### what must be shown of operations -/
def put (φ : Fr) (d : Option Nat) (x : Sl) : Fr := match d with | some t => (t, x) :: φ | none => φ
def gd (φ : Fr) : Option (Nat × Bool) → Option Bool
  | none => some true
  | some (t, want) => match look φ t with
    | .v ge (.bool b) => some (ge && (b == want))
    | _ => none
def pickV (c : Bool) (x y : Value) : Value := match x, y with
  | .bool p, .bool q => .bool (bif c then p else q)
  | x, y => bif c then x else y
def unV : UnOp → Value → Option Value
  | .not, .bool b => some (.bool (!b))
  | .neg, .int k n => some (.int k (k.wrap (0 - n)))
  | _, _ => none
def sbinV : BinOp → ByteArray → ByteArray → Option Value
  | .eql, a, b => some (.bool (a.toList == b.toList))
  | .neq, a, b => some (.bool (!(a.toList == b.toList)))
  | _, _, _ => none
def lenV : Bool → Value → Option Int
  | false, .slice _ n _ => some n
  | true, .string s => some s.size
  | _, _ => none
/-- the operations that make or change nothing -/
def pureV (φ : Fr) (e : Bool) : SOp → (Sl → Prop) → Prop
  | .mv x, k => (e = true → (val φ x).1 = true) ∧ k (slotOf φ e x)
  | .pick c a b, k => match val φ c with
    | (ec, .bool cb) => (e = true → ec = true) ∧ (e = true → cb = true → (val φ a).1 = true) ∧ (e = true → cb = false → (val φ b).1 = true) ∧ k (.v e (pickV cb (val φ a).2 (val φ b).2))
    | _ => False
  | .ibin op x y, k => match val φ x, val φ y with
    | (ex, .int kx a), (ey, .int ky b) => ibinOk op = true ∧ kx = ky ∧ (e = true → ex = true) ∧ (e = true → ey = true) ∧ k (.v e (ibinV op kx a b))
    | _, _ => False
  | .sbin op x y, k => match val φ x, val φ y with
    | (ex, .string a), (ey, .string b) => ∃ r, sbinV op a b = some r ∧ (e = true → ex = true) ∧ (e = true → ey = true) ∧ k (.v e r)
    | _, _ => False
  | .beq neg x y, k => match val φ x, val φ y with
    | (ex, .bool a), (ey, .bool b) => (e = true → ex = true) ∧ (e = true → ey = true) ∧ k (.v e (.bool ((a == b) != neg)))
    | _, _ => False
  | .nilq kd neg x y, k => isNil kd (val φ y).2 = true ∧ (e = true → (val φ y).1 = true) ∧ ∃ r, nilV kd (val φ x).2 = some r ∧ (e = true → (val φ x).1 = true) ∧ k (.v e (.bool (r != neg)))
  | .un op x, k => ∃ r, unV op (val φ x).2 = some r ∧ (e = true → (val φ x).1 = true) ∧ k (.v e r)
  | .conv kd x, k => match val φ x with
    | (ex, .int _ n) => (e = true → ex = true) ∧ k (.v e (.int kd (kd.wrap n)))
    | _ => False
  | .fld off x, k => match slotOf φ e x with
    | .ref _ s b o => (e = true → (val φ x).1 = true) ∧ k (.ref e s b (o + off))
    | .v _ (.pointer (some ⟨b, o, none⟩)) => (e = true → (val φ x).1 = true) ∧ k (.v e (.pointer (some ⟨b, o + off, none⟩)))
    | _ => False
  | .nilCheck x, k => match slotOf φ e x with
    | .ref _ s b o => (e = true → (val φ x).1 = true) ∧ k (.ref e s b o)
    | .v _ (.pointer (some a)) => (e = true → (val φ x).1 = true) ∧ k (.v e (.pointer (some a)))
    | .v _ (.func (.func f) c1 c2) => (e = true → (val φ x).1 = true) ∧ k (.v e (.func (.func f) c1 c2))
    | _ => False
  | .field agg off n x, k => match val φ x with
    | (ex, .agg cs) => (e = true → ex = true) ∧ off + n ≤ cs.size ∧ (agg = false → n = 1) ∧ k (.v e (mkv agg ((cs.toList.drop off).take n)))
    | _ => False
  | .len str x, k => ∃ n, lenV str (val φ x).2 = some n ∧ (e = true → (val φ x).1 = true) ∧ k (.v e (.int .i64 n))
  | .extract i x, k => match val φ x with
    | (ex, .tuple vs) => ∃ r, vs.toList[i]? = some r ∧ (e = true → ex = true) ∧ k (.v e r)
    | _ => False
  | .mkFunc fn caps, k => allOn φ e caps ∧ k (.v e (.func (.func fn) #[] (vals φ caps).toArray))
  | .build t z parts, k => partOn φ e parts ∧ fits (partVals φ parts) ∧ k (.v e (.agg (fillL z (partVals φ parts)).toArray))
  | .fn c xs, k => ∃ r, (e = true → allOn φ true xs ∧ fnV c (vals φ xs) = some r) ∧ k (.v e r)
  | _, _ => False
def isPure : SOp → Bool
  | .mv _ | .pick .. | .ibin .. | .sbin .. | .beq .. | .nilq .. | .un .. | .conv .. | .fld .. | .nilCheck _ | .field .. | .len _ _ | .extract .. | .mkFunc .. | .build .. | .fn .. => true
  | _ => false
def setC (cs : List Value) (off n : Nat) (x : Value) : List Value := cs.take off ++ cellsV x ++ cs.drop (off + n)
/-- the block that an append to v may write -/
def rowBlk : Value → Option Nat
  | .slice (some a) _ (_ + 1) => some a.block
  | _ => none
/-- an owned row: a slice of a block of this heap, with all of its capacity -/
def Row (h : PH) (e : TypeId) (sz : Nat) (v : Value) (n : Nat) (xs : List Value) : Prop :=
  xs.length = n * sz ∧ ((n = 0 ∧ ∃ A, v = .slice A 0 0) ∨
  ∃ b o cap cur, v = .slice (some ⟨b, o, none⟩) n (cap + 1) ∧ n ≤ cap + 1 ∧ cap + 1 ≤ maxLen ∧ h b = some (.cells cur e (0, 0)) ∧ o + (cap + 1) * sz ≤ cur.size ∧ (cur.toList.drop o).take (n * sz) = xs)
/-- all but the block that v is a row of is as it was; where there is room the row stays where it is -/
def KeptBut (v v' : Value) (h h' : PH) : Prop := (∀ k, rowBlk v ≠ some k → h k ≠ none → h' k = h k) ∧ ∀ A n c A' m c', v = .slice A n c → v' = .slice A' m c' → (m ≤ c → A' = A ∧ c' = c) ∧ (c < m → ∀ b, rowBlk v' = some b → h b = none)
def one' (xs : List Value) : Prop := ∀ u ∈ xs, u.oneCell' = true

def bnd (φ : Fr) (x : Option Operand) (l d : Nat) : Prop := match x with
  | none => l = d
  | some y => (val φ y).1 = true ∧ ∃ ki, (val φ y).2 = .int ki (l : Nat)
/-- operations that ask something of memory, or may fail -/
def askV (P : Program) (Γ : Ctx) (φ : Fr) (e : Bool) : SOp → (Sl → Prop) → Prop
  | .idiv op x y, k => match val φ x, val φ y with
    | (ex, .int kx a), (ey, .int ky b) => (op = .quo ∨ op = .rem) ∧ kx = ky ∧ (e = true → ex = true ∧ ey = true ∧ b ≠ 0) ∧ k (.v e (idivV op kx a b))
    | _, _ => False
  | .ishift op x y, k => match val φ x, val φ y with
    | (ex, .int kx a), (ey, .int ky b) => (op = .shl ∨ op = .shr) ∧ (e = true → ex = true ∧ ey = true ∧ 0 ≤ b) ∧ k (.v e (ishiftV op kx a b))
    | _, _ => False
  | .idx sz x i, k => match val φ x, val φ i with
    | (ex, .slice A n cap), (ei, .int ki j) => ∃ b o, (e = true → ex = true ∧ ei = true ∧ A = some ⟨b, o, none⟩ ∧ 0 ≤ j ∧ j < n) ∧ k (.v e (.pointer (some ⟨b, o + j.toNat * sz, none⟩)))
    | _, _ => False
  | .idxA len sz x i, k => match slotOf φ e x, val φ i with
    | .ref _ s b o, (ei, .int ki j) => (e = true → (val φ x).1 = true ∧ ei = true ∧ 0 ≤ j ∧ j < len) ∧ k (.ref e s b (o + j.toNat * sz))
    | .v _ (.pointer (some ⟨b, o, none⟩)), (ei, .int ki j) => (e = true → (val φ x).1 = true ∧ ei = true ∧ 0 ≤ j ∧ j < len) ∧ k (.v e (.pointer (some ⟨b, o + j.toNat * sz, none⟩)))
    | _, _ => False
  | .load agg n x, k => match slotOf φ e x with
    | .ref _ s b o => match look φ s with
      | .box b' T cs => b' = b ∧ (e = true → (val φ x).1 = true) ∧ o + n ≤ cs.length ∧ (agg = false → n = 1) ∧ k (.v e (mkv agg ((cs.drop o).take n)))
      | _ => False
    | .v _ (.pointer (some ⟨b, o, none⟩)) => (agg = false → n = 1) ∧ ∃ vs, vs.length = n ∧ (e = true → (val φ x).1 = true ∧ Cells Γ b o vs) ∧ k (.v e (mkv agg vs))
    | _ => False
  | .slc sz x lo hi none, k => match val φ x with
    | (ex, .slice A n cap) => ∃ l h, (e = true → ex = true ∧ bnd φ lo l 0 ∧ bnd φ hi h n ∧ l ≤ h ∧ h ≤ cap) ∧
        k (.v e (.slice (if cap = l then A else A.map (·.add (l * sz))) (h - l) (cap - l)))
    | _ => False
  | .q c xs, k => ∃ r, (e = true → allOn φ true xs ∧ QR P c (vals φ xs) Γ r) ∧ k (.v e r)
  | _, _ => False
def isAsk : SOp → Bool
  | .idiv .. | .ishift .. | .idx .. | .idxA .. | .load .. | .slc _ _ _ _ none | .q .. => true
  | _ => false

def CallVC (P : Program) (Γr : Ctx) (f : FuncId) (args : List Value) (Γ : Ctx) (k : Value → Ctx → Prop) : Prop :=
  ∃ Γr1 Γm Γf R, Ret P f args Γr1 Γm R ∧ Γ.Perm (Γm ++ Γf) ∧ Γr1.Sublist (Γf ++ Γr) ∧ ∀ v Γ', R v Γ' → k v (Γ' ++ Γf)

/-- operations that make or change memory, and calls -/
def effV (P : Program) (Γr : Ctx) (φ : Fr) (Γ : Ctx) (d : Option Nat) : SOp → (Fr → Ctx → Prop) → Prop
  | .box true T x, k => (val φ x).1 = true ∧ one' (cellsV (val φ x).2) ∧ ∀ b, k (put φ d (.box b T (cellsV (val φ x).2))) Γ
  | .box false T x, k => (val φ x).1 = true ∧ one' (cellsV (val φ x).2) ∧ ∀ b, k (put φ d (.v true (.pointer (some ⟨b, 0, none⟩)))) (one b (.cells (cellsV (val φ x).2).toArray T) :: Γ)
  | .alloc true T z, k => ∀ b, k (put φ d (.box b T (cellsV z))) Γ
  | .alloc false T z, k => ∀ b, k (put φ d (.v true (.pointer (some ⟨b, 0, none⟩)))) (one b (.cells (cellsV z).toArray T) :: Γ)
  | .buildS t n z parts, k => partOn φ true parts ∧ fits (partVals φ parts) ∧ ∀ b, k (put φ d (.v true (.slice (some ⟨b, 0, none⟩) n n))) (one b (.cells (fillL z (partVals φ parts)).toArray t) :: Γ)
  | .store n x y, k => (val φ x).1 = true ∧ (val φ y).1 = true ∧ (cellsV (val φ y).2).length = n ∧ one' (cellsV (val φ y).2) ∧ (match slotOf φ true x with
    | .ref _ s b o => (match look φ s with
      | .box b' T cs => b' = b ∧ o + n ≤ cs.length ∧ k (updBox φ s (setC cs o n (val φ y).2)) Γ
      | _ => False)
    | .v _ (.pointer (some ⟨b, o, none⟩)) => ∃ i h cells T, Γ[i]? = some h ∧ h b = some (.cells cells T (0, 0)) ∧ o + n ≤ cells.size ∧
        k φ (Γ.set i (upd h b (.cells (setC cells.toList o n (val φ y).2).toArray T)))
    | _ => False)
  | .append t e sz bytes z s x, k => (val φ s).1 = true ∧ (val φ x).1 = true ∧ (match (val φ x).2 with
    | .slice A m c => ∃ i h n xs news, Γ[i]? = some h ∧ Row h e sz (val φ s).2 n xs ∧ news.length = m * sz ∧ one' news ∧ (m = 0 ∨ ∃ b o, A = some ⟨b, o, none⟩ ∧ Cells (Γ ++ Γr) b o news) ∧
        (n + m) * bytes ≤ 140737488355328 ∧ n + m ≤ maxLen ∧
        ∀ v' h', Row h' e sz v' (n + m) (xs ++ news) → Row h' e sz (val φ s).2 n xs → KeptBut (val φ s).2 v' h h' → k (put φ d (.v true v')) (Γ.set i h')
    | _ => False)
  | .appz t u e sz bytes z s x, k => (val φ s).1 = true ∧ (val φ x).1 = true ∧ (match (val φ s).2, (val φ x).2 with
    | .slice A 0 0, .int .i64 m => 0 ≤ m ∧ m * bytes ≤ 140737488355328 ∧ m ≤ maxLen ∧ ∃ i h, Γ[i]? = some h ∧
        ∀ v' h', Row h' e sz v' m.toNat (zerosL (cellsV z) m.toNat) → KeptBut (.slice A 0 0) v' h h' → k (put φ d (.v true v')) (Γ.set i h')
    | _, _ => False)
  | .mk e sz bytes z n c, k => (match val φ n, val φ c with
    | (true, .int .i64 m), (true, .int .i64 p) => 0 ≤ m ∧ m ≤ p ∧ p * bytes ≤ 140737488355328 ∧ ∀ b, k (put φ d (.v true (.slice (some ⟨b, 0, none⟩) m.toNat p.toNat))) (one b (.cells (zerosL (cellsV z) p.toNat).toArray e) :: Γ)
    | _, _ => False)
  | .call f args, k => allOn φ true args ∧ (match val φ f with
    | (true, .func (.func g) c1 c2) => CallVC P Γr g (c1.toList ++ vals φ args ++ c2.toList) Γ (fun v Γ' => k (put φ d (.v true v)) Γ')
    | _ => False)
  | .a c xs, k => allOn φ true xs ∧ ∀ w, Holds (Γ ++ Γr) w → ∃ v w' m, (qsem c (vals φ xs)).run P w = .ok v w' ∧
      ((w' = w.drewN m ∧ k (put φ d (.v true v)) Γ) ∨ ∃ i h b p q, Γ[i]? = some h ∧ h b = some p ∧ w' = setBlk (w.drewN m) b q ∧ k (put φ d (.v true v)) (Γ.set i (upd h b q)))
  | .n c xs, k => allOn φ true xs ∧ ∀ w, Holds (Γ ++ Γr) w → ∃ v q, (qsem c (vals φ xs)).run P w = .ok v (w.alloc q) ∧ k (put φ d (.v true v)) (one w.heap.size q :: Γ)
  | _, _ => False

def vcOps (P : Program) (Γr : Ctx) : List SOper → Fr → Ctx → (Fr → Ctx → Prop) → Prop
  | [], φ, Γ, K => K φ Γ
  | ⟨d, none, op⟩ :: r, φ, Γ, K =>
    bif isPure op then pureV φ true op (fun x => vcOps P Γr r (put φ d x) Γ K)
    else bif isAsk op then askV P (Γ ++ Γr) φ true op (fun x => vcOps P Γr r (put φ d x) Γ K)
    else effV P Γr φ Γ d op (fun φ' Γ' => vcOps P Γr r φ' Γ' K)
  | ⟨d, some g, op⟩ :: r, φ, Γ, K => match gd φ (some g) with
    | some e =>
      bif isPure op then pureV φ e op (fun x => vcOps P Γr r (put φ d x) Γ K)
      else bif isAsk op then askV P (Γ ++ Γr) φ e op (fun x => vcOps P Γr r (put φ d x) Γ K)
      else (e = true → effV P Γr φ Γ d op (fun φ' Γ' => vcOps P Γr r φ' Γ' K)) ∧ (e = false → ∃ x, vcOps P Γr r (put φ d (.v false x)) Γ K)
    | none => False

/-- one operation; an early one asks only of what is not changed -/
def ctxOf : Bool → Ctx → Ctx → Ctx
  | true, _, Γr => Γr
  | false, Γ, Γr => Γ ++ Γr
def vc1 (P : Program) (Γr : Ctx) (early : Bool) (o : SOper) (φ : Fr) (Γ : Ctx) (K : Fr → Ctx → Prop) : Prop := match gd φ o.guard with
  | some e =>
    bif isPure o.op then pureV φ e o.op (fun x => K (put φ o.dst x) Γ)
    else bif isAsk o.op then askV P (ctxOf early Γ Γr) φ e o.op (fun x => K (put φ o.dst x) Γ)
    else (e = true → effV P Γr φ Γ o.dst o.op K) ∧ (e = false → ∃ x, K (put φ o.dst (.v false x)) Γ)
  | none => False
def vcD (P : Program) (Γr : Ctx) : List (Bool × SOper) → Fr → Ctx → (Fr → Ctx → Prop) → Prop
  | [], φ, Γ, K => K φ Γ
  | x :: r, φ, Γ, K => vc1 P Γr x.1 x.2 φ Γ (fun φ' Γ' => vcD P Γr r φ' Γ' K)
def vcT (P : Program) (Γr : Ctx) : DT (Bool × SOper) → Fr → Ctx → (Fr → Ctx → Prop) → Prop
  | .fin, φ, Γ, K => K φ Γ
  | .q x r, φ, Γ, K => vc1 P Γr x.1 x.2 φ Γ (fun φ' Γ' => vcT P Γr r φ' Γ' K)
  | .alt e r s, φ, Γ, K => vc1 P Γr e.1 e.2 φ Γ (fun φ' Γ' => vcT P Γr r φ' Γ' K) ∧ vcT P Γr s φ Γ K
  | .no, _, _, _ => True
def isBox : Sl → Bool
  | .box _ _ _ => true
  | _ => false
/-- what these operations put something into is no box -/
def noBoxes (φ : Fr) : List (Bool × SOper) → Prop
  | [] => True
  | x :: r => (match x.2.dst with | some d => isBox (look φ d) = false | none => True) ∧ noBoxes φ r

def noBoxesT (φ : Fr) : DT (Bool × SOper) → Prop
  | .q x r => (match x.2.dst with | some d => isBox (look φ d) = false | none => True) ∧ noBoxesT φ r
  | .alt e r s => (match e.2.dst with | some d => isBox (look φ d) = false | none => True) ∧ noBoxesT φ r
  | _ => True
def anyEarly : List (Bool × SOper) → Bool
  | [] => false
  | x :: r => x.1 || anyEarly r

/-! ### which slots an operation looks at -/
def rdO : Operand → List Nat
  | .tmp t => [t]
  | _ => []
def rdL : List Operand → List Nat
  | [] => []
  | x :: r => rdO x ++ rdL r
def rdP : List (Nat × Nat × Operand) → List Nat
  | [] => []
  | (_, _, x) :: r => rdO x ++ rdP r
def rdB : Option Operand → List Nat
  | some x => rdO x
  | none => []
def rdG : Option (Nat × Bool) → List Nat
  | some (t, _) => [t]
  | none => []
def rd : SOp → List Nat
  | .mv x | .un _ x | .conv _ x | .fld _ x | .nilCheck x | .field _ _ _ x | .len _ x | .extract _ x | .box _ _ x | .load _ _ x => rdO x
  | .pick c a b => rdO c ++ (rdO a ++ rdO b)
  | .ibin _ x y | .sbin _ x y | .beq _ x y | .nilq _ _ x y | .idiv _ x y | .ishift _ x y | .store _ x y | .idx _ x y | .idxA _ _ x y | .append _ _ _ _ _ x y | .appz _ _ _ _ _ _ x y | .mk _ _ _ _ x y => rdO x ++ rdO y
  | .mkFunc _ l => rdL l
  | .call f l => rdO f ++ rdL l
  | .build _ _ l | .buildS _ _ _ l => rdP l
  | .slc _ x a b c => rdO x ++ (rdB a ++ rdB b)
  | .fn _ l | .q _ l | .a _ l | .n _ l => rdL l
  | .alloc .. | .dead => []
def rdS (o : SOper) : List Nat := rdG o.guard ++ rd o.op
def isLoad : SOp → Bool
  | .load .. | .q .. => true
  | _ => false
/-- operations that change what was there -/
def modi : SOp → Nat
  | .store .. | .a .. => 2
  | .append .. | .appz .. | .call .. => 1
  | _ => 0
def dstIn (o : SOper) (l : List Nat) : Bool := match o.dst with
  | some d => l.contains d
  | none => false
def dstEq (x y : SOper) : Bool := match x.dst, y.dst with
  | some d, some d' => d == d'
  | _, _ => false
/-- y may come ahead of x -/
def mayPass (x y : Bool × SOper) : Bool :=
  (isPure x.2.op || isAsk x.2.op) && !dstIn x.2 (rdS y.2) && !dstIn y.2 (rdS x.2) && (!isLoad x.2.op || modi y.2.op == 0 || (modi y.2.op == 1 && x.1))

/-! ### from the program's text -/
def isTiny (P : Program) (t : TypeId) : Bool := match P.underlying t with | some (.struct _) => true | some (.array _ _) => true | _ => false
def szOf (P : Program) (t : TypeId) : Option Nat := match P.underlying t with | some _ => (P.info? t).map (·.size) | none => none
def fieldsOf (P : Program) (t : TypeId) : Option (Array Field) := match P.underlying t with | some (.struct fs) => some fs | _ => none
def nilC (kd : Nat) (op : BinOp) (x : Operand) : Operand → Option SOp
  | .const v => bif isNil kd v then (match op with | .eql => some (.nilq kd false x (.const v)) | .neq => some (.nilq kd true x (.const v)) | _ => none) else none
  | _ => none
def mapParts (N : Nat) (place : Nat → Option (Nat × Nat)) : List (Nat × Operand) → Option (List (Nat × Nat × Operand))
  | [] => some []
  | (i, x) :: r => match place i, mapParts N place r with
    | some (off, n), some l => bif decide (off + n ≤ N) then some ((off, n, x) :: l) else none
    | _, _ => none
def placeOf (P : Program) (fs : Array Field) (i : Nat) : Option (Nat × Nat) := match fs[i]? with | some f => (szOf P f.type).map (fun s => (f.offset, s)) | none => none
def intKind : BinOp → Nat
  | .add | .sub | .mul | .eql | .neq | .lss | .leq | .gtr | .geq => 0
  | .quo | .rem => 1
  | .shl | .shr => 2
  | _ => 3
def trBin (P : Program) (op : BinOp) (t : TypeId) (x y : Operand) : Option SOp :=
  match P.underlying t with
    | some (.int _) => match intKind op with
      | 0 => some (.ibin op x y)
      | 1 => some (.idiv op x y)
      | 2 => some (.ishift op x y)
      | _ => (match op with | .and | .or | .xor | .andNot => some (.fn (.bits op) [x, y]) | _ => none)
    | some .string => (match op with | .add => some (.fn .cat [x, y]) | .eql | .neq => some (.sbin op x y) | _ => none)
    | some .bool => match op with | .eql => some (.beq false x y) | .neq => some (.beq true x y) | _ => none
    | some (.slice _) => nilC 0 op x y
    | some (.pointer _) => nilC 1 op x y
    | some (.map _ _) => nilC 2 op x y
    | some (.func _ _ _) => nilC 3 op x y
    | _ => none
def trLen (P : Program) : List Operand → List TypeId → Option SOp
  | [x], [t] => match P.underlying t with
    | some (.slice _) => some (.len false x)
    | some .string => some (.len true x)
    | _ => none
  | _, _ => none
def trMin (P : Program) (c : Fk) : List Operand → List TypeId → Option SOp
  | [x, y], [t, _] => match P.underlying t with
    | some (.int _) => some (.fn c [x, y])
    | _ => none
  | _, _ => none
def trAppend (P : Program) : List Operand → List TypeId → Option SOp
  | [s, x], [t, u] => match P.underlying t with
    | some (.slice e) => match P.info? e with
      | some i => match i.zero with
        | some z => bif decide (t = u) && decide (0 < i.size) && decide ((cellsV z).length = i.size) then some (.append t e i.size i.bytes z s x) else
          (match P.underlying u with
          | some (.int .i64) => bif decide (0 < i.size) && decide (0 < i.bytes) && decide ((cellsV z).length = i.size) then some (.appz t u e i.size i.bytes z s x) else none
          | _ => none)
        | none => none
      | none => none
    | _ => none
  | _, _ => none
def trCall (P : Program) (c : Call) : Option SOp := match c.callee with
    | .value f => some (.call f c.args.toList)
    | .builtin .len => trLen P c.args.toList c.argTypes.toList
    | .builtin .append => trAppend P c.args.toList c.argTypes.toList
    | .builtin .min => trMin P .min c.args.toList c.argTypes.toList
    | .builtin .max => trMin P .max c.args.toList c.argTypes.toList
    | _ => none
def trBuild (P : Program) (t : TypeId) (parts : List (Nat × Operand)) : Option SOp :=
  match P.underlying t, (P.info? t).bind (·.zero) with
    | some (.struct fs), some z => match mapParts (cellsV z).length (placeOf P fs) parts with
      | some l => bif fs.toList.all (fun f => (szOf P f.type).isSome) then some (.build t (cellsV z) l) else none
      | none => none
    | _, _ => none
def trBuildS (P : Program) (t : TypeId) (n : Nat) (parts : List (Nat × Operand)) : Option SOp :=
  match P.underlying t with
    | some (.slice e) => match (P.info? e).bind (·.zero), szOf P e with
      | some z, some sz => match mapParts (n * sz) (fun i => some (i * sz, sz)) parts with
        | some l => bif decide (0 < sz) && decide (n * sz ≤ 1000) && decide ((cellsV z).length = sz) then some (.buildS e n (zerosL (cellsV z) n) l) else none
        | none => none
      | _, _ => none
    | _ => none
def optL : Option Operand → List Operand
  | some x => [x]
  | none => []
def trBi : Builtin → Option (Nat × Nat)
  | .cap => some (0, 0)
  | .clear => some (1, 1)
  | .copy => some (1, 2)
  | .delete => some (1, 3)
  | .len => some (0, 4)
  | .min => some (0, 5)
  | .max => some (0, 6)
  | _ => none
/-- operations that go by the meaning of their text: 0 read, 1 change one block, 2 make a new one -/
def trQ : Op → Option (Nat × Qk × List Operand)
  | .binOp op t x y _ => some (0, .bin op t x y, [x, y])
  | .convert s d x => some (0, .cnv s d, [x])
  | .call c => match c.callee with
    | .builtin b => (match trBi b with | some (k, i) => some (k, .bi i c.argTypes.toList, c.args.toList) | none => none)
    | _ => none
  | .slice t x lo hi mx => some (0, .slc t lo.isSome hi.isSome mx.isSome, x :: (optL lo ++ (optL hi ++ optL mx)))
  | .index t x i => some (0, .index t, [x, i])
  | .lookup t x i ok => some (0, .look t ok, [x, i])
  | .mapUpdate t m k x => some (1, .upd t, [m, k, x])
  | .insert t m k x => some (1, .upd t, [m, k, x])
  | .makeMap t r => some (2, .mkmap t, optL r)
  | .range t x => some (2, .rng t, [x])
  | .next it str => some (1, .next str, [it])
  | _ => none
def trOp0 (P : Program) (loc : Bool) : Op → Option SOp
  | .move x => some (.mv x)
  | .assign x => some (.mv x)
  | .pick c a b => some (.pick c a b)
  | .binOp op t x y _ => trBin P op t x y
  | .unOp op t x => some (.un op x)
  | .convert s d x => match P.underlying s, P.underlying d with
    | some (.int _), some (.int k) => some (.conv k x)
    | some (.int _), some .string => some (.fn .rune [x])
    | _, _ => none
  | .box T x => some (.box loc T x)
  | .alloc T => match (P.info? T).bind (·.zero) with | some z => some (.alloc loc T z) | none => none
  | .build t parts => trBuild P t parts.toList
  | .buildSlice t n parts => trBuildS P t n parts.toList
  | .load t x => match szOf P t with | some n => some (.load (isTiny P t) n x) | none => none
  | .store t x v => match szOf P t with | some n => some (.store n x v) | none => none
  | .nilCheck x => some (.nilCheck x)
  | .fieldAddr t x i => match fieldsOf P t with
    | some fs => match fs[i]? with
      | some f => match szOf P f.type with | some (_ + 1) => some (.fld f.offset x) | _ => none
      | none => none
    | none => none
  | .field t x i => match fieldsOf P t with
    | some fs => match fs[i]? with
      | some f => match szOf P f.type with | some n => some (.field (isTiny P f.type) f.offset n x) | _ => none
      | none => none
    | none => none
  | .indexAddr t x i => match P.underlying t with
    | some (.slice e) => match szOf P e with | some n => some (.idx n x i) | none => none
    | some (.array len e) => match szOf P e with | some n => bif decide (1 < len) then some (.idxA len n x i) else none | none => none
    | _ => none
  | .slice t x lo hi mx => match P.underlying t with
    | some (.slice e) => match szOf P e, mx with | some n, none => some (.slc n x lo hi none) | _, _ => none
    | _ => none
  | .makeSlice t n c => match P.underlying t with
    | some (.slice e) => match P.info? e with
      | some i => match i.zero with
        | some z => bif decide (0 < i.size) && decide (0 < i.bytes) && decide ((cellsV z).length = i.size) then some (.mk e i.size i.bytes z n c) else none
        | none => none
      | none => none
    | _ => none
  | .makeFunc (.func f) first caps => bif first.isEmpty then some (.mkFunc f caps.toList) else none
  | .extract x i => some (.extract i x)
  | .call c => trCall P c
  | _ => none
def trOp (P : Program) (loc : Bool) (o : Op) : Option SOp := match trOp0 P loc o with
  | some s => some s
  | none => match trQ o with
    | some (0, c, xs) => some (.q c xs)
    | some (1, c, xs) => some (.a c xs)
    | some (_, c, xs) => some (.n c xs)
    | none => some .dead
def noStore : SOp → Bool
  | .store _ _ _ => false
  | _ => true
def trOper (P : Program) (n : Nat) (locs : List Nat) (ops : Array Oper) (o : Oper) : Option SOper :=
  let gdc : Option (Option (Nat × Bool)) := match o.guard with
    | none => some none
    | some (j, want) => match (ops[j]?).bind (·.dst) with
      | some t => bif decide (t < n) then some (some (t, want)) else none
      | none => none
  match gdc, trOp P (match o.dst with | some d => locs.contains d | none => false) o.op with
  | some g, some s => (match o.dst with
    | some d => bif decide (d < n) && noStore s then some ⟨o.dst, g, s⟩ else none
    | none => some ⟨none, g, s⟩)
  | _, _ => none
def trOpers (P : Program) (n : Nat) (locs : List Nat) (ops : Array Oper) : List Oper → Option (List SOper)
  | [] => some []
  | o :: r => match trOper P n locs ops o, trOpers P n locs ops r with
    | some s, some l => some (s :: l)
    | _, _ => none


/-! ### statements -/
def allQuiet : List SOper → Bool
  | [] => true
  | o :: r => (isPure o.op || isAsk o.op) && allQuiet r
/-- what stands behind a region -/
def Fin (L : List Nat) (K : Fr → Ctx → Prop) : Fr → Ctx → Prop := fun φ Γ => K (proj φ L) Γ
def Post.seq (Q : Post) (K : Fr → Ctx → Prop) : Post := { nrm := K, ret := Q.ret, ex := Q.ex }
def Post.inBlock (Q : Post) (id : Nat) : Post := { nrm := Q.nrm, ret := Q.ret, ex := fun j φ Γ => bif j == id then Q.nrm φ Γ else Q.ex j φ Γ }
def vc (P : Program) (Γr : Ctx) : Stmt → Fr → Ctx → Post → Prop
  | .region ops L, φ, Γ, Q => vcOps P Γr ops φ Γ (Fin L Q.nrm)
  | .quiet ops L, φ, Γ, Q => vcOps P Γr ops φ Γ (Fin L Q.nrm)
  | .drawn ops L, φ, Γ, Q => noBoxes φ ops ∧ (bif anyEarly ops then ∃ Γm Γf, Ent Γ (Γm ++ Γf) ∧ vcD P (Γf ++ Γr) ops φ Γm (fun φ' Γ' => Q.nrm (proj φ' L) (Γ' ++ Γf)) else vcD P Γr ops φ Γ (Fin L Q.nrm))
  | .tree t L, φ, Γ, Q => noBoxesT φ t ∧ ∃ (Γm Γf : Ctx) (J : Fr → Ctx → Prop), Ent Γ (Γm ++ Γf) ∧ vcT P (Γf ++ Γr) t φ Γm (fun φ' Γ' => Up (Γ' ++ Γf) (J (proj φ' L))) ∧ ∀ ψ Γ', J ψ Γ' → Q.nrm ψ Γ'
  | .seq a b, φ, Γ, Q => vc P Γr a φ Γ (Q.seq fun φ' Γ' => vc P Γr b φ' Γ' Q)
  | .join a b M N, φ, Γ, Q => ∃ J : List Sl → Ctx → Prop,
      vc P Γr a φ Γ (Q.seq fun φ' Γ' => looks φ' N = looks φ N ∧ Up Γ' (J (looks φ' M))) ∧
      ∀ vs Γ', J vs Γ' → vc P Γr b (zipS M vs ++ proj φ N) Γ' Q
  | .cond c a b, φ, Γ, Q => match val φ c with
    | (e, .bool x) => e = true ∧ (x = true → vc P Γr a φ Γ Q) ∧ (x = false → vc P Γr b φ Γ Q)
    | _ => False
  | .block id a, φ, Γ, Q => vc P Γr a φ Γ (Q.inBlock id)
  | .loop a M N, φ, Γ, Q => ∃ I : Nat → List Sl → Ctx → Prop, (∃ n, Up Γ (I n (looks φ M))) ∧
      ∀ n vs Γ', I n vs Γ' → vc P Γr a (zipS M vs ++ proj φ N) Γ' (Q.seq fun φ' Γ'' => looks φ' N = looks φ N ∧ ∃ n', n' < n ∧ Up Γ'' (I n' (looks φ' M)))
  | .exit id, φ, Γ, Q => Q.ex id φ Γ
  | .ret, φ, Γ, Q => Q.ret φ Γ
  | .skip, φ, Γ, Q => Q.nrm φ Γ
  | .bad, _, _, _ => False

/-- how many ways lead out at the end, and to a block's end -/
def exN (id : Nat) : Code → Nat
  | .seq a b => exN id a + exN id b
  | .cond _ a b => exN id a + exN id b
  | .block _ a => exN id a
  | .loop a => exN id a
  | .exit j => bif j == id then 1 else 0
  | _ => 0
def nx : Code → Nat
  | .seq a b => nx a * nx b
  | .cond _ a b => nx a + nx b
  | .block id a => nx a + exN id a
  | .loop _ | .exit _ | .ret => 0
  | _ => 1
/-- the operations that bind this one -/
def direct (o : Oper) : List Nat := (o.after.toList.filter fun e => Region.binds .any e).map (·.on)
/-- T: for each operation some of those that always come ahead of it -/
def ancOk (ops : List Oper) (T : List (List Nat)) : Nat → List (List Nat) → Bool
  | _, [] => true
  | j, ys :: r => (match ops[j]? with
    | some o => ys.all fun y => (direct o).contains y || (direct o).any fun p => match T[p]? with | some zs => zs.contains y | none => false
    | none => false) && ancOk ops T (j + 1) r
/-- C: an order of them: what binds comes ahead; each pair either is always in this order, or may be turned round -/
def orderOk (ops : List Oper) (sl : List SOper) (E : List Nat) (T : List (List Nat)) : List Nat → List Nat → Bool
  | _, [] => true
  | seen, j :: r => !seen.contains j && (match ops[j]?, sl[j]?, T[j]? with
    | some o, some y, some tj => (direct o).all (fun p => seen.contains p) &&
      seen.all (fun i => match sl[i]? with | some x => !dstEq x y && (tj.contains i || mayPass (E.contains i, x) (E.contains j, y)) | none => false)
    | _, _, _ => false) && orderOk ops sl E T (j :: seen) r
def pickOps (sl : List SOper) (E : List Nat) : List Nat → Option (List (Bool × SOper))
  | [] => some []
  | i :: r => match sl[i]?, pickOps sl E r with
    | some x, some l => some ((E.contains i, x) :: l)
    | _, _ => none
def trDrawn (P : Program) (ops : Array Oper) (sl : List SOper) (C E : List Nat) (T : List (List Nat)) : Option (List (Bool × SOper)) :=
  bif P.follows .mixedOrders && decide (C.length = ops.size) && (List.range ops.size).all (fun i => C.contains i) && decide (T.length = ops.size) && ancOk ops.toList T 0 T && orderOk ops.toList sl E T [] C then pickOps sl E C else none
def opsT : DT Nat → List Nat
  | .q x r => x :: opsT r
  | .alt e r _ => e :: opsT r
  | _ => []
def headsT : DT Nat → List Nat
  | .alt e _ s => e :: headsT s
  | _ => []
/-- what stands ahead in the tree may be passed -/
def pairB (sl : List SOper) (E : List Nat) (T : List (List Nat)) (i j : Nat) : Bool := match sl[i]?, sl[j]?, T[j]? with
  | some x, some y, some tj => !dstEq x y && (tj.contains i || mayPass (E.contains i, x) (E.contains j, y))
  | _, _, _ => false
def okT (sl : List SOper) (E : List Nat) (T : List (List Nat)) : List Nat → DT Nat → Bool
  | seen, .q x r => seen.all (fun i => pairB sl E T i x) && okT sl E T (x :: seen) r
  | seen, .alt e r s => seen.all (fun i => pairB sl E T i e) && okT sl E T seen r && okT sl E T seen s
  | _, _ => true
/-- nothing else may come up -/
def cT (T : List (List Nat)) : Option (List Nat × List Nat) → DT Nat → Bool
  | none, .fin => true
  | none, .q x r => !(opsT r).contains x && cT T none r
  | none, .alt e r s => !(opsT r).contains e && (opsT r).all (fun j => (e :: headsT s).contains j || (match T[j]? with | some tj => (e :: headsT s).any (fun h => tj.contains h) | none => false)) && cT T none r && cT T (some (e :: headsT s, e :: opsT r)) s
  | some (H, O), .alt e r s => !(opsT r).contains e && O.all (fun j => (e :: opsT r).contains j) && (e :: opsT r).all (fun j => O.contains j) && cT T none r && cT T (some (H, O)) s
  | some _, .no => true
  | _, _ => false
def parseT : Nat → List Nat → Option (DT Nat × List Nat)
  | 0, _ => none
  | _ + 1, 0 :: r => some (.fin, r)
  | _ + 1, 1 :: r => some (.no, r)
  | n + 1, 2 :: x :: r => match parseT n r with | some (t, r') => some (.q x t, r') | none => none
  | n + 1, 3 :: x :: r => match parseT n r with
    | some (t, r') => (match parseT n r' with | some (u, r'') => some (.alt x t u, r'') | none => none)
    | none => none
  | _ + 1, _ => none
def pickT (sl : List SOper) (E : List Nat) : DT Nat → Option (DT (Bool × SOper))
  | .fin => some .fin
  | .no => some .no
  | .q x r => match sl[x]?, pickT sl E r with | some y, some t => some (.q (E.contains x, y) t) | _, _ => none
  | .alt e r s => match sl[e]?, pickT sl E r, pickT sl E s with | some y, some t, some u => some (.alt (E.contains e, y) t u) | _, _, _ => none
def dstsOk (sl : List SOper) (n : Nat) : Bool := (List.range n).all fun i => (List.range n).all fun j => i == j || (match sl[i]?, sl[j]? with | some a, some b => !dstEq a b | _, _ => false)
def depsOk : Nat → List Oper → Bool
  | _, [] => true
  | j, o :: r => (direct o).all (fun p => decide (p < j)) && depsOk (j + 1) r
def trTree (P : Program) (ops : Array Oper) (sl : List SOper) (C E : List Nat) (T : List (List Nat)) : Option (DT (Bool × SOper)) := match parseT C.length C with
  | some (t, _) => bif P.follows .mixedOrders && decide ((opsT t).length = ops.size) && (List.range ops.size).all (fun i => (opsT t).contains i) && (opsT t).all (fun i => decide (i < ops.size)) && decide (T.length = ops.size) && ancOk ops.toList T 0 T && okT sl E T [] t && cT T none t && dstsOk sl ops.size && depsOk 0 ops.toList then pickT sl E t else none
  | none => none
def trCode (P : Program) (n : Nat) (locs : List Nat) : Code → List (List Nat) → Option (Stmt × List (List Nat))
  | .skip, A => some (.skip, A)
  | .region _ ops draw, A => match A with
    | L :: A => match trOpers P n locs ops ops.toList with
      | some sl => bif draw then (bif P.follows .mixedOrders && Region.lexB .any ops && allQuiet sl then some (.quiet sl L, A) else
          match A with
          | [] :: C :: E :: A' => (match trTree P ops sl C E (A'.take ops.size) with
            | some l => some (.tree l L, A'.drop ops.size)
            | none => none)
          | C :: E :: A' => (match trDrawn P ops sl C E (A'.take ops.size) with
            | some l => some (.drawn l L, A'.drop ops.size)
            | none => none)
          | _ => none) else some (.region sl L, A)
      | none => none
    | [] => none
  | .seq a b, A => bif decide (nx a ≤ 1) then
      (match trCode P n locs a A with
      | some (s, A1) => match trCode P n locs b A1 with
        | some (t, A2) => some (.seq s t, A2)
        | none => none
      | none => none)
    else match A with
      | M :: N :: A0 => (match trCode P n locs a A0 with
        | some (s, A1) => match trCode P n locs b A1 with
          | some (t, A2) => some (.join s t M N, A2)
          | none => none
        | none => none)
      | _ => none
  | .cond c a b, A => match trCode P n locs a A with
    | some (s, A1) => match trCode P n locs b A1 with
      | some (t, A2) => some (.cond c s t, A2)
      | none => none
    | none => none
  | .block id a, A => match trCode P n locs a A with
    | some (s, A1) => some (.block id s, A1)
    | none => none
  | .loop a, A => match A with
    | M :: N :: A0 => (match trCode P n locs a A0 with
      | some (s, A1) => some (.loop s M N, A1)
      | none => none)
    | _ => none
  | .exit id, A => some (.exit id, A)
  | .ret, A => some (.ret, A)
  | _, _ => none
def resSlots (P : Program) : List ResultVar → Option (List (Nat × Option (Bool × Nat)))
  | [] => some []
  | .tmp t :: r => match resSlots P r with | some l => some ((t, none) :: l) | none => none
  | .cell t T :: r => match resSlots P r, szOf P T with | some l, some n => some ((t, some (isTiny P T, n)) :: l) | _, _ => none
structure FnS where
  n : Nat
  res : List (Nat × Option (Bool × Nat))
  body : Stmt
def trFn (P : Program) (f : FuncId) (locs : List Nat) (A : List (List Nat)) : Option FnS := match P.funcs[f]? with
  | some fn => match fn.body, resSlots P fn.results.toList with
    | some c, some res => bif fn.name == "runtime.NumGoroutine" then none else match trCode P fn.ntmps locs c A with
      | some (s, _) => some ⟨fn.ntmps, res, s⟩
      | none => none
    | _, _ => none
  | none => none
def args0 : Nat → List Value → Fr
  | _, [] => []
  | i, x :: r => (i, .v true x) :: args0 (i + 1) r
/-- a result that lies in a box -/
def boxV (agg : Bool) (n : Nat) : Sl → Value
  | .box _ _ cs => mkv agg (cs.take n)
  | _ => undef
def boxOn (agg : Bool) (n : Nat) : Sl → Prop
  | .box _ _ cs => n ≤ cs.length ∧ (agg = false → n = 1)
  | _ => False
def slotVals (φ : Fr) : List (Nat × Option (Bool × Nat)) → List Value
  | [] => []
  | (t, none) :: r => (look φ t).val.2 :: slotVals φ r
  | (t, some (agg, n)) :: r => boxV agg n (look φ t) :: slotVals φ r
def slotsOn (φ : Fr) : List (Nat × Option (Bool × Nat)) → Prop
  | [] => True
  | (t, none) :: r => (look φ t).val.1 = true ∧ slotsOn φ r
  | (t, some (agg, n)) :: r => boxOn agg n (look φ t) ∧ slotsOn φ r
def resV : List Value → Value
  | [x] => x
  | l => .tuple l.toArray
def ResultP (res : List (Nat × Option (Bool × Nat))) (R : Value → Ctx → Prop) : Fr → Ctx → Prop := fun φ Γ => slotsOn φ res ∧ Up Γ (R (resV (slotVals φ res)))
def PostR (res : List (Nat × Option (Bool × Nat))) (R : Value → Ctx → Prop) : Post := ⟨ResultP res R, ResultP res R, fun _ _ _ => False⟩

end Go.Proofs.Ytniobbepliknmaa.V
