/- Texts put together, in the order in which they build; each says what it proves; no condition. -/
import Derived.WalkKit
import Derived.Deep.QuietTactic
import Derived.Lib.SliceRun
import Derived.Lib.LazyBuf
import Derived.WalkSpells
import Derived.Orders
import Derived.Deep.LoopGhost
namespace Go.Proofs.Ytiipiapfnedfjaa.V
open Go
set_option linter.unusedVariables false
set_option linter.unusedSimpArgs false
open Nat renaming reduceBEq → zA, reduceAdd → zB, reduceSub → zC, reduceMul → zD, reduceLeDiff → zE
open Int renaming reduceLT → zF, reduceLE → zG, reduceEq → zH, reduceNe → zI
/- The words of a symbolic walk: pieces of memory, frames of slots, operations, and what must be shown of a text; no condition. -/
/-! ### pieces of memory -/
abbrev PH := Nat → Option Obj
abbrev Ctx := List PH
def Disj (h h' : PH) : Prop := ∀ k, h k = none ∨ h' k = none
def one (b : Nat) (o : Obj) : PH := fun k => if k = b then some o else none
def emp : PH := fun _ => none
def uni (h h' : PH) : PH := fun k => match h k with | some o => some o | none => h' k
def upd (h : PH) (b : Nat) (o : Obj) : PH := fun k => if k = b then some o else h k
structure Sat (Γ : Ctx) (w : World) : Prop where
 holds : ∀ h ∈ Γ, ∀ k o, h k = some o → w.heap[k]? = some o
 apart : Γ.Pairwise Disj
/-- every block of h is a block of one of Γ, with the same content -/
def Cov (Γ : Ctx) (h : PH) : Prop := ∀ k o, h k = some o → ∃ g ∈ Γ, g k = some o
structure Ent (Γ Γ' : Ctx) : Prop where
 cov : ∀ h ∈ Γ', Cov Γ h
 apart : Γ.Pairwise Disj → Γ'.Pairwise Disj
def Up (Γ : Ctx) (Φ : Ctx → Prop) : Prop := Γ.Pairwise Disj → ∃ Γ', Ent Γ Γ' ∧ Φ Γ'

/-! ### frames -/
inductive Sl where
 | dead
 | v (e : Bool) (x : Value)
 | box (b : Nat) (T : TypeId) (cs : List Value)
 | ref (e : Bool) (s : Nat) (b off : Nat)
abbrev Fr := List (Nat × Sl)
def look : Fr → Nat → Sl
 | [], _ => .dead
 | (k, x) :: r, t => bif k == t then x else look r t
def proj (φ : Fr) : List Nat → Fr
 | [] => []
 | t :: L => (t, look φ t) :: proj φ L
def looks (φ : Fr) : List Nat → List Sl
 | [] => []
 | t :: L => look φ t :: looks φ L
def zipS : List Nat → List Sl → Fr
 | t :: L, x :: r => (t, x) :: zipS L r
 | _, _ => []
def updBox : Fr → Nat → List Value → Fr
 | [], _, _ => []
 | (k, x) :: r, t, cs => bif k == t then (match x with | .box b T _ => (k, .box b T cs) :: r | x => (k, x) :: r) else (k, x) :: updBox r t cs
/-- a slot's value, and whether it is there -/
def Sl.val : Sl → Bool × Value
 | .dead => (false, undef)
 | .v e x => (e, x)
 | .box b _ _ => (true, .pointer (some ⟨b, 0, none⟩))
 | .ref e _ b off => (e, .pointer (some ⟨b, off, none⟩))
def val (φ : Fr) : Operand → Bool × Value
 | .tmp t => (look φ t).val
 | .const x => (true, x)
 | .global g => (true, .pointer (some ⟨g, 0, none⟩))
 | .func f => (true, .func (.func f) #[] #[])
def vals (φ : Fr) : List Operand → List Value
 | [] => []
 | x :: r => (val φ x).2 :: vals φ r
def allOn (φ : Fr) (e : Bool) : List Operand → Prop
 | [] => True
 | x :: r => (e = true → (val φ x).1 = true) ∧ allOn φ e r
def slotOf (φ : Fr) (e : Bool) : Operand → Sl
 | .tmp t => match look φ t with
  | .box b _ _ => .ref e t b 0
  | .ref _ s b off => .ref e s b off
  | x => .v e x.val.2
 | x => .v e (val φ x).2

/-! ### operations -/
/-- operations that compute a value out of values -/
inductive Fk where
 | min | max | cat | rune
 | bits (op : BinOp)
/-- operations that go by the meaning of their text -/
inductive Qk where
 | bin (op : BinOp) (t : TypeId) (x y : Operand)
 | cnv (s d : TypeId)
 | bi (b : Nat) (ats : List TypeId)
 | slc (t : TypeId) (lo hi mx : Bool)
 | index (t : TypeId)
 | look (t : TypeId) (ok : Bool)
 | upd (t : TypeId)
 | mkmap (t : TypeId)
 | rng (t : TypeId)
 | next (str : Bool)
 | mkI (t : TypeId)
 | entry
 | ment (t : TypeId)
 | estore (t : TypeId)
inductive SOp where
 | mv (x : Operand)
 | pick (c a b : Operand)
 | ibin (op : BinOp) (x y : Operand)
 | idiv (op : BinOp) (x y : Operand)
 | ishift (op : BinOp) (x y : Operand)
 | sbin (op : BinOp) (x y : Operand)
 | beq (neg : Bool) (x y : Operand)
 | nilq (kd : Nat) (neg : Bool) (x y : Operand)
 | un (op : UnOp) (x : Operand)
 | conv (k : IntKind) (x : Operand)
 | box (loc : Bool) (T : TypeId) (x : Operand)
 | alloc (loc : Bool) (T : TypeId) (z : Value)
 | build (t : TypeId) (z : List Value) (parts : List (Nat × Nat × Operand))
 | buildS (e : TypeId) (len : Nat) (z : List Value) (parts : List (Nat × Nat × Operand))
 | load (agg : Bool) (n : Nat) (x : Operand)
 | store (n : Nat) (x v : Operand)
 | fld (off : Nat) (x : Operand)
 | nilCheck (x : Operand)
 | idx (sz : Nat) (x i : Operand)
 | idxA (len sz : Nat) (x i : Operand)
 | field (agg : Bool) (off n : Nat) (x : Operand)
 | slc (sz : Nat) (x : Operand) (lo hi mx : Option Operand)
 | len (str : Bool) (x : Operand)
 | append (t e : TypeId) (sz bytes : Nat) (z : Value) (s x : Operand)
 | appz (t u e : TypeId) (sz bytes : Nat) (z : Value) (s x : Operand)
 | mk (e : TypeId) (sz bytes : Nat) (z : Value) (n c : Operand)
 | call (f : Operand) (args : List Operand)
 | extract (i : Nat) (x : Operand)
 | mkFunc (fn : FuncId) (caps : List Operand)
 | fn (c : Fk) (xs : List Operand)
 | q (c : Qk) (xs : List Operand)
 | a (c : Qk) (xs : List Operand)
 | n (c : Qk) (xs : List Operand)
 | loadB (q : Option Nat) (agg : Bool) (n : Nat) (x : Operand)
 | dead
structure SOper where
 dst : Option Nat
 guard : Option (Nat × Bool)
 op : SOp

/-- an operation with a destination and no guard -/
abbrev oq (d : Nat) (x : SOp) : SOper := ⟨some d, none, x⟩

/-- operations whose order is drawn, and some of which stand in either order: q: one that only reads; alt: either this one comes first of all that act, or one of those behind it -/
inductive DT (α : Type) where
 | fin
 | q (x : α) (r : DT α)
 | alt (e : α) (r s : DT α)
 | no
inductive Stmt where
 | tree (t : DT (Bool × SOper)) (L : List Nat)
 | region (ops : List SOper) (L : List Nat)
 | quiet (ops : List SOper) (L : List Nat)
 | drawn (ops : List (Bool × SOper)) (L : List Nat)
 | drawnB (ops : List (Bool × SOper)) (L : List Nat)
 | seq (a b : Stmt)
 | join (a b : Stmt) (M N : List Nat)
 | cond (c : Operand) (a b : Stmt)
 | block (id : Nat) (a : Stmt)
 | loop (a : Stmt) (M N : List Nat)
 | exit (id : Nat)
 | ret
 | skip
 | bad

structure Post where
 nrm : Fr → Ctx → Prop
 ret : Fr → Ctx → Prop
 ex : Nat → Fr → Ctx → Prop

/-! ### what a call does -/
structure Done (Γr Γm Γ' : Ctx) (w w' : World) : Prop where
 sat : Sat (Γ' ++ Γr) w'
 own : ∀ h ∈ Γ', ∀ k, h k ≠ none → w.heap.size ≤ k ∨ ∃ g ∈ Γm, g k ≠ none
 os : w'.os = w.os
 tape : w'.tape = w.tape ∧ w.drawn ≤ w'.drawn
 output : w'.output = w.output
 size : w.heap.size ≤ w'.heap.size
 same : ∀ k, k < w.heap.size → (∀ g ∈ Γm, g k = none) → w'.heap[k]? = w.heap[k]?
def isFn (P : Program) (f : FuncId) : Bool := match P.funcs[f]? with
 | some fn => fn.body.isSome && !(fn.name == "runtime.NumGoroutine")
 | none => false
/-- Called with these values, where the heaps Γr (to be read) and Γm (to be changed) lie in memory: returns v, and the heaps Γ' in the place of Γm. -/
structure Ret (P : Program) (f : FuncId) (args : List Value) (Γr Γm : Ctx) (R : Value → Ctx → Prop) : Prop where
 fn : isFn P f = true
 calls : ∀ w, Sat (Γm ++ Γr) w → Calls P f args.toArray w (fun e w' => ∃ v Γ', e = .returned v ∧ R v Γ' ∧ Done Γr Γm Γ' w w')

/-! ### values of operations -/
def fnV : Fk → List Value → Option Value
 | .min, [.int k a, .int k' b] => bif k == k' then some (.int k (if b < a then b else a)) else none
 | .max, [.int k a, .int k' b] => bif k == k' then some (.int k (if a < b then b else a)) else none
 | .cat, [.string a, .string b] => if a.size + b.size ≤ 9223372036854775807 then some (.string (a ++ b)) else none
 | .rune, [.int _ n] => some (.string (Utf8.encode n))
 | .bits .and, [.int k a, .int k' b] => bif k == k' then some (.int k (k.wrap (BitVec.ofInt k.bits a &&& BitVec.ofInt k.bits b).toNat)) else none
 | .bits .or, [.int k a, .int k' b] => bif k == k' then some (.int k (k.wrap (BitVec.ofInt k.bits a ||| BitVec.ofInt k.bits b).toNat)) else none
 | .bits .xor, [.int k a, .int k' b] => bif k == k' then some (.int k (k.wrap (BitVec.ofInt k.bits a ^^^ BitVec.ofInt k.bits b).toNat)) else none
 | .bits .andNot, [.int k a, .int k' b] => bif k == k' then some (.int k (k.wrap (BitVec.ofInt k.bits a &&& ~~~BitVec.ofInt k.bits b).toNat)) else none
 | _, _ => none
def popO : Bool → List Value → Option Value × List Value
 | true, v :: r => (some v, r)
 | _, r => (none, r)
def qsem : Qk → List Value → Sem Value
 | .bin op t ox oy, [x, y] => do eqGuard op t ox oy x y; binOp op t x y
 | .cnv s d, [x] => convert s d x
 | .bi 0 ats, vs => Builtin.cap_ ats.toArray 0 vs.toArray
 | .bi 1 ats, vs => Builtin.clear_ ats.toArray 0 vs.toArray
 | .bi 2 ats, vs => Builtin.copy_ ats.toArray 0 vs.toArray
 | .bi 3 ats, vs => Builtin.delete_ ats.toArray 0 vs.toArray
 | .bi 4 ats, vs => Builtin.len_ ats.toArray 0 vs.toArray
 | .bi 5 ats, vs => Builtin.min_ ats.toArray 0 vs.toArray
 | .bi 6 ats, vs => Builtin.max_ ats.toArray 0 vs.toArray
 | .slc t lo hi mx, x :: vs => Instr.sliceAt t x (popO lo vs).1 (popO hi (popO lo vs).2).1 (popO mx (popO hi (popO lo vs).2).2).1
 | .index t, [x, i] => Instr.index t x i
 | .look t ok, [x, i] => Instr.lookup t x i ok
 | .upd t, [m, k, x] => do Instr.mapUpdate t m k x; pure undef
 | .mkmap t, vs => Instr.makeMap t (vs.head?)
 | .rng t, [x] => Instr.range t x
 | .next str, [it] => Instr.next it str 0
 | .mkI t, [x] => Instr.makeInterface t x
 | .entry, [it] => Instr.entry it
 | .ment t, [m, k] => Instr.mapEntry t m k
 | .estore t, [m, s, x] => do Instr.entryStore t m s x; pure undef
 | _, _ => stuck "V: no such operation"
def Holds (Γ : Ctx) (w : World) : Prop := ∀ h ∈ Γ, ∀ k o, h k = some o → w.heap[k]? = some o
/-- what an operation that only reads answers wherever these heaps lie in memory -/
def QR (P : Program) (c : Qk) (vs : List Value) (Γ : Ctx) (r : Value) : Prop := ∀ w, Holds Γ w → (qsem c vs).run P w = .ok r w
def setBlk (w : World) (b : Nat) (q : Obj) : World := { w with heap := w.heap.setIfInBounds b q }
def ibinV : BinOp → IntKind → Int → Int → Value
 | .add, k, a, b => .int k (k.wrap (a + b))
 | .sub, k, a, b => .int k (k.wrap (a - b))
 | .mul, k, a, b => .int k (k.wrap (a * b))
 | .eql, _, a, b => .bool (decide (a = b))
 | .neq, _, a, b => .bool (!decide (a = b))
 | .lss, _, a, b => .bool (decide (a < b))
 | .leq, _, a, b => .bool (decide (a ≤ b))
 | .gtr, _, a, b => .bool (decide (b < a))
 | .geq, _, a, b => .bool (decide (b ≤ a))
 | _, _, _, _ => undef
def ibinOk : BinOp → Bool
 | .add | .sub | .mul | .eql | .neq | .lss | .leq | .gtr | .geq => true
 | _ => false
def idivV : BinOp → IntKind → Int → Int → Value
 | .quo, k, a, b => .int k (k.wrap (a.tdiv b))
 | .rem, k, a, b => .int k (a.tmod b)
 | _, _, _, _ => undef
def ishiftV : BinOp → IntKind → Int → Int → Value
 | .shl, k, a, b => .int k (k.wrap (a * 2 ^ (min b.toNat k.bits)))
 | .shr, k, a, b => .int k (a.fdiv (2 ^ (min b.toNat k.bits)))
 | _, _, _, _ => undef
def nilV : Nat → Value → Option Bool
 | 0, .slice a _ _ => some a.isNone
 | 1, .pointer a => some a.isNone
 | 2, .map r => some r.isNone
 | 3, .nilFunc => some true
 | 3, .func _ _ _ => some false
 | _, _ => none
def isNil : Nat → Value → Bool
 | 0, .slice none _ _ => true
 | 1, .pointer none => true
 | 2, .map none => true
 | 3, .nilFunc => true
 | _, _ => false
def zerosL (z : List Value) : Nat → List Value
 | 0 => []
 | n + 1 => z ++ zerosL z n
def mkv (agg : Bool) (vs : List Value) : Value := bif agg then .agg vs.toArray else vs.headD undef
/-- the cells of a value -/
def cellsV : Value → List Value
 | .agg cs => cs.toList
 | x => [x]
def fillL (z : List Value) : List (Nat × Nat × Value) → List Value
 | [] => z
 | (off, n, x) :: r => fillL (z.take off ++ cellsV x ++ z.drop (off + n)) r
def fits : List (Nat × Nat × Value) → Prop
 | [] => True
 | (_, n, x) :: r => (cellsV x).length = n ∧ fits r
def partVals (φ : Fr) : List (Nat × Nat × Operand) → List (Nat × Nat × Value)
 | [] => []
 | (off, n, x) :: r => (off, n, (val φ x).2) :: partVals φ r
def partOn (φ : Fr) (e : Bool) : List (Nat × Nat × Operand) → Prop
 | [] => True
 | (_, _, x) :: r => (e = true → (val φ x).1 = true) ∧ partOn φ e r

/-- the cells vs lie at this address in one of the heaps -/
def Cells (Γ : Ctx) (b o : Nat) (vs : List Value) : Prop :=
 ∃ h ∈ Γ, ∃ cells T fr, h b = some (.cells cells T fr) ∧ ∀ j, j < vs.length → cells[o + j]? = vs[j]?

/-! ### what must be shown of operations -/
def put (φ : Fr) (d : Option Nat) (x : Sl) : Fr := match d with | some t => (t, x) :: φ | none => φ
def gd (φ : Fr) : Option (Nat × Bool) → Option Bool
 | none => some true
 | some (t, want) => match look φ t with
  | .v ge (.bool b) => some (ge && (b == want))
  | _ => none
def pickV (c : Bool) (x y : Value) : Value := match x, y with
 | .bool p, .bool q => .bool (bif c then p else q)
 | x, y => bif c then x else y
def unV : UnOp → Value → Option Value
 | .not, .bool b => some (.bool (!b))
 | .neg, .int k n => some (.int k (k.wrap (0 - n)))
 | _, _ => none
def sbinV : BinOp → ByteArray → ByteArray → Option Value
 | .eql, a, b => some (.bool (a.toList == b.toList))
 | .neq, a, b => some (.bool (!(a.toList == b.toList)))
 | _, _, _ => none
def lenV : Bool → Value → Option Int
 | false, .slice _ n _ => some n
 | true, .string s => some s.size
 | _, _ => none
/-- the operations that make or change nothing -/
def pureV (φ : Fr) (e : Bool) : SOp → (Sl → Prop) → Prop
 | .mv x, k => (e = true → (val φ x).1 = true) ∧ k (slotOf φ e x)
 | .pick c a b, k => match val φ c with
  | (ec, .bool cb) => (e = true → ec = true) ∧ (e = true → cb = true → (val φ a).1 = true) ∧ (e = true → cb = false → (val φ b).1 = true) ∧ k (.v e (pickV cb (val φ a).2 (val φ b).2))
  | _ => False
 | .ibin op x y, k => match val φ x, val φ y with
  | (ex, .int kx a), (ey, .int ky b) => ibinOk op = true ∧ kx = ky ∧ (e = true → ex = true) ∧ (e = true → ey = true) ∧ k (.v e (ibinV op kx a b))
  | _, _ => False
 | .sbin op x y, k => match val φ x, val φ y with
  | (ex, .string a), (ey, .string b) => ∃ r, sbinV op a b = some r ∧ (e = true → ex = true) ∧ (e = true → ey = true) ∧ k (.v e r)
  | _, _ => False
 | .beq neg x y, k => match val φ x, val φ y with
  | (ex, .bool a), (ey, .bool b) => (e = true → ex = true) ∧ (e = true → ey = true) ∧ k (.v e (.bool ((a == b) != neg)))
  | _, _ => False
 | .nilq kd neg x y, k => isNil kd (val φ y).2 = true ∧ (e = true → (val φ y).1 = true) ∧ ∃ r, nilV kd (val φ x).2 = some r ∧ (e = true → (val φ x).1 = true) ∧ k (.v e (.bool (r != neg)))
 | .un op x, k => ∃ r, unV op (val φ x).2 = some r ∧ (e = true → (val φ x).1 = true) ∧ k (.v e r)
 | .conv kd x, k => match val φ x with
  | (ex, .int _ n) => (e = true → ex = true) ∧ k (.v e (.int kd (kd.wrap n)))
  | _ => False
 | .fld off x, k => match slotOf φ e x with
  | .ref _ s b o => (e = true → (val φ x).1 = true) ∧ k (.ref e s b (o + off))
  | .v _ (.pointer (some ⟨b, o, none⟩)) => (e = true → (val φ x).1 = true) ∧ k (.v e (.pointer (some ⟨b, o + off, none⟩)))
  | _ => False
 | .nilCheck x, k => match slotOf φ e x with
  | .ref _ s b o => (e = true → (val φ x).1 = true) ∧ k (.ref e s b o)
  | .v _ (.pointer (some a)) => (e = true → (val φ x).1 = true) ∧ k (.v e (.pointer (some a)))
  | .v _ (.func (.func f) c1 c2) => (e = true → (val φ x).1 = true) ∧ k (.v e (.func (.func f) c1 c2))
  | _ => False
 | .field agg off n x, k => match val φ x with
  | (ex, .agg cs) => (e = true → ex = true) ∧ off + n ≤ cs.size ∧ (agg = false → n = 1) ∧ k (.v e (mkv agg ((cs.toList.drop off).take n)))
  | _ => False
 | .len str x, k => ∃ n, lenV str (val φ x).2 = some n ∧ (e = true → (val φ x).1 = true) ∧ k (.v e (.int .i64 n))
 | .extract i x, k => match val φ x with
  | (ex, .tuple vs) => ∃ r, vs.toList[i]? = some r ∧ (e = true → ex = true) ∧ k (.v e r)
  | _ => False
 | .mkFunc fn caps, k => allOn φ e caps ∧ k (.v e (.func (.func fn) #[] (vals φ caps).toArray))
 | .build t z parts, k => partOn φ e parts ∧ fits (partVals φ parts) ∧ k (.v e (.agg (fillL z (partVals φ parts)).toArray))
 | .fn c xs, k => ∃ r, (e = true → allOn φ true xs ∧ fnV c (vals φ xs) = some r) ∧ k (.v e r)
 | _, _ => False
def isPure : SOp → Bool
 | .mv _ | .pick .. | .ibin .. | .sbin .. | .beq .. | .nilq .. | .un .. | .conv .. | .fld .. | .nilCheck _ | .field .. | .len _ _ | .extract .. | .mkFunc .. | .build .. | .fn .. => true
 | _ => false
def setC (cs : List Value) (off n : Nat) (x : Value) : List Value := cs.take off ++ cellsV x ++ cs.drop (off + n)
/-- the block that an append to v may write -/
def rowBlk : Value → Option Nat
 | .slice (some a) _ (_ + 1) => some a.block
 | _ => none
/-- an owned row: a slice of a block of this heap, with all of its capacity -/
def Row (h : PH) (e : TypeId) (sz : Nat) (v : Value) (n : Nat) (xs : List Value) : Prop :=
 xs.length = n * sz ∧ ((n = 0 ∧ ∃ A, v = .slice A 0 0) ∨
 ∃ b o cap cur, v = .slice (some ⟨b, o, none⟩) n (cap + 1) ∧ n ≤ cap + 1 ∧ cap + 1 ≤ maxLen ∧ h b = some (.cells cur e (0, 0)) ∧ o + (cap + 1) * sz ≤ cur.size ∧ (cur.toList.drop o).take (n * sz) = xs)
/-- all but the block that v is a row of is as it was; where there is room the row stays where it is -/
def KeptBut (v v' : Value) (h h' : PH) : Prop := (∀ k, rowBlk v ≠ some k → h k ≠ none → h' k = h k) ∧ ∀ A n c A' m c', v = .slice A n c → v' = .slice A' m c' → (m ≤ c → A' = A ∧ c' = c) ∧ (c < m → ∀ b, rowBlk v' = some b → h b = none)
def one' (xs : List Value) : Prop := ∀ u ∈ xs, u.oneCell' = true

def bnd (φ : Fr) (x : Option Operand) (l d : Nat) : Prop := match x with
 | none => l = d
 | some y => (val φ y).1 = true ∧ ∃ ki, (val φ y).2 = .int ki (l : Nat)
/-- an address is of this local box, or of no local box -/
def atB (q : Option Nat) : Sl → Prop
 | .ref _ s _ _ => q = some s
 | .v _ _ => q = none
 | _ => False
/-- operations that ask something of memory, or may fail -/
def askV (P : Program) (Γ : Ctx) (φ : Fr) (e : Bool) : SOp → (Sl → Prop) → Prop
 | .idiv op x y, k => match val φ x, val φ y with
  | (ex, .int kx a), (ey, .int ky b) => (op = .quo ∨ op = .rem) ∧ kx = ky ∧ (e = true → ex = true ∧ ey = true ∧ b ≠ 0) ∧ k (.v e (idivV op kx a b))
  | _, _ => False
 | .ishift op x y, k => match val φ x, val φ y with
  | (ex, .int kx a), (ey, .int ky b) => (op = .shl ∨ op = .shr) ∧ (e = true → ex = true ∧ ey = true ∧ 0 ≤ b) ∧ k (.v e (ishiftV op kx a b))
  | _, _ => False
 | .idx sz x i, k => match val φ x, val φ i with
  | (ex, .slice A n cap), (ei, .int ki j) => ∃ b o, (e = true → ex = true ∧ ei = true ∧ A = some ⟨b, o, none⟩ ∧ 0 ≤ j ∧ j < n) ∧ k (.v e (.pointer (some ⟨b, o + j.toNat * sz, none⟩)))
  | _, _ => False
 | .idxA len sz x i, k => match slotOf φ e x, val φ i with
  | .ref _ s b o, (ei, .int ki j) => (e = true → (val φ x).1 = true ∧ ei = true ∧ 0 ≤ j ∧ j < len) ∧ k (.ref e s b (o + j.toNat * sz))
  | .v _ (.pointer (some ⟨b, o, none⟩)), (ei, .int ki j) => (e = true → (val φ x).1 = true ∧ ei = true ∧ 0 ≤ j ∧ j < len) ∧ k (.v e (.pointer (some ⟨b, o + j.toNat * sz, none⟩)))
  | _, _ => False
 | .load agg n x, k => match slotOf φ e x with
  | .ref _ s b o => match look φ s with
   | .box b' T cs => b' = b ∧ (e = true → (val φ x).1 = true) ∧ o + n ≤ cs.length ∧ (agg = false → n = 1) ∧ k (.v e (mkv agg ((cs.drop o).take n)))
   | _ => False
  | .v _ (.pointer (some ⟨b, o, none⟩)) => (agg = false → n = 1) ∧ ∃ vs, vs.length = n ∧ (e = true → (val φ x).1 = true ∧ Cells Γ b o vs) ∧ k (.v e (mkv agg vs))
  | _ => False
 | .slc sz x lo hi none, k => match val φ x with
  | (ex, .slice A n cap) => ∃ l h, (e = true → ex = true ∧ bnd φ lo l 0 ∧ bnd φ hi h n ∧ l ≤ h ∧ h ≤ cap) ∧
      k (.v e (.slice (if cap = l then A else A.map (·.add (l * sz))) (h - l) (cap - l)))
  | _ => False
 | .q c xs, k => ∃ r, (e = true → allOn φ true xs ∧ QR P c (vals φ xs) Γ r) ∧ k (.v e r)
 | .loadB q agg n x, k => atB q (slotOf φ e x) ∧ (match slotOf φ e x with
  | .ref _ s b o => match look φ s with
   | .box b' T cs => b' = b ∧ (e = true → (val φ x).1 = true) ∧ o + n ≤ cs.length ∧ (agg = false → n = 1) ∧ k (.v e (mkv agg ((cs.drop o).take n)))
   | _ => False
  | .v _ (.pointer (some ⟨b, o, none⟩)) => (agg = false → n = 1) ∧ ∃ vs, vs.length = n ∧ (e = true → (val φ x).1 = true ∧ Cells Γ b o vs) ∧ k (.v e (mkv agg vs))
  | _ => False)
 | _, _ => False
def isAsk : SOp → Bool
 | .idiv .. | .ishift .. | .idx .. | .idxA .. | .load .. | .slc _ _ _ _ none | .q .. | .loadB .. => true
 | _ => false

def CallVC (P : Program) (Γr : Ctx) (f : FuncId) (args : List Value) (Γ : Ctx) (k : Value → Ctx → Prop) : Prop :=
 ∃ Γr1 Γm Γf R, Ret P f args Γr1 Γm R ∧ Γ.Perm (Γm ++ Γf) ∧ Γr1.Sublist (Γf ++ Γr) ∧ ∀ v Γ', R v Γ' → k v (Γ' ++ Γf)

/-- operations that make or change memory, and calls -/
def effV (P : Program) (Γr : Ctx) (φ : Fr) (Γ : Ctx) (d : Option Nat) : SOp → (Fr → Ctx → Prop) → Prop
 | .box true T x, k => (val φ x).1 = true ∧ one' (cellsV (val φ x).2) ∧ ∀ b, k (put φ d (.box b T (cellsV (val φ x).2))) Γ
 | .box false T x, k => (val φ x).1 = true ∧ one' (cellsV (val φ x).2) ∧ ∀ b, k (put φ d (.v true (.pointer (some ⟨b, 0, none⟩)))) (one b (.cells (cellsV (val φ x).2).toArray T) :: Γ)
 | .alloc true T z, k => ∀ b, k (put φ d (.box b T (cellsV z))) Γ
 | .alloc false T z, k => ∀ b, k (put φ d (.v true (.pointer (some ⟨b, 0, none⟩)))) (one b (.cells (cellsV z).toArray T) :: Γ)
 | .buildS t n z parts, k => partOn φ true parts ∧ fits (partVals φ parts) ∧ ∀ b, k (put φ d (.v true (.slice (some ⟨b, 0, none⟩) n n))) (one b (.cells (fillL z (partVals φ parts)).toArray t) :: Γ)
 | .store n x y, k => (val φ x).1 = true ∧ (val φ y).1 = true ∧ (cellsV (val φ y).2).length = n ∧ one' (cellsV (val φ y).2) ∧ (match slotOf φ true x with
  | .ref _ s b o => (match look φ s with
   | .box b' T cs => b' = b ∧ o + n ≤ cs.length ∧ k (updBox φ s (setC cs o n (val φ y).2)) Γ
   | _ => False)
  | .v _ (.pointer (some ⟨b, o, none⟩)) => ∃ i h cells T, Γ[i]? = some h ∧ h b = some (.cells cells T (0, 0)) ∧ o + n ≤ cells.size ∧
    k φ (Γ.set i (upd h b (.cells (setC cells.toList o n (val φ y).2).toArray T)))
  | _ => False)
 | .append t e sz bytes z s x, k => (val φ s).1 = true ∧ (val φ x).1 = true ∧ (match (val φ x).2 with
  | .slice A m c => ∃ i h n xs news, Γ[i]? = some h ∧ Row h e sz (val φ s).2 n xs ∧ news.length = m * sz ∧ one' news ∧ (m = 0 ∨ ∃ b o, A = some ⟨b, o, none⟩ ∧ Cells (Γ ++ Γr) b o news) ∧
    (n + m) * bytes ≤ 140737488355328 ∧ n + m ≤ maxLen ∧
    ∀ v' h', Row h' e sz v' (n + m) (xs ++ news) → Row h' e sz (val φ s).2 n xs → KeptBut (val φ s).2 v' h h' → k (put φ d (.v true v')) (Γ.set i h')
  | _ => False)
 | .appz t u e sz bytes z s x, k => (val φ s).1 = true ∧ (val φ x).1 = true ∧ (match (val φ s).2, (val φ x).2 with
  | .slice A 0 0, .int .i64 m => 0 ≤ m ∧ m * bytes ≤ 140737488355328 ∧ m ≤ maxLen ∧ ∃ i h, Γ[i]? = some h ∧
    ∀ v' h', Row h' e sz v' m.toNat (zerosL (cellsV z) m.toNat) → KeptBut (.slice A 0 0) v' h h' → k (put φ d (.v true v')) (Γ.set i h')
  | _, _ => False)
 | .mk e sz bytes z n c, k => (match val φ n, val φ c with
  | (true, .int .i64 m), (true, .int .i64 p) => 0 ≤ m ∧ m ≤ p ∧ p * bytes ≤ 140737488355328 ∧ ∀ b, k (put φ d (.v true (.slice (some ⟨b, 0, none⟩) m.toNat p.toNat))) (one b (.cells (zerosL (cellsV z) p.toNat).toArray e) :: Γ)
  | _, _ => False)
 | .call f args, k => allOn φ true args ∧ (match val φ f with
  | (true, .func (.func g) c1 c2) => CallVC P Γr g (c1.toList ++ vals φ args ++ c2.toList) Γ (fun v Γ' => k (put φ d (.v true v)) Γ')
  | _ => False)
 | .a c xs, k => allOn φ true xs ∧ ∀ w, Holds (Γ ++ Γr) w → ∃ v w' m, (qsem c (vals φ xs)).run P w = .ok v w' ∧
   ((w' = w.drewN m ∧ k (put φ d (.v true v)) Γ) ∨ ∃ i h b p q, Γ[i]? = some h ∧ h b = some p ∧ w' = setBlk (w.drewN m) b q ∧ k (put φ d (.v true v)) (Γ.set i (upd h b q)))
 | .n c xs, k => allOn φ true xs ∧ ∀ w, Holds (Γ ++ Γr) w → ∃ v q, (qsem c (vals φ xs)).run P w = .ok v (w.alloc q) ∧ k (put φ d (.v true v)) (one w.heap.size q :: Γ)
 | _, _ => False

def vcOps (P : Program) (Γr : Ctx) : List SOper → Fr → Ctx → (Fr → Ctx → Prop) → Prop
 | [], φ, Γ, K => K φ Γ
 | ⟨d, none, op⟩ :: r, φ, Γ, K =>
  bif isPure op then pureV φ true op (fun x => vcOps P Γr r (put φ d x) Γ K)
  else bif isAsk op then askV P (Γ ++ Γr) φ true op (fun x => vcOps P Γr r (put φ d x) Γ K)
  else effV P Γr φ Γ d op (fun φ' Γ' => vcOps P Γr r φ' Γ' K)
 | ⟨d, some g, op⟩ :: r, φ, Γ, K => match gd φ (some g) with
  | some e =>
   bif isPure op then pureV φ e op (fun x => vcOps P Γr r (put φ d x) Γ K)
   else bif isAsk op then askV P (Γ ++ Γr) φ e op (fun x => vcOps P Γr r (put φ d x) Γ K)
   else (e = true → effV P Γr φ Γ d op (fun φ' Γ' => vcOps P Γr r φ' Γ' K)) ∧ (e = false → ∃ x, vcOps P Γr r (put φ d (.v false x)) Γ K)
  | none => False

/-- one operation; an early one asks only of what is not changed -/
def ctxOf : Bool → Ctx → Ctx → Ctx
 | true, _, Γr => Γr
 | false, Γ, Γr => Γ ++ Γr
def vc1 (P : Program) (Γr : Ctx) (early : Bool) (o : SOper) (φ : Fr) (Γ : Ctx) (K : Fr → Ctx → Prop) : Prop := match gd φ o.guard with
 | some e =>
  bif isPure o.op then pureV φ e o.op (fun x => K (put φ o.dst x) Γ)
  else bif isAsk o.op then askV P (ctxOf early Γ Γr) φ e o.op (fun x => K (put φ o.dst x) Γ)
  else (e = true → effV P Γr φ Γ o.dst o.op K) ∧ (e = false → ∃ x, K (put φ o.dst (.v false x)) Γ)
 | none => False
def vcD (P : Program) (Γr : Ctx) : List (Bool × SOper) → Fr → Ctx → (Fr → Ctx → Prop) → Prop
 | [], φ, Γ, K => K φ Γ
 | x :: r, φ, Γ, K => vc1 P Γr x.1 x.2 φ Γ (fun φ' Γ' => vcD P Γr r φ' Γ' K)
def vcT (P : Program) (Γr : Ctx) : DT (Bool × SOper) → Fr → Ctx → (Fr → Ctx → Prop) → Prop
 | .fin, φ, Γ, K => K φ Γ
 | .q x r, φ, Γ, K => vc1 P Γr x.1 x.2 φ Γ (fun φ' Γ' => vcT P Γr r φ' Γ' K)
 | .alt e r s, φ, Γ, K => vc1 P Γr e.1 e.2 φ Γ (fun φ' Γ' => vcT P Γr r φ' Γ' K) ∧ vcT P Γr s φ Γ K
 | .no, _, _, _ => True
def isBox : Sl → Bool
 | .box _ _ _ => true
 | _ => false
/-- what these operations put something into is no box -/
def noBoxes (φ : Fr) : List (Bool × SOper) → Prop
 | [] => True
 | x :: r => (match x.2.dst with | some d => isBox (look φ d) = false | none => True) ∧ noBoxes φ r

def noBoxesT (φ : Fr) : DT (Bool × SOper) → Prop
 | .q x r => (match x.2.dst with | some d => isBox (look φ d) = false | none => True) ∧ noBoxesT φ r
 | .alt e r s => (match e.2.dst with | some d => isBox (look φ d) = false | none => True) ∧ noBoxesT φ r
 | _ => True
def anyEarly : List (Bool × SOper) → Bool
 | [] => false
 | x :: r => x.1 || anyEarly r

/-! ### which slots an operation looks at -/
def rdO : Operand → List Nat
 | .tmp t => [t]
 | _ => []
def rdL : List Operand → List Nat
 | [] => []
 | x :: r => rdO x ++ rdL r
def rdP : List (Nat × Nat × Operand) → List Nat
 | [] => []
 | (_, _, x) :: r => rdO x ++ rdP r
def rdB : Option Operand → List Nat
 | some x => rdO x
 | none => []
def rdG : Option (Nat × Bool) → List Nat
 | some (t, _) => [t]
 | none => []
def rd : SOp → List Nat
 | .mv x | .un _ x | .conv _ x | .fld _ x | .nilCheck x | .field _ _ _ x | .len _ x | .extract _ x | .box _ _ x | .load _ _ x | .loadB _ _ _ x => rdO x
 | .pick c a b => rdO c ++ (rdO a ++ rdO b)
 | .ibin _ x y | .sbin _ x y | .beq _ x y | .nilq _ _ x y | .idiv _ x y | .ishift _ x y | .store _ x y | .idx _ x y | .idxA _ _ x y | .append _ _ _ _ _ x y | .appz _ _ _ _ _ _ x y | .mk _ _ _ _ x y => rdO x ++ rdO y
 | .mkFunc _ l => rdL l
 | .call f l => rdO f ++ rdL l
 | .build _ _ l | .buildS _ _ _ l => rdP l
 | .slc _ x a b c => rdO x ++ (rdB a ++ rdB b)
 | .fn _ l | .q _ l | .a _ l | .n _ l => rdL l
 | .alloc .. | .dead => []
def rdS (o : SOper) : List Nat := rdG o.guard ++ rd o.op
def isLoad : SOp → Bool
 | .load .. | .q .. | .loadB .. => true
 | _ => false
/-- operations that change what was there -/
def modi : SOp → Nat
 | .store .. | .a .. => 2
 | .append .. | .appz .. | .call .. => 1
 | _ => 0
def dstIn (o : SOper) (l : List Nat) : Bool := match o.dst with
 | some d => l.contains d
 | none => false
def dstEq (x y : SOper) : Bool := match x.dst, y.dst with
 | some d, some d' => d == d'
 | _, _ => false
/-- y may come ahead of x -/
def mayPass (x y : Bool × SOper) : Bool :=
 (isPure x.2.op || isAsk x.2.op) && !dstIn x.2 (rdS y.2) && !dstIn y.2 (rdS x.2) && (!isLoad x.2.op || modi y.2.op == 0 || (modi y.2.op == 1 && x.1))

/-- what is stored into: a local box, perhaps -/
def boxSt : SOp → Option Nat
 | .store _ (.tmp d) _ => some d
 | _ => none
/-- a load that is not of the local box that is stored into -/
def passB (x y : SOper) : Bool :=
 !dstIn x (rdS y) && !dstIn y (rdS x) && (match x.op, boxSt y.op with | .loadB q _ _ _, some d => !(q == some d) | _, _ => false)
/-- what is stored into is a local box -/
def boxesB (φ : Fr) : List (Bool × SOper) → Prop
 | [] => True
 | x :: r => (match boxSt x.2.op with | some d => isBox (look φ d) = true | none => True) ∧ boxesB φ r

/-! ### from the program's text -/
def isTiny (P : Program) (t : TypeId) : Bool := match P.underlying t with | some (.struct _) => true | some (.array _ _) => true | _ => false
def szOf (P : Program) (t : TypeId) : Option Nat := match P.underlying t with | some _ => (P.info? t).map (·.size) | none => none
def fieldsOf (P : Program) (t : TypeId) : Option (Array Field) := match P.underlying t with | some (.struct fs) => some fs | _ => none
def nilC (kd : Nat) (op : BinOp) (x : Operand) : Operand → Option SOp
 | .const v => bif isNil kd v then (match op with | .eql => some (.nilq kd false x (.const v)) | .neq => some (.nilq kd true x (.const v)) | _ => none) else none
 | _ => none
def mapParts (N : Nat) (place : Nat → Option (Nat × Nat)) : List (Nat × Operand) → Option (List (Nat × Nat × Operand))
 | [] => some []
 | (i, x) :: r => match place i, mapParts N place r with
  | some (off, n), some l => bif decide (off + n ≤ N) then some ((off, n, x) :: l) else none
  | _, _ => none
def placeOf (P : Program) (fs : Array Field) (i : Nat) : Option (Nat × Nat) := match fs[i]? with | some f => (szOf P f.type).map (fun s => (f.offset, s)) | none => none
def intKind : BinOp → Nat
 | .add | .sub | .mul | .eql | .neq | .lss | .leq | .gtr | .geq => 0
 | .quo | .rem => 1
 | .shl | .shr => 2
 | _ => 3
def trBin (P : Program) (op : BinOp) (t : TypeId) (x y : Operand) : Option SOp :=
 match P.underlying t with
  | some (.int _) => match intKind op with
   | 0 => some (.ibin op x y)
   | 1 => some (.idiv op x y)
   | 2 => some (.ishift op x y)
   | _ => (match op with | .and | .or | .xor | .andNot => some (.fn (.bits op) [x, y]) | _ => none)
  | some .string => (match op with | .add => some (.fn .cat [x, y]) | .eql | .neq => some (.sbin op x y) | _ => none)
  | some .bool => match op with | .eql => some (.beq false x y) | .neq => some (.beq true x y) | _ => none
  | some (.slice _) => nilC 0 op x y
  | some (.pointer _) => nilC 1 op x y
  | some (.map _ _) => nilC 2 op x y
  | some (.func _ _ _) => nilC 3 op x y
  | _ => none
def trLen (P : Program) : List Operand → List TypeId → Option SOp
 | [x], [t] => match P.underlying t with
  | some (.slice _) => some (.len false x)
  | some .string => some (.len true x)
  | _ => none
 | _, _ => none
def trMin (P : Program) (c : Fk) : List Operand → List TypeId → Option SOp
 | [x, y], [t, _] => match P.underlying t with
  | some (.int _) => some (.fn c [x, y])
  | _ => none
 | _, _ => none
def trAppend (P : Program) : List Operand → List TypeId → Option SOp
 | [s, x], [t, u] => match P.underlying t with
  | some (.slice e) => match P.info? e with
   | some i => match i.zero with
    | some z => bif decide (t = u) && decide (0 < i.size) && decide ((cellsV z).length = i.size) then some (.append t e i.size i.bytes z s x) else
     (match P.underlying u with
     | some (.int .i64) => bif decide (0 < i.size) && decide (0 < i.bytes) && decide ((cellsV z).length = i.size) then some (.appz t u e i.size i.bytes z s x) else none
     | _ => none)
    | none => none
   | none => none
  | _ => none
 | _, _ => none
def trCall (P : Program) (c : Call) : Option SOp := match c.callee with
  | .value f => some (.call f c.args.toList)
  | .builtin .len => trLen P c.args.toList c.argTypes.toList
  | .builtin .append => trAppend P c.args.toList c.argTypes.toList
  | .builtin .min => trMin P .min c.args.toList c.argTypes.toList
  | .builtin .max => trMin P .max c.args.toList c.argTypes.toList
  | _ => none
def trBuild (P : Program) (t : TypeId) (parts : List (Nat × Operand)) : Option SOp :=
 match P.underlying t, (P.info? t).bind (·.zero) with
  | some (.struct fs), some z => match mapParts (cellsV z).length (placeOf P fs) parts with
   | some l => bif fs.toList.all (fun f => (szOf P f.type).isSome) then some (.build t (cellsV z) l) else none
   | none => none
  | some (.array _ el), some z => match szOf P el with
   | some sz => match mapParts (cellsV z).length (fun i => some (i * sz, sz)) parts with
    | some l => some (.build t (cellsV z) l)
    | none => none
   | none => none
  | _, _ => none
def trBuildS (P : Program) (t : TypeId) (n : Nat) (parts : List (Nat × Operand)) : Option SOp :=
 match P.underlying t with
  | some (.slice e) => match (P.info? e).bind (·.zero), szOf P e with
   | some z, some sz => match mapParts (n * sz) (fun i => some (i * sz, sz)) parts with
    | some l => bif decide (0 < sz) && decide (n * sz ≤ 1000) && decide ((cellsV z).length = sz) then some (.buildS e n (zerosL (cellsV z) n) l) else none
    | none => none
   | _, _ => none
  | _ => none
def optL : Option Operand → List Operand
 | some x => [x]
 | none => []
def trBi : Builtin → Option (Nat × Nat)
 | .cap => some (0, 0)
 | .clear => some (1, 1)
 | .copy => some (1, 2)
 | .delete => some (1, 3)
 | .len => some (0, 4)
 | .min => some (0, 5)
 | .max => some (0, 6)
 | _ => none
/-- operations that go by the meaning of their text: 0 read, 1 change one block, 2 make a new one -/
def trQ : Op → Option (Nat × Qk × List Operand)
 | .binOp op t x y _ => some (0, .bin op t x y, [x, y])
 | .convert s d x => some (0, .cnv s d, [x])
 | .call c => match c.callee with
  | .builtin b => (match trBi b with | some (k, i) => some (k, .bi i c.argTypes.toList, c.args.toList) | none => none)
  | _ => none
 | .slice t x lo hi mx => some (0, .slc t lo.isSome hi.isSome mx.isSome, x :: (optL lo ++ (optL hi ++ optL mx)))
 | .index t x i => some (0, .index t, [x, i])
 | .lookup t x i ok => some (0, .look t ok, [x, i])
 | .mapUpdate t m k x => some (1, .upd t, [m, k, x])
 | .insert t m k x => some (1, .upd t, [m, k, x])
 | .makeMap t r => some (2, .mkmap t, optL r)
 | .range t x => some (2, .rng t, [x])
 | .next it str => some (1, .next str, [it])
 | .entry it => some (0, .entry, [it])
 | .mapEntry t m k => some (1, .ment t, [m, k])
 | .entryStore t m s x => some (1, .estore t, [m, s, x])
 | _ => none
def trOp0 (P : Program) (loc : Bool) : Op → Option SOp
 | .move x => some (.mv x)
 | .assign x => some (.mv x)
 | .pick c a b => some (.pick c a b)
 | .binOp op t x y _ => trBin P op t x y
 | .unOp op t x => some (.un op x)
 | .convert s d x => match P.underlying s, P.underlying d with
  | some (.int _), some (.int k) => some (.conv k x)
  | some (.int _), some .string => some (.fn .rune [x])
  | _, _ => none
 | .box T x => some (.box loc T x)
 | .alloc T => match (P.info? T).bind (·.zero) with | some z => some (.alloc loc T z) | none => none
 | .build t parts => trBuild P t parts.toList
 | .buildSlice t n parts => trBuildS P t n parts.toList
 | .load t x => match szOf P t with | some n => some (.load (isTiny P t) n x) | none => none
 | .store t x v => match szOf P t with | some n => some (.store n x v) | none => none
 | .nilCheck x => some (.nilCheck x)
 | .fieldAddr t x i => match fieldsOf P t with
  | some fs => match fs[i]? with
   | some f => match szOf P f.type with | some (_ + 1) => some (.fld f.offset x) | _ => none
   | none => none
  | none => none
 | .field t x i => match fieldsOf P t with
  | some fs => match fs[i]? with
   | some f => match szOf P f.type with | some n => some (.field (isTiny P f.type) f.offset n x) | _ => none
   | none => none
  | none => none
 | .indexAddr t x i => match P.underlying t with
  | some (.slice e) => match szOf P e with | some n => some (.idx n x i) | none => none
  | some (.array len e) => match szOf P e with | some n => bif decide (1 < len) then some (.idxA len n x i) else none | none => none
  | _ => none
 | .slice t x lo hi mx => match P.underlying t with
  | some (.slice e) => match szOf P e, mx with | some n, none => some (.slc n x lo hi none) | _, _ => none
  | _ => none
 | .makeSlice t n c => match P.underlying t with
  | some (.slice e) => match P.info? e with
   | some i => match i.zero with
    | some z => bif decide (0 < i.size) && decide (0 < i.bytes) && decide ((cellsV z).length = i.size) then some (.mk e i.size i.bytes z n c) else none
    | none => none
   | none => none
  | _ => none
 | .makeFunc (.func f) first caps => bif first.isEmpty then some (.mkFunc f caps.toList) else none
 | .extract x i => some (.extract i x)
 | .call c => trCall P c
 | _ => none
def trOp (P : Program) (loc : Bool) (o : Op) : Option SOp := match trOp0 P loc o with
 | some s => some s
 | none => match trQ o with
  | some (0, c, xs) => some (.q c xs)
  | some (1, c, xs) => some (.a c xs)
  | some (_, c, xs) => some (.n c xs)
  | none => some .dead
def noStore : SOp → Bool
 | .store _ _ _ => false
 | _ => true
def trOper (P : Program) (n : Nat) (locs : List Nat) (ops : Array Oper) (o : Oper) : Option SOper :=
 let gdc : Option (Option (Nat × Bool)) := match o.guard with
  | none => some none
  | some (j, want) => match (ops[j]?).bind (·.dst) with
   | some t => bif decide (t < n) then some (some (t, want)) else none
   | none => none
 match gdc, trOp P (match o.dst with | some d => locs.contains d | none => false) o.op with
 | some g, some s => (match o.dst with
  | some d => bif decide (d < n) && noStore s then some ⟨o.dst, g, s⟩ else none
  | none => some ⟨none, g, s⟩)
 | _, _ => none
def trOpers (P : Program) (n : Nat) (locs : List Nat) (ops : Array Oper) : List Oper → Option (List SOper)
 | [] => some []
 | o :: r => match trOper P n locs ops o, trOpers P n locs ops r with
  | some s, some l => some (s :: l)
  | _, _ => none

/-! ### statements -/
def allQuiet : List SOper → Bool
 | [] => true
 | o :: r => (isPure o.op || isAsk o.op) && allQuiet r
/-- what stands behind a region -/
def Fin (L : List Nat) (K : Fr → Ctx → Prop) : Fr → Ctx → Prop := fun φ Γ => K (proj φ L) Γ
def Post.seq (Q : Post) (K : Fr → Ctx → Prop) : Post := { nrm := K, ret := Q.ret, ex := Q.ex }
def Post.inBlock (Q : Post) (id : Nat) : Post := { nrm := Q.nrm, ret := Q.ret, ex := fun j φ Γ => bif j == id then Q.nrm φ Γ else Q.ex j φ Γ }
def vc (P : Program) (Γr : Ctx) : Stmt → Fr → Ctx → Post → Prop
 | .region ops L, φ, Γ, Q => vcOps P Γr ops φ Γ (Fin L Q.nrm)
 | .quiet ops L, φ, Γ, Q => vcOps P Γr ops φ Γ (Fin L Q.nrm)
 | .drawn ops L, φ, Γ, Q => noBoxes φ ops ∧ (bif anyEarly ops then ∃ Γm Γf, Ent Γ (Γm ++ Γf) ∧ vcD P (Γf ++ Γr) ops φ Γm (fun φ' Γ' => Q.nrm (proj φ' L) (Γ' ++ Γf)) else vcD P Γr ops φ Γ (Fin L Q.nrm))
 | .drawnB ops L, φ, Γ, Q => noBoxes φ ops ∧ boxesB φ ops ∧ vcD P Γr ops φ Γ (Fin L Q.nrm)
 | .tree t L, φ, Γ, Q => noBoxesT φ t ∧ ∃ (Γm Γf : Ctx) (J : Fr → Ctx → Prop), Ent Γ (Γm ++ Γf) ∧ vcT P (Γf ++ Γr) t φ Γm (fun φ' Γ' => Up (Γ' ++ Γf) (J (proj φ' L))) ∧ ∀ ψ Γ', J ψ Γ' → Q.nrm ψ Γ'
 | .seq a b, φ, Γ, Q => vc P Γr a φ Γ (Q.seq fun φ' Γ' => vc P Γr b φ' Γ' Q)
 | .join a b M N, φ, Γ, Q => ∃ J : List Sl → Ctx → Prop,
   vc P Γr a φ Γ (Q.seq fun φ' Γ' => looks φ' N = looks φ N ∧ Up Γ' (J (looks φ' M))) ∧
   ∀ vs Γ', J vs Γ' → vc P Γr b (zipS M vs ++ proj φ N) Γ' Q
 | .cond c a b, φ, Γ, Q => match val φ c with
  | (e, .bool x) => e = true ∧ (x = true → vc P Γr a φ Γ Q) ∧ (x = false → vc P Γr b φ Γ Q)
  | _ => False
 | .block id a, φ, Γ, Q => vc P Γr a φ Γ (Q.inBlock id)
 | .loop a M N, φ, Γ, Q => ∃ I : Nat → List Sl → Ctx → Prop, (∃ n, Up Γ (I n (looks φ M))) ∧
   ∀ n vs Γ', I n vs Γ' → vc P Γr a (zipS M vs ++ proj φ N) Γ' (Q.seq fun φ' Γ'' => looks φ' N = looks φ N ∧ ∃ n', n' < n ∧ Up Γ'' (I n' (looks φ' M)))
 | .exit id, φ, Γ, Q => Q.ex id φ Γ
 | .ret, φ, Γ, Q => Q.ret φ Γ
 | .skip, φ, Γ, Q => Q.nrm φ Γ
 | .bad, _, _, _ => False

/-- how many ways lead out at the end, and to a block's end -/
def exN (id : Nat) : Code → Nat
 | .seq a b => exN id a + exN id b
 | .cond _ a b => exN id a + exN id b
 | .block _ a => exN id a
 | .loop a => exN id a
 | .exit j => bif j == id then 1 else 0
 | _ => 0
def nx : Code → Nat
 | .seq a b => nx a * nx b
 | .cond _ a b => nx a + nx b
 | .block id a => nx a + exN id a
 | .loop _ | .exit _ | .ret => 0
 | _ => 1
/-- the operations that bind this one -/
def direct (o : Oper) : List Nat := (o.after.toList.filter fun e => Region.binds .any e).map (·.on)
/-- T: for each operation some of those that always come ahead of it -/
def ancOk (ops : List Oper) (T : List (List Nat)) : Nat → List (List Nat) → Bool
 | _, [] => true
 | j, ys :: r => (match ops[j]? with
  | some o => ys.all fun y => (direct o).contains y || (direct o).any fun p => match T[p]? with | some zs => zs.contains y | none => false
  | none => false) && ancOk ops T (j + 1) r
/-- C: an order of them: what binds comes ahead; each pair either is always in this order, or may be turned round -/
def orderOk (B : Bool) (ops : List Oper) (sl : List SOper) (E : List Nat) (T : List (List Nat)) : List Nat → List Nat → Bool
 | _, [] => true
 | seen, j :: r => !seen.contains j && (match ops[j]?, sl[j]?, T[j]? with
  | some o, some y, some tj => (direct o).all (fun p => seen.contains p) &&
   seen.all (fun i => match sl[i]? with | some x => !dstEq x y && (tj.contains i || (mayPass (E.contains i, x) (E.contains j, y) || (B && passB x y))) | none => false)
  | _, _, _ => false) && orderOk B ops sl E T (j :: seen) r
def pickOps (sl : List SOper) (E : List Nat) : List Nat → Option (List (Bool × SOper))
 | [] => some []
 | i :: r => match sl[i]?, pickOps sl E r with
  | some x, some l => some ((E.contains i, x) :: l)
  | _, _ => none
/-- which local box a load is of -/
def annot : List SOper → List Nat → List SOper
 | ⟨d, g, .load agg n x⟩ :: r, 0 :: cs => ⟨d, g, .load agg n x⟩ :: annot r cs
 | ⟨d, g, .load agg n x⟩ :: r, 1 :: cs => ⟨d, g, .loadB none agg n x⟩ :: annot r cs
 | ⟨d, g, .load agg n x⟩ :: r, (s + 2) :: cs => ⟨d, g, .loadB (some s) agg n x⟩ :: annot r cs
 | o :: r, _ :: cs => o :: annot r cs
 | l, [] => l
 | [], _ => []
def trDrawn (B : Bool) (P : Program) (ops : Array Oper) (sl : List SOper) (C E : List Nat) (T : List (List Nat)) : Option (List (Bool × SOper)) :=
 bif P.follows .mixedOrders && decide (C.length = ops.size) && (List.range ops.size).all (fun i => C.contains i) && decide (T.length = ops.size) && ancOk ops.toList T 0 T && orderOk B ops.toList sl E T [] C then pickOps sl E C else none
def opsT : DT Nat → List Nat
 | .q x r => x :: opsT r
 | .alt e r _ => e :: opsT r
 | _ => []
def headsT : DT Nat → List Nat
 | .alt e _ s => e :: headsT s
 | _ => []
/-- what stands ahead in the tree may be passed -/
def pairB (sl : List SOper) (E : List Nat) (T : List (List Nat)) (i j : Nat) : Bool := match sl[i]?, sl[j]?, T[j]? with
 | some x, some y, some tj => !dstEq x y && (tj.contains i || mayPass (E.contains i, x) (E.contains j, y))
 | _, _, _ => false
def okT (sl : List SOper) (E : List Nat) (T : List (List Nat)) : List Nat → DT Nat → Bool
 | seen, .q x r => seen.all (fun i => pairB sl E T i x) && okT sl E T (x :: seen) r
 | seen, .alt e r s => seen.all (fun i => pairB sl E T i e) && okT sl E T seen r && okT sl E T seen s
 | _, _ => true
/-- nothing else may come up -/
def cT (T : List (List Nat)) : Option (List Nat × List Nat) → DT Nat → Bool
 | none, .fin => true
 | none, .q x r => !(opsT r).contains x && cT T none r
 | none, .alt e r s => !(opsT r).contains e && (opsT r).all (fun j => (e :: headsT s).contains j || (match T[j]? with | some tj => (e :: headsT s).any (fun h => tj.contains h) | none => false)) && cT T none r && cT T (some (e :: headsT s, e :: opsT r)) s
 | some (H, O), .alt e r s => !(opsT r).contains e && O.all (fun j => (e :: opsT r).contains j) && (e :: opsT r).all (fun j => O.contains j) && cT T none r && cT T (some (H, O)) s
 | some _, .no => true
 | _, _ => false
def parseT : Nat → List Nat → Option (DT Nat × List Nat)
 | 0, _ => none
 | _ + 1, 0 :: r => some (.fin, r)
 | _ + 1, 1 :: r => some (.no, r)
 | n + 1, 2 :: x :: r => match parseT n r with | some (t, r') => some (.q x t, r') | none => none
 | n + 1, 3 :: x :: r => match parseT n r with
  | some (t, r') => (match parseT n r' with | some (u, r'') => some (.alt x t u, r'') | none => none)
  | none => none
 | _ + 1, _ => none
def pickT (sl : List SOper) (E : List Nat) : DT Nat → Option (DT (Bool × SOper))
 | .fin => some .fin
 | .no => some .no
 | .q x r => match sl[x]?, pickT sl E r with | some y, some t => some (.q (E.contains x, y) t) | _, _ => none
 | .alt e r s => match sl[e]?, pickT sl E r, pickT sl E s with | some y, some t, some u => some (.alt (E.contains e, y) t u) | _, _, _ => none
def dstsOk (sl : List SOper) (n : Nat) : Bool := (List.range n).all fun i => (List.range n).all fun j => i == j || (match sl[i]?, sl[j]? with | some a, some b => !dstEq a b | _, _ => false)
def depsOk : Nat → List Oper → Bool
 | _, [] => true
 | j, o :: r => (direct o).all (fun p => decide (p < j)) && depsOk (j + 1) r
def trTree (P : Program) (ops : Array Oper) (sl : List SOper) (C E : List Nat) (T : List (List Nat)) : Option (DT (Bool × SOper)) := match parseT C.length C with
 | some (t, _) => bif P.follows .mixedOrders && decide ((opsT t).length = ops.size) && (List.range ops.size).all (fun i => (opsT t).contains i) && (opsT t).all (fun i => decide (i < ops.size)) && decide (T.length = ops.size) && ancOk ops.toList T 0 T && okT sl E T [] t && cT T none t && dstsOk sl ops.size && depsOk 0 ops.toList then pickT sl E t else none
 | none => none
def trCode (P : Program) (n : Nat) (locs : List Nat) : Code → List (List Nat) → Option (Stmt × List (List Nat))
 | .skip, A => some (.skip, A)
 | .region _ ops draw, A => match A with
  | L :: A => match trOpers P n locs ops ops.toList with
   | some sl => bif draw then (bif P.follows .mixedOrders && Region.lexB .any ops && allQuiet sl then some (.quiet sl L, A) else
     match A with
     | [] :: [] :: B :: C :: E :: A' => (match trDrawn true P ops (annot sl B) C E (A'.take ops.size) with
      | some l => some (.drawnB l L, A'.drop ops.size)
      | none => none)
     | [] :: C :: E :: A' => (match trTree P ops sl C E (A'.take ops.size) with
      | some l => some (.tree l L, A'.drop ops.size)
      | none => none)
     | C :: E :: A' => (match trDrawn false P ops sl C E (A'.take ops.size) with
      | some l => some (.drawn l L, A'.drop ops.size)
      | none => none)
     | _ => none) else some (.region sl L, A)
   | none => none
  | [] => none
 | .seq a b, A => bif decide (nx a ≤ 1) then
   (match trCode P n locs a A with
   | some (s, A1) => match trCode P n locs b A1 with
    | some (t, A2) => some (.seq s t, A2)
    | none => none
   | none => none)
  else match A with
   | M :: N :: A0 => (match trCode P n locs a A0 with
    | some (s, A1) => match trCode P n locs b A1 with
     | some (t, A2) => some (.join s t M N, A2)
     | none => none
    | none => none)
   | _ => none
 | .cond c a b, A => match trCode P n locs a A with
  | some (s, A1) => match trCode P n locs b A1 with
   | some (t, A2) => some (.cond c s t, A2)
   | none => none
  | none => none
 | .block id a, A => match trCode P n locs a A with
  | some (s, A1) => some (.block id s, A1)
  | none => none
 | .loop a, A => match A with
  | M :: N :: A0 => (match trCode P n locs a A0 with
   | some (s, A1) => some (.loop s M N, A1)
   | none => none)
  | _ => none
 | .exit id, A => some (.exit id, A)
 | .ret, A => some (.ret, A)
 | _, _ => none
def resSlots (P : Program) : List ResultVar → Option (List (Nat × Option (Bool × Nat)))
 | [] => some []
 | .tmp t :: r => match resSlots P r with | some l => some ((t, none) :: l) | none => none
 | .cell t T :: r => match resSlots P r, szOf P T with | some l, some n => some ((t, some (isTiny P T, n)) :: l) | _, _ => none
structure FnS where
 n : Nat
 res : List (Nat × Option (Bool × Nat))
 body : Stmt
def trFn (P : Program) (f : FuncId) (locs : List Nat) (A : List (List Nat)) : Option FnS := match P.funcs[f]? with
 | some fn => match fn.body, resSlots P fn.results.toList with
  | some c, some res => bif fn.name == "runtime.NumGoroutine" then none else match trCode P fn.ntmps locs c A with
   | some (s, _) => some ⟨fn.ntmps, res, s⟩
   | none => none
  | _, _ => none
 | none => none
def args0 : Nat → List Value → Fr
 | _, [] => []
 | i, x :: r => (i, .v true x) :: args0 (i + 1) r
/-- a result that lies in a box -/
def boxV (agg : Bool) (n : Nat) : Sl → Value
 | .box _ _ cs => mkv agg (cs.take n)
 | _ => undef
def boxOn (agg : Bool) (n : Nat) : Sl → Prop
 | .box _ _ cs => n ≤ cs.length ∧ (agg = false → n = 1)
 | _ => False
def slotVals (φ : Fr) : List (Nat × Option (Bool × Nat)) → List Value
 | [] => []
 | (t, none) :: r => (look φ t).val.2 :: slotVals φ r
 | (t, some (agg, n)) :: r => boxV agg n (look φ t) :: slotVals φ r
def slotsOn (φ : Fr) : List (Nat × Option (Bool × Nat)) → Prop
 | [] => True
 | (t, none) :: r => (look φ t).val.1 = true ∧ slotsOn φ r
 | (t, some (agg, n)) :: r => boxOn agg n (look φ t) ∧ slotsOn φ r
def resV : List Value → Value
 | [x] => x
 | l => .tuple l.toArray
def ResultP (res : List (Nat × Option (Bool × Nat))) (R : Value → Ctx → Prop) : Fr → Ctx → Prop := fun φ Γ => slotsOn φ res ∧ Up Γ (R (resV (slotVals φ res)))
def PostR (res : List (Nat × Option (Bool × Nat))) (R : Value → Ctx → Prop) : Post := ⟨ResultP res R, ResultP res R, fun _ _ _ => False⟩

/- The symbolic walk is sound: operations that make or change nothing; no condition. -/
def FitsSl : Sl → Value → Prop
 | .dead, _ => True
 | .v e x, u => u = bif e then x else undef
 | .box b _ _, u => u = .pointer (some ⟨b, 0, none⟩)
 | .ref e _ b off, u => u = bif e then .pointer (some ⟨b, off, none⟩) else undef
def Fits (φ : Fr) (a : Act) : Prop := ∀ t, FitsSl (look φ t) (a.tmps.getD t undef)

theorem eval_of {φ : Fr} {a : Act} (h : Fits φ a) (x : Operand) (hx : (val φ x).1 = true) : a.eval x = (val φ x).2 := by
 cases x with
 | tmp t =>
  have := h t
  simp only [val, Act.eval] at *
  cases hl : look φ t with
  | dead => rw [hl] at hx; simp [Sl.val] at hx
  | v e x => rw [hl] at hx this; simp only [Sl.val] at *; subst hx; simpa [FitsSl] using this
  | box b T cs => rw [hl] at this; simpa [FitsSl, Sl.val] using this
  | ref e s b off => rw [hl] at hx this; simp only [Sl.val] at *; subst hx; simpa [FitsSl] using this
 | const v => rfl
 | global g => rfl
 | func f => rfl

theorem vals_of {φ : Fr} {a : Act} (h : Fits φ a) {e : Bool} (he : e = true) : ∀ (l : List Operand), allOn φ e l → l.map a.eval = vals φ l
 | [], _ => rfl
 | x :: r, hx => by
  obtain ⟨h1, h2⟩ := hx
  simp only [List.map_cons, vals, eval_of h x (h1 he), vals_of h he r h2]

theorem slotOf_val (φ : Fr) (e : Bool) (x : Operand) : (slotOf φ e x).val = (e, (val φ x).2) ∨ (slotOf φ e x = .v e (val φ x).2) := by
 cases x with
 | tmp t => simp only [slotOf, val]; cases hl : look φ t <;> simp [Sl.val]
 | const v => right; rfl
 | global g => right; rfl
 | func f => right; rfl

theorem fits_slotOf {φ : Fr} {a : Act} (h : Fits φ a) (e : Bool) (x : Operand) (hx : e = true → (val φ x).1 = true) :
  (e = true → FitsSl (slotOf φ e x) (a.eval x)) ∧ (e = false → FitsSl (slotOf φ e x) undef) := by
 constructor
 ·intro he
  have hev := eval_of h x (hx he)
  subst he
  rw [hev]
  cases x with
  | tmp t => simp only [slotOf, val] at *; cases hl : look φ t <;> simp [FitsSl, Sl.val]
  | const v => simp [slotOf, FitsSl]
  | global g => simp [slotOf, FitsSl]
  | func f => simp [slotOf, FitsSl]
 ·intro he
  subst he
  cases x with
  | tmp t => simp only [slotOf]; cases hl : look φ t <;> simp [FitsSl]
  | const v => simp [slotOf, FitsSl]
  | global g => simp [slotOf, FitsSl]
  | func f => simp [slotOf, FitsSl]

def notBox : Sl → Prop
 | .box _ _ _ => False
 | .dead => False
 | _ => True
theorem fits_one {x : Sl} {u v : Value} (h : notBox x) (hu : FitsSl x u) (hv : FitsSl x v) : u = v := by
 cases x <;> simp_all [notBox, FitsSl]
theorem slotOf_notBox (φ : Fr) (e : Bool) (x : Operand) : notBox (slotOf φ e x) := by
 cases x with
 | tmp t => simp only [slotOf]; cases look φ t <;> simp [notBox]
 | const v => simp [slotOf, notBox]
 | global g => simp [slotOf, notBox]
 | func f => simp [slotOf, notBox]

section runs
variable {P : Program} (w : World)

theorem run_ibin (op : BinOp) (t : TypeId) (x y : Operand) (k : IntKind) (a b : Int) (hop : ibinOk op = true) :
  ((do eqGuard op t x y (.int k a) (.int k b); binOp op t (.int k a) (.int k b) : Sem Value)).run P w = .ok (ibinV op k a b) w := by
 cases op <;> simp_all [ibinOk, eqGuard, binOp, Op.intArith, Op.intCmp, ibinV] <;> rfl

theorem run_idiv (op : BinOp) (t : TypeId) (x y : Operand) (k : IntKind) (a b : Int) (hop : op = .quo ∨ op = .rem) (hb : b ≠ 0) :
  ((do eqGuard op t x y (.int k a) (.int k b); binOp op t (.int k a) (.int k b) : Sem Value)).run P w = .ok (idivV op k a b) w := by
 rcases hop with rfl | rfl <;> simp_all [eqGuard, binOp, Op.intDiv, idivV]

theorem run_ishift (op : BinOp) (t : TypeId) (x y : Operand) (k ky : IntKind) (a b : Int) (hop : op = .shl ∨ op = .shr) (hb : 0 ≤ b) :
  ((do eqGuard op t x y (.int k a) (.int ky b); binOp op t (.int k a) (.int ky b) : Sem Value)).run P w = .ok (ishiftV op k a b) w := by
 have : ¬ b < 0 := by omega
 rcases hop with rfl | rfl <;> simp [eqGuard, binOp, Op.shift, ishiftV, this]

theorem run_sbin (op : BinOp) (t : TypeId) (x y : Operand) (a b : ByteArray) (r : Value) (hr : sbinV op a b = some r) :
  ((do eqGuard op t x y (.string a) (.string b); binOp op t (.string a) (.string b) : Sem Value)).run P w = .ok r w := by
 cases op <;> simp_all [sbinV, eqGuard, binOp, Op.stringOp]

theorem run_beq (op : BinOp) (t : TypeId) (x y : Operand) (a b : Bool) (neg : Bool) (ht : P.underlying t = some .bool) (hop : op = bif neg then .neq else .eql) :
  ((do eqGuard op t x y (.bool a) (.bool b); binOp op t (.bool a) (.bool b) : Sem Value)).run P w = .ok (.bool ((a == b) != neg)) w := by
 have h : ∀ d : Nat, (Op.equalIn (d + 1) t (.bool a) (.bool b)).run P w = .ok (a == b) w := fun d => by
  simp [Op.equalIn, run_underlying ht]
 subst hop
 cases neg <;> simp [eqGuard, binOp, Op.equal, Op.maxDepth, h 9999]

theorem run_nilq (kd : Nat) (op : BinOp) (t : TypeId) (x y : Operand) (u v : Value) (r : Bool) (neg : Bool)
  (ht : (kd = 0 ∧ ∃ e, P.underlying t = some (.slice e)) ∨ (kd = 1 ∧ ∃ e, P.underlying t = some (.pointer e)) ∨ (kd = 2 ∧ ∃ k e, P.underlying t = some (.map k e)) ∨ (kd = 3 ∧ ∃ p q z, P.underlying t = some (.func p q z)))
  (hop : op = bif neg then .neq else .eql)
  (hu : nilV kd u = some r) (hv : isNil kd v = true) :
  ((do eqGuard op t x y u v; binOp op t u v : Sem Value)).run P w = .ok (.bool (r != neg)) w := by
 subst hop
 have key : ∀ d : Nat, (Op.equalIn (d + 1) t u v).run P w = .ok r w ∧ (∀ (op : BinOp), eqGuard op t x y u v = pure ()) ∧ binOp .eql t u v = (do pure (.bool (← Op.equal t u v))) ∧ binOp .neq t u v = (do pure (.bool (!(← Op.equal t u v)))) := fun d => by
  rcases ht with ⟨rfl, e, ht⟩ | ⟨rfl, e, ht⟩ | ⟨rfl, k, e, ht⟩ | ⟨rfl, p, q, z, ht⟩
  ·cases u <;> simp_all [nilV]
   cases v <;> simp_all [isNil]
   rename_i a n c a' n' c'
   cases a' <;> simp_all
   refine ⟨?_, fun op => by cases op <;> rfl, rfl, rfl⟩
   cases a <;> simp_all [Op.equalIn, run_underlying ht]
  ·cases u <;> simp_all [nilV]
   cases v <;> simp_all [isNil]
   rename_i a a'
   cases a' <;> simp_all
   refine ⟨?_, fun op => by cases op <;> rfl, rfl, rfl⟩
   cases a <;> simp_all [Op.equalIn, run_underlying ht]
  ·cases u <;> simp_all [nilV]
   cases v <;> simp_all [isNil]
   rename_i a a'
   cases a' <;> simp_all
   refine ⟨?_, fun op => by cases op <;> rfl, rfl, rfl⟩
   cases a <;> simp_all [Op.equalIn, run_underlying ht]
  ·cases v <;> simp_all [isNil]
   cases u <;> simp_all [nilV]
   all_goals
    refine ⟨?_, fun op => by cases op <;> rfl, rfl, rfl⟩
    subst hu
    simp [Op.equalIn, run_underlying ht]
 obtain ⟨h, h2, h3, h4⟩ := key 9999
 cases neg <;> simp [h2, h3, h4, Op.equal, Op.maxDepth, h]

theorem run_unV (op : UnOp) (u r : Value) (h : unV op u = some r) : (Op.unary op u).run P w = .ok r w := by
 cases op <;> cases u <;> simp_all [unV, Op.unary, Op.intArith]

theorem run_conv (s d : TypeId) (k ks kx : IntKind) (n : Int) (hs : P.underlying s = some (.int ks)) (hd : P.underlying d = some (.int k)) :
  (convert s d (.int kx n)).run P w = .ok (.int k (k.wrap n)) w := by
 simp [convert, run_underlying hs, run_underlying hd, Conv.intToInt]

theorem szOf_some {t : TypeId} {n : Nat} (h : szOf P t = some n) : (∃ d, P.underlying t = some d) ∧ ∃ i, P.info? t = some i ∧ i.size = n := by
 unfold szOf at h
 split at h
 ·rename_i d hd
  simp only [Option.map_eq_some_iff] at h
  obtain ⟨i, hi, hs⟩ := h
  exact ⟨⟨d, hd⟩, i, hi, hs⟩
 ·simp at h
theorem run_fieldAt (t : TypeId) (fs : Array Field) (i : Nat) (f : Field) (n : Nat) (b o : Nat) (ht : P.underlying t = some (.struct fs)) (hf : fs[i]? = some f)
  (hs : szOf P f.type = some (n + 1)) : (Instr.fieldAt t (.pointer (some ⟨b, o, none⟩)) i).run P w = .ok (.pointer (some ⟨b, o + f.offset, none⟩)) w := by
 obtain ⟨_, j, hj, hjs⟩ := szOf_some hs
 simp [Instr.fieldAt, run_underlying ht, hf, Instr.sureAddr, fieldPlace, sizeOf, typeInfo, hj, hjs, Addr.add]

theorem run_isAgg (t : TypeId) (h : ∃ d, P.underlying t = some d) : (isAgg t).run P w = .ok (isTiny P t) w := by
 obtain ⟨d, hd⟩ := h
 simp only [isAgg, Sem.run_bind, run_underlying hd, Result.andThen_ok, isTiny, hd]
 cases d <;> rfl

theorem run_field (t : TypeId) (fs : Array Field) (i : Nat) (f : Field) (n : Nat) (cs : Array Value) (ht : P.underlying t = some (.struct fs)) (hf : fs[i]? = some f)
  (hs : szOf P f.type = some n) (hn : f.offset + n ≤ cs.size) (h1 : isTiny P f.type = false → n = 1) :
  (Instr.field t (.agg cs) i).run P w = .ok (mkv (isTiny P f.type) ((cs.toList.drop f.offset).take n)) w := by
 obtain ⟨hu, j, hj, hjs⟩ := szOf_some hs
 have hag := run_isAgg (P := P) w f.type hu
 simp only [Instr.field, Sem.run_bind, run_underlying ht, Result.andThen_ok, hf, asAgg, Sem.run_pure, part, hag]
 cases hb : isTiny P f.type with
 | true =>
  simp [sizeOf, typeInfo, hj, hjs, mkv]
  apply Array.ext'
  simp [List.extract_eq_take_drop]
 | false =>
  have := h1 hb
  subst this
  have hlt : f.offset < cs.size := by omega
  simp [mkv, hlt, List.drop_eq_getElem_cons (show f.offset < cs.toList.length by simpa using hlt)]

theorem run_len (str : Bool) (t : TypeId) (ty : TypeId) (u : Value) (n : Int) (ht : (str = false ∧ ∃ e, P.underlying t = some (.slice e)) ∨ (str = true ∧ P.underlying t = some .string)) (hu : lenV str u = some n) :
  (Builtin.len_ #[t] ty #[u]).run P w = .ok (.int .i64 n) w := by
 rcases ht with ⟨rfl, e, ht⟩ | ⟨rfl, ht⟩
 ·cases u <;> simp [lenV] at hu
  subst hu
  simp [Builtin.len_, run_underlying ht, goInt]
 ·cases u <;> simp [lenV] at hu
  subst hu
  simp [Builtin.len_, run_underlying ht, goInt]

theorem run_extract (vs : Array Value) (i : Nat) (r : Value) (h : vs.toList[i]? = some r) : (Instr.extract (.tuple vs) i).run P w = .ok r w := by
 have h' : vs[i]? = some r := by rw [← Array.getElem?_toList]; exact h
 simp [Instr.extract, h']
end runs

/- The symbolic walk is sound: operations that make or change nothing; no condition. -/
/-- what a pure operation yields -/
def Yields (P : Program) (φ : Fr) (e : Bool) (o : Oper) (k : Sl → Prop) : Prop :=
 ∃ sl, k sl ∧ notBox sl ∧ (e = false → FitsSl sl undef) ∧ (e = true → ∀ a w, Fits φ a → ∃ v, (execOp a.eval o).run P w = .ok (.value v) w ∧ FitsSl sl v)

theorem Yields.v {P : Program} {φ : Fr} {e : Bool} {o : Oper} {k : Sl → Prop} {x : Value} (hk : k (.v e x))
  (h : e = true → ∀ a w, Fits φ a → (execOp a.eval o).run P w = .ok (.value x) w) : Yields P φ e o k :=
 ⟨.v e x, hk, trivial, fun he => by subst he; rfl, fun he a w hf => ⟨x, h he a w hf, by subst he; rfl⟩⟩
theorem Yields.r {P : Program} {φ : Fr} {e : Bool} {o : Oper} {k : Sl → Prop} {s b off : Nat} (hk : k (.ref e s b off))
  (h : e = true → ∀ a w, Fits φ a → (execOp a.eval o).run P w = .ok (.value (.pointer (some ⟨b, off, none⟩))) w) : Yields P φ e o k :=
 ⟨.ref e s b off, hk, trivial, fun he => by subst he; rfl, fun he a w hf => ⟨_, h he a w hf, by subst he; rfl⟩⟩

/-- the address that a slot holds -/
theorem addr_of {φ : Fr} {a : Act} (h : Fits φ a) {e : Bool} {x : Operand} (hx : e = true → (val φ x).1 = true) (he : e = true) :
  (∀ e' s b o, slotOf φ e x = .ref e' s b o → a.eval x = .pointer (some ⟨b, o, none⟩)) ∧ (∀ e' u, slotOf φ e x = .v e' u → a.eval x = u) := by
 have h1 := (fits_slotOf h e x hx).1 he
 have h2 : ∀ e' s b o, slotOf φ e x = .ref e' s b o → e' = e := by
  intro e' s b o hs
  cases x with
  | tmp t => simp only [slotOf] at hs; cases hl : look φ t <;> rw [hl] at hs <;> simp at hs <;> exact hs.1.symm
  | const v => simp [slotOf] at hs
  | global g => simp [slotOf] at hs
  | func f => simp [slotOf] at hs
 have h3 : ∀ e' u, slotOf φ e x = .v e' u → e' = e := by
  intro e' u hs
  cases x with
  | tmp t => simp only [slotOf] at hs; cases hl : look φ t <;> rw [hl] at hs <;> simp at hs <;> exact hs.1.symm
  | const v => simp [slotOf] at hs; exact hs.1.symm
  | global g => simp [slotOf] at hs; exact hs.1.symm
  | func f => simp [slotOf] at hs; exact hs.1.symm
 refine ⟨fun e' s b o hs => ?_, fun e' u hs => ?_⟩
 ·have := h2 _ _ _ _ hs; subst this; rw [hs] at h1; simpa [FitsSl, he] using h1
 ·have := h3 _ _ hs; subst this; rw [hs] at h1; simpa [FitsSl, he] using h1

section
variable {P : Program} {φ : Fr} {e : Bool} {o : Oper} {k : Sl → Prop} {loc : Bool}

theorem ok_mv {x : Operand} (ho : o.op = .move x ∨ o.op = .assign x) (hv : pureV φ e (.mv x) k) : Yields P φ e o k := by
 obtain ⟨h1, h2⟩ := hv
 refine ⟨slotOf φ e x, h2, slotOf_notBox φ e x, ?_, fun he a w hf => ⟨a.eval x, ?_, (fits_slotOf hf e x h1).1 he⟩⟩
 ·intro he
  subst he
  cases x with
  | tmp t => simp only [slotOf]; cases look φ t <;> rfl
  | const v => rfl
  | global g => rfl
  | func f => rfl
 ·rcases ho with ho | ho <;> simp [execOp, ho]

theorem ok_pick {c x y : Operand} (ho : o.op = .pick c x y) (hv : pureV φ e (.pick c x y) k) : Yields P φ e o k := by
 simp only [pureV] at hv
 split at hv
 ·rename_i ec cb hc
  obtain ⟨h1, h2, h3, h4⟩ := hv
  refine Yields.v h4 fun he a w hf => ?_
  have e1 := eval_of hf c (by rw [hc]; exact h1 he)
  rw [hc] at e1
  simp only [execOp, ho, e1, asBool, Sem.run_bind, Sem.run_pure, Result.andThen_ok]
  cases cb with
  | true =>
   have e2 := eval_of hf x (h2 he rfl)
   simp [e2, pickV]
   split <;> simp_all
  | false =>
   have e2 := eval_of hf y (h3 he rfl)
   simp [e2, pickV]
   split <;> simp_all
 ·exact hv.elim

theorem ok_ibin {op : BinOp} {t yt : TypeId} {x y : Operand} (ho : o.op = .binOp op t x y yt) (hv : pureV φ e (.ibin op x y) k) : Yields P φ e o k := by
 simp only [pureV] at hv
 split at hv
 ·rename_i ex kx a ey ky b hx hy
  obtain ⟨h1, rfl, h2, h3, h4⟩ := hv
  refine Yields.v h4 fun he ac w hf => ?_
  have e1 := eval_of hf x (by rw [hx]; exact h2 he)
  have e2 := eval_of hf y (by rw [hy]; exact h3 he)
  rw [hx] at e1
  rw [hy] at e2
  simp only [execOp, ho, e1, e2]
  have := run_ibin (P := P) w op t x y kx a b h1
  simp only [Sem.run_bind] at this ⊢
  simp [this]
 ·exact hv.elim

theorem ok_sbin {op : BinOp} {t yt : TypeId} {x y : Operand} (ho : o.op = .binOp op t x y yt) (hv : pureV φ e (.sbin op x y) k) : Yields P φ e o k := by
 simp only [pureV] at hv
 split at hv
 ·rename_i ex a ey b hx hy
  obtain ⟨r, h1, h2, h3, h4⟩ := hv
  refine Yields.v h4 fun he ac w hf => ?_
  have e1 := eval_of hf x (by rw [hx]; exact h2 he)
  have e2 := eval_of hf y (by rw [hy]; exact h3 he)
  rw [hx] at e1
  rw [hy] at e2
  simp only [execOp, ho, e1, e2]
  have := run_sbin (P := P) w op t x y a b r h1
  simp only [Sem.run_bind] at this ⊢
  simp [this]
 ·exact hv.elim

theorem ok_beq {op : BinOp} {t yt : TypeId} {x y : Operand} {neg : Bool} (ht : P.underlying t = some .bool) (hop : op = bif neg then .neq else .eql)
  (ho : o.op = .binOp op t x y yt) (hv : pureV φ e (.beq neg x y) k) : Yields P φ e o k := by
 simp only [pureV] at hv
 split at hv
 ·rename_i ex a ey b hx hy
  obtain ⟨h2, h3, h4⟩ := hv
  refine Yields.v h4 fun he ac w hf => ?_
  have e1 := eval_of hf x (by rw [hx]; exact h2 he)
  have e2 := eval_of hf y (by rw [hy]; exact h3 he)
  rw [hx] at e1
  rw [hy] at e2
  simp only [execOp, ho, e1, e2]
  have := run_beq (P := P) w op t x y a b neg ht hop
  simp only [Sem.run_bind] at this ⊢
  simp [this]
 ·exact hv.elim

theorem ok_nilq {kd : Nat} {op : BinOp} {t yt : TypeId} {x y : Operand} {neg : Bool}
  (ht : (kd = 0 ∧ ∃ e, P.underlying t = some (.slice e)) ∨ (kd = 1 ∧ ∃ e, P.underlying t = some (.pointer e)) ∨ (kd = 2 ∧ ∃ k e, P.underlying t = some (.map k e)) ∨ (kd = 3 ∧ ∃ p q z, P.underlying t = some (.func p q z)))
  (hop : op = bif neg then .neq else .eql) (ho : o.op = .binOp op t x y yt) (hv : pureV φ e (.nilq kd neg x y) k) : Yields P φ e o k := by
 obtain ⟨h1, h1', r, h2, h3, h4⟩ := hv
 refine Yields.v h4 fun he ac w hf => ?_
 have e1 := eval_of hf x (h3 he)
 have e2 := eval_of hf y (h1' he)
 simp only [execOp, ho, e1, e2]
 have := run_nilq (P := P) w kd op t x y _ _ r neg ht hop h2 h1
 simp only [Sem.run_bind] at this ⊢
 simp [this]

theorem ok_un {op : UnOp} {t : TypeId} {x : Operand} (ho : o.op = .unOp op t x) (hv : pureV φ e (.un op x) k) : Yields P φ e o k := by
 obtain ⟨r, h2, h3, h4⟩ := hv
 refine Yields.v h4 fun he ac w hf => ?_
 have e1 := eval_of hf x (h3 he)
 simp [execOp, ho, e1, run_unV (P := P) w op _ r h2]

theorem ok_conv {kd ks : IntKind} {s d : TypeId} {x : Operand} (hs : P.underlying s = some (.int ks)) (hd : P.underlying d = some (.int kd)) (ho : o.op = .convert s d x) (hv : pureV φ e (.conv kd x) k) : Yields P φ e o k := by
 simp only [pureV] at hv
 split at hv
 ·rename_i ex kx n hx
  obtain ⟨h2, h4⟩ := hv
  refine Yields.v h4 fun he ac w hf => ?_
  have e1 := eval_of hf x (by rw [hx]; exact h2 he)
  rw [hx] at e1
  simp [execOp, ho, e1, run_conv (P := P) w s d kd ks kx n hs hd]
 ·exact hv.elim

theorem ok_fld {t : TypeId} {fs : Array Field} {i : Nat} {f : Field} {n : Nat} {x : Operand} (ht : P.underlying t = some (.struct fs)) (hf : fs[i]? = some f)
  (hs : szOf P f.type = some (n + 1)) (ho : o.op = .fieldAddr t x i) (hv : pureV φ e (.fld f.offset x) k) : Yields P φ e o k := by
 simp only [pureV] at hv
 split at hv
 ·rename_i e' s b off hx
  refine Yields.r hv.2 fun he ac w hfit => ?_
  have e1 := (addr_of hfit hv.1 he).1 _ _ _ _ hx
  simp [execOp, ho, e1, run_fieldAt (P := P) w t fs i f n b off ht hf hs]
 ·rename_i e' b off hx
  refine Yields.v hv.2 fun he ac w hfit => ?_
  have e1 := (addr_of hfit hv.1 he).2 _ _ hx
  simp [execOp, ho, e1, run_fieldAt (P := P) w t fs i f n b off ht hf hs]
 ·exact hv.elim

theorem ok_nilCheck {x : Operand} (ho : o.op = .nilCheck x) (hv : pureV φ e (.nilCheck x) k) : Yields P φ e o k := by
 simp only [pureV] at hv
 split at hv
 ·rename_i e' s b off hx
  refine Yields.r hv.2 fun he ac w hfit => ?_
  have e1 := (addr_of hfit hv.1 he).1 _ _ _ _ hx
  simp [execOp, ho, e1]
 ·rename_i e' ad hx
  refine Yields.v hv.2 fun he ac w hfit => ?_
  have e1 := (addr_of hfit hv.1 he).2 _ _ hx
  simp [execOp, ho, e1]
 ·rename_i e' f c1 c2 hx
  refine Yields.v hv.2 fun he ac w hfit => ?_
  have e1 := (addr_of hfit hv.1 he).2 _ _ hx
  simp [execOp, ho, e1]
 ·exact hv.elim

theorem ok_field {t : TypeId} {fs : Array Field} {i : Nat} {f : Field} {n : Nat} {x : Operand} (ht : P.underlying t = some (.struct fs)) (hf : fs[i]? = some f)
  (hs : szOf P f.type = some n) (ho : o.op = .field t x i) (hv : pureV φ e (.field (isTiny P f.type) f.offset n x) k) : Yields P φ e o k := by
 simp only [pureV] at hv
 split at hv
 ·rename_i ex cs hx
  obtain ⟨h1, h2, h3, h4⟩ := hv
  refine Yields.v h4 fun he ac w hfit => ?_
  have e1 := eval_of hfit x (by rw [hx]; exact h1 he)
  rw [hx] at e1
  simp [execOp, ho, e1, run_field (P := P) w t fs i f n cs ht hf hs h2 h3]
 ·exact hv.elim

theorem ok_len {str : Bool} {t : TypeId} {x : Operand} (ht : (str = false ∧ ∃ e, P.underlying t = some (.slice e)) ∨ (str = true ∧ P.underlying t = some .string))
  (ho : o.op = .call { callee := .builtin .len, args := #[x], argTypes := #[t] }) (hv : pureV φ e (.len str x) k) : Yields P φ e o k := by
 obtain ⟨n, h2, h3, h4⟩ := hv
 refine Yields.v h4 fun he ac w hf => ?_
 have e1 := eval_of hf x (h3 he)
 simp [execOp, ho, resolve, invoke, builtin, e1, run_len (P := P) w str t _ _ n ht h2]

theorem ok_extract {i : Nat} {x : Operand} (ho : o.op = .extract x i) (hv : pureV φ e (.extract i x) k) : Yields P φ e o k := by
 simp only [pureV] at hv
 split at hv
 ·rename_i ex vs hx
  obtain ⟨r, h2, h3, h4⟩ := hv
  refine Yields.v h4 fun he ac w hf => ?_
  have e1 := eval_of hf x (by rw [hx]; exact h3 he)
  rw [hx] at e1
  simp [execOp, ho, e1, run_extract (P := P) w vs i r h2]
 ·exact hv.elim

theorem ok_mkFunc {fn : FuncId} {caps : Array Operand} (ho : o.op = .makeFunc (.func fn) #[] caps) (hv : pureV φ e (.mkFunc fn caps.toList) k) : Yields P φ e o k := by
 obtain ⟨h1, h4⟩ := hv
 refine Yields.v h4 fun he ac w hf => ?_
 have e1 := vals_of hf he _ h1
 simp only [execOp, ho, Instr.makeFunc]
 simp [← e1]
 apply Array.ext'
 simp

theorem ok_fn {c : Fk} {xs : List Operand} (hx : ∀ (a : Act) (w : World) (r : Value), fnV c (xs.map a.eval) = some r → (execOp a.eval o).run P w = .ok (.value r) w) (hv : pureV φ e (.fn c xs) k) : Yields P φ e o k := by
 obtain ⟨r, h1, h2⟩ := hv
 refine Yields.v h2 fun he ac w hf => ?_
 obtain ⟨q1, q2⟩ := h1 he
 refine hx ac w r ?_
 rw [vals_of hf rfl xs q1]
 exact q2

/-! parts of a struct or of a slice's literal -/
theorem fill_ok {N : Nat} {place : Nat → Option (Nat × Nat)} {a : Act} {φ : Fr} (hf : Fits φ a) {e : Bool} (he : e = true) : ∀ (parts : List (Nat × Operand)) (l : List (Nat × Nat × Operand)) (z : List Value),
  mapParts N place parts = some l → partOn φ e l → fits (partVals φ l) → z.length = N →
  Instr.fill place z.toArray (parts.map fun p => (p.1, a.eval p.2)) = some (fillL z (partVals φ l)).toArray
 | [], l, z, h, _, _, _ => by
  simp only [mapParts, Option.some.injEq] at h
  subst h
  rfl
 | (i, x) :: r, l, z, h, hon, hfi, hz => by
  simp only [mapParts] at h
  split at h
  ·rename_i off n l' hp hr
   cases hd : decide (off + n ≤ N) with
   | false => rw [hd] at h; simp at h
   | true =>
   rw [hd] at h
   simp only [cond_true, Option.some.injEq] at h
   have hz1 : off + n ≤ z.length := by rw [hz]; exact of_decide_eq_true hd
   subst h
   obtain ⟨h1, h2⟩ := hon
   obtain ⟨h3, h4⟩ := hfi
   have hev := eval_of hf x (h1 he)
   simp only [List.map_cons, Instr.fill, hp, hev, partVals, fillL]
   have hcells : ((val φ x).2.cells.size : Nat) = n := by rw [← h3]; cases (val φ x).2 <;> simp [Value.cells, cellsV]
   have hset : ∀ (cs : List Value) (off : Nat) (z : List Value), off + cs.length ≤ z.length →
     cs.toArray.zipIdx.foldl (fun (q : Array Value) (p : Value × Nat) => q.setIfInBounds (off + p.2) p.1) z.toArray = (z.take off ++ cs ++ z.drop (off + cs.length)).toArray := by
    intro cs off z hle
    have gen : ∀ (cs : List Value) (j off : Nat) (z : List Value), off + j + cs.length ≤ z.length →
      (cs.zipIdx j).foldl (fun (q : Array Value) (p : Value × Nat) => q.setIfInBounds (off + p.2) p.1) z.toArray = (z.take (off + j) ++ cs ++ z.drop (off + j + cs.length)).toArray := by
     intro cs
     induction cs with
     | nil => intro j off z _; simp
     | cons c cs ih =>
      intro j off z hle
      simp only [List.length_cons] at hle
      have := ih (j + 1) off (z.set (off + j) c) (by simp; omega)
      simp only [List.zipIdx_cons, List.foldl_cons, List.setIfInBounds_toArray, this]
      congr 1
      have hlt : off + j < z.length := by omega
      rw [show off + (j + 1) = off + j + 1 by omega, List.drop_set_of_lt (by omega), List.take_add_one, List.take_set_of_le (Nat.le_refl _)]
      simp [hlt, List.append_assoc]
      omega
    have := gen cs 0 off z (by omega)
    simpa using this
   have hcl : (val φ x).2.cells = (cellsV (val φ x).2).toArray := by cases (val φ x).2 <;> simp [Value.cells, cellsV]
   rw [if_neg (by simp [hcells]; omega)]
   rw [hcl, hset _ _ _ (by rw [h3]; omega), h3]
   refine fill_ok hf he r l' _ hr h2 h4 ?_
   simp only [List.length_append, List.length_take, List.length_drop, h3]
   omega
  ·simp at h

theorem ok_build {P : Program} {φ : Fr} {e : Bool} {o : Oper} {k : Sl → Prop} {t : TypeId} {fs : Array Field} {z : Value} {parts : Array (Nat × Operand)} {l : List (Nat × Nat × Operand)}
  (ht : P.underlying t = some (.struct fs)) (hz : (P.info? t).bind (·.zero) = some z)
  (hp : mapParts (cellsV z).length (placeOf P fs) parts.toList = some l)
  (hall : ∀ f ∈ fs, ∃ n, szOf P f.type = some n)
  (ho : o.op = .build t parts) (hv : pureV φ e (.build t (cellsV z) l) k) : Yields P φ e o k := by
 obtain ⟨h1, h2, h4⟩ := hv
 refine Yields.v h4 fun he ac w hf => ?_
 obtain ⟨i, hi, hiz⟩ := Option.bind_eq_some_iff.1 hz
 have hzc : z.cells = (cellsV z).toArray := by cases z <;> simp [Value.cells, cellsV]
 have hm : (fs.mapM (m := Sem) fun f => do pure (f.offset, ← sizeOf f.type)).run P w = .ok (fs.map fun f => (f.offset, (szOf P f.type).getD 0)) w := by
  rw [Array.mapM_eq_mapM_toList]
  have : ∀ (l : List Field), (∀ f ∈ l, ∃ n, szOf P f.type = some n) → (l.mapM (m := Sem) fun f => do pure (f.offset, ← sizeOf f.type)).run P w = .ok (l.map fun f => (f.offset, (szOf P f.type).getD 0)) w := by
   intro l
   induction l with
   | nil => intro _; rfl
   | cons f l ih =>
    intro h
    obtain ⟨n, hn⟩ := h f (by simp)
    obtain ⟨_, j, hj, hjs⟩ := szOf_some hn
    have := ih (fun g hg => h g (by simp [hg]))
    have hs1 : (sizeOf f.type).run P w = .ok n w := by simp [sizeOf, typeInfo, hj, hjs]
    simp only [List.mapM_cons, Sem.run_bind, hs1, Result.andThen_ok, Sem.run_pure, this, List.map_cons, hn, Option.getD_some]
  rw [Sem.run_map, this fs.toList (fun f hf => hall f (by simpa using hf))]
  simp only [Result.andThen_ok]
  congr 1
  apply Array.ext'
  simp
 have hfill := fill_ok hf he parts.toList l (cellsV z) hp h1 h2 rfl
 simp only [execOp, ho, Instr.build, Sem.run_bind, zeroValue, typeInfo, run_program, Result.andThen_ok, hi, Sem.run_pure, hiz, run_underlying ht, hm, hzc]
 have hfun : placeOf P fs = (fun i => (fs.map fun (f : Field) => (f.offset, (szOf P f.type).getD 0))[i]?) := funext fun i => by
  rw [Array.getElem?_map]
  unfold placeOf
  cases hfi : fs[i]? with
  | none => rfl
  | some f =>
   obtain ⟨n, hn⟩ := hall f (Array.mem_of_getElem? hfi)
   simp [hn]
 rw [hfun] at hfill
 have hlist : (parts.map fun x => match x with | (i, x) => (i, ac.eval x)).toList = parts.toList.map fun p => (p.1, ac.eval p.2) := by simp
 simp only [hlist, hfill]
 rfl

theorem ok_buildA {P : Program} {φ : Fr} {e : Bool} {o : Oper} {k : Sl → Prop} {t el : TypeId} {m sz : Nat} {z : Value} {parts : Array (Nat × Operand)} {l : List (Nat × Nat × Operand)}
  (ht : P.underlying t = some (.array m el)) (hz : (P.info? t).bind (·.zero) = some z) (hs : szOf P el = some sz)
  (hp : mapParts (cellsV z).length (fun i => some (i * sz, sz)) parts.toList = some l)
  (ho : o.op = .build t parts) (hv : pureV φ e (.build t (cellsV z) l) k) : Yields P φ e o k := by
 obtain ⟨h1, h2, h4⟩ := hv
 refine Yields.v h4 fun he ac w hf => ?_
 obtain ⟨i, hi, hiz⟩ := Option.bind_eq_some_iff.1 hz
 have hzc : z.cells = (cellsV z).toArray := by cases z <;> simp [Value.cells, cellsV]
 obtain ⟨_, j, hj, hjs⟩ := szOf_some hs
 have hs1 : (sizeOf el).run P w = .ok sz w := by simp [sizeOf, typeInfo, hj, hjs]
 have hfill := fill_ok hf he parts.toList l (cellsV z) hp h1 h2 rfl
 simp only [execOp, ho, Instr.build, Sem.run_bind, zeroValue, typeInfo, run_program, Result.andThen_ok, hi, Sem.run_pure, hiz, run_underlying ht, hs1, hzc]
 have hlist : (parts.map fun x => match x with | (i, x) => (i, ac.eval x)).toList = parts.toList.map fun p => (p.1, ac.eval p.2) := by simp
 simp only [hlist, hfill]
 rfl

end
/- The symbolic walk is sound: the state that it speaks of, and operations that ask something of memory; no condition. -/
structure St (n : Nat) (Γr Γm : Ctx) (w0 : World) (φ : Fr) (Γ : Ctx) (a : Act) (w : World) : Prop where
 n : a.tmps.size = n
 defers : a.defers = []
 fits : Fits φ a
 bx : ∀ t b T cs, look φ t = .box b T cs → w.heap[b]? = some (.cells cs.toArray T (0, 0)) ∧ w0.heap.size ≤ b ∧ ∀ h ∈ Γ ++ Γr, h b = none
 bxd : ∀ t t' b T cs T' cs', look φ t = .box b T cs → look φ t' = .box b T' cs' → t = t'
 sat : Sat (Γ ++ Γr) w
 own : ∀ h ∈ Γ, ∀ k, h k ≠ none → w0.heap.size ≤ k ∨ ∃ g ∈ Γm, g k ≠ none
 os : w.os = w0.os
 tape : w.tape = w0.tape ∧ w0.drawn ≤ w.drawn
 output : w.output = w0.output
 size : w0.heap.size ≤ w.heap.size
 same : ∀ k, k < w0.heap.size → (∀ g ∈ Γm, g k = none) → w.heap[k]? = w0.heap[k]?

theorem getD_put (a : Act) (d t : Nat) (v : Value) (hd : d < a.tmps.size) : (a.put (some d) v).tmps.getD t undef = if d = t then v else a.tmps.getD t undef := by
 simp only [Act.put, Array.getD_eq_getD_getElem?, Array.getElem?_setIfInBounds]
 by_cases h : d = t
 ·subst h; simp [hd]
 ·simp [h]

theorem look_cons (d : Nat) (x : Sl) (φ : Fr) (t : Nat) : look ((d, x) :: φ) t = if d = t then x else look φ t := by
 simp only [look]
 by_cases h : d = t
 ·subst h; simp
 ·have : (d == t) = false := by simpa using h
  simp [this, h]

section
variable {n : Nat} {Γr Γm : Ctx} {w0 : World} {φ : Fr} {Γ : Ctx} {a : Act} {w : World}

/-- one slot more, that is no box -/
theorem St.put (h : St n Γr Γm w0 φ Γ a w) {d : Option Nat} (hd : ∀ t, d = some t → t < n) {x : Sl} {v : Value} (hx : notBox x) (hf : FitsSl x v) :
  St n Γr Γm w0 (V.put φ d x) Γ (a.put d v) w := by
 cases d with
 | none => exact h
 | some d =>
  have hlt : d < a.tmps.size := by rw [h.n]; exact hd d rfl
  refine { h with n := by simp [Act.put, h.n], defers := h.defers, fits := ?_, bx := ?_, bxd := ?_ }
  ·intro t
   simp only [V.put]
   rw [look_cons, getD_put a d t v hlt]
   by_cases e : d = t
   ·simp [e, hf]
   ·simp only [e, if_false]; exact h.fits t
  ·intro t b T cs hl
   simp only [V.put] at hl
   rw [look_cons] at hl
   by_cases e : d = t
   ·rw [if_pos e] at hl; subst hl; exact hx.elim
   ·rw [if_neg e] at hl; exact h.bx t b T cs hl
  ·intro t t' b T cs T' cs' hl hl'
   simp only [V.put] at hl hl'
   rw [look_cons] at hl hl'
   by_cases e : d = t
   ·rw [if_pos e] at hl; subst hl; exact hx.elim
   ·by_cases e' : d = t'
    ·rw [if_pos e'] at hl'; subst hl'; exact hx.elim
    ·rw [if_neg e] at hl; rw [if_neg e'] at hl'; exact h.bxd _ _ _ _ _ _ _ hl hl'

theorem Cells.cell {b o : Nat} {vs : List Value} (h : Cells Γ b o vs) (hs : Sat Γ w) : ∀ j v, vs[j]? = some v → w.cell? ((⟨b, o, none⟩ : Addr).add j) = some v := by
 obtain ⟨g, hg, cells, T, fr, hb, hc⟩ := h
 intro j v hv
 have hlt : j < vs.length := by
  rcases Nat.lt_or_ge j vs.length with h | h
  ·exact h
  ·rw [List.getElem?_eq_none h] at hv; cases hv
 have hadd : (⟨b, o, none⟩ : Addr).add j = ⟨b, o + j, none⟩ := by
  unfold Addr.add
  split
  ·rename_i h0; subst h0; rfl
  ·rfl
 rw [hadd]
 simp only [World.cell?, hs.holds g hg b _ hb]
 rw [if_neg (by simp), hc j hlt, hv]

theorem mkv_run {P : Program} {t : TypeId} {m : Nat} {ad : Addr} {vs : List Value} (hs : szOf P t = some m) (hl : vs.length = m) (h1 : isTiny P t = false → m = 1)
  (hc : ∀ j v, vs[j]? = some v → w.cell? (ad.add j) = some v) : (Instr.loadAt t (.pointer (some ad))).run P w = .ok (mkv (isTiny P t) vs) w := by
 obtain ⟨hu, i, hi, his⟩ := szOf_some hs
 have hag := run_isAgg (P := P) w t hu
 simp only [Instr.loadAt, Instr.sureAddr, loadVar, Sem.run_bind, Sem.run_pure, Result.andThen_ok, hag]
 cases ht : isTiny P t with
 | true =>
  have hr := run_loadCells_list (P := P) w ad vs hc
  rw [hl, ← his] at hr
  simp [sizeOf, typeInfo, hi, hr, mkv]
 | false =>
  have := h1 ht
  match vs, hl with
  | [v], _ =>
   have h0 := hc 0 v rfl
   rw [show ad.add 0 = ad from by simp [Addr.add]] at h0
   simp [h0, mkv]
  | [], hl => simp at hl; omega
  | _ :: _ :: _, hl => simp at hl; omega

/-- what an operation that asks yields -/
def Asks (P : Program) (n : Nat) (Γr Γm : Ctx) (w0 : World) (φ : Fr) (Γ : Ctx) (e : Bool) (o : Oper) (k : Sl → Prop) : Prop :=
 ∃ sl, k sl ∧ notBox sl ∧ (e = false → FitsSl sl undef) ∧ (e = true → ∀ a w, St n Γr Γm w0 φ Γ a w → ∃ v, (execOp a.eval o).run P w = .ok (.value v) w ∧ FitsSl sl v)
theorem Asks.v {P : Program} {e : Bool} {o : Oper} {k : Sl → Prop} {x : Value} (hk : k (.v e x))
  (h : e = true → ∀ a w, St n Γr Γm w0 φ Γ a w → (execOp a.eval o).run P w = .ok (.value x) w) : Asks P n Γr Γm w0 φ Γ e o k :=
 ⟨.v e x, hk, trivial, fun he => by subst he; rfl, fun he a w hs => ⟨x, h he a w hs, by subst he; rfl⟩⟩
theorem Asks.r {P : Program} {e : Bool} {o : Oper} {k : Sl → Prop} {s b off : Nat} (hk : k (.ref e s b off))
  (h : e = true → ∀ a w, St n Γr Γm w0 φ Γ a w → (execOp a.eval o).run P w = .ok (.value (.pointer (some ⟨b, off, none⟩))) w) : Asks P n Γr Γm w0 φ Γ e o k :=
 ⟨.ref e s b off, hk, trivial, fun he => by subst he; rfl, fun he a w hs => ⟨_, h he a w hs, by subst he; rfl⟩⟩

variable {P : Program} {e : Bool} {o : Oper} {k : Sl → Prop}

theorem ok_idiv {op : BinOp} {t yt : TypeId} {x y : Operand} (ho : o.op = .binOp op t x y yt) (hv : askV P (Γ ++ Γr) φ e (.idiv op x y) k) : Asks P n Γr Γm w0 φ Γ e o k := by
 simp only [askV] at hv
 split at hv
 ·rename_i ex kx a ey ky b hx hy
  obtain ⟨h1, rfl, h2, h4⟩ := hv
  refine Asks.v h4 fun he ac w h => ?_
  obtain ⟨q1, q2, q3⟩ := h2 he
  have e1 := eval_of h.fits x (by rw [hx]; exact q1)
  have e2 := eval_of h.fits y (by rw [hy]; exact q2)
  rw [hx] at e1
  rw [hy] at e2
  simp only [execOp, ho, e1, e2]
  have := run_idiv (P := P) w op t x y kx a b h1 q3
  simp only [Sem.run_bind] at this ⊢
  simp [this]
 ·exact hv.elim

theorem ok_ishift {op : BinOp} {t yt : TypeId} {x y : Operand} (ho : o.op = .binOp op t x y yt) (hv : askV P (Γ ++ Γr) φ e (.ishift op x y) k) : Asks P n Γr Γm w0 φ Γ e o k := by
 simp only [askV] at hv
 split at hv
 ·rename_i ex kx a ey ky b hx hy
  obtain ⟨h1, h2, h4⟩ := hv
  refine Asks.v h4 fun he ac w h => ?_
  obtain ⟨q1, q2, q3⟩ := h2 he
  have e1 := eval_of h.fits x (by rw [hx]; exact q1)
  have e2 := eval_of h.fits y (by rw [hy]; exact q2)
  rw [hx] at e1
  rw [hy] at e2
  simp only [execOp, ho, e1, e2]
  have := run_ishift (P := P) w op t x y kx ky a b h1 q3
  simp only [Sem.run_bind] at this ⊢
  simp [this]
 ·exact hv.elim

theorem add_mk (b o j : Nat) : (⟨b, o, none⟩ : Addr).add j = ⟨b, o + j, none⟩ := by
 unfold Addr.add
 split
 ·rename_i h0; subst h0; rfl
 ·rfl

theorem ok_idx {t el : TypeId} {sz : Nat} {x i : Operand} (ht : P.underlying t = some (.slice el)) (hs : szOf P el = some sz)
  (ho : o.op = .indexAddr t x i) (hv : askV P (Γ ++ Γr) φ e (.idx sz x i) k) : Asks P n Γr Γm w0 φ Γ e o k := by
 obtain ⟨_, ti, hi, his⟩ := szOf_some hs
 simp only [askV] at hv
 split at hv
 ·rename_i ex A m cap ei ki j hx hj
  obtain ⟨b, off, h2, h4⟩ := hv
  refine Asks.v h4 fun he ac w h => ?_
  obtain ⟨q1, q2, rfl, q3, q4⟩ := h2 he
  have e1 := eval_of h.fits x (by rw [hx]; exact q1)
  have e2 := eval_of h.fits i (by rw [hj]; exact q2)
  rw [hx] at e1
  rw [hj] at e2
  simp only [execOp, ho, e1, e2, Instr.indexAt, asIntOf, Sem.run_bind, Sem.run_pure, Result.andThen_ok, run_underlying ht]
  rw [if_pos ⟨q3, q4⟩]
  simp [sizeOf, typeInfo, hi, his, add_mk]
 ·exact hv.elim

theorem ok_idxA {t el : TypeId} {len sz : Nat} {x i : Operand} (ht : P.underlying t = some (.array len el)) (hs : szOf P el = some sz) (hlen : 1 < len)
  (ho : o.op = .indexAddr t x i) (hv : askV P (Γ ++ Γr) φ e (.idxA len sz x i) k) : Asks P n Γr Γm w0 φ Γ e o k := by
 obtain ⟨_, ti, hi, his⟩ := szOf_some hs
 have key : ∀ (a : Act) (w : World) (b off : Nat) (ki : IntKind) (j : Int), a.eval x = .pointer (some ⟨b, off, none⟩) → a.eval i = .int ki j → 0 ≤ j → j < len →
   (execOp a.eval o).run P w = .ok (.value (.pointer (some ⟨b, off + j.toNat * sz, none⟩))) w := by
  intro a w b off ki j e1 e2 q3 q4
  simp only [execOp, ho, e1, e2, Instr.indexAt, asIntOf, Sem.run_bind, Sem.run_pure, Result.andThen_ok, run_underlying ht, Instr.sureAddr]
  rw [if_pos ⟨q3, q4⟩]
  simp [sizeOf, typeInfo, hi, his, add_mk]
 simp only [askV] at hv
 split at hv
 ·rename_i e' s b off ei ki j hx hj
  obtain ⟨h2, h4⟩ := hv
  refine Asks.r h4 fun he ac w h => ?_
  obtain ⟨q1, q2, q3, q4⟩ := h2 he
  have e1 := (addr_of h.fits (fun _ => q1) he).1 _ _ _ _ hx
  have e2 := eval_of h.fits i (by rw [hj]; exact q2)
  rw [hj] at e2
  exact key ac w b off ki j e1 e2 q3 q4
 ·rename_i e' b off ei ki j hx hj
  obtain ⟨h2, h4⟩ := hv
  refine Asks.v h4 fun he ac w h => ?_
  obtain ⟨q1, q2, q3, q4⟩ := h2 he
  have e1 := (addr_of h.fits (fun _ => q1) he).2 _ _ hx
  have e2 := eval_of h.fits i (by rw [hj]; exact q2)
  rw [hj] at e2
  exact key ac w b off ki j e1 e2 q3 q4
 ·exact hv.elim

theorem ok_load {t : TypeId} {m : Nat} {x : Operand} (hs : szOf P t = some m)
  (ho : o.op = .load t x) (hv : askV P (Γ ++ Γr) φ e (.load (isTiny P t) m x) k) : Asks P n Γr Γm w0 φ Γ e o k := by
 simp only [askV] at hv
 split at hv
 ·rename_i e' s b off hx
  split at hv
  ·rename_i b' T cs hl
   obtain ⟨rfl, q1, q2, q3, h4⟩ := hv
   refine Asks.v h4 fun he ac w h => ?_
   have e1 := (addr_of h.fits q1 he).1 _ _ _ _ hx
   obtain ⟨hb, _, _⟩ := h.bx _ _ _ _ hl
   have hc : ∀ j v, ((cs.drop off).take m)[j]? = some v → w.cell? ((⟨b', off, none⟩ : Addr).add j) = some v := by
    intro j v hv
    rw [add_mk]
    simp only [World.cell?, hb]
    rw [if_neg (by simp)]
    rw [List.getElem?_take] at hv
    split at hv
    ·simpa using hv
    ·cases hv
   simp only [execOp, ho, e1, Sem.run_bind]
   rw [mkv_run hs (by simp; omega) q3 hc]
   rfl
  ·exact hv.elim
 ·rename_i e' b off hx
  obtain ⟨q3, vs, hl, h2, h4⟩ := hv
  refine Asks.v h4 fun he ac w h => ?_
  obtain ⟨q1, q2⟩ := h2 he
  have e1 := (addr_of h.fits (fun _ => q1) he).2 _ _ hx
  simp only [execOp, ho, e1, Sem.run_bind]
  rw [mkv_run hs hl q3 (q2.cell h.sat)]
  rfl
 ·exact hv.elim

theorem ok_slc {t el : TypeId} {sz : Nat} {x : Operand} {lo hi : Option Operand} (ht : P.underlying t = some (.slice el)) (hs : szOf P el = some sz)
  (ho : o.op = .slice t x lo hi none) (hv : askV P (Γ ++ Γr) φ e (.slc sz x lo hi none) k) : Asks P n Γr Γm w0 φ Γ e o k := by
 obtain ⟨_, ti, hti, his⟩ := szOf_some hs
 simp only [askV] at hv
 split at hv
 ·rename_i ex A m cap hx
  obtain ⟨l, hh, h2, h4⟩ := hv
  refine Asks.v h4 fun he ac w h => ?_
  obtain ⟨q1, q2, q3, q4, q5⟩ := h2 he
  have e1 := eval_of h.fits x (by rw [hx]; exact q1)
  rw [hx] at e1
  have hsz : (sizeOf el).run P w = .ok sz w := by simp [sizeOf, typeInfo, hti, his]
  have hhi : ∀ (W : World), (match hi.map ac.eval with | some v => Instr.sliceBound v cap .sliceAcap | none => pure m : Sem Nat).run P W = .ok hh W := by
   intro W
   cases hi with
   | none => simp [bnd] at q3; subst q3; rfl
   | some y =>
    obtain ⟨q6, ki, q7⟩ := q3
    have e2 := eval_of h.fits y q6
    simp only [Option.map_some, e2, q7, Instr.sliceBound, asIntOf, Sem.run_bind, Sem.run_pure, Result.andThen_ok]
    rw [if_pos ⟨by omega, by omega⟩]
    simp
  have hlo : ∀ (W : World), (match lo.map ac.eval with | some v => Instr.sliceBound v hh .sliceB | none => pure 0 : Sem Nat).run P W = .ok l W := by
   intro W
   cases lo with
   | none => simp [bnd] at q2; subst q2; rfl
   | some y =>
    obtain ⟨q6, ki, q7⟩ := q2
    have e2 := eval_of h.fits y q6
    simp only [Option.map_some, e2, q7, Instr.sliceBound, asIntOf, Sem.run_bind, Sem.run_pure, Result.andThen_ok]
    rw [if_pos ⟨by omega, by omega⟩]
    simp
  have hb : (Instr.sliceBounds true m cap (lo.map ac.eval) (hi.map ac.eval) none).run P w = .ok (l, hh, cap) w := by
   have h1 := hhi w
   have h2 := hlo w
   unfold Instr.sliceBounds
   cases hi <;> cases lo <;> simp_all
  simp only [execOp, ho, e1, Instr.sliceAt, Instr.slice, Sem.run_bind, run_underlying ht, Result.andThen_ok, Option.map_none, hb, hsz, Sem.run_pure]
 ·exact hv.elim
theorem ok_q {c : Qk} {xs : List Operand} (hx : ∀ (a : Act) (w w' : World) (r : Value), (qsem c (xs.map a.eval)).run P w = .ok r w' → (execOp a.eval o).run P w = .ok (.value r) w')
  (hv : askV P (Γ ++ Γr) φ e (.q c xs) k) : Asks P n Γr Γm w0 φ Γ e o k := by
 obtain ⟨r, h1, h2⟩ := hv
 refine Asks.v h2 fun he ac w h => ?_
 obtain ⟨q1, q2⟩ := h1 he
 refine hx ac w w r ?_
 rw [vals_of h.fits rfl xs q1]
 exact q2 w h.sat.holds

end
/- The symbolic walk is sound: operations that make or change memory, and calls; no condition. -/
theorem Disj.symm {h h' : PH} (d : Disj h h') : Disj h' h := fun k => (d k).symm
theorem one_self (b : Nat) (o : Obj) : one b o b = some o := by simp [one]
theorem one_some {b k : Nat} {o p : Obj} (h : one b o k = some p) : k = b ∧ p = o := by
 unfold one at h
 split at h
 ·rename_i e; exact ⟨e, (Option.some.inj h).symm⟩
 ·cases h
theorem one_none {b k : Nat} {o : Obj} (h : k ≠ b) : one b o k = none := by simp [one, h]
theorem Sat.lt {Γ : Ctx} {w : World} (h : Sat Γ w) {g : PH} (hg : g ∈ Γ) {k : Nat} (hk : g k ≠ none) : k < w.heap.size := by
 cases ho : g k with
 | none => exact absurd ho hk
 | some o => exact (Array.getElem?_eq_some_iff.1 (h.holds g hg k o ho)).1
theorem perm_apart {Γ Γ' : Ctx} (h : Γ.Perm Γ') (ha : Γ.Pairwise Disj) : Γ'.Pairwise Disj := (h.pairwise_iff (fun d => d.symm)).1 ha

section
variable {n : Nat} {Γr Γm : Ctx} {w0 : World} {φ : Fr} {Γ Γ' : Ctx} {a : Act} {w w' : World} {P : Program}

/-- memory has changed at the heaps of Γ alone, which are Γ' now -/
theorem St.step (h : St n Γr Γm w0 φ Γ a w) (hsat : Sat (Γ' ++ Γr) w') (hown : ∀ h ∈ Γ', ∀ k, h k ≠ none → w.heap.size ≤ k ∨ ∃ g ∈ Γ, g k ≠ none)
  (hos : w'.os = w.os) (htape : w'.tape = w.tape ∧ w.drawn ≤ w'.drawn) (hout : w'.output = w.output) (hsize : w.heap.size ≤ w'.heap.size)
  (hsame : ∀ k, k < w.heap.size → (∀ g ∈ Γ, g k = none) → w'.heap[k]? = w.heap[k]?) : St n Γr Γm w0 φ Γ' a w' := by
 refine { n := h.n, defers := h.defers, fits := h.fits, bx := ?_, bxd := h.bxd, sat := hsat, own := ?_, os := hos.trans h.os, tape := ⟨htape.1.trans h.tape.1, Nat.le_trans h.tape.2 htape.2⟩, output := hout.trans h.output, size := Nat.le_trans h.size hsize, same := ?_ }
 ·intro t b T cs hl
  obtain ⟨h1, h2, h3⟩ := h.bx t b T cs hl
  have hlt : b < w.heap.size := (Array.getElem?_eq_some_iff.1 h1).1
  refine ⟨by rw [hsame b hlt (fun g hg => h3 g (by simp [hg]))]; exact h1, h2, fun g hg => ?_⟩
  rcases List.mem_append.1 hg with hg | hg
  ·cases hk : g b with
   | none => rfl
   | some o =>
    rcases hown g hg b (by rw [hk]; simp) with q | ⟨g', hg', q⟩
    ·omega
    ·exact absurd (h3 g' (by simp [hg'])) q
  ·exact h3 g (by simp [hg])
 ·intro g hg k hk
  rcases hown g hg k hk with q | ⟨g', hg', q⟩
  ·left; have := h.size; omega
  ·exact h.own g' hg' k q
 ·intro k hk hm
  rw [hsame k (by have := h.size; omega) (fun g hg => by
   cases hgk : g k with
   | none => rfl
   | some o =>
    rcases h.own g hg k (by rw [hgk]; simp) with q | ⟨g', hg', q⟩
    ·omega
    ·exact absurd (hm g' hg') q)]
  exact h.same k hk hm

theorem heap_new (w : World) (o : Obj) : (w.alloc o).heap[w.heap.size]? = some o := by
 show (w.heap.push o)[w.heap.size]? = some o
 simp
theorem heap_old (w : World) (o : Obj) {k : Nat} (hk : k < w.heap.size) : (w.alloc o).heap[k]? = w.heap[k]? := by
 show (w.heap.push o)[k]? = _
 rw [Array.getElem?_push, if_neg (by omega)]

theorem Sat.alloc {Δ : Ctx} (h : Sat Δ w) (o : Obj) : Sat (one w.heap.size o :: Δ) (w.alloc o) := by
 refine ⟨?_, ?_⟩
 ·intro g hg k p hk
  rcases List.mem_cons.1 hg with rfl | hg
  ·obtain ⟨rfl, rfl⟩ := one_some hk
   exact heap_new w p
  ·have := h.lt hg (k := k) (by rw [hk]; simp)
   rw [heap_old w o this]
   exact h.holds g hg k p hk
 ·refine List.pairwise_cons.2 ⟨fun g hg k => ?_, h.apart⟩
  by_cases e : k = w.heap.size
  ·right
   cases hgk : g k with
   | none => rfl
   | some p => have := h.lt hg (k := k) (by rw [hgk]; simp); omega
  ·exact .inl (one_none e)

/-- a new block of the call's own -/
theorem St.alloc (h : St n Γr Γm w0 φ Γ a w) (o : Obj) : St n Γr Γm w0 φ (one w.heap.size o :: Γ) a (w.alloc o) := by
 refine h.step (h.sat.alloc o) ?_ rfl ⟨rfl, Nat.le_refl _⟩ rfl (by simp) (fun k hk _ => heap_old w o hk)
 intro g hg k hk
 rcases List.mem_cons.1 hg with rfl | hg
 ·left
  cases hgk : one w.heap.size o k with
  | none => exact absurd hgk hk
  | some p => obtain ⟨rfl, _⟩ := one_some hgk; exact Nat.le_refl _
 ·exact .inr ⟨g, hg, hk⟩

theorem St.drew (h : St n Γr Γm w0 φ Γ a w) : St n Γr Γm w0 φ Γ a w.drew :=
 h.step ⟨h.sat.holds, h.sat.apart⟩ (fun g hg k hk => .inr ⟨g, hg, hk⟩) rfl ⟨rfl, Nat.le_succ _⟩ rfl (Nat.le_refl _) (fun _ _ _ => rfl)

/-- a new block behind a slot -/
theorem St.box (h : St n Γr Γm w0 φ Γ a w) {d : Option Nat} (hd : ∀ t, d = some t → t < n) (T : TypeId) (cs : List Value) :
  St n Γr Γm w0 (V.put φ d (.box w.heap.size T cs)) Γ (a.put d (.pointer (some ⟨w.heap.size, 0, none⟩))) (w.alloc (.cells cs.toArray T)) := by
 have h1 : St n Γr Γm w0 φ Γ a (w.alloc (.cells cs.toArray T)) :=
  h.step ⟨fun g hg k p hk => by rw [heap_old w _ (h.sat.lt hg (k := k) (by rw [hk]; simp))]; exact h.sat.holds g hg k p hk, h.sat.apart⟩
   (fun g hg k hk => .inr ⟨g, hg, hk⟩) rfl ⟨rfl, Nat.le_refl _⟩ rfl (by simp) (fun k hk _ => heap_old w _ hk)
 cases d with
 | none => exact h1
 | some d =>
  have hlt : d < a.tmps.size := by rw [h.n]; exact hd d rfl
  have hfresh : ∀ t b T' cs', look φ t = .box b T' cs' → b < w.heap.size := fun t b T' cs' hl => (Array.getElem?_eq_some_iff.1 (h.bx t b T' cs' hl).1).1
  refine { h1 with n := by simp [Act.put, h.n], defers := h.defers, fits := ?_, bx := ?_, bxd := ?_ }
  ·intro t
   simp only [V.put]
   rw [look_cons, getD_put a d t _ hlt]
   by_cases e : d = t
   ·simp [e, FitsSl]
   ·simp only [e, if_false]; exact h.fits t
  ·intro t b T' cs' hl
   simp only [V.put] at hl
   rw [look_cons] at hl
   by_cases e : d = t
   ·rw [if_pos e] at hl
    simp only [Sl.box.injEq] at hl
    obtain ⟨rfl, rfl, rfl⟩ := hl
    refine ⟨heap_new w _, h.size, fun g hg => ?_⟩
    cases hgk : g w.heap.size with
    | none => rfl
    | some p => have := h.sat.lt hg (k := w.heap.size) (by rw [hgk]; simp); omega
   ·rw [if_neg e] at hl; exact h1.bx t b T' cs' hl
  ·intro t t' b T1 cs1 T2 cs2 hl hl'
   simp only [V.put] at hl hl'
   rw [look_cons] at hl hl'
   by_cases e : d = t
   ·by_cases e' : d = t'
    ·exact e.symm.trans e'
    ·rw [if_pos e] at hl
     rw [if_neg e'] at hl'
     simp only [Sl.box.injEq] at hl
     have := hfresh _ _ _ _ hl'
     omega
   ·by_cases e' : d = t'
    ·rw [if_neg e] at hl
     rw [if_pos e'] at hl'
     simp only [Sl.box.injEq] at hl'
     have := hfresh _ _ _ _ hl
     omega
    ·rw [if_neg e] at hl; rw [if_neg e'] at hl'; exact h.bxd _ _ _ _ _ _ _ hl hl'

theorem cells_eq (v : Value) : v.cells = (cellsV v).toArray := by cases v <;> simp [Value.cells, cellsV]

/-! the operations -/
/-- what an operation that acts leaves -/
def Acts (P : Program) (n : Nat) (Γr Γm : Ctx) (w0 : World) (o : Oper) (a : Act) (w : World) (k : Fr → Ctx → Prop) : Prop :=
 ∀ (next : Act → World → Prop) (Q : Exit → Act → World → Prop), (∀ φ' Γ' a' w', k φ' Γ' → St n Γr Γm w0 φ' Γ' a' w' → next a' w') → o.wp P a w next Q

theorem Acts.value {o : Oper} {k : Fr → Ctx → Prop} {v : Value} {φ' : Fr} {Γ' : Ctx} (hr : (execOp a.eval o).run P w = .ok (.value v) w') (hk : k φ' Γ')
  (hs : St n Γr Γm w0 φ' Γ' (a.put o.dst v) w') : Acts P n Γr Γm w0 o a w k := by
 intro next Q hn
 unfold Oper.wp
 rw [hr]
 exact hn _ _ _ _ hk hs
theorem Acts.unit {o : Oper} {k : Fr → Ctx → Prop} {φ' : Fr} {Γ' : Ctx} (hr : (execOp a.eval o).run P w = .ok .skip w') (hk : k φ' Γ')
  (hs : St n Γr Γm w0 φ' Γ' (a.put o.dst undef) w') : Acts P n Γr Γm w0 o a w k := by
 intro next Q hn
 unfold Oper.wp
 rw [hr]
 exact hn _ _ _ _ hk hs

variable {o : Oper} {k : Fr → Ctx → Prop}

theorem ok_box {loc : Bool} {T : TypeId} {x : Operand} (h : St n Γr Γm w0 φ Γ a w) (hd : ∀ t, o.dst = some t → t < n) (ho : o.op = .box T x) (hv : effV P Γr φ Γ o.dst (.box loc T x) k) : Acts P n Γr Γm w0 o a w k := by
 have hrun : ∀ (hx : (val φ x).1 = true), (execOp a.eval o).run P w = .ok (.value (.pointer (some ⟨w.heap.size, 0, none⟩))) (w.alloc (.cells (cellsV (val φ x).2).toArray T)) := by
  intro hx
  have e1 := eval_of h.fits x hx
  simp only [execOp, ho, e1, Instr.box, newVar, newRow, cells_eq]
  rfl
 cases loc with
 | true =>
  obtain ⟨h1, h2, h3⟩ := hv
  exact .value (hrun h1) (h3 w.heap.size) (h.box hd T _)
 | false =>
  obtain ⟨h1, h2, h3⟩ := hv
  exact .value (hrun h1) (h3 w.heap.size) ((h.alloc _).put hd trivial rfl)

theorem ok_alloc {loc : Bool} {T : TypeId} {z : Value} (h : St n Γr Γm w0 φ Γ a w) (hd : ∀ t, o.dst = some t → t < n) (hz : (P.info? T).bind (·.zero) = some z) (ho : o.op = .alloc T)
  (hv : effV P Γr φ Γ o.dst (.alloc loc T z) k) : Acts P n Γr Γm w0 o a w k := by
 obtain ⟨i, hi, hiz⟩ := Option.bind_eq_some_iff.1 hz
 have hrun : (execOp a.eval o).run P w = .ok (.value (.pointer (some ⟨w.heap.size, 0, none⟩))) (w.alloc (.cells (cellsV z).toArray T)) := by
  simp only [execOp, ho, Instr.alloc, zeroValue, typeInfo, Sem.run_bind, run_program, Result.andThen_ok, hi, Sem.run_pure, hiz, newVar, newRow, cells_eq]
  rfl
 cases loc with
 | true => exact .value hrun (hv w.heap.size) (h.box hd T _)
 | false => exact .value hrun (hv w.heap.size) ((h.alloc _).put hd trivial rfl)

theorem zerosL_length (z : List Value) : ∀ m, (zerosL z m).length = m * z.length
 | 0 => by simp [zerosL]
 | m + 1 => by simp [zerosL, zerosL_length z m, Nat.add_mul, Nat.add_comm]
theorem zerosL_get (z : List Value) (hz : 0 < z.length) : ∀ m j, j < m * z.length → (zerosL z m)[j]? = z[j % z.length]?
 | 0, j, h => by simp at h
 | m + 1, j, h => by
  simp only [zerosL]
  by_cases hj : j < z.length
  ·rw [List.getElem?_append_left hj, Nat.mod_eq_of_lt hj]
  ·rw [List.getElem?_append_right (by omega), zerosL_get z hz m (j - z.length) (by rw [Nat.add_mul] at h; omega)]
   congr 1
   conv => rhs; rw [show j = (j - z.length) + z.length by omega, Nat.add_mod_right]
theorem zerosL_made (z : List Value) (hz : 0 < z.length) (m : Nat) : (Array.range (m * z.length)).map (fun i => z.toArray[i % z.toArray.size]!) = (zerosL z m).toArray := by
 apply Array.ext'
 apply List.ext_getElem?
 intro j
 by_cases hj : j < m * z.length
 ·have hmod := Nat.mod_lt j hz
  simp [zerosL_get z hz m j hj, hj, List.getElem?_eq_getElem hmod, getElem!_pos, hmod]
 ·have h1 : (zerosL z m)[j]? = none := List.getElem?_eq_none (by rw [zerosL_length]; omega)
  simp [h1, hj]

theorem ok_buildS {t el : TypeId} {len sz : Nat} {z : Value} {parts : Array (Nat × Operand)} {l : List (Nat × Nat × Operand)} (h : St n Γr Γm w0 φ Γ a w) (hd : ∀ t, o.dst = some t → t < n)
  (ht : P.underlying t = some (.slice el)) (hz : (P.info? el).bind (·.zero) = some z) (hs : szOf P el = some sz) (hp : mapParts (len * sz) (fun i => some (i * sz, sz)) parts.toList = some l)
  (h0 : 0 < sz) (hlim : len * sz ≤ 1000) (hzs : (cellsV z).length = sz) (ho : o.op = .buildSlice t len parts) (hv : effV P Γr φ Γ o.dst (.buildS el len (zerosL (cellsV z) len) l) k) : Acts P n Γr Γm w0 o a w k := by
 obtain ⟨h1, h2, h3⟩ := hv
 obtain ⟨_, i, hi, his⟩ := szOf_some hs
 obtain ⟨i', hi', hiz⟩ := Option.bind_eq_some_iff.1 hz
 obtain rfl : i = i' := Option.some.inj (hi.symm.trans hi')
 have hfill := fill_ok h.fits rfl parts.toList l (zerosL (cellsV z) len) hp h1 h2 (by rw [zerosL_length, hzs])
 have hlist : (parts.map fun x => match x with | (i, x) => (i, a.eval x)).toList = parts.toList.map fun p => (p.1, a.eval p.2) := by simp
 have hmade := zerosL_made (cellsV z) (by omega) len
 have hn : ¬ (len * sz > 2 ^ 24) := by omega
 refine .value (v := .slice (some ⟨w.heap.size, 0, none⟩) len len) (w' := w.alloc (.cells (fillL (zerosL (cellsV z) len) (partVals φ l)).toArray el)) ?_ (h3 w.heap.size) ((h.alloc _).put hd trivial rfl)
 simp only [execOp, ho, Instr.buildSlice, Sem.run_bind, run_underlying ht, Result.andThen_ok, sizeOf, typeInfo, run_program, hi, Sem.run_pure, his, hlist]
 rw [if_neg hn]
 by_cases hl0 : len * sz = 0
 ·have : len = 0 := by rcases Nat.mul_eq_zero.1 hl0 with h | h <;> omega
  subst this
  simp only [zerosL] at hfill
  simp only [Nat.zero_mul, if_true, pure_bind]
  have e : (Array.range 0).map (fun i => (#[] : Array Value)[i % (#[] : Array Value).size]!) = ([] : List Value).toArray := by simp
  rw [e, hfill]
  rfl
 ·rw [if_neg hl0]
  rw [← hzs] at hl0 ⊢
  simp only [zeroValue, typeInfo, Sem.run_bind, run_program, Result.andThen_ok, hi, Sem.run_pure, hiz, cells_eq, hmade]
  rw [hzs, hfill]
  rfl

theorem ok_mk {t el : TypeId} {z : Value} {i : TypeInfo} {x y : Operand} (h : St n Γr Γm w0 φ Γ a w) (hd : ∀ t, o.dst = some t → t < n)
  (ht : P.underlying t = some (.slice el)) (hi : P.info? el = some i) (hz : i.zero = some z) (h0 : 0 < i.size) (hby : 0 < i.bytes) (hzs : (cellsV z).length = i.size) (ho : o.op = .makeSlice t x y)
  (hv : effV P Γr φ Γ o.dst (.mk el i.size i.bytes z x y) k) : Acts P n Γr Γm w0 o a w k := by
 simp only [effV] at hv
 split at hv
 ·rename_i m p hx hy
  obtain ⟨h1, h12, h2, h3⟩ := hv
  have e1 := eval_of h.fits x (by rw [hx])
  have e2 := eval_of h.fits y (by rw [hy])
  rw [hx] at e1
  rw [hy] at e2
  refine .value (v := .slice (some ⟨w.heap.size, 0, none⟩) m.toNat p.toNat) (w' := w.alloc (.cells (zerosL (cellsV z) p.toNat).toArray el)) ?_ (h3 w.heap.size) ((h.alloc _).put hd trivial rfl)
  have hr := run_make (P := P) w t el i z ht hi hz .i64 .i64 m p h1 h12 (by rw [Int.mul_comm]; omega) (by
   have hm1 : p * 1 ≤ p * (i.bytes : Int) := Int.mul_le_mul_of_nonneg_left (by omega) (by omega)
   omega)
  have hm : madeCells z.cells (p.toNat * i.size) = (zerosL (cellsV z) p.toNat).toArray := by
   rw [← hzs, cells_eq]
   exact zerosL_made (cellsV z) (by omega) p.toNat
  rw [hm] at hr
  simp only [execOp, ho, e1, e2, Sem.run_bind, hr, Result.andThen_ok, Sem.run_pure]
 ·exact hv.elim

/-- one block of one heap of the call's own has changed -/
theorem St.changed (h : St n Γr Γm w0 φ Γ a w) {i b : Nat} {g : PH} {p q : Obj} (hi : Γ[i]? = some g) (hgb : g b = some p) (hset : w'.heap[b]? = some q)
  (hos : w'.os = w.os) (htape : w'.tape = w.tape ∧ w.drawn ≤ w'.drawn) (hout : w'.output = w.output) (hsize : w.heap.size ≤ w'.heap.size)
  (hsame : ∀ k, k < w.heap.size → k ≠ b → w'.heap[k]? = w.heap[k]?) : St n Γr Γm w0 φ (Γ.set i (upd g b q)) a w' := by
 have hg : g ∈ Γ := List.mem_of_getElem? hi
 have hlt : i < Γ.length := by
  rcases Nat.lt_or_ge i Γ.length with h | h
  ·exact h
  ·rw [List.getElem?_eq_none h] at hi; cases hi
 have hgi : Γ[i] = g := by rw [List.getElem?_eq_getElem hlt] at hi; exact Option.some.inj hi
 -- the other heaps do not have the block
 have hap := h.sat.apart
 have hothers : ∀ j, j ≠ i → ∀ x, (Γ ++ Γr)[j]? = some x → x b = none := by
  intro j hj x hx
  have hi' : (Γ ++ Γr)[i]? = some g := by rw [List.getElem?_append_left hlt]; exact hi
  have hd : Disj g x := by
   rw [List.pairwise_iff_getElem] at hap
   have hjl : j < (Γ ++ Γr).length := by
    rcases Nat.lt_or_ge j (Γ ++ Γr).length with h | h
    ·exact h
    ·rw [List.getElem?_eq_none h] at hx; cases hx
   have hil : i < (Γ ++ Γr).length := by simp; omega
   rw [List.getElem?_eq_getElem hjl] at hx
   rw [List.getElem?_eq_getElem hil] at hi'
   rcases Nat.lt_or_gt_of_ne hj with q | q
   ·have := hap j i hjl hil q
    rw [Option.some.inj hx, Option.some.inj hi'] at this
    exact this.symm
   ·have := hap i j hil hjl q
    rw [Option.some.inj hx, Option.some.inj hi'] at this
    exact this
  rcases hd b with q | q
  ·rw [hgb] at q; cases q
  ·exact q
 have hlist : Γ.set i (upd g b q) ++ Γr = (Γ ++ Γr).set i (upd g b q) := by rw [List.set_append, if_pos hlt]
 have hmem : ∀ x ∈ (Γ ++ Γr).set i (upd g b q), x = upd g b q ∨ (x ∈ Γ ++ Γr ∧ x b = none) := by
  intro x hx
  obtain ⟨j, hj, hjx⟩ := List.mem_iff_getElem.1 hx
  have hx' : ((Γ ++ Γr).set i (upd g b q))[j]? = some x := by rw [List.getElem?_eq_getElem hj, hjx]
  by_cases e : j = i
  ·subst e
   left
   rw [List.getElem?_set_self (by simpa using hj)] at hx'
   exact (Option.some.inj hx').symm
  ·rw [List.getElem?_set_ne (fun q => e q.symm)] at hx'
   exact .inr ⟨List.mem_of_getElem? hx', hothers j e x hx'⟩
 refine h.step ?_ ?_ hos htape hout hsize ?_
 ·rw [hlist]
  refine ⟨?_, ?_⟩
  ·intro x hx k p' hk
   rcases hmem x hx with rfl | ⟨hx', hxb⟩
   ·unfold upd at hk
    split at hk
    ·rename_i e; subst e; rw [hset]; exact hk
    ·rename_i e
     have := h.sat.lt (g := g) (by simp [hg]) (k := k) (by rw [hk]; simp)
     rw [hsame k this e]
     exact h.sat.holds g (by simp [hg]) k p' hk
   ·have hne : k ≠ b := fun e => by subst e; rw [hxb] at hk; cases hk
    have := h.sat.lt hx' (k := k) (by rw [hk]; simp)
    rw [hsame k this hne]
    exact h.sat.holds x hx' k p' hk
  ·rw [List.pairwise_iff_getElem] at hap ⊢
   intro j l hj hl hjl k
   simp only [List.length_set] at hj hl
   have hu : ∀ k, upd g b q k = none ↔ g k = none := by
    intro k
    unfold upd
    by_cases e : k = b
    ·subst e; simp [hgb]
    ·simp [e]
   have hgi2 : (Γ ++ Γr)[i]'(by simp; omega) = g := by rw [List.getElem_append_left hlt]; exact hgi
   by_cases e1 : i = j
   ·subst e1
    rw [List.getElem_set_self, List.getElem_set_ne (by omega)]
    have := hap i l hj hl hjl k
    rw [hgi2] at this
    rw [hu]
    exact this
   ·by_cases e2 : i = l
    ·subst e2
     rw [List.getElem_set_self, List.getElem_set_ne (by omega)]
     have := hap j i hj hl hjl k
     rw [hgi2] at this
     rw [hu]
     exact this
    ·rw [List.getElem_set_ne e1, List.getElem_set_ne e2]
     exact hap j l hj hl hjl k
 ·intro x hx k hk
  right
  obtain ⟨j, hj, hjx⟩ := List.mem_iff_getElem.1 hx
  by_cases e : i = j
  ·subst e
   rw [List.getElem_set_self] at hjx
   subst hjx
   refine ⟨g, hg, ?_⟩
   unfold upd at hk
   split at hk
   ·rename_i e; subst e; rw [hgb]; simp
   ·exact hk
  ·rw [List.getElem_set_ne e] at hjx
   simp only [List.length_set] at hj
   exact ⟨x, hjx ▸ List.getElem_mem hj, hk⟩
 ·intro k hk hno
  refine hsame k hk (fun e => ?_)
  subst e
  have := hno g hg
  rw [hgb] at this
  cases this

/-! stores -/
theorem getElem?_setC (cs : List Value) (off m : Nat) (x : Value) (hl : (cellsV x).length = m) (hle : off + m ≤ cs.length) : (setC cs off m x).length = cs.length := by
 simp only [setC, List.length_append, List.length_take, List.length_drop, hl]
 omega

theorem look_updBox (φ : Fr) (s : Nat) (cs : List Value) : ∀ t, look (updBox φ s cs) t = (if t = s then (match look φ s with | .box b T _ => .box b T cs | x => x) else look φ t) := by
 induction φ with
 | nil => intro t; by_cases h : t = s <;> simp [updBox, look, h]
 | cons p r ih =>
  obtain ⟨k, x⟩ := p
  intro t
  by_cases hk : k = s
  ·subst hk
   by_cases ht : t = k
   ·subst ht
    cases x <;> simp [updBox, look]
   ·have hne : (k == t) = false := by simp; exact fun h => ht h.symm
    cases x <;> simp [updBox, look, hne, ht]
  ·have hks : (k == s) = false := by simpa using hk
   by_cases ht : t = s
   ·subst ht
    simp [updBox, look, hks, ih]
   ·by_cases hkt : k = t
    ·subst hkt; simp [updBox, look, hks, ht]
    ·have hne : (k == t) = false := by simpa using hkt
     simp [updBox, look, hks, hne, ih, ht]

theorem run_storeAt {t : TypeId} {m b off : Nat} {cells : Array Value} {T : TypeId} {x : Value} (hs : szOf P t = some m) (hl : (cellsV x).length = m) (h1 : one' (cellsV x))
  (hb : w.heap[b]? = some (.cells cells T (0, 0))) (hle : off + m ≤ cells.size) :
  (Instr.storeAt t (.pointer (some ⟨b, off, none⟩)) x).run P w = .ok () (w.setRow b (setC cells.toList off m x).toArray) := by
 obtain ⟨_, i, hi, his⟩ := szOf_some hs
 have hst := run_storeCells_at P b off T (cellsV x) 0 cells w hb (by omega) h1
 have hsz : x.cells.size = m := by rw [cells_eq]; simpa using hl
 simp only [Instr.storeAt, Instr.sureAddr, storeVar, sizeOf, typeInfo, Sem.run_bind, Sem.run_pure, Result.andThen_ok, run_program, hi, his]
 rw [if_neg (by simp [hsz])]
 simp only [Sem.run_pure, Result.andThen_ok, cells_eq]
 simp only [Nat.add_zero] at hst
 rw [hst]
 simp [setC, hl]

theorem setRow_old (w : World) (g : Nat) (cur : Array Value) {k : Nat} (hk : k ≠ g) : (w.setRow g cur).heap[k]? = w.heap[k]? := by
 exact setRow_other w g k cur hk
theorem ok_store {t : TypeId} {m : Nat} {x y : Operand} (h : St n Γr Γm w0 φ Γ a w) (hd : o.dst = none) (hs : szOf P t = some m)
  (ho : o.op = .store t x y) (hv : effV P Γr φ Γ o.dst (.store m x y) k) : Acts P n Γr Γm w0 o a w k := by
 simp only [effV] at hv
 obtain ⟨h4, h1, h2, h3, hv⟩ := hv
 have ey := eval_of h.fits y h1
 have hput : ∀ v, a.put o.dst v = a := fun v => by rw [hd]; rfl
 split at hv
 ·rename_i e' s b off hx
  have ex := (addr_of h.fits (e := true) (fun _ => h4) rfl).1 _ _ _ _ hx
  split at hv
  ·rename_i b' T cs hl
   obtain ⟨rfl, h5, h6⟩ := hv
   obtain ⟨hb, hb2, hb3⟩ := h.bx _ _ _ _ hl
   have hr := run_storeAt (P := P) hs h2 h3 hb (by simpa using h5)
   refine .unit (w' := w.setRow b' (setC cs off m (val φ y).2).toArray) ?_ h6 ?_
   ·simp only [execOp, ho, ex, ey, Sem.run_bind, hr]; rfl
   ·rw [hput]
    have hlt : b' < w.heap.size := (Array.getElem?_eq_some_iff.1 hb).1
    have hset := setRow_heap w b' cs.toArray (setC cs off m (val φ y).2).toArray T (0, 0) hb
    refine { n := h.n, defers := h.defers, fits := ?_, bx := ?_, bxd := ?_, sat := ?_, own := h.own, os := h.os, tape := h.tape, output := h.output, size := ?_, same := ?_ }
    ·intro t'
     rw [look_updBox]
     by_cases e : t' = s
     ·subst e
      have := h.fits t'
      rw [hl] at this
      simp only [if_true, hl]
      exact this
     ·rw [if_neg e]; exact h.fits t'
    ·intro t' b T' cs' hl'
     rw [look_updBox] at hl'
     by_cases e : t' = s
     ·subst e
      simp only [if_true, hl, Sl.box.injEq] at hl'
      obtain ⟨rfl, rfl, rfl⟩ := hl'
      exact ⟨hset, hb2, hb3⟩
     ·rw [if_neg e] at hl'
      have hne : b ≠ b' := fun q => by subst q; exact e (h.bxd _ _ _ _ _ _ _ hl' hl)
      obtain ⟨q1, q2, q3⟩ := h.bx _ _ _ _ hl'
      exact ⟨by rw [setRow_old w b' _ hne]; exact q1, q2, q3⟩
    ·intro t1 t2 b T1 cs1 T2 cs2 hl1 hl2
     have key : ∀ t' b T' cs', look (updBox φ s (setC cs off m (val φ y).2)) t' = .box b T' cs' → ∃ cs'', look φ t' = .box b T' cs'' := by
      intro t' b T' cs' hl'
      rw [look_updBox] at hl'
      by_cases e : t' = s
      ·subst e
       simp only [if_true, hl, Sl.box.injEq] at hl'
       obtain ⟨rfl, rfl, rfl⟩ := hl'
       exact ⟨_, hl⟩
      ·rw [if_neg e] at hl'; exact ⟨_, hl'⟩
     obtain ⟨c1, q1⟩ := key _ _ _ _ hl1
     obtain ⟨c2, q2⟩ := key _ _ _ _ hl2
     exact h.bxd _ _ _ _ _ _ _ q1 q2
    ·refine ⟨fun g hg k' p hk' => ?_, h.sat.apart⟩
     have hne : k' ≠ b' := fun q => by subst q; rw [hb3 g hg] at hk'; cases hk'
     rw [setRow_old w b' _ hne]
     exact h.sat.holds g hg k' p hk'
    ·simp only [World.setRow]
     have := h.size
     simpa using this
    ·intro k' hk' hm
     have hne : k' ≠ b' := by omega
     rw [setRow_old w b' _ hne]
     exact h.same k' hk' hm
  ·exact hv.elim
 ·rename_i ex' b off hx
  obtain ⟨i, g, cells, T, hi, hgb, h5, h6⟩ := hv
  have ex := (addr_of h.fits (e := true) (fun _ => h4) rfl).2 _ _ hx
  have hg : g ∈ Γ := List.mem_of_getElem? hi
  have hb := h.sat.holds g (by simp [hg]) b _ hgb
  have hr := run_storeAt (P := P) hs h2 h3 hb h5
  have hset := setRow_heap w b cells (setC cells.toList off m (val φ y).2).toArray T (0, 0) hb
  refine .unit (w' := w.setRow b (setC cells.toList off m (val φ y).2).toArray) ?_ h6 ?_
  ·simp only [execOp, ho, ex, ey, Sem.run_bind, hr]; rfl
  ·rw [hput]
   exact h.changed hi hgb hset rfl ⟨rfl, Nat.le_refl _⟩ rfl (by simp [World.setRow]) (fun k' _ hne => setRow_old w b _ hne)
 ·exact hv.elim
end
/- The symbolic walk is sound: append and calls; no condition. -/
section
variable {n : Nat} {Γr Γm : Ctx} {w0 : World} {φ : Fr} {Γ Γ' : Ctx} {a : Act} {w w' : World} {P : Program} {o : Oper} {k : Fr → Ctx → Prop}

theorem upd_self (g : PH) (b : Nat) (q : Obj) : upd g b q b = some q := by simp [upd]
/-- a new block joins a heap of the call's own -/
theorem St.joined (h : St n Γr Γm w0 φ Γ a w) {i : Nat} {g : PH} {q : Obj} (hi : Γ[i]? = some g) :
  St n Γr Γm w0 φ (Γ.set i (upd g w.heap.size q)) a (w.alloc q) := by
 have hg : g ∈ Γ := List.mem_of_getElem? hi
 have hlt : i < Γ.length := by
  rcases Nat.lt_or_ge i Γ.length with h | h
  ·exact h
  ·rw [List.getElem?_eq_none h] at hi; cases hi
 have hgi : Γ[i] = g := by rw [List.getElem?_eq_getElem hlt] at hi; exact Option.some.inj hi
 have hnone : ∀ x ∈ Γ ++ Γr, x w.heap.size = none := by
  intro x hx
  cases hxk : x w.heap.size with
  | none => rfl
  | some p => have := h.sat.lt hx (k := w.heap.size) (by rw [hxk]; simp); omega
 have hap := h.sat.apart
 have hlist : Γ.set i (upd g w.heap.size q) ++ Γr = (Γ ++ Γr).set i (upd g w.heap.size q) := by rw [List.set_append, if_pos hlt]
 have hmem : ∀ x ∈ (Γ ++ Γr).set i (upd g w.heap.size q), x = upd g w.heap.size q ∨ x ∈ Γ ++ Γr := by
  intro x hx
  rcases List.mem_or_eq_of_mem_set hx with q | q
  ·exact .inr q
  ·exact .inl q
 refine h.step ?_ ?_ rfl ⟨rfl, Nat.le_refl _⟩ rfl (by simp) (fun k hk _ => heap_old w q hk)
 ·rw [hlist]
  refine ⟨?_, ?_⟩
  ·intro x hx k p' hk
   have hold : x ∈ Γ ++ Γr → x k = some p' → (w.alloc q).heap[k]? = some p' := fun hx hk => by
    rw [heap_old w q (h.sat.lt hx (k := k) (by rw [hk]; simp))]
    exact h.sat.holds x hx k p' hk
   rcases hmem x hx with rfl | hx'
   ·unfold upd at hk
    split at hk
    ·rename_i e; subst e; rw [heap_new]; exact hk
    ·exact by
      have := h.sat.lt (g := g) (by simp [hg]) (k := k) (by rw [hk]; simp)
      rw [heap_old w q this]
      exact h.sat.holds g (by simp [hg]) k p' hk
   ·exact hold hx' hk
  ·rw [List.pairwise_iff_getElem] at hap ⊢
   intro j l hj hl hjl k
   simp only [List.length_set] at hj hl
   have hgi2 : (Γ ++ Γr)[i]'(by simp; omega) = g := by rw [List.getElem_append_left hlt]; exact hgi
   have hu : ∀ k, k ≠ w.heap.size → upd g w.heap.size q k = g k := fun k hk => by simp [upd, hk]
   by_cases ek : k = w.heap.size
   ·subst ek
    by_cases e1 : i = j
    ·subst e1
     right
     rw [List.getElem_set_ne (by omega)]
     exact hnone _ (List.getElem_mem hl)
    ·left
     rw [List.getElem_set_ne e1]
     exact hnone _ (List.getElem_mem hj)
   ·by_cases e1 : i = j
    ·subst e1
     rw [List.getElem_set_self, List.getElem_set_ne (by omega), hu k ek]
     have := hap i l hj hl hjl k
     rwa [hgi2] at this
    ·by_cases e2 : i = l
     ·subst e2
      rw [List.getElem_set_self, List.getElem_set_ne (by omega), hu k ek]
      have := hap j i hj hl hjl k
      rwa [hgi2] at this
     ·rw [List.getElem_set_ne e1, List.getElem_set_ne e2]
      exact hap j l hj hl hjl k
 ·intro x hx k hk
  rcases List.mem_or_eq_of_mem_set hx with q' | q'
  ·exact .inr ⟨x, q', hk⟩
  ·subst q'
   unfold upd at hk
   split at hk
   ·rename_i e; subst e; exact .inl (Nat.le_refl _)
   ·exact .inr ⟨g, hg, hk⟩

theorem run_append_at (w : World) (t ty e : TypeId) (i : TypeInfo) (ht : P.underlying t = some (.slice e)) (hi : P.info? e = some i)
  (g off sLen sCap : Nat) (cur : Array Value) (hg : w.heap[g]? = some (.cells cur e (0, 0)))
  (a : Addr) (m c : Nat) (news : List Value) (hl : news.length = m * i.size) (hnews : ∀ j u, news[j]? = some u → w.cell? (a.add j) = some u) (h1 : ∀ u ∈ news, u.oneCell' = true)
  (hroom : sLen + m ≤ sCap) (hfit : off + sLen * i.size + news.length ≤ cur.size) :
  (Builtin.append_ #[t, t] ty #[.slice (some ⟨g, off, none⟩) sLen sCap, .slice (some a) m c]).run P w =
    .ok (.slice (some ⟨g, off, none⟩) (sLen + m) sCap) (w.setRow g (cur.toList.take (off + sLen * i.size) ++ news ++ cur.toList.drop (off + sLen * i.size + news.length)).toArray) := by
 have hf := run_firstCells_some (P := P) w i.size m a m c news hl hnews
 have hst := run_storeCells_at P g (off + sLen * i.size) e news 0 cur w hg (by simpa using hfit) h1
 simp only [Nat.add_zero] at hst
 simp [Builtin.append_, run_underlying ht, sizeOf, typeInfo, hi, Builtin.lenOf, hroom, hf, Addr.add_lit, hst]

theorem ok_append {t el : TypeId} {z : Value} {i : TypeInfo} {s x : Operand} (h : St n Γr Γm w0 φ Γ a w) (hd : ∀ t, o.dst = some t → t < n)
  (ht : P.underlying t = some (.slice el)) (hi : P.info? el = some i) (hz : i.zero = some z) (h0 : 0 < i.size) (hzs : (cellsV z).length = i.size)
  (ho : o.op = .call { callee := .builtin .append, args := #[s, x], argTypes := #[t, t] })
  (hv : effV P Γr φ Γ o.dst (.append t el i.size i.bytes z s x) k) : Acts P n Γr Γm w0 o a w k := by
 simp only [effV] at hv
 obtain ⟨h1, h2, hv⟩ := hv
 have es := eval_of h.fits s h1
 have ex := eval_of h.fits x h2
 split at hv
 ·rename_i A m c hx
  obtain ⟨ix, g, sl, xs, news, hgi, hrow, hl, hone, hA, hby, hmx, hk⟩ := hv
  have hg : g ∈ Γ := List.mem_of_getElem? hgi
  have hzc : z.cells.size = i.size := by rw [cells_eq]; simpa using hzs
  -- the run of the built-in function is the operation's
  have hexec : ∀ v' w1, (Builtin.append_ #[t, t] o.type #[(val φ s).2, .slice A m c]).run P w = .ok v' w1 → (execOp a.eval o).run P w = .ok (.value v') w1 := by
   intro v' w1 hr
   simp only [execOp, ho, resolve, invoke, builtin, Sem.run_bind, Sem.run_pure, Result.andThen_ok, List.map_toArray, List.map_cons, List.map_nil, es, ex, hx, hr]
  have hset : Γ.set ix g = Γ := by
   apply List.ext_getElem?
   intro j
   by_cases e : j = ix
   ·subst e
    have hlt : j < Γ.length := by
     rcases Nat.lt_or_ge j Γ.length with h | h
     ·exact h
     ·rw [List.getElem?_eq_none h] at hgi; cases hgi
    rw [List.getElem?_set_self hlt]
    exact hgi.symm
   ·rw [List.getElem?_set_ne (fun q => e q.symm)]
  have szz : ∀ q, (Builtin.zeroCells z.cells q).size = q * i.size := fun q => by rw [size_zeroCells, hzc]
  obtain ⟨hxl, hrow⟩ := hrow
  have hnc : ∀ b off, A = some ⟨b, off, none⟩ → Cells (Γ ++ Γr) b off news → ∀ j u, news[j]? = some u → w.cell? ((⟨b, off, none⟩ : Addr).add j) = some u := fun b off _ hc => hc.cell h.sat
  -- where a new array is made
  have grow : ∀ (old : Nat), 0 < sl + m → (∀ A n c, (val φ s).2 = .slice A n c → c < sl + m) → (Builtin.append_ #[t, t] o.type #[(val φ s).2, .slice A m c]).run P w =
    .ok (.slice (some ⟨w.heap.size, 0, none⟩) (sl + m) (grownCap w (sl + m) old el)) (w.drew.alloc (.cells (xs.toArray ++ news.toArray ++ Builtin.zeroCells z.cells (grownCap w (sl + m) old el - (sl + m))) el)) →
    Acts P n Γr Γm w0 o a w k := by
   intro old hold hroom hr
   have hge := grownCap_ge w (sl + m) old el
   have hcm := grownCap_le_maxLen w (sl + m) old el hmx
   have hst := (h.drew).joined (q := .cells (xs.toArray ++ news.toArray ++ Builtin.zeroCells z.cells (grownCap w (sl + m) old el - (sl + m))) el) hgi
   obtain ⟨gc, hgc⟩ : ∃ gc, grownCap w (sl + m) old el = gc + 1 := ⟨grownCap w (sl + m) old el - 1, by omega⟩
   rw [hgc] at hge hcm hst hr
   refine .value (hexec _ _ hr) (hk _ (upd g w.heap.size (.cells (xs.toArray ++ news.toArray ++ Builtin.zeroCells z.cells (gc + 1 - (sl + m))) el)) ?_ ?_ ?_) (hst.put hd trivial rfl)
   ·refine ⟨by rw [List.length_append, hxl, hl, Nat.add_mul], .inr ⟨w.heap.size, 0, gc, _, rfl, hge, hcm, upd_self _ _ _, ?_, ?_⟩⟩
    ·simp only [Array.size_append, List.size_toArray, szz, hxl, hl, ← Nat.add_mul]
     rw [Nat.zero_add]
     apply Nat.mul_le_mul_right
     omega
    ·simp only [Array.toList_append, List.append_assoc, List.drop_zero]
     rw [← List.append_assoc, show (sl + m) * i.size = (xs ++ news).length by rw [List.length_append, hxl, hl, Nat.add_mul]]
     exact List.take_left
   ·refine ⟨hxl, hrow.imp id fun ⟨b, off, cap, cur, q1, q2, q3, q4, q5, q6⟩ => ⟨b, off, cap, cur, q1, q2, q3, ?_, q5, q6⟩⟩
    have : b < w.heap.size := h.sat.lt (g := g) (by simp [hg]) (by rw [q4]; simp)
    simp [upd, Nat.ne_of_lt this, q4]
   ·refine ⟨fun k' _ hk' => ?_, fun A' n' c' A2 m2 c2 e1 e2 => ⟨fun e3 => ?_, fun _ b hb => ?_⟩⟩
    ·have : k' < w.heap.size := h.sat.lt (g := g) (by simp [hg]) hk'
     simp [upd, Nat.ne_of_lt this]
    ·have := hroom _ _ _ e1
     simp only [Value.slice.injEq] at e2
     omega
    ·simp only [rowBlk, Option.some.injEq] at hb
     subst hb
     cases hgb : g w.heap.size with
     | none => rfl
     | some q =>
      have : w.heap.size < w.heap.size := h.sat.lt (g := g) (by simp [hg]) (by rw [hgb]; simp)
      omega
  by_cases hm0 : m = 0
  ·-- nothing is appended
   subst hm0
   have hn : news = [] := List.eq_nil_of_length_eq_zero (by simpa using hl)
   subst hn
   have hzero : ∀ W : World, (Builtin.firstCells i.size 0 (.slice A 0 c)).run P W = .ok #[] W := by
    intro W
    cases A <;> simp [Builtin.firstCells, loadCells, loadCellsFrom]
   have hrun : ∀ base cap, (val φ s).2 = .slice base sl cap → sl ≤ cap → (Builtin.append_ #[t, t] o.type #[.slice base sl cap, .slice A 0 c]).run P w = .ok (.slice base sl cap) w := by
    intro base cap _ hle
    cases base <;> simp [Builtin.append_, run_underlying ht, sizeOf, typeInfo, hi, Builtin.lenOf, hle, hzero, storeCells]
   rcases hrow with ⟨rfl, B, hv0⟩ | ⟨b, off, cap, cur, hv0, hle, hcm, hgb, hcs, htk⟩
   ·rw [hv0] at hexec hk
    have hr := hrun B 0 hv0 (Nat.le_refl _)
    have hfin := hk (.slice B 0 0) g ⟨by simpa using hxl, .inl ⟨rfl, B, rfl⟩⟩ ⟨hxl, .inl ⟨rfl, B, rfl⟩⟩ ⟨fun _ _ _ => rfl, fun _ _ _ _ _ _ e1 e2 => ⟨fun _ => by simp only [Value.slice.injEq] at e1 e2; exact ⟨e2.1.symm.trans e1.1, e2.2.2.symm.trans e1.2.2⟩, fun q => by simp only [Value.slice.injEq] at e1 e2; omega⟩⟩
    rw [hset] at hfin
    exact .value (hexec _ _ hr) hfin (h.put hd trivial rfl)
   ·rw [hv0] at hexec hk
    have hr := hrun _ (cap + 1) hv0 hle
    have hfin := hk (.slice (some ⟨b, off, none⟩) sl (cap + 1)) g ⟨by simpa using hxl, .inr ⟨b, off, cap, cur, rfl, hle, hcm, hgb, hcs, by simpa using htk⟩⟩ ⟨hxl, .inr ⟨b, off, cap, cur, rfl, hle, hcm, hgb, hcs, htk⟩⟩ ⟨fun _ _ _ => rfl, fun _ _ _ _ _ _ e1 e2 => ⟨fun _ => by simp only [Value.slice.injEq] at e1 e2; exact ⟨e2.1.symm.trans e1.1, e2.2.2.symm.trans e1.2.2⟩, fun q => by simp only [Value.slice.injEq] at e1 e2; omega⟩⟩
    rw [hset] at hfin
    exact .value (hexec _ _ hr) hfin (h.put hd trivial rfl)
  ·obtain ⟨ab, aoff, rfl, hcells⟩ : ∃ b o, A = some ⟨b, o, none⟩ ∧ Cells (Γ ++ Γr) b o news := by
    rcases hA with q | q
    ·exact absurd q hm0
    ·exact q
   have hnews := hcells.cell h.sat
   rcases hrow with ⟨rfl, B, hv0⟩ | ⟨b, off, cap, cur, hv0, hle, hcm, hgb, hcs, htk⟩
   ·have hx0 : xs = [] := List.eq_nil_of_length_eq_zero (by simpa using hxl)
    subst hx0
    refine grow 0 (by omega) (fun A' n' c' e => by rw [hv0] at e; simp only [Value.slice.injEq] at e; omega) ?_
    rw [hv0]
    rcases B with _ | ad
    ·have hr := run_append_nil (P := P) w t o.type el i z ht hi hz ⟨ab, aoff, none⟩ m c news hl hnews (by omega) (by unfold maxLen at hmx; omega) (by simp only [Nat.zero_add] at hby; omega)
     simpa using hr
    ·have hr := run_append_grow (P := P) w t o.type el i z ht hi hz ad 0 0 [] (by simp) (by simp) ⟨ab, aoff, none⟩ m c news hl hnews (by omega) (by unfold maxLen at hmx; omega) (growslice_fits (by omega) hby)
     simpa using hr
   ·by_cases hroom : sl + m ≤ cap + 1
    ·have hb := h.sat.holds g (by simp [hg]) b _ hgb
     have hmul : sl * i.size + news.length ≤ (cap + 1) * i.size := by rw [hl, ← Nat.add_mul]; exact Nat.mul_le_mul_right _ hroom
     have hfit : off + sl * i.size + news.length ≤ cur.size := by omega
     have hr := run_append_at (P := P) w t o.type el i ht hi b off sl (cap + 1) cur hb ⟨ab, aoff, none⟩ m c news hl hnews hone hroom hfit
     have hset2 := setRow_heap w b cur (cur.toList.take (off + sl * i.size) ++ news ++ cur.toList.drop (off + sl * i.size + news.length)).toArray el (0, 0) hb
     have hst := h.changed hgi hgb hset2 rfl ⟨rfl, Nat.le_refl _⟩ rfl (by simp [World.setRow]) (fun k' _ hne => setRow_old w b _ hne)
     have hex := hexec (.slice (some ⟨b, off, none⟩) (sl + m) (cap + 1)) (w.setRow b (cur.toList.take (off + sl * i.size) ++ news ++ cur.toList.drop (off + sl * i.size + news.length)).toArray) (by rw [hv0]; exact hr)
     refine .value hex (hk _ (upd g b (.cells (cur.toList.take (off + sl * i.size) ++ news ++ cur.toList.drop (off + sl * i.size + news.length)).toArray el (0, 0))) ?_ ?_ ?_) (hst.put hd trivial rfl)
     ·refine ⟨by rw [List.length_append, hxl, hl, Nat.add_mul], .inr ⟨b, off, cap, _, rfl, hroom, hcm, upd_self _ _ _, ?_, ?_⟩⟩
      ·simp only [List.size_toArray, List.length_append, List.length_take, List.length_drop, Array.length_toList]
       omega
      ·have e1 : (cur.toList.take (off + sl * i.size) ++ news ++ cur.toList.drop (off + sl * i.size + news.length)).drop off = xs ++ news ++ cur.toList.drop (off + sl * i.size + news.length) := by
        rw [List.append_assoc, List.drop_append_of_le_length (by simp; omega), ← List.append_assoc]
        congr 2
        rw [← htk, List.drop_take]
        congr 1
        omega
       rw [e1, show (sl + m) * i.size = (xs ++ news).length by rw [List.length_append, hxl, hl, Nat.add_mul]]
       exact List.take_left
     ·refine ⟨hxl, .inr ⟨b, off, cap, _, hv0, hle, hcm, upd_self _ _ _, ?_, ?_⟩⟩
      ·simp only [List.size_toArray, List.length_append, List.length_take, List.length_drop, Array.length_toList]
       omega
      ·simp only [List.toList_toArray]
       rw [List.append_assoc, List.drop_append_of_le_length (by simp; omega), List.take_append_of_le_length (by simp; omega), List.drop_take, ← htk, List.take_take]
       congr 1
       omega
     ·refine ⟨fun k' hk' _ => ?_, fun A' n' c' A2 m2 c2 e1 e2 => ⟨fun _ => ?_, fun q => ?_⟩⟩
      ·rw [hv0] at hk'
       have : k' ≠ b := fun e => hk' (by rw [e]; rfl)
       simp [upd, this]
      ·rw [hv0] at e1
       simp only [Value.slice.injEq] at e1 e2
       exact ⟨e2.1.symm.trans e1.1, e2.2.2.symm.trans e1.2.2⟩
      ·rw [hv0] at e1
       simp only [Value.slice.injEq] at e1 e2
       omega
    ·refine grow (cap + 1) (by omega) (fun A' n' c' e => by rw [hv0] at e; simp only [Value.slice.injEq] at e; omega) ?_
     have hb := h.sat.holds g (by simp [hg]) b _ hgb
     have holds : ∀ j u, xs[j]? = some u → w.cell? ((⟨b, off, none⟩ : Addr).add j) = some u := by
      intro j u hu
      rw [add_mk]
      simp only [World.cell?, hb]
      rw [if_neg (by simp)]
      rw [← htk, List.getElem?_take] at hu
      split at hu
      ·simpa using hu
      ·cases hu
     have hr := run_append_grow (P := P) w t o.type el i z ht hi hz ⟨b, off, none⟩ sl (cap + 1) xs hxl holds ⟨ab, aoff, none⟩ m c news hl hnews (by omega) (by unfold maxLen at hmx; omega) (growslice_fits (by omega) hby)
     rw [hv0]
     exact hr
 ·exact hv.elim

theorem ok_appz {t u el : TypeId} {z : Value} {i : TypeInfo} {s x : Operand} (h : St n Γr Γm w0 φ Γ a w) (hd : ∀ t, o.dst = some t → t < n)
  (ht : P.underlying t = some (.slice el)) (hu : P.underlying u = some (.int .i64)) (hi : P.info? el = some i) (hz : i.zero = some z) (h0 : 0 < i.size) (hby0 : 0 < i.bytes) (hzs : (cellsV z).length = i.size)
  (ho : o.op = .call { callee := .builtin .append, args := #[s, x], argTypes := #[t, u] })
  (hv : effV P Γr φ Γ o.dst (.appz t u el i.size i.bytes z s x) k) : Acts P n Γr Γm w0 o a w k := by
 simp only [effV] at hv
 obtain ⟨h1, h2, hv⟩ := hv
 have es := eval_of h.fits s h1
 have ex := eval_of h.fits x h2
 split at hv
 ·rename_i A m hs hx
  obtain ⟨hm0, hby, hmx, ix, g, hgi, hk⟩ := hv
  rw [hs] at es
  rw [hx] at ex
  have hg : g ∈ Γ := List.mem_of_getElem? hgi
  have hzc : z.cells.size = i.size := by rw [cells_eq]; simpa using hzs
  obtain ⟨m, rfl⟩ : ∃ q : Nat, m = q := ⟨m.toNat, by omega⟩
  simp only [Int.toNat_natCast] at hk
  have hexec : ∀ v' w1, (Builtin.append_ #[t, u] o.type #[.slice A 0 0, .int .i64 m]).run P w = .ok v' w1 → (execOp a.eval o).run P w = .ok (.value v') w1 := by
   intro v' w1 hr
   simp only [execOp, ho, resolve, invoke, builtin, Sem.run_bind, Sem.run_pure, Result.andThen_ok, List.map_toArray, List.map_cons, List.map_nil, es, ex, hr]
  have hset : Γ.set ix g = Γ := by
   apply List.ext_getElem?
   intro j
   by_cases e : j = ix
   ·subst e
    have hlt : j < Γ.length := by
     rcases Nat.lt_or_ge j Γ.length with h | h
     ·exact h
     ·rw [List.getElem?_eq_none h] at hgi; cases hgi
    rw [List.getElem?_set_self hlt]
    exact hgi.symm
   ·rw [List.getElem?_set_ne (fun q => e q.symm)]
  have hmb : m * 1 ≤ m * i.bytes := Nat.mul_le_mul_left _ hby0
  have hbn : m * i.bytes ≤ 140737488355328 := by
   have : ((m * i.bytes : Nat) : Int) ≤ 140737488355328 := by simpa using hby
   omega
  have hw : IntKind.i64.wrap (m : Int) = m := by rw [IntKind.wrap_i64]; omega
  have hneg : ¬ ((m : Int) < 0) := by omega
  have hbig : ¬ (281474976710656 < (m : Int) * (i.bytes : Int)) := by omega
  by_cases hz0 : m = 0
  ·subst hz0
   have hr : (Builtin.append_ #[t, u] o.type #[.slice A 0 0, .int .i64 (0 : Nat)]).run P w = .ok (.slice A 0 0) w := by
    cases A <;> simp [Builtin.append_, run_underlying ht, run_underlying hu, sizeOf, typeInfo, hi, asInt, asIntOf, IntKind.wrap_i64, storeCells]
   have hfin := hk (.slice A 0 0) g ⟨by simp [zerosL], .inl ⟨rfl, A, rfl⟩⟩ ⟨fun _ _ _ => rfl, fun _ _ _ _ _ _ e1 e2 => ⟨fun _ => by simp only [Value.slice.injEq] at e1 e2; exact ⟨e2.1.symm.trans e1.1, e2.2.2.symm.trans e1.2.2⟩, fun q => by simp only [Value.slice.injEq] at e1 e2; omega⟩⟩
   rw [hset] at hfin
   exact .value (hexec _ _ hr) hfin (h.put hd trivial rfl)
  ·have hpos : 0 < m := by omega
   have hzr : (Builtin.zeroCells z.cells m) = (zerosL (cellsV z) m).toArray := by
    have := zerosL_made (cellsV z) (by omega) m
    rw [← this]
    simp [Builtin.zeroCells, cells_eq]
   have hsz : ¬ (m * i.size = 0) := by
    intro q
    rcases Nat.mul_eq_zero.1 q with q | q <;> omega
   have hcap48 : ¬ (281474976710656 < Builtin.nextslicecap m 0 * i.bytes) := by rw [nextslicecap_zero hpos]; omega
   have h63 : ¬ (9223372036854775807 < (m : Int)) := by unfold maxLen at hmx; omega
   have hge := grownCap_ge w m 0 el
   have hcm := grownCap_le_maxLen w m 0 el (by omega)
   have hf0 : ∀ W : World, (Builtin.firstCells i.size 0 (.slice A 0 0)).run P W = .ok #[] W := by
    intro W
    cases A <;> simp [Builtin.firstCells, loadCells, loadCellsFrom]
   have hr : (Builtin.append_ #[t, u] o.type #[.slice A 0 0, .int .i64 m]).run P w =
     .ok (.slice (some ⟨w.heap.size, 0, none⟩) m (grownCap w m 0 el)) (w.drew.alloc (.cells ((zerosL (cellsV z) m).toArray ++ Builtin.zeroCells z.cells (grownCap w m 0 el - m)) el)) := by
    simp [Builtin.append_, run_underlying ht, run_underlying hu, sizeOf, typeInfo, zeroValue, hi, hz, asInt, asIntOf, hw, hneg, hbig, hz0, h63, hcap48, Question.forced, hf0, hsz, newRow, grownCap, hzr]
   obtain ⟨gc, hgc⟩ : ∃ gc, grownCap w m 0 el = gc + 1 := ⟨grownCap w m 0 el - 1, by omega⟩
   rw [hgc] at hr hge hcm
   have hst := (h.drew).joined (q := .cells ((zerosL (cellsV z) m).toArray ++ Builtin.zeroCells z.cells (gc + 1 - m)) el) hgi
   have hzl := zerosL_length (cellsV z) m
   refine .value (hexec _ _ hr) (hk _ (upd g w.heap.size (.cells ((zerosL (cellsV z) m).toArray ++ Builtin.zeroCells z.cells (gc + 1 - m)) el)) ?_ ?_) (hst.put hd trivial rfl)
   ·refine ⟨by rw [hzl, hzs], .inr ⟨w.heap.size, 0, gc, _, rfl, hge, hcm, upd_self _ _ _, ?_, ?_⟩⟩
    ·simp only [Array.size_append, List.size_toArray, size_zeroCells, hzc, hzl, hzs, ← Nat.add_mul]
     rw [Nat.zero_add]
     apply Nat.mul_le_mul_right
     omega
    ·simp only [Array.toList_append, List.drop_zero]
     rw [show m * i.size = (zerosL (cellsV z) m).length by rw [hzl, hzs]]
     exact List.take_left
   ·refine ⟨fun k' _ hk' => ?_, fun A' n' c' A2 m2 c2 e1 e2 => ⟨fun e3 => ?_, fun _ b hb => ?_⟩⟩
    ·have : k' < w.heap.size := h.sat.lt (g := g) (by simp [hg]) hk'
     simp [upd, Nat.ne_of_lt this]
    ·simp only [Value.slice.injEq] at e1 e2
     omega
    ·simp only [rowBlk, Option.some.injEq] at hb
     subst hb
     cases hgb : g w.heap.size with
     | none => rfl
     | some q =>
      have : w.heap.size < w.heap.size := h.sat.lt (g := g) (by simp [hg]) (by rw [hgb]; simp)
      omega
 ·exact hv.elim

theorem St.drewN' (h : St n Γr Γm w0 φ Γ a w) (m : Nat) : St n Γr Γm w0 φ Γ a (w.drewN m) :=
 h.step ⟨h.sat.holds, h.sat.apart⟩ (fun g hg k hk => .inr ⟨g, hg, hk⟩) rfl ⟨rfl, Nat.le_add_right _ _⟩ rfl (Nat.le_refl _) (fun _ _ _ => rfl)
theorem ok_a {c : Qk} {xs : List Operand} (hx : ∀ (a : Act) (w w' : World) (r : Value), (qsem c (xs.map a.eval)).run P w = .ok r w' → (execOp a.eval o).run P w = .ok (.value r) w' ∨ ((execOp a.eval o).run P w = .ok .skip w' ∧ r = undef))
  (h : St n Γr Γm w0 φ Γ a w) (hd : ∀ t, o.dst = some t → t < n) (hv : effV P Γr φ Γ o.dst (.a c xs) k) : Acts P n Γr Γm w0 o a w k := by
 simp only [effV] at hv
 obtain ⟨h1, h2⟩ := hv
 obtain ⟨v, w', m, hr, hk⟩ := h2 w h.sat.holds
 have ev := vals_of h.fits rfl xs h1
 rw [← ev] at hr
 have fin : ∀ Γ', k (V.put φ o.dst (.v true v)) Γ' → St n Γr Γm w0 φ Γ' a w' → Acts P n Γr Γm w0 o a w k := by
  intro Γ' hk' hst
  rcases hx a w w' v hr with q | ⟨q, rfl⟩
  ·exact .value q hk' (hst.put hd trivial rfl)
  ·exact .unit q hk' (hst.put hd trivial rfl)
 rcases hk with ⟨rfl, hk⟩ | ⟨i, g, b, p, q, hi, hgb, rfl, hk⟩
 ·exact fin _ hk (h.drewN' m)
 ·have hg : g ∈ Γ := List.mem_of_getElem? hi
  have hb := h.sat.holds g (by simp [hg]) b _ hgb
  have hlt : b < w.heap.size := (Array.getElem?_eq_some_iff.1 hb).1
  refine fin _ hk ((h.drewN' m).changed hi hgb ?_ rfl ⟨rfl, Nat.le_refl _⟩ rfl (by simp [setBlk, World.drewN]) (fun k' _ hne => ?_))
  ·simp [setBlk, World.drewN, hlt]
  ·simp [setBlk, World.drewN, Ne.symm hne]
theorem ok_n {c : Qk} {xs : List Operand} (hx : ∀ (a : Act) (w w' : World) (r : Value), (qsem c (xs.map a.eval)).run P w = .ok r w' → (execOp a.eval o).run P w = .ok (.value r) w')
  (h : St n Γr Γm w0 φ Γ a w) (hd : ∀ t, o.dst = some t → t < n) (hv : effV P Γr φ Γ o.dst (.n c xs) k) : Acts P n Γr Γm w0 o a w k := by
 simp only [effV] at hv
 obtain ⟨h1, h2⟩ := hv
 obtain ⟨v, q, hr, hk⟩ := h2 w h.sat.holds
 have ev := vals_of h.fits rfl xs h1
 rw [← ev] at hr
 exact .value (hx a w _ v hr) hk ((h.alloc _).put hd trivial rfl)

/-- behind a call -/
theorem St.called (h : St n Γr Γm w0 φ Γ a w) {Γr1 Γm1 Γf Γ' : Ctx} (hp : Γ.Perm (Γm1 ++ Γf)) (hr : ∀ g ∈ Γr1, g ∈ Γf ++ Γr) (hd : Done Γr1 Γm1 Γ' w w') : St n Γr Γm w0 φ (Γ' ++ Γf) a w' := by
 have hmΓ : ∀ g, g ∈ Γ ↔ g ∈ Γm1 ∨ g ∈ Γf := fun g => by rw [hp.mem_iff]; simp
 have hpp : (Γ ++ Γr).Perm (Γm1 ++ (Γf ++ Γr)) := by rw [← List.append_assoc]; exact hp.append_right Γr
 have hap := perm_apart hpp h.sat.apart
 obtain ⟨_, hapf, hmf⟩ := List.pairwise_append.1 hap
 have hfr : ∀ g ∈ Γf ++ Γr, g ∈ Γ ++ Γr := fun g hg => hpp.mem_iff.2 (by simp at hg ⊢; rcases hg with q | q <;> simp [q])
 have hown' : ∀ g ∈ Γ' ++ Γf, ∀ k, g k ≠ none → w.heap.size ≤ k ∨ ∃ q ∈ Γ, q k ≠ none := by
  intro g hg k hk
  rcases List.mem_append.1 hg with hg | hg
  ·rcases hd.own g hg k hk with q | ⟨q, hq, hqk⟩
   ·exact .inl q
   ·exact .inr ⟨q, (hmΓ q).2 (.inl hq), hqk⟩
  ·exact .inr ⟨g, (hmΓ g).2 (.inr hg), hk⟩
 have hsame : ∀ k, k < w.heap.size → (∀ g ∈ Γ, g k = none) → w'.heap[k]? = w.heap[k]? := fun k hk hno => hd.same k hk (fun g hg => hno g ((hmΓ g).2 (.inl hg)))
 refine h.step ?_ hown' hd.os hd.tape hd.output hd.size hsame
 refine ⟨?_, ?_⟩
 ·intro g hg k p hk
  rw [List.append_assoc] at hg
  rcases List.mem_append.1 hg with hg | hg
  ·exact hd.sat.holds g (by simp [hg]) k p hk
  ·have hlt := h.sat.lt (hfr g hg) (k := k) (by rw [hk]; simp)
   rw [hd.same k hlt (fun q hq => by
    rcases hmf q hq g hg k with r | r
    ·exact r
    ·rw [hk] at r; cases r)]
   exact h.sat.holds g (hfr g hg) k p hk
 ·rw [List.append_assoc]
  refine List.pairwise_append.2 ⟨(List.pairwise_append.1 hd.sat.apart).1, hapf, fun g hg q hq k => ?_⟩
  cases hgk : g k with
  | none => exact .inl rfl
  | some p =>
   right
   cases hqk : q k with
   | none => rfl
   | some p' =>
    rcases hd.own g hg k (by rw [hgk]; simp) with r | ⟨r, hr1, hr2⟩
    ·have := h.sat.lt (hfr q hq) (k := k) (by rw [hqk]; simp); omega
    ·rcases hmf r hr1 q hq k with r' | r'
     ·exact absurd r' hr2
     ·rw [hqk] at r'; cases r'

theorem ok_call {f : Operand} {args : Array Operand} {ats : Array TypeId} (h : St n Γr Γm w0 φ Γ a w) (hd : ∀ t, o.dst = some t → t < n)
  (ho : o.op = .call { callee := .value f, args := args, argTypes := ats })
  (hv : effV P Γr φ Γ o.dst (.call f args.toList) k) : Acts P n Γr Γm w0 o a w k := by
 simp only [effV] at hv
 obtain ⟨h1, hv⟩ := hv
 have ea := vals_of h.fits rfl _ h1
 split at hv
 ·rename_i g c1 c2 hf
  have ef := eval_of h.fits f (by rw [hf])
  rw [hf] at ef
  obtain ⟨Γr1, Γm1, Γf, R, hret, hp, hsub, hk⟩ := hv
  have hr : ∀ h ∈ Γr1, h ∈ Γf ++ Γr := fun h hh => hsub.subset hh
  have hfn := hret.fn
  unfold isFn at hfn
  split at hfn
  ·rename_i fn hfn2
   simp only [Bool.and_eq_true, Bool.not_eq_true'] at hfn
   have hargs : c1 ++ args.map a.eval ++ c2 = (c1.toList ++ vals φ args.toList ++ c2.toList).toArray := by
    apply Array.ext'
    simp [← ea]
   have hrun : (execOp a.eval o).run P w = .ok (.enter g (c1.toList ++ vals φ args.toList ++ c2.toList).toArray) w := by
    have hb : fn.body.isNone = false := by cases hb : fn.body <;> simp_all
    have hname : ¬ fn.name = "runtime.NumGoroutine" := by simpa using hfn.2
    have hb' : ¬ fn.body = none := by intro q; rw [q] at hfn; simp at hfn
    rw [← hargs]
    simp [execOp, ho, resolve, Deferred.ofValue, ef, invoke, callFunc, hfn2, hname, hb']
   intro next Q hn
   unfold Oper.wp
   rw [hrun, Oper.upon_enter]
   have hpp : (Γ ++ Γr).Perm (Γm1 ++ (Γf ++ Γr)) := by rw [← List.append_assoc]; exact hp.append_right Γr
   have hap := perm_apart hpp h.sat.apart
   obtain ⟨hapm, hapf, hmf⟩ := List.pairwise_append.1 hap
   have hra : Γr1.Pairwise Disj := hapf.sublist hsub
   have hsat : Sat (Γm1 ++ Γr1) w := by
    refine ⟨fun x hx k p hk => ?_, List.pairwise_append.2 ⟨hapm, hra, fun x hx y hy => hmf x hx y (hr y hy)⟩⟩
    refine h.sat.holds x (hpp.mem_iff.2 ?_) k p hk
    rcases List.mem_append.1 hx with q | q
    ·simp [q]
    ·have := hr x q; simp at this ⊢; rcases this with r | r <;> simp [r]
   intro cs
   obtain ⟨e, w', fr, hR, hc, hfr, hl⟩ := hret.calls w hsat cs
   obtain ⟨v, Γ', rfl, hRv, hdone⟩ := hR
   refine ⟨.returned v, w', fr, ?_, hc, hfr, hl⟩
   exact hn _ _ _ _ (hk v Γ' hRv) ((h.called hp hr hdone).put hd trivial rfl)
  ·simp at hfn
 ·exact hv.elim
end
/- The symbolic walk is sound: a list of operations; no condition. -/
section
variable {n : Nat} {Γr Γm : Ctx} {w0 : World} {P : Program} {o : Oper} {loc : Bool} {s : SOp}

/-! what the computed operations ask -/
theorem fnV_min {u v r : Value} (h : fnV .min [u, v] = some r) : ∃ k a b, u = .int k a ∧ v = .int k b ∧ r = .int k (if b < a then b else a) := by
 cases u <;> cases v <;> simp only [fnV, reduceCtorEq] at h
 rename_i k a k' b
 cases hk : (k == k') with
 | false => rw [hk] at h; cases h
 | true =>
  rw [hk] at h
  have hk' : k = k' := by simpa using hk
  subst hk'
  exact ⟨k, a, b, rfl, rfl, (Option.some.inj h).symm⟩
theorem fnV_max {u v r : Value} (h : fnV .max [u, v] = some r) : ∃ k a b, u = .int k a ∧ v = .int k b ∧ r = .int k (if a < b then b else a) := by
 cases u <;> cases v <;> simp only [fnV, reduceCtorEq] at h
 rename_i k a k' b
 cases hk : (k == k') with
 | false => rw [hk] at h; cases h
 | true =>
  rw [hk] at h
  have hk' : k = k' := by simpa using hk
  subst hk'
  exact ⟨k, a, b, rfl, rfl, (Option.some.inj h).symm⟩
theorem fnV_bits {op : BinOp} {u v r : Value} (h : fnV (.bits op) [u, v] = some r) : ∃ k a b, u = .int k a ∧ v = .int k b ∧ ∀ w : World, (Op.intBits op k a b).run P w = .ok r w := by
 cases op <;> cases u <;> cases v <;> simp only [fnV, reduceCtorEq] at h
 all_goals
  (rename_i k a k' b
   cases hk : (k == k') with
   | false => rw [hk] at h; cases h
   | true =>
    rw [hk] at h
    have hk' : k = k' := by simpa using hk
    subst hk'
    exact ⟨k, a, b, rfl, rfl, fun w => by rw [← Option.some.inj h]; rfl⟩)
theorem fnV_cat {u v r : Value} (h : fnV .cat [u, v] = some r) : ∃ a b, u = .string a ∧ v = .string b ∧ a.size + b.size ≤ 9223372036854775807 ∧ r = .string (a ++ b) := by
 cases u <;> cases v <;> simp only [fnV, reduceCtorEq] at h
 split at h
 ·rename_i hle; exact ⟨_, _, rfl, rfl, hle, (Option.some.inj h).symm⟩
 ·cases h
theorem fnV_rune {u r : Value} (h : fnV .rune [u] = some r) : ∃ k a, u = .int k a ∧ r = .string (Utf8.encode a) := by
 cases u <;> simp only [fnV, reduceCtorEq] at h
 exact ⟨_, _, rfl, (Option.some.inj h).symm⟩

/-- the three kinds of operations -/
def Kinds (P : Program) (n : Nat) (Γr Γm : Ctx) (w0 : World) (o : Oper) (s : SOp) : Prop :=
 (isPure s = true ∧ ∀ φ e k, pureV φ e s k → Yields P φ e o k) ∨
 (isPure s = false ∧ isAsk s = true ∧ ∀ φ Γ e k, askV P (Γ ++ Γr) φ e s k → Asks P n Γr Γm w0 φ Γ e o k) ∨
 (isPure s = false ∧ isAsk s = false ∧ ∀ φ Γ a w k, St n Γr Γm w0 φ Γ a w → (∀ t, o.dst = some t → t < n) → (∀ m x y, s = .store m x y → o.dst = none) → effV P Γr φ Γ o.dst s k → Acts P n Γr Γm w0 o a w k)

theorem kinds_nilC {kd : Nat} {op : BinOp} {t yt : TypeId} {x y : Operand} (ho : o.op = .binOp op t x y yt) (h : nilC kd op x y = some s)
  (ht : (kd = 0 ∧ ∃ e, P.underlying t = some (.slice e)) ∨ (kd = 1 ∧ ∃ e, P.underlying t = some (.pointer e)) ∨ (kd = 2 ∧ ∃ k e, P.underlying t = some (.map k e)) ∨ (kd = 3 ∧ ∃ p q z, P.underlying t = some (.func p q z))) :
  Kinds P n Γr Γm w0 o s := by
 unfold nilC at h
 split at h
 ·rename_i v
  cases hn : isNil kd v with
  | false => rw [hn] at h; simp at h
  | true =>
   rw [hn] at h
   cases op <;> simp at h
   ·subst h; exact .inl ⟨rfl, fun φ e k hv => ok_nilq (neg := false) ht rfl ho hv⟩
   ·subst h; exact .inl ⟨rfl, fun φ e k hv => ok_nilq (neg := true) ht rfl ho hv⟩
 ·simp at h

theorem kinds_binOp {op : BinOp} {t yt : TypeId} {x y : Operand} (ho : o.op = .binOp op t x y yt) (h : trBin P op t x y = some s) : Kinds P n Γr Γm w0 o s := by
 unfold trBin at h
 split at h
 ·split at h
  ·simp only [Option.some.injEq] at h; subst h; exact .inl ⟨rfl, fun φ e k hv => ok_ibin ho hv⟩
  ·simp only [Option.some.injEq] at h; subst h; exact .inr (.inl ⟨rfl, rfl, fun φ Γ e k hv => ok_idiv ho hv⟩)
  ·simp only [Option.some.injEq] at h; subst h; exact .inr (.inl ⟨rfl, rfl, fun φ Γ e k hv => ok_ishift ho hv⟩)
  ·split at h
   all_goals first
    | (cases h; done)
    | (simp only [Option.some.injEq] at h
       subst h
       refine .inl ⟨rfl, fun φ e k hv => ok_fn (fun a w r hr => ?_) hv⟩
       obtain ⟨k1, a1, b1, e1, e2, e3⟩ := fnV_bits (P := P) hr
       simp only [execOp, ho, e1, e2, Sem.run_bind]
       have := e3 w
       simp [eqGuard, binOp, this])
 ·split at h
  ·simp only [Option.some.injEq] at h
   subst h
   refine .inl ⟨rfl, fun φ e k hv => ok_fn (fun a w r hr => ?_) hv⟩
   obtain ⟨a1, b1, e1, e2, hle, rfl⟩ := fnV_cat hr
   have hno : ¬ (((a1.size + b1.size : Nat) : Int) > IntKind.i64.max) := by
    have : IntKind.i64.max = 9223372036854775807 := rfl
    rw [this]
    omega
   simp only [execOp, ho, e1, e2, eqGuard, binOp, Op.stringOp]
   rw [if_neg hno]
   simp
  ·simp only [Option.some.injEq] at h
   subst h
   exact .inl ⟨rfl, fun φ e k hv => ok_sbin ho hv⟩
  ·simp only [Option.some.injEq] at h
   subst h
   exact .inl ⟨rfl, fun φ e k hv => ok_sbin ho hv⟩
  ·cases h
 ·rename_i ht
  split at h
  ·simp only [Option.some.injEq] at h; subst h; exact .inl ⟨rfl, fun φ e k hv => ok_beq (neg := false) ht rfl ho hv⟩
  ·simp only [Option.some.injEq] at h; subst h; exact .inl ⟨rfl, fun φ e k hv => ok_beq (neg := true) ht rfl ho hv⟩
  ·cases h
 ·rename_i el ht; exact kinds_nilC ho h (.inl ⟨rfl, el, ht⟩)
 ·rename_i el ht; exact kinds_nilC ho h (.inr (.inl ⟨rfl, el, ht⟩))
 ·rename_i k e ht; exact kinds_nilC ho h (.inr (.inr (.inl ⟨rfl, k, e, ht⟩)))
 ·rename_i p q z ht; exact kinds_nilC ho h (.inr (.inr (.inr ⟨rfl, p, q, z, ht⟩)))
 ·cases h

theorem kinds_call {c : Call} (ho : o.op = .call c) (h : trCall P c = some s) : Kinds P n Γr Γm w0 o s := by
 obtain ⟨callee, ⟨args⟩, ⟨ats⟩⟩ := c
 unfold trCall at h
 split at h
 ·rename_i f hc
  dsimp only at hc
  subst hc
  simp only [Option.some.injEq] at h
  subst h
  exact .inr (.inr ⟨rfl, rfl, fun φ Γ a w k hst hd _ hv => ok_call hst hd ho hv⟩)
 ·rename_i hc
  dsimp only at hc h
  subst hc
  unfold trLen at h
  split at h
  ·split at h
   ·rename_i x t el ht
    simp only [Option.some.injEq] at h
    subst h
    exact .inl ⟨rfl, fun φ e k hv => ok_len (.inl ⟨rfl, el, ht⟩) ho hv⟩
   ·rename_i x t ht
    simp only [Option.some.injEq] at h
    subst h
    exact .inl ⟨rfl, fun φ e k hv => ok_len (.inr ⟨rfl, ht⟩) ho hv⟩
   ·cases h
  ·cases h
 ·rename_i hc
  dsimp only at hc h
  subst hc
  unfold trAppend at h
  split at h
  ·split at h
   ·rename_i s' x t u _ el ht
    split at h
    ·rename_i i hi
     split at h
     ·rename_i z hz
      cases hcc : (decide (t = u) && decide (0 < i.size) && decide ((cellsV z).length = i.size)) with
      | false =>
       rw [hcc] at h
       simp only [cond_false] at h
       split at h
       ·rename_i hu
        cases hc2 : (decide (0 < i.size) && decide (0 < i.bytes) && decide ((cellsV z).length = i.size)) with
        | false => rw [hc2] at h; simp at h
        | true =>
         rw [hc2] at h
         simp only [cond_true, Option.some.injEq] at h; subst h
         simp only [Bool.and_eq_true, decide_eq_true_eq] at hc2
         exact .inr (.inr ⟨rfl, rfl, fun φ Γ a w k hst hd _ hv => ok_appz hst hd ht hu hi hz hc2.1.1 hc2.1.2 hc2.2 ho hv⟩)
       ·cases h
      | true =>
       rw [hcc] at h
       simp only [cond_true, Option.some.injEq] at h; subst h
       simp only [Bool.and_eq_true, decide_eq_true_eq] at hcc
       obtain ⟨⟨rfl, h2⟩, h3⟩ := hcc
       exact .inr (.inr ⟨rfl, rfl, fun φ Γ a w k hst hd _ hv => ok_append hst hd ht hi hz h2 h3 ho hv⟩)
     ·cases h
    ·cases h
   ·cases h
  ·cases h
 ·rename_i hc
  dsimp only at hc h
  subst hc
  unfold trMin at h
  split at h
  ·split at h
   ·rename_i x y t u _ kk ht
    simp only [Option.some.injEq] at h
    subst h
    refine .inl ⟨rfl, fun φ e k hv => ok_fn (fun a w r hr => ?_) hv⟩
    obtain ⟨k1, a1, b1, e1, e2, rfl⟩ := fnV_min hr
    simp [execOp, ho, resolve, invoke, builtin, Builtin.min_, Builtin.min2, e1, e2]
   ·cases h
  ·cases h
 ·rename_i hc
  dsimp only at hc h
  subst hc
  unfold trMin at h
  split at h
  ·split at h
   ·rename_i x y t u _ kk ht
    simp only [Option.some.injEq] at h
    subst h
    refine .inl ⟨rfl, fun φ e k hv => ok_fn (fun a w r hr => ?_) hv⟩
    obtain ⟨k1, a1, b1, e1, e2, rfl⟩ := fnV_max hr
    simp [execOp, ho, resolve, invoke, builtin, Builtin.max_, Builtin.max2, e1, e2]
   ·cases h
  ·cases h
 ·cases h

theorem trQ_run {kd : Nat} {c : Qk} {xs : List Operand} (h : trQ o.op = some (kd, c, xs)) (ρ : Operand → Value) (w w' : World) (r : Value) (hr : (qsem c (xs.map ρ)).run P w = .ok r w') :
  (execOp ρ o).run P w = .ok (.value r) w' ∨ ((execOp ρ o).run P w = .ok .skip w' ∧ r = undef ∧ kd = 1) := by
 cases ho : o.op <;> rw [ho] at h <;> simp only [trQ, Option.some.injEq, Prod.mk.injEq, reduceCtorEq] at h
 case binOp op t x y _ => obtain ⟨rfl, rfl, rfl⟩ := h; left; simp only [qsem, List.map_cons, List.map_nil] at hr; simp only [execOp, ho, Sem.run_bind] at hr ⊢; rw [hr]; rfl
 case convert s d x => obtain ⟨rfl, rfl, rfl⟩ := h; left; simp only [qsem, List.map_cons, List.map_nil] at hr; simp only [execOp, ho, Sem.run_bind, hr]; rfl
 case call c =>
  obtain ⟨callee, ⟨args⟩, ⟨ats⟩⟩ := c
  simp only at h
  split at h
  ·rename_i b
   cases b <;> simp only [trBi, Option.some.injEq, Prod.mk.injEq, reduceCtorEq] at h <;>
    (obtain ⟨rfl, rfl, rfl⟩ := h; left; simp only [qsem] at hr
     simp only [execOp, ho, resolve, invoke, builtin, Sem.run_bind, Sem.run_pure, Result.andThen_ok, List.map_toArray]
     first
      | (erw [hr]; rfl))
  ·cases h
 case slice t x lo hi mx =>
  obtain ⟨rfl, rfl, rfl⟩ := h
  left
  cases lo <;> cases hi <;> cases mx <;> simp only [optL, List.map_cons, List.map_nil, List.nil_append, List.append_nil, List.cons_append, qsem, popO, Option.isSome_some, Option.isSome_none] at hr <;>
   simp only [execOp, ho, Sem.run_bind, Option.map_some, Option.map_none, hr] <;> rfl
 case index t x i => obtain ⟨rfl, rfl, rfl⟩ := h; left; simp only [qsem, List.map_cons, List.map_nil] at hr; simp only [execOp, ho, Sem.run_bind, hr]; rfl
 case lookup t x i ok => obtain ⟨rfl, rfl, rfl⟩ := h; left; simp only [qsem, List.map_cons, List.map_nil] at hr; simp only [execOp, ho, Sem.run_bind, hr]; rfl
 case range t x => obtain ⟨rfl, rfl, rfl⟩ := h; left; simp only [qsem, List.map_cons, List.map_nil] at hr; simp only [execOp, ho, Sem.run_bind, hr]; rfl
 case next it str => obtain ⟨rfl, rfl, rfl⟩ := h; left; simp only [qsem, List.map_cons, List.map_nil] at hr; simp only [execOp, ho, Sem.run_bind]; erw [hr]; rfl
 case entry it => obtain ⟨rfl, rfl, rfl⟩ := h; left; simp only [qsem, List.map_cons, List.map_nil] at hr; simp only [execOp, ho, Sem.run_bind, hr]; rfl
 case makeMap t r =>
  obtain ⟨rfl, rfl, rfl⟩ := h
  left
  cases r <;> simp only [optL, List.map_cons, List.map_nil, qsem, List.head?_cons, List.head?_nil] at hr <;> simp only [execOp, ho, Sem.run_bind, Option.map_some, Option.map_none, hr] <;> rfl
 case mapEntry t m k => obtain ⟨rfl, rfl, rfl⟩ := h; left; simp only [qsem, List.map_cons, List.map_nil] at hr; simp only [execOp, ho, Sem.run_bind, hr]; rfl
 case entryStore t m s x =>
  obtain ⟨rfl, rfl, rfl⟩ := h
  right
  simp only [qsem, List.map_cons, List.map_nil, Sem.run_bind] at hr
  simp only [execOp, ho, Sem.run_bind]
  cases hm : (Instr.entryStore t (ρ m) (ρ s) (ρ x)).run P w with
  | halt a b => rw [hm] at hr; cases hr
  | ok u w1 =>
   rw [hm] at hr
   simp only [Result.andThen_ok, Sem.run_pure, Result.ok.injEq] at hr ⊢
   exact ⟨⟨trivial, hr.2⟩, hr.1.symm, trivial⟩
 all_goals
  (obtain ⟨rfl, rfl, rfl⟩ := h
   right
   simp only [qsem, List.map_cons, List.map_nil, Sem.run_bind] at hr
   simp only [execOp, ho, Sem.run_bind]
   cases hm : (Instr.mapUpdate _ (ρ _) (ρ _) (ρ _)).run P w with
   | halt a b => rw [hm] at hr; cases hr
   | ok u w1 =>
    rw [hm] at hr
    simp only [Result.andThen_ok, Sem.run_pure, Result.ok.injEq] at hr ⊢
    exact ⟨⟨trivial, hr.2⟩, hr.1.symm, trivial⟩)

theorem kinds0 (h : trOp0 P loc o.op = some s) : Kinds P n Γr Γm w0 o s := by
 cases ho : o.op with
 | move x =>
  simp only [ho, trOp0, Option.some.injEq] at h; subst h
  exact .inl ⟨rfl, fun φ e k hv => ok_mv (.inl ho) hv⟩
 | assign x =>
  simp only [ho, trOp0, Option.some.injEq] at h; subst h
  exact .inl ⟨rfl, fun φ e k hv => ok_mv (.inr ho) hv⟩
 | pick c x y =>
  simp only [ho, trOp0, Option.some.injEq] at h; subst h
  exact .inl ⟨rfl, fun φ e k hv => ok_pick ho hv⟩
 | binOp op t x y yt => exact kinds_binOp ho (by rw [ho] at h; exact h)
 | unOp op t x =>
  simp only [ho, trOp0, Option.some.injEq] at h; subst h
  exact .inl ⟨rfl, fun φ e k hv => ok_un ho hv⟩
 | convert sr ds x =>
  simp only [ho, trOp0] at h
  split at h
  ·rename_i ks k hs hd
   simp only [Option.some.injEq] at h; subst h
   exact .inl ⟨rfl, fun φ e k hv => ok_conv hs hd ho hv⟩
  ·rename_i ks hs hd
   simp only [Option.some.injEq] at h; subst h
   refine .inl ⟨rfl, fun φ e k hv => ok_fn (fun a w r hr => ?_) hv⟩
   obtain ⟨k1, n1, e1, rfl⟩ := fnV_rune hr
   simp [execOp, ho, e1, convert, run_underlying hs, run_underlying hd, Conv.intToString]
  ·cases h
 | box T x =>
  simp only [ho, trOp0, Option.some.injEq] at h; subst h
  exact .inr (.inr ⟨rfl, rfl, fun φ Γ a w k hst hd _ hv => ok_box hst hd ho hv⟩)
 | alloc T =>
  simp only [ho, trOp0] at h
  split at h
  ·rename_i z hz
   simp only [Option.some.injEq] at h; subst h
   exact .inr (.inr ⟨rfl, rfl, fun φ Γ a w k hst hd _ hv => ok_alloc hst hd hz ho hv⟩)
  ·cases h
 | build t parts =>
  simp only [ho, trOp0, trBuild] at h
  split at h
  ·rename_i fs z ht hz
   split at h
   ·rename_i l hl
    cases hc : fs.toList.all (fun f => (szOf P f.type).isSome) with
    | false => rw [hc] at h; simp at h
    | true =>
     rw [hc] at h
     simp only [cond_true, Option.some.injEq] at h; subst h
     refine .inl ⟨rfl, fun φ e k hv => ok_build ht hz hl (fun f hf => ?_) ho hv⟩
     rw [List.all_eq_true] at hc
     exact Option.isSome_iff_exists.1 (hc f (by simpa using hf))
   ·cases h
  ·rename_i m el z ht hz
   split at h
   ·rename_i sz hs
    split at h
    ·rename_i l hl
     simp only [Option.some.injEq] at h; subst h
     exact .inl ⟨rfl, fun φ e k hv => ok_buildA ht hz hs hl ho hv⟩
    ·cases h
   ·cases h
  ·cases h
 | buildSlice t m parts =>
  simp only [ho, trOp0, trBuildS] at h
  split at h
  ·rename_i el ht
   split at h
   ·rename_i z sz hz hs
    split at h
    ·rename_i l hl
     cases hc : (decide (0 < sz) && decide (m * sz ≤ 1000) && decide ((cellsV z).length = sz)) with
     | false => rw [hc] at h; simp at h
     | true =>
      rw [hc] at h
      simp only [cond_true, Option.some.injEq] at h; subst h
      simp only [Bool.and_eq_true, decide_eq_true_eq] at hc
      exact .inr (.inr ⟨rfl, rfl, fun φ Γ a w k hst hd _ hv => ok_buildS hst hd ht hz hs hl hc.1.1 hc.1.2 hc.2 ho hv⟩)
    ·cases h
   ·cases h
  ·cases h
 | load t x =>
  simp only [ho, trOp0] at h
  split at h
  ·rename_i m hs
   simp only [Option.some.injEq] at h; subst h
   exact .inr (.inl ⟨rfl, rfl, fun φ Γ e k hv => ok_load hs ho hv⟩)
  ·cases h
 | store t x y =>
  simp only [ho, trOp0] at h
  split at h
  ·rename_i m hs
   simp only [Option.some.injEq] at h; subst h
   exact .inr (.inr ⟨rfl, rfl, fun φ Γ a w k hst hd hnone hv => ok_store hst (hnone _ _ _ rfl) hs ho hv⟩)
  ·cases h
 | nilCheck x =>
  simp only [ho, trOp0, Option.some.injEq] at h; subst h
  exact .inl ⟨rfl, fun φ e k hv => ok_nilCheck ho hv⟩
 | fieldAddr t x i =>
  simp only [ho, trOp0] at h
  split at h
  ·rename_i fs hfs
   split at h
   ·rename_i f hf
    split at h
    ·rename_i m hs
     simp only [Option.some.injEq] at h; subst h
     have ht : P.underlying t = some (.struct fs) := by
      unfold fieldsOf at hfs
      split at hfs
      ·rename_i q; simp only [Option.some.injEq] at hfs; subst hfs; exact q
      ·cases hfs
     exact .inl ⟨rfl, fun φ e k hv => ok_fld ht hf hs ho hv⟩
    ·cases h
   ·cases h
  ·cases h
 | field t x i =>
  simp only [ho, trOp0] at h
  split at h
  ·rename_i fs hfs
   split at h
   ·rename_i f hf
    split at h
    ·rename_i m hs
     simp only [Option.some.injEq] at h; subst h
     have ht : P.underlying t = some (.struct fs) := by
      unfold fieldsOf at hfs
      split at hfs
      ·rename_i q; simp only [Option.some.injEq] at hfs; subst hfs; exact q
      ·cases hfs
     exact .inl ⟨rfl, fun φ e k hv => ok_field ht hf hs ho hv⟩
    ·cases h
   ·cases h
  ·cases h
 | indexAddr t x i =>
  simp only [ho, trOp0] at h
  split at h
  ·rename_i el ht
   split at h
   ·rename_i m hs
    simp only [Option.some.injEq] at h; subst h
    exact .inr (.inl ⟨rfl, rfl, fun φ Γ e k hv => ok_idx ht hs ho hv⟩)
   ·cases h
  ·rename_i len el ht
   split at h
   ·rename_i m hs
    cases hc : decide (1 < len) with
    | false => rw [hc] at h; simp at h
    | true =>
     rw [hc] at h
     simp only [cond_true, Option.some.injEq] at h; subst h
     exact .inr (.inl ⟨rfl, rfl, fun φ Γ e k hv => ok_idxA ht hs (of_decide_eq_true hc) ho hv⟩)
   ·cases h
  ·cases h
 | slice t x lo hi mx =>
  simp only [ho, trOp0] at h
  split at h
  ·rename_i el ht
   split at h
   ·rename_i m hs
    simp only [Option.some.injEq] at h; subst h
    exact .inr (.inl ⟨rfl, rfl, fun φ Γ e k hv => ok_slc ht hs ho hv⟩)
   ·cases h
  ·cases h
 | makeSlice t x y =>
  simp only [ho, trOp0] at h
  split at h
  ·rename_i el ht
   split at h
   ·rename_i i hi
    split at h
    ·rename_i z hz
     cases hc : (decide (0 < i.size) && decide (0 < i.bytes) && decide ((cellsV z).length = i.size)) with
     | false => rw [hc] at h; simp at h
     | true =>
      rw [hc] at h
      simp only [cond_true, Option.some.injEq] at h; subst h
      simp only [Bool.and_eq_true, decide_eq_true_eq] at hc
      exact .inr (.inr ⟨rfl, rfl, fun φ Γ a w k hst hd _ hv => ok_mk hst hd ht hi hz hc.1.1 hc.1.2 hc.2 ho hv⟩)
    ·cases h
   ·cases h
  ·cases h
 | makeFunc fn first caps =>
  rw [ho] at h
  cases fn with
  | func f =>
   simp only [trOp0] at h
   cases hc : first.isEmpty with
   | false => rw [hc] at h; simp at h
   | true =>
    rw [hc] at h
    simp only [cond_true, Option.some.injEq] at h; subst h
    have : first = #[] := by simpa using hc
    subst this
    exact .inl ⟨rfl, fun φ e k hv => ok_mkFunc ho hv⟩
  | _ => simp [trOp0] at h
 | extract x i =>
  simp only [ho, trOp0, Option.some.injEq] at h; subst h
  exact .inl ⟨rfl, fun φ e k hv => ok_extract ho hv⟩
 | call c => exact kinds_call ho (by rw [ho] at h; exact h)
 | _ => simp [ho, trOp0] at h

theorem kinds (h : trOp P loc o.op = some s) : Kinds P n Γr Γm w0 o s := by
 unfold trOp at h
 split at h
 ·rename_i s' h'
  simp only [Option.some.injEq] at h
  subst h
  exact kinds0 h'
 ·split at h
  ·rename_i c xs hq
   simp only [Option.some.injEq] at h
   subst h
   refine .inr (.inl ⟨rfl, rfl, fun φ Γ e k hv => ok_q (fun a w w' r hr => ?_) hv⟩)
   rcases trQ_run hq a.eval w w' r hr with q | ⟨_, _, q⟩
   ·exact q
   ·cases q
  ·rename_i c xs hq
   simp only [Option.some.injEq] at h
   subst h
   refine .inr (.inr ⟨rfl, rfl, fun φ Γ a w k hst hd _ hv => ok_a (fun a w w' r hr => ?_) hst hd hv⟩)
   rcases trQ_run hq a.eval w w' r hr with q | ⟨q, r, _⟩
   ·exact .inl q
   ·exact .inr ⟨q, r⟩
  ·rename_i kd c xs h0 h1 hq
   simp only [Option.some.injEq] at h
   subst h
   refine .inr (.inr ⟨rfl, rfl, fun φ Γ a w k hst hd _ hv => ok_n (fun a w w' r hr => ?_) hst hd hv⟩)
   rcases trQ_run hq a.eval w w' r hr with q | ⟨_, _, q⟩
   ·exact q
   ·exact absurd q h1
  ·simp only [Option.some.injEq] at h
   subst h
   exact .inr (.inr ⟨rfl, rfl, fun φ Γ a w k hst hd _ hv => hv.elim⟩)

theorem wanted_none (o : Oper) (h : o.guard = none) (y : Nat → Option Bool) : Region.wanted o y = true := by simp [Region.wanted, h]

/-- an operation, its guard and what follows -/
theorem vcOps_sound {locs : List Nat} {ops : Array Oper} {K : Fr → Ctx → Prop} {Q : Exit → Act → World → Prop}
  (hQ : ∀ φ Γ a w, K φ Γ → St n Γr Γm w0 φ Γ a w → Q .normal a w) :
  ∀ (l : List Oper) (sl : List SOper), trOpers P n locs ops l = some sl → ∀ φ Γ a w, vcOps P Γr sl φ Γ K → St n Γr Γm w0 φ Γ a w → wpList P ops Q l a w
 | [], sl, h, φ, Γ, a, w, hv, hst => by
  simp only [trOpers, Option.some.injEq] at h
  subst h
  exact hQ _ _ _ _ hv hst
 | o :: r, sl, h, φ, Γ, a, w, hv, hst => by
  simp only [trOpers] at h
  split at h
  ·rename_i so l' hso hl'
   simp only [Option.some.injEq] at h
   subst h
   have ih := vcOps_sound hQ r l' hl'
   -- the one operation
   unfold trOper at hso
   dsimp only at hso
   split at hso
   ·rename_i g sop hg htr
    have hdst : so = ⟨o.dst, g, sop⟩ ∧ (∀ t, o.dst = some t → t < n) ∧ (∀ m x y, sop = .store m x y → o.dst = none) := by
     split at hso
     ·rename_i d hd
      cases hc : (decide (d < n) && noStore sop) with
      | false => rw [hc] at hso; simp at hso
      | true =>
       rw [hc] at hso
       simp only [cond_true, Option.some.injEq] at hso
       simp only [Bool.and_eq_true, decide_eq_true_eq] at hc
       refine ⟨hso.symm, fun t ht => ?_, fun m x y hs => ?_⟩
       ·rw [hd] at ht; cases ht; exact hc.1
       ·subst hs; simp [noStore] at hc
     ·rename_i hd
      simp only [Option.some.injEq] at hso
      refine ⟨?_, fun t ht => ?_, fun _ _ _ _ => hd⟩
      ·rw [hd]; exact hso.symm
      ·rw [hd] at ht; cases ht
    obtain ⟨rfl, hdn, hstore⟩ := hdst
    have hkinds := kinds (n := n) (Γr := Γr) (Γm := Γm) (w0 := w0) htr
    -- what follows when the operation is carried out, and when it is passed over
    have run : ∀ e : Bool, (e = true → Region.wanted o (yielded ops a.tmps) = true) → (e = false → Region.wanted o (yielded ops a.tmps) = false) →
      ((isPure sop = true ∧ pureV φ e sop (fun x => vcOps P Γr l' (put φ o.dst x) Γ K)) ∨
       (isPure sop = false ∧ isAsk sop = true ∧ askV P (Γ ++ Γr) φ e sop (fun x => vcOps P Γr l' (put φ o.dst x) Γ K)) ∨
       (isPure sop = false ∧ isAsk sop = false ∧ (e = true → effV P Γr φ Γ o.dst sop (fun φ' Γ' => vcOps P Γr l' φ' Γ' K)) ∧ (e = false → ∃ x, vcOps P Γr l' (put φ o.dst (.v false x)) Γ K))) →
      wpList P ops Q (o :: r) a w := by
     intro e h1 h2 h3
     unfold wpList
     have slot : ∀ (x : Sl) (v : Value), vcOps P Γr l' (put φ o.dst x) Γ K → notBox x → FitsSl x v → wpList P ops Q r (a.put o.dst v) w :=
      fun x v hk hnb hf => ih _ _ _ _ hk (hst.put hdn hnb hf)
     cases e with
     | false =>
      rw [if_neg (by rw [h2 rfl]; simp)]
      rcases h3 with ⟨hp, hv⟩ | ⟨hp, ha, hv⟩ | ⟨hp, ha, _, hv⟩
      ·rcases hkinds with ⟨_, hk⟩ | ⟨q, _⟩ | ⟨q, _⟩
       ·obtain ⟨sl, hk1, hk2, hk3, _⟩ := hk _ _ _ hv
        exact slot sl undef hk1 hk2 (hk3 rfl)
       ·rw [hp] at q; cases q
       ·rw [hp] at q; cases q
      ·rcases hkinds with ⟨q, _⟩ | ⟨_, _, hk⟩ | ⟨_, q, _⟩
       ·rw [hp] at q; cases q
       ·obtain ⟨sl, hk1, hk2, hk3, _⟩ := hk _ _ _ _ hv
        exact slot sl undef hk1 hk2 (hk3 rfl)
       ·rw [ha] at q; cases q
      ·obtain ⟨x, hx⟩ := hv rfl
       exact slot (.v false x) undef hx trivial rfl
     | true =>
      rw [if_pos (h1 rfl)]
      left
      have value : ∀ v, (execOp a.eval o).run P w = .ok (.value v) w → wpList P ops Q r (a.put o.dst v) w → o.wp P a w (wpList P ops Q r) Q := by
       intro v hr hn
       unfold Oper.wp
       rw [hr]
       exact hn
      rcases h3 with ⟨hp, hv⟩ | ⟨hp, ha, hv⟩ | ⟨hp, ha, hv, _⟩
      ·rcases hkinds with ⟨_, hk⟩ | ⟨q, _⟩ | ⟨q, _⟩
       ·obtain ⟨sl, hk1, hk2, _, hk4⟩ := hk _ _ _ hv
        obtain ⟨v, hr, hf⟩ := hk4 rfl a w hst.fits
        exact value v hr (slot sl v hk1 hk2 hf)
       ·rw [hp] at q; cases q
       ·rw [hp] at q; cases q
      ·rcases hkinds with ⟨q, _⟩ | ⟨_, _, hk⟩ | ⟨_, q, _⟩
       ·rw [hp] at q; cases q
       ·obtain ⟨sl, hk1, hk2, _, hk4⟩ := hk _ _ _ _ hv
        obtain ⟨v, hr, hf⟩ := hk4 rfl a w hst
        exact value v hr (slot sl v hk1 hk2 hf)
       ·rw [ha] at q; cases q
      ·rcases hkinds with ⟨q, _⟩ | ⟨_, q, _⟩ | ⟨_, _, hk⟩
       ·rw [hp] at q; cases q
       ·rw [ha] at q; cases q
       ·exact hk _ _ _ _ _ hst hdn hstore (hv rfl) _ _ (fun φ' Γ' a' w' hk' hst' => ih φ' Γ' a' w' hk' hst')
    -- the guard
    cases hgd : o.guard with
    | none =>
     rw [hgd] at hg
     simp only [Option.some.injEq] at hg
     subst hg
     simp only [vcOps] at hv
     refine run true (fun _ => wanted_none o hgd _) (fun q => by cases q) ?_
     cases hp : isPure sop with
     | true => rw [hp] at hv; exact .inl ⟨rfl, hv⟩
     | false =>
      rw [hp] at hv
      cases ha : isAsk sop with
      | true => rw [ha] at hv; exact .inr (.inl ⟨rfl, rfl, hv⟩)
      | false => rw [ha] at hv; exact .inr (.inr ⟨rfl, rfl, fun _ => hv, fun q => by cases q⟩)
    | some jw =>
     obtain ⟨j, want⟩ := jw
     rw [hgd] at hg
     dsimp only at hg
     split at hg
     ·rename_i t ht
      cases hc : decide (t < n) with
      | false => rw [hc] at hg; simp at hg
      | true =>
       rw [hc] at hg
       simp only [cond_true, Option.some.injEq] at hg
       subst hg
       have htn : t < a.tmps.size := by rw [hst.n]; exact of_decide_eq_true hc
       simp only [vcOps, gd] at hv
       cases hl : look φ t with
       | v ge x =>
        rw [hl] at hv
        cases x with
        | bool b =>
         simp only at hv
         have hfit := hst.fits t
         rw [hl] at hfit
         simp only [FitsSl] at hfit
         have hy : yielded ops a.tmps j = (bif ge then some b else none) := by
          unfold yielded
          rw [ht]
          simp only [Option.bind_some]
          have : a.tmps[t]? = some (a.tmps.getD t undef) := by simp [Array.getD_eq_getD_getElem?, htn]
          rw [this, hfit]
          cases ge <;> rfl
         have hw : Region.wanted o (yielded ops a.tmps) = (ge && (b == want)) := by
          unfold Region.wanted
          rw [hgd]
          simp only [hy]
          cases ge <;> cases b <;> cases want <;> rfl
         refine run (ge && (b == want)) (fun q => by rw [hw]; exact q) (fun q => by rw [hw]; exact q) ?_
         cases hp : isPure sop with
         | true => rw [hp] at hv; exact .inl ⟨rfl, hv⟩
         | false =>
          rw [hp] at hv
          cases ha : isAsk sop with
          | true => rw [ha] at hv; exact .inr (.inl ⟨rfl, rfl, hv⟩)
          | false => rw [ha] at hv; exact .inr (.inr ⟨rfl, rfl, hv.1, hv.2⟩)
        | _ => exact hv.elim
       | _ => rw [hl] at hv; exact hv.elim
     ·cases hg
   ·cases hso
  ·cases h
end
/- Operations whose order is drawn may be gone through in one order; no condition. -/
/-- what an operand sees of a slot -/
def bare : Sl → Sl
 | .box b T _ => .box b T []
 | x => x
def SameOn (S : List Nat) (φ ψ : Fr) : Prop := ∀ t ∈ S, bare (look ψ t) = bare (look φ t)
def LookEq (φ ψ : Fr) : Prop := ∀ t, look φ t = look ψ t
def Ext (K : Fr → Ctx → Prop) : Prop := ∀ φ ψ Γ, LookEq φ ψ → K φ Γ → K ψ Γ

theorem bare_val (x : Sl) : (bare x).val = x.val := by cases x <;> rfl
theorem val_same {φ ψ : Fr} {x : Operand} (h : SameOn (rdO x) φ ψ) : val ψ x = val φ x := by
 cases x with
 | tmp t =>
  simp only [val]
  rw [← bare_val, h t (by simp [rdO]), bare_val]
 | _ => rfl
theorem slotOf_same {φ ψ : Fr} {e : Bool} {x : Operand} (h : SameOn (rdO x) φ ψ) : slotOf ψ e x = slotOf φ e x := by
 cases x with
 | tmp t =>
  have := h t (by simp [rdO])
  simp only [slotOf]
  cases h1 : look φ t <;> cases h2 : look ψ t <;> simp_all [bare]
 | _ => rfl
theorem gd_same {φ ψ : Fr} {g : Option (Nat × Bool)} (h : SameOn (rdG g) φ ψ) : gd ψ g = gd φ g := by
 cases g with
 | none => rfl
 | some g =>
  obtain ⟨t, want⟩ := g
  have := h t (by simp [rdG])
  simp only [gd]
  cases h1 : look φ t <;> cases h2 : look ψ t <;> simp_all [bare]
theorem SameOn.left {S T : List Nat} {φ ψ : Fr} (h : SameOn (S ++ T) φ ψ) : SameOn S φ ψ := fun t ht => h t (by simp [ht])
theorem SameOn.right {S T : List Nat} {φ ψ : Fr} (h : SameOn (S ++ T) φ ψ) : SameOn T φ ψ := fun t ht => h t (by simp [ht])
theorem vals_same {φ ψ : Fr} : ∀ {l : List Operand}, SameOn (rdL l) φ ψ → vals ψ l = vals φ l
 | [], _ => rfl
 | x :: r, h => by simp only [vals]; rw [val_same h.left, vals_same h.right]
theorem allOn_same {φ ψ : Fr} {e : Bool} : ∀ {l : List Operand}, SameOn (rdL l) φ ψ → allOn ψ e l = allOn φ e l
 | [], _ => rfl
 | x :: r, h => by simp only [allOn]; rw [val_same h.left, allOn_same h.right]
theorem partVals_same {φ ψ : Fr} : ∀ {l : List (Nat × Nat × Operand)}, SameOn (rdP l) φ ψ → partVals ψ l = partVals φ l
 | [], _ => rfl
 | (_, _, x) :: r, h => by simp only [partVals]; rw [val_same h.left, partVals_same h.right]
theorem partOn_same {φ ψ : Fr} {e : Bool} : ∀ {l : List (Nat × Nat × Operand)}, SameOn (rdP l) φ ψ → partOn ψ e l = partOn φ e l
 | [], _ => rfl
 | (_, _, x) :: r, h => by simp only [partOn]; rw [val_same h.left, partOn_same h.right]
theorem bnd_same {φ ψ : Fr} {x : Option Operand} {l d : Nat} (h : SameOn (rdB x) φ ψ) : bnd ψ x l d = bnd φ x l d := by
 cases x with
 | none => rfl
 | some y => simp only [bnd]; rw [val_same (x := y) h]

theorem pure_same {φ ψ : Fr} {e : Bool} {op : SOp} {k : Sl → Prop} (h : SameOn (rd op) φ ψ) : pureV ψ e op k = pureV φ e op k := by
 cases op <;> simp only [rd] at h <;> simp only [pureV] <;> try rfl
 case mv x => rw [val_same h, slotOf_same h]
 case pick c a b => rw [val_same h.left, val_same h.right.left, val_same h.right.right]
 case ibin op x y => rw [val_same h.left, val_same h.right]
 case sbin op x y => rw [val_same h.left, val_same h.right]
 case beq n x y => rw [val_same h.left, val_same h.right]
 case nilq kd n x y => rw [val_same h.left, val_same h.right]
 case un op x => rw [val_same h]
 case conv k x => rw [val_same h]
 case fld o x => rw [val_same h, slotOf_same h]
 case nilCheck x => rw [val_same h, slotOf_same h]
 case field a o n x => rw [val_same h]
 case len s x => rw [val_same h]
 case extract i x => rw [val_same h]
 case mkFunc f l => rw [vals_same h, allOn_same h]
 case build t z l => rw [partOn_same h, partVals_same h]
 case fn c l => simp only [vals_same h, allOn_same h]

theorem isBox_slotOf (φ : Fr) (e : Bool) (x : Operand) : isBox (slotOf φ e x) = false := by
 have := slotOf_notBox φ e x
 cases h : slotOf φ e x <;> simp_all [notBox, isBox]

/-- what a pure operation answers -/
theorem pure_split {φ : Fr} {e : Bool} {op : SOp} {k : Sl → Prop} (h : pureV φ e op k) : ∃ s, isBox s = false ∧ k s ∧ ∀ k', k' s → pureV φ e op k' := by
 cases op <;> simp only [pureV] at h ⊢
 case mv x => exact ⟨_, isBox_slotOf _ _ _, h.2, fun k' hk => ⟨h.1, hk⟩⟩
 case pick c a b =>
  split at h
  ·obtain ⟨h1, h2, h3, h4⟩ := h; exact ⟨_, rfl, h4, fun k' hk => ⟨h1, h2, h3, hk⟩⟩
  ·exact h.elim
 case ibin op x y =>
  split at h
  ·obtain ⟨h1, h2, h3, h4, h5⟩ := h; exact ⟨_, rfl, h5, fun k' hk => ⟨h1, h2, h3, h4, hk⟩⟩
  ·exact h.elim
 case sbin op x y =>
  split at h
  ·obtain ⟨r, h1, h2, h3, h4⟩ := h; exact ⟨_, rfl, h4, fun k' hk => ⟨r, h1, h2, h3, hk⟩⟩
  ·exact h.elim
 case beq n x y =>
  split at h
  ·obtain ⟨h1, h2, h3⟩ := h; exact ⟨_, rfl, h3, fun k' hk => ⟨h1, h2, hk⟩⟩
  ·exact h.elim
 case nilq kd n x y => obtain ⟨h1, h2, r, h3, h4, h5⟩ := h; exact ⟨_, rfl, h5, fun k' hk => ⟨h1, h2, r, h3, h4, hk⟩⟩
 case un op x => obtain ⟨r, h1, h2, h3⟩ := h; exact ⟨_, rfl, h3, fun k' hk => ⟨r, h1, h2, hk⟩⟩
 case conv k x =>
  split at h
  ·exact ⟨_, rfl, h.2, fun k' hk => ⟨h.1, hk⟩⟩
  ·exact h.elim
 case fld o x =>
  split at h
  ·exact ⟨_, rfl, h.2, fun k' hk => ⟨h.1, hk⟩⟩
  ·exact ⟨_, rfl, h.2, fun k' hk => ⟨h.1, hk⟩⟩
  ·exact h.elim
 case nilCheck x =>
  split at h
  ·exact ⟨_, rfl, h.2, fun k' hk => ⟨h.1, hk⟩⟩
  ·exact ⟨_, rfl, h.2, fun k' hk => ⟨h.1, hk⟩⟩
  ·exact ⟨_, rfl, h.2, fun k' hk => ⟨h.1, hk⟩⟩
  ·exact h.elim
 case field a o n x =>
  split at h
  ·obtain ⟨h1, h2, h3, h4⟩ := h; exact ⟨_, rfl, h4, fun k' hk => ⟨h1, h2, h3, hk⟩⟩
  ·exact h.elim
 case len s x => obtain ⟨r, h1, h2, h3⟩ := h; exact ⟨_, rfl, h3, fun k' hk => ⟨r, h1, h2, hk⟩⟩
 case extract i x =>
  split at h
  ·obtain ⟨r, h1, h2, h3⟩ := h; exact ⟨_, rfl, h3, fun k' hk => ⟨r, h1, h2, hk⟩⟩
  ·exact h.elim
 case mkFunc f l => exact ⟨_, rfl, h.2, fun k' hk => ⟨h.1, hk⟩⟩
 case build t z l => exact ⟨_, rfl, h.2.2, fun k' hk => ⟨h.1, h.2.1, hk⟩⟩
 case fn c l => obtain ⟨r, h1, h2⟩ := h; exact ⟨_, rfl, h2, fun k' hk => ⟨r, h1, hk⟩⟩
 all_goals exact h.elim

/-- what an asking operation answers; and in another frame and memory that look the same -/
theorem Cells.sub {Γ Γ' : Ctx} {b o : Nat} {vs : List Value} (hc : Cells Γ b o vs) (h : ∀ g ∈ Γ, g ∈ Γ') : Cells Γ' b o vs := by
 obtain ⟨g, hg, r⟩ := hc
 exact ⟨g, h g hg, r⟩
theorem QR.sub {P : Program} {Γ Γ' : Ctx} {c : Qk} {vs : List Value} {r : Value} (hc : QR P c vs Γ r) (h : ∀ g ∈ Γ, g ∈ Γ') : QR P c vs Γ' r :=
 fun w hw => hc w fun g hg => hw g (h g hg)
theorem ask_split {P : Program} {φ : Fr} {Γ : Ctx} {e : Bool} {op : SOp} {k : Sl → Prop} (h : askV P Γ φ e op k) :
  ∃ s, isBox s = false ∧ k s ∧ ∀ ψ Γ', SameOn (rd op) φ ψ → (isLoad op = true → ∀ t, isBox (look φ t) = true → look ψ t = look φ t) → (isLoad op = true → ∀ g ∈ Γ, g ∈ Γ') →
   ∀ k', k' s → askV P Γ' ψ e op k' := by
 cases op <;> simp only [askV] at h ⊢
 case idiv op x y =>
  split at h
  ·obtain ⟨h1, h2, h3, h4⟩ := h
   rename_i e1 e2
   refine ⟨_, rfl, h4, fun ψ Γ' hs _ _ k' hk => ?_⟩
   simp only [rd] at hs
   rw [val_same hs.left, val_same hs.right, e1, e2]
   exact ⟨h1, h2, h3, hk⟩
  ·exact h.elim
 case ishift op x y =>
  split at h
  ·obtain ⟨h1, h2, h4⟩ := h
   rename_i e1 e2
   refine ⟨_, rfl, h4, fun ψ Γ' hs _ _ k' hk => ?_⟩
   simp only [rd] at hs
   rw [val_same hs.left, val_same hs.right, e1, e2]
   exact ⟨h1, h2, hk⟩
  ·exact h.elim
 case idx sz x i =>
  split at h
  ·obtain ⟨b, o, h1, h4⟩ := h
   rename_i e1 e2
   refine ⟨_, rfl, h4, fun ψ Γ' hs _ _ k' hk => ?_⟩
   simp only [rd] at hs
   rw [val_same hs.left, val_same hs.right, e1, e2]
   exact ⟨b, o, h1, hk⟩
  ·exact h.elim
 case idxA len sz x i =>
  split at h
  ·rename_i e1 e2
   refine ⟨_, rfl, h.2, fun ψ Γ' hs _ _ k' hk => ?_⟩
   simp only [rd] at hs
   rw [slotOf_same hs.left, val_same hs.right, e1, e2, val_same hs.left]
   exact ⟨h.1, hk⟩
  ·rename_i e1 e2
   refine ⟨_, rfl, h.2, fun ψ Γ' hs _ _ k' hk => ?_⟩
   simp only [rd] at hs
   rw [slotOf_same hs.left, val_same hs.right, e1, e2, val_same hs.left]
   exact ⟨h.1, hk⟩
  ·exact h.elim
 case load agg n x =>
  split at h
  ·rename_i e1
   split at h
   ·rename_i e2
    obtain ⟨h1, h2, h3, h4, h5⟩ := h
    refine ⟨_, rfl, h5, fun ψ Γ' hs hb _ k' hk => ?_⟩
    simp only [rd] at hs
    rw [slotOf_same hs, e1, val_same hs]
    simp only [hb rfl _ (by rw [e2]; rfl), e2]
    exact ⟨h1, h2, h3, h4, hk⟩
   ·exact h.elim
  ·rename_i e1
   obtain ⟨h1, vs, h2, h3, h4⟩ := h
   refine ⟨_, rfl, h4, fun ψ Γ' hs _ hc k' hk => ?_⟩
   simp only [rd] at hs
   rw [slotOf_same hs, e1, val_same hs]
   exact ⟨h1, vs, h2, fun he => ⟨(h3 he).1, (h3 he).2.sub (hc rfl)⟩, hk⟩
  ·exact h.elim
 case slc sz x lo hi mx =>
  cases mx with
  | some m => exact h.elim
  | none =>
   simp only at h
   split at h
   ·obtain ⟨l, m, h1, h4⟩ := h
    rename_i e1
    refine ⟨_, rfl, h4, fun ψ Γ' hs _ _ k' hk => ?_⟩
    simp only [rd] at hs
    dsimp only
    rw [val_same hs.left, e1]
    refine ⟨l, m, fun he => ?_, hk⟩
    rw [bnd_same hs.right.left, bnd_same hs.right.right]
    exact h1 he
   ·exact h.elim
 case q c xs =>
  obtain ⟨r, h1, h2⟩ := h
  refine ⟨_, rfl, h2, fun ψ Γ' hs _ hc k' hk => ?_⟩
  simp only [rd] at hs
  rw [vals_same hs, allOn_same hs]
  exact ⟨r, fun he => ⟨(h1 he).1, (h1 he).2.sub (hc rfl)⟩, hk⟩
 case loadB q agg n x =>
  obtain ⟨h0, h⟩ := h
  split at h
  ·rename_i e1
   split at h
   ·rename_i e2
    obtain ⟨h1, h2, h3, h4, h5⟩ := h
    refine ⟨_, rfl, h5, fun ψ Γ' hs hb _ k' hk => ?_⟩
    simp only [rd] at hs
    rw [slotOf_same hs]
    refine ⟨h0, ?_⟩
    rw [e1, val_same hs]
    simp only [hb rfl _ (by rw [e2]; rfl), e2]
    exact ⟨h1, h2, h3, h4, hk⟩
   ·exact h.elim
  ·rename_i e1
   obtain ⟨h1, vs, h2, h3, h4⟩ := h
   refine ⟨_, rfl, h4, fun ψ Γ' hs _ hc k' hk => ?_⟩
   simp only [rd] at hs
   rw [slotOf_same hs]
   refine ⟨h0, ?_⟩
   rw [e1, val_same hs]
   exact ⟨h1, vs, h2, fun he => ⟨(h3 he).1, (h3 he).2.sub (hc rfl)⟩, hk⟩
  ·exact h.elim
 all_goals exact h.elim

theorem look_put (φ : Fr) (d : Option Nat) (x : Sl) (t : Nat) : look (put φ d x) t = if d = some t then x else look φ t := by
 cases d with
 | none => simp [put]
 | some d =>
  simp only [put, look_cons, Option.some.injEq]
theorem look_upd (φ : Fr) (s t : Nat) (cs : List Value) : look (updBox φ s cs) t = if s = t then (match look φ t with | .box b T _ => .box b T cs | x => x) else look φ t := by
 induction φ with
 | nil => simp [updBox, look]
 | cons x r ih =>
  obtain ⟨k, x⟩ := x
  simp only [updBox]
  by_cases hk : k = s
  ·subst hk
   simp only [beq_self_eq_true, cond_true]
   by_cases hkt : k = t
   ·subst hkt
    cases x <;> simp [look]
   ·have : (k == t) = false := by simpa using hkt
    cases x <;> simp [look, this, hkt]
  ·have h1 : (k == s) = false := by simpa using hk
   simp only [h1, cond_false, look]
   by_cases hkt : k = t
   ·subst hkt
    have : ¬ s = k := fun q => hk q.symm
    simp [this]
   ·have h2 : (k == t) = false := by simpa using hkt
    simp only [h2, cond_false, ih]

theorem lookEq_put {φ ψ : Fr} {dx dy : Option Nat} {s x : Sl} (h : LookEq φ (put ψ dx s)) (hd : ∀ d, dx = some d → dy ≠ some d) : LookEq (put φ dy x) (put (put ψ dy x) dx s) := by
 intro t
 rw [look_put, look_put, look_put, h t, look_put]
 by_cases h1 : dy = some t
 ·by_cases h2 : dx = some t
  ·exact absurd h1 (hd t h2)
  ·simp [h1, h2]
 ·simp [h1]
theorem sameOn_put {S : List Nat} {φ ψ : Fr} {dx : Option Nat} {s : Sl} (h : LookEq φ (put ψ dx s)) (hS : ∀ d, dx = some d → d ∉ S) : SameOn S φ ψ := by
 intro t ht
 rw [h t, look_put, if_neg (fun q => hS t q ht)]

def After (Γr : Ctx) (dy : Option Nat) (m : Nat) (ψ ψ' : Fr) (Γ Γ' : Ctx) : Prop :=
 (∀ t, dy ≠ some t → bare (look ψ' t) = bare (look ψ t)) ∧ (m ≠ 2 → ∀ t, dy ≠ some t → look ψ' t = look ψ t) ∧ (m = 0 → ∀ g ∈ Γ ++ Γr, g ∈ Γ' ++ Γr)
theorem after_put {Γr : Ctx} {dy : Option Nat} {m : Nat} {ψ : Fr} {x : Sl} {Γ Γ' : Ctx} (h : m = 0 → ∀ g ∈ Γ ++ Γr, g ∈ Γ' ++ Γr) : After Γr dy m ψ (put ψ dy x) Γ Γ' :=
 ⟨fun t ht => by rw [look_put, if_neg ht], fun _ t ht => by rw [look_put, if_neg ht], h⟩
theorem mem_cons' {g h : PH} {Γ Γr : Ctx} (hg : g ∈ Γ ++ Γr) : g ∈ (h :: Γ) ++ Γr := List.mem_cons_of_mem _ hg
theorem cells_cons {h : PH} {Γ : Ctx} {b o : Nat} {vs : List Value} (hc : Cells Γ b o vs) : Cells (h :: Γ) b o vs := by
 obtain ⟨g, hg, r⟩ := hc
 exact ⟨g, by simp [hg], r⟩

theorem eff_move {P : Program} {Γr Γ : Ctx} {φ ψ : Fr} {dx dy : Option Nat} {s : Sl} {op : SOp} {k : Fr → Ctx → Prop} (hrel : LookEq φ (put ψ dx s)) (hs : isBox s = false)
  (hrd : ∀ d, dx = some d → d ∉ rd op) (hdd : ∀ d, dx = some d → dy ≠ some d) (h : effV P Γr φ Γ dy op k) :
  effV P Γr ψ Γ dy op (fun ψ' Γ' => ∃ φ', k φ' Γ' ∧ LookEq φ' (put ψ' dx s) ∧ After Γr dy (modi op) ψ ψ' Γ Γ') := by
 have hsm : SameOn (rd op) φ ψ := sameOn_put hrel hrd
 cases op <;> simp only [rd] at hsm
 case box loc T x =>
  cases loc <;> simp only [effV] at h ⊢ <;> rw [val_same hsm]
  ·exact ⟨h.1, h.2.1, fun b => ⟨_, h.2.2 b, lookEq_put hrel hdd, after_put fun _ _ hc => mem_cons' hc⟩⟩
  ·exact ⟨h.1, h.2.1, fun b => ⟨_, h.2.2 b, lookEq_put hrel hdd, after_put fun _ _ hc => hc⟩⟩
 case alloc loc T z =>
  cases loc <;> simp only [effV] at h ⊢
  ·exact fun b => ⟨_, h b, lookEq_put hrel hdd, after_put fun _ _ hc => mem_cons' hc⟩
  ·exact fun b => ⟨_, h b, lookEq_put hrel hdd, after_put fun _ _ hc => hc⟩
 case buildS t n z parts =>
  simp only [effV] at h ⊢
  rw [partOn_same hsm, partVals_same hsm]
  exact ⟨h.1, h.2.1, fun b => ⟨_, h.2.2 b, lookEq_put hrel hdd, after_put fun _ _ hc => mem_cons' hc⟩⟩
 case mk e sz bytes z n c =>
  simp only [effV] at h ⊢
  rw [val_same hsm.left, val_same hsm.right]
  split
  ·rename_i e1 e2
   rw [e1, e2] at h
   exact ⟨h.1, h.2.1, h.2.2.1, fun b => ⟨_, h.2.2.2 b, lookEq_put hrel hdd, after_put fun _ _ hc => mem_cons' hc⟩⟩
  ·rename_i e1
   split at h
   ·rename_i q1 q2
    exact (e1 _ _ q1 q2).elim
   ·exact h
 case appz t u e sz bytes z s' x =>
  simp only [effV] at h ⊢
  rw [val_same hsm.left, val_same hsm.right]
  refine ⟨h.1, h.2.1, ?_⟩
  have h2 := h.2.2
  split
  ·rename_i e1 e2
   rw [e1, e2] at h2
   obtain ⟨a1, a2, a3, i, g, a4, a5⟩ := h2
   exact ⟨a1, a2, a3, i, g, a4, fun v' h' r1 r2 => ⟨_, a5 v' h' r1 r2, lookEq_put hrel hdd, after_put fun q => by cases q⟩⟩
  ·rename_i e1
   split at h2
   ·rename_i q1 q2
    exact (e1 _ _ q1 q2).elim
   ·exact h2
 case append t e sz bytes z s' x =>
  simp only [effV] at h ⊢
  rw [val_same hsm.left, val_same hsm.right]
  refine ⟨h.1, h.2.1, ?_⟩
  split
  ·rename_i e1
   have h2 := h.2.2
   rw [e1] at h2
   obtain ⟨i, g, n, xs, news, a1, a2, a3, a4, a5, a6, a7, a8⟩ := h2
   exact ⟨i, g, n, xs, news, a1, a2, a3, a4, a5, a6, a7, fun v' h' r1 r2 r3 => ⟨_, a8 v' h' r1 r2 r3, lookEq_put hrel hdd, after_put fun q => by cases q⟩⟩
  ·rename_i e1
   have h2 := h.2.2
   split at h2
   ·exact absurd ‹_› (e1 _ _ _)
   ·exact h2
 case call f args =>
  simp only [effV] at h ⊢
  rw [val_same hsm.left, vals_same hsm.right, allOn_same hsm.right]
  refine ⟨h.1, ?_⟩
  split
  ·rename_i e1
   have h2 := h.2
   rw [e1] at h2
   obtain ⟨Γr1, Γm, Γf, R, a1, a2, a3, a4⟩ := h2
   exact ⟨Γr1, Γm, Γf, R, a1, a2, a3, fun v Γ' hR => ⟨_, a4 v Γ' hR, lookEq_put hrel hdd, after_put fun q => by cases q⟩⟩
  ·rename_i e1
   have h2 := h.2
   split at h2
   ·exact absurd ‹_› (e1 _ _ _)
   ·exact h2
 case store n x y =>
  simp only [effV] at h ⊢
  rw [val_same hsm.left, val_same hsm.right, slotOf_same hsm.left]
  obtain ⟨h1, h2, h3, h4, h5⟩ := h
  refine ⟨h1, h2, h3, h4, ?_⟩
  split at h5
  ·rename_i e s0 b o e1
   try simp only [e1]
   split at h5
   ·rename_i b' T cs e2
    have hne : ¬ dx = some s0 := by
     intro q
     rw [hrel s0, look_put, if_pos q] at e2
     rw [e2] at hs
     cases hs
    have e3 : look ψ s0 = .box b' T cs := by rw [← e2, hrel s0, look_put, if_neg hne]
    simp only [e3]
    refine ⟨h5.1, h5.2.1, _, h5.2.2, fun t => ?_, fun t _ => ?_, fun q => absurd rfl q, fun q => by cases q⟩
    ·rw [look_upd, look_put, look_upd, hrel t, look_put]
     by_cases q : dx = some t
     ·have : ¬ s0 = t := fun r => hne (by rw [r]; exact q)
      simp [q, this]
     ·simp [q]
    ·rw [look_upd]
     split
     ·cases look ψ t <;> rfl
     ·rfl
   ·exact h5.elim
  ·rename_i e1
   try simp only [e1]
   obtain ⟨i, g, cells, T, a1, a2, a3, a4⟩ := h5
   exact ⟨i, g, cells, T, a1, a2, a3, _, a4, hrel, fun t _ => rfl, fun _ t _ => rfl, fun q => by cases q⟩
  ·exact h5.elim
 case a c xs =>
  simp only [effV] at h ⊢
  rw [vals_same hsm, allOn_same hsm]
  refine ⟨h.1, fun w hw => ?_⟩
  obtain ⟨v, w', m, h1, h2⟩ := h.2 w hw
  refine ⟨v, w', m, h1, ?_⟩
  rcases h2 with ⟨h2, h3⟩ | ⟨i, g, b, p, q, h2, h3, h4, h5⟩
  ·exact .inl ⟨h2, _, h3, lookEq_put hrel hdd, after_put fun q => by cases q⟩
  ·exact .inr ⟨i, g, b, p, q, h2, h3, h4, _, h5, lookEq_put hrel hdd, after_put fun q => by cases q⟩
 case n c xs =>
  simp only [effV] at h ⊢
  rw [vals_same hsm, allOn_same hsm]
  refine ⟨h.1, fun w hw => ?_⟩
  obtain ⟨v, q, h1, h2⟩ := h.2 w hw
  exact ⟨v, q, h1, _, h2, lookEq_put hrel hdd, after_put fun _ _ hc => mem_cons' hc⟩
 all_goals (simp only [effV] at h)

theorem effV_false {P : Program} {Γr Γ : Ctx} {φ : Fr} {d : Option Nat} {op : SOp} {k : Fr → Ctx → Prop} (h : effV P Γr φ Γ d op k) : isPure op = false ∧ isAsk op = false := by
 cases op <;> simp only [effV] at h <;> first | exact ⟨rfl, rfl⟩ | exact h.elim
theorem modi_quiet {op : SOp} (h : (isPure op || isAsk op) = true) : modi op = 0 := by
 cases op <;> first | rfl | simp [isPure, isAsk] at h

/-- an operation that only reads: what it answers, wherever what it looks at is the same -/
theorem vc1_quiet {P : Program} {Γr Γ : Ctx} {φ : Fr} {early : Bool} {x : SOper} {k : Fr → Ctx → Prop} (hq : (isPure x.op || isAsk x.op) = true) (h : vc1 P Γr early x φ Γ k) :
  ∃ s, isBox s = false ∧ k (put φ x.dst s) Γ ∧ ∀ ψ Γ', SameOn (rdS x) φ ψ → (isLoad x.op = true → ∀ t, isBox (look φ t) = true → look ψ t = look φ t) →
   (isLoad x.op = true → ∀ g ∈ ctxOf early Γ Γr, g ∈ ctxOf early Γ' Γr) → ∀ k' : Fr → Ctx → Prop, k' (put ψ x.dst s) Γ' → vc1 P Γr early x ψ Γ' k' := by
 unfold vc1 at h ⊢
 split at h
 ·rename_i e he
  cases hp : isPure x.op with
  | true =>
   simp only [hp, cond_true] at h ⊢
   obtain ⟨s, h1, h2, h3⟩ := pure_split h
   refine ⟨s, h1, h2, fun ψ Γ' hs _ _ k' hk => ?_⟩
   rw [gd_same hs.left, he]
   simp only
   rw [pure_same hs.right]
   exact h3 _ hk
  | false =>
   have ha : isAsk x.op = true := by simpa [hp] using hq
   simp only [hp, ha, cond_true, cond_false] at h ⊢
   obtain ⟨s, h1, h2, h3⟩ := ask_split h
   refine ⟨s, h1, h2, fun ψ Γ' hs hb hc k' hk => ?_⟩
   rw [gd_same hs.left, he]
   exact h3 ψ _ hs.right hb hc _ hk
 ·exact h.elim

/-- an operation in a frame that lacks one slot -/
theorem vc1_move {P : Program} {Γr Γ : Ctx} {φ ψ : Fr} {dx : Option Nat} {s : Sl} {early : Bool} {y : SOper} {k : Fr → Ctx → Prop} (hrel : LookEq φ (put ψ dx s)) (hs : isBox s = false)
  (hrd : ∀ d, dx = some d → d ∉ rdS y) (hdd : ∀ d, dx = some d → y.dst ≠ some d) (h : vc1 P Γr early y φ Γ k) :
  vc1 P Γr early y ψ Γ (fun ψ' Γ' => ∃ φ', k φ' Γ' ∧ LookEq φ' (put ψ' dx s) ∧ After Γr y.dst (modi y.op) ψ ψ' Γ Γ') := by
 have hsm : SameOn (rdS y) φ ψ := sameOn_put hrel hrd
 cases hq : (isPure y.op || isAsk y.op) with
 | true =>
  obtain ⟨v, h1, h2, h3⟩ := vc1_quiet hq h
  refine h3 ψ Γ hsm (fun _ t ht => ?_) (fun _ _ hc => hc) _ ⟨_, h2, lookEq_put hrel hdd, after_put fun _ _ hc => hc⟩
  rw [hrel t, look_put]
  by_cases q : dx = some t
  ·rw [hrel t, look_put, if_pos q, hs] at ht; cases ht
  ·rw [if_neg q]
 | false =>
  have hp : isPure y.op = false := by cases h' : isPure y.op <;> simp_all
  have ha : isAsk y.op = false := by cases h' : isAsk y.op <;> simp_all
  unfold vc1 at h ⊢
  rw [gd_same hsm.left]
  split at h
  ·rename_i e he
   simp only [hp, ha, cond_false] at h ⊢
   refine ⟨fun q => eff_move hrel hs (fun d hd hm => hrd d hd (by simp [rdS, hm])) hdd (h.1 q), fun q => let ⟨x, hx⟩ := h.2 q; ⟨x, _, hx, lookEq_put hrel hdd, ?_⟩⟩
   exact after_put fun _ _ hc => hc
  ·exact h.elim

theorem eff_mono {P : Program} {Γr Γ : Ctx} {φ : Fr} {d : Option Nat} {op : SOp} {k k' : Fr → Ctx → Prop} (hk : ∀ φ Γ, k φ Γ → k' φ Γ) (h : effV P Γr φ Γ d op k) : effV P Γr φ Γ d op k' := by
 cases op <;> simp only [effV] at h ⊢
 case box loc T x => cases loc <;> simp only [effV] at h ⊢ <;> exact ⟨h.1, h.2.1, fun b => hk _ _ (h.2.2 b)⟩
 case alloc loc T z => cases loc <;> simp only [effV] at h ⊢ <;> exact fun b => hk _ _ (h b)
 case buildS t n z parts => exact ⟨h.1, h.2.1, fun b => hk _ _ (h.2.2 b)⟩
 case mk e sz bytes z n c =>
  split at h
  ·exact ⟨h.1, h.2.1, h.2.2.1, fun b => hk _ _ (h.2.2.2 b)⟩
  ·exact h.elim
 case appz t u e sz bytes z s' x =>
  refine ⟨h.1, h.2.1, ?_⟩
  have h2 := h.2.2
  split at h2
  ·obtain ⟨a1, a2, a3, i, g, a4, a5⟩ := h2
   exact ⟨a1, a2, a3, i, g, a4, fun v' h' r1 r2 => hk _ _ (a5 v' h' r1 r2)⟩
  ·exact h2.elim
 case append t e sz bytes z s' x =>
  refine ⟨h.1, h.2.1, ?_⟩
  have h2 := h.2.2
  split at h2
  ·obtain ⟨i, g, n, xs, news, a1, a2, a3, a4, a5, a6, a7, a8⟩ := h2
   exact ⟨i, g, n, xs, news, a1, a2, a3, a4, a5, a6, a7, fun v' h' r1 r2 r3 => hk _ _ (a8 v' h' r1 r2 r3)⟩
  ·exact h2.elim
 case call f args =>
  refine ⟨h.1, ?_⟩
  have h2 := h.2
  split at h2
  ·obtain ⟨Γr1, Γm, Γf, R, a1, a2, a3, a4⟩ := h2
   exact ⟨Γr1, Γm, Γf, R, a1, a2, a3, fun v Γ' hR => hk _ _ (a4 v Γ' hR)⟩
  ·exact h2.elim
 case store n x y =>
  obtain ⟨h1, h2, h3, h4, h5⟩ := h
  refine ⟨h1, h2, h3, h4, ?_⟩
  split at h5
  ·split at h5
   ·exact ⟨h5.1, h5.2.1, hk _ _ h5.2.2⟩
   ·exact h5.elim
  ·obtain ⟨i, g, cells, T, a1, a2, a3, a4⟩ := h5
   exact ⟨i, g, cells, T, a1, a2, a3, hk _ _ a4⟩
  ·exact h5.elim
 case a c xs =>
  refine ⟨h.1, fun w hw => ?_⟩
  obtain ⟨v, w', m, h1, h2⟩ := h.2 w hw
  refine ⟨v, w', m, h1, ?_⟩
  rcases h2 with ⟨h2, h3⟩ | ⟨i, g, b, p, q, h2, h3, h4, h5⟩
  ·exact .inl ⟨h2, hk _ _ h3⟩
  ·exact .inr ⟨i, g, b, p, q, h2, h3, h4, hk _ _ h5⟩
 case n c xs =>
  refine ⟨h.1, fun w hw => ?_⟩
  obtain ⟨v, q, h1, h2⟩ := h.2 w hw
  exact ⟨v, q, h1, hk _ _ h2⟩
theorem vc1_mono {P : Program} {Γr Γ : Ctx} {φ : Fr} {early : Bool} {o : SOper} {k k' : Fr → Ctx → Prop} (hk : ∀ φ Γ, k φ Γ → k' φ Γ) (h : vc1 P Γr early o φ Γ k) : vc1 P Γr early o φ Γ k' := by
 unfold vc1 at h ⊢
 split at h
 ·rename_i e he
  cases hp : isPure o.op with
  | true =>
   simp only [hp, cond_true] at h ⊢
   obtain ⟨s, _, h2, h3⟩ := pure_split h
   exact h3 _ (hk _ _ h2)
  | false =>
   cases ha : isAsk o.op with
   | true =>
    simp only [hp, ha, cond_true, cond_false] at h ⊢
    obtain ⟨s, _, h2, h3⟩ := ask_split h
    exact h3 φ _ (fun _ _ => rfl) (fun _ _ _ => rfl) (fun _ _ hc => hc) _ (hk _ _ h2)
   | false =>
    simp only [hp, ha, cond_false] at h ⊢
    exact ⟨fun q => eff_mono hk (h.1 q), fun q => let ⟨x, hx⟩ := h.2 q; ⟨x, hk _ _ hx⟩⟩
 ·exact h.elim

theorem LookEq.sym {φ ψ : Fr} (h : LookEq φ ψ) : LookEq ψ φ := fun t => (h t).symm
theorem vc1_ext {P : Program} {Γr Γ : Ctx} {φ ψ : Fr} {early : Bool} {o : SOper} {k : Fr → Ctx → Prop} (hk : Ext k) (hl : LookEq φ ψ) (h : vc1 P Γr early o φ Γ k) : vc1 P Γr early o ψ Γ k :=
 vc1_mono (fun φ' Γ' ⟨φ'', h1, h2, _⟩ => hk _ _ _ h2 h1) (vc1_move (dx := none) (s := .dead) (by simpa [put] using hl) rfl (fun _ q => by cases q) (fun _ q => by cases q) h)
theorem vcD_ext {P : Program} {Γr : Ctx} {K : Fr → Ctx → Prop} (hK : Ext K) : ∀ (l : List (Bool × SOper)), Ext (fun φ Γ => vcD P Γr l φ Γ K)
 | [] => hK
 | x :: r => fun φ ψ Γ hl h => vc1_ext (vcD_ext hK r) hl h

/-- two operations turned round -/
theorem vc1_swap {P : Program} {Γr Γ : Ctx} {φ : Fr} {x y : Bool × SOper} {k : Fr → Ctx → Prop} (hk : Ext k) (hm : mayPass x y = true) (hd : dstEq x.2 y.2 = false)
  (hnb : ∀ d, y.2.dst = some d → isBox (look φ d) = false)
  (h : vc1 P Γr x.1 x.2 φ Γ (fun φ1 Γ1 => vc1 P Γr y.1 y.2 φ1 Γ1 k)) : vc1 P Γr y.1 y.2 φ Γ (fun φ1 Γ1 => vc1 P Γr x.1 x.2 φ1 Γ1 k) := by
 unfold mayPass at hm
 simp only [Bool.and_eq_true, Bool.not_eq_true'] at hm
 obtain ⟨⟨⟨hq, h1⟩, h2⟩, h3⟩ := hm
 obtain ⟨s, hs, hy, hans⟩ := vc1_quiet hq h
 have hdx : ∀ d, x.2.dst = some d → d ∉ rdS y.2 := fun d q hmem => by simp [dstIn, q, hmem] at h1
 have hdy : ∀ d, y.2.dst = some d → d ∉ rdS x.2 := fun d q hmem => by simp [dstIn, q, hmem] at h2
 have hdd : ∀ d, x.2.dst = some d → y.2.dst ≠ some d := fun d q r => by simp [dstEq, q, r] at hd
 refine vc1_mono ?_ (vc1_move (φ := put φ x.2.dst s) (fun _ => rfl) hs hdx hdd hy)
 rintro ψ' Γ' ⟨φ', hk', hl, ha1, ha2, ha3⟩
 refine hans ψ' Γ' (fun t ht => ha1 t (fun q => hdy t q ht)) (fun hload t ht => ?_) (fun hload b hc => ?_) _ (hk _ _ _ hl hk')
 ·refine ha2 ?_ t (fun q => by rw [hnb t q] at ht; cases ht)
  intro q
  simp [hload, q] at h3
 ·cases hx : x.1 with
  | true => rw [hx] at hc; exact hc
  | false =>
   rw [hx] at hc
   refine ha3 ?_ b hc
   simp [hload, hx] at h3
   exact h3

theorem boxSt_spec {op : SOp} {d : Nat} (h : boxSt op = some d) : ∃ n v, op = .store n (.tmp d) v := by
 unfold boxSt at h
 split at h
 ·simp only [Option.some.injEq] at h
  subst h
  exact ⟨_, _, rfl⟩
 ·cases h
/-- a load of a known local box, or of none -/
theorem vc1_quietB {P : Program} {Γr Γ : Ctx} {φ : Fr} {early : Bool} {x : SOper} {q : Option Nat} {agg : Bool} {n : Nat} {xx : Operand} {k : Fr → Ctx → Prop} (ho : x.op = .loadB q agg n xx) (h : vc1 P Γr early x φ Γ k) :
  (∀ t, q = some t → isBox (look φ t) = true) ∧ ∃ s, isBox s = false ∧ k (put φ x.dst s) Γ ∧ ∀ ψ, SameOn (rdS x) φ ψ → (∀ t, q = some t → look ψ t = look φ t) → ∀ k' : Fr → Ctx → Prop, k' (put ψ x.dst s) Γ → vc1 P Γr early x ψ Γ k' := by
 obtain ⟨d, g, op⟩ := x
 simp only at ho
 subst ho
 unfold vc1 at h ⊢
 simp only [isPure, isAsk, cond_true, cond_false] at h ⊢
 split at h
 ·rename_i e he
  simp only [askV] at h
  obtain ⟨h0, h⟩ := h
  split at h
  ·rename_i e1
   rw [e1] at h0
   split at h
   ·rename_i e2
    obtain ⟨h1, h2, h3, h4, h5⟩ := h
    refine ⟨fun t ht => (by rw [show q = _ from h0] at ht; simp only [Option.some.injEq] at ht; subst ht; rw [e2]; rfl), _, rfl, h5, fun ψ hs hb k' hk => ?_⟩
    rw [gd_same hs.left, he]
    simp only [askV]
    rw [slotOf_same hs.right, e1, val_same hs.right]
    refine ⟨h0, ?_⟩
    simp only [hb _ h0, e2]
    exact ⟨h1, h2, h3, h4, hk⟩
   ·exact h.elim
  ·rename_i e1
   rw [e1] at h0
   obtain ⟨h1, vs, h2, h3, h4⟩ := h
   refine ⟨fun t ht => (by rw [show q = none from h0] at ht; exact absurd ht (by simp)), _, rfl, h4, fun ψ hs _ k' hk => ?_⟩
   rw [gd_same hs.left, he]
   simp only [askV]
   rw [slotOf_same hs.right, e1, val_same hs.right]
   exact ⟨h0, h1, vs, h2, h3, hk⟩
  ·exact h.elim
 ·exact h.elim
/-- a store into a local box changes that alone -/
theorem vc1_boxSt {P : Program} {Γr Γ : Ctx} {φ : Fr} {early : Bool} {y : SOper} {d : Nat} {k : Fr → Ctx → Prop} (ho : boxSt y.op = some d) (hd : isBox (look φ d) = true) (h : vc1 P Γr early y φ Γ k) :
  vc1 P Γr early y φ Γ (fun ψ Γ' => k ψ Γ' ∧ Γ' = Γ ∧ ∀ t, t ≠ d → y.dst ≠ some t → look ψ t = look φ t) := by
 obtain ⟨dy, g, op⟩ := y
 simp only at ho ⊢
 obtain ⟨n, v, rfl⟩ := boxSt_spec ho
 unfold vc1 at h ⊢
 simp only [isPure, isAsk, cond_true, cond_false] at h ⊢
 split at h
 ·rename_i e he
  refine ⟨fun q => ?_, fun q => ?_⟩
  ·obtain ⟨h1, h2, h3, h4, h5⟩ := h.1 q
   refine ⟨h1, h2, h3, h4, ?_⟩
   cases hb : look φ d with
   | box b T cs =>
    have hs : slotOf φ true (.tmp d) = .ref true d b 0 := by simp [slotOf, hb]
    rw [hs] at h5 ⊢
    simp only [hb] at h5 ⊢
    refine ⟨h5.1, h5.2.1, h5.2.2, trivial, fun t ht _ => ?_⟩
    rw [look_upd, if_neg (fun q => ht q.symm)]
   | _ => rw [hb] at hd; cases hd
  ·obtain ⟨x, hx⟩ := h.2 q
   exact ⟨x, hx, trivial, fun t _ ht => by rw [look_put, if_neg ht]⟩
 ·exact h.elim
theorem vc1_swapB {P : Program} {Γr Γ : Ctx} {φ : Fr} {x y : Bool × SOper} {k : Fr → Ctx → Prop} (hk : Ext k) (hm : passB x.2 y.2 = true) (hd : dstEq x.2 y.2 = false)
  (hnb : ∀ d, y.2.dst = some d → isBox (look φ d) = false) (hbx : ∀ d, boxSt y.2.op = some d → isBox (look φ d) = true)
  (h : vc1 P Γr x.1 x.2 φ Γ (fun φ1 Γ1 => vc1 P Γr y.1 y.2 φ1 Γ1 k)) : vc1 P Γr y.1 y.2 φ Γ (fun φ1 Γ1 => vc1 P Γr x.1 x.2 φ1 Γ1 k) := by
 unfold passB at hm
 simp only [Bool.and_eq_true, Bool.not_eq_true'] at hm
 obtain ⟨⟨h1, h2⟩, h3⟩ := hm
 split at h3
 ·rename_i q agg n xx d ho hb
  obtain ⟨hqb, s, hs, hy, hans⟩ := vc1_quietB ho h
  have hdx : ∀ d, x.2.dst = some d → d ∉ rdS y.2 := fun d q hmem => by simp [dstIn, q, hmem] at h1
  have hdy : ∀ d, y.2.dst = some d → d ∉ rdS x.2 := fun d q hmem => by simp [dstIn, q, hmem] at h2
  have hdd : ∀ d, x.2.dst = some d → y.2.dst ≠ some d := fun d q r => by simp [dstEq, q, r] at hd
  refine vc1_mono ?_ (vc1_boxSt hb (hbx d hb) (vc1_move (φ := put φ x.2.dst s) (fun _ => rfl) hs hdx hdd hy))
  rintro ψ' Γ' ⟨⟨φ', hk', hl, ha1, ha2, ha3⟩, rfl, hlk⟩
  refine hans ψ' (fun t ht => ha1 t (fun q => hdy t q ht)) (fun t ht => ?_) _ (hk _ _ _ hl hk')
  by_cases hyt : y.2.dst = some t
  ·have h5 := hqb t ht
   rw [hnb t hyt] at h5
   cases h5
  ·refine hlk t (fun e => ?_) hyt
   subst e
   rw [ht] at h3
   simp at h3
 ·cases h3
theorem bubble {P : Program} {Γr : Ctx} {K : Fr → Ctx → Prop} (hK : Ext K) {y : Bool × SOper} {l2 : List (Bool × SOper)} : ∀ (l1 : List (Bool × SOper)) (φ : Fr) (Γ : Ctx),
  (∀ x ∈ l1, (mayPass x y = true ∨ passB x.2 y.2 = true) ∧ dstEq x.2 y.2 = false) → (∀ d, y.2.dst = some d → isBox (look φ d) = false) → (∀ d, boxSt y.2.op = some d → (∃ x ∈ l1, passB x.2 y.2 = true) → isBox (look φ d) = true) →
  vcD P Γr (l1 ++ y :: l2) φ Γ K → vc1 P Γr y.1 y.2 φ Γ (fun φ' Γ' => vcD P Γr (l1 ++ l2) φ' Γ' K)
 | [], φ, Γ, _, _, _, h => h
 | x :: l1, φ, Γ, hx, hnb, hbx, h => by
  simp only [List.cons_append, vcD] at h
  obtain ⟨hm, hd⟩ := hx x (by simp)
  have hqx : (isPure x.2.op || isAsk x.2.op) = true := by
   rcases hm with hm | hm
   ·unfold mayPass at hm
    simp only [Bool.and_eq_true, Bool.not_eq_true'] at hm
    exact hm.1.1.1
   ·unfold passB at hm
    simp only [Bool.and_eq_true] at hm
    have hm3 := hm.2
    split at hm3
    ·rename_i ho _
     rw [ho]
     rfl
    ·cases hm3
  have hrx : ∀ d, x.2.dst = some d → d ∉ rdS y.2 := fun d q hmem => by
   rcases hm with hm | hm
   ·unfold mayPass at hm
    simp [dstIn, q, hmem] at hm
   ·unfold passB at hm
    simp [dstIn, q, hmem] at hm
  have hdd : ∀ d, x.2.dst = some d → y.2.dst ≠ some d := fun d q r => by simp [dstEq, q, r] at hd
  obtain ⟨s, hs, hk, hans⟩ := vc1_quiet hqx h
  have ih := bubble hK l1 (put φ x.2.dst s) Γ (fun z hz => hx z (by simp [hz])) (fun d q => by
   rw [look_put, if_neg (fun r => hdd d r q)]
   exact hnb d q) (fun d q ⟨z, hz, hp⟩ => by
   rw [look_put, if_neg (fun r => hrx d r (by
    obtain ⟨n, v, ho⟩ := boxSt_spec q
    simp [rdS, ho, rd, rdO]))]
   exact hbx d q ⟨z, by simp [hz], hp⟩) hk
  simp only [List.cons_append, vcD]
  have hsw := hans φ Γ (fun _ _ => rfl) (fun _ _ _ => rfl) (fun _ _ hc => hc) (fun φ1 Γ1 => vc1 P Γr y.1 y.2 φ1 Γ1 (fun φ' Γ' => vcD P Γr (l1 ++ l2) φ' Γ' K)) ih
  rcases hm with hm | hm
  ·exact vc1_swap (vcD_ext hK _) hm hd hnb hsw
  ·exact vc1_swapB (vcD_ext hK _) hm hd hnb (fun d q => hbx d q ⟨x, by simp, hm⟩) hsw

theorem vcOps_of_vc1 {P : Program} {Γr Γ : Ctx} {φ : Fr} {early : Bool} {y : SOper} {k : Fr → Ctx → Prop} (h : vc1 P Γr early y φ Γ k) : vcOps P Γr [y] φ Γ k := by
 obtain ⟨d, g, op⟩ := y
 have key : ∀ e, isPure op = false → isAsk op = true → askV P (ctxOf early Γ Γr) φ e op (fun x => k (put φ d x) Γ) → askV P (Γ ++ Γr) φ e op (fun x => k (put φ d x) Γ) := by
  intro e _ _ q
  cases early with
  | false => exact q
  | true =>
   obtain ⟨s, _, h2, h3⟩ := ask_split q
   exact h3 φ _ (fun _ _ => rfl) (fun _ _ _ => rfl) (fun _ g hg => by simp [show g ∈ Γr from hg]) _ h2
 unfold vc1 at h
 cases g with
 | none =>
  simp only [gd] at h
  simp only [vcOps]
  cases hp : isPure op with
  | true => simpa only [hp, cond_true] using h
  | false =>
   cases ha : isAsk op with
   | true => simp only [hp, ha, cond_true, cond_false] at h ⊢; exact key _ hp ha h
   | false => simp only [hp, ha, cond_false] at h ⊢; exact h.1 (by simp)
 | some g =>
  simp only [vcOps]
  split at h
  ·rename_i e he
   simp only at he
   rw [he]
   simp only
   cases hp : isPure op with
   | true => simpa only [hp, cond_true] using h
   | false =>
    cases ha : isAsk op with
    | true => simp only [hp, ha, cond_true, cond_false] at h ⊢; exact key _ hp ha h
    | false => simp only [hp, ha, cond_false] at h ⊢; exact h
  ·exact h.elim

def QK (K : Act → World → Prop) : Exit → Act → World → Prop
 | .normal, a, w => K a w
 | _, _, _ => False
theorem letsOut_QK {K : Act → World → Prop} : ¬ LetsOut (QK K) := fun ⟨_, _, h⟩ => h
theorem wp_QK {P : Program} {o : Oper} {a : Act} {w : World} {N K : Act → World → Prop} {Q : Exit → Act → World → Prop} (h : o.wp P a w N (QK K)) : o.wp P a w N Q := by
 unfold Oper.wp at *
 generalize (execOp a.eval o).run P w = r at *
 cases r with
 | ok n w' =>
  cases n <;> simp only [Oper.upon] at h ⊢ <;>
   first
    | exact h
    | exact Calls.mono h (fun e w'' he => by cases e <;> first | exact he | exact he.elim | exact absurd he letsOut_QK)
    | exact Rows.mono h (fun _ _ he => he)
 | halt x w' => cases x <;> simp only [Oper.upon] at h ⊢ <;> exact h.elim

theorem trOpers_at {P : Program} {n : Nat} {locs : List Nat} {ops : Array Oper} : ∀ {l : List Oper} {sl : List SOper}, trOpers P n locs ops l = some sl →
  sl.length = l.length ∧ ∀ (i : Nat) o, l[i]? = some o → ∃ y, sl[i]? = some y ∧ trOper P n locs ops o = some y
 | [], sl, h => by
  simp only [trOpers, Option.some.injEq] at h
  subst h
  exact ⟨rfl, fun i o q => by simp at q⟩
 | o :: r, sl, h => by
  simp only [trOpers] at h
  split at h
  ·rename_i so l' hso hl'
   simp only [Option.some.injEq] at h
   subst h
   obtain ⟨h1, h2⟩ := trOpers_at hl'
   refine ⟨by simp [h1], fun i o' q => ?_⟩
   cases i with
   | zero => simp at q; subst q; exact ⟨so, rfl, hso⟩
   | succ i => simpa using h2 i o' (by simpa using q)
  ·cases h

section
variable {n : Nat} {Γr Γm : Ctx} {w0 : World} {φ : Fr} {Γ : Ctx} {a : Act} {w : World} {P : Program}

theorem one_sound {locs : List Nat} {ops : Array Oper} {i : Nat} {o : Oper} {y : SOper} {early : Bool} {k : Fr → Ctx → Prop} {K : Act → World → Prop} {Q : Exit → Act → World → Prop}
  (ho : ops[i]? = some o) (hy : trOper P n locs ops o = some y) (hv : vc1 P Γr early y φ Γ k) (hst : St n Γr Γm w0 φ Γ a w)
  (hK : ∀ φ Γ a w, k φ Γ → St n Γr Γm w0 φ Γ a w → K a w) : wpOp P ops Q i K a w := by
 have h := vcOps_sound (P := P) (locs := locs) (ops := ops) (Q := QK K) (K := k) (fun φ Γ a w hk hs => hK φ Γ a w hk hs) [o] [y] (by simp [trOpers, hy]) φ Γ a w (vcOps_of_vc1 hv) hst
 unfold wpOp
 rw [ho]
 simp only [wpList] at h ⊢
 split
 ·rename_i hw
  rw [if_pos hw] at h
  rcases h with h | ⟨_, h⟩
  ·exact .inl (wp_QK h)
  ·exact absurd h letsOut_QK
 ·rename_i hw
  rw [if_neg hw] at h
  exact h

/-! the order -/
def PairOk (B : Bool) (sl : List SOper) (E : List Nat) (T : List (List Nat)) (i j : Nat) : Prop :=
 ∃ x y tj, sl[i]? = some x ∧ sl[j]? = some y ∧ T[j]? = some tj ∧ dstEq x y = false ∧ (i ∈ tj ∨ mayPass (E.contains i, x) (E.contains j, y) = true ∨ (B = true ∧ passB x y = true))

theorem orderOk_spec {B : Bool} {ops : List Oper} {sl : List SOper} {E : List Nat} {T : List (List Nat)} : ∀ (C seen : List Nat), orderOk B ops sl E T seen C = true →
  C.Nodup ∧ (∀ j ∈ C, j ∉ seen) ∧ (∀ j ∈ C, j < ops.length) ∧ C.Pairwise (PairOk B sl E T) ∧ (∀ i ∈ seen, ∀ j ∈ C, PairOk B sl E T i j) ∧
  (∀ C1 j C2, C = C1 ++ j :: C2 → ∀ o, ops[j]? = some o → ∀ p ∈ direct o, p ∈ seen ∨ p ∈ C1)
 | [], seen, _ => ⟨List.nodup_nil, by simp, by simp, List.Pairwise.nil, by simp, by simp⟩
 | j :: r, seen, h => by
  simp only [orderOk, Bool.and_eq_true, Bool.not_eq_true'] at h
  obtain ⟨⟨h1, h2⟩, h3⟩ := h
  split at h2
  ·rename_i o y tj ho hy htj
   simp only [Bool.and_eq_true, List.all_eq_true] at h2
   obtain ⟨h4, h5⟩ := h2
   obtain ⟨a1, a2, a3, a4, a5, a6⟩ := orderOk_spec r (j :: seen) h3
   have hj : j ∉ seen := by simpa using h1
   have hsj : ∀ i ∈ seen, PairOk B sl E T i j := fun i hi => by
    have := h5 i hi
    split at this
    ·rename_i x hx
     simp only [Bool.and_eq_true, Bool.not_eq_true', Bool.or_eq_true] at this
     exact ⟨x, y, tj, hx, hy, htj, this.1, by simpa [Bool.and_eq_true] using this.2⟩
    ·cases this
   refine ⟨List.nodup_cons.2 ⟨fun q => a2 j q (by simp), a1⟩, ?_, ?_, ?_, ?_, ?_⟩
   ·intro k hk
    rcases List.mem_cons.1 hk with rfl | hk
    ·exact hj
    ·exact fun q => a2 k hk (by simp [q])
   ·intro k hk
    rcases List.mem_cons.1 hk with rfl | hk
    ·exact (List.getElem?_eq_some_iff.1 ho).1
    ·exact a3 k hk
   ·exact List.pairwise_cons.2 ⟨fun k hk => a5 j (by simp) k hk, a4⟩
   ·intro i hi k hk
    rcases List.mem_cons.1 hk with rfl | hk
    ·exact hsj i hi
    ·exact a5 i (by simp [hi]) k hk
   ·intro C1 k C2 hC o' ho' p hp
    cases C1 with
    | nil =>
     simp only [List.nil_append, List.cons.injEq] at hC
     obtain ⟨rfl, rfl⟩ := hC
     rw [ho] at ho'
     cases ho'
     left
     simpa using h4 p hp
    | cons c C1 =>
     simp only [List.cons_append, List.cons.injEq] at hC
     obtain ⟨rfl, hC⟩ := hC
     rcases a6 C1 k C2 hC o' ho' p hp with q | q
     ·rcases List.mem_cons.1 q with rfl | q
      ·right; simp
      ·exact .inl q
     ·right; simp [q]
  ·cases h2

theorem ancOk_spec {ops : List Oper} {T : List (List Nat)} : ∀ (S : List (List Nat)) (j : Nat), ancOk ops T j S = true →
  ∀ k ys, S[k]? = some ys → ∃ o, ops[j + k]? = some o ∧ ∀ y ∈ ys, y ∈ direct o ∨ ∃ p ∈ direct o, ∃ zs, T[p]? = some zs ∧ y ∈ zs
 | [], j, _, k, ys, h => by simp at h
 | s :: S, j, h, k, ys, hk => by
  simp only [ancOk, Bool.and_eq_true] at h
  obtain ⟨h1, h2⟩ := h
  cases k with
  | zero =>
   simp at hk
   subst hk
   split at h1
   ·rename_i o ho
    refine ⟨o, by simpa using ho, fun y hy => ?_⟩
    have := List.all_eq_true.1 h1 y hy
    simp only [Bool.or_eq_true, List.any_eq_true] at this
    rcases this with q | ⟨p, hp, q⟩
    ·left; simpa using q
    ·right
     split at q
     ·rename_i zs hz
      exact ⟨p, hp, zs, hz, by simpa using q⟩
     ·cases q
   ·cases h1
  | succ k =>
   have := ancOk_spec S (j + 1) h2 k ys (by simpa using hk)
   rw [show j + (k + 1) = j + 1 + k by omega]
   exact this

theorem noBoxes_mem {φ : Fr} (l : List (Bool × SOper)) (h : noBoxes φ l) (x : Bool × SOper) (hx : x ∈ l) (d : Nat) (hd : x.2.dst = some d) : isBox (look φ d) = false := by
 induction l with
 | nil => cases hx
 | cons y r ih =>
  rcases List.mem_cons.1 hx with q | q
  ·subst q
   have h1 := h.1
   rw [hd] at h1
   exact h1
  ·exact ih h.2 q
theorem bare_isBox {x y : Sl} (h : bare x = bare y) : isBox x = isBox y := by
 cases x <;> cases y <;> simp_all [bare, isBox]

variable {locs : List Nat} {ops : Array Oper} {sl : List SOper} {E : List Nat} {T : List (List Nat)} {pk : Nat → Bool × SOper} {K : Fr → Ctx → Prop} {Q : Exit → Act → World → Prop}
theorem ready_iff {listed : Array Bool} {i : Nat} (h : i ∈ Region.ready .any ops listed) : ∃ o, ops[i]? = some o ∧ listed.getD i true = false ∧ ∀ p ∈ direct o, listed.getD p false = true := by
 unfold Region.ready at h
 obtain ⟨h1, h2⟩ := List.mem_filter.1 h
 simp only [Bool.and_eq_true, Bool.not_eq_true'] at h2
 have hi : i < ops.size := by simpa using h1
 have ho : ops[i]? = some ops[i] := Array.getElem?_eq_getElem hi
 refine ⟨_, ho, h2.1, fun p hp => ?_⟩
 have h3 := h2.2
 rw [ho] at h3
 simp only [Option.map_some, Option.getD_some] at h3
 rw [Array.all_eq_true'] at h3
 obtain ⟨e, he, rfl⟩ := List.mem_map.1 hp
 obtain ⟨he1, he2⟩ := List.mem_filter.1 he
 have := h3 e (by simpa using he1)
 simpa [he2] using this
theorem ready_mk {listed : Array Bool} {i : Nat} {o : Oper} (ho : ops[i]? = some o) (hl : listed.getD i true = false) (hp : ∀ p ∈ direct o, listed.getD p false = true) : i ∈ Region.ready .any ops listed := by
 unfold Region.ready
 refine List.mem_filter.2 ⟨by simpa using (Array.getElem?_eq_some_iff.1 ho).1, ?_⟩
 simp only [hl, Bool.not_false, Bool.true_and, ho, Option.map_some, Option.getD_some]
 rw [Array.all_eq_true']
 intro e he
 cases hb : Region.binds .any e with
 | false => simp
 | true =>
  have : e.on ∈ direct o := List.mem_map.2 ⟨e, List.mem_filter.2 ⟨by simpa using he, hb⟩, rfl⟩
  simp [hp _ this]
theorem getD_set {l : Array Bool} {i j : Nat} {b : Bool} (hi : i < l.size) : (l.setIfInBounds i true).getD j b = if i = j then true else l.getD j b := by
 simp only [Array.getD_eq_getD_getElem?, Array.getElem?_setIfInBounds]
 by_cases h : i = j
 ·subst h; simp [hi]
 ·simp [h]

structure Rest (B : Bool) (φ : Fr) (ops : Array Oper) (sl : List SOper) (E : List Nat) (T : List (List Nat)) (pk : Nat → Bool × SOper) (listed : Array Bool) (R : List Nat) : Prop where
 size : listed.size = ops.size
 nodup : R.Nodup
 mem : ∀ i, i ∈ R ↔ i < ops.size ∧ listed.getD i true = false
 pair : R.Pairwise (PairOk B sl E T)
 pre : ∀ R1 j R2, R = R1 ++ j :: R2 → ∀ o, ops[j]? = some o → ∀ p ∈ direct o, p ∈ R1 ∨ listed.getD p false = true
 inv : ∀ (k : Nat) ys, T[k]? = some ys → listed.getD k false = true → ∀ y ∈ ys, listed.getD y false = true
 nb : ∀ i ∈ R, ∀ d, (pk i).2.dst = some d → isBox (look φ d) = false
 bx : B = true → ∀ i ∈ R, ∀ d, boxSt (pk i).2.op = some d → isBox (look φ d) = true

theorem Rest.first {B : Bool} {listed : Array Bool} {r : Nat} {R : List Nat} (h : Rest B φ ops sl E T pk listed (r :: R)) : r ∈ Region.ready .any ops listed := by
 have h0 := (h.mem r).1 (by simp)
 refine ready_mk (Array.getElem?_eq_getElem h0.1) h0.2 fun p hp => ?_
 rcases h.pre [] r R rfl _ (Array.getElem?_eq_getElem h0.1) p hp with q | q
 ·simp at q
 ·exact q

theorem Rest.drop {B : Bool} {listed : Array Bool} {i : Nat} {R1 R2 : List Nat} {o : Oper} {φ' : Fr} (h : Rest B φ ops sl E T pk listed (R1 ++ i :: R2)) (ho : ops[i]? = some o) (hp : ∀ p ∈ direct o, listed.getD p false = true)
  (hT : ∀ ys, T[i]? = some ys → ∀ y ∈ ys, listed.getD y false = true) (hbare : ∀ t, (pk i).2.dst ≠ some t → bare (look φ' t) = bare (look φ t)) (hd : ∀ j ∈ R1 ++ R2, dstEq (pk j).2 (pk i).2 = false) :
  Rest B φ' ops sl E T pk (listed.setIfInBounds i true) (R1 ++ R2) := by
 have hi : i < listed.size := by rw [h.size]; exact (Array.getElem?_eq_some_iff.1 ho).1
 have hnd : (i :: (R1 ++ R2)).Nodup := (List.perm_middle.nodup_iff).1 h.nodup
 obtain ⟨hni, hnd'⟩ := List.nodup_cons.1 hnd
 have hmem : ∀ j, j ∈ R1 ++ i :: R2 ↔ j = i ∨ j ∈ R1 ++ R2 := fun j => by rw [List.perm_middle.mem_iff, List.mem_cons]
 have hsub : (R1 ++ R2).Sublist (R1 ++ i :: R2) := List.Sublist.append_left (List.sublist_cons_self i R2) R1
 refine ⟨by simp [h.size], hnd', fun j => ?_, h.pair.sublist hsub, fun S1 j S2 hS o' ho' p hp' => ?_, fun k ys hk hl y hy => ?_, fun j hj d hdj => ?_, fun hB j hj d hdj => ?_⟩
 ·rw [getD_set hi]
  by_cases e : i = j
  ·subst e; simp [hni]
  ·rw [if_neg e, ← h.mem j, hmem]
   constructor
   ·exact fun q => .inr q
   ·rintro (q | q)
    ·exact absurd q.symm e
    ·exact q
 ·rw [getD_set hi]
  by_cases e : i = p
  ·right; rw [if_pos e]
  rw [if_neg e]
  -- where j stood before
  have hsplit : ∃ U1 U2, R1 ++ i :: R2 = U1 ++ j :: U2 ∧ ∀ q ∈ U1, q = i ∨ q ∈ S1 := by
   rcases List.append_eq_append_iff.1 hS with ⟨us, h1, h2⟩ | ⟨bs, h1, h2⟩
   ·-- S1 = R1 ++ us, R2 = us ++ j :: S2
    refine ⟨R1 ++ i :: us, S2, by rw [h2]; simp, fun q hq => ?_⟩
    rw [h1]
    simp at hq ⊢
    rcases hq with q' | q' | q'
    ·exact .inr (.inl q')
    ·exact .inl q'
    ·exact .inr (.inr q')
   ·-- R1 = S1 ++ bs, j :: S2 = bs ++ R2
    cases bs with
    | nil =>
     simp only [List.append_nil, List.nil_append] at h1 h2
     refine ⟨S1 ++ [i], S2, by rw [h1, ← h2]; simp, fun q hq => ?_⟩
     simp at hq
     exact hq.symm
    | cons b bs =>
     simp only [List.cons_append, List.cons.injEq] at h2
     obtain ⟨rfl, h2⟩ := h2
     exact ⟨S1, bs ++ i :: R2, by rw [h1]; simp, fun q hq => .inr hq⟩
  obtain ⟨U1, U2, hU, hq⟩ := hsplit
  rcases h.pre U1 j U2 hU o' ho' p hp' with q | q
  ·rcases hq p q with r | r
   ·exact absurd r.symm e
   ·exact .inl r
  ·exact .inr q
 ·rw [getD_set hi] at hl ⊢
  by_cases e : i = y
  ·rw [if_pos e]
  rw [if_neg e]
  by_cases e' : i = k
  ·subst e'
   exact hT ys hk y hy
  ·rw [if_neg e'] at hl
   exact h.inv k ys hk hl y hy
 ·have hne : (pk i).2.dst ≠ some d := fun q => by
   have := hd j hj
   simp [dstEq, hdj, q] at this
  rw [bare_isBox (hbare d hne)]
  exact h.nb j ((hmem j).2 (.inr hj)) d hdj
 ·have h6 := h.bx hB j ((hmem j).2 (.inr hj)) d hdj
  have hne : (pk i).2.dst ≠ some d := fun q => by
   rw [h.nb i ((hmem i).2 (.inl rfl)) d q] at h6
   cases h6
  rw [bare_isBox (hbare d hne)]
  exact h6

/-- one operation asks more than another -/
def Weak (y z : SOper) : Prop := ∀ (P : Program) (Γr : Ctx) (early : Bool) (φ : Fr) (Γ : Ctx) (k : Fr → Ctx → Prop), vc1 P Γr early y φ Γ k → vc1 P Γr early z φ Γ k
theorem Weak.loadB {d : Option Nat} {g : Option (Nat × Bool)} {q : Option Nat} {agg : Bool} {n : Nat} {x : Operand} : Weak ⟨d, g, .loadB q agg n x⟩ ⟨d, g, .load agg n x⟩ := by
 intro P Γr early φ Γ k h
 unfold vc1 at h ⊢
 simp only [isPure, isAsk, cond_true, cond_false] at h ⊢
 split at h
 ·rename_i e he
  simp only [askV] at h ⊢
  exact h.2
 ·exact h.elim
theorem annot_at : ∀ (sl : List SOper) (B : List Nat) (i : Nat) (z : SOper), sl[i]? = some z → ∃ y, (annot sl B)[i]? = some y ∧ Weak y z
 | sl, [], i, z, h => by
  have : annot sl [] = sl := by cases sl with | nil => rfl | cons o r => obtain ⟨d, g, op⟩ := o; cases op <;> rfl
  rw [this]
  exact ⟨z, h, fun _ _ _ _ _ _ q => q⟩
 | [], c :: cs, i, z, h => by simp at h
 | o :: r, c :: cs, i, z, h => by
  obtain ⟨d, g, op⟩ := o
  have key : ∃ y, annot (⟨d, g, op⟩ :: r) (c :: cs) = y :: annot r cs ∧ Weak y ⟨d, g, op⟩ := by
   cases op with
   | load agg n x =>
    match c with
    | 0 => exact ⟨_, rfl, fun _ _ _ _ _ _ q => q⟩
    | 1 => exact ⟨_, rfl, Weak.loadB⟩
    | s + 2 => exact ⟨_, rfl, Weak.loadB⟩
   | _ => exact ⟨_, rfl, fun _ _ _ _ _ _ q => q⟩
  obtain ⟨y, hy, hw⟩ := key
  rw [hy]
  cases i with
  | zero =>
   simp at h
   subst h
   exact ⟨y, by simp, hw⟩
  | succ i =>
   simp at h ⊢
   exact annot_at r cs i z h

theorem drawn_go {B : Bool} (hK : Ext K) (hsl : ∀ (i : Nat) o, ops[i]? = some o → ∃ y z, sl[i]? = some y ∧ trOper P n locs ops o = some z ∧ Weak y z) (hpk : ∀ (i : Nat) y, sl[i]? = some y → pk i = (E.contains i, y))
  (hT : ∀ (k : Nat) ys, T[k]? = some ys → ∃ o, ops[k]? = some o ∧ ∀ y ∈ ys, y ∈ direct o ∨ ∃ p ∈ direct o, ∃ zs, T[p]? = some zs ∧ y ∈ zs)
  (hQ : ∀ φ Γ a w, K φ Γ → St n Γr Γm w0 φ Γ a w → Q .normal a w) :
  ∀ (m : Nat) (R : List Nat) (listed : Array Bool) φ Γ a w, R.length = m → Rest B φ ops sl E T pk listed R → vcD P Γr (R.map pk) φ Γ K → St n Γr Γm w0 φ Γ a w → wpAny P .any ops Q m listed a w
 | 0, R, listed, φ, Γ, a, w, hl, hrest, hv, hst => by
  obtain rfl := List.eq_nil_of_length_eq_zero hl
  refine ⟨?_, hQ _ _ _ _ hv hst⟩
  refine List.eq_nil_iff_forall_not_mem.2 fun i hi => ?_
  obtain ⟨o, ho, h1, _⟩ := ready_iff hi
  have := (hrest.mem i).2 ⟨(Array.getElem?_eq_some_iff.1 ho).1, h1⟩
  simp at this
 | m + 1, R, listed, φ, Γ, a, w, hl, hrest, hv, hst => by
  simp only [wpAny]
  refine ⟨fun hnil => ?_, fun i hi => ?_⟩
  ·cases R with
   | nil => simp at hl
   | cons r R =>
    have := hrest.first
    rw [hnil] at this
    simp at this
  ·obtain ⟨o, ho, hli, hdir⟩ := ready_iff hi
   have hmi : i ∈ R := (hrest.mem i).2 ⟨(Array.getElem?_eq_some_iff.1 ho).1, hli⟩
   obtain ⟨R1, R2, rfl⟩ := List.append_of_mem hmi
   obtain ⟨y, yz, hy, htr, hweak⟩ := hsl i o ho
   have hTi : ∀ ys, T[i]? = some ys → ∀ z ∈ ys, listed.getD z false = true := fun ys hys z hz => by
    obtain ⟨o', ho', hall⟩ := hT i ys hys
    rw [ho] at ho'
    cases ho'
    rcases hall z hz with q | ⟨p, hp, zs, hzs, hz'⟩
    ·exact hdir z q
    ·exact hrest.inv p zs hzs (hdir p hp) z hz'
   have hpair := hrest.pair
   rw [List.pairwise_append] at hpair
   obtain ⟨hp1, hp2, hp3⟩ := hpair
   have hp2 := List.pairwise_cons.1 hp2
   have hd1 : ∀ x ∈ R1, (mayPass (pk x) (pk i) = true ∨ (B = true ∧ passB (pk x).2 (pk i).2 = true)) ∧ dstEq (pk x).2 (pk i).2 = false := fun x hx => by
    obtain ⟨sx, sy, tj, h1, h2, h3, h4, h5⟩ := hp3 x hx i (by simp)
    rw [hpk x sx h1, hpk i sy h2]
    refine ⟨?_, h4⟩
    rcases h5 with q | q
    ·exfalso
     have := hTi tj h3 x q
     have hx' := (hrest.mem x).1 (by simp [hx])
     have e : listed.getD x false = listed.getD x true := by
      have : x < listed.size := by rw [hrest.size]; exact hx'.1
      simp [Array.getD_eq_getD_getElem?, this]
     rw [e, hx'.2] at this
     cases this
    ·exact q
   have hd2 : ∀ x ∈ R2, dstEq (pk x).2 (pk i).2 = false := fun x hx => by
    obtain ⟨sx, sy, tj, h1, h2, h3, h4, h5⟩ := hp2.1 x hx
    rw [hpk x sy h2, hpk i sx h1]
    simp only
    unfold dstEq at h4 ⊢
    cases h6 : sx.dst <;> cases h7 : sy.dst <;> simp_all
    exact fun q => h4 q.symm
   have hbx : ∀ d, boxSt (pk i).2.op = some d → ∀ z ∈ R1.map pk, passB z.2 (pk i).2 = true → isBox (look φ d) = true := fun d hd z hz hp => by
    cases hB : B with
    | true => exact hrest.bx hB i (by simp) d hd
    | false =>
     exfalso
     obtain ⟨j, hj, rfl⟩ := List.mem_map.1 hz
     rcases (hd1 j hj).1 with q | q
     ·unfold mayPass at q
      unfold passB at hp
      simp only [Bool.and_eq_true, Bool.not_eq_true'] at q hp
      have h7 := hp.2
      split at h7
      ·rename_i ho' hd'
       have h8 := q.2
       obtain ⟨n, v, ho2⟩ := boxSt_spec hd'
       simp [ho', ho2, isLoad, modi] at h8
      ·cases h7
     ·rw [hB] at q
      cases q.1
   rw [List.map_append, List.map_cons] at hv
   have hb := bubble hK (R1.map pk) φ Γ (by
    intro x hx
    obtain ⟨j, hj, rfl⟩ := List.mem_map.1 hx
    exact ⟨(hd1 j hj).1.imp id (·.2), (hd1 j hj).2⟩) (fun d hd => hrest.nb i (by simp) d hd) (fun d hd ⟨z, hz, hp⟩ => hbx d hd z hz hp) hv
   rw [hpk i y hy] at hb
   have hmv := vc1_move (dx := none) (s := .dead) (ψ := φ) (fun _ => rfl) rfl (fun _ q => by cases q) (fun _ q => by cases q) hb
   refine one_sound ho htr (hweak _ _ _ _ _ _ hmv) hst ?_
   rintro ψ' Γ' a' w' ⟨φ', hk, hle, haf⟩ hst'
   have hk' : vcD P Γr ((R1 ++ R2).map pk) ψ' Γ' K := by
    rw [List.map_append]
    exact vcD_ext hK _ _ _ _ hle hk
   refine drawn_go hK hsl hpk hT hQ m (R1 ++ R2) _ ψ' Γ' a' w' (by simp at hl ⊢; omega) (hrest.drop ho hdir hTi (fun t ht => haf.1 t (by rw [hpk i y hy] at ht; exact ht)) ?_) hk' hst'
   intro j hj
   rcases List.mem_append.1 hj with q | q
   ·exact (hd1 j q).2
   ·exact hd2 j q

/-! trees of operations -/
def rmT (i : Nat) : DT Nat → Option (DT Nat)
 | .q x r => if x = i then some r else (rmT i r).map (.q x)
 | .alt e r s => if e = i then some r else rmT i s
 | _ => none
def vcN (P : Program) (Γr : Ctx) (pk : Nat → Bool × SOper) : DT Nat → Fr → Ctx → (Fr → Ctx → Prop) → Prop
 | .fin, φ, Γ, K => K φ Γ
 | .q x r, φ, Γ, K => vc1 P Γr (pk x).1 (pk x).2 φ Γ (fun φ' Γ' => vcN P Γr pk r φ' Γ' K)
 | .alt e r s, φ, Γ, K => vc1 P Γr (pk e).1 (pk e).2 φ Γ (fun φ' Γ' => vcN P Γr pk r φ' Γ' K) ∧ vcN P Γr pk s φ Γ K
 | .no, _, _, _ => True
theorem vcN_ext {pk : Nat → Bool × SOper} {K : Fr → Ctx → Prop} (hK : Ext K) : ∀ (t : DT Nat), Ext (fun φ Γ => vcN P Γr pk t φ Γ K)
 | .fin => hK
 | .q x r => fun φ ψ Γ hl h => vc1_ext (vcN_ext hK r) hl h
 | .alt e r s => fun φ ψ Γ hl h => ⟨vc1_ext (vcN_ext hK r) hl h.1, vcN_ext hK s φ ψ Γ hl h.2⟩
 | .no => fun _ _ _ _ _ => trivial
theorem vcT_vcN {pk : Nat → Bool × SOper} {K : Fr → Ctx → Prop} (hpk : ∀ (i : Nat) y, sl[i]? = some y → pk i = (E.contains i, y)) : ∀ (t : DT Nat) (u : DT (Bool × SOper)), pickT sl E t = some u → ∀ φ Γ, vcT P Γr u φ Γ K = vcN P Γr pk t φ Γ K
 | .fin, u, h, φ, Γ => by simp only [pickT, Option.some.injEq] at h; subst h; rfl
 | .no, u, h, φ, Γ => by simp only [pickT, Option.some.injEq] at h; subst h; rfl
 | .q x r, u, h, φ, Γ => by
  simp only [pickT] at h
  split at h
  ·rename_i y t hy ht
   simp only [Option.some.injEq] at h
   subst h
   simp only [vcT, vcN, hpk x y hy]
   congr 1
   funext φ' Γ'
   exact vcT_vcN hpk r t ht φ' Γ'
  ·cases h
 | .alt e r s, u, h, φ, Γ => by
  simp only [pickT] at h
  split at h
  ·rename_i y t u' hy ht hu
   simp only [Option.some.injEq] at h
   subst h
   simp only [vcT, vcN, hpk e y hy, vcT_vcN hpk s u' hu]
   congr 2
   funext φ' Γ'
   exact vcT_vcN hpk r t ht φ' Γ'
  ·cases h

theorem okT_sub : ∀ (t : DT Nat) (seen seen' : List Nat), (∀ i ∈ seen', i ∈ seen) → okT sl E T seen t = true → okT sl E T seen' t = true
 | .fin, _, _, _, _ => rfl
 | .no, _, _, _, _ => rfl
 | .q x r, seen, seen', hs, h => by
  simp only [okT, Bool.and_eq_true, List.all_eq_true] at h ⊢
  exact ⟨fun i hi => h.1 i (hs i hi), okT_sub r _ _ (fun i hi => by
   rcases List.mem_cons.1 hi with rfl | q
   ·simp
   ·simp [hs i q]) h.2⟩
 | .alt e r s, seen, seen', hs, h => by
  simp only [okT, Bool.and_eq_true, List.all_eq_true] at h ⊢
  exact ⟨⟨fun i hi => h.1.1 i (hs i hi), okT_sub r _ _ hs h.1.2⟩, okT_sub s _ _ hs h.2⟩
theorem rm_okT {i : Nat} : ∀ (t t' : DT Nat) (seen : List Nat), rmT i t = some t' → okT sl E T seen t = true → okT sl E T seen t' = true ∧ ∀ y ∈ seen, pairB sl E T y i = true
 | .fin, t', seen, h, _ => by simp [rmT] at h
 | .no, t', seen, h, _ => by simp [rmT] at h
 | .q x r, t', seen, h, hok => by
  simp only [rmT] at h
  have hok' := hok
  simp only [okT, Bool.and_eq_true, List.all_eq_true] at hok'
  split at h
  ·rename_i e
   simp only [Option.some.injEq] at h
   subst h e
   exact ⟨okT_sub r _ _ (fun i hi => by simp [hi]) hok'.2, hok'.1⟩
  ·simp only [Option.map_eq_some_iff] at h
   obtain ⟨r', hr, rfl⟩ := h
   obtain ⟨h1, h2⟩ := rm_okT r r' _ hr hok'.2
   simp only [okT, Bool.and_eq_true, List.all_eq_true]
   exact ⟨⟨hok'.1, h1⟩, fun y hy => h2 y (by simp [hy])⟩
 | .alt e r s, t', seen, h, hok => by
  simp only [rmT] at h
  simp only [okT, Bool.and_eq_true, List.all_eq_true] at hok
  split at h
  ·rename_i e'
   simp only [Option.some.injEq] at h
   subst h e'
   exact ⟨hok.1.2, hok.1.1⟩
  ·exact rm_okT s t' seen h hok.2

def inT (D : Nat → Prop) : DT Nat → Prop
 | .q x r => D x ∧ inT D r
 | .alt e r s => D e ∧ inT D r ∧ inT D s
 | _ => True
theorem cT_in {D : Nat → Prop} : ∀ (t : DT Nat) (c : Option (List Nat × List Nat)), cT T c t = true → (match c with | none => ∀ x ∈ opsT t, D x | some (_, O) => ∀ x ∈ O, D x) → inT D t
 | .fin, _, _, _ => trivial
 | .no, _, _, _ => trivial
 | .q x r, none, h, hD => by
  simp only [cT, Bool.and_eq_true] at h
  exact ⟨hD x (by simp [opsT]), cT_in r none h.2 (fun y hy => hD y (by simp [opsT, hy]))⟩
 | .q x r, some (H, O), h, hD => by simp [cT] at h
 | .alt e r s, none, h, hD => by
  simp only [cT, Bool.and_eq_true] at h
  exact ⟨hD e (by simp [opsT]), cT_in r none h.1.2 (fun y hy => hD y (by simp [opsT, hy])), cT_in s (some _) h.2 (fun y hy => hD y (by simpa [opsT] using hy))⟩
 | .alt e r s, some (H, O), h, hD => by
  simp only [cT, Bool.and_eq_true, List.all_eq_true] at h
  have hs : ∀ x ∈ e :: opsT r, x ∈ O := fun x hx => by simpa using h.1.1.2 x hx
  exact ⟨hD e (hs e (by simp)), cT_in r none h.1.2 (fun y hy => hD y (hs y (by simp [hy]))), cT_in s (some (H, O)) h.2 hD⟩
theorem cT_nodup : ∀ (t : DT Nat), cT T none t = true → (opsT t).Nodup
 | .fin, _ => by simp [opsT]
 | .no, _ => by simp [opsT]
 | .q x r, h => by
  simp only [cT, Bool.and_eq_true, Bool.not_eq_true'] at h
  exact List.nodup_cons.2 ⟨by simpa using h.1, cT_nodup r h.2⟩
 | .alt e r s, h => by
  simp only [cT, Bool.and_eq_true, Bool.not_eq_true'] at h
  exact List.nodup_cons.2 ⟨by simpa using h.1.1.1, cT_nodup r h.1.2⟩
/-- what is left -/
theorem rm_cT {i : Nat} : ∀ (t t' : DT Nat) (c : Option (List Nat × List Nat)), rmT i t = some t' → cT T c t = true → cT T none t' = true ∧ (match c with | none => (i :: opsT t').Perm (opsT t) | some (_, O) => O.Nodup → (i :: opsT t').Perm O)
 | .fin, t', _, h, _ => by simp [rmT] at h
 | .no, t', _, h, _ => by simp [rmT] at h
 | .q x r, t', none, h, hc => by
  simp only [rmT] at h
  simp only [cT, Bool.and_eq_true, Bool.not_eq_true'] at hc
  split at h
  ·rename_i e
   simp only [Option.some.injEq] at h
   subst h e
   exact ⟨hc.2, List.Perm.refl _⟩
  ·simp only [Option.map_eq_some_iff] at h
   obtain ⟨r', hr, rfl⟩ := h
   obtain ⟨h1, h2⟩ := rm_cT r r' none hr hc.2
   have hx : x ∉ opsT r := by simpa using hc.1
   refine ⟨?_, ?_⟩
   ·simp only [cT, Bool.and_eq_true, Bool.not_eq_true']
    refine ⟨?_, h1⟩
    have : x ∉ opsT r' := fun q => hx (h2.mem_iff.1 (by simp [q]))
    simpa using this
   ·exact (List.Perm.swap x i _).trans (h2.cons x)
 | .q x r, t', some (H, O), h, hc => by simp [cT] at hc
 | .alt e r s, t', none, h, hc => by
  simp only [rmT] at h
  have hnd := cT_nodup _ hc
  simp only [cT, Bool.and_eq_true, Bool.not_eq_true'] at hc
  split at h
  ·rename_i e'
   simp only [Option.some.injEq] at h
   subst h e'
   exact ⟨hc.1.2, List.Perm.refl _⟩
  ·obtain ⟨h1, h2⟩ := rm_cT s t' (some _) h hc.2
   exact ⟨h1, h2 hnd⟩
 | .alt e r s, t', some (H, O), h, hc => by
  simp only [rmT] at h
  simp only [cT, Bool.and_eq_true, Bool.not_eq_true', List.all_eq_true] at hc
  split at h
  ·rename_i e'
   simp only [Option.some.injEq] at h
   subst h e'
   refine ⟨hc.1.2, fun hO => ?_⟩
   have hnd : (e :: opsT r).Nodup := List.nodup_cons.2 ⟨by simpa using hc.1.1.1.1, cT_nodup r hc.1.2⟩
   refine (List.perm_ext_iff_of_nodup hnd hO).2 fun x => ⟨fun q => ?_, fun q => ?_⟩
   ·simpa using hc.1.1.2 x q
   ·simpa using hc.1.1.1.2 x q
  ·obtain ⟨h1, h2⟩ := rm_cT s t' (some (H, O)) h hc.2
   exact ⟨h1, h2⟩
theorem rm_head {i : Nat} : ∀ (t : DT Nat), i ∈ headsT t → ∃ t', rmT i t = some t'
 | .fin, h => by simp [headsT] at h
 | .no, h => by simp [headsT] at h
 | .q _ _, h => by simp [headsT] at h
 | .alt e r s, h => by
  simp only [rmT]
  split
  ·exact ⟨_, rfl⟩
  ·rename_i hne
   refine rm_head s ?_
   simp only [headsT, List.mem_cons] at h
   rcases h with q | q
   ·exact absurd q.symm hne
   ·exact q
theorem heads_in {O H : List Nat} : ∀ (t : DT Nat), cT T (some (H, O)) t = true → ∀ x ∈ headsT t, x ∈ O
 | .fin, h, x, hx => by simp [headsT] at hx
 | .no, h, x, hx => by simp [headsT] at hx
 | .q _ _, h, x, hx => by simp [headsT] at hx
 | .alt e r s, h, x, hx => by
  simp only [cT, Bool.and_eq_true, List.all_eq_true] at h
  simp only [headsT, List.mem_cons] at hx
  rcases hx with rfl | q
  ·simpa using h.1.1.2 x (by simp)
  ·exact heads_in s h.2 x q
/-- what may come up is there -/
theorem rm_there {i : Nat} : ∀ (t : DT Nat), cT T none t = true → i ∈ opsT t → (∀ x ∈ opsT t, ∀ ti, T[i]? = some ti → x ∉ ti) → ∃ t', rmT i t = some t'
 | .fin, _, h, _ => by simp [opsT] at h
 | .no, _, h, _ => by simp [opsT] at h
 | .q x r, hc, h, hT => by
  simp only [rmT]
  simp only [cT, Bool.and_eq_true, Bool.not_eq_true'] at hc
  split
  ·exact ⟨_, rfl⟩
  ·rename_i hne
   simp only [opsT, List.mem_cons] at h
   rcases h with q | q
   ·exact absurd q.symm hne
   ·obtain ⟨t', ht⟩ := rm_there r hc.2 q (fun y hy => hT y (by simp [opsT, hy]))
    exact ⟨_, by rw [ht]; rfl⟩
 | .alt e r s, hc, h, hT => by
  by_cases hh : i ∈ headsT (.alt e r s)
  ·exact rm_head _ hh
  ·exfalso
   simp only [cT, Bool.and_eq_true, List.all_eq_true] at hc
   simp only [opsT, List.mem_cons] at h
   rcases h with q | q
   ·exact hh (by simp [headsT, q])
   ·have h1 := hc.1.1.2 i q
    simp only [Bool.or_eq_true] at h1
    rcases h1 with h1 | h1
    ·exact hh (by simpa [headsT] using h1)
    ·split at h1
     ·rename_i ti hti
      simp only [List.any_eq_true] at h1
      obtain ⟨z, hz, hz2⟩ := h1
      refine hT z ?_ ti hti (by simpa using hz2)
      simp only [List.mem_cons] at hz
      rcases hz with rfl | hz
      ·simp [opsT]
      ·simpa [opsT] using heads_in s hc.2 z hz
     ·cases h1

/-- what comes up first -/
theorem rm_vcN {pk : Nat → Bool × SOper} {K : Fr → Ctx → Prop} (hK : Ext K) (hpk : ∀ (i : Nat) y, sl[i]? = some y → pk i = (E.contains i, y)) {i : Nat} {D : Nat → Prop} (hT : ∀ ti, T[i]? = some ti → ∀ x ∈ ti, ¬ D x) :
  ∀ (t t' : DT Nat) (seen : List Nat), rmT i t = some t' → okT sl E T seen t = true → inT D t → (∀ x, D x → x ≠ i → ∀ d, (pk i).2.dst = some d → (pk x).2.dst ≠ some d) → ∀ φ Γ, (∀ d, (pk i).2.dst = some d → isBox (look φ d) = false) → vcN P Γr pk t φ Γ K →
   vc1 P Γr (pk i).1 (pk i).2 φ Γ (fun φ' Γ' => vcN P Γr pk t' φ' Γ' K)
 | .fin, t', seen, h, _, _, _, _, _, _, _ => by simp [rmT] at h
 | .no, t', seen, h, _, _, _, _, _, _, _ => by simp [rmT] at h
 | .q x r, t', seen, h, hok, hD, hdst, φ, Γ, hb, hv => by
  simp only [rmT] at h
  simp only [okT, Bool.and_eq_true, List.all_eq_true] at hok
  split at h
  ·rename_i e
   simp only [Option.some.injEq] at h
   subst h e
   exact hv
  ·rename_i hne
   simp only [Option.map_eq_some_iff] at h
   obtain ⟨r', hr, rfl⟩ := h
   have hp := (rm_okT r r' _ hr hok.2).2 x (by simp)
   unfold pairB at hp
   split at hp
   ·rename_i sx si ti h1 h2 h3
    simp only [Bool.and_eq_true, Bool.not_eq_true', Bool.or_eq_true] at hp
    have hxD : D x := hD.1
    have hm : mayPass (E.contains x, sx) (E.contains i, si) = true := by
     rcases hp.2 with q | q
     ·exact absurd hxD (hT ti h3 x (by simpa using q))
     ·exact q
    have hd := hdst x hxD hne
    have ex := hpk x sx h1
    have ei := hpk i si h2
    simp only [vcN] at hv ⊢
    have hm' := hm
    unfold mayPass at hm'
    simp only [Bool.and_eq_true, Bool.not_eq_true'] at hm'
    rw [ex] at hv
    obtain ⟨s, hs, hk, hans⟩ := vc1_quiet hm'.1.1.1 hv
    have ih := rm_vcN hK hpk hT r r' _ hr hok.2 hD.2 hdst (put φ sx.dst s) Γ (fun d q => by
     rw [look_put, if_neg (fun r => hd d q (by rw [ex]; exact r))]
     exact hb d q) hk
    rw [ei] at ih ⊢
    rw [ex]
    exact vc1_swap (x := (E.contains x, sx)) (y := (E.contains i, si)) (vcN_ext hK r') hm hp.1 (fun d q => hb d (by rw [ei]; exact q)) (hans φ Γ (fun _ _ => rfl) (fun _ _ _ => rfl) (fun _ _ hc => hc) (fun φ1 Γ1 => vc1 P Γr (E.contains i) si φ1 Γ1 (fun φ' Γ' => vcN P Γr pk r' φ' Γ' K)) ih)
   ·cases hp
 | .alt e r s, t', seen, h, hok, hD, hdst, φ, Γ, hb, hv => by
  simp only [rmT] at h
  simp only [okT, Bool.and_eq_true, List.all_eq_true] at hok
  split at h
  ·rename_i e'
   simp only [Option.some.injEq] at h
   subst h e'
   exact hv.1
  ·exact rm_vcN hK hpk hT s t' seen h hok.2 hD.2.2 hdst φ Γ hb hv.2

structure RestT (φ : Fr) (ops : Array Oper) (sl : List SOper) (E : List Nat) (T : List (List Nat)) (pk : Nat → Bool × SOper) (listed : Array Bool) (t : DT Nat) : Prop where
 size : listed.size = ops.size
 mem : ∀ i, i ∈ opsT t ↔ i < ops.size ∧ listed.getD i true = false
 ok : okT sl E T [] t = true
 c : cT T none t = true
 inv : ∀ (k : Nat) ys, T[k]? = some ys → listed.getD k false = true → ∀ y ∈ ys, listed.getD y false = true
 nb : ∀ i ∈ opsT t, ∀ d, (pk i).2.dst = some d → isBox (look φ d) = false

theorem depsOk_spec : ∀ (l : List Oper) (j : Nat), depsOk j l = true → ∀ (k : Nat) o, l[k]? = some o → ∀ p ∈ direct o, p < j + k
 | [], j, _, k, o, h => by simp at h
 | x :: l, j, h, k, o, hk => by
  simp only [depsOk, Bool.and_eq_true, List.all_eq_true, decide_eq_true_eq] at h
  cases k with
  | zero => simp at hk; subst hk; exact fun p hp => h.1 p hp
  | succ k =>
   have := depsOk_spec l (j + 1) h.2 k o (by simpa using hk)
   intro p hp
   have := this p hp
   omega
theorem least_mem : ∀ (l : List Nat), l ≠ [] → ∃ i ∈ l, ∀ j ∈ l, i ≤ j
 | [], h => absurd rfl h
 | [x], _ => ⟨x, by simp, by simp⟩
 | x :: y :: r, _ => by
  obtain ⟨i, hi, hm⟩ := least_mem (y :: r) (by simp)
  by_cases h : x ≤ i
  ·exact ⟨x, by simp, fun j hj => by
    rcases List.mem_cons.1 hj with rfl | q
    ·exact Nat.le_refl _
    ·exact Nat.le_trans h (hm j q)⟩
  ·exact ⟨i, by simp [List.mem_cons.1 hi], fun j hj => by
    rcases List.mem_cons.1 hj with rfl | q
    ·omega
    ·exact hm j q⟩
theorem tree_go {pk : Nat → Bool × SOper} {K : Fr → Ctx → Prop} (hK : Ext K) (hsl : ∀ (i : Nat) o, ops[i]? = some o → ∃ y, sl[i]? = some y ∧ trOper P n locs ops o = some y) (hpk : ∀ (i : Nat) y, sl[i]? = some y → pk i = (E.contains i, y))
  (hdeps : ∀ (k : Nat) o, ops[k]? = some o → ∀ p ∈ direct o, p < k)
  (hdst : ∀ i j, i < ops.size → j < ops.size → i ≠ j → ∀ d, (pk i).2.dst = some d → (pk j).2.dst ≠ some d)
  (hT : ∀ (k : Nat) ys, T[k]? = some ys → ∃ o, ops[k]? = some o ∧ ∀ y ∈ ys, y ∈ direct o ∨ ∃ p ∈ direct o, ∃ zs, T[p]? = some zs ∧ y ∈ zs)
  (hQ : ∀ φ Γ a w, K φ Γ → St n Γr Γm w0 φ Γ a w → Q .normal a w) :
  ∀ (m : Nat) (t : DT Nat) (listed : Array Bool) φ Γ a w, (opsT t).length = m → RestT φ ops sl E T pk listed t → vcN P Γr pk t φ Γ K → St n Γr Γm w0 φ Γ a w → wpAny P .any ops Q m listed a w
 | 0, t, listed, φ, Γ, a, w, hl, hrest, hv, hst => by
  have hnil := List.eq_nil_of_length_eq_zero hl
  have htf : t = .fin := by
   cases t with
   | fin => rfl
   | q x r => simp [opsT] at hnil
   | alt e r s => simp [opsT] at hnil
   | no => have := hrest.c; simp [cT] at this
  subst htf
  refine ⟨?_, hQ _ _ _ _ hv hst⟩
  refine List.eq_nil_iff_forall_not_mem.2 fun i hi => ?_
  obtain ⟨o, ho, h1, _⟩ := ready_iff hi
  have := (hrest.mem i).2 ⟨(Array.getElem?_eq_some_iff.1 ho).1, h1⟩
  simp [opsT] at this
 | m + 1, t, listed, φ, Γ, a, w, hl, hrest, hv, hst => by
  simp only [wpAny]
  have step : ∀ i ∈ Region.ready .any ops listed, wpOp P ops Q i (wpAny P .any ops Q m (listed.setIfInBounds i true)) a w := by
   intro i hi
   obtain ⟨o, ho, hli, hdir⟩ := ready_iff hi
   have hmi : i ∈ opsT t := (hrest.mem i).2 ⟨(Array.getElem?_eq_some_iff.1 ho).1, hli⟩
   obtain ⟨y, hy, htr⟩ := hsl i o ho
   have hTi : ∀ ys, T[i]? = some ys → ∀ z ∈ ys, listed.getD z false = true := fun ys hys z hz => by
    obtain ⟨o', ho', hall⟩ := hT i ys hys
    rw [ho] at ho'
    cases ho'
    rcases hall z hz with q | ⟨p, hp, zs, hzs, hz'⟩
    ·exact hdir z q
    ·exact hrest.inv p zs hzs (hdir p hp) z hz'
   have hnot : ∀ x, x ∈ opsT t → ¬ listed.getD x false = true := fun x hx q => by
    have hx' := (hrest.mem x).1 hx
    have e : listed.getD x false = listed.getD x true := by
     have : x < listed.size := by rw [hrest.size]; exact hx'.1
     simp [Array.getD_eq_getD_getElem?, this]
    rw [e, hx'.2] at q
    cases q
   obtain ⟨t', ht'⟩ := rm_there t hrest.c hmi (fun x hx ti hti q => hnot x hx (hTi ti hti x q))
   obtain ⟨hc', hperm⟩ := rm_cT t t' none ht' hrest.c
   simp only at hperm
   have hok' := (rm_okT t t' [] ht' hrest.ok).1
   have hlt : ∀ x ∈ opsT t, x < ops.size := fun x hx => ((hrest.mem x).1 hx).1
   have hb := rm_vcN (D := fun x => x ∈ opsT t) hK hpk (fun ti hti x hx q => hnot x q (hTi ti hti x hx)) t t' [] ht' hrest.ok (cT_in t none hrest.c (fun x hx => hx))
    (fun x hx hne d hd => hdst i x (hlt i hmi) (hlt x hx) (fun q => hne q.symm) d hd) φ Γ (hrest.nb i hmi) hv
   rw [hpk i y hy] at hb
   have hmv := vc1_move (dx := none) (s := .dead) (ψ := φ) (fun _ => rfl) rfl (fun _ q => by cases q) (fun _ q => by cases q) hb
   refine one_sound ho htr hmv hst ?_
   rintro ψ' Γ' a' w' ⟨φ', hk, hle, haf⟩ hst'
   have hk' : vcN P Γr pk t' ψ' Γ' K := vcN_ext hK t' _ _ _ hle hk
   have hlen : (opsT t').length = m := by
    have := hperm.length_eq
    simp at this
    omega
   have hi' : i < listed.size := by rw [hrest.size]; exact (Array.getElem?_eq_some_iff.1 ho).1
   have hnd := hperm.nodup_iff.2 (cT_nodup t hrest.c)
   have hni := (List.nodup_cons.1 hnd).1
   refine tree_go hK hsl hpk hdeps hdst hT hQ m t' _ ψ' Γ' a' w' hlen ⟨by simp [hrest.size], fun j => ?_, hok', hc', fun k ys hk2 hl2 z hz => ?_, fun j hj d hd => ?_⟩ hk' hst'
   ·rw [getD_set hi']
    by_cases e : i = j
    ·subst e; simp [hni]
    ·rw [if_neg e, ← hrest.mem j, ← hperm.mem_iff, List.mem_cons]
     constructor
     ·exact fun q => .inr q
     ·rintro (q | q)
      ·exact absurd q.symm e
      ·exact q
   ·rw [getD_set hi'] at hl2 ⊢
    by_cases e : i = z
    ·rw [if_pos e]
    rw [if_neg e]
    by_cases e' : i = k
    ·subst e'
     exact hTi ys hk2 z hz
    ·rw [if_neg e'] at hl2
     exact hrest.inv k ys hk2 hl2 z hz
   ·have hjt : j ∈ opsT t := hperm.mem_iff.1 (by simp [hj])
    have hij : i ≠ j := fun q => by subst q; exact hni hj
    have hne : y.dst ≠ some d := fun q => hdst i j (hlt i hmi) (hlt j hjt) hij d (by rw [hpk i y hy]; exact q) hd
    rw [bare_isBox (haf.1 d hne)]
    exact hrest.nb j hjt d hd
  refine ⟨fun hnil => ?_, step⟩
  -- something may come up
  exfalso
  obtain ⟨i, hi, hmin⟩ : ∃ i, i ∈ opsT t ∧ ∃ o, ops[i]? = some o ∧ ∀ p ∈ direct o, listed.getD p false = true := by
   obtain ⟨i, hi, hmin⟩ := least_mem (opsT t) (fun q => by rw [q] at hl; simp at hl)
   have hlt := ((hrest.mem i).1 hi).1
   refine ⟨i, hi, ops[i], Array.getElem?_eq_getElem hlt, fun p hp => ?_⟩
   have hpi := hdeps i _ (Array.getElem?_eq_getElem hlt) p hp
   have hnp : p ∉ opsT t := fun q => by have := hmin p q; omega
   have hps : p < ops.size := by omega
   have hpl : p < listed.size := by rw [hrest.size]; exact hps
   have h1 : ¬ listed.getD p true = false := fun q => hnp ((hrest.mem p).2 ⟨hps, q⟩)
   have e : listed.getD p false = listed.getD p true := by simp [Array.getD_eq_getD_getElem?, hpl]
   rw [e]
   simpa using h1
  obtain ⟨o, ho, hp⟩ := hmin
  have := ready_mk ho ((hrest.mem i).1 hi).2 hp
  rw [hnil] at this
  simp at this
end
/- The symbolic walk is sound: statements, functions; no condition. -/
theorem look_proj (φ : Fr) : ∀ (L : List Nat) t, look (proj φ L) t = if t ∈ L then look φ t else .dead
 | [], t => by simp [proj, look]
 | k :: L, t => by
  simp only [proj, look]
  by_cases h : k = t
  ·subst h; simp
  ·have hne : (k == t) = false := by simpa using h
   have h' : ¬ t = k := fun q => h q.symm
   simp [hne, look_proj φ L t, h']

theorem look_zip (φ : Fr) (Δ : Fr) : ∀ (M : List Nat) t, look (zipS M (looks φ M) ++ Δ) t = if t ∈ M then look φ t else look Δ t
 | [], t => by simp [zipS, looks]
 | k :: M, t => by
  simp only [zipS, looks, List.cons_append, look]
  by_cases h : k = t
  ·subst h; simp
  ·have hne : (k == t) = false := by simpa using h
   have h' : ¬ t = k := fun q => h q.symm
   simp [hne, look_zip φ Δ M t, h']

theorem looks_proj {φ φ' : Fr} : ∀ {N : List Nat}, looks φ' N = looks φ N → ∀ t ∈ N, look φ' t = look φ t
 | [], _, t, h => by simp at h
 | k :: N, h, t, ht => by
  simp only [looks, List.cons.injEq] at h
  rcases List.mem_cons.1 ht with rfl | ht
  ·exact h.1
  ·exact looks_proj h.2 t ht

section
variable {n : Nat} {Γr Γm : Ctx} {w0 : World} {φ φ' : Fr} {Γ Γ' : Ctx} {a : Act} {w : World} {P : Program}

/-- a frame that says less -/
theorem St.frame (h : St n Γr Γm w0 φ Γ a w) (hl : ∀ t, look φ' t = look φ t ∨ look φ' t = .dead) : St n Γr Γm w0 φ' Γ a w := by
 have hb : ∀ t b T cs, look φ' t = .box b T cs → look φ t = .box b T cs := fun t b T cs q => by
  rcases hl t with r | r
  ·rw [← r]; exact q
  ·rw [r] at q; cases q
 refine { h with fits := ?_, bx := fun t b T cs q => h.bx t b T cs (hb _ _ _ _ q), bxd := fun t t' b T cs T' cs' q q' => h.bxd _ _ _ _ _ _ _ (hb _ _ _ _ q) (hb _ _ _ _ q') }
 intro t
 rcases hl t with r | r
 ·rw [r]; exact h.fits t
 ·rw [r]; trivial

theorem St.ent (h : St n Γr Γm w0 φ Γ a w) (he : Ent Γ Γ') : St n Γr Γm w0 φ Γ' a w := by
 obtain ⟨ha1, ha2, ha3⟩ := List.pairwise_append.1 h.sat.apart
 have hcov : ∀ x ∈ Γ', ∀ k, x k ≠ none → ∃ g ∈ Γ, g k ≠ none := fun x hx k hk => by
  cases hxk : x k with
  | none => exact absurd hxk hk
  | some o => obtain ⟨g, hg, hgk⟩ := he.cov x hx k o hxk; exact ⟨g, hg, by rw [hgk]; simp⟩
 refine h.step ?_ (fun x hx k hk => .inr (hcov x hx k hk)) rfl ⟨rfl, Nat.le_refl _⟩ rfl (Nat.le_refl _) (fun _ _ _ => rfl)
 refine ⟨fun x hx k o hk => ?_, List.pairwise_append.2 ⟨he.apart ha1, ha2, fun x hx y hy k => ?_⟩⟩
 ·rcases List.mem_append.1 hx with q | q
  ·obtain ⟨g, hg, hgk⟩ := he.cov x q k o hk
   exact h.sat.holds g (by simp [hg]) k o hgk
  ·exact h.sat.holds x (by simp [q]) k o hk
 ·cases hxk : x k with
  | none => exact .inl rfl
  | some o =>
   obtain ⟨g, hg, hgk⟩ := hcov x hx k (by rw [hxk]; simp)
   rcases ha3 g hg y hy k with r | r
   ·exact absurd r hgk
   ·exact .inr r

theorem St.drewN (h : St n Γr Γm w0 φ Γ a w) (m : Nat) : St n Γr Γm w0 φ Γ a (w.drewN m) :=
 h.step ⟨h.sat.holds, h.sat.apart⟩ (fun g hg k hk => .inr ⟨g, hg, hk⟩) rfl ⟨rfl, Nat.le_add_right _ _⟩ rfl (Nat.le_refl _) (fun _ _ _ => rfl)

def QQ (n : Nat) (Γr Γm : Ctx) (w0 : World) (Q : Post) : Exit → Act → World → Prop
 | .normal, a, w => ∃ φ Γ, Q.nrm φ Γ ∧ St n Γr Γm w0 φ Γ a w
 | .ret, a, w => ∃ φ Γ, Q.ret φ Γ ∧ St n Γr Γm w0 φ Γ a w
 | .exit id, a, w => ∃ φ Γ, Q.ex id φ Γ ∧ St n Γr Γm w0 φ Γ a w
 | _, _, _ => False

/-- a region that draws its order, whose operations only read -/
theorem vcQuiet_sound {locs : List Nat} {ops : Array Oper} {K : Fr → Ctx → Prop} {Qa : Act → Prop} {W : World}
  (hQ : ∀ φ a, K φ Γ → St n Γr Γm w0 φ Γ a W → Qa a) :
  ∀ (l : List Oper) (sl : List SOper), trOpers P n locs ops l = some sl → allQuiet sl = true → ∀ φ a, vcOps P Γr sl φ Γ K → St n Γr Γm w0 φ Γ a W →
   wpQuiet P ops (fun w' => ∃ m, w' = W.drewN m) Qa l a
 | [], sl, h, _, φ, a, hv, hst => by
  simp only [trOpers, Option.some.injEq] at h
  subst h
  exact hQ _ _ hv hst
 | o :: r, sl, h, haq, φ, a, hv, hst => by
  simp only [trOpers] at h
  split at h
  ·rename_i so l' hso hl'
   simp only [Option.some.injEq] at h
   subst h
   simp only [allQuiet, Bool.and_eq_true] at haq
   have ih := vcQuiet_sound hQ r l' hl' haq.2
   unfold trOper at hso
   dsimp only at hso
   split at hso
   ·rename_i g sop hg htr
    have hdst : so = ⟨o.dst, g, sop⟩ ∧ (∀ t, o.dst = some t → t < n) := by
     split at hso
     ·rename_i d hd
      cases hc : (decide (d < n) && noStore sop) with
      | false => rw [hc] at hso; simp at hso
      | true =>
       rw [hc] at hso
       simp only [cond_true, Option.some.injEq] at hso
       simp only [Bool.and_eq_true, decide_eq_true_eq] at hc
       refine ⟨hso.symm, fun t ht => ?_⟩
       rw [hd] at ht; cases ht; exact hc.1
     ·rename_i hd
      simp only [Option.some.injEq] at hso
      refine ⟨?_, fun t ht => ?_⟩
      ·rw [hd]; exact hso.symm
      ·rw [hd] at ht; cases ht
    obtain ⟨rfl, hdn⟩ := hdst
    have hkinds := kinds (n := n) (Γr := Γr) (Γm := Γm) (w0 := w0) htr
    have run : ∀ e : Bool, (e = true → Region.wanted o (yielded ops a.tmps) = true) → (e = false → Region.wanted o (yielded ops a.tmps) = false) →
      ((isPure sop = true ∧ pureV φ e sop (fun x => vcOps P Γr l' (put φ o.dst x) Γ K)) ∨
       (isPure sop = false ∧ isAsk sop = true ∧ askV P (Γ ++ Γr) φ e sop (fun x => vcOps P Γr l' (put φ o.dst x) Γ K))) →
      wpQuiet P ops (fun w' => ∃ m, w' = W.drewN m) Qa (o :: r) a := by
     intro e h1 h2 h3
     unfold wpQuiet
     have slot : ∀ (x : Sl) (v : Value), vcOps P Γr l' (put φ o.dst x) Γ K → notBox x → FitsSl x v → wpQuiet P ops (fun w' => ∃ m, w' = W.drewN m) Qa r (a.put o.dst v) :=
      fun x v hk hnb hf => ih _ _ hk (hst.put hdn hnb hf)
     have go : ∀ (x : Sl), vcOps P Γr l' (put φ o.dst x) Γ K → notBox x → (∀ m, ∃ v, (execOp a.eval o).run P (W.drewN m) = .ok (.value v) (W.drewN m) ∧ FitsSl x v) →
       o.quiet P a (fun w' => ∃ m, w' = W.drewN m) (wpQuiet P ops (fun w' => ∃ m, w' = W.drewN m) Qa r) := by
      intro x hk hnb hall
      obtain ⟨v, hr, hf⟩ := hall 0
      refine ⟨v, fun w' ⟨m, hm⟩ => ?_, slot x v hk hnb hf⟩
      subst hm
      obtain ⟨v', hr', hf'⟩ := hall m
      have := fits_one hnb hf' hf
      subst this
      unfold Oper.quietAt
      rw [hr']
      exact ⟨rfl, rfl⟩
     cases e with
     | false =>
      rw [if_neg (by rw [h2 rfl]; simp)]
      rcases h3 with ⟨hp, hv⟩ | ⟨hp, ha, hv⟩
      ·rcases hkinds with ⟨_, hk⟩ | ⟨q, _⟩ | ⟨q, _⟩
       ·obtain ⟨sl, hk1, hk2, hk3, _⟩ := hk _ _ _ hv
        exact slot sl undef hk1 hk2 (hk3 rfl)
       ·rw [hp] at q; cases q
       ·rw [hp] at q; cases q
      ·rcases hkinds with ⟨q, _⟩ | ⟨_, _, hk⟩ | ⟨_, q, _⟩
       ·rw [hp] at q; cases q
       ·obtain ⟨sl, hk1, hk2, hk3, _⟩ := hk _ _ _ _ hv
        exact slot sl undef hk1 hk2 (hk3 rfl)
       ·rw [ha] at q; cases q
     | true =>
      rw [if_pos (h1 rfl)]
      rcases h3 with ⟨hp, hv⟩ | ⟨hp, ha, hv⟩
      ·rcases hkinds with ⟨_, hk⟩ | ⟨q, _⟩ | ⟨q, _⟩
       ·obtain ⟨sl, hk1, hk2, _, hk4⟩ := hk _ _ _ hv
        exact go sl hk1 hk2 (fun m => hk4 rfl a _ hst.fits)
       ·rw [hp] at q; cases q
       ·rw [hp] at q; cases q
      ·rcases hkinds with ⟨q, _⟩ | ⟨_, _, hk⟩ | ⟨_, q, _⟩
       ·rw [hp] at q; cases q
       ·obtain ⟨sl, hk1, hk2, _, hk4⟩ := hk _ _ _ _ hv
        exact go sl hk1 hk2 (fun m => hk4 rfl a _ (hst.drewN m))
       ·rw [ha] at q; cases q
    cases hgd : o.guard with
    | none =>
     rw [hgd] at hg
     simp only [Option.some.injEq] at hg
     subst hg
     simp only [vcOps] at hv
     refine run true (fun _ => wanted_none o hgd _) (fun q => by cases q) ?_
     cases hp : isPure sop with
     | true => rw [hp] at hv; exact .inl ⟨rfl, hv⟩
     | false =>
      rw [hp] at hv
      cases ha : isAsk sop with
      | true => rw [ha] at hv; exact .inr ⟨rfl, rfl, hv⟩
      | false => simp [hp, ha] at haq
    | some jw =>
     obtain ⟨j, want⟩ := jw
     rw [hgd] at hg
     dsimp only at hg
     split at hg
     ·rename_i t ht
      cases hc : decide (t < n) with
      | false => rw [hc] at hg; simp at hg
      | true =>
       rw [hc] at hg
       simp only [cond_true, Option.some.injEq] at hg
       subst hg
       have htn : t < a.tmps.size := by rw [hst.n]; exact of_decide_eq_true hc
       simp only [vcOps, gd] at hv
       cases hl : look φ t with
       | v ge x =>
        rw [hl] at hv
        cases x with
        | bool b =>
         simp only at hv
         have hfit := hst.fits t
         rw [hl] at hfit
         simp only [FitsSl] at hfit
         have hy : yielded ops a.tmps j = (bif ge then some b else none) := by
          unfold yielded
          rw [ht]
          simp only [Option.bind_some]
          have : a.tmps[t]? = some (a.tmps.getD t undef) := by simp [Array.getD_eq_getD_getElem?, htn]
          rw [this, hfit]
          cases ge <;> rfl
         have hw : Region.wanted o (yielded ops a.tmps) = (ge && (b == want)) := by
          unfold Region.wanted
          rw [hgd]
          simp only [hy]
          cases ge <;> cases b <;> cases want <;> rfl
         refine run (ge && (b == want)) (fun q => by rw [hw]; exact q) (fun q => by rw [hw]; exact q) ?_
         cases hp : isPure sop with
         | true => rw [hp] at hv; exact .inl ⟨rfl, hv⟩
         | false =>
          rw [hp] at hv
          cases ha : isAsk sop with
          | true => rw [ha] at hv; exact .inr ⟨rfl, rfl, hv⟩
          | false => simp [hp, ha] at haq
        | _ => exact hv.elim
       | _ => rw [hl] at hv; exact hv.elim
     ·cases hg
   ·cases hso
  ·cases h

def pkOf (sl : List SOper) (E : List Nat) (i : Nat) : Bool × SOper := (E.contains i, (sl[i]?).getD ⟨none, none, .alloc true 0 undef⟩)
theorem pickOps_spec {sl : List SOper} {E : List Nat} : ∀ {C : List Nat} {l : List (Bool × SOper)}, pickOps sl E C = some l → l = C.map (pkOf sl E)
 | [], l, h => by simp only [pickOps, Option.some.injEq] at h; subst h; rfl
 | i :: C, l, h => by
  simp only [pickOps] at h
  split at h
  ·rename_i x l' hx hl'
   simp only [Option.some.injEq] at h
   subst h
   rw [pickOps_spec hl']
   simp [pkOf, hx]
  ·cases h

theorem boxesB_mem {φ : Fr} (l : List (Bool × SOper)) (h : boxesB φ l) (x : Bool × SOper) (hx : x ∈ l) (d : Nat) (hd : boxSt x.2.op = some d) : isBox (look φ d) = true := by
 induction l with
 | nil => cases hx
 | cons y r ih =>
  rcases List.mem_cons.1 hx with q | q
  ·subst q
   have h1 := h.1
   rw [hd] at h1
   exact h1
  ·exact ih h.2 q
theorem weak_self (sl : List SOper) : ∀ (i : Nat) z, sl[i]? = some z → ∃ y, sl[i]? = some y ∧ Weak y z := fun i z h => ⟨z, h, fun _ _ _ _ _ _ q => q⟩
/-- a region whose order is drawn -/
theorem drawn_sound {B : Bool} {locs : List Nat} {ops : Array Oper} {sl0 sl : List SOper} {C E : List Nat} {T : List (List Nat)} {l : List (Bool × SOper)} {K : Fr → Ctx → Prop} {Q : Exit → Act → World → Prop} {id : Nat}
  (hsl : trOpers P n locs ops ops.toList = some sl0) (hsw : ∀ (i : Nat) z, sl0[i]? = some z → ∃ y, sl[i]? = some y ∧ Weak y z) (ht : trDrawn B P ops sl C E T = some l) (hK : Ext K) (hQ : ∀ φ Γ a w, K φ Γ → St n Γr Γm w0 φ Γ a w → Q .normal a w)
  (hnb : noBoxes φ l) (hbx : B = true → boxesB φ l) (hv : vcD P Γr l φ Γ K) (hst : St n Γr Γm w0 φ Γ a w) : (Code.region id ops true).wp P Q a w := by
 unfold trDrawn at ht
 cases hc : (P.follows .mixedOrders && decide (C.length = ops.size) && (List.range ops.size).all (fun i => C.contains i) && decide (T.length = ops.size) && ancOk ops.toList T 0 T && orderOk B ops.toList sl E T [] C) with
 | false => rw [hc] at ht; simp at ht
 | true =>
  rw [hc] at ht
  simp only [cond_true] at ht
  simp only [Bool.and_eq_true, decide_eq_true_eq, List.all_eq_true] at hc
  obtain ⟨⟨⟨⟨⟨hm, hlen⟩, hall⟩, _⟩, hanc⟩, hord⟩ := hc
  have hl := pickOps_spec ht
  obtain ⟨hnd, _, hlt, hpair, _, hpre⟩ := orderOk_spec C [] hord
  have hA := ancOk_spec T 0 hanc
  obtain ⟨hsl1, hsl2⟩ := trOpers_at hsl
  have hsz : ∀ (i : Nat), (Array.replicate ops.size false).getD i false = false := fun i => by
   simp only [Array.getD_eq_getD_getElem?, Array.getElem?_replicate]
   split <;> rfl
  refine wp_region_any hm ?_
  have hgo := drawn_go (B := B) (locs := locs) (ops := ops) (sl := sl) (E := E) (T := T) (pk := pkOf sl E) (Q := Q) hK (fun i o ho => let ⟨z, hz, hz2⟩ := hsl2 i o (by simpa using ho); let ⟨y, hy, hw⟩ := hsw i z hz; ⟨y, z, hy, hz2, hw⟩) (fun i y hy => by simp [pkOf, hy])
   (fun k ys hk => by
     obtain ⟨o, ho, h⟩ := hA k ys hk
     exact ⟨o, by simpa using ho, h⟩) hQ C.length C (Array.replicate ops.size false) φ Γ a (w.drewN 1) rfl
   ⟨by simp, hnd, fun i => ?_, hpair, fun R1 j R2 hR o ho p hp => ?_, fun k ys _ hk => ?_, fun i hi d hd => ?_, fun hB i hi d hd => ?_⟩ (by rw [← hl]; exact hv) (hst.drewN 1)
  ·rw [hlen] at hgo
   exact hgo
  ·constructor
   ·intro hi
    have := hlt i hi
    simp only [Array.length_toList] at this
    refine ⟨this, ?_⟩
    simp [Array.getD_eq_getD_getElem?, Array.getElem?_replicate, this]
   ·rintro ⟨hi, _⟩
    have := hall i (by simpa using hi)
    simpa using this
  ·left
   rcases hpre R1 j R2 hR o (by simpa using ho) p hp with q | q
   ·simp at q
   ·exact q
  ·rw [hsz] at hk; cases hk
  ·refine noBoxes_mem l hnb (pkOf sl E i) ?_ d hd
   rw [hl]
   exact List.mem_map.2 ⟨i, hi, rfl⟩
  ·refine boxesB_mem l (hbx hB) (pkOf sl E i) ?_ d hd
   rw [hl]
   exact List.mem_map.2 ⟨i, hi, rfl⟩

theorem parseT_any : True := trivial
theorem noBoxesT_mem {φ : Fr} {sl : List SOper} {E : List Nat} {pk : Nat → Bool × SOper} (hpk : ∀ (i : Nat) y, sl[i]? = some y → pk i = (E.contains i, y)) : ∀ (t : DT Nat) (u : DT (Bool × SOper)), pickT sl E t = some u → noBoxesT φ u → ∀ i ∈ opsT t, ∀ d, (pk i).2.dst = some d → isBox (look φ d) = false
 | .fin, u, h, hb, i, hi => by simp [opsT] at hi
 | .no, u, h, hb, i, hi => by simp [opsT] at hi
 | .q x r, u, h, hb, i, hi => by
  simp only [pickT] at h
  split at h
  ·rename_i y t hy ht
   simp only [Option.some.injEq] at h
   subst h
   simp only [noBoxesT] at hb
   intro d hd
   simp only [opsT, List.mem_cons] at hi
   rcases hi with rfl | hi
   ·rw [hpk i y hy] at hd
    have := hb.1
    rw [hd] at this
    exact this
   ·exact noBoxesT_mem hpk r t ht hb.2 i hi d hd
  ·cases h
 | .alt x r s, u, h, hb, i, hi => by
  simp only [pickT] at h
  split at h
  ·rename_i y t u' hy ht hu
   simp only [Option.some.injEq] at h
   subst h
   simp only [noBoxesT] at hb
   intro d hd
   simp only [opsT, List.mem_cons] at hi
   rcases hi with rfl | hi
   ·rw [hpk i y hy] at hd
    have := hb.1
    rw [hd] at this
    exact this
   ·exact noBoxesT_mem hpk r t ht hb.2 i hi d hd
  ·cases h
/-- a region whose order is drawn, told as a tree -/
theorem tree_sound {locs : List Nat} {ops : Array Oper} {sl : List SOper} {C E : List Nat} {T : List (List Nat)} {u : DT (Bool × SOper)} {K : Fr → Ctx → Prop} {Q : Exit → Act → World → Prop} {id : Nat}
  (hsl : trOpers P n locs ops ops.toList = some sl) (ht : trTree P ops sl C E T = some u) (hK : Ext K) (hQ : ∀ φ Γ a w, K φ Γ → St n Γr Γm w0 φ Γ a w → Q .normal a w)
  (hnb : noBoxesT φ u) (hv : vcT P Γr u φ Γ K) (hst : St n Γr Γm w0 φ Γ a w) : (Code.region id ops true).wp P Q a w := by
 unfold trTree at ht
 split at ht
 ·rename_i t _ _
  cases hc : (P.follows .mixedOrders && decide ((opsT t).length = ops.size) && (List.range ops.size).all (fun i => (opsT t).contains i) && (opsT t).all (fun i => decide (i < ops.size)) && decide (T.length = ops.size) && ancOk ops.toList T 0 T && okT sl E T [] t && cT T none t && dstsOk sl ops.size && depsOk 0 ops.toList) with
  | false => rw [hc] at ht; simp at ht
  | true =>
   rw [hc] at ht
   simp only [cond_true] at ht
   simp only [Bool.and_eq_true, decide_eq_true_eq, List.all_eq_true] at hc
   obtain ⟨⟨⟨⟨⟨⟨⟨⟨⟨hm, hlen⟩, hall⟩, hlt⟩, _⟩, hanc⟩, hok⟩, hct⟩, hds⟩, hdp⟩ := hc
   have hA := ancOk_spec T 0 hanc
   have hD := depsOk_spec ops.toList 0 hdp
   obtain ⟨hsl1, hsl2⟩ := trOpers_at hsl
   have hpk : ∀ (i : Nat) y, sl[i]? = some y → (fun i => (E.contains i, (sl[i]?).getD ⟨none, none, .dead⟩)) i = (E.contains i, y) := fun i y hy => by simp [hy]
   have hsz : ∀ (i : Nat), (Array.replicate ops.size false).getD i false = false := fun i => by
    simp only [Array.getD_eq_getD_getElem?, Array.getElem?_replicate]
    split <;> rfl
   refine wp_region_any hm ?_
   have hgo := tree_go (locs := locs) (ops := ops) (sl := sl) (T := T) (E := E) (pk := fun i => (E.contains i, (sl[i]?).getD ⟨none, none, .dead⟩)) (Q := Q) hK (fun i o ho => hsl2 i o (by simpa using ho)) hpk
    (fun k o ho p hp => by have := hD k o (by simpa using ho) p hp; omega)
    (fun i j hi hj hij d hdi hdj => by
      unfold dstsOk at hds
      simp only [List.all_eq_true] at hds
      have := hds i (by simpa using hi) j (by simpa using hj)
      simp only [Bool.or_eq_true, beq_iff_eq, hij, false_or] at this
      split at this
      ·rename_i x y hx hy
       simp only [hx, Option.getD_some] at hdi
       simp only [hy, Option.getD_some] at hdj
       simp [dstEq, hdi, hdj] at this
      ·cases this)
    (fun k ys hk => by
      obtain ⟨o, ho, h⟩ := hA k ys hk
      exact ⟨o, by simpa using ho, h⟩) hQ (opsT t).length t (Array.replicate ops.size false) φ Γ a (w.drewN 1) rfl
    ⟨by simp, fun i => ?_, hok, hct, fun k ys _ hk => ?_, noBoxesT_mem hpk t u ht hnb⟩ (by rw [← vcT_vcN hpk t u ht]; exact hv) (hst.drewN 1)
   ·rw [hlen] at hgo
    exact hgo
   ·constructor
    ·intro hi
     have := hlt i hi
     refine ⟨by simpa using this, ?_⟩
     have h2 : i < ops.size := by simpa using this
     simp [Array.getD_eq_getD_getElem?, Array.getElem?_replicate, h2]
    ·rintro ⟨hi, _⟩
     have := hall i (by simpa using hi)
     simpa using this
   ·rw [hsz] at hk; cases hk
 ·cases ht

theorem St.apt (h : St n Γr Γm w0 φ Γ a w) : Γ.Pairwise Disj := (List.pairwise_append.1 h.sat.apart).1
/-- heaps lent to be read -/
theorem St.lend {Γ1 Γf : Ctx} (h : St n Γr Γm w0 φ (Γ1 ++ Γf) a w) : St n (Γf ++ Γr) Γm w0 φ Γ1 a w :=
 { h with
   bx := fun t b T cs q => let ⟨a1, a2, a3⟩ := h.bx t b T cs q; ⟨a1, a2, fun g hg => a3 g (by simpa [List.append_assoc] using hg)⟩
   sat := by have := h.sat; rwa [List.append_assoc] at this
   own := fun g hg => h.own g (by simp [hg]) }
theorem St.back {Γ1 Γf : Ctx} (h : St n (Γf ++ Γr) Γm w0 φ Γ1 a w) (ho : ∀ g ∈ Γf, ∀ k, g k ≠ none → w0.heap.size ≤ k ∨ ∃ g' ∈ Γm, g' k ≠ none) : St n Γr Γm w0 φ (Γ1 ++ Γf) a w :=
 { h with
   bx := fun t b T cs q => let ⟨a1, a2, a3⟩ := h.bx t b T cs q; ⟨a1, a2, fun g hg => a3 g (by simpa [List.append_assoc] using hg)⟩
   sat := by have := h.sat; rwa [← List.append_assoc] at this
   own := fun g hg => by
    rcases List.mem_append.1 hg with q | q
    ·exact h.own g q
    ·exact ho g q }
theorem proj_ext {φ ψ : Fr} (h : LookEq φ ψ) : ∀ (L : List Nat), proj φ L = proj ψ L
 | [] => rfl
 | t :: L => by simp only [proj]; rw [h t, proj_ext h L]

theorem vc_sound {locs : List Nat} : ∀ (c : Code) (A : List (List Nat)) (s : Stmt) (A' : List (List Nat)), trCode P n locs c A = some (s, A') →
  ∀ (Q : Post) φ Γ a w, vc P Γr s φ Γ Q → St n Γr Γm w0 φ Γ a w → c.wp P (QQ n Γr Γm w0 Q) a w
 | .skip, A, s, A', h, Q, φ, Γ, a, w, hv, hst => by
  simp only [trCode, Option.some.injEq, Prod.mk.injEq] at h
  obtain ⟨rfl, rfl⟩ := h
  exact wp_skip ⟨φ, Γ, hv, hst⟩
 | .ret, A, s, A', h, Q, φ, Γ, a, w, hv, hst => by
  simp only [trCode, Option.some.injEq, Prod.mk.injEq] at h
  obtain ⟨rfl, rfl⟩ := h
  exact wp_ret ⟨φ, Γ, hv, hst⟩
 | .exit id, A, s, A', h, Q, φ, Γ, a, w, hv, hst => by
  simp only [trCode, Option.some.injEq, Prod.mk.injEq] at h
  obtain ⟨rfl, rfl⟩ := h
  exact wp_exit ⟨φ, Γ, hv, hst⟩
 | .region id ops draw, A, s, A', h, Q, φ, Γ, a, w, hv, hst => by
  simp only [trCode] at h
  split at h
  ·rename_i L A1
   split at h
   ·rename_i sl hsl
    have hproj : ∀ φ' t, look (proj φ' L) t = look φ' t ∨ look (proj φ' L) t = .dead := fun φ' t => by
     rw [look_proj]
     by_cases hm : t ∈ L
     ·left; rw [if_pos hm]
     ·right; rw [if_neg hm]
    cases draw with
    | false =>
     simp only [cond_false, Option.some.injEq, Prod.mk.injEq] at h
     obtain ⟨rfl, rfl⟩ := h
     simp only [vc] at hv
     refine wp_region_list (vcOps_sound (K := Fin L Q.nrm) ?_ ops.toList sl hsl φ Γ a w hv hst)
     intro φ' Γ' a' w' hk hst'
     exact ⟨proj φ' L, Γ', hk, hst'.frame (hproj φ')⟩
    | true =>
     cases hc : (P.follows .mixedOrders && Region.lexB .any ops && allQuiet sl) with
     | false =>
      rw [hc] at h
      simp only [cond_true, cond_false] at h
      split at h
      ·rename_i B C E A'
       split at h
       ·rename_i l hl
        simp only [Option.some.injEq, Prod.mk.injEq] at h
        obtain ⟨rfl, rfl⟩ := h
        simp only [vc] at hv
        obtain ⟨hnb, hbx, hv⟩ := hv
        refine drawn_sound (B := true) (K := Fin L Q.nrm) hsl (annot_at sl B) hl (fun φ ψ Γ h k => ?_) ?_ hnb (fun _ => hbx) hv hst
        ·unfold Fin at k ⊢
         rw [← proj_ext h]
         exact k
        ·intro φ' Γ' a' w' hk hst'
         exact ⟨proj φ' L, Γ', hk, hst'.frame (hproj φ')⟩
       ·cases h
      ·rename_i C E A' _
       split at h
       ·rename_i l hl
        simp only [Option.some.injEq, Prod.mk.injEq] at h
        obtain ⟨rfl, rfl⟩ := h
        simp only [vc] at hv
        obtain ⟨hnb, Γ1, Γf, J, hent, hv, hJ⟩ := hv
        have hst1 := hst.ent hent
        refine tree_sound (Γr := Γf ++ Γr) (K := fun φ' Γ' => Up (Γ' ++ Γf) (J (proj φ' L))) hsl hl (fun φ ψ Γ h k => ?_) ?_ hnb hv hst1.lend
        ·simp only at k ⊢
         rw [← proj_ext h]
         exact k
        ·intro φ' Γ' a' w' hk hst'
         have hbk := hst'.back (fun g hg => hst1.own g (by simp [hg]))
         obtain ⟨Γ'', hent', hk⟩ := hk hbk.apt
         exact ⟨proj φ' L, Γ'', hJ _ _ hk, (hbk.ent hent').frame (hproj φ')⟩
       ·cases h
      ·rename_i C E A' _
       split at h
       ·rename_i l hl
        simp only [Option.some.injEq, Prod.mk.injEq] at h
        obtain ⟨rfl, rfl⟩ := h
        simp only [vc] at hv
        obtain ⟨hnb, hv⟩ := hv
        cases he : anyEarly l with
        | false =>
         rw [he] at hv
         simp only [cond_false] at hv
         refine drawn_sound (B := false) (K := Fin L Q.nrm) hsl (weak_self sl) hl (fun φ ψ Γ h k => ?_) ?_ hnb (fun q => by cases q) hv hst
         ·unfold Fin at k ⊢
          rw [← proj_ext h]
          exact k
         ·intro φ' Γ' a' w' hk hst'
          exact ⟨proj φ' L, Γ', hk, hst'.frame (hproj φ')⟩
        | true =>
         rw [he] at hv
         simp only [cond_true] at hv
         obtain ⟨Γ1, Γf, hent, hv⟩ := hv
         have hst1 := hst.ent hent
         refine drawn_sound (B := false) (Γr := Γf ++ Γr) (K := fun φ' Γ' => Q.nrm (proj φ' L) (Γ' ++ Γf)) hsl (weak_self sl) hl (fun φ ψ Γ h k => ?_) ?_ hnb (fun q => by cases q) hv hst1.lend
         ·simp only at k ⊢
          rw [← proj_ext h]
          exact k
         ·intro φ' Γ' a' w' hk hst'
          exact ⟨proj φ' L, _, hk, (hst'.back (fun g hg => hst1.own g (by simp [hg]))).frame (hproj φ')⟩
       ·cases h
      ·cases h
     | true =>
      rw [hc] at h
      simp only [cond_true, Option.some.injEq, Prod.mk.injEq] at h
      obtain ⟨rfl, rfl⟩ := h
      simp only [Bool.and_eq_true] at hc
      simp only [vc] at hv
      refine wp_region_quiet (C := fun w' => ∃ m, w' = w.drewN m) hc.1.1 hc.1.2 ⟨1, rfl⟩ ?_
      refine vcQuiet_sound (K := Fin L Q.nrm) (W := w) ?_ ops.toList sl hsl hc.2 φ a hv hst
      intro φ' a' hk hst' w' ⟨m, hm⟩
      subst hm
      exact ⟨proj φ' L, Γ, hk, (hst'.drewN m).frame (hproj φ')⟩
   ·cases h
  ·cases h
 | .seq c d, A, s, A', h, Q, φ, Γ, a, w, hv, hst => by
  simp only [trCode] at h
  cases hc : decide (nx c ≤ 1) with
  | true =>
   rw [hc] at h
   simp only [cond_true] at h
   split at h
   ·rename_i s1 A1 h1
    split at h
    ·rename_i s2 A2 h2
     simp only [Option.some.injEq, Prod.mk.injEq] at h
     obtain ⟨rfl, rfl⟩ := h
     simp only [vc] at hv
     refine wp_seq (wp_mono (vc_sound c A s1 A1 h1 _ φ Γ a w hv hst) ?_)
     intro e a' w' hq
     cases e with
     | normal => obtain ⟨φ', Γ', hk, hst'⟩ := hq; exact vc_sound d A1 s2 A2 h2 Q φ' Γ' a' w' hk hst'
     | ret => exact hq
     | exit id => exact hq
     | _ => exact hq.elim
    ·cases h
   ·cases h
  | false =>
   rw [hc] at h
   simp only [cond_false] at h
   split at h
   ·rename_i M N A0
    split at h
    ·rename_i s1 A1 h1
     split at h
     ·rename_i s2 A2 h2
      simp only [Option.some.injEq, Prod.mk.injEq] at h
      obtain ⟨rfl, rfl⟩ := h
      simp only [vc] at hv
      obtain ⟨J, hv1, hv2⟩ := hv
      refine wp_seq (wp_mono (vc_sound c A0 s1 A1 h1 _ φ Γ a w hv1 hst) ?_)
      intro e a' w' hq
      cases e with
      | normal =>
       obtain ⟨φ', Γ', ⟨hN, hup⟩, hst'⟩ := hq
       obtain ⟨Γ2, hent, hJ⟩ := hup hst'.apt
       refine vc_sound d A1 s2 A2 h2 Q _ Γ2 a' w' (hv2 _ _ hJ) ((hst'.ent hent).frame ?_)
       intro t
       rw [look_zip, look_proj]
       by_cases hM : t ∈ M
       ·left; rw [if_pos hM]
       ·rw [if_neg hM]
        by_cases hN' : t ∈ N
        ·left; rw [if_pos hN']; exact (looks_proj hN t hN').symm
        ·right; rw [if_neg hN']
      | ret => exact hq
      | exit id => exact hq
      | _ => exact hq.elim
     ·cases h
    ·cases h
   ·cases h
 | .cond c x y, A, s, A', h, Q, φ, Γ, a, w, hv, hst => by
  simp only [trCode] at h
  split at h
  ·rename_i s1 A1 h1
   split at h
   ·rename_i s2 A2 h2
    simp only [Option.some.injEq, Prod.mk.injEq] at h
    obtain ⟨rfl, rfl⟩ := h
    simp only [vc] at hv
    split at hv
    ·rename_i e b hc
     obtain ⟨rfl, hx, hy⟩ := hv
     have ev := eval_of hst.fits c (by rw [hc])
     rw [hc] at ev
     refine wp_cond_split ev (fun q => ?_) (fun q => ?_)
     ·exact vc_sound x A s1 A1 h1 Q φ Γ a w (hx q) hst
     ·exact vc_sound y A1 s2 A2 h2 Q φ Γ a w (hy q) hst
    ·exact hv.elim
   ·cases h
  ·cases h
 | .block id c, A, s, A', h, Q, φ, Γ, a, w, hv, hst => by
  simp only [trCode] at h
  split at h
  ·rename_i s1 A1 h1
   simp only [Option.some.injEq, Prod.mk.injEq] at h
   obtain ⟨rfl, rfl⟩ := h
   simp only [vc] at hv
   refine wp_block (wp_mono (vc_sound c A s1 A1 h1 _ φ Γ a w hv hst) ?_)
   intro e a' w' hq
   cases e with
   | normal => exact hq
   | ret => exact hq
   | exit j =>
    obtain ⟨φ', Γ', hk, hst'⟩ := hq
    simp only [Post.inBlock] at hk
    simp only [Exit.inBlock]
    by_cases hj : j = id
    ·subst hj
     rw [if_pos rfl]
     simp only [BEq.rfl, cond_true] at hk
     exact ⟨φ', Γ', hk, hst'⟩
    ·rw [if_neg hj]
     have : (j == id) = false := by simpa using hj
     rw [this] at hk
     exact ⟨φ', Γ', hk, hst'⟩
   | _ => exact hq.elim
  ·cases h
 | .loop c, A, s, A', h, Q, φ, Γ, a, w, hv, hst => by
  simp only [trCode] at h
  split at h
  ·rename_i M N A0
   split at h
   ·rename_i s1 A1 h1
    simp only [Option.some.injEq, Prod.mk.injEq] at h
    obtain ⟨rfl, rfl⟩ := h
    simp only [vc] at hv
    obtain ⟨I, ⟨k0, hup0⟩, hround⟩ := hv
    obtain ⟨Γ0, hent0, hI0⟩ := hup0 hst.apt
    have toFrame : ∀ φ' Γ' a' w', looks φ' N = looks φ N → St n Γr Γm w0 φ' Γ' a' w' → St n Γr Γm w0 (zipS M (looks φ' M) ++ proj φ N) Γ' a' w' := by
     intro φ' Γ' a' w' hN hst'
     refine hst'.frame (fun t => ?_)
     rw [look_zip, look_proj]
     by_cases hM : t ∈ M
     ·left; rw [if_pos hM]
     ·rw [if_neg hM]
      by_cases hN' : t ∈ N
      ·left; rw [if_pos hN']; exact (looks_proj hN t hN').symm
      ·right; rw [if_neg hN']
    refine wp_loop_ghost (fun k a w => ∃ vs Γ', I k vs Γ' ∧ St n Γr Γm w0 (zipS M vs ++ proj φ N) Γ' a w) k0 ⟨_, Γ0, hI0, toFrame φ Γ0 a w rfl (hst.ent hent0)⟩ ?_
    intro k a' w' ⟨vs, Γ', hI, hst'⟩
    refine wp_mono (vc_sound c A0 s1 A1 h1 _ _ Γ' a' w' (hround k vs Γ' hI) hst') ?_
    intro e a2 w2 hq
    cases e with
    | normal =>
     obtain ⟨φ2, Γ2, ⟨hN, k', hlt, hup⟩, hst2⟩ := hq
     obtain ⟨Γ3, hent, hI'⟩ := hup hst2.apt
     exact ⟨k', hlt, _, Γ3, hI', toFrame φ2 Γ3 a2 w2 hN (hst2.ent hent)⟩
    | ret => exact hq
    | exit id => exact hq
    | _ => exact hq.elim
   ·cases h
  ·cases h
 | .rangeFunc _ _ _ _, A, s, A', h, Q, φ, Γ, a, w, hv, hst => by simp [trCode] at h
 | .scope _, A, s, A', h, Q, φ, Γ, a, w, hv, hst => by simp [trCode] at h
 | .label _, A, s, A', h, Q, φ, Γ, a, w, hv, hst => by simp [trCode] at h
 | .goto _, A, s, A', h, Q, φ, Γ, a, w, hv, hst => by simp [trCode] at h
 | .refuse _, A, s, A', h, Q, φ, Γ, a, w, hv, hst => by simp [trCode] at h

theorem look_args : ∀ (l : List Value) (i t : Nat), look (args0 i l) t = match (if i ≤ t then l[t - i]? else none) with | some v => .v true v | none => .dead
 | [], i, t => by simp [args0, look]
 | x :: r, i, t => by
  simp only [args0, look]
  by_cases h : i = t
  ·subst h; simp
  ·have hne : (i == t) = false := by simpa using h
   simp only [hne, cond_false, look_args r (i + 1) t]
   by_cases hle : i ≤ t
   ·have h1 : i + 1 ≤ t := by omega
    rw [if_pos h1, if_pos hle]
    rw [show t - i = (t - (i + 1)) + 1 by omega]
    simp
   ·rw [if_neg (by omega), if_neg hle]

theorem resSlots_run : ∀ (l : List ResultVar) (res : List (Nat × Option (Bool × Nat))), resSlots P l = some res → St n Γr Γm w0 φ Γ a w → slotsOn φ res →
  (l.mapM (m := Sem) fun | .tmp t => pure (a.tmps.getD t undef) | .cell c t => do loadVar t (← asAddr (a.tmps.getD c undef))).run P w = .ok (slotVals φ res) w
 | [], res, h, hst, hon => by simp only [resSlots, Option.some.injEq] at h; subst h; rfl
 | .tmp t :: r, res, h, hst, hon => by
  simp only [resSlots] at h
  split at h
  ·rename_i l hl
   simp only [Option.some.injEq] at h
   subst h
   have := resSlots_run r l hl hst hon.2
   have h1 := eval_of hst.fits (.tmp t) (by simpa [val] using hon.1)
   simp only [Act.eval, val] at h1
   simp only [List.mapM_cons, Sem.run_bind, Sem.run_pure, Result.andThen_ok, this, slotVals, h1]
  ·cases h
 | .cell c T :: r, res, h, hst, hon => by
  simp only [resSlots] at h
  split at h
  ·rename_i l m hl hs
   simp only [Option.some.injEq] at h
   subst h
   obtain ⟨hon1, hon2⟩ := hon
   have := resSlots_run r l hl hst hon2
   cases hc : look φ c with
   | box b T' cs =>
    rw [hc] at hon1
    have hf := hst.fits c
    rw [hc] at hf
    simp only [FitsSl] at hf
    obtain ⟨hb, _, _⟩ := hst.bx _ _ _ _ hc
    have hcell : ∀ j v, (cs.take m)[j]? = some v → w.cell? ((⟨b, 0, none⟩ : Addr).add j) = some v := by
     intro j v hv
     rw [add_mk]
     simp only [World.cell?, hb]
     rw [if_neg (by simp)]
     rw [List.getElem?_take] at hv
     split at hv
     ·simpa using hv
     ·cases hv
    have hrun := mkv_run hs (vs := cs.take m) (by simp; exact Nat.min_eq_left hon1.1) hon1.2 hcell
    simp only [Instr.loadAt, Instr.sureAddr, Sem.run_bind, Sem.run_pure, Result.andThen_ok] at hrun
    have hadr : (asAddr (a.tmps.getD c undef)).run P w = .ok ⟨b, 0, none⟩ w := by rw [hf]; rfl
    simp only [List.mapM_cons, Sem.run_bind, Sem.run_pure, Result.andThen_ok, hadr, hrun, this, slotVals, hc, boxV]
   | _ => rw [hc] at hon1; exact hon1.elim
  ·cases h

/-- **A FUNCTION**: what must be shown of its text gives its contract. -/
theorem ret_of_vcE {f : FuncId} {locs : List Nat} {A : List (List Nat)} {S : FnS} (htr : trFn P f locs A = some S) {args : List Value} (hargs : args.length ≤ S.n) {R : Value → Ctx → Prop}
  (Γ0 : Ctx) (hent0 : Ent Γm Γ0) (hv : vc P Γr S.body (args0 0 args) Γ0 (PostR S.res R)) : Ret P f args Γr Γm R := by
 unfold trFn at htr
 split at htr
 ·rename_i fn hfn
  split at htr
  ·rename_i c res hbody hres
   cases hname : (fn.name == "runtime.NumGoroutine") with
   | true => rw [hname] at htr; simp at htr
   | false =>
    rw [hname] at htr
    simp only [cond_false] at htr
    split at htr
    ·rename_i s A' hcode
     simp only [Option.some.injEq] at htr
     subst htr
     refine ⟨by unfold isFn; simp [hfn, hbody, hname], fun w hsat => ?_⟩
     refine calls_of_wp hfn hbody ?_
     dsimp only at hargs hv
     have hst : St fn.ntmps Γr Γm w (args0 0 args) Γm { tmps := args.toArray ++ Array.replicate (fn.ntmps - args.toArray.size) undef, defers := [] } w := by
      refine { n := by simp; omega, defers := rfl, fits := ?_, bx := ?_, bxd := ?_, sat := hsat, own := fun h hh k hk => .inr ⟨h, hh, hk⟩, os := rfl, tape := ⟨rfl, Nat.le_refl _⟩, output := rfl, size := Nat.le_refl _, same := fun _ _ _ => rfl }
      ·intro t
       rw [look_args]
       simp only [Nat.zero_le, if_true, Nat.sub_zero]
       cases hl : args[t]? with
       | none => trivial
       | some v =>
        have hlt : t < args.length := by
         rcases Nat.lt_or_ge t args.length with h | h
         ·exact h
         ·rw [List.getElem?_eq_none h] at hl; cases hl
        simp only [FitsSl, cond_true]
        rw [Array.getD_eq_getD_getElem?, Array.getElem?_append_left (by simpa using hlt)]
        simp [hl]
      ·intro t b T cs hl
       rw [look_args] at hl
       split at hl <;> cases hl
      ·intro t t' b T cs T' cs' hl
       rw [look_args] at hl
       split at hl <;> cases hl
     refine wp_mono (vc_sound c A s A' hcode _ _ _ _ _ hv (hst.ent hent0)) ?_
     have fin : ∀ φ Γ a w', ResultP res R φ Γ → St fn.ntmps Γr Γm w φ Γ a w' → a.defers = [] ∧ ∃ v, (results fn a.tmps).run P w' = .ok v w' ∧
       ∃ v' Γ', Ending.returned v = .returned v' ∧ R v' Γ' ∧ Done Γr Γm Γ' w w' := by
      intro φ Γ a w' ⟨hon, hup⟩ hst'
      obtain ⟨Γ', hent, hR⟩ := hup hst'.apt
      have hst2 := hst'.ent hent
      refine ⟨hst'.defers, resV (slotVals φ res), ?_, resV (slotVals φ res), Γ', rfl, hR, ?_⟩
      ·have h1 := resSlots_run fn.results.toList res hres hst' hon
       unfold results
       rw [Array.mapM_eq_mapM_toList]
       simp only [Sem.run_bind, Sem.run_map]
       erw [h1]
       simp only [Result.andThen_ok, Sem.run_pure]
       generalize slotVals φ res = l
       match l with
       | [] => rfl
       | [x] => rfl
       | x :: y :: r => simp [resV]
      ·exact ⟨hst2.sat, hst2.own, hst2.os, hst2.tape, hst2.output, hst2.size, hst2.same⟩
     intro e a' w' hq
     cases e with
     | normal => obtain ⟨φ', Γ', hk, hst'⟩ := hq; exact fin _ _ _ _ hk hst'
     | ret => obtain ⟨φ', Γ', hk, hst'⟩ := hq; exact fin _ _ _ _ hk hst'
     | exit id => obtain ⟨_, _, hk, _⟩ := hq; exact hk.elim
     | _ => exact hq.elim
    ·cases htr
  ·cases htr
 ·cases htr
theorem Ent.refl' (Γ : Ctx) : Ent Γ Γ := ⟨fun h hh k o hk => ⟨h, hh, hk⟩, id⟩
theorem ret_of_vc {f : FuncId} {locs : List Nat} {A : List (List Nat)} {S : FnS} (htr : trFn P f locs A = some S) {args : List Value} (hargs : args.length ≤ S.n) {R : Value → Ctx → Prop}
  (hv : vc P Γr S.body (args0 0 args) Γm (PostR S.res R)) : Ret P f args Γr Γm R := ret_of_vcE htr hargs Γm (Ent.refl' _) hv
theorem Ent.emp' : Ent [] [emp] := ⟨fun h hh k o hk => by simp at hh; subst hh; simp [emp] at hk, fun _ => by simp⟩
/-- with an empty heap to build in -/
theorem ret_of_vc1 {f : FuncId} {locs : List Nat} {A : List (List Nat)} {S : FnS} (htr : trFn P f locs A = some S) {args : List Value} (hargs : args.length ≤ S.n) {R : Value → Ctx → Prop}
  (hv : vc P Γr S.body (args0 0 args) [emp] (PostR S.res R)) : Ret P f args Γr [] R := ret_of_vcE htr hargs [emp] Ent.emp' hv
end
end Go.Proofs.Ytiipiapfnedfjaa.V
