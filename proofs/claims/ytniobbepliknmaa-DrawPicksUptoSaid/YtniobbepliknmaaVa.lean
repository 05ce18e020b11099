/- The words of a symbolic walk: partial heaps, frames of slots, operations, and what must be shown of a text; no condition. -/
import Derived.WalkKit
import Derived.Deep.QuietTactic
namespace Go.Proofs.Ytniobbepliknmaa.V
open Go
set_option linter.unusedVariables false
set_option linter.unusedSimpArgs false

/-! ### partial heaps -/
abbrev PH := Nat → Option Obj
abbrev Ctx := List PH
def Disj (h h' : PH) : Prop := ∀ k, h k = none ∨ h' k = none
def one (b : Nat) (o : Obj) : PH := fun k => if k = b then some o else none
def emp : PH := fun _ => none
def uni (h h' : PH) : PH := fun k => match h k with | some o => some o | none => h' k
def upd (h : PH) (b : Nat) (o : Obj) : PH := fun k => if k = b then some o else h k
structure Sat (Γ : Ctx) (w : World) : Prop where
  holds : ∀ h ∈ Γ, ∀ k o, h k = some o → w.heap[k]? = some o
  apart : Γ.Pairwise Disj
/-- every block of h is a block of one of Γ, with the same content -/
def Cov (Γ : Ctx) (h : PH) : Prop := ∀ k o, h k = some o → ∃ g ∈ Γ, g k = some o
structure Ent (Γ Γ' : Ctx) : Prop where
  cov : ∀ h ∈ Γ', Cov Γ h
  apart : Γ.Pairwise Disj → Γ'.Pairwise Disj
def Up (Γ : Ctx) (Φ : Ctx → Prop) : Prop := ∃ Γ', Ent Γ Γ' ∧ Φ Γ'

/-! ### frames -/
inductive Sl where
  | dead
  | v (e : Bool) (x : Value)
  | box (b : Nat) (T : TypeId) (cs : List Value)
  | ref (e : Bool) (s : Nat) (b off : Nat)
abbrev Fr := List (Nat × Sl)
def look : Fr → Nat → Sl
  | [], _ => .dead
  | (k, x) :: r, t => bif k == t then x else look r t
def proj (φ : Fr) : List Nat → Fr
  | [] => []
  | t :: L => (t, look φ t) :: proj φ L
def looks (φ : Fr) : List Nat → List Sl
  | [] => []
  | t :: L => look φ t :: looks φ L
def zipS : List Nat → List Sl → Fr
  | t :: L, x :: r => (t, x) :: zipS L r
  | _, _ => []
def updBox : Fr → Nat → List Value → Fr
  | [], _, _ => []
  | (k, x) :: r, t, cs => bif k == t then (match x with | .box b T _ => (k, .box b T cs) :: r | x => (k, x) :: r) else (k, x) :: updBox r t cs
/-- a slot's value, and whether it is there -/
def Sl.val : Sl → Bool × Value
  | .dead => (false, undef)
  | .v e x => (e, x)
  | .box b _ _ => (true, .pointer (some ⟨b, 0, none⟩))
  | .ref e _ b off => (e, .pointer (some ⟨b, off, none⟩))
def val (φ : Fr) : Operand → Bool × Value
  | .tmp t => (look φ t).val
  | .const x => (true, x)
  | .global g => (true, .pointer (some ⟨g, 0, none⟩))
  | .func f => (true, .func (.func f) #[] #[])
def vals (φ : Fr) : List Operand → List Value
  | [] => []
  | x :: r => (val φ x).2 :: vals φ r
def allOn (φ : Fr) (e : Bool) : List Operand → Prop
  | [] => True
  | x :: r => (e = true → (val φ x).1 = true) ∧ allOn φ e r
def slotOf (φ : Fr) (e : Bool) : Operand → Sl
  | .tmp t => match look φ t with
    | .box b _ _ => .ref e t b 0
    | .ref _ s b off => .ref e s b off
    | x => .v e x.val.2
  | x => .v e (val φ x).2

/-! ### operations -/
inductive SOp where
  | mv (x : Operand)
  | pick (c a b : Operand)
  | ibin (op : BinOp) (x y : Operand)
  | idiv (op : BinOp) (x y : Operand)
  | ishift (op : BinOp) (x y : Operand)
  | sbin (op : BinOp) (x y : Operand)
  | beq (neg : Bool) (x y : Operand)
  | nilq (kd : Nat) (neg : Bool) (x y : Operand)
  | un (op : UnOp) (x : Operand)
  | conv (k : IntKind) (x : Operand)
  | box (loc : Bool) (T : TypeId) (x : Operand)
  | alloc (loc : Bool) (T : TypeId) (z : Value)
  | build (t : TypeId) (z : List Value) (parts : List (Nat × Nat × Operand))
  | buildS (e : TypeId) (len : Nat) (z : List Value) (parts : List (Nat × Nat × Operand))
  | load (agg : Bool) (n : Nat) (x : Operand)
  | store (n : Nat) (x v : Operand)
  | fld (off : Nat) (x : Operand)
  | nilCheck (x : Operand)
  | idx (sz : Nat) (x i : Operand)
  | idxA (len sz : Nat) (x i : Operand)
  | field (agg : Bool) (off n : Nat) (x : Operand)
  | slc (sz : Nat) (x : Operand) (lo hi mx : Option Operand)
  | len (str : Bool) (x : Operand)
  | append (t e : TypeId) (sz bytes : Nat) (z : Value) (s x : Operand)
  | mk (e : TypeId) (sz bytes : Nat) (z : Value) (n c : Operand)
  | call (f : Operand) (args : List Operand)
  | extract (i : Nat) (x : Operand)
  | mkFunc (fn : FuncId) (caps : List Operand)
  | other (o : Oper)
structure SOper where
  dst : Option Nat
  guard : Option (Nat × Bool)
  op : SOp

inductive Stmt where
  | region (ops : List SOper) (L : List Nat)
  | quiet (ops : List SOper) (L : List Nat)
  | seq (a b : Stmt)
  | join (a b : Stmt) (M N : List Nat)
  | cond (c : Operand) (a b : Stmt)
  | block (id : Nat) (a : Stmt)
  | loop (a : Stmt) (M N : List Nat)
  | exit (id : Nat)
  | ret
  | skip
  | bad

structure Post where
  nrm : Fr → Ctx → Prop
  ret : Fr → Ctx → Prop
  ex : Nat → Fr → Ctx → Prop

/-! ### what a call does -/
structure Done (Γr Γm Γ' : Ctx) (w w' : World) : Prop where
  sat : Sat (Γ' ++ Γr) w'
  own : ∀ h ∈ Γ', ∀ k, h k ≠ none → w.heap.size ≤ k ∨ ∃ g ∈ Γm, g k ≠ none
  os : w'.os = w.os
  tape : w'.tape = w.tape
  output : w'.output = w.output
  size : w.heap.size ≤ w'.heap.size
  same : ∀ k, k < w.heap.size → (∀ g ∈ Γm, g k = none) → w'.heap[k]? = w.heap[k]?
def isFn (P : Program) (f : FuncId) : Bool := match P.funcs[f]? with
  | some fn => fn.body.isSome && !(fn.name == "runtime.NumGoroutine")
  | none => false
/-- Called with these values, where the heaps Γr (to be read) and Γm (to be changed) lie in memory: returns v, and the heaps Γ' in the place of Γm. -/
structure Ret (P : Program) (f : FuncId) (args : List Value) (Γr Γm : Ctx) (R : Value → Ctx → Prop) : Prop where
  fn : isFn P f = true
  calls : ∀ w, Sat (Γm ++ Γr) w → Calls P f args.toArray w (fun e w' => ∃ v Γ', e = .returned v ∧ R v Γ' ∧ Done Γr Γm Γ' w w')

/-! ### values of operations -/
def ibinV : BinOp → IntKind → Int → Int → Value
  | .add, k, a, b => .int k (k.wrap (a + b))
  | .sub, k, a, b => .int k (k.wrap (a - b))
  | .mul, k, a, b => .int k (k.wrap (a * b))
  | .eql, _, a, b => .bool (decide (a = b))
  | .neq, _, a, b => .bool (!decide (a = b))
  | .lss, _, a, b => .bool (decide (a < b))
  | .leq, _, a, b => .bool (decide (a ≤ b))
  | .gtr, _, a, b => .bool (decide (b < a))
  | .geq, _, a, b => .bool (decide (b ≤ a))
  | _, _, _, _ => undef
def ibinOk : BinOp → Bool
  | .add | .sub | .mul | .eql | .neq | .lss | .leq | .gtr | .geq => true
  | _ => false
def idivV : BinOp → IntKind → Int → Int → Value
  | .quo, k, a, b => .int k (k.wrap (a.tdiv b))
  | .rem, k, a, b => .int k (a.tmod b)
  | _, _, _, _ => undef
def ishiftV : BinOp → IntKind → Int → Int → Value
  | .shl, k, a, b => .int k (k.wrap (a * 2 ^ (min b.toNat k.bits)))
  | .shr, k, a, b => .int k (a.fdiv (2 ^ (min b.toNat k.bits)))
  | _, _, _, _ => undef
def nilV : Nat → Value → Option Bool
  | 0, .slice a _ _ => some a.isNone
  | 1, .pointer a => some a.isNone
  | 2, .map r => some r.isNone
  | 3, .nilFunc => some true
  | 3, .func _ _ _ => some false
  | _, _ => none
def isNil : Nat → Value → Bool
  | 0, .slice none _ _ => true
  | 1, .pointer none => true
  | 2, .map none => true
  | 3, .nilFunc => true
  | _, _ => false
def zerosL (z : List Value) : Nat → List Value
  | 0 => []
  | n + 1 => z ++ zerosL z n
def mkv (agg : Bool) (vs : List Value) : Value := bif agg then .agg vs.toArray else vs.headD undef
/-- the cells of a value -/
def cellsV : Value → List Value
  | .agg cs => cs.toList
  | x => [x]
def fillL (z : List Value) : List (Nat × Nat × Value) → List Value
  | [] => z
  | (off, n, x) :: r => fillL (z.take off ++ cellsV x ++ z.drop (off + n)) r
def fits : List (Nat × Nat × Value) → Prop
  | [] => True
  | (_, n, x) :: r => (cellsV x).length = n ∧ fits r
def partVals (φ : Fr) : List (Nat × Nat × Operand) → List (Nat × Nat × Value)
  | [] => []
  | (off, n, x) :: r => (off, n, (val φ x).2) :: partVals φ r
def partOn (φ : Fr) (e : Bool) : List (Nat × Nat × Operand) → Prop
  | [] => True
  | (_, _, x) :: r => (e = true → (val φ x).1 = true) ∧ partOn φ e r

/-- the cells vs lie at this address in one of the heaps -/
def Cells (Γ : Ctx) (b o : Nat) (vs : List Value) : Prop :=
  ∃ h ∈ Γ, ∃ cells T fr, h b = some (.cells cells T fr) ∧ ∀ j, j < vs.length → cells[o + j]? = vs[j]?

/-! ### what must be shown of operations -/
def put (φ : Fr) (d : Option Nat) (x : Sl) : Fr := match d with | some t => (t, x) :: φ | none => φ
def gd (φ : Fr) : Option (Nat × Bool) → Option Bool
  | none => some true
  | some (t, want) => match look φ t with
    | .v ge (.bool b) => some (ge && (b == want))
    | _ => none
def pickV (c : Bool) (x y : Value) : Value := match x, y with
  | .bool p, .bool q => .bool (bif c then p else q)
  | x, y => bif c then x else y
def unV : UnOp → Value → Option Value
  | .not, .bool b => some (.bool (!b))
  | .neg, .int k n => some (.int k (k.wrap (0 - n)))
  | _, _ => none
def sbinV : BinOp → ByteArray → ByteArray → Option Value
  | .eql, a, b => some (.bool (a.toList == b.toList))
  | .neq, a, b => some (.bool (!(a.toList == b.toList)))
  | _, _, _ => none
def lenV : Bool → Value → Option Int
  | false, .slice _ n _ => some n
  | true, .string s => some s.size
  | _, _ => none
/-- the operations that make or change nothing -/
def pureV (φ : Fr) (e : Bool) : SOp → (Sl → Prop) → Prop
  | .mv x, k => (e = true → (val φ x).1 = true) ∧ k (slotOf φ e x)
  | .pick c a b, k => match val φ c with
    | (ec, .bool cb) => (e = true → ec = true) ∧ (e = true → cb = true → (val φ a).1 = true) ∧ (e = true → cb = false → (val φ b).1 = true) ∧ k (.v e (pickV cb (val φ a).2 (val φ b).2))
    | _ => False
  | .ibin op x y, k => match val φ x, val φ y with
    | (ex, .int kx a), (ey, .int ky b) => ibinOk op = true ∧ kx = ky ∧ (e = true → ex = true) ∧ (e = true → ey = true) ∧ k (.v e (ibinV op kx a b))
    | _, _ => False
  | .sbin op x y, k => match val φ x, val φ y with
    | (ex, .string a), (ey, .string b) => ∃ r, sbinV op a b = some r ∧ (e = true → ex = true) ∧ (e = true → ey = true) ∧ k (.v e r)
    | _, _ => False
  | .beq neg x y, k => match val φ x, val φ y with
    | (ex, .bool a), (ey, .bool b) => (e = true → ex = true) ∧ (e = true → ey = true) ∧ k (.v e (.bool ((a == b) != neg)))
    | _, _ => False
  | .nilq kd neg x y, k => isNil kd (val φ y).2 = true ∧ (e = true → (val φ y).1 = true) ∧ ∃ r, nilV kd (val φ x).2 = some r ∧ (e = true → (val φ x).1 = true) ∧ k (.v e (.bool (r != neg)))
  | .un op x, k => ∃ r, unV op (val φ x).2 = some r ∧ (e = true → (val φ x).1 = true) ∧ k (.v e r)
  | .conv kd x, k => match val φ x with
    | (ex, .int _ n) => (e = true → ex = true) ∧ k (.v e (.int kd (kd.wrap n)))
    | _ => False
  | .fld off x, k => match slotOf φ e x with
    | .ref _ s b o => (e = true → (val φ x).1 = true) ∧ k (.ref e s b (o + off))
    | .v _ (.pointer (some ⟨b, o, none⟩)) => (e = true → (val φ x).1 = true) ∧ k (.v e (.pointer (some ⟨b, o + off, none⟩)))
    | _ => False
  | .nilCheck x, k => match slotOf φ e x with
    | .ref _ s b o => (e = true → (val φ x).1 = true) ∧ k (.ref e s b o)
    | .v _ (.pointer (some a)) => (e = true → (val φ x).1 = true) ∧ k (.v e (.pointer (some a)))
    | .v _ (.func (.func f) c1 c2) => (e = true → (val φ x).1 = true) ∧ k (.v e (.func (.func f) c1 c2))
    | _ => False
  | .field agg off n x, k => match val φ x with
    | (ex, .agg cs) => (e = true → ex = true) ∧ off + n ≤ cs.size ∧ (agg = false → n = 1) ∧ k (.v e (mkv agg ((cs.toList.drop off).take n)))
    | _ => False
  | .len str x, k => ∃ n, lenV str (val φ x).2 = some n ∧ (e = true → (val φ x).1 = true) ∧ k (.v e (.int .i64 n))
  | .extract i x, k => match val φ x with
    | (ex, .tuple vs) => ∃ r, vs.toList[i]? = some r ∧ (e = true → ex = true) ∧ k (.v e r)
    | _ => False
  | .mkFunc fn caps, k => allOn φ e caps ∧ k (.v e (.func (.func fn) #[] (vals φ caps).toArray))
  | .build t z parts, k => partOn φ e parts ∧ fits (partVals φ parts) ∧ k (.v e (.agg (fillL z (partVals φ parts)).toArray))
  | _, _ => False
def isPure : SOp → Bool
  | .mv _ | .pick .. | .ibin .. | .sbin .. | .beq .. | .nilq .. | .un .. | .conv .. | .fld .. | .nilCheck _ | .field .. | .len _ _ | .extract .. | .mkFunc .. | .build .. => true
  | _ => false
def setC (cs : List Value) (off n : Nat) (x : Value) : List Value := cs.take off ++ cellsV x ++ cs.drop (off + n)
/-- an owned row: a slice's own array, all its own, from its begin -/
def Row (h : PH) (e : TypeId) (sz : Nat) (v : Value) (n : Nat) (xs : List Value) : Prop :=
  xs.length = n * sz ∧ ((v = .slice none 0 0 ∧ n = 0) ∨
  ∃ b cap cur, v = .slice (some ⟨b, 0, none⟩) n cap ∧ n ≤ cap ∧ cap ≤ maxLen ∧ h b = some (.cells cur e (0, 0)) ∧ cur.size = cap * sz ∧ cur.toList.take (n * sz) = xs)
/-- all but the row of v is as it was -/
def KeptBut (v : Value) (h h' : PH) : Prop := ∀ k, v.ownBlock ≠ some k → h k ≠ none → h' k = h k
def one' (xs : List Value) : Prop := ∀ u ∈ xs, u.oneCell' = true

def bnd (φ : Fr) (x : Option Operand) (l d : Nat) : Prop := match x with
  | none => l = d
  | some y => (val φ y).1 = true ∧ ∃ ki, (val φ y).2 = .int ki (l : Nat)
/-- operations that ask something of memory, or may fail -/
def askV (Γ : Ctx) (φ : Fr) (e : Bool) : SOp → (Sl → Prop) → Prop
  | .idiv op x y, k => match val φ x, val φ y with
    | (ex, .int kx a), (ey, .int ky b) => (op = .quo ∨ op = .rem) ∧ kx = ky ∧ (e = true → ex = true ∧ ey = true ∧ b ≠ 0) ∧ k (.v e (idivV op kx a b))
    | _, _ => False
  | .ishift op x y, k => match val φ x, val φ y with
    | (ex, .int kx a), (ey, .int ky b) => (op = .shl ∨ op = .shr) ∧ (e = true → ex = true ∧ ey = true ∧ 0 ≤ b) ∧ k (.v e (ishiftV op kx a b))
    | _, _ => False
  | .idx sz x i, k => match val φ x, val φ i with
    | (ex, .slice A n cap), (ei, .int ki j) => ∃ b o, (e = true → ex = true ∧ ei = true ∧ A = some ⟨b, o, none⟩ ∧ 0 ≤ j ∧ j < n) ∧ k (.v e (.pointer (some ⟨b, o + j.toNat * sz, none⟩)))
    | _, _ => False
  | .idxA len sz x i, k => match slotOf φ e x, val φ i with
    | .ref _ s b o, (ei, .int ki j) => (e = true → (val φ x).1 = true ∧ ei = true ∧ 0 ≤ j ∧ j < len) ∧ k (.ref e s b (o + j.toNat * sz))
    | .v _ (.pointer (some ⟨b, o, none⟩)), (ei, .int ki j) => (e = true → (val φ x).1 = true ∧ ei = true ∧ 0 ≤ j ∧ j < len) ∧ k (.v e (.pointer (some ⟨b, o + j.toNat * sz, none⟩)))
    | _, _ => False
  | .load agg n x, k => match slotOf φ e x with
    | .ref _ s b o => match look φ s with
      | .box b' T cs => b' = b ∧ (e = true → (val φ x).1 = true) ∧ o + n ≤ cs.length ∧ (agg = false → n = 1) ∧ k (.v e (mkv agg ((cs.drop o).take n)))
      | _ => False
    | .v _ (.pointer (some ⟨b, o, none⟩)) => (agg = false → n = 1) ∧ ∃ vs, vs.length = n ∧ (e = true → (val φ x).1 = true ∧ Cells Γ b o vs) ∧ k (.v e (mkv agg vs))
    | _ => False
  | .slc sz x lo hi none, k => match val φ x with
    | (ex, .slice A n cap) => ∃ l h, (e = true → ex = true ∧ bnd φ lo l 0 ∧ bnd φ hi h n ∧ l ≤ h ∧ h ≤ cap) ∧
        k (.v e (.slice (if cap = l then A else A.map (·.add (l * sz))) (h - l) (cap - l)))
    | _ => False
  | _, _ => False
def isAsk : SOp → Bool
  | .idiv .. | .ishift .. | .idx .. | .idxA .. | .load .. | .slc _ _ _ _ none => true
  | _ => false

def CallVC (P : Program) (Γr : Ctx) (f : FuncId) (args : List Value) (Γ : Ctx) (k : Value → Ctx → Prop) : Prop :=
  ∃ Γr1 Γm Γf R, Ret P f args Γr1 Γm R ∧ Γ.Perm (Γm ++ Γf) ∧ Γr1.Sublist (Γf ++ Γr) ∧ ∀ v Γ', R v Γ' → k v (Γ' ++ Γf)

/-- operations that make or change memory, and calls -/
def effV (P : Program) (Γr : Ctx) (φ : Fr) (Γ : Ctx) (d : Option Nat) : SOp → (Fr → Ctx → Prop) → Prop
  | .box true T x, k => (val φ x).1 = true ∧ one' (cellsV (val φ x).2) ∧ ∀ b, k (put φ d (.box b T (cellsV (val φ x).2))) Γ
  | .box false T x, k => (val φ x).1 = true ∧ one' (cellsV (val φ x).2) ∧ ∀ b, k (put φ d (.v true (.pointer (some ⟨b, 0, none⟩)))) (one b (.cells (cellsV (val φ x).2).toArray T) :: Γ)
  | .alloc true T z, k => ∀ b, k (put φ d (.box b T (cellsV z))) Γ
  | .alloc false T z, k => ∀ b, k (put φ d (.v true (.pointer (some ⟨b, 0, none⟩)))) (one b (.cells (cellsV z).toArray T) :: Γ)
  | .buildS t n z parts, k => partOn φ true parts ∧ fits (partVals φ parts) ∧ ∀ b, k (put φ d (.v true (.slice (some ⟨b, 0, none⟩) n n))) (one b (.cells (fillL z (partVals φ parts)).toArray t) :: Γ)
  | .store n x y, k => (val φ x).1 = true ∧ (val φ y).1 = true ∧ (cellsV (val φ y).2).length = n ∧ one' (cellsV (val φ y).2) ∧ (match slotOf φ true x with
    | .ref _ s b o => (match look φ s with
      | .box b' T cs => b' = b ∧ o + n ≤ cs.length ∧ k (updBox φ s (setC cs o n (val φ y).2)) Γ
      | _ => False)
    | .v _ (.pointer (some ⟨b, o, none⟩)) => ∃ i h cells T, Γ[i]? = some h ∧ h b = some (.cells cells T (0, 0)) ∧ o + n ≤ cells.size ∧
        k φ (Γ.set i (upd h b (.cells (setC cells.toList o n (val φ y).2).toArray T)))
    | _ => False)
  | .append t e sz bytes z s x, k => (val φ s).1 = true ∧ (val φ x).1 = true ∧ (match (val φ x).2 with
    | .slice A m c => ∃ i h n xs news, Γ[i]? = some h ∧ Row h e sz (val φ s).2 n xs ∧ news.length = m * sz ∧ one' news ∧ (m = 0 ∨ ∃ b o, A = some ⟨b, o, none⟩ ∧ Cells (Γ ++ Γr) b o news) ∧
        (n + m) * bytes ≤ 140737488355328 ∧ n + m ≤ maxLen ∧
        ∀ v' h', Row h' e sz v' (n + m) (xs ++ news) → KeptBut (val φ s).2 h h' → k (put φ d (.v true v')) (Γ.set i h')
    | _ => False)
  | .mk e sz bytes z n c, k => n = c ∧ (match val φ n with
    | (true, .int .i64 m) => 0 ≤ m ∧ m * bytes ≤ 140737488355328 ∧ ∀ b, k (put φ d (.v true (.slice (some ⟨b, 0, none⟩) m.toNat m.toNat))) (one b (.cells (zerosL (cellsV z) m.toNat).toArray e) :: Γ)
    | _ => False)
  | .call f args, k => allOn φ true args ∧ (match val φ f with
    | (true, .func (.func g) c1 c2) => CallVC P Γr g (c1.toList ++ vals φ args ++ c2.toList) Γ (fun v Γ' => k (put φ d (.v true v)) Γ')
    | _ => False)
  | _, _ => False

def vcOps (P : Program) (Γr : Ctx) : List SOper → Fr → Ctx → (Fr → Ctx → Prop) → Prop
  | [], φ, Γ, K => K φ Γ
  | ⟨d, none, op⟩ :: r, φ, Γ, K =>
    bif isPure op then pureV φ true op (fun x => vcOps P Γr r (put φ d x) Γ K)
    else bif isAsk op then askV (Γ ++ Γr) φ true op (fun x => vcOps P Γr r (put φ d x) Γ K)
    else effV P Γr φ Γ d op (fun φ' Γ' => vcOps P Γr r φ' Γ' K)
  | ⟨d, some g, op⟩ :: r, φ, Γ, K => match gd φ (some g) with
    | some e =>
      bif isPure op then pureV φ e op (fun x => vcOps P Γr r (put φ d x) Γ K)
      else bif isAsk op then askV (Γ ++ Γr) φ e op (fun x => vcOps P Γr r (put φ d x) Γ K)
      else (e = true → effV P Γr φ Γ d op (fun φ' Γ' => vcOps P Γr r φ' Γ' K)) ∧ (e = false → vcOps P Γr r (put φ d (.v false undef)) Γ K)
    | none => False

/-! ### from the program's text -/
def isTiny (P : Program) (t : TypeId) : Bool := match P.underlying t with | some (.struct _) => true | some (.array _ _) => true | _ => false
def szOf (P : Program) (t : TypeId) : Option Nat := match P.underlying t with | some _ => (P.info? t).map (·.size) | none => none
def fieldsOf (P : Program) (t : TypeId) : Option (Array Field) := match P.underlying t with | some (.struct fs) => some fs | _ => none
def nilC (kd : Nat) (op : BinOp) (x : Operand) : Operand → Option SOp
  | .const v => bif isNil kd v then (match op with | .eql => some (.nilq kd false x (.const v)) | .neq => some (.nilq kd true x (.const v)) | _ => none) else none
  | _ => none
def mapParts (N : Nat) (place : Nat → Option (Nat × Nat)) : List (Nat × Operand) → Option (List (Nat × Nat × Operand))
  | [] => some []
  | (i, x) :: r => match place i, mapParts N place r with
    | some (off, n), some l => bif decide (off + n ≤ N) then some ((off, n, x) :: l) else none
    | _, _ => none
def placeOf (P : Program) (fs : Array Field) (i : Nat) : Option (Nat × Nat) := match fs[i]? with | some f => (szOf P f.type).map (fun s => (f.offset, s)) | none => none
def intKind : BinOp → Nat
  | .add | .sub | .mul | .eql | .neq | .lss | .leq | .gtr | .geq => 0
  | .quo | .rem => 1
  | .shl | .shr => 2
  | _ => 3
def trBin (P : Program) (op : BinOp) (t : TypeId) (x y : Operand) : Option SOp :=
  match P.underlying t with
    | some (.int _) => match intKind op with
      | 0 => some (.ibin op x y)
      | 1 => some (.idiv op x y)
      | 2 => some (.ishift op x y)
      | _ => none
    | some .string => some (.sbin op x y)
    | some .bool => match op with | .eql => some (.beq false x y) | .neq => some (.beq true x y) | _ => none
    | some (.slice _) => nilC 0 op x y
    | some (.pointer _) => nilC 1 op x y
    | some (.map _ _) => nilC 2 op x y
    | some (.func _ _ _) => nilC 3 op x y
    | _ => none
def trLen (P : Program) : List Operand → List TypeId → Option SOp
  | [x], [t] => match P.underlying t with
    | some (.slice _) => some (.len false x)
    | some .string => some (.len true x)
    | _ => none
  | _, _ => none
def trAppend (P : Program) : List Operand → List TypeId → Option SOp
  | [s, x], [t, u] => match P.underlying t with
    | some (.slice e) => match P.info? e with
      | some i => match i.zero with
        | some z => bif decide (t = u) && decide (0 < i.size) && decide ((cellsV z).length = i.size) then some (.append t e i.size i.bytes z s x) else none
        | none => none
      | none => none
    | _ => none
  | _, _ => none
def trCall (P : Program) (c : Call) : Option SOp := match c.callee with
    | .value f => some (.call f c.args.toList)
    | .builtin .len => trLen P c.args.toList c.argTypes.toList
    | .builtin .append => trAppend P c.args.toList c.argTypes.toList
    | _ => none
def trBuild (P : Program) (t : TypeId) (parts : List (Nat × Operand)) : Option SOp :=
  match P.underlying t, (P.info? t).bind (·.zero) with
    | some (.struct fs), some z => match mapParts (cellsV z).length (placeOf P fs) parts with
      | some l => bif fs.toList.all (fun f => (szOf P f.type).isSome) then some (.build t (cellsV z) l) else none
      | none => none
    | _, _ => none
def trBuildS (P : Program) (t : TypeId) (n : Nat) (parts : List (Nat × Operand)) : Option SOp :=
  match P.underlying t with
    | some (.slice e) => match (P.info? e).bind (·.zero), szOf P e with
      | some z, some sz => match mapParts (n * sz) (fun i => some (i * sz, sz)) parts with
        | some l => bif decide (0 < sz) && decide (n * sz ≤ 1000) && decide ((cellsV z).length = sz) then some (.buildS e n (zerosL (cellsV z) n) l) else none
        | none => none
      | _, _ => none
    | _ => none
def trOp (P : Program) (loc : Bool) : Op → Option SOp
  | .move x => some (.mv x)
  | .assign x => some (.mv x)
  | .pick c a b => some (.pick c a b)
  | .binOp op t x y _ => trBin P op t x y
  | .unOp op t x => some (.un op x)
  | .convert s d x => match P.underlying s, P.underlying d with
    | some (.int _), some (.int k) => some (.conv k x)
    | _, _ => none
  | .box T x => some (.box loc T x)
  | .alloc T => match (P.info? T).bind (·.zero) with | some z => some (.alloc loc T z) | none => none
  | .build t parts => trBuild P t parts.toList
  | .buildSlice t n parts => trBuildS P t n parts.toList
  | .load t x => match szOf P t with | some n => some (.load (isTiny P t) n x) | none => none
  | .store t x v => match szOf P t with | some n => some (.store n x v) | none => none
  | .nilCheck x => some (.nilCheck x)
  | .fieldAddr t x i => match fieldsOf P t with
    | some fs => match fs[i]? with
      | some f => match szOf P f.type with | some (_ + 1) => some (.fld f.offset x) | _ => none
      | none => none
    | none => none
  | .field t x i => match fieldsOf P t with
    | some fs => match fs[i]? with
      | some f => match szOf P f.type with | some n => some (.field (isTiny P f.type) f.offset n x) | _ => none
      | none => none
    | none => none
  | .indexAddr t x i => match P.underlying t with
    | some (.slice e) => match szOf P e with | some n => some (.idx n x i) | none => none
    | some (.array len e) => match szOf P e with | some n => bif decide (1 < len) then some (.idxA len n x i) else none | none => none
    | _ => none
  | .slice t x lo hi mx => match P.underlying t with
    | some (.slice e) => match szOf P e with | some n => some (.slc n x lo hi mx) | none => none
    | _ => none
  | .makeSlice t n c => match P.underlying t with
    | some (.slice e) => match P.info? e with
      | some i => match i.zero with
        | some z => bif decide (0 < i.size) && decide (0 < i.bytes) && decide ((cellsV z).length = i.size) then some (.mk e i.size i.bytes z n c) else none
        | none => none
      | none => none
    | _ => none
  | .makeFunc (.func f) first caps => bif first.isEmpty then some (.mkFunc f caps.toList) else none
  | .extract x i => some (.extract i x)
  | .call c => trCall P c
  | _ => none
def noStore : SOp → Bool
  | .store _ _ _ => false
  | _ => true
def trOper (P : Program) (n : Nat) (locs : List Nat) (ops : Array Oper) (o : Oper) : Option SOper :=
  let gdc : Option (Option (Nat × Bool)) := match o.guard with
    | none => some none
    | some (j, want) => match (ops[j]?).bind (·.dst) with
      | some t => bif decide (t < n) then some (some (t, want)) else none
      | none => none
  match gdc, trOp P (match o.dst with | some d => locs.contains d | none => false) o.op with
  | some g, some s => (match o.dst with
    | some d => bif decide (d < n) && noStore s then some ⟨o.dst, g, s⟩ else none
    | none => some ⟨none, g, s⟩)
  | _, _ => none
def trOpers (P : Program) (n : Nat) (locs : List Nat) (ops : Array Oper) : List Oper → Option (List SOper)
  | [] => some []
  | o :: r => match trOper P n locs ops o, trOpers P n locs ops r with
    | some s, some l => some (s :: l)
    | _, _ => none


/-! ### statements -/
def allQuiet : List SOper → Bool
  | [] => true
  | o :: r => (isPure o.op || isAsk o.op) && allQuiet r
/-- what stands behind a region -/
def Fin (L : List Nat) (K : Fr → Ctx → Prop) : Fr → Ctx → Prop := fun φ Γ => K (proj φ L) Γ
def Post.seq (Q : Post) (K : Fr → Ctx → Prop) : Post := { nrm := K, ret := Q.ret, ex := Q.ex }
def Post.inBlock (Q : Post) (id : Nat) : Post := { nrm := Q.nrm, ret := Q.ret, ex := fun j φ Γ => bif j == id then Q.nrm φ Γ else Q.ex j φ Γ }
def vc (P : Program) (Γr : Ctx) : Stmt → Fr → Ctx → Post → Prop
  | .region ops L, φ, Γ, Q => vcOps P Γr ops φ Γ (Fin L Q.nrm)
  | .quiet ops L, φ, Γ, Q => vcOps P Γr ops φ Γ (Fin L Q.nrm)
  | .seq a b, φ, Γ, Q => vc P Γr a φ Γ (Q.seq fun φ' Γ' => vc P Γr b φ' Γ' Q)
  | .join a b M N, φ, Γ, Q => ∃ J : List Sl → Ctx → Prop,
      vc P Γr a φ Γ (Q.seq fun φ' Γ' => looks φ' N = looks φ N ∧ Up Γ' (J (looks φ' M))) ∧
      ∀ vs Γ', J vs Γ' → vc P Γr b (zipS M vs ++ proj φ N) Γ' Q
  | .cond c a b, φ, Γ, Q => match val φ c with
    | (e, .bool x) => e = true ∧ (x = true → vc P Γr a φ Γ Q) ∧ (x = false → vc P Γr b φ Γ Q)
    | _ => False
  | .block id a, φ, Γ, Q => vc P Γr a φ Γ (Q.inBlock id)
  | .loop a M N, φ, Γ, Q => ∃ I : Nat → List Sl → Ctx → Prop, (∃ n, Up Γ (I n (looks φ M))) ∧
      ∀ n vs Γ', I n vs Γ' → vc P Γr a (zipS M vs ++ proj φ N) Γ' (Q.seq fun φ' Γ'' => looks φ' N = looks φ N ∧ ∃ n', n' < n ∧ Up Γ'' (I n' (looks φ' M)))
  | .exit id, φ, Γ, Q => Q.ex id φ Γ
  | .ret, φ, Γ, Q => Q.ret φ Γ
  | .skip, φ, Γ, Q => Q.nrm φ Γ
  | .bad, _, _, _ => False

/-- how many ways lead out at the end, and to a block's end -/
def exN (id : Nat) : Code → Nat
  | .seq a b => exN id a + exN id b
  | .cond _ a b => exN id a + exN id b
  | .block _ a => exN id a
  | .loop a => exN id a
  | .exit j => bif j == id then 1 else 0
  | _ => 0
def nx : Code → Nat
  | .seq a b => nx a * nx b
  | .cond _ a b => nx a + nx b
  | .block id a => nx a + exN id a
  | .loop _ | .exit _ | .ret => 0
  | _ => 1
def trCode (P : Program) (n : Nat) (locs : List Nat) : Code → List (List Nat) → Option (Stmt × List (List Nat))
  | .skip, A => some (.skip, A)
  | .region _ ops draw, A => match A with
    | L :: A => match trOpers P n locs ops ops.toList with
      | some sl => bif draw then (bif P.follows .mixedOrders && Region.lexB .any ops && allQuiet sl then some (.quiet sl L, A) else none) else some (.region sl L, A)
      | none => none
    | [] => none
  | .seq a b, A => bif decide (nx a ≤ 1) then
      (match trCode P n locs a A with
      | some (s, A1) => match trCode P n locs b A1 with
        | some (t, A2) => some (.seq s t, A2)
        | none => none
      | none => none)
    else match A with
      | M :: N :: A0 => (match trCode P n locs a A0 with
        | some (s, A1) => match trCode P n locs b A1 with
          | some (t, A2) => some (.join s t M N, A2)
          | none => none
        | none => none)
      | _ => none
  | .cond c a b, A => match trCode P n locs a A with
    | some (s, A1) => match trCode P n locs b A1 with
      | some (t, A2) => some (.cond c s t, A2)
      | none => none
    | none => none
  | .block id a, A => match trCode P n locs a A with
    | some (s, A1) => some (.block id s, A1)
    | none => none
  | .loop a, A => match A with
    | M :: N :: A0 => (match trCode P n locs a A0 with
      | some (s, A1) => some (.loop s M N, A1)
      | none => none)
    | _ => none
  | .exit id, A => some (.exit id, A)
  | .ret, A => some (.ret, A)
  | _, _ => none
def resSlots : List ResultVar → Option (List Nat)
  | [] => some []
  | .tmp t :: r => match resSlots r with | some l => some (t :: l) | none => none
  | _ => none
structure FnS where
  n : Nat
  res : List Nat
  body : Stmt
def trFn (P : Program) (f : FuncId) (locs : List Nat) (A : List (List Nat)) : Option FnS := match P.funcs[f]? with
  | some fn => match fn.body, resSlots fn.results.toList with
    | some c, some res => bif fn.name == "runtime.NumGoroutine" then none else match trCode P fn.ntmps locs c A with
      | some (s, _) => some ⟨fn.ntmps, res, s⟩
      | none => none
    | _, _ => none
  | none => none
def args0 : Nat → List Value → Fr
  | _, [] => []
  | i, x :: r => (i, .v true x) :: args0 (i + 1) r
def slotVals (φ : Fr) : List Nat → List Value
  | [] => []
  | t :: r => (look φ t).val.2 :: slotVals φ r
def slotsOn (φ : Fr) : List Nat → Prop
  | [] => True
  | t :: r => (look φ t).val.1 = true ∧ slotsOn φ r
def resV : List Value → Value
  | [x] => x
  | l => .tuple l.toArray
def ResultP (res : List Nat) (R : Value → Ctx → Prop) : Fr → Ctx → Prop := fun φ Γ => slotsOn φ res ∧ Up Γ (R (resV (slotVals φ res)))
def PostR (res : List Nat) (R : Value → Ctx → Prop) : Post := ⟨ResultP res R, ResultP res R, fun _ _ _ => False⟩

end Go.Proofs.Ytniobbepliknmaa.V
