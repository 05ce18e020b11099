/- Data of this program: symbols, rules, grammars, automata; literals that are made; no condition. -/
import Derived.Test.YtniobbepliknmaaVj
namespace Go.Proofs.Ytniobbepliknmaa.V
open Go
set_option linter.unusedVariables false
set_option linter.unusedSimpArgs false

structure Sy where
  t : Bool
  n : Int
  deriving DecidableEq
structure Ru where
  l : Int
  r : List Sy
  deriving DecidableEq
structure Gr where
  ts : Int
  ns : Int
  st : Int
  rs : List Ru
  deriving DecidableEq
structure Da where
  st : Int
  ac : List Int
  nx : List (List Int)
  deriving DecidableEq
instance : Rep Sy where
  sz := 2
  ok _ x cs := cs = [.bool x.t, .int .i64 x.n]
  len h := by subst h; rfl
  one h := by subst h; simp [one', Value.oneCell']
  mono h _ := h
instance : Rep Ru where
  sz := 2
  ok L x cs := ∃ A c, cs = [.int .i64 x.l, .slice A x.r.length c] ∧ SlOk L A c x.r
  len h := by obtain ⟨A, c, rfl, _⟩ := h; rfl
  one h := by obtain ⟨A, c, rfl, _⟩ := h; simp [one', Value.oneCell']
  mono h hh := by obtain ⟨A, c, rfl, q⟩ := h; exact ⟨A, c, rfl, q.mono hh⟩
instance : Rep Gr where
  sz := 4
  ok L x cs := ∃ A c, cs = [.int .i64 x.ts, .int .i64 x.ns, .int .i64 x.st, .slice A x.rs.length c] ∧ SlOk L A c x.rs
  len h := by obtain ⟨A, c, rfl, _⟩ := h; rfl
  one h := by obtain ⟨A, c, rfl, _⟩ := h; simp [one', Value.oneCell']
  mono h hh := by obtain ⟨A, c, rfl, q⟩ := h; exact ⟨A, c, rfl, q.mono hh⟩
instance : Rep Da where
  sz := 3
  ok L x cs := ∃ A c B d, cs = [.int .i64 x.st, .slice A x.ac.length c, .slice B x.nx.length d] ∧ SlOk L A c x.ac ∧ SlOk L B d x.nx
  len h := by obtain ⟨A, c, B, d, rfl, _⟩ := h; rfl
  one h := by obtain ⟨A, c, B, d, rfl, _⟩ := h; simp [one', Value.oneCell']
  mono h hh := by obtain ⟨A, c, B, d, rfl, q, q'⟩ := h; exact ⟨A, c, B, d, rfl, q.mono hh, q'.mono hh⟩
theorem ok_sy {L : Mem} {x : Sy} {cs : List Value} (q : Rep.ok L x cs) : cs = [.bool x.t, .int .i64 x.n] := q
theorem ok_ru {L : Mem} {x : Ru} {cs : List Value} (q : Rep.ok L x cs) : ∃ A c, cs = [.int .i64 x.l, .slice A x.r.length c] ∧ SlOk L A c x.r := q
theorem ok_gr {L : Mem} {x : Gr} {cs : List Value} (q : Rep.ok L x cs) : ∃ A c, cs = [.int .i64 x.ts, .int .i64 x.ns, .int .i64 x.st, .slice A x.rs.length c] ∧ SlOk L A c x.rs := q
theorem ok_da {L : Mem} {x : Da} {cs : List Value} (q : Rep.ok L x cs) : ∃ A c B d, cs = [.int .i64 x.st, .slice A x.ac.length c, .slice B x.nx.length d] ∧ SlOk L A c x.ac ∧ SlOk L B d x.nx := q

theorem SlOk.sy {L : Mem} {A : Option Addr} {c : Nat} {xs : List Sy} (q : SlOk L A c xs) {i : Nat} (hi : i < xs.length) :
    ∃ b o, A = some ⟨b, o, none⟩ ∧ ∀ Γ : Ctx, Mem.le L (lk Γ) → Cells Γ b (o + i * 2) [.bool xs[i].t, .int .i64 xs[i].n] := by
  obtain ⟨b, o, hA, cs, h1, h2⟩ := q.get hi
  obtain rfl := ok_sy h1
  exact ⟨b, o, hA, h2⟩
theorem SlOk.ru {L : Mem} {A : Option Addr} {c : Nat} {xs : List Ru} (q : SlOk L A c xs) {i : Nat} (hi : i < xs.length) :
    ∃ b o, A = some ⟨b, o, none⟩ ∧ ∃ A' c', SlOk L A' c' xs[i].r ∧ ∀ Γ : Ctx, Mem.le L (lk Γ) → Cells Γ b (o + i * 2) [.int .i64 xs[i].l, .slice A' xs[i].r.length c'] := by
  obtain ⟨b, o, hA, cs, h1, h2⟩ := q.get hi
  obtain ⟨A', c', rfl, h3⟩ := ok_ru h1
  exact ⟨b, o, hA, A', c', h3, h2⟩

/-! literals -/
theorem Arr.one {α : Type} [Sc α] (b : Nat) (T : TypeId) (xs : List α) : Arr (V.one b (.cells (xs.map Sc.enc).toArray T)) b T xs := one_self _ _
theorem lit_slok {α : Type} [Sc α] {b : Nat} {T : TypeId} {cs : List Value} {Γ : Ctx} (xs : List α) (h : xs.map Sc.enc = cs) (hs : xs.length ≤ 1000) : SlOk (lk (V.one b (.cells cs.toArray T) :: Γ)) (some ⟨b, 0, none⟩) xs.length xs := by
  subst h
  exact (Arr.one b T xs).slok (lk_sub (by simp)) (Nat.le_refl _) (by unfold maxLen; omega) (by omega)
theorem lit_rep1 {α : Type} [Rep α] {L : Mem} {b : Nat} {T : TypeId} {cs : List Value} (x : α) (hb : L b (.cells cs.toArray T (0, 0))) (hx : Rep.ok L x cs) : SlOk L (some ⟨b, 0, none⟩) 1 [x] := by
  refine ⟨by simp, by simp [maxLen], by simp, .inr ⟨b, 0, _, T, _, rfl, hb, fun i y hi => ?_⟩⟩
  cases i with
  | zero => simp at hi; subst hi; exact ⟨cs, hx, fun j hj => by simp⟩
  | succ i => simp at hi
theorem lit_rep2 {α : Type} [Rep α] {L : Mem} {b : Nat} {T : TypeId} {cs ds es : List Value} (x y : α) (hb : L b (.cells es.toArray T (0, 0))) (he : es = cs ++ ds) (hx : Rep.ok L x cs) (hy : Rep.ok L y ds) : SlOk L (some ⟨b, 0, none⟩) 2 [x, y] := by
  subst he
  have h1 := Rep.len hx
  have h2 := Rep.len hy
  refine ⟨by simp, by simp [maxLen], by simp, .inr ⟨b, 0, _, T, _, rfl, hb, fun i z hi => ?_⟩⟩
  match i, hi with
  | 0, hi => simp at hi; subst hi; exact ⟨cs, hx, fun j hj => by simp; rw [List.getElem?_append_left (by omega)]⟩
  | 1, hi => simp at hi; subst hi; exact ⟨ds, hy, fun j hj => by simp; rw [List.getElem?_append_right (by omega)]; congr 1; omega⟩
  | i + 2, hi => simp at hi
theorem lk_head {b : Nat} {o : Obj} {Γ : Ctx} : lk (V.one b o :: Γ) b o := ⟨_, List.mem_cons_self .., one_self _ _⟩
theorem lk_tail {b : Nat} {o : Obj} {g : PH} {Γ : Ctx} (h : lk Γ b o) : lk (g :: Γ) b o := by obtain ⟨x, hx, q⟩ := h; exact ⟨x, List.mem_cons_of_mem _ hx, q⟩

def numsI (n : Nat) : List Int := (List.range n).map fun (i : Nat) => (i : Int)
theorem numsI_succ (n : Nat) : numsI (n + 1) = numsI n ++ [(n : Int)] := by simp [numsI, List.range_succ]
theorem numsI_len (n : Nat) : (numsI n).length = n := by simp [numsI]
end Go.Proofs.Ytniobbepliknmaa.V
