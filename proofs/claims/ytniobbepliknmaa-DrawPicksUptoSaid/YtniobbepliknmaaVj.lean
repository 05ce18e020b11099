/- What is used of the symbolic walk: contracts met at calls, data that read as lists and structs; no condition. -/
import Derived.Test.YtniobbepliknmaaVi
namespace Go.Proofs.Ytniobbepliknmaa.V
open Go
set_option linter.unusedVariables false
set_option linter.unusedSimpArgs false

theorem Ent.refl (Γ : Ctx) : Ent Γ Γ := ⟨fun h hh k o hk => ⟨h, hh, hk⟩, id⟩
theorem Up.here {Γ : Ctx} {Φ : Ctx → Prop} (h : Φ Γ) : Up Γ Φ := ⟨Γ, Ent.refl Γ, h⟩
theorem Up.to {Γ : Ctx} {Φ : Ctx → Prop} (Γ' : Ctx) (he : Ent Γ Γ') (h : Φ Γ') : Up Γ Φ := ⟨Γ', he, h⟩
theorem Ent.sub {Γ Γ' : Ctx} (h : Γ'.Sublist Γ) : Ent Γ Γ' := ⟨fun g hg k o hk => ⟨g, h.subset hg, hk⟩, fun ha => ha.sublist h⟩
theorem Ent.nil (Γ : Ctx) : Ent Γ [] := Ent.sub (List.nil_sublist Γ)
theorem Ent.trans {Γ Γ' Γ'' : Ctx} (h : Ent Γ Γ') (h' : Ent Γ' Γ'') : Ent Γ Γ'' :=
  ⟨fun g hg k o hk => let ⟨g', hg', hk'⟩ := h'.cov g hg k o hk; h.cov g' hg' k o hk', fun ha => h'.apart (h.apart ha)⟩
theorem Ent.perm {Γ Γ' : Ctx} (h : Γ.Perm Γ') : Ent Γ Γ' := ⟨fun g hg k o hk => ⟨g, h.mem_iff.2 hg, hk⟩, perm_apart h⟩
theorem uni_some {h g : PH} {k : Nat} {o : Obj} (hk : uni h g k = some o) : h k = some o ∨ g k = some o := by
  unfold uni at hk
  split at hk
  · rename_i p hp; left; rw [hp]; exact hk
  · exact .inr hk
theorem uni_disj {h g x : PH} (h1 : Disj h x) (h2 : Disj g x) : Disj (uni h g) x := by
  intro k
  unfold uni
  rcases h1 k with q | q
  · rcases h2 k with q' | q'
    · left; rw [q]; exact q'
    · exact .inr q'
  · exact .inr q
/-- two heaps are one -/
theorem Ent.uni (h g : PH) (Γ : Ctx) : Ent (h :: g :: Γ) (V.uni h g :: Γ) := by
  refine ⟨fun x hx k o hk => ?_, fun ha => ?_⟩
  · rcases List.mem_cons.1 hx with rfl | hx
    · rcases uni_some hk with q | q
      · exact ⟨h, by simp, q⟩
      · exact ⟨g, by simp, q⟩
    · exact ⟨x, by simp [hx], hk⟩
  · obtain ⟨h1, h2⟩ := List.pairwise_cons.1 ha
    obtain ⟨h3, h4⟩ := List.pairwise_cons.1 h2
    exact List.pairwise_cons.2 ⟨fun x hx => uni_disj (h1 x (by simp [hx])) (h3 x hx), h4⟩
theorem Ent.cons {Γ Γ' : Ctx} (h : PH) (he : Ent Γ Γ') : Ent (h :: Γ) (h :: Γ') := by
  refine ⟨fun x hx k o hk => ?_, fun ha => ?_⟩
  · rcases List.mem_cons.1 hx with rfl | hx
    · exact ⟨x, by simp, hk⟩
    · obtain ⟨g, hg, hgk⟩ := he.cov x hx k o hk; exact ⟨g, by simp [hg], hgk⟩
  · obtain ⟨h1, h2⟩ := List.pairwise_cons.1 ha
    refine List.pairwise_cons.2 ⟨fun x hx k => ?_, he.apart h2⟩
    cases hxk : x k with
    | none => exact .inr rfl
    | some o =>
      obtain ⟨g, hg, hgk⟩ := he.cov x hx k o hxk
      rcases h1 g hg k with q | q
      · exact .inl q
      · rw [hgk] at q; cases q

/-! a call, by its contract -/
theorem CallVC.pure {P : Program} {Γr Γr1 Γ : Ctx} {f : FuncId} {args : List Value} {R : Value → Ctx → Prop} {k : Value → Ctx → Prop} (h : Ret P f args Γr1 [] R)
    (hs : Γr1.Sublist (Γ ++ Γr)) (hk : ∀ v Γ', R v Γ' → k v (Γ' ++ Γ)) : CallVC P Γr f args Γ k :=
  ⟨Γr1, [], Γ, R, h, List.Perm.refl _, hs, hk⟩
/-- a callee that changes the heap at the head -/
theorem CallVC.head {P : Program} {Γr Γr1 Γ : Ctx} {g : PH} {f : FuncId} {args : List Value} {R : Value → Ctx → Prop} {k : Value → Ctx → Prop} (h : Ret P f args Γr1 [g] R)
    (hs : Γr1.Sublist (Γ ++ Γr)) (hk : ∀ v Γ', R v Γ' → k v (Γ' ++ Γ)) : CallVC P Γr f args (g :: Γ) k :=
  ⟨Γr1, [g], Γ, R, h, List.Perm.refl _, hs, hk⟩
theorem CallVC.perm {P : Program} {Γr Γr1 Γm Γf Γ : Ctx} {f : FuncId} {args : List Value} {R : Value → Ctx → Prop} {k : Value → Ctx → Prop} (h : Ret P f args Γr1 Γm R) (hp : Γ.Perm (Γm ++ Γf))
    (hs : Γr1.Sublist (Γf ++ Γr)) (hk : ∀ v Γ', R v Γ' → k v (Γ' ++ Γf)) : CallVC P Γr f args Γ k :=
  ⟨Γr1, Γm, Γf, R, h, hp, hs, hk⟩
/-- a callee that only reads -/
theorem CallVC.read {P : Program} {Γr Γ : Ctx} {f : FuncId} {args : List Value} {R : Value → Ctx → Prop} {k : Value → Ctx → Prop} (h : Ret P f args (Γ ++ Γr) [] R)
    (hk : ∀ v Γ', R v Γ' → k v (Γ' ++ Γ)) : CallVC P Γr f args Γ k :=
  ⟨Γ ++ Γr, [], Γ, R, h, List.Perm.refl _, List.Sublist.refl _, hk⟩
theorem Ret.mono {P : Program} {f : FuncId} {args : List Value} {Γr Γm : Ctx} {R R' : Value → Ctx → Prop} (h : Ret P f args Γr Γm R) (hr : ∀ v Γ, R v Γ → R' v Γ) : Ret P f args Γr Γm R' :=
  ⟨h.fn, fun w hs => (h.calls w hs).mono fun e w' ⟨v, Γ', he, hR, hd⟩ => ⟨v, Γ', he, hr _ _ hR, hd⟩⟩

section
variable {P : Program} {Γr : Ctx} {d : Option Nat} {r : List SOper} {φ : Fr} {Γ : Ctx} {K : Fr → Ctx → Prop}
/-- xs[i] -/
theorem s_idx {sz n cap b o : Nat} {A : Option Addr} {k : IntKind} {j : Int} (hA : A = some ⟨b, o, none⟩) (h0 : 0 ≤ j) (h1 : j < n)
    (hk : vcOps P Γr r (put φ d (.v true (.pointer (some ⟨b, o + j.toNat * sz, none⟩)))) Γ K) : idxC P Γr true d r φ Γ K sz (true, .slice A n cap) (true, .int k j) :=
  ⟨b, o, fun _ => ⟨rfl, rfl, hA, h0, h1⟩, hk⟩
theorem s_load {agg : Bool} {b o : Nat} {vs : List Value} (hc : Cells (Γ ++ Γr) b o vs) (hk : vcOps P Γr r (put φ d (.v true (mkv agg vs))) Γ K) (ha : agg = false → vs.length = 1 := by intro; rfl) :
    loadP P Γr true d r φ Γ K agg vs.length b o true :=
  ⟨ha, vs, rfl, fun _ => ⟨rfl, hc⟩, hk⟩
theorem s_join {a b : Stmt} {M N : List Nat} {Q : Post} (J : List Sl → Ctx → Prop) (h1 : vc P Γr a φ Γ (Q.seq (JoinK M N (looks φ N) J)))
    (h2 : ∀ vs Γ', J vs Γ' → vc P Γr b (zipS M vs ++ proj φ N) Γ' Q) : joinC P Γr a b M N φ Γ Q := ⟨J, h1, h2⟩
/-- what follows is gone through on each way -/
theorem s_split {a b : Stmt} {M N : List Nat} {Q : Post} (h1 : vc P Γr a φ Γ (Q.seq (JoinK M N (looks φ N) (fun vs Γ' => vc P Γr b (zipS M vs ++ proj φ N) Γ' Q)))) : joinC P Γr a b M N φ Γ Q :=
  ⟨fun vs Γ' => vc P Γr b (zipS M vs ++ proj φ N) Γ' Q, h1, fun _ _ h => h⟩
theorem s_loop {a : Stmt} {M N : List Nat} {Q : Post} (I : Nat → List Sl → Ctx → Prop) (n : Nat) (h0 : Up Γ (I n (looks φ M)))
    (h1 : ∀ n vs Γ', I n vs Γ' → vc P Γr a (zipS M vs ++ proj φ N) Γ' (Q.seq (RoundK M N (looks φ N) I n))) : loopC P Γr a M N φ Γ Q := ⟨I, ⟨n, h0⟩, h1⟩
theorem s_slice {sz n cap : Nat} {A : Option Addr} {lo hi : Option Operand} (l h : Nat)
    (hlo : bnd φ lo l 0) (hhi : bnd φ hi h n)
    (h1 : l ≤ h) (h2 : h ≤ cap) (hk : vcOps P Γr r (put φ d (.v true (.slice (if cap = l then A else A.map (·.add (l * sz))) (h - l) (cap - l)))) Γ K) : slcC P Γr true d r φ Γ K sz lo hi (true, .slice A n cap) :=
  ⟨l, h, fun _ => ⟨rfl, hlo, hhi, h1, h2⟩, hk⟩
end

/-! ### what reads as data -/
class Rep (α : Type) where
  sz : Nat
  ok : PH → α → List Value → Prop
  len : ∀ {h x cs}, ok h x cs → cs.length = sz
  one : ∀ {h x cs}, ok h x cs → one' cs
  mono : ∀ {h h' x cs}, ok h x cs → (∀ k o, h k = some o → h' k = some o) → ok h' x cs

/-- a slice's place, its capacity and what it holds -/
structure SlOk {α : Type} [Rep α] (h : PH) (A : Option Addr) (c : Nat) (xs : List α) : Prop where
  cap : xs.length ≤ c
  max : c ≤ maxLen
  short : xs.length ≤ 140737488355328
  at' : xs = [] ∨ ∃ b o cells T fr, A = some ⟨b, o, none⟩ ∧ h b = some (.cells cells T fr) ∧
    ∀ i x, xs[i]? = some x → ∃ cs, Rep.ok h x cs ∧ ∀ j, j < Rep.sz α → cells[o + i * Rep.sz α + j]? = cs[j]?

theorem SlOk.mono {α : Type} [Rep α] {h h' : PH} {A : Option Addr} {c : Nat} {xs : List α} (q : SlOk h A c xs) (hh : ∀ k o, h k = some o → h' k = some o) : SlOk h' A c xs := by
  refine ⟨q.cap, q.max, q.short, ?_⟩
  rcases q.at' with q | ⟨b, o, cells, T, fr, hA, hb, hx⟩
  · exact .inl q
  · exact .inr ⟨b, o, cells, T, fr, hA, hh _ _ hb, fun i x hi => let ⟨cs, h1, h2⟩ := hx i x hi; ⟨cs, Rep.mono h1 hh, h2⟩⟩

theorem SlOk.elem {α : Type} [Rep α] {h : PH} {A : Option Addr} {c : Nat} {xs : List α} (q : SlOk h A c xs) {i : Nat} {x : α} (hi : xs[i]? = some x) :
    ∃ b o, A = some ⟨b, o, none⟩ ∧ ∃ cs, Rep.ok h x cs ∧ ∀ Γ : Ctx, h ∈ Γ → Cells Γ b (o + i * Rep.sz α) cs := by
  rcases q.at' with q | ⟨b, o, cells, T, fr, hA, hb, hx⟩
  · subst q; simp at hi
  · obtain ⟨cs, h1, h2⟩ := hx i x hi
    exact ⟨b, o, hA, cs, h1, fun Γ hΓ => ⟨h, hΓ, cells, T, fr, hb, fun j hj => h2 j (by rw [← Rep.len h1]; exact hj)⟩⟩

/-- xs[l:m] -/
theorem SlOk.slice {α : Type} [Rep α] {h : PH} {A : Option Addr} {c : Nat} {xs : List α} (q : SlOk h A c xs) {l m : Nat} (h1 : l ≤ m) (h2 : m ≤ xs.length) :
    SlOk h (if c = l then A else A.map (·.add (l * Rep.sz α))) (c - l) ((xs.take m).drop l) := by
  have hc := q.cap
  have hlen : ((xs.take m).drop l).length = m - l := by simp; omega
  refine ⟨by omega, by have := q.max; omega, by have := q.short; omega, ?_⟩
  by_cases e : m = l
  · left
    exact List.eq_nil_of_length_eq_zero (by omega)
  · rcases q.at' with q' | ⟨b, o, cells, T, fr, rfl, hb, hx⟩
    · subst q'; simp at h2; omega
    · right
      refine ⟨b, o + l * Rep.sz α, cells, T, fr, ?_, hb, ?_⟩
      · rw [if_neg (by omega)]
        simp [add_mk]
      · intro i x hi
        have hi' : xs[l + i]? = some x := by
          rw [List.getElem?_drop, List.getElem?_take] at hi
          split at hi
          · exact hi
          · cases hi
        obtain ⟨cs, h3, h4⟩ := hx _ _ hi'
        refine ⟨cs, h3, fun j hj => ?_⟩
        rw [← h4 j hj]
        congr 1
        rw [Nat.add_mul]
        omega

instance : Rep Int where
  sz := 1
  ok _ x cs := cs = [.int .i64 x]
  len h := by subst h; rfl
  one h := by subst h; simp [one', Value.oneCell']
  mono h _ := h
instance : Rep Bool where
  sz := 1
  ok _ x cs := cs = [.bool x]
  len h := by subst h; rfl
  one h := by subst h; simp [one', Value.oneCell']
  mono h _ := h
instance : Rep ByteArray where
  sz := 1
  ok _ x cs := cs = [.string x]
  len h := by subst h; rfl
  one h := by subst h; simp [one', Value.oneCell']
  mono h _ := h
instance {α : Type} [Rep α] : Rep (List α) where
  sz := 1
  ok h xs cs := ∃ A c, cs = [.slice A xs.length c] ∧ SlOk h A c xs
  len h := by obtain ⟨A, c, rfl, _⟩ := h; rfl
  one h := by obtain ⟨A, c, rfl, _⟩ := h; simp [one', Value.oneCell']
  mono h hh := by obtain ⟨A, c, rfl, q⟩ := h; exact ⟨A, c, rfl, q.mono hh⟩

theorem ok_int {h : PH} {x : Int} {cs : List Value} (q : Rep.ok h x cs) : cs = [.int .i64 x] := q
theorem ok_bool {h : PH} {x : Bool} {cs : List Value} (q : Rep.ok h x cs) : cs = [.bool x] := q
theorem ok_list {α : Type} [Rep α] {h : PH} {xs : List α} {cs : List Value} (q : Rep.ok h xs cs) : ∃ A c, cs = [.slice A xs.length c] ∧ SlOk h A c xs := q

/-! numbers -/
theorem wrap_id {x : Int} (h0 : -9223372036854775808 ≤ x) (h1 : x ≤ 9223372036854775807) : IntKind.i64.wrap x = x := by
  rw [IntKind.wrap_i64]; omega
end Go.Proofs.Ytniobbepliknmaa.V
