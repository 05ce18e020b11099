/- What is used of the symbolic walk: contracts met at calls, data that read as lists and structs; no condition. -/
import Derived.Test.YtniobbepliknmaaVi
namespace Go.Proofs.Ytniobbepliknmaa.V
open Go
set_option linter.unusedVariables false
set_option linter.unusedSimpArgs false

theorem Ent.refl (Γ : Ctx) : Ent Γ Γ := ⟨fun h hh k o hk => ⟨h, hh, hk⟩, id⟩
theorem Up.here {Γ : Ctx} {Φ : Ctx → Prop} (h : Φ Γ) : Up Γ Φ := fun _ => ⟨Γ, Ent.refl Γ, h⟩
theorem Up.to {Γ : Ctx} {Φ : Ctx → Prop} (Γ' : Ctx) (he : Ent Γ Γ') (h : Φ Γ') : Up Γ Φ := fun _ => ⟨Γ', he, h⟩
theorem Ent.sub {Γ Γ' : Ctx} (h : Γ'.Sublist Γ) : Ent Γ Γ' := ⟨fun g hg k o hk => ⟨g, h.subset hg, hk⟩, fun ha => ha.sublist h⟩
theorem Ent.nil (Γ : Ctx) : Ent Γ [] := Ent.sub (List.nil_sublist Γ)
theorem Ent.trans {Γ Γ' Γ'' : Ctx} (h : Ent Γ Γ') (h' : Ent Γ' Γ'') : Ent Γ Γ'' :=
  ⟨fun g hg k o hk => let ⟨g', hg', hk'⟩ := h'.cov g hg k o hk; h.cov g' hg' k o hk', fun ha => h'.apart (h.apart ha)⟩
theorem Ent.perm {Γ Γ' : Ctx} (h : Γ.Perm Γ') : Ent Γ Γ' := ⟨fun g hg k o hk => ⟨g, h.mem_iff.2 hg, hk⟩, perm_apart h⟩
theorem uni_some {h g : PH} {k : Nat} {o : Obj} (hk : uni h g k = some o) : h k = some o ∨ g k = some o := by
  unfold uni at hk
  split at hk
  · rename_i p hp; left; rw [hp]; exact hk
  · exact .inr hk
theorem uni_disj {h g x : PH} (h1 : Disj h x) (h2 : Disj g x) : Disj (uni h g) x := by
  intro k
  unfold uni
  rcases h1 k with q | q
  · rcases h2 k with q' | q'
    · left; rw [q]; exact q'
    · exact .inr q'
  · exact .inr q
/-- two heaps are one -/
theorem Ent.uni (h g : PH) (Γ : Ctx) : Ent (h :: g :: Γ) (V.uni h g :: Γ) := by
  refine ⟨fun x hx k o hk => ?_, fun ha => ?_⟩
  · rcases List.mem_cons.1 hx with rfl | hx
    · rcases uni_some hk with q | q
      · exact ⟨h, by simp, q⟩
      · exact ⟨g, by simp, q⟩
    · exact ⟨x, by simp [hx], hk⟩
  · obtain ⟨h1, h2⟩ := List.pairwise_cons.1 ha
    obtain ⟨h3, h4⟩ := List.pairwise_cons.1 h2
    exact List.pairwise_cons.2 ⟨fun x hx => uni_disj (h1 x (by simp [hx])) (h3 x hx), h4⟩
theorem Ent.cons {Γ Γ' : Ctx} (h : PH) (he : Ent Γ Γ') : Ent (h :: Γ) (h :: Γ') := by
  refine ⟨fun x hx k o hk => ?_, fun ha => ?_⟩
  · rcases List.mem_cons.1 hx with rfl | hx
    · exact ⟨x, by simp, hk⟩
    · obtain ⟨g, hg, hgk⟩ := he.cov x hx k o hk; exact ⟨g, by simp [hg], hgk⟩
  · obtain ⟨h1, h2⟩ := List.pairwise_cons.1 ha
    refine List.pairwise_cons.2 ⟨fun x hx k => ?_, he.apart h2⟩
    cases hxk : x k with
    | none => exact .inr rfl
    | some o =>
      obtain ⟨g, hg, hgk⟩ := he.cov x hx k o hxk
      rcases h1 g hg k with q | q
      · exact .inl q
      · rw [hgk] at q; cases q

/-! what memory holds -/
abbrev Mem := Nat → Obj → Prop
def lk (Γ : Ctx) : Mem := fun b o => ∃ h ∈ Γ, h b = some o
def Mem.le (L L' : Mem) : Prop := ∀ b o, L b o → L' b o
theorem Mem.le.refl (L : Mem) : Mem.le L L := fun _ _ h => h
theorem Mem.le.trans {L L' L'' : Mem} (h : Mem.le L L') (h' : Mem.le L' L'') : Mem.le L L'' := fun b o q => h' b o (h b o q)
theorem lk_sub {Γ Γ' : Ctx} (h : ∀ g ∈ Γ, g ∈ Γ') : Mem.le (lk Γ) (lk Γ') := fun b o ⟨g, hg, q⟩ => ⟨g, h g hg, q⟩
theorem lk_one {g : PH} {b : Nat} {o : Obj} : lk [g] b o ↔ g b = some o := by simp [lk]
theorem lk_le_one {Γ : Ctx} {g : PH} (h : ∀ b o, lk Γ b o → g b = some o) : Mem.le (lk Γ) (lk [g]) := fun b o q => lk_one.2 (h b o q)
def unis : Ctx → PH
  | [] => emp
  | [g] => g
  | g :: r => uni g (unis r)
theorem unis_some : ∀ {Γ : Ctx} {k : Nat} {o : Obj}, unis Γ k = some o → ∃ g ∈ Γ, g k = some o
  | [], k, o, h => by simp [unis, emp] at h
  | [g], k, o, h => ⟨g, by simp, h⟩
  | g :: g' :: r, k, o, h => by
    rcases uni_some (h := g) (g := unis (g' :: r)) h with q | q
    · exact ⟨g, by simp, q⟩
    · obtain ⟨x, hx, q'⟩ := unis_some q
      exact ⟨x, List.mem_cons_of_mem _ hx, q'⟩
theorem lk_unis : ∀ {Γ : Ctx}, Γ.Pairwise Disj → Mem.le (lk Γ) (lk [unis Γ])
  | [], _, b, o, h => by obtain ⟨g, hg, _⟩ := h; cases hg
  | [g], _, b, o, h => h
  | g :: g' :: r, ha, b, o, h => by
    obtain ⟨h1, h2⟩ := List.pairwise_cons.1 ha
    obtain ⟨x, hx, q⟩ := h
    refine lk_one.2 ?_
    show uni g (unis (g' :: r)) b = some o
    unfold uni
    rcases List.mem_cons.1 hx with rfl | hx
    · rw [q]
    · have := h1 x hx b
      rcases this with q' | q'
      · rw [q']
        exact lk_one.1 (lk_unis h2 b o ⟨x, hx, q⟩)
      · rw [q] at q'; cases q'
def sel (Γ : Ctx) (is : List Nat) : Ctx := is.filterMap (fun i => Γ[i]?)
theorem sel_nil (Γ : Ctx) : sel Γ [] = [] := rfl
theorem Ent.sel (Γ : Ctx) (is : List Nat) (hn : is.Nodup) : Ent Γ (sel Γ is) := by
  refine ⟨fun g hg k o hk => ?_, fun ha => ?_⟩
  · obtain ⟨i, hi, q⟩ := List.mem_filterMap.1 hg
    exact ⟨g, List.mem_of_getElem? q, hk⟩
  · induction is with
    | nil => exact List.Pairwise.nil
    | cons i is ih =>
      obtain ⟨h1, h2⟩ := List.nodup_cons.1 hn
      have ih := ih h2
      unfold V.sel
      cases hi : Γ[i]? with
      | none => rw [List.filterMap_cons_none hi]; exact ih
      | some g =>
        rw [List.filterMap_cons_some hi]
        refine List.pairwise_cons.2 ⟨fun x hx => ?_, ih⟩
        obtain ⟨j, hj, q⟩ := List.mem_filterMap.1 hx
        have hij : i ≠ j := fun e => by subst e; exact h1 hj
        obtain ⟨li, ei⟩ := List.getElem?_eq_some_iff.1 hi
        obtain ⟨lj, ej⟩ := List.getElem?_eq_some_iff.1 q
        rw [List.pairwise_iff_getElem] at ha
        rcases Nat.lt_or_gt_of_ne hij with r | r
        · have := ha i j li lj r
          rw [ei, ej] at this
          exact this
        · have := ha j i lj li r
          rw [ei, ej] at this
          exact this.symm
theorem disj_unis {x : PH} : ∀ {Γ : Ctx}, (∀ g ∈ Γ, Disj x g) → Disj x (unis Γ)
  | [], _ => fun k => .inr rfl
  | [g], h => h g (by simp)
  | g :: g' :: r, h => by
    have h1 := h g (by simp)
    have h2 := disj_unis (Γ := g' :: r) (fun y hy => h y (List.mem_cons_of_mem _ hy))
    exact (uni_disj h1.symm h2.symm).symm
theorem unis_pairwise : ∀ {Γs : List Ctx}, Γs.flatten.Pairwise Disj → (Γs.map unis).Pairwise Disj
  | [], _ => List.Pairwise.nil
  | Γ :: Γs, h => by
    simp only [List.flatten_cons] at h
    obtain ⟨h1, h2, h3⟩ := List.pairwise_append.1 h
    refine List.pairwise_cons.2 ⟨fun x hx => ?_, unis_pairwise h2⟩
    obtain ⟨Δ, hΔ, rfl⟩ := List.mem_map.1 hx
    exact disj_unis fun y hy => (disj_unis fun g hg => (h3 g hg y (List.mem_flatten.2 ⟨Δ, hΔ, hy⟩)).symm).symm
/-- heaps are put together, group by group -/
theorem Up.sel {Γ : Ctx} {Φ : Ctx → Prop} (iss : List (List Nat)) (hn : iss.flatten.Nodup) (h : Γ.Pairwise Disj → (∀ is ∈ iss, Mem.le (lk (V.sel Γ is)) (lk [unis (V.sel Γ is)])) → Φ (iss.map fun is => unis (V.sel Γ is))) : Up Γ Φ := by
  intro ha
  have hflat : (iss.map (V.sel Γ)).flatten = V.sel Γ iss.flatten := by
    clear hn h
    induction iss with
    | nil => rfl
    | cons i is ih => simp only [List.map_cons, List.flatten_cons, ih, V.sel, List.filterMap_append]
  have he := Ent.sel Γ iss.flatten hn
  have hp := he.apart ha
  rw [← hflat] at hp
  refine ⟨_, ⟨fun g hg k o hk => ?_, fun _ => ?_⟩, h ha fun is his => lk_unis ?_⟩
  · obtain ⟨is, his, rfl⟩ := List.mem_map.1 hg
    obtain ⟨x, hx, q⟩ := unis_some hk
    obtain ⟨i, hi, r⟩ := List.mem_filterMap.1 hx
    exact ⟨x, List.mem_of_getElem? r, q⟩
  · have := unis_pairwise hp
    rwa [List.map_map] at this
  · exact ((Ent.sel Γ is ((List.sublist_flatten_of_mem his).nodup hn)).apart ha)
/-- all in one heap -/
theorem Up.one {Γ : Ctx} {Φ : Ctx → Prop} (h : ∀ g, Mem.le (lk Γ) (lk [g]) → Φ [g]) : Up Γ Φ := fun ha =>
  ⟨[unis Γ], ⟨fun g hg k o hk => by simp at hg; subst hg; exact unis_some hk, fun _ => by simp⟩, h _ (lk_unis ha)⟩
theorem Up.apart {Γ : Ctx} {Φ : Ctx → Prop} (h : Γ.Pairwise Disj → Up Γ Φ) : Up Γ Φ := fun ha => h ha ha
theorem Cells.lk {Γ : Ctx} {b o : Nat} {cells : Array Value} {T : TypeId} {fr : Nat × Nat} {vs : List Value} (h : V.lk Γ b (.cells cells T fr)) (hc : ∀ j, j < vs.length → cells[o + j]? = vs[j]?) : Cells Γ b o vs := by
  obtain ⟨g, hg, q⟩ := h
  exact ⟨g, hg, cells, T, fr, q, hc⟩

/-! a call, by its contract -/
theorem CallVC.pure {P : Program} {Γr Γr1 Γ : Ctx} {f : FuncId} {args : List Value} {R : Value → Ctx → Prop} {k : Value → Ctx → Prop} (h : Ret P f args Γr1 [] R)
    (hs : Γr1.Sublist (Γ ++ Γr)) (hk : ∀ v Γ', R v Γ' → k v (Γ' ++ Γ)) : CallVC P Γr f args Γ k :=
  ⟨Γr1, [], Γ, R, h, List.Perm.refl _, hs, hk⟩
/-- a callee that changes the heap at the head -/
theorem CallVC.head {P : Program} {Γr Γr1 Γ : Ctx} {g : PH} {f : FuncId} {args : List Value} {R : Value → Ctx → Prop} {k : Value → Ctx → Prop} (h : Ret P f args Γr1 [g] R)
    (hs : Γr1.Sublist (Γ ++ Γr)) (hk : ∀ v Γ', R v Γ' → k v (Γ' ++ Γ)) : CallVC P Γr f args (g :: Γ) k :=
  ⟨Γr1, [g], Γ, R, h, List.Perm.refl _, hs, hk⟩
theorem CallVC.perm {P : Program} {Γr Γr1 Γm Γf Γ : Ctx} {f : FuncId} {args : List Value} {R : Value → Ctx → Prop} {k : Value → Ctx → Prop} (h : Ret P f args Γr1 Γm R) (hp : Γ.Perm (Γm ++ Γf))
    (hs : Γr1.Sublist (Γf ++ Γr)) (hk : ∀ v Γ', R v Γ' → k v (Γ' ++ Γf)) : CallVC P Γr f args Γ k :=
  ⟨Γr1, Γm, Γf, R, h, hp, hs, hk⟩
/-- a callee that only reads -/
theorem CallVC.read {P : Program} {Γr Γ : Ctx} {f : FuncId} {args : List Value} {R : Value → Ctx → Prop} {k : Value → Ctx → Prop} (h : Ret P f args (Γ ++ Γr) [] R)
    (hk : ∀ v Γ', R v Γ' → k v (Γ' ++ Γ)) : CallVC P Γr f args Γ k :=
  ⟨Γ ++ Γr, [], Γ, R, h, List.Perm.refl _, List.Sublist.refl _, hk⟩
theorem Ret.mono {P : Program} {f : FuncId} {args : List Value} {Γr Γm : Ctx} {R R' : Value → Ctx → Prop} (h : Ret P f args Γr Γm R) (hr : ∀ v Γ, R v Γ → R' v Γ) : Ret P f args Γr Γm R' :=
  ⟨h.fn, fun w hs => (h.calls w hs).mono fun e w' ⟨v, Γ', he, hR, hd⟩ => ⟨v, Γ', he, hr _ _ hR, hd⟩⟩

section
variable {P : Program} {Γr : Ctx} {d : Option Nat} {r : List SOper} {φ : Fr} {Γ : Ctx} {K : Fr → Ctx → Prop}
/-- xs[i] -/
theorem s_idx {sz n cap b o : Nat} {A : Option Addr} {k : IntKind} {j : Int} (hA : A = some ⟨b, o, none⟩) (h0 : 0 ≤ j) (h1 : j < n)
    (hk : vcOps P Γr r (put φ d (.v true (.pointer (some ⟨b, o + j.toNat * sz, none⟩)))) Γ K) : idxC P Γr true d r φ Γ K sz (true, .slice A n cap) (true, .int k j) :=
  ⟨b, o, fun _ => ⟨rfl, rfl, hA, h0, h1⟩, hk⟩
theorem s_load {agg : Bool} {b o : Nat} {vs : List Value} (hc : Cells (Γ ++ Γr) b o vs) (hk : vcOps P Γr r (put φ d (.v true (mkv agg vs))) Γ K) (ha : agg = false → vs.length = 1 := by intro; rfl) :
    loadP P Γr true d r φ Γ K agg vs.length b o true :=
  ⟨ha, vs, rfl, fun _ => ⟨rfl, hc⟩, hk⟩
/-- a load of a part of what lies there -/
theorem s_ld {agg : Bool} {n b o j : Nat} {cs : List Value} (hc : Cells (Γ ++ Γr) b o cs) (hn : j + n ≤ cs.length) (ha : agg = false → n = 1) (hk : vcOps P Γr r (put φ d (.v true (mkv agg ((cs.drop j).take n)))) Γ K) :
    loadP P Γr true d r φ Γ K agg n b (o + j) true := by
  refine ⟨ha, (cs.drop j).take n, by simp; omega, fun _ => ⟨rfl, ?_⟩, hk⟩
  obtain ⟨h, hh, cells, T, fr, hb, hx⟩ := hc
  refine ⟨h, hh, cells, T, fr, hb, fun i hi => ?_⟩
  simp at hi
  rw [Nat.add_assoc, hx (j + i) (by omega), List.getElem?_take, if_pos (by omega), List.getElem?_drop]
theorem s_ld0 {agg : Bool} {n b o : Nat} {cs : List Value} (hc : Cells (Γ ++ Γr) b o cs) (hn : n ≤ cs.length) (ha : agg = false → n = 1) (hk : vcOps P Γr r (put φ d (.v true (mkv agg (cs.take n)))) Γ K) :
    loadP P Γr true d r φ Γ K agg n b o true := s_ld (j := 0) hc (by omega) ha hk
/-- under a guard -/
theorem s_ldg {e on agg : Bool} {n b o j : Nat} {cs : List Value} (hon : e = true → on = true) (hc : e = true → Cells (Γ ++ Γr) b o cs) (hn : j + n ≤ cs.length) (ha : agg = false → n = 1) (hk : vcOps P Γr r (put φ d (.v e (mkv agg ((cs.drop j).take n)))) Γ K) :
    loadP P Γr e d r φ Γ K agg n b (o + j) on := by
  refine ⟨ha, (cs.drop j).take n, by simp; omega, fun he => ⟨hon he, ?_⟩, hk⟩
  obtain ⟨h, hh, cells, T, fr, hb, hx⟩ := hc he
  refine ⟨h, hh, cells, T, fr, hb, fun i hi => ?_⟩
  simp at hi
  rw [Nat.add_assoc, hx (j + i) (by omega), List.getElem?_take, if_pos (by omega), List.getElem?_drop]
theorem s_ldg0 {e on agg : Bool} {n b o : Nat} {cs : List Value} (hon : e = true → on = true) (hc : e = true → Cells (Γ ++ Γr) b o cs) (hn : n ≤ cs.length) (ha : agg = false → n = 1) (hk : vcOps P Γr r (put φ d (.v e (mkv agg (cs.take n)))) Γ K) :
    loadP P Γr e d r φ Γ K agg n b o on := s_ldg (j := 0) hon hc (by omega) ha hk
theorem s_idxg {e ex ei : Bool} {sz n cap b o : Nat} {A : Option Addr} {k : IntKind} {j : Int} (h : e = true → ex = true ∧ ei = true ∧ A = some ⟨b, o, none⟩ ∧ 0 ≤ j ∧ j < n)
    (hk : vcOps P Γr r (put φ d (.v e (.pointer (some ⟨b, o + j.toNat * sz, none⟩)))) Γ K) : idxC P Γr e d r φ Γ K sz (ex, .slice A n cap) (ei, .int k j) := ⟨b, o, h, hk⟩
theorem s_join {a b : Stmt} {M N : List Nat} {Q : Post} (J : List Sl → Ctx → Prop) (h1 : vc P Γr a φ Γ (Q.seq (JoinK M N (looks φ N) J)))
    (h2 : ∀ vs Γ', J vs Γ' → vc P Γr b (zipS M vs ++ proj φ N) Γ' Q) : joinC P Γr a b M N φ Γ Q := ⟨J, h1, h2⟩
/-- what follows is gone through on each way -/
theorem s_split {a b : Stmt} {M N : List Nat} {Q : Post} (h1 : vc P Γr a φ Γ (Q.seq (JoinK M N (looks φ N) (fun vs Γ' => vc P Γr b (zipS M vs ++ proj φ N) Γ' Q)))) : joinC P Γr a b M N φ Γ Q :=
  ⟨fun vs Γ' => vc P Γr b (zipS M vs ++ proj φ N) Γ' Q, h1, fun _ _ h => h⟩
theorem s_loop {a : Stmt} {M N : List Nat} {Q : Post} (I : Nat → List Sl → Ctx → Prop) (n : Nat) (h0 : Up Γ (I n (looks φ M)))
    (h1 : ∀ n vs Γ', I n vs Γ' → vc P Γr a (zipS M vs ++ proj φ N) Γ' (Q.seq (RoundK M N (looks φ N) I n))) : loopC P Γr a M N φ Γ Q := ⟨I, ⟨n, h0⟩, h1⟩
/-- a drawn region in which some heaps are only read -/
theorem s_drawn {ops : List (Bool × SOper)} {L : List Nat} {Q : Post} (Γm Γf : Ctx) (he : Ent Γ (Γm ++ Γf)) (h : vcD P (Γf ++ Γr) ops φ Γm (FinB L Q.nrm Γf)) : drawnC P Γr ops L φ Γ Q := ⟨Γm, Γf, he, h⟩
theorem s_slice {sz n cap : Nat} {A : Option Addr} {lo hi : Option Operand} (l h : Nat)
    (hlo : bnd φ lo l 0) (hhi : bnd φ hi h n)
    (h1 : l ≤ h) (h2 : h ≤ cap) (hk : vcOps P Γr r (put φ d (.v true (.slice (if cap = l then A else A.map (·.add (l * sz))) (h - l) (cap - l)))) Γ K) : slcC P Γr true d r φ Γ K sz lo hi (true, .slice A n cap) :=
  ⟨l, h, fun _ => ⟨rfl, hlo, hhi, h1, h2⟩, hk⟩
end

section
variable {P : Program} {Γr : Ctx} {d : Option Nat} {r : List SOper} {φ : Fr} {Γ : Ctx} {K : Fr → Ctx → Prop}
/-- one that reads -/
theorem s_q {c : Qk} {on : Prop} {vs : List Value} {x : Value} (ho : on) (hq : QR P c vs (Γ ++ Γr) x) (hk : vcOps P Γr r (put φ d (.v true x)) Γ K) : qC P Γr true d r φ Γ K c on vs := ⟨x, fun _ => ⟨ho, hq⟩, hk⟩
end

/-! ### what reads as data -/
class Rep (α : Type) where
  sz : Nat
  ok : Mem → α → List Value → Prop
  len : ∀ {h x cs}, ok h x cs → cs.length = sz
  one : ∀ {h x cs}, ok h x cs → one' cs
  mono : ∀ {h h' x cs}, ok h x cs → Mem.le h h' → ok h' x cs

/-- a slice's place, its capacity and what it holds -/
structure SlOk {α : Type} [Rep α] (h : Mem) (A : Option Addr) (c : Nat) (xs : List α) : Prop where
  cap : xs.length ≤ c
  max : c ≤ maxLen
  short : xs.length ≤ 140737488355328
  at' : xs = [] ∨ ∃ b o cells T fr, A = some ⟨b, o, none⟩ ∧ h b (.cells cells T fr) ∧
    ∀ i x, xs[i]? = some x → ∃ cs, Rep.ok h x cs ∧ ∀ j, j < Rep.sz α → cells[o + i * Rep.sz α + j]? = cs[j]?

theorem SlOk.mono {α : Type} [Rep α] {h h' : Mem} {A : Option Addr} {c : Nat} {xs : List α} (q : SlOk h A c xs) (hh : Mem.le h h') : SlOk h' A c xs := by
  refine ⟨q.cap, q.max, q.short, ?_⟩
  rcases q.at' with q | ⟨b, o, cells, T, fr, hA, hb, hx⟩
  · exact .inl q
  · exact .inr ⟨b, o, cells, T, fr, hA, hh _ _ hb, fun i x hi => let ⟨cs, h1, h2⟩ := hx i x hi; ⟨cs, Rep.mono h1 hh, h2⟩⟩
theorem SlOk.nil {α : Type} [Rep α] {h : Mem} : SlOk (α := α) h none 0 [] := ⟨by simp, by simp, by simp, .inl rfl⟩

theorem SlOk.elem {α : Type} [Rep α] {h : Mem} {A : Option Addr} {c : Nat} {xs : List α} (q : SlOk h A c xs) {i : Nat} {x : α} (hi : xs[i]? = some x) :
    ∃ b o, A = some ⟨b, o, none⟩ ∧ ∃ cs, Rep.ok h x cs ∧ ∀ Γ : Ctx, Mem.le h (lk Γ) → Cells Γ b (o + i * Rep.sz α) cs := by
  rcases q.at' with q | ⟨b, o, cells, T, fr, hA, hb, hx⟩
  · subst q; simp at hi
  · obtain ⟨cs, h1, h2⟩ := hx i x hi
    exact ⟨b, o, hA, cs, h1, fun Γ hΓ => Cells.lk (hΓ _ _ hb) fun j hj => h2 j (by rw [← Rep.len h1]; exact hj)⟩
/-- xs[i], its place and its cells -/
theorem SlOk.get {α : Type} [Rep α] {h : Mem} {A : Option Addr} {c : Nat} {xs : List α} (q : SlOk h A c xs) {i : Nat} (hi : i < xs.length) :
    ∃ b o, A = some ⟨b, o, none⟩ ∧ ∃ cs, Rep.ok h xs[i] cs ∧ ∀ Γ : Ctx, Mem.le h (lk Γ) → Cells Γ b (o + i * Rep.sz α) cs := q.elem (List.getElem?_eq_getElem hi)

/-- xs[l:m] -/
theorem SlOk.slice {α : Type} [Rep α] {h : Mem} {A : Option Addr} {c : Nat} {xs : List α} (q : SlOk h A c xs) {l m : Nat} (h1 : l ≤ m) (h2 : m ≤ xs.length) :
    SlOk h (if c = l then A else A.map (·.add (l * Rep.sz α))) (c - l) ((xs.take m).drop l) := by
  have hc := q.cap
  have hlen : ((xs.take m).drop l).length = m - l := by simp; omega
  refine ⟨by omega, by have := q.max; omega, by have := q.short; omega, ?_⟩
  by_cases e : m = l
  · left
    exact List.eq_nil_of_length_eq_zero (by omega)
  · rcases q.at' with q' | ⟨b, o, cells, T, fr, rfl, hb, hx⟩
    · subst q'; simp at h2; omega
    · right
      refine ⟨b, o + l * Rep.sz α, cells, T, fr, ?_, hb, ?_⟩
      · rw [if_neg (by omega)]
        simp [add_mk]
      · intro i x hi
        have hi' : xs[l + i]? = some x := by
          rw [List.getElem?_drop, List.getElem?_take] at hi
          split at hi
          · exact hi
          · cases hi
        obtain ⟨cs, h3, h4⟩ := hx _ _ hi'
        refine ⟨cs, h3, fun j hj => ?_⟩
        rw [← h4 j hj]
        congr 1
        rw [Nat.add_mul]
        omega

/-- what is one cell -/
class Sc (α : Type) where
  enc : α → Value
  one : ∀ x, (enc x).oneCell' = true
  cells : ∀ x, cellsV (enc x) = [enc x]
instance (priority := low) {α : Type} [Sc α] : Rep α where
  sz := 1
  ok _ x cs := cs = [Sc.enc x]
  len h := by subst h; rfl
  one h := by subst h; simp [one', Sc.one]
  mono h _ := h
instance : Sc Int := ⟨fun x => .int .i64 x, fun _ => rfl, fun _ => rfl⟩
instance : Sc Bool := ⟨fun x => .bool x, fun _ => rfl, fun _ => rfl⟩
instance : Sc ByteArray := ⟨fun x => .string x, fun _ => rfl, fun _ => rfl⟩
instance {α : Type} [Rep α] : Rep (List α) where
  sz := 1
  ok h xs cs := ∃ A c, cs = [.slice A xs.length c] ∧ SlOk h A c xs
  len h := by obtain ⟨A, c, rfl, _⟩ := h; rfl
  one h := by obtain ⟨A, c, rfl, _⟩ := h; simp [one', Value.oneCell']
  mono h hh := by obtain ⟨A, c, rfl, q⟩ := h; exact ⟨A, c, rfl, q.mono hh⟩

theorem ok_sc {α : Type} [Sc α] {h : Mem} {x : α} {cs : List Value} (q : Rep.ok h x cs) : cs = [Sc.enc x] := q
theorem ok_int {h : Mem} {x : Int} {cs : List Value} (q : Rep.ok h x cs) : cs = [.int .i64 x] := q
theorem ok_bool {h : Mem} {x : Bool} {cs : List Value} (q : Rep.ok h x cs) : cs = [.bool x] := q
theorem ok_list {α : Type} [Rep α] {h : Mem} {xs : List α} {cs : List Value} (q : Rep.ok h xs cs) : ∃ A c, cs = [.slice A xs.length c] ∧ SlOk h A c xs := q
theorem SlOk.int {h : Mem} {A : Option Addr} {c : Nat} {xs : List Int} (q : SlOk h A c xs) {i : Nat} (hi : i < xs.length) :
    ∃ b o, A = some ⟨b, o, none⟩ ∧ ∀ Γ : Ctx, Mem.le h (lk Γ) → Cells Γ b (o + i) [.int .i64 xs[i]] := by
  obtain ⟨b, o, hA, cs, h1, h2⟩ := q.get hi
  obtain rfl := ok_int h1
  exact ⟨b, o, hA, fun Γ h => by simpa [Rep.sz] using h2 Γ h⟩
theorem SlOk.bool {h : Mem} {A : Option Addr} {c : Nat} {xs : List Bool} (q : SlOk h A c xs) {i : Nat} (hi : i < xs.length) :
    ∃ b o, A = some ⟨b, o, none⟩ ∧ ∀ Γ : Ctx, Mem.le h (lk Γ) → Cells Γ b (o + i) [.bool xs[i]] := by
  obtain ⟨b, o, hA, cs, h1, h2⟩ := q.get hi
  obtain rfl := ok_bool h1
  exact ⟨b, o, hA, fun Γ h => by simpa [Rep.sz] using h2 Γ h⟩
theorem SlOk.list {α : Type} [Rep α] {h : Mem} {A : Option Addr} {c : Nat} {xs : List (List α)} (q : SlOk h A c xs) {i : Nat} (hi : i < xs.length) :
    ∃ b o, A = some ⟨b, o, none⟩ ∧ ∃ A' c', SlOk h A' c' xs[i] ∧ ∀ Γ : Ctx, Mem.le h (lk Γ) → Cells Γ b (o + i) [.slice A' xs[i].length c'] := by
  obtain ⟨b, o, hA, cs, h1, h2⟩ := q.get hi
  obtain ⟨A', c', rfl, h3⟩ := ok_list h1
  exact ⟨b, o, hA, A', c', h3, fun Γ h => by simpa [Rep.sz] using h2 Γ h⟩

/-! ### what is the call's own -/
/-- an array of scalars -/
def Arr {α : Type} [Sc α] (g : PH) (b : Nat) (T : TypeId) (xs : List α) : Prop := g b = some (.cells (xs.map Sc.enc).toArray T (0, 0))
theorem zerosL_enc {α : Type} [Sc α] (z : α) : ∀ m, zerosL [Sc.enc z] m = (List.replicate m z).map Sc.enc
  | 0 => rfl
  | m + 1 => by simp [zerosL, zerosL_enc z m, List.replicate_succ]
theorem Arr.made {α : Type} [Sc α] (z : α) (b : Nat) (T : TypeId) (m : Nat) : Arr (one b (.cells (zerosL [Sc.enc z] m).toArray T)) b T (List.replicate m z) := by
  unfold Arr
  rw [one_self, zerosL_enc]
theorem Arr.slok {α : Type} [Sc α] {g : PH} {b : Nat} {T : TypeId} {xs : List α} {L : Mem} (h : Arr g b T xs) (hL : Mem.le (lk [g]) L) {c : Nat} (hc : xs.length ≤ c) (hm : c ≤ maxLen) (hs : xs.length ≤ 140737488355328) :
    SlOk L (some ⟨b, 0, none⟩) c xs := by
  refine ⟨hc, hm, hs, .inr ⟨b, 0, _, T, _, rfl, hL _ _ (lk_one.2 h), fun i x hi => ⟨[Sc.enc x], rfl, fun j hj => ?_⟩⟩⟩
  have : j = 0 := by simp [Rep.sz] at hj; exact hj
  subst this
  simp [Rep.sz, hi]
theorem Arr.cell {α : Type} [Sc α] {g : PH} {b : Nat} {T : TypeId} {xs : List α} (h : Arr g b T xs) {i : Nat} (hi : i < xs.length) {Γ : Ctx} (hg : g ∈ Γ) : Cells Γ b i [Sc.enc xs[i]] := by
  refine ⟨g, hg, _, T, _, h, fun j hj => ?_⟩
  have : j = 0 := by simp at hj; exact hj
  subst this
  simp [hi]
theorem setC_sc {α : Type} [Sc α] (xs : List α) (i : Nat) (x : α) (hi : i < xs.length) : setC (xs.map Sc.enc) i 1 (Sc.enc x) = (xs.set i x).map Sc.enc := by
  unfold setC
  rw [Sc.cells, List.map_set, List.set_eq_take_append_cons_drop]
  simp [hi]
theorem Arr.upd {α : Type} [Sc α] {g : PH} {b : Nat} {T : TypeId} {xs : List α} (h : Arr g b T xs) {i : Nat} (hi : i < xs.length) (x : α) : Arr (V.upd g b (.cells (setC (xs.map Sc.enc) i 1 (Sc.enc x)).toArray T)) b T (xs.set i x) := by
  unfold Arr
  rw [upd_self, setC_sc xs i x hi]
theorem upd_other {g : PH} {b k : Nat} {o : Obj} (h : k ≠ b) : upd g b o k = g k := by simp [upd, h]

section
variable {P : Program} {Γr : Ctx} {d : Option Nat} {r : List SOper} {φ : Fr} {Γ : Ctx} {K : Fr → Ctx → Prop}
/-- xs[i] = x -/
theorem s_storeA {α : Type} [Sc α] {g : PH} {b i ix : Nat} {T : TypeId} {xs : List α} (x : α) (hg : Γ[ix]? = some g) (h : Arr g b T xs) (hi : i < xs.length)
    (hk : ∀ g', Arr g' b T (xs.set i x) → (∀ k, k ≠ b → g' k = g k) → vcOps P Γr r φ (Γ.set ix g') K) : storeP P Γr r φ Γ K 1 b i (Sc.enc x) := by
  refine ⟨ix, g, _, T, hg, h, by simp; omega, ?_⟩
  exact hk _ (h.upd hi x) (fun k hne => upd_other hne)
/-- &x of a variable that is captured -/
theorem s_storeV {g : PH} {b ix : Nat} {T : TypeId} {n : Nat} {cs : List Value} {x : Value} (hg : Γ[ix]? = some g) (h : g b = some (.cells cs.toArray T (0, 0))) (hn : cs.length = n)
    (hx : (cellsV x).length = n) (hk : vcOps P Γr r φ (Γ.set ix (upd g b (.cells (cellsV x).toArray T))) K) : storeP P Γr r φ Γ K n b 0 x := by
  refine ⟨ix, g, _, T, hg, h, by simp [hn], ?_⟩
  have : setC cs 0 n x = cellsV x := by simp [setC, ← hn]
  simp only [List.toList_toArray, this]
  exact hk
end

/-- a list that grows: its row lies in g, what its elements lead to in L -/
def Bld {α : Type} [Rep α] (g : PH) (L : Mem) (e : TypeId) (v : Value) (xs : List α) : Prop :=
  ∃ cs, Row g e (Rep.sz α) v xs.length cs ∧ ∀ i x, xs[i]? = some x → ∃ c, Rep.ok L x c ∧ ∀ j, j < Rep.sz α → cs[i * Rep.sz α + j]? = c[j]?
theorem Bld.nil {α : Type} [Rep α] (g : PH) (L : Mem) (e : TypeId) : Bld (α := α) g L e (.slice none 0 0) [] := ⟨[], ⟨by simp, .inl ⟨rfl, none, rfl⟩⟩, by simp⟩
theorem Bld.mono {α : Type} [Rep α] {g g' : PH} {L L' : Mem} {e : TypeId} {v : Value} {xs : List α} (h : Bld g L e v xs) (hg : Mem.le (lk [g]) (lk [g'])) (hL : Mem.le L L') : Bld g' L' e v xs := by
  obtain ⟨cs, ⟨h1, h2⟩, h3⟩ := h
  refine ⟨cs, ⟨h1, ?_⟩, fun i x hi => let ⟨c, q1, q2⟩ := h3 i x hi; ⟨c, Rep.mono q1 hL, q2⟩⟩
  rcases h2 with q | ⟨b, o, cap, cur, q1, q2, q3, q4, q5⟩
  · exact .inl q
  · exact .inr ⟨b, o, cap, cur, q1, q2, q3, lk_one.1 (hg _ _ (lk_one.2 q4)), q5⟩
theorem Bld.val {α : Type} [Rep α] {g : PH} {L : Mem} {e : TypeId} {v : Value} {xs : List α} (h : Bld g L e v xs) : ∃ A c, v = .slice A xs.length c := by
  obtain ⟨cs, ⟨h1, h2⟩, h3⟩ := h
  rcases h2 with ⟨q0, A, q⟩ | ⟨b, o, cap, cur, q1, _⟩
  · exact ⟨A, 0, by rw [q, q0]⟩
  · exact ⟨_, _, q1⟩
theorem Bld.slok {α : Type} [Rep α] {g : PH} {L L' : Mem} {e : TypeId} {v : Value} {xs : List α} (h : Bld g L e v xs) (hg : Mem.le (lk [g]) L') (hL : Mem.le L L') (hs : xs.length ≤ 140737488355328) :
    ∃ A c, v = .slice A xs.length c ∧ SlOk L' A c xs := by
  obtain ⟨cs, ⟨h1, h2⟩, h3⟩ := h
  rcases h2 with ⟨q0, A, rfl⟩ | ⟨b, o, cap, cur, rfl, q2, q3, q4, q5, q6⟩
  · have hx : xs = [] := List.eq_nil_of_length_eq_zero q0
    subst hx
    exact ⟨A, 0, rfl, by simp, by simp, by simp, .inl rfl⟩
  · refine ⟨_, _, rfl, q2, q3, hs, .inr ⟨b, o, cur, e, _, rfl, hg _ _ (lk_one.2 q4), fun i x hi => ?_⟩⟩
    obtain ⟨c, r1, r2⟩ := h3 i x hi
    refine ⟨c, Rep.mono r1 hL, fun j hj => ?_⟩
    rw [← r2 j hj, ← q6, List.getElem?_take, List.getElem?_drop]
    have hlt : i < xs.length := (List.getElem?_eq_some_iff.1 hi).1
    rw [if_pos]
    · simp [Nat.add_assoc]
    · calc i * Rep.sz α + j < i * Rep.sz α + Rep.sz α := by omega
        _ = (i + 1) * Rep.sz α := by rw [Nat.add_mul, Nat.one_mul]
        _ ≤ xs.length * Rep.sz α := Nat.mul_le_mul_right _ hlt
theorem Bld.snoc {α : Type} [Rep α] {g g' : PH} {L L' : Mem} {e : TypeId} {v v' : Value} {xs ys : List α} {cs ds : List Value} (h1 : Row g e (Rep.sz α) v xs.length cs) (h3 : ∀ i x, xs[i]? = some x → ∃ c, Rep.ok L x c ∧ ∀ j, j < Rep.sz α → cs[i * Rep.sz α + j]? = c[j]?)
    (h4 : ∀ i x, ys[i]? = some x → ∃ c, Rep.ok L' x c ∧ ∀ j, j < Rep.sz α → ds[i * Rep.sz α + j]? = c[j]?) (hL : Mem.le L L') (hr : Row g' e (Rep.sz α) v' (xs.length + ys.length) (cs ++ ds)) : Bld g' L' e v' (xs ++ ys) := by
  refine ⟨cs ++ ds, by rw [List.length_append]; exact hr, fun i x hi => ?_⟩
  have hl := h1.1
  by_cases hlt : i < xs.length
  · rw [List.getElem?_append_left hlt] at hi
    obtain ⟨c, q1, q2⟩ := h3 i x hi
    refine ⟨c, Rep.mono q1 hL, fun j hj => ?_⟩
    rw [← q2 j hj, List.getElem?_append_left]
    rw [hl]
    calc i * Rep.sz α + j < i * Rep.sz α + Rep.sz α := by omega
        _ = (i + 1) * Rep.sz α := by rw [Nat.add_mul, Nat.one_mul]
        _ ≤ xs.length * Rep.sz α := Nat.mul_le_mul_right _ hlt
  · rw [List.getElem?_append_right (by omega)] at hi
    obtain ⟨c, q1, q2⟩ := h4 _ x hi
    refine ⟨c, q1, fun j hj => ?_⟩
    have hge : xs.length * Rep.sz α ≤ i * Rep.sz α := Nat.mul_le_mul_right _ (by omega)
    rw [← q2 j hj, List.getElem?_append_right (by rw [hl]; omega), hl, Nat.sub_mul]
    congr 1
    omega
section
variable {P : Program} {Γr : Ctx} {d : Option Nat} {r : List SOper} {φ : Fr} {Γ : Ctx} {K : Fr → Ctx → Prop}
/-- xs = append(xs, x): x's cells lie at the begin of a block -/
theorem s_app1 {α : Type} [Rep α] {g : PH} {ix : Nat} {L L' : Mem} {t e : TypeId} {sz bytes : Nat} {z : Value} {v : Value} {xs : List α} {x : α} {b c : Nat} {cs : List Value}
    (hg : Γ[ix]? = some g) (h : Bld g L e v xs) (hL : Mem.le L L') (hx : Rep.ok L' x cs) (hc : Cells (Γ ++ Γr) b 0 cs) (hsz : sz = Rep.sz α) (hby : (xs.length + 1) * bytes ≤ 140737488355328) (hm : xs.length + 1 ≤ maxLen)
    (hk : ∀ v' g', Bld g' L' e v' (xs ++ [x]) → KeptBut v v' g g' → vcOps P Γr r (put φ d (.v true v')) (Γ.set ix g') K) :
    appendC P Γr d r φ Γ K t e sz bytes z (true, v) (true, .slice (some ⟨b, 0, none⟩) 1 c) := by
  obtain ⟨ds, h1, h3⟩ := h
  subst hsz
  refine ⟨rfl, rfl, ix, g, xs.length, ds, cs, hg, h1, by rw [Rep.len hx]; simp, Rep.one hx, .inr ⟨b, 0, rfl, hc⟩, hby, hm, fun v' g' hr _ hkp => hk v' g' ?_ hkp⟩
  refine Bld.snoc h1 h3 (fun i y hi => ?_) hL hr
  cases i with
  | zero => simp at hi; subst hi; exact ⟨cs, hx, fun j hj => by simp⟩
  | succ i => simp at hi
/-- what a row was is there still -/
def RowKept (g g' : PH) (e : TypeId) (sz : Nat) (v : Value) (n : Nat) : Prop := ∃ cs, Row g e sz v n cs ∧ Row g' e sz v n cs
/-- the same; what xs was is there still -/
theorem s_app1K {α : Type} [Rep α] {g : PH} {ix : Nat} {L L' : Mem} {t e : TypeId} {sz bytes : Nat} {z : Value} {v : Value} {xs : List α} {x : α} {b c : Nat} {cs : List Value}
    (hg : Γ[ix]? = some g) (h : Bld g L e v xs) (hL : Mem.le L L') (hx : Rep.ok L' x cs) (hc : Cells (Γ ++ Γr) b 0 cs) (hsz : sz = Rep.sz α) (hby : (xs.length + 1) * bytes ≤ 140737488355328) (hm : xs.length + 1 ≤ maxLen)
    (hk : ∀ v' g', Bld g' L' e v' (xs ++ [x]) → RowKept g g' e (Rep.sz α) v xs.length → KeptBut v v' g g' → vcOps P Γr r (put φ d (.v true v')) (Γ.set ix g') K) :
    appendC P Γr d r φ Γ K t e sz bytes z (true, v) (true, .slice (some ⟨b, 0, none⟩) 1 c) := by
  obtain ⟨ds, h1, h3⟩ := h
  subst hsz
  refine ⟨rfl, rfl, ix, g, xs.length, ds, cs, hg, h1, by rw [Rep.len hx]; simp, Rep.one hx, .inr ⟨b, 0, rfl, hc⟩, hby, hm, fun v' g' hr hold hkp => hk v' g' ?_ ⟨ds, h1, hold⟩ hkp⟩
  refine Bld.snoc h1 h3 (fun i y hi => ?_) hL hr
  cases i with
  | zero => simp at hi; subst hi; exact ⟨cs, hx, fun j hj => by simp⟩
  | succ i => simp at hi
/-- xs = append(xs, ys...) -/
theorem s_appL {α : Type} [Rep α] {g : PH} {ix : Nat} {L L' L2 : Mem} {t e : TypeId} {sz bytes : Nat} {z : Value} {v : Value} {xs ys : List α} {A : Option Addr} {c : Nat}
    (hg : Γ[ix]? = some g) (h : Bld g L e v xs) (hL : Mem.le L L') (hy : SlOk L2 A c ys) (h2 : Mem.le L2 (lk (Γ ++ Γr))) (h2' : Mem.le L2 L') (hsz : sz = Rep.sz α) (hby : (xs.length + ys.length) * bytes ≤ 140737488355328) (hm : xs.length + ys.length ≤ maxLen)
    (hk : ∀ v' g', Bld g' L' e v' (xs ++ ys) → KeptBut v v' g g' → vcOps P Γr r (put φ d (.v true v')) (Γ.set ix g') K) :
    appendC P Γr d r φ Γ K t e sz bytes z (true, v) (true, .slice A ys.length c) := by
  obtain ⟨ds, h1, h3⟩ := h
  subst hsz
  rcases hy.at' with rfl | ⟨b, o, cells, T, fr, rfl, hb, hx⟩
  · refine ⟨rfl, rfl, ix, g, xs.length, ds, [], hg, h1, by simp, by simp [one'], .inl rfl, hby, hm, fun v' g' hr _ hkp => hk v' g' ?_ hkp⟩
    exact Bld.snoc h1 h3 (by simp) hL hr
  · let cs := (List.range (ys.length * Rep.sz α)).map fun k => (cells[o + k]?).getD undef
    have hcell : ∀ i y, ys[i]? = some y → ∃ c, Rep.ok L2 y c ∧ ∀ j, j < Rep.sz α → cs[i * Rep.sz α + j]? = c[j]? := by
      intro i y hi
      obtain ⟨c', q1, q2⟩ := hx i y hi
      refine ⟨c', q1, fun j hj => ?_⟩
      have hlt : i < ys.length := (List.getElem?_eq_some_iff.1 hi).1
      have hin : i * Rep.sz α + j < ys.length * Rep.sz α := by
        calc i * Rep.sz α + j < i * Rep.sz α + Rep.sz α := by omega
          _ = (i + 1) * Rep.sz α := by rw [Nat.add_mul, Nat.one_mul]
          _ ≤ ys.length * Rep.sz α := Nat.mul_le_mul_right _ hlt
      have := q2 j hj
      have hj' : j < c'.length := by rw [Rep.len q1]; exact hj
      rw [List.getElem?_eq_getElem hj'] at this ⊢
      simp only [cs]
      rw [List.getElem?_map, List.getElem?_range hin]
      simp only [Option.map_some, ← Nat.add_assoc, this, Option.getD_some]
    have hdiv : ∀ k, k < ys.length * Rep.sz α → ∃ i y, ys[i]? = some y ∧ ∃ j, j < Rep.sz α ∧ k = i * Rep.sz α + j := by
      intro k hk'
      have hpos : 0 < Rep.sz α := by
        rcases Nat.eq_zero_or_pos (Rep.sz α) with q | q
        · rw [q] at hk'; simp at hk'
        · exact q
      refine ⟨k / Rep.sz α, ys[k / Rep.sz α]'(Nat.div_lt_of_lt_mul (by rw [Nat.mul_comm]; exact hk')), List.getElem?_eq_getElem _, k % Rep.sz α, Nat.mod_lt _ hpos, ?_⟩
      rw [Nat.mul_comm]
      exact (Nat.div_add_mod k (Rep.sz α)).symm
    refine ⟨rfl, rfl, ix, g, xs.length, ds, cs, hg, h1, by simp [cs], fun u hu => ?_, .inr ⟨b, o, rfl, Cells.lk (h2 _ _ hb) fun k hk' => ?_⟩, hby, hm, fun v' g' hr _ hkp => hk v' g' ?_ hkp⟩
    · obtain ⟨k, hk', rfl⟩ := List.mem_map.1 hu
      obtain ⟨i, y, hi, j, hj, rfl⟩ := hdiv k (by simpa using hk')
      obtain ⟨c', q1, q2⟩ := hx i y hi
      rw [← Nat.add_assoc, q2 j hj]
      have hj' : j < c'.length := by rw [Rep.len q1]; exact hj
      rw [List.getElem?_eq_getElem hj']
      exact Rep.one q1 _ (List.getElem_mem hj')
    · have hk2 : k < ys.length * Rep.sz α := by simpa [cs] using hk'
      obtain ⟨i, y, hi, j, hj, rfl⟩ := hdiv k hk2
      obtain ⟨c', q1, q2⟩ := hx i y hi
      obtain ⟨c2, q3, q4⟩ := hcell i y hi
      have hj' : j < c'.length := by rw [Rep.len q1]; exact hj
      have e1 : cells[o + (i * Rep.sz α + j)]? = some c'[j] := by rw [← Nat.add_assoc, q2 j hj, List.getElem?_eq_getElem hj']
      simp only [cs]
      rw [List.getElem?_map, List.getElem?_range hk2]
      simp [e1]
    · exact Bld.snoc h1 h3 (fun i y hi => let ⟨c', q1, q2⟩ := hcell i y hi; ⟨c', Rep.mono q1 h2', q2⟩) hL hr
end

/-- v0 was the row v earlier -/
structure Snap {α : Type} [Rep α] (g : PH) (L : Mem) (e : TypeId) (v0 v : Value) (xs0 xs : List α) : Prop where
  old : Bld g L e v0 xs0
  len : xs0.length ≤ xs.length
  same : ∀ b, rowBlk v0 = some b → rowBlk v = some b → ∃ A n0 n c, v0 = .slice A n0 c ∧ v = .slice A n c
theorem Snap.refl {α : Type} [Rep α] {g : PH} {L : Mem} {e : TypeId} {v : Value} {xs : List α} (h : Bld g L e v xs) : Snap g L e v v xs xs :=
  ⟨h, Nat.le_refl _, fun b _ _ => by obtain ⟨A, c, rfl⟩ := h.val; exact ⟨A, _, _, c, rfl, rfl⟩⟩
theorem Snap.app {α : Type} [Rep α] {g g' : PH} {L L2 L' : Mem} {e : TypeId} {v0 v v' : Value} {xs0 xs ys : List α} (h : Snap g L e v0 v xs0 xs) (hB : Bld g L2 e v xs) (hO : RowKept g g' e (Rep.sz α) v xs.length) (hN : Bld g' L' e v' (xs ++ ys)) (hK : KeptBut v v' g g') : Snap g' L e v0 v' xs0 (xs ++ ys) := by
  obtain ⟨⟨cs0, ⟨hl0, h0⟩, hr0⟩, hlen, hsame⟩ := h
  obtain ⟨A, c, rfl⟩ := hB.val
  obtain ⟨A', c', rfl⟩ := hN.val
  have hk2 := hK.2 A _ c A' _ c' rfl rfl
  refine ⟨⟨cs0, ⟨hl0, ?_⟩, hr0⟩, by rw [List.length_append]; omega, ?_⟩
  · rcases h0 with q | ⟨b, o, cap, cur, rfl, q2, q3, q4, q5, q6⟩
    · exact .inl q
    · right
      by_cases hb : rowBlk (.slice A xs.length c) = some b
      · obtain ⟨A2, n0, n, c2, e1, e2⟩ := hsame b rfl hb
        simp only [Value.slice.injEq] at e1 e2
        obtain ⟨rfl, rfl, rfl⟩ := e1
        obtain ⟨rfl, rfl, rfl⟩ := e2
        obtain ⟨ds, ⟨d1, d2⟩, ⟨d1', d2'⟩⟩ := hO
        rcases d2 with ⟨_, _, q⟩ | ⟨b2, o2, cap2, cur2, p1, p2, p3, p4, p5, p6⟩
        · simp only [Value.slice.injEq] at q
          omega
        simp only [Value.slice.injEq, Option.some.injEq, Addr.mk.injEq, and_true] at p1
        obtain ⟨⟨rfl, rfl⟩, _, _⟩ := p1
        rw [q4] at p4
        simp only [Option.some.injEq, Obj.cells.injEq, true_and, and_true] at p4
        subst p4
        rcases d2' with ⟨_, _, q⟩ | ⟨b1, o1, cap1, cur1, r1, r2, r3, r4, r5, r6⟩
        · simp only [Value.slice.injEq] at q
          omega
        simp only [Value.slice.injEq, Option.some.injEq, Addr.mk.injEq, and_true] at r1
        obtain ⟨⟨rfl, rfl⟩, _, e3⟩ := r1
        have e3 : cap = cap1 := by omega
        subst e3
        have hmul : xs0.length * Rep.sz α ≤ xs.length * Rep.sz α := Nat.mul_le_mul_right _ hlen
        have t1 := congrArg (List.take (xs0.length * Rep.sz α)) r6
        have t2 := congrArg (List.take (xs0.length * Rep.sz α)) p6
        rw [List.take_take, Nat.min_eq_left hmul] at t1 t2
        exact ⟨b, o, cap, cur1, rfl, q2, q3, r4, r5, by rw [t1, ← t2, q6]⟩
      · refine ⟨b, o, cap, cur, rfl, q2, q3, ?_, q5, q6⟩
        rw [hK.1 b hb (by rw [q4]; simp), q4]
  · intro b e1 e2
    rcases h0 with ⟨_, B, rfl⟩ | ⟨b1, o, cap, cur, rfl, q2, q3, q4, q5, q6⟩
    · cases B <;> simp [rowBlk] at e1
    simp only [rowBlk, Option.some.injEq] at e1
    subst e1
    rcases Nat.lt_or_ge c (xs ++ ys).length with hc | hc
    · have := hk2.2 hc b1 e2
      rw [q4] at this
      cases this
    · obtain ⟨rfl, rfl⟩ := hk2.1 hc
      obtain ⟨A2, n0, n, c2, e3, e4⟩ := hsame b1 rfl (by
        rcases A' with _ | a <;> rcases c' with _ | c <;> simp [rowBlk] at e2 ⊢
        exact e2)
      simp only [Value.slice.injEq] at e3 e4
      obtain ⟨rfl, rfl, rfl⟩ := e3
      obtain ⟨rfl, rfl, rfl⟩ := e4
      exact ⟨_, _, _, _, rfl, rfl⟩
/-! parts of a row -/
theorem Bld.take {α : Type} [Rep α] {g : PH} {L : Mem} {e : TypeId} {A : Option Addr} {n c : Nat} {xs : List α} (h : Bld g L e (.slice A n c) xs) {k : Nat} (hk : k ≤ xs.length) : Bld g L e (.slice A k c) (xs.take k) := by
  obtain ⟨cs, ⟨h1, h2⟩, h3⟩ := h
  have hkl : k * Rep.sz α ≤ xs.length * Rep.sz α := Nat.mul_le_mul_right _ hk
  have hl : (xs.take k).length = k := by simp; omega
  refine ⟨cs.take (k * Rep.sz α), ⟨by rw [List.length_take, h1, hl]; omega, ?_⟩, fun i x hi => ?_⟩
  · rcases h2 with ⟨q0, A', q⟩ | ⟨b, o, cap, cur, q1, q2, q3, q4, q5, q6⟩
    · left
      simp only [Value.slice.injEq] at q
      obtain ⟨rfl, rfl, rfl⟩ := q
      have : k = 0 := by omega
      subst this
      exact ⟨by simp, _, rfl⟩
    · right
      simp only [Value.slice.injEq] at q1
      obtain ⟨rfl, rfl, rfl⟩ := q1
      have hl : (xs.take k).length = k := by simp; omega
      rw [hl]
      refine ⟨b, o, cap, cur, rfl, by omega, q3, q4, q5, ?_⟩
      rw [← q6, List.take_take, Nat.min_eq_left hkl]
  · rw [List.getElem?_take] at hi
    split at hi
    · rename_i hlt
      obtain ⟨c', r1, r2⟩ := h3 i x hi
      refine ⟨c', r1, fun j hj => ?_⟩
      rw [← r2 j hj, List.getElem?_take, if_pos]
      calc i * Rep.sz α + j < i * Rep.sz α + Rep.sz α := by omega
        _ = (i + 1) * Rep.sz α := by rw [Nat.add_mul, Nat.one_mul]
        _ ≤ k * Rep.sz α := Nat.mul_le_mul_right _ hlt
    · cases hi
section
variable {P : Program} {Γr : Ctx} {d : Option Nat} {r : List SOper} {φ : Fr} {Γ : Ctx} {K : Fr → Ctx → Prop}
/-- xs[:h] -/
theorem s_hi {sz n cap : Nat} {A : Option Addr} {hi : Operand} (h : Nat) (hb : bnd φ (some hi) h n) (hc : h ≤ cap) (hk : vcOps P Γr r (put φ d (.v true (.slice A h cap))) Γ K) :
    slcC P Γr true d r φ Γ K sz none (some hi) (true, .slice A n cap) := by
  refine s_slice 0 h rfl hb (by omega) hc ?_
  have : (if cap = 0 then A else A.map (·.add (0 * sz))) = A := by
    split
    · rfl
    · cases A <;> simp [Addr.add]
  rw [this]
  simpa using hk
/-- xs[l:] -/
theorem s_lo {sz n cap : Nat} {A : Option Addr} {lo : Operand} (l : Nat) (hb : bnd φ (some lo) l 0) (hl : l ≤ n) (hc : n ≤ cap) (hk : ∀ A', A' = (if cap = l then A else A.map (·.add (l * sz))) → vcOps P Γr r (put φ d (.v true (.slice A' (n - l) (cap - l)))) Γ K) :
    slcC P Γr true d r φ Γ K sz (some lo) none (true, .slice A n cap) := s_slice l n hb rfl hl hc (hk _ rfl)
/-- xs[l:h] -/
theorem s_lohi {sz n cap : Nat} {A : Option Addr} {lo hi : Operand} (l h : Nat) (hb : bnd φ (some lo) l 0) (hb' : bnd φ (some hi) h n) (hl : l ≤ h) (hc : h ≤ cap) (hk : ∀ A', A' = (if cap = l then A else A.map (·.add (l * sz))) → vcOps P Γr r (put φ d (.v true (.slice A' (h - l) (cap - l)))) Γ K) :
    slcC P Γr true d r φ Γ K sz (some lo) (some hi) (true, .slice A n cap) := s_slice l h hb hb' hl hc (hk _ rfl)
/-- xs = append(xs, ys...), of scalars -/
theorem s_appS {α : Type} [Sc α] {g : PH} {ix : Nat} {L L2 : Mem} {t e : TypeId} {sz bytes : Nat} {z : Value} {v : Value} {xs ys : List α} {A : Option Addr} {c n : Nat}
    (hg : Γ[ix]? = some g) (h : Bld g L e v xs) (hy : SlOk L2 A c ys) (hn : n = ys.length) (h2 : Mem.le L2 (lk (Γ ++ Γr))) (hsz : sz = 1) (hby : (xs.length + ys.length) * bytes ≤ 140737488355328) (hm : xs.length + ys.length ≤ maxLen)
    (hk : ∀ v' g', Bld g' L e v' (xs ++ ys) → KeptBut v v' g g' → vcOps P Γr r (put φ d (.v true v')) (Γ.set ix g') K) :
    appendC P Γr d r φ Γ K t e sz bytes z (true, v) (true, .slice A n c) := by
  subst hn
  have any : ∀ {L1 L2 : Mem} {g : PH} {v : Value} {zs : List α}, Bld g L1 e v zs → Bld g L2 e v zs := fun ⟨cs, h1, h3⟩ => ⟨cs, h1, fun i x hi => let ⟨c, q1, q2⟩ := h3 i x hi; ⟨c, ok_sc q1 ▸ rfl, q2⟩⟩
  exact s_appL (L' := fun _ _ => True) hg h (fun _ _ _ => trivial) hy h2 (fun _ _ _ => trivial) hsz hby hm (fun v' g' hB hkp => hk v' g' (any hB) hkp)
/-- xs = append(xs, x), of scalars -/
theorem s_app1S {α : Type} [Sc α] {g : PH} {ix : Nat} {L : Mem} {t e : TypeId} {sz bytes : Nat} {z : Value} {v : Value} {xs : List α} {b c : Nat} (x : α)
    (hg : Γ[ix]? = some g) (h : Bld g L e v xs) (hc : Cells (Γ ++ Γr) b 0 [Sc.enc x]) (hsz : sz = 1) (hby : (xs.length + 1) * bytes ≤ 140737488355328) (hm : xs.length + 1 ≤ maxLen)
    (hk : ∀ v' g', Bld g' L e v' (xs ++ [x]) → KeptBut v v' g g' → vcOps P Γr r (put φ d (.v true v')) (Γ.set ix g') K) :
    appendC P Γr d r φ Γ K t e sz bytes z (true, v) (true, .slice (some ⟨b, 0, none⟩) 1 c) := s_app1 hg h (Mem.le.refl _) (x := x) rfl hc hsz hby hm hk
theorem cells_one {b : Nat} {T : TypeId} {cs : List Value} {Γ : Ctx} : Cells (one b (.cells cs.toArray T) :: Γ) b 0 cs := ⟨_, List.mem_cons_self .., cs.toArray, T, _, one_self _ _, fun j hj => by simp⟩
end
theorem SlOk.drop {α : Type} [Rep α] {h : Mem} {A : Option Addr} {c : Nat} {xs : List α} (q : SlOk h A c xs) {l : Nat} (hl : l ≤ xs.length) :
    SlOk h (if c = l then A else A.map (·.add (l * Rep.sz α))) (c - l) (xs.drop l) := by
  have := q.slice hl (Nat.le_refl _)
  rwa [List.take_length] at this
theorem Row.len {g : PH} {e : TypeId} {sz : Nat} {v : Value} {n : Nat} {xs : List Value} (h : Row g e sz v n xs) : ∃ A c, v = .slice A n c ∧ n ≤ c := by
  rcases h.2 with ⟨q0, A, q⟩ | ⟨b, o, cap, cur, q1, q2, _⟩
  · exact ⟨A, 0, by rw [q, q0], by omega⟩
  · exact ⟨_, _, q1, q2⟩

theorem setRow_setBlk {w : World} {b : Nat} {cs old : Array Value} {T : TypeId} (h : w.heap[b]? = some (.cells old T (0, 0))) : w.setRow b cs = setBlk w b (.cells cs T (0, 0)) := by
  unfold World.setRow setBlk
  congr 1
  apply Array.ext_getElem?
  intro j
  rw [Array.getElem?_modify, Array.getElem?_setIfInBounds]
  have hlt := (Array.getElem?_eq_some_iff.1 h).1
  by_cases e : b = j
  · subst e
    have e2 := (Array.getElem?_eq_some_iff.1 h).2
    simp [hlt, e2]
  · simp [e]
section
variable {P : Program} {Γr : Ctx} {d : Option Nat} {r : List SOper} {φ : Fr} {Γ : Ctx} {K : Fr → Ctx → Prop}
/-- clear(xs[n:m]), xs a row of n -/
theorem s_clear {α : Type} [Rep α] {g : PH} {L : Mem} {ix : Nat} {T e : TypeId} {z : Value} {n c m c' : Nat} {A : Option Addr} {xs : List α} (ht : P.underlying T = some (.slice e)) (hz' : (P.info? e).bind (·.zero) = some z) (hzs : z.cells.size = Rep.sz α) (hz1 : one' z.cells.toList)
    (hg : Γ[ix]? = some g) (h : Bld g L e (.slice A n c) xs) (hm : n + m ≤ c) (hc' : c' = c - n)
    (hk : ∀ g', Bld g' L e (.slice A n c) xs → vcOps P Γr r (put φ d (.v true (.tuple #[]))) (Γ.set ix g') K) :
    aC P Γr d r φ Γ K (.bi 1 [T]) [.slice (if c = n then A else A.map (·.add (n * Rep.sz α))) m c'] := by
  intro w hw
  obtain ⟨i, hi, hz⟩ := Option.bind_eq_some_iff.1 hz'
  have hgΓ : g ∈ Γ := List.mem_of_getElem? hg
  have hset : Γ.set ix g = Γ := by
    apply List.ext_getElem?
    intro j
    by_cases e : j = ix
    · subst e
      have hlt : j < Γ.length := by
        rcases Nat.lt_or_ge j Γ.length with h | h
        · exact h
        · rw [List.getElem?_eq_none h] at hg; cases hg
      rw [List.getElem?_set_self hlt]
      exact hg.symm
    · rw [List.getElem?_set_ne (fun q => e q.symm)]
  by_cases hm0 : m = 0
  · subst hm0
    refine ⟨.tuple #[], w, 0, ?_, .inl ⟨rfl, ?_⟩⟩
    · simp only [qsem]
      cases (if c = n then A else A.map (·.add (n * Rep.sz α))) <;> simp [Builtin.clear_, run_underlying ht]
    · have := hk g h
      rwa [hset] at this
  · obtain ⟨cs, ⟨h1, h2⟩, h3⟩ := h
    rcases h2 with ⟨q0, A', q⟩ | ⟨b, o, cap, cur, q1, q2, q3, q4, q5, q6⟩
    · simp only [Value.slice.injEq] at q
      obtain ⟨_, _, rfl⟩ := q
      omega
    · simp only [Value.slice.injEq] at q1
      obtain ⟨rfl, rfl, rfl⟩ := q1
      have hne : ¬ cap + 1 = xs.length := by omega
      rw [if_neg hne]
      simp only [Option.map_some, add_mk]
      have hb := hw g (by simp [hgΓ]) b _ q4
      obtain ⟨m, rfl⟩ : ∃ k, m = k + 1 := ⟨m - 1, by omega⟩
      have hlen : (Builtin.zeroCells z.cells (m + 1)).toList.length = (m + 1) * Rep.sz α := by simp [size_zeroCells, hzs]
      have hmul : xs.length * Rep.sz α + (m + 1) * Rep.sz α ≤ (cap + 1) * Rep.sz α := by rw [← Nat.add_mul]; exact Nat.mul_le_mul_right _ hm
      have hone : ∀ v ∈ (Builtin.zeroCells z.cells (m + 1)).toList, v.oneCell' = true := by
        intro v hv
        simp only [Builtin.zeroCells, Array.toList_map, Array.toList_range, List.mem_map, List.mem_range] at hv
        obtain ⟨k, hk1, rfl⟩ := hv
        have hpos : 0 < z.cells.size := by
          rcases Nat.eq_zero_or_pos z.cells.size with q | q
          · rw [q] at hk1; simp at hk1
          · exact q
        have := Nat.mod_lt k hpos
        rw [getElem!_pos z.cells _ this]
        exact hz1 _ (Array.mem_toList_iff.2 (Array.getElem_mem this))
      have hst := run_storeCells_at P b (o + xs.length * Rep.sz α) e (Builtin.zeroCells z.cells (m + 1)).toList 0 cur w hb (by simp only [Nat.add_zero]; omega) hone
      simp only [Nat.add_zero] at hst
      refine ⟨.tuple #[], _, 0, ?_, .inr ⟨ix, g, b, _, _, hg, q4, (setRow_setBlk (cs := (cur.toList.take (o + xs.length * Rep.sz α) ++ (Builtin.zeroCells z.cells (m + 1)).toList ++ cur.toList.drop (o + xs.length * Rep.sz α + (Builtin.zeroCells z.cells (m + 1)).toList.length)).toArray) hb), ?_⟩⟩
      · simp only [qsem]
        simp [Builtin.clear_, run_underlying ht, zeroValue, typeInfo, hi, hz, hst]
        rfl
      · refine hk _ ⟨cs, ⟨h1, .inr ⟨b, o, cap, _, rfl, q2, q3, upd_self _ _ _, ?_, ?_⟩⟩, h3⟩
        · simp only [List.size_toArray, List.length_append, List.length_take, List.length_drop, Array.length_toList]
          omega
        · rw [← q6]
          have hle : o + xs.length * Rep.sz α ≤ cur.size := by omega
          simp only [List.append_assoc]
          rw [List.drop_append_of_le_length (by simp; omega), List.take_append_of_le_length (by simp; omega), List.drop_take, List.take_take]
          congr 1
          omega
end
/-- xs[l:h:m] -/
theorem qr_slc3 {P : Program} {Γ : Ctx} {t e : TypeId} {sz n cap l h m : Nat} {A : Option Addr} {k1 k2 k3 : IntKind} (ht : P.underlying t = some (.slice e)) (hs : szOf P e = some sz) (h1 : l ≤ h) (h2 : h ≤ m) (h3 : m ≤ cap) :
    QR P (.slc t true true true) [.slice A n cap, .int k1 l, .int k2 h, .int k3 m] Γ (.slice (if m = l then A else A.map (·.add (l * sz))) (h - l) (m - l)) := by
  intro w _
  obtain ⟨_, ti, hti, his⟩ := szOf_some hs
  have hsz : (sizeOf e).run P w = .ok sz w := by simp [sizeOf, typeInfo, hti, his]
  simp [qsem, popO, Instr.sliceAt, Instr.slice, Instr.sliceBounds, Instr.sliceBound, asIntOf, run_underlying ht, hsz, h1, h2, h3]
theorem qr_slc3' {P : Program} {Γ : Ctx} {t e : TypeId} {sz n cap h m : Nat} {A : Option Addr} {k2 k3 : IntKind} (ht : P.underlying t = some (.slice e)) (hs : szOf P e = some sz) (h2 : h ≤ m) (h3 : m ≤ cap) :
    QR P (.slc t false true true) [.slice A n cap, .int k2 h, .int k3 m] Γ (.slice A h m) := by
  intro w _
  obtain ⟨_, ti, hti, his⟩ := szOf_some hs
  have hsz : (sizeOf e).run P w = .ok sz w := by simp [sizeOf, typeInfo, hti, his]
  have hA : (if m = 0 then A else A.map (·.add (0 * sz))) = A := by
    split
    · rfl
    · cases A <;> simp [Addr.add]
  simp [qsem, popO, Instr.sliceAt, Instr.slice, Instr.sliceBounds, Instr.sliceBound, asIntOf, run_underlying ht, hsz, h2, h3]
  simpa using hA
theorem qr_cap {P : Program} {Γ : Ctx} {t e : TypeId} {n c : Nat} {A : Option Addr} (ht : P.underlying t = some (.slice e)) : QR P (.bi 0 [t]) [.slice A n c] Γ (.int .i64 c) := by
  intro w _
  simp [qsem, Builtin.cap_, run_underlying ht, goInt]
theorem SlOk.ofNone {α : Type} [Rep α] {h : Mem} {c : Nat} {xs : List α} (q : SlOk h none c xs) : xs = [] := by
  rcases q.at' with q | ⟨b, o, _, _, _, q, _⟩
  · exact q
  · cases q
theorem cells_lk {Γ : Ctx} {b : Nat} {T : TypeId} {fr : Nat × Nat} {cs : List Value} (h : lk Γ b (.cells cs.toArray T fr)) : Cells Γ b 0 cs := Cells.lk h fun j hj => by simp
theorem lk_r (Γ Γr : Ctx) : Mem.le (lk Γr) (lk (Γ ++ Γr)) := lk_sub fun g hg => by simp [hg]
theorem lk_l (Γ Γr : Ctx) : Mem.le (lk Γ) (lk (Γ ++ Γr)) := lk_sub fun g hg => by simp [hg]
theorem lk_m {g : PH} {Γ : Ctx} (h : g ∈ Γ) : Mem.le (lk [g]) (lk Γ) := lk_sub fun x hx => by simp at hx; subst hx; exact h
theorem SlOk.r {α : Type} [Rep α] {Γ Γr : Ctx} {A : Option Addr} {c : Nat} {xs : List α} (h : SlOk (lk Γr) A c xs) : SlOk (lk (Γ ++ Γr)) A c xs := h.mono (lk_r _ _)
/-! numbers -/
theorem wrap_id {x : Int} (h0 : -9223372036854775808 ≤ x) (h1 : x ≤ 9223372036854775807) : IntKind.i64.wrap x = x := by
  rw [IntKind.wrap_i64]; omega
end Go.Proofs.Ytniobbepliknmaa.V
