/- The symbolic walk is sound: statements, functions; no condition. -/
import Derived.Test.YtniobbepliknmaaVs
import Derived.Deep.LoopGhost
namespace Go.Proofs.Ytniobbepliknmaa.V
open Go
set_option linter.unusedVariables false
set_option linter.unusedSimpArgs false

theorem look_proj (φ : Fr) : ∀ (L : List Nat) t, look (proj φ L) t = if t ∈ L then look φ t else .dead
  | [], t => by simp [proj, look]
  | k :: L, t => by
    simp only [proj, look]
    by_cases h : k = t
    · subst h; simp
    · have hne : (k == t) = false := by simpa using h
      have h' : ¬ t = k := fun q => h q.symm
      simp [hne, look_proj φ L t, h']

theorem look_zip (φ : Fr) (Δ : Fr) : ∀ (M : List Nat) t, look (zipS M (looks φ M) ++ Δ) t = if t ∈ M then look φ t else look Δ t
  | [], t => by simp [zipS, looks]
  | k :: M, t => by
    simp only [zipS, looks, List.cons_append, look]
    by_cases h : k = t
    · subst h; simp
    · have hne : (k == t) = false := by simpa using h
      have h' : ¬ t = k := fun q => h q.symm
      simp [hne, look_zip φ Δ M t, h']

theorem looks_proj {φ φ' : Fr} : ∀ {N : List Nat}, looks φ' N = looks φ N → ∀ t ∈ N, look φ' t = look φ t
  | [], _, t, h => by simp at h
  | k :: N, h, t, ht => by
    simp only [looks, List.cons.injEq] at h
    rcases List.mem_cons.1 ht with rfl | ht
    · exact h.1
    · exact looks_proj h.2 t ht

section
variable {n : Nat} {Γr Γm : Ctx} {w0 : World} {φ φ' : Fr} {Γ Γ' : Ctx} {a : Act} {w : World} {P : Program}

/-- a frame that says less -/
theorem St.frame (h : St n Γr Γm w0 φ Γ a w) (hl : ∀ t, look φ' t = look φ t ∨ look φ' t = .dead) : St n Γr Γm w0 φ' Γ a w := by
  have hb : ∀ t b T cs, look φ' t = .box b T cs → look φ t = .box b T cs := fun t b T cs q => by
    rcases hl t with r | r
    · rw [← r]; exact q
    · rw [r] at q; cases q
  refine { h with fits := ?_, bx := fun t b T cs q => h.bx t b T cs (hb _ _ _ _ q), bxd := fun t t' b T cs T' cs' q q' => h.bxd _ _ _ _ _ _ _ (hb _ _ _ _ q) (hb _ _ _ _ q') }
  intro t
  rcases hl t with r | r
  · rw [r]; exact h.fits t
  · rw [r]; trivial

theorem St.ent (h : St n Γr Γm w0 φ Γ a w) (he : Ent Γ Γ') : St n Γr Γm w0 φ Γ' a w := by
  obtain ⟨ha1, ha2, ha3⟩ := List.pairwise_append.1 h.sat.apart
  have hcov : ∀ x ∈ Γ', ∀ k, x k ≠ none → ∃ g ∈ Γ, g k ≠ none := fun x hx k hk => by
    cases hxk : x k with
    | none => exact absurd hxk hk
    | some o => obtain ⟨g, hg, hgk⟩ := he.cov x hx k o hxk; exact ⟨g, hg, by rw [hgk]; simp⟩
  refine h.step ?_ (fun x hx k hk => .inr (hcov x hx k hk)) rfl rfl rfl (Nat.le_refl _) (fun _ _ _ => rfl)
  refine ⟨fun x hx k o hk => ?_, List.pairwise_append.2 ⟨he.apart ha1, ha2, fun x hx y hy k => ?_⟩⟩
  · rcases List.mem_append.1 hx with q | q
    · obtain ⟨g, hg, hgk⟩ := he.cov x q k o hk
      exact h.sat.holds g (by simp [hg]) k o hgk
    · exact h.sat.holds x (by simp [q]) k o hk
  · cases hxk : x k with
    | none => exact .inl rfl
    | some o =>
      obtain ⟨g, hg, hgk⟩ := hcov x hx k (by rw [hxk]; simp)
      rcases ha3 g hg y hy k with r | r
      · exact absurd r hgk
      · exact .inr r

theorem St.drewN (h : St n Γr Γm w0 φ Γ a w) (m : Nat) : St n Γr Γm w0 φ Γ a (w.drewN m) :=
  h.step ⟨h.sat.holds, h.sat.apart⟩ (fun g hg k hk => .inr ⟨g, hg, hk⟩) rfl rfl rfl (Nat.le_refl _) (fun _ _ _ => rfl)

def QQ (n : Nat) (Γr Γm : Ctx) (w0 : World) (Q : Post) : Exit → Act → World → Prop
  | .normal, a, w => ∃ φ Γ, Q.nrm φ Γ ∧ St n Γr Γm w0 φ Γ a w
  | .ret, a, w => ∃ φ Γ, Q.ret φ Γ ∧ St n Γr Γm w0 φ Γ a w
  | .exit id, a, w => ∃ φ Γ, Q.ex id φ Γ ∧ St n Γr Γm w0 φ Γ a w
  | _, _, _ => False

/-- a region that draws its order, whose operations only read -/
theorem vcQuiet_sound {locs : List Nat} {ops : Array Oper} {K : Fr → Ctx → Prop} {Qa : Act → Prop} {W : World}
    (hQ : ∀ φ a, K φ Γ → St n Γr Γm w0 φ Γ a W → Qa a) :
    ∀ (l : List Oper) (sl : List SOper), trOpers P n locs ops l = some sl → allQuiet sl = true → ∀ φ a, vcOps P Γr sl φ Γ K → St n Γr Γm w0 φ Γ a W →
      wpQuiet P ops (fun w' => ∃ m, w' = W.drewN m) Qa l a
  | [], sl, h, _, φ, a, hv, hst => by
    simp only [trOpers, Option.some.injEq] at h
    subst h
    exact hQ _ _ hv hst
  | o :: r, sl, h, haq, φ, a, hv, hst => by
    simp only [trOpers] at h
    split at h
    · rename_i so l' hso hl'
      simp only [Option.some.injEq] at h
      subst h
      simp only [allQuiet, Bool.and_eq_true] at haq
      have ih := vcQuiet_sound hQ r l' hl' haq.2
      unfold trOper at hso
      dsimp only at hso
      split at hso
      · rename_i g sop hg htr
        have hdst : so = ⟨o.dst, g, sop⟩ ∧ (∀ t, o.dst = some t → t < n) := by
          split at hso
          · rename_i d hd
            cases hc : (decide (d < n) && noStore sop) with
            | false => rw [hc] at hso; simp at hso
            | true =>
              rw [hc] at hso
              simp only [cond_true, Option.some.injEq] at hso
              simp only [Bool.and_eq_true, decide_eq_true_eq] at hc
              refine ⟨hso.symm, fun t ht => ?_⟩
              rw [hd] at ht; cases ht; exact hc.1
          · rename_i hd
            simp only [Option.some.injEq] at hso
            refine ⟨?_, fun t ht => ?_⟩
            · rw [hd]; exact hso.symm
            · rw [hd] at ht; cases ht
        obtain ⟨rfl, hdn⟩ := hdst
        have hkinds := kinds (n := n) (Γr := Γr) (Γm := Γm) (w0 := w0) htr
        have run : ∀ e : Bool, (e = true → Region.wanted o (yielded ops a.tmps) = true) → (e = false → Region.wanted o (yielded ops a.tmps) = false) →
            ((isPure sop = true ∧ pureV φ e sop (fun x => vcOps P Γr l' (put φ o.dst x) Γ K)) ∨
             (isPure sop = false ∧ isAsk sop = true ∧ askV P (Γ ++ Γr) φ e sop (fun x => vcOps P Γr l' (put φ o.dst x) Γ K))) →
            wpQuiet P ops (fun w' => ∃ m, w' = W.drewN m) Qa (o :: r) a := by
          intro e h1 h2 h3
          unfold wpQuiet
          have slot : ∀ (x : Sl) (v : Value), vcOps P Γr l' (put φ o.dst x) Γ K → notBox x → FitsSl x v → wpQuiet P ops (fun w' => ∃ m, w' = W.drewN m) Qa r (a.put o.dst v) :=
            fun x v hk hnb hf => ih _ _ hk (hst.put hdn hnb hf)
          have go : ∀ (x : Sl), vcOps P Γr l' (put φ o.dst x) Γ K → notBox x → (∀ m, ∃ v, (execOp a.eval o).run P (W.drewN m) = .ok (.value v) (W.drewN m) ∧ FitsSl x v) →
              o.quiet P a (fun w' => ∃ m, w' = W.drewN m) (wpQuiet P ops (fun w' => ∃ m, w' = W.drewN m) Qa r) := by
            intro x hk hnb hall
            obtain ⟨v, hr, hf⟩ := hall 0
            refine ⟨v, fun w' ⟨m, hm⟩ => ?_, slot x v hk hnb hf⟩
            subst hm
            obtain ⟨v', hr', hf'⟩ := hall m
            have := fits_one hnb hf' hf
            subst this
            unfold Oper.quietAt
            rw [hr']
            exact ⟨rfl, rfl⟩
          cases e with
          | false =>
            rw [if_neg (by rw [h2 rfl]; simp)]
            rcases h3 with ⟨hp, hv⟩ | ⟨hp, ha, hv⟩
            · rcases hkinds with ⟨_, hk⟩ | ⟨q, _⟩ | ⟨q, _⟩
              · obtain ⟨sl, hk1, hk2, hk3, _⟩ := hk _ _ _ hv
                exact slot sl undef hk1 hk2 (hk3 rfl)
              · rw [hp] at q; cases q
              · rw [hp] at q; cases q
            · rcases hkinds with ⟨q, _⟩ | ⟨_, _, hk⟩ | ⟨_, q, _⟩
              · rw [hp] at q; cases q
              · obtain ⟨sl, hk1, hk2, hk3, _⟩ := hk _ _ _ _ hv
                exact slot sl undef hk1 hk2 (hk3 rfl)
              · rw [ha] at q; cases q
          | true =>
            rw [if_pos (h1 rfl)]
            rcases h3 with ⟨hp, hv⟩ | ⟨hp, ha, hv⟩
            · rcases hkinds with ⟨_, hk⟩ | ⟨q, _⟩ | ⟨q, _⟩
              · obtain ⟨sl, hk1, hk2, _, hk4⟩ := hk _ _ _ hv
                exact go sl hk1 hk2 (fun m => hk4 rfl a _ hst.fits)
              · rw [hp] at q; cases q
              · rw [hp] at q; cases q
            · rcases hkinds with ⟨q, _⟩ | ⟨_, _, hk⟩ | ⟨_, q, _⟩
              · rw [hp] at q; cases q
              · obtain ⟨sl, hk1, hk2, _, hk4⟩ := hk _ _ _ _ hv
                exact go sl hk1 hk2 (fun m => hk4 rfl a _ (hst.drewN m))
              · rw [ha] at q; cases q
        cases hgd : o.guard with
        | none =>
          rw [hgd] at hg
          simp only [Option.some.injEq] at hg
          subst hg
          simp only [vcOps] at hv
          refine run true (fun _ => wanted_none o hgd _) (fun q => by cases q) ?_
          cases hp : isPure sop with
          | true => rw [hp] at hv; exact .inl ⟨rfl, hv⟩
          | false =>
            rw [hp] at hv
            cases ha : isAsk sop with
            | true => rw [ha] at hv; exact .inr ⟨rfl, rfl, hv⟩
            | false => simp [hp, ha] at haq
        | some jw =>
          obtain ⟨j, want⟩ := jw
          rw [hgd] at hg
          dsimp only at hg
          split at hg
          · rename_i t ht
            cases hc : decide (t < n) with
            | false => rw [hc] at hg; simp at hg
            | true =>
              rw [hc] at hg
              simp only [cond_true, Option.some.injEq] at hg
              subst hg
              have htn : t < a.tmps.size := by rw [hst.n]; exact of_decide_eq_true hc
              simp only [vcOps, gd] at hv
              cases hl : look φ t with
              | v ge x =>
                rw [hl] at hv
                cases x with
                | bool b =>
                  simp only at hv
                  have hfit := hst.fits t
                  rw [hl] at hfit
                  simp only [FitsSl] at hfit
                  have hy : yielded ops a.tmps j = (bif ge then some b else none) := by
                    unfold yielded
                    rw [ht]
                    simp only [Option.bind_some]
                    have : a.tmps[t]? = some (a.tmps.getD t undef) := by simp [Array.getD_eq_getD_getElem?, htn]
                    rw [this, hfit]
                    cases ge <;> rfl
                  have hw : Region.wanted o (yielded ops a.tmps) = (ge && (b == want)) := by
                    unfold Region.wanted
                    rw [hgd]
                    simp only [hy]
                    cases ge <;> cases b <;> cases want <;> rfl
                  refine run (ge && (b == want)) (fun q => by rw [hw]; exact q) (fun q => by rw [hw]; exact q) ?_
                  cases hp : isPure sop with
                  | true => rw [hp] at hv; exact .inl ⟨rfl, hv⟩
                  | false =>
                    rw [hp] at hv
                    cases ha : isAsk sop with
                    | true => rw [ha] at hv; exact .inr ⟨rfl, rfl, hv⟩
                    | false => simp [hp, ha] at haq
                | _ => exact hv.elim
              | _ => rw [hl] at hv; exact hv.elim
          · cases hg
      · cases hso
    · cases h

def pkOf (sl : List SOper) (E : List Nat) (i : Nat) : Bool × SOper := (E.contains i, (sl[i]?).getD ⟨none, none, .alloc true 0 undef⟩)
theorem pickOps_spec {sl : List SOper} {E : List Nat} : ∀ {C : List Nat} {l : List (Bool × SOper)}, pickOps sl E C = some l → l = C.map (pkOf sl E)
  | [], l, h => by simp only [pickOps, Option.some.injEq] at h; subst h; rfl
  | i :: C, l, h => by
    simp only [pickOps] at h
    split at h
    · rename_i x l' hx hl'
      simp only [Option.some.injEq] at h
      subst h
      rw [pickOps_spec hl']
      simp [pkOf, hx]
    · cases h

/-- a region whose order is drawn -/
theorem drawn_sound {locs : List Nat} {ops : Array Oper} {sl : List SOper} {C E : List Nat} {T : List (List Nat)} {l : List (Bool × SOper)} {K : Fr → Ctx → Prop} {Q : Exit → Act → World → Prop} {id : Nat}
    (hsl : trOpers P n locs ops ops.toList = some sl) (ht : trDrawn P ops sl C E T = some l) (hK : Ext K) (hQ : ∀ φ Γ a w, K φ Γ → St n Γr Γm w0 φ Γ a w → Q .normal a w)
    (hnb : noBoxes φ l) (hv : vcD P Γr l φ Γ K) (hst : St n Γr Γm w0 φ Γ a w) : (Code.region id ops true).wp P Q a w := by
  unfold trDrawn at ht
  cases hc : (P.follows .mixedOrders && decide (C.length = ops.size) && (List.range ops.size).all (fun i => C.contains i) && decide (T.length = ops.size) && ancOk ops.toList T 0 T && orderOk ops.toList sl E T [] C) with
  | false => rw [hc] at ht; simp at ht
  | true =>
    rw [hc] at ht
    simp only [cond_true] at ht
    simp only [Bool.and_eq_true, decide_eq_true_eq, List.all_eq_true] at hc
    obtain ⟨⟨⟨⟨⟨hm, hlen⟩, hall⟩, _⟩, hanc⟩, hord⟩ := hc
    have hl := pickOps_spec ht
    obtain ⟨hnd, _, hlt, hpair, _, hpre⟩ := orderOk_spec C [] hord
    have hA := ancOk_spec T 0 hanc
    obtain ⟨hsl1, hsl2⟩ := trOpers_at hsl
    have hsz : ∀ (i : Nat), (Array.replicate ops.size false).getD i false = false := fun i => by
      simp only [Array.getD_eq_getD_getElem?, Array.getElem?_replicate]
      split <;> rfl
    refine wp_region_any hm ?_
    have hgo := drawn_go (locs := locs) (ops := ops) (sl := sl) (E := E) (T := T) (pk := pkOf sl E) (Q := Q) hK (fun i o ho => hsl2 i o (by simpa using ho)) (fun i y hy => by simp [pkOf, hy])
      (fun k ys hk => by
        obtain ⟨o, ho, h⟩ := hA k ys hk
        exact ⟨o, by simpa using ho, h⟩) hQ C.length C (Array.replicate ops.size false) φ Γ a (w.drewN 1) rfl
      ⟨by simp, hnd, fun i => ?_, hpair, fun R1 j R2 hR o ho p hp => ?_, fun k ys _ hk => ?_, fun i hi d hd => ?_⟩ (by rw [← hl]; exact hv) (hst.drewN 1)
    · rw [hlen] at hgo
      exact hgo
    · constructor
      · intro hi
        have := hlt i hi
        simp only [Array.length_toList] at this
        refine ⟨this, ?_⟩
        simp [Array.getD_eq_getD_getElem?, Array.getElem?_replicate, this]
      · rintro ⟨hi, _⟩
        have := hall i (by simpa using hi)
        simpa using this
    · left
      rcases hpre R1 j R2 hR o (by simpa using ho) p hp with q | q
      · simp at q
      · exact q
    · rw [hsz] at hk; cases hk
    · refine noBoxes_mem l hnb (pkOf sl E i) ?_ d hd
      rw [hl]
      exact List.mem_map.2 ⟨i, hi, rfl⟩

theorem parseT_any : True := trivial
theorem noBoxesT_mem {φ : Fr} {sl : List SOper} {E : List Nat} {pk : Nat → Bool × SOper} (hpk : ∀ (i : Nat) y, sl[i]? = some y → pk i = (E.contains i, y)) : ∀ (t : DT Nat) (u : DT (Bool × SOper)), pickT sl E t = some u → noBoxesT φ u → ∀ i ∈ opsT t, ∀ d, (pk i).2.dst = some d → isBox (look φ d) = false
  | .fin, u, h, hb, i, hi => by simp [opsT] at hi
  | .no, u, h, hb, i, hi => by simp [opsT] at hi
  | .q x r, u, h, hb, i, hi => by
    simp only [pickT] at h
    split at h
    · rename_i y t hy ht
      simp only [Option.some.injEq] at h
      subst h
      simp only [noBoxesT] at hb
      intro d hd
      simp only [opsT, List.mem_cons] at hi
      rcases hi with rfl | hi
      · rw [hpk i y hy] at hd
        have := hb.1
        rw [hd] at this
        exact this
      · exact noBoxesT_mem hpk r t ht hb.2 i hi d hd
    · cases h
  | .alt x r s, u, h, hb, i, hi => by
    simp only [pickT] at h
    split at h
    · rename_i y t u' hy ht hu
      simp only [Option.some.injEq] at h
      subst h
      simp only [noBoxesT] at hb
      intro d hd
      simp only [opsT, List.mem_cons] at hi
      rcases hi with rfl | hi
      · rw [hpk i y hy] at hd
        have := hb.1
        rw [hd] at this
        exact this
      · exact noBoxesT_mem hpk r t ht hb.2 i hi d hd
    · cases h
/-- a region whose order is drawn, told as a tree -/
theorem tree_sound {locs : List Nat} {ops : Array Oper} {sl : List SOper} {C E : List Nat} {T : List (List Nat)} {u : DT (Bool × SOper)} {K : Fr → Ctx → Prop} {Q : Exit → Act → World → Prop} {id : Nat}
    (hsl : trOpers P n locs ops ops.toList = some sl) (ht : trTree P ops sl C E T = some u) (hK : Ext K) (hQ : ∀ φ Γ a w, K φ Γ → St n Γr Γm w0 φ Γ a w → Q .normal a w)
    (hnb : noBoxesT φ u) (hv : vcT P Γr u φ Γ K) (hst : St n Γr Γm w0 φ Γ a w) : (Code.region id ops true).wp P Q a w := by
  unfold trTree at ht
  split at ht
  · rename_i t _ _
    cases hc : (P.follows .mixedOrders && decide ((opsT t).length = ops.size) && (List.range ops.size).all (fun i => (opsT t).contains i) && (opsT t).all (fun i => decide (i < ops.size)) && decide (T.length = ops.size) && ancOk ops.toList T 0 T && okT sl E T [] t && cT T none t && dstsOk sl ops.size && depsOk 0 ops.toList) with
    | false => rw [hc] at ht; simp at ht
    | true =>
      rw [hc] at ht
      simp only [cond_true] at ht
      simp only [Bool.and_eq_true, decide_eq_true_eq, List.all_eq_true] at hc
      obtain ⟨⟨⟨⟨⟨⟨⟨⟨⟨hm, hlen⟩, hall⟩, hlt⟩, _⟩, hanc⟩, hok⟩, hct⟩, hds⟩, hdp⟩ := hc
      have hA := ancOk_spec T 0 hanc
      have hD := depsOk_spec ops.toList 0 hdp
      obtain ⟨hsl1, hsl2⟩ := trOpers_at hsl
      have hpk : ∀ (i : Nat) y, sl[i]? = some y → (fun i => (E.contains i, (sl[i]?).getD ⟨none, none, .dead⟩)) i = (E.contains i, y) := fun i y hy => by simp [hy]
      have hsz : ∀ (i : Nat), (Array.replicate ops.size false).getD i false = false := fun i => by
        simp only [Array.getD_eq_getD_getElem?, Array.getElem?_replicate]
        split <;> rfl
      refine wp_region_any hm ?_
      have hgo := tree_go (locs := locs) (ops := ops) (sl := sl) (T := T) (E := E) (pk := fun i => (E.contains i, (sl[i]?).getD ⟨none, none, .dead⟩)) (Q := Q) hK (fun i o ho => hsl2 i o (by simpa using ho)) hpk
        (fun k o ho p hp => by have := hD k o (by simpa using ho) p hp; omega)
        (fun i j hi hj hij d hdi hdj => by
          unfold dstsOk at hds
          simp only [List.all_eq_true] at hds
          have := hds i (by simpa using hi) j (by simpa using hj)
          simp only [Bool.or_eq_true, beq_iff_eq, hij, false_or] at this
          split at this
          · rename_i x y hx hy
            simp only [hx, Option.getD_some] at hdi
            simp only [hy, Option.getD_some] at hdj
            simp [dstEq, hdi, hdj] at this
          · cases this)
        (fun k ys hk => by
          obtain ⟨o, ho, h⟩ := hA k ys hk
          exact ⟨o, by simpa using ho, h⟩) hQ (opsT t).length t (Array.replicate ops.size false) φ Γ a (w.drewN 1) rfl
        ⟨by simp, fun i => ?_, hok, hct, fun k ys _ hk => ?_, noBoxesT_mem hpk t u ht hnb⟩ (by rw [← vcT_vcN hpk t u ht]; exact hv) (hst.drewN 1)
      · rw [hlen] at hgo
        exact hgo
      · constructor
        · intro hi
          have := hlt i hi
          refine ⟨by simpa using this, ?_⟩
          have h2 : i < ops.size := by simpa using this
          simp [Array.getD_eq_getD_getElem?, Array.getElem?_replicate, h2]
        · rintro ⟨hi, _⟩
          have := hall i (by simpa using hi)
          simpa using this
      · rw [hsz] at hk; cases hk
  · cases ht

theorem St.apt (h : St n Γr Γm w0 φ Γ a w) : Γ.Pairwise Disj := (List.pairwise_append.1 h.sat.apart).1
/-- heaps lent to be read -/
theorem St.lend {Γ1 Γf : Ctx} (h : St n Γr Γm w0 φ (Γ1 ++ Γf) a w) : St n (Γf ++ Γr) Γm w0 φ Γ1 a w :=
  { h with
    bx := fun t b T cs q => let ⟨a1, a2, a3⟩ := h.bx t b T cs q; ⟨a1, a2, fun g hg => a3 g (by simpa [List.append_assoc] using hg)⟩
    sat := by have := h.sat; rwa [List.append_assoc] at this
    own := fun g hg => h.own g (by simp [hg]) }
theorem St.back {Γ1 Γf : Ctx} (h : St n (Γf ++ Γr) Γm w0 φ Γ1 a w) (ho : ∀ g ∈ Γf, ∀ k, g k ≠ none → w0.heap.size ≤ k ∨ ∃ g' ∈ Γm, g' k ≠ none) : St n Γr Γm w0 φ (Γ1 ++ Γf) a w :=
  { h with
    bx := fun t b T cs q => let ⟨a1, a2, a3⟩ := h.bx t b T cs q; ⟨a1, a2, fun g hg => a3 g (by simpa [List.append_assoc] using hg)⟩
    sat := by have := h.sat; rwa [← List.append_assoc] at this
    own := fun g hg => by
      rcases List.mem_append.1 hg with q | q
      · exact h.own g q
      · exact ho g q }
theorem proj_ext {φ ψ : Fr} (h : LookEq φ ψ) : ∀ (L : List Nat), proj φ L = proj ψ L
  | [] => rfl
  | t :: L => by simp only [proj]; rw [h t, proj_ext h L]

theorem vc_sound {locs : List Nat} : ∀ (c : Code) (A : List (List Nat)) (s : Stmt) (A' : List (List Nat)), trCode P n locs c A = some (s, A') →
    ∀ (Q : Post) φ Γ a w, vc P Γr s φ Γ Q → St n Γr Γm w0 φ Γ a w → c.wp P (QQ n Γr Γm w0 Q) a w
  | .skip, A, s, A', h, Q, φ, Γ, a, w, hv, hst => by
    simp only [trCode, Option.some.injEq, Prod.mk.injEq] at h
    obtain ⟨rfl, rfl⟩ := h
    exact wp_skip ⟨φ, Γ, hv, hst⟩
  | .ret, A, s, A', h, Q, φ, Γ, a, w, hv, hst => by
    simp only [trCode, Option.some.injEq, Prod.mk.injEq] at h
    obtain ⟨rfl, rfl⟩ := h
    exact wp_ret ⟨φ, Γ, hv, hst⟩
  | .exit id, A, s, A', h, Q, φ, Γ, a, w, hv, hst => by
    simp only [trCode, Option.some.injEq, Prod.mk.injEq] at h
    obtain ⟨rfl, rfl⟩ := h
    exact wp_exit ⟨φ, Γ, hv, hst⟩
  | .region id ops draw, A, s, A', h, Q, φ, Γ, a, w, hv, hst => by
    simp only [trCode] at h
    split at h
    · rename_i L A1
      split at h
      · rename_i sl hsl
        have hproj : ∀ φ' t, look (proj φ' L) t = look φ' t ∨ look (proj φ' L) t = .dead := fun φ' t => by
          rw [look_proj]
          by_cases hm : t ∈ L
          · left; rw [if_pos hm]
          · right; rw [if_neg hm]
        cases draw with
        | false =>
          simp only [cond_false, Option.some.injEq, Prod.mk.injEq] at h
          obtain ⟨rfl, rfl⟩ := h
          simp only [vc] at hv
          refine wp_region_list (vcOps_sound (K := Fin L Q.nrm) ?_ ops.toList sl hsl φ Γ a w hv hst)
          intro φ' Γ' a' w' hk hst'
          exact ⟨proj φ' L, Γ', hk, hst'.frame (hproj φ')⟩
        | true =>
          cases hc : (P.follows .mixedOrders && Region.lexB .any ops && allQuiet sl) with
          | false =>
            rw [hc] at h
            simp only [cond_true, cond_false] at h
            split at h
            · rename_i C E A'
              split at h
              · rename_i l hl
                simp only [Option.some.injEq, Prod.mk.injEq] at h
                obtain ⟨rfl, rfl⟩ := h
                simp only [vc] at hv
                obtain ⟨hnb, Γ1, Γf, J, hent, hv, hJ⟩ := hv
                have hst1 := hst.ent hent
                refine tree_sound (Γr := Γf ++ Γr) (K := fun φ' Γ' => Up (Γ' ++ Γf) (J (proj φ' L))) hsl hl (fun φ ψ Γ h k => ?_) ?_ hnb hv hst1.lend
                · simp only at k ⊢
                  rw [← proj_ext h]
                  exact k
                · intro φ' Γ' a' w' hk hst'
                  have hbk := hst'.back (fun g hg => hst1.own g (by simp [hg]))
                  obtain ⟨Γ'', hent', hk⟩ := hk hbk.apt
                  exact ⟨proj φ' L, Γ'', hJ _ _ hk, (hbk.ent hent').frame (hproj φ')⟩
              · cases h
            · rename_i C E A' _
              split at h
              · rename_i l hl
                simp only [Option.some.injEq, Prod.mk.injEq] at h
                obtain ⟨rfl, rfl⟩ := h
                simp only [vc] at hv
                obtain ⟨hnb, hv⟩ := hv
                cases he : anyEarly l with
                | false =>
                  rw [he] at hv
                  simp only [cond_false] at hv
                  refine drawn_sound (K := Fin L Q.nrm) hsl hl (fun φ ψ Γ h k => ?_) ?_ hnb hv hst
                  · unfold Fin at k ⊢
                    rw [← proj_ext h]
                    exact k
                  · intro φ' Γ' a' w' hk hst'
                    exact ⟨proj φ' L, Γ', hk, hst'.frame (hproj φ')⟩
                | true =>
                  rw [he] at hv
                  simp only [cond_true] at hv
                  obtain ⟨Γ1, Γf, hent, hv⟩ := hv
                  have hst1 := hst.ent hent
                  refine drawn_sound (Γr := Γf ++ Γr) (K := fun φ' Γ' => Q.nrm (proj φ' L) (Γ' ++ Γf)) hsl hl (fun φ ψ Γ h k => ?_) ?_ hnb hv hst1.lend
                  · simp only at k ⊢
                    rw [← proj_ext h]
                    exact k
                  · intro φ' Γ' a' w' hk hst'
                    exact ⟨proj φ' L, _, hk, (hst'.back (fun g hg => hst1.own g (by simp [hg]))).frame (hproj φ')⟩
              · cases h
            · cases h
          | true =>
            rw [hc] at h
            simp only [cond_true, Option.some.injEq, Prod.mk.injEq] at h
            obtain ⟨rfl, rfl⟩ := h
            simp only [Bool.and_eq_true] at hc
            simp only [vc] at hv
            refine wp_region_quiet (C := fun w' => ∃ m, w' = w.drewN m) hc.1.1 hc.1.2 ⟨1, rfl⟩ ?_
            refine vcQuiet_sound (K := Fin L Q.nrm) (W := w) ?_ ops.toList sl hsl hc.2 φ a hv hst
            intro φ' a' hk hst' w' ⟨m, hm⟩
            subst hm
            exact ⟨proj φ' L, Γ, hk, (hst'.drewN m).frame (hproj φ')⟩
      · cases h
    · cases h
  | .seq c d, A, s, A', h, Q, φ, Γ, a, w, hv, hst => by
    simp only [trCode] at h
    cases hc : decide (nx c ≤ 1) with
    | true =>
      rw [hc] at h
      simp only [cond_true] at h
      split at h
      · rename_i s1 A1 h1
        split at h
        · rename_i s2 A2 h2
          simp only [Option.some.injEq, Prod.mk.injEq] at h
          obtain ⟨rfl, rfl⟩ := h
          simp only [vc] at hv
          refine wp_seq (wp_mono (vc_sound c A s1 A1 h1 _ φ Γ a w hv hst) ?_)
          intro e a' w' hq
          cases e with
          | normal => obtain ⟨φ', Γ', hk, hst'⟩ := hq; exact vc_sound d A1 s2 A2 h2 Q φ' Γ' a' w' hk hst'
          | ret => exact hq
          | exit id => exact hq
          | _ => exact hq.elim
        · cases h
      · cases h
    | false =>
      rw [hc] at h
      simp only [cond_false] at h
      split at h
      · rename_i M N A0
        split at h
        · rename_i s1 A1 h1
          split at h
          · rename_i s2 A2 h2
            simp only [Option.some.injEq, Prod.mk.injEq] at h
            obtain ⟨rfl, rfl⟩ := h
            simp only [vc] at hv
            obtain ⟨J, hv1, hv2⟩ := hv
            refine wp_seq (wp_mono (vc_sound c A0 s1 A1 h1 _ φ Γ a w hv1 hst) ?_)
            intro e a' w' hq
            cases e with
            | normal =>
              obtain ⟨φ', Γ', ⟨hN, hup⟩, hst'⟩ := hq
              obtain ⟨Γ2, hent, hJ⟩ := hup hst'.apt
              refine vc_sound d A1 s2 A2 h2 Q _ Γ2 a' w' (hv2 _ _ hJ) ((hst'.ent hent).frame ?_)
              intro t
              rw [look_zip, look_proj]
              by_cases hM : t ∈ M
              · left; rw [if_pos hM]
              · rw [if_neg hM]
                by_cases hN' : t ∈ N
                · left; rw [if_pos hN']; exact (looks_proj hN t hN').symm
                · right; rw [if_neg hN']
            | ret => exact hq
            | exit id => exact hq
            | _ => exact hq.elim
          · cases h
        · cases h
      · cases h
  | .cond c x y, A, s, A', h, Q, φ, Γ, a, w, hv, hst => by
    simp only [trCode] at h
    split at h
    · rename_i s1 A1 h1
      split at h
      · rename_i s2 A2 h2
        simp only [Option.some.injEq, Prod.mk.injEq] at h
        obtain ⟨rfl, rfl⟩ := h
        simp only [vc] at hv
        split at hv
        · rename_i e b hc
          obtain ⟨rfl, hx, hy⟩ := hv
          have ev := eval_of hst.fits c (by rw [hc])
          rw [hc] at ev
          refine wp_cond_split ev (fun q => ?_) (fun q => ?_)
          · exact vc_sound x A s1 A1 h1 Q φ Γ a w (hx q) hst
          · exact vc_sound y A1 s2 A2 h2 Q φ Γ a w (hy q) hst
        · exact hv.elim
      · cases h
    · cases h
  | .block id c, A, s, A', h, Q, φ, Γ, a, w, hv, hst => by
    simp only [trCode] at h
    split at h
    · rename_i s1 A1 h1
      simp only [Option.some.injEq, Prod.mk.injEq] at h
      obtain ⟨rfl, rfl⟩ := h
      simp only [vc] at hv
      refine wp_block (wp_mono (vc_sound c A s1 A1 h1 _ φ Γ a w hv hst) ?_)
      intro e a' w' hq
      cases e with
      | normal => exact hq
      | ret => exact hq
      | exit j =>
        obtain ⟨φ', Γ', hk, hst'⟩ := hq
        simp only [Post.inBlock] at hk
        simp only [Exit.inBlock]
        by_cases hj : j = id
        · subst hj
          rw [if_pos rfl]
          simp only [BEq.rfl, cond_true] at hk
          exact ⟨φ', Γ', hk, hst'⟩
        · rw [if_neg hj]
          have : (j == id) = false := by simpa using hj
          rw [this] at hk
          exact ⟨φ', Γ', hk, hst'⟩
      | _ => exact hq.elim
    · cases h
  | .loop c, A, s, A', h, Q, φ, Γ, a, w, hv, hst => by
    simp only [trCode] at h
    split at h
    · rename_i M N A0
      split at h
      · rename_i s1 A1 h1
        simp only [Option.some.injEq, Prod.mk.injEq] at h
        obtain ⟨rfl, rfl⟩ := h
        simp only [vc] at hv
        obtain ⟨I, ⟨k0, hup0⟩, hround⟩ := hv
        obtain ⟨Γ0, hent0, hI0⟩ := hup0 hst.apt
        have toFrame : ∀ φ' Γ' a' w', looks φ' N = looks φ N → St n Γr Γm w0 φ' Γ' a' w' → St n Γr Γm w0 (zipS M (looks φ' M) ++ proj φ N) Γ' a' w' := by
          intro φ' Γ' a' w' hN hst'
          refine hst'.frame (fun t => ?_)
          rw [look_zip, look_proj]
          by_cases hM : t ∈ M
          · left; rw [if_pos hM]
          · rw [if_neg hM]
            by_cases hN' : t ∈ N
            · left; rw [if_pos hN']; exact (looks_proj hN t hN').symm
            · right; rw [if_neg hN']
        refine wp_loop_ghost (fun k a w => ∃ vs Γ', I k vs Γ' ∧ St n Γr Γm w0 (zipS M vs ++ proj φ N) Γ' a w) k0 ⟨_, Γ0, hI0, toFrame φ Γ0 a w rfl (hst.ent hent0)⟩ ?_
        intro k a' w' ⟨vs, Γ', hI, hst'⟩
        refine wp_mono (vc_sound c A0 s1 A1 h1 _ _ Γ' a' w' (hround k vs Γ' hI) hst') ?_
        intro e a2 w2 hq
        cases e with
        | normal =>
          obtain ⟨φ2, Γ2, ⟨hN, k', hlt, hup⟩, hst2⟩ := hq
          obtain ⟨Γ3, hent, hI'⟩ := hup hst2.apt
          exact ⟨k', hlt, _, Γ3, hI', toFrame φ2 Γ3 a2 w2 hN (hst2.ent hent)⟩
        | ret => exact hq
        | exit id => exact hq
        | _ => exact hq.elim
      · cases h
    · cases h
  | .rangeFunc _ _ _ _, A, s, A', h, Q, φ, Γ, a, w, hv, hst => by simp [trCode] at h
  | .scope _, A, s, A', h, Q, φ, Γ, a, w, hv, hst => by simp [trCode] at h
  | .label _, A, s, A', h, Q, φ, Γ, a, w, hv, hst => by simp [trCode] at h
  | .goto _, A, s, A', h, Q, φ, Γ, a, w, hv, hst => by simp [trCode] at h
  | .refuse _, A, s, A', h, Q, φ, Γ, a, w, hv, hst => by simp [trCode] at h

theorem look_args : ∀ (l : List Value) (i t : Nat), look (args0 i l) t = match (if i ≤ t then l[t - i]? else none) with | some v => .v true v | none => .dead
  | [], i, t => by simp [args0, look]
  | x :: r, i, t => by
    simp only [args0, look]
    by_cases h : i = t
    · subst h; simp
    · have hne : (i == t) = false := by simpa using h
      simp only [hne, cond_false, look_args r (i + 1) t]
      by_cases hle : i ≤ t
      · have h1 : i + 1 ≤ t := by omega
        rw [if_pos h1, if_pos hle]
        rw [show t - i = (t - (i + 1)) + 1 by omega]
        simp
      · rw [if_neg (by omega), if_neg hle]

theorem resSlots_run : ∀ (l : List ResultVar) (res : List (Nat × Option (Bool × Nat))), resSlots P l = some res → St n Γr Γm w0 φ Γ a w → slotsOn φ res →
    (l.mapM (m := Sem) fun | .tmp t => pure (a.tmps.getD t undef) | .cell c t => do loadVar t (← asAddr (a.tmps.getD c undef))).run P w = .ok (slotVals φ res) w
  | [], res, h, hst, hon => by simp only [resSlots, Option.some.injEq] at h; subst h; rfl
  | .tmp t :: r, res, h, hst, hon => by
    simp only [resSlots] at h
    split at h
    · rename_i l hl
      simp only [Option.some.injEq] at h
      subst h
      have := resSlots_run r l hl hst hon.2
      have h1 := eval_of hst.fits (.tmp t) (by simpa [val] using hon.1)
      simp only [Act.eval, val] at h1
      simp only [List.mapM_cons, Sem.run_bind, Sem.run_pure, Result.andThen_ok, this, slotVals, h1]
    · cases h
  | .cell c T :: r, res, h, hst, hon => by
    simp only [resSlots] at h
    split at h
    · rename_i l m hl hs
      simp only [Option.some.injEq] at h
      subst h
      obtain ⟨hon1, hon2⟩ := hon
      have := resSlots_run r l hl hst hon2
      cases hc : look φ c with
      | box b T' cs =>
        rw [hc] at hon1
        have hf := hst.fits c
        rw [hc] at hf
        simp only [FitsSl] at hf
        obtain ⟨hb, _, _⟩ := hst.bx _ _ _ _ hc
        have hcell : ∀ j v, (cs.take m)[j]? = some v → w.cell? ((⟨b, 0, none⟩ : Addr).add j) = some v := by
          intro j v hv
          rw [add_mk]
          simp only [World.cell?, hb]
          rw [if_neg (by simp)]
          rw [List.getElem?_take] at hv
          split at hv
          · simpa using hv
          · cases hv
        have hrun := mkv_run hs (vs := cs.take m) (by simp; exact Nat.min_eq_left hon1.1) hon1.2 hcell
        simp only [Instr.loadAt, Instr.sureAddr, Sem.run_bind, Sem.run_pure, Result.andThen_ok] at hrun
        have hadr : (asAddr (a.tmps.getD c undef)).run P w = .ok ⟨b, 0, none⟩ w := by rw [hf]; rfl
        simp only [List.mapM_cons, Sem.run_bind, Sem.run_pure, Result.andThen_ok, hadr, hrun, this, slotVals, hc, boxV]
      | _ => rw [hc] at hon1; exact hon1.elim
    · cases h

/-- **A FUNCTION**: what must be shown of its text gives its contract. -/
theorem ret_of_vcE {f : FuncId} {locs : List Nat} {A : List (List Nat)} {S : FnS} (htr : trFn P f locs A = some S) {args : List Value} (hargs : args.length ≤ S.n) {R : Value → Ctx → Prop}
    (Γ0 : Ctx) (hent0 : Ent Γm Γ0) (hv : vc P Γr S.body (args0 0 args) Γ0 (PostR S.res R)) : Ret P f args Γr Γm R := by
  unfold trFn at htr
  split at htr
  · rename_i fn hfn
    split at htr
    · rename_i c res hbody hres
      cases hname : (fn.name == "runtime.NumGoroutine") with
      | true => rw [hname] at htr; simp at htr
      | false =>
        rw [hname] at htr
        simp only [cond_false] at htr
        split at htr
        · rename_i s A' hcode
          simp only [Option.some.injEq] at htr
          subst htr
          refine ⟨by unfold isFn; simp [hfn, hbody, hname], fun w hsat => ?_⟩
          refine calls_of_wp hfn hbody ?_
          dsimp only at hargs hv
          have hst : St fn.ntmps Γr Γm w (args0 0 args) Γm { tmps := args.toArray ++ Array.replicate (fn.ntmps - args.toArray.size) undef, defers := [] } w := by
            refine { n := by simp; omega, defers := rfl, fits := ?_, bx := ?_, bxd := ?_, sat := hsat, own := fun h hh k hk => .inr ⟨h, hh, hk⟩, os := rfl, tape := rfl, output := rfl, size := Nat.le_refl _, same := fun _ _ _ => rfl }
            · intro t
              rw [look_args]
              simp only [Nat.zero_le, if_true, Nat.sub_zero]
              cases hl : args[t]? with
              | none => trivial
              | some v =>
                have hlt : t < args.length := by
                  rcases Nat.lt_or_ge t args.length with h | h
                  · exact h
                  · rw [List.getElem?_eq_none h] at hl; cases hl
                simp only [FitsSl, cond_true]
                rw [Array.getD_eq_getD_getElem?, Array.getElem?_append_left (by simpa using hlt)]
                simp [hl]
            · intro t b T cs hl
              rw [look_args] at hl
              split at hl <;> cases hl
            · intro t t' b T cs T' cs' hl
              rw [look_args] at hl
              split at hl <;> cases hl
          refine wp_mono (vc_sound c A s A' hcode _ _ _ _ _ hv (hst.ent hent0)) ?_
          have fin : ∀ φ Γ a w', ResultP res R φ Γ → St fn.ntmps Γr Γm w φ Γ a w' → a.defers = [] ∧ ∃ v, (results fn a.tmps).run P w' = .ok v w' ∧
              ∃ v' Γ', Ending.returned v = .returned v' ∧ R v' Γ' ∧ Done Γr Γm Γ' w w' := by
            intro φ Γ a w' ⟨hon, hup⟩ hst'
            obtain ⟨Γ', hent, hR⟩ := hup hst'.apt
            have hst2 := hst'.ent hent
            refine ⟨hst'.defers, resV (slotVals φ res), ?_, resV (slotVals φ res), Γ', rfl, hR, ?_⟩
            · have h1 := resSlots_run fn.results.toList res hres hst' hon
              unfold results
              rw [Array.mapM_eq_mapM_toList]
              simp only [Sem.run_bind, Sem.run_map]
              erw [h1]
              simp only [Result.andThen_ok, Sem.run_pure]
              generalize slotVals φ res = l
              match l with
              | [] => rfl
              | [x] => rfl
              | x :: y :: r => simp [resV]
            · exact ⟨hst2.sat, hst2.own, hst2.os, hst2.tape, hst2.output, hst2.size, hst2.same⟩
          intro e a' w' hq
          cases e with
          | normal => obtain ⟨φ', Γ', hk, hst'⟩ := hq; exact fin _ _ _ _ hk hst'
          | ret => obtain ⟨φ', Γ', hk, hst'⟩ := hq; exact fin _ _ _ _ hk hst'
          | exit id => obtain ⟨_, _, hk, _⟩ := hq; exact hk.elim
          | _ => exact hq.elim
        · cases htr
    · cases htr
  · cases htr
theorem Ent.refl' (Γ : Ctx) : Ent Γ Γ := ⟨fun h hh k o hk => ⟨h, hh, hk⟩, id⟩
theorem ret_of_vc {f : FuncId} {locs : List Nat} {A : List (List Nat)} {S : FnS} (htr : trFn P f locs A = some S) {args : List Value} (hargs : args.length ≤ S.n) {R : Value → Ctx → Prop}
    (hv : vc P Γr S.body (args0 0 args) Γm (PostR S.res R)) : Ret P f args Γr Γm R := ret_of_vcE htr hargs Γm (Ent.refl' _) hv
theorem Ent.emp' : Ent [] [emp] := ⟨fun h hh k o hk => by simp at hh; subst hh; simp [emp] at hk, fun _ => by simp⟩
/-- with an empty heap to build in -/
theorem ret_of_vc1 {f : FuncId} {locs : List Nat} {A : List (List Nat)} {S : FnS} (htr : trFn P f locs A = some S) {args : List Value} (hargs : args.length ≤ S.n) {R : Value → Ctx → Prop}
    (hv : vc P Γr S.body (args0 0 args) [emp] (PostR S.res R)) : Ret P f args Γr [] R := ret_of_vcE htr hargs [emp] Ent.emp' hv
end
end Go.Proofs.Ytniobbepliknmaa.V
