/- The symbolic walk is sound: statements, functions; no condition. -/
import Derived.Test.YtniobbepliknmaaVg
import Derived.Deep.LoopGhost
namespace Go.Proofs.Ytniobbepliknmaa.V
open Go
set_option linter.unusedVariables false
set_option linter.unusedSimpArgs false

theorem look_proj (φ : Fr) : ∀ (L : List Nat) t, look (proj φ L) t = if t ∈ L then look φ t else .dead
  | [], t => by simp [proj, look]
  | k :: L, t => by
    simp only [proj, look]
    by_cases h : k = t
    · subst h; simp
    · have hne : (k == t) = false := by simpa using h
      have h' : ¬ t = k := fun q => h q.symm
      simp [hne, look_proj φ L t, h']

theorem look_zip (φ : Fr) (Δ : Fr) : ∀ (M : List Nat) t, look (zipS M (looks φ M) ++ Δ) t = if t ∈ M then look φ t else look Δ t
  | [], t => by simp [zipS, looks]
  | k :: M, t => by
    simp only [zipS, looks, List.cons_append, look]
    by_cases h : k = t
    · subst h; simp
    · have hne : (k == t) = false := by simpa using h
      have h' : ¬ t = k := fun q => h q.symm
      simp [hne, look_zip φ Δ M t, h']

theorem looks_proj {φ φ' : Fr} : ∀ {N : List Nat}, looks φ' N = looks φ N → ∀ t ∈ N, look φ' t = look φ t
  | [], _, t, h => by simp at h
  | k :: N, h, t, ht => by
    simp only [looks, List.cons.injEq] at h
    rcases List.mem_cons.1 ht with rfl | ht
    · exact h.1
    · exact looks_proj h.2 t ht

section
variable {n : Nat} {Γr Γm : Ctx} {w0 : World} {φ φ' : Fr} {Γ Γ' : Ctx} {a : Act} {w : World} {P : Program}

/-- a frame that says less -/
theorem St.frame (h : St n Γr Γm w0 φ Γ a w) (hl : ∀ t, look φ' t = look φ t ∨ look φ' t = .dead) : St n Γr Γm w0 φ' Γ a w := by
  have hb : ∀ t b T cs, look φ' t = .box b T cs → look φ t = .box b T cs := fun t b T cs q => by
    rcases hl t with r | r
    · rw [← r]; exact q
    · rw [r] at q; cases q
  refine { h with fits := ?_, bx := fun t b T cs q => h.bx t b T cs (hb _ _ _ _ q), bxd := fun t t' b T cs T' cs' q q' => h.bxd _ _ _ _ _ _ _ (hb _ _ _ _ q) (hb _ _ _ _ q') }
  intro t
  rcases hl t with r | r
  · rw [r]; exact h.fits t
  · rw [r]; trivial

theorem St.ent (h : St n Γr Γm w0 φ Γ a w) (he : Ent Γ Γ') : St n Γr Γm w0 φ Γ' a w := by
  obtain ⟨ha1, ha2, ha3⟩ := List.pairwise_append.1 h.sat.apart
  have hcov : ∀ x ∈ Γ', ∀ k, x k ≠ none → ∃ g ∈ Γ, g k ≠ none := fun x hx k hk => by
    cases hxk : x k with
    | none => exact absurd hxk hk
    | some o => obtain ⟨g, hg, hgk⟩ := he.cov x hx k o hxk; exact ⟨g, hg, by rw [hgk]; simp⟩
  refine h.step ?_ (fun x hx k hk => .inr (hcov x hx k hk)) rfl rfl rfl (Nat.le_refl _) (fun _ _ _ => rfl)
  refine ⟨fun x hx k o hk => ?_, List.pairwise_append.2 ⟨he.apart ha1, ha2, fun x hx y hy k => ?_⟩⟩
  · rcases List.mem_append.1 hx with q | q
    · obtain ⟨g, hg, hgk⟩ := he.cov x q k o hk
      exact h.sat.holds g (by simp [hg]) k o hgk
    · exact h.sat.holds x (by simp [q]) k o hk
  · cases hxk : x k with
    | none => exact .inl rfl
    | some o =>
      obtain ⟨g, hg, hgk⟩ := hcov x hx k (by rw [hxk]; simp)
      rcases ha3 g hg y hy k with r | r
      · exact absurd r hgk
      · exact .inr r

theorem St.drewN (h : St n Γr Γm w0 φ Γ a w) (m : Nat) : St n Γr Γm w0 φ Γ a (w.drewN m) :=
  h.step ⟨h.sat.holds, h.sat.apart⟩ (fun g hg k hk => .inr ⟨g, hg, hk⟩) rfl rfl rfl (Nat.le_refl _) (fun _ _ _ => rfl)

def QQ (n : Nat) (Γr Γm : Ctx) (w0 : World) (Q : Post) : Exit → Act → World → Prop
  | .normal, a, w => ∃ φ Γ, Q.nrm φ Γ ∧ St n Γr Γm w0 φ Γ a w
  | .ret, a, w => ∃ φ Γ, Q.ret φ Γ ∧ St n Γr Γm w0 φ Γ a w
  | .exit id, a, w => ∃ φ Γ, Q.ex id φ Γ ∧ St n Γr Γm w0 φ Γ a w
  | _, _, _ => False

/-- a region that draws its order, whose operations only read -/
theorem vcQuiet_sound {locs : List Nat} {ops : Array Oper} {K : Fr → Ctx → Prop} {Qa : Act → Prop} {W : World}
    (hQ : ∀ φ a, K φ Γ → St n Γr Γm w0 φ Γ a W → Qa a) :
    ∀ (l : List Oper) (sl : List SOper), trOpers P n locs ops l = some sl → allQuiet sl = true → ∀ φ a, vcOps P Γr sl φ Γ K → St n Γr Γm w0 φ Γ a W →
      wpQuiet P ops (fun w' => ∃ m, w' = W.drewN m) Qa l a
  | [], sl, h, _, φ, a, hv, hst => by
    simp only [trOpers, Option.some.injEq] at h
    subst h
    exact hQ _ _ hv hst
  | o :: r, sl, h, haq, φ, a, hv, hst => by
    simp only [trOpers] at h
    split at h
    · rename_i so l' hso hl'
      simp only [Option.some.injEq] at h
      subst h
      simp only [allQuiet, Bool.and_eq_true] at haq
      have ih := vcQuiet_sound hQ r l' hl' haq.2
      unfold trOper at hso
      dsimp only at hso
      split at hso
      · rename_i g sop hg htr
        have hdst : so = ⟨o.dst, g, sop⟩ ∧ (∀ t, o.dst = some t → t < n) := by
          split at hso
          · rename_i d hd
            cases hc : (decide (d < n) && noStore sop) with
            | false => rw [hc] at hso; simp at hso
            | true =>
              rw [hc] at hso
              simp only [cond_true, Option.some.injEq] at hso
              simp only [Bool.and_eq_true, decide_eq_true_eq] at hc
              refine ⟨hso.symm, fun t ht => ?_⟩
              rw [hd] at ht; cases ht; exact hc.1
          · rename_i hd
            simp only [Option.some.injEq] at hso
            refine ⟨?_, fun t ht => ?_⟩
            · rw [hd]; exact hso.symm
            · rw [hd] at ht; cases ht
        obtain ⟨rfl, hdn⟩ := hdst
        have hkinds := kinds (n := n) (Γr := Γr) (Γm := Γm) (w0 := w0) htr
        have run : ∀ e : Bool, (e = true → Region.wanted o (yielded ops a.tmps) = true) → (e = false → Region.wanted o (yielded ops a.tmps) = false) →
            ((isPure sop = true ∧ pureV φ e sop (fun x => vcOps P Γr l' (put φ o.dst x) Γ K)) ∨
             (isPure sop = false ∧ isAsk sop = true ∧ askV (Γ ++ Γr) φ e sop (fun x => vcOps P Γr l' (put φ o.dst x) Γ K))) →
            wpQuiet P ops (fun w' => ∃ m, w' = W.drewN m) Qa (o :: r) a := by
          intro e h1 h2 h3
          unfold wpQuiet
          have slot : ∀ (x : Sl) (v : Value), vcOps P Γr l' (put φ o.dst x) Γ K → notBox x → FitsSl x v → wpQuiet P ops (fun w' => ∃ m, w' = W.drewN m) Qa r (a.put o.dst v) :=
            fun x v hk hnb hf => ih _ _ hk (hst.put hdn hnb hf)
          have go : ∀ (x : Sl), vcOps P Γr l' (put φ o.dst x) Γ K → notBox x → (∀ m, ∃ v, (execOp a.eval o).run P (W.drewN m) = .ok (.value v) (W.drewN m) ∧ FitsSl x v) →
              o.quiet P a (fun w' => ∃ m, w' = W.drewN m) (wpQuiet P ops (fun w' => ∃ m, w' = W.drewN m) Qa r) := by
            intro x hk hnb hall
            obtain ⟨v, hr, hf⟩ := hall 0
            refine ⟨v, fun w' ⟨m, hm⟩ => ?_, slot x v hk hnb hf⟩
            subst hm
            obtain ⟨v', hr', hf'⟩ := hall m
            have := fits_one hnb hf' hf
            subst this
            unfold Oper.quietAt
            rw [hr']
            exact ⟨rfl, rfl⟩
          cases e with
          | false =>
            rw [if_neg (by rw [h2 rfl]; simp)]
            rcases h3 with ⟨hp, hv⟩ | ⟨hp, ha, hv⟩
            · rcases hkinds with ⟨_, hk⟩ | ⟨q, _⟩ | ⟨q, _⟩
              · obtain ⟨sl, hk1, hk2, hk3, _⟩ := hk _ _ _ hv
                exact slot sl undef hk1 hk2 (hk3 rfl)
              · rw [hp] at q; cases q
              · rw [hp] at q; cases q
            · rcases hkinds with ⟨q, _⟩ | ⟨_, _, hk⟩ | ⟨_, q, _⟩
              · rw [hp] at q; cases q
              · obtain ⟨sl, hk1, hk2, hk3, _⟩ := hk _ _ _ _ hv
                exact slot sl undef hk1 hk2 (hk3 rfl)
              · rw [ha] at q; cases q
          | true =>
            rw [if_pos (h1 rfl)]
            rcases h3 with ⟨hp, hv⟩ | ⟨hp, ha, hv⟩
            · rcases hkinds with ⟨_, hk⟩ | ⟨q, _⟩ | ⟨q, _⟩
              · obtain ⟨sl, hk1, hk2, _, hk4⟩ := hk _ _ _ hv
                exact go sl hk1 hk2 (fun m => hk4 rfl a _ hst.fits)
              · rw [hp] at q; cases q
              · rw [hp] at q; cases q
            · rcases hkinds with ⟨q, _⟩ | ⟨_, _, hk⟩ | ⟨_, q, _⟩
              · rw [hp] at q; cases q
              · obtain ⟨sl, hk1, hk2, _, hk4⟩ := hk _ _ _ _ hv
                exact go sl hk1 hk2 (fun m => hk4 rfl a _ (hst.drewN m))
              · rw [ha] at q; cases q
        cases hgd : o.guard with
        | none =>
          rw [hgd] at hg
          simp only [Option.some.injEq] at hg
          subst hg
          simp only [vcOps] at hv
          refine run true (fun _ => wanted_none o hgd _) (fun q => by cases q) ?_
          cases hp : isPure sop with
          | true => rw [hp] at hv; exact .inl ⟨rfl, hv⟩
          | false =>
            rw [hp] at hv
            cases ha : isAsk sop with
            | true => rw [ha] at hv; exact .inr ⟨rfl, rfl, hv⟩
            | false => simp [hp, ha] at haq
        | some jw =>
          obtain ⟨j, want⟩ := jw
          rw [hgd] at hg
          dsimp only at hg
          split at hg
          · rename_i t ht
            cases hc : decide (t < n) with
            | false => rw [hc] at hg; simp at hg
            | true =>
              rw [hc] at hg
              simp only [cond_true, Option.some.injEq] at hg
              subst hg
              have htn : t < a.tmps.size := by rw [hst.n]; exact of_decide_eq_true hc
              simp only [vcOps, gd] at hv
              cases hl : look φ t with
              | v ge x =>
                rw [hl] at hv
                cases x with
                | bool b =>
                  simp only at hv
                  have hfit := hst.fits t
                  rw [hl] at hfit
                  simp only [FitsSl] at hfit
                  have hy : yielded ops a.tmps j = (bif ge then some b else none) := by
                    unfold yielded
                    rw [ht]
                    simp only [Option.bind_some]
                    have : a.tmps[t]? = some (a.tmps.getD t undef) := by simp [Array.getD_eq_getD_getElem?, htn]
                    rw [this, hfit]
                    cases ge <;> rfl
                  have hw : Region.wanted o (yielded ops a.tmps) = (ge && (b == want)) := by
                    unfold Region.wanted
                    rw [hgd]
                    simp only [hy]
                    cases ge <;> cases b <;> cases want <;> rfl
                  refine run (ge && (b == want)) (fun q => by rw [hw]; exact q) (fun q => by rw [hw]; exact q) ?_
                  cases hp : isPure sop with
                  | true => rw [hp] at hv; exact .inl ⟨rfl, hv⟩
                  | false =>
                    rw [hp] at hv
                    cases ha : isAsk sop with
                    | true => rw [ha] at hv; exact .inr ⟨rfl, rfl, hv⟩
                    | false => simp [hp, ha] at haq
                | _ => exact hv.elim
              | _ => rw [hl] at hv; exact hv.elim
          · cases hg
      · cases hso
    · cases h

theorem vc_sound {locs : List Nat} : ∀ (c : Code) (A : List (List Nat)) (s : Stmt) (A' : List (List Nat)), trCode P n locs c A = some (s, A') →
    ∀ (Q : Post) φ Γ a w, vc P Γr s φ Γ Q → St n Γr Γm w0 φ Γ a w → c.wp P (QQ n Γr Γm w0 Q) a w
  | .skip, A, s, A', h, Q, φ, Γ, a, w, hv, hst => by
    simp only [trCode, Option.some.injEq, Prod.mk.injEq] at h
    obtain ⟨rfl, rfl⟩ := h
    exact wp_skip ⟨φ, Γ, hv, hst⟩
  | .ret, A, s, A', h, Q, φ, Γ, a, w, hv, hst => by
    simp only [trCode, Option.some.injEq, Prod.mk.injEq] at h
    obtain ⟨rfl, rfl⟩ := h
    exact wp_ret ⟨φ, Γ, hv, hst⟩
  | .exit id, A, s, A', h, Q, φ, Γ, a, w, hv, hst => by
    simp only [trCode, Option.some.injEq, Prod.mk.injEq] at h
    obtain ⟨rfl, rfl⟩ := h
    exact wp_exit ⟨φ, Γ, hv, hst⟩
  | .region id ops draw, A, s, A', h, Q, φ, Γ, a, w, hv, hst => by
    simp only [trCode] at h
    split at h
    · rename_i L A1
      split at h
      · rename_i sl hsl
        have hproj : ∀ φ' t, look (proj φ' L) t = look φ' t ∨ look (proj φ' L) t = .dead := fun φ' t => by
          rw [look_proj]
          by_cases hm : t ∈ L
          · left; rw [if_pos hm]
          · right; rw [if_neg hm]
        cases draw with
        | false =>
          simp only [cond_false, Option.some.injEq, Prod.mk.injEq] at h
          obtain ⟨rfl, rfl⟩ := h
          simp only [vc] at hv
          refine wp_region_list (vcOps_sound (K := Fin L Q.nrm) ?_ ops.toList sl hsl φ Γ a w hv hst)
          intro φ' Γ' a' w' hk hst'
          exact ⟨proj φ' L, Γ', hk, hst'.frame (hproj φ')⟩
        | true =>
          cases hc : (P.follows .mixedOrders && Region.lexB .any ops && allQuiet sl) with
          | false => rw [hc] at h; simp at h
          | true =>
            rw [hc] at h
            simp only [cond_true, Option.some.injEq, Prod.mk.injEq] at h
            obtain ⟨rfl, rfl⟩ := h
            simp only [Bool.and_eq_true] at hc
            simp only [vc] at hv
            refine wp_region_quiet (C := fun w' => ∃ m, w' = w.drewN m) hc.1.1 hc.1.2 ⟨1, rfl⟩ ?_
            refine vcQuiet_sound (K := Fin L Q.nrm) (W := w) ?_ ops.toList sl hsl hc.2 φ a hv hst
            intro φ' a' hk hst' w' ⟨m, hm⟩
            subst hm
            exact ⟨proj φ' L, Γ, hk, (hst'.drewN m).frame (hproj φ')⟩
      · cases h
    · cases h
  | .seq c d, A, s, A', h, Q, φ, Γ, a, w, hv, hst => by
    simp only [trCode] at h
    cases hc : decide (nx c ≤ 1) with
    | true =>
      rw [hc] at h
      simp only [cond_true] at h
      split at h
      · rename_i s1 A1 h1
        split at h
        · rename_i s2 A2 h2
          simp only [Option.some.injEq, Prod.mk.injEq] at h
          obtain ⟨rfl, rfl⟩ := h
          simp only [vc] at hv
          refine wp_seq (wp_mono (vc_sound c A s1 A1 h1 _ φ Γ a w hv hst) ?_)
          intro e a' w' hq
          cases e with
          | normal => obtain ⟨φ', Γ', hk, hst'⟩ := hq; exact vc_sound d A1 s2 A2 h2 Q φ' Γ' a' w' hk hst'
          | ret => exact hq
          | exit id => exact hq
          | _ => exact hq.elim
        · cases h
      · cases h
    | false =>
      rw [hc] at h
      simp only [cond_false] at h
      split at h
      · rename_i M N A0
        split at h
        · rename_i s1 A1 h1
          split at h
          · rename_i s2 A2 h2
            simp only [Option.some.injEq, Prod.mk.injEq] at h
            obtain ⟨rfl, rfl⟩ := h
            simp only [vc] at hv
            obtain ⟨J, hv1, hv2⟩ := hv
            refine wp_seq (wp_mono (vc_sound c A0 s1 A1 h1 _ φ Γ a w hv1 hst) ?_)
            intro e a' w' hq
            cases e with
            | normal =>
              obtain ⟨φ', Γ', ⟨hN, Γ2, hent, hJ⟩, hst'⟩ := hq
              refine vc_sound d A1 s2 A2 h2 Q _ Γ2 a' w' (hv2 _ _ hJ) ((hst'.ent hent).frame ?_)
              intro t
              rw [look_zip, look_proj]
              by_cases hM : t ∈ M
              · left; rw [if_pos hM]
              · rw [if_neg hM]
                by_cases hN' : t ∈ N
                · left; rw [if_pos hN']; exact (looks_proj hN t hN').symm
                · right; rw [if_neg hN']
            | ret => exact hq
            | exit id => exact hq
            | _ => exact hq.elim
          · cases h
        · cases h
      · cases h
  | .cond c x y, A, s, A', h, Q, φ, Γ, a, w, hv, hst => by
    simp only [trCode] at h
    split at h
    · rename_i s1 A1 h1
      split at h
      · rename_i s2 A2 h2
        simp only [Option.some.injEq, Prod.mk.injEq] at h
        obtain ⟨rfl, rfl⟩ := h
        simp only [vc] at hv
        split at hv
        · rename_i e b hc
          obtain ⟨rfl, hx, hy⟩ := hv
          have ev := eval_of hst.fits c (by rw [hc])
          rw [hc] at ev
          refine wp_cond_split ev (fun q => ?_) (fun q => ?_)
          · exact vc_sound x A s1 A1 h1 Q φ Γ a w (hx q) hst
          · exact vc_sound y A1 s2 A2 h2 Q φ Γ a w (hy q) hst
        · exact hv.elim
      · cases h
    · cases h
  | .block id c, A, s, A', h, Q, φ, Γ, a, w, hv, hst => by
    simp only [trCode] at h
    split at h
    · rename_i s1 A1 h1
      simp only [Option.some.injEq, Prod.mk.injEq] at h
      obtain ⟨rfl, rfl⟩ := h
      simp only [vc] at hv
      refine wp_block (wp_mono (vc_sound c A s1 A1 h1 _ φ Γ a w hv hst) ?_)
      intro e a' w' hq
      cases e with
      | normal => exact hq
      | ret => exact hq
      | exit j =>
        obtain ⟨φ', Γ', hk, hst'⟩ := hq
        simp only [Post.inBlock] at hk
        simp only [Exit.inBlock]
        by_cases hj : j = id
        · subst hj
          rw [if_pos rfl]
          simp only [BEq.rfl, cond_true] at hk
          exact ⟨φ', Γ', hk, hst'⟩
        · rw [if_neg hj]
          have : (j == id) = false := by simpa using hj
          rw [this] at hk
          exact ⟨φ', Γ', hk, hst'⟩
      | _ => exact hq.elim
    · cases h
  | .loop c, A, s, A', h, Q, φ, Γ, a, w, hv, hst => by
    simp only [trCode] at h
    split at h
    · rename_i M N A0
      split at h
      · rename_i s1 A1 h1
        simp only [Option.some.injEq, Prod.mk.injEq] at h
        obtain ⟨rfl, rfl⟩ := h
        simp only [vc] at hv
        obtain ⟨I, ⟨k0, Γ0, hent0, hI0⟩, hround⟩ := hv
        have toFrame : ∀ φ' Γ' a' w', looks φ' N = looks φ N → St n Γr Γm w0 φ' Γ' a' w' → St n Γr Γm w0 (zipS M (looks φ' M) ++ proj φ N) Γ' a' w' := by
          intro φ' Γ' a' w' hN hst'
          refine hst'.frame (fun t => ?_)
          rw [look_zip, look_proj]
          by_cases hM : t ∈ M
          · left; rw [if_pos hM]
          · rw [if_neg hM]
            by_cases hN' : t ∈ N
            · left; rw [if_pos hN']; exact (looks_proj hN t hN').symm
            · right; rw [if_neg hN']
        refine wp_loop_ghost (fun k a w => ∃ vs Γ', I k vs Γ' ∧ St n Γr Γm w0 (zipS M vs ++ proj φ N) Γ' a w) k0 ⟨_, Γ0, hI0, toFrame φ Γ0 a w rfl (hst.ent hent0)⟩ ?_
        intro k a' w' ⟨vs, Γ', hI, hst'⟩
        refine wp_mono (vc_sound c A0 s1 A1 h1 _ _ Γ' a' w' (hround k vs Γ' hI) hst') ?_
        intro e a2 w2 hq
        cases e with
        | normal =>
          obtain ⟨φ2, Γ2, ⟨hN, k', hlt, Γ3, hent, hI'⟩, hst2⟩ := hq
          exact ⟨k', hlt, _, Γ3, hI', toFrame φ2 Γ3 a2 w2 hN (hst2.ent hent)⟩
        | ret => exact hq
        | exit id => exact hq
        | _ => exact hq.elim
      · cases h
    · cases h
  | .rangeFunc _ _ _ _, A, s, A', h, Q, φ, Γ, a, w, hv, hst => by simp [trCode] at h
  | .scope _, A, s, A', h, Q, φ, Γ, a, w, hv, hst => by simp [trCode] at h
  | .label _, A, s, A', h, Q, φ, Γ, a, w, hv, hst => by simp [trCode] at h
  | .goto _, A, s, A', h, Q, φ, Γ, a, w, hv, hst => by simp [trCode] at h
  | .refuse _, A, s, A', h, Q, φ, Γ, a, w, hv, hst => by simp [trCode] at h

theorem look_args : ∀ (l : List Value) (i t : Nat), look (args0 i l) t = match (if i ≤ t then l[t - i]? else none) with | some v => .v true v | none => .dead
  | [], i, t => by simp [args0, look]
  | x :: r, i, t => by
    simp only [args0, look]
    by_cases h : i = t
    · subst h; simp
    · have hne : (i == t) = false := by simpa using h
      simp only [hne, cond_false, look_args r (i + 1) t]
      by_cases hle : i ≤ t
      · have h1 : i + 1 ≤ t := by omega
        rw [if_pos h1, if_pos hle]
        rw [show t - i = (t - (i + 1)) + 1 by omega]
        simp
      · rw [if_neg (by omega), if_neg hle]

theorem resSlots_run {tmps : Array Value} : ∀ (l : List ResultVar) (res : List Nat), resSlots l = some res →
    (l.mapM (m := Sem) fun | .tmp t => pure (tmps.getD t undef) | .cell a t => do loadVar t (← asAddr (tmps.getD a undef))).run P w = .ok (res.map fun t => tmps.getD t undef) w
  | [], res, h => by simp only [resSlots, Option.some.injEq] at h; subst h; rfl
  | .tmp t :: r, res, h => by
    simp only [resSlots] at h
    split at h
    · rename_i l hl
      simp only [Option.some.injEq] at h
      subst h
      have := resSlots_run (tmps := tmps) r l hl
      simp only [List.mapM_cons, Sem.run_bind, Sem.run_pure, Result.andThen_ok, this, List.map_cons]
    · cases h
  | .cell _ _ :: r, res, h => by simp [resSlots] at h

theorem slotVals_eq (h : Fits φ a) : ∀ (res : List Nat), slotsOn φ res → res.map (fun t => a.tmps.getD t undef) = slotVals φ res
  | [], _ => rfl
  | t :: r, hon => by
    have h1 := eval_of h (.tmp t) (by simpa [val] using hon.1)
    simp only [Act.eval, val] at h1
    simp only [List.map_cons, slotVals, slotVals_eq h r hon.2, h1]

/-- **A FUNCTION**: what must be shown of its text gives its contract. -/
theorem ret_of_vc {f : FuncId} {locs : List Nat} {A : List (List Nat)} {S : FnS} (htr : trFn P f locs A = some S) {args : List Value} (hargs : args.length ≤ S.n) {R : Value → Ctx → Prop}
    (hv : vc P Γr S.body (args0 0 args) Γm (PostR S.res R)) : Ret P f args Γr Γm R := by
  unfold trFn at htr
  split at htr
  · rename_i fn hfn
    split at htr
    · rename_i c res hbody hres
      cases hname : (fn.name == "runtime.NumGoroutine") with
      | true => rw [hname] at htr; simp at htr
      | false =>
        rw [hname] at htr
        simp only [cond_false] at htr
        split at htr
        · rename_i s A' hcode
          simp only [Option.some.injEq] at htr
          subst htr
          refine ⟨by unfold isFn; simp [hfn, hbody, hname], fun w hsat => ?_⟩
          refine calls_of_wp hfn hbody ?_
          dsimp only at hargs hv
          have hst : St fn.ntmps Γr Γm w (args0 0 args) Γm { tmps := args.toArray ++ Array.replicate (fn.ntmps - args.toArray.size) undef, defers := [] } w := by
            refine { n := by simp; omega, defers := rfl, fits := ?_, bx := ?_, bxd := ?_, sat := hsat, own := fun h hh k hk => .inr ⟨h, hh, hk⟩, os := rfl, tape := rfl, output := rfl, size := Nat.le_refl _, same := fun _ _ _ => rfl }
            · intro t
              rw [look_args]
              simp only [Nat.zero_le, if_true, Nat.sub_zero]
              cases hl : args[t]? with
              | none => trivial
              | some v =>
                have hlt : t < args.length := by
                  rcases Nat.lt_or_ge t args.length with h | h
                  · exact h
                  · rw [List.getElem?_eq_none h] at hl; cases hl
                simp only [FitsSl, cond_true]
                rw [Array.getD_eq_getD_getElem?, Array.getElem?_append_left (by simpa using hlt)]
                simp [hl]
            · intro t b T cs hl
              rw [look_args] at hl
              split at hl <;> cases hl
            · intro t t' b T cs T' cs' hl
              rw [look_args] at hl
              split at hl <;> cases hl
          refine wp_mono (vc_sound c A s A' hcode _ _ _ _ _ hv hst) ?_
          have fin : ∀ φ Γ a w', ResultP res R φ Γ → St fn.ntmps Γr Γm w φ Γ a w' → a.defers = [] ∧ ∃ v, (results fn a.tmps).run P w' = .ok v w' ∧
              ∃ v' Γ', Ending.returned v = .returned v' ∧ R v' Γ' ∧ Done Γr Γm Γ' w w' := by
            intro φ Γ a w' ⟨hon, Γ', hent, hR⟩ hst'
            have hst2 := hst'.ent hent
            refine ⟨hst'.defers, resV (slotVals φ res), ?_, resV (slotVals φ res), Γ', rfl, hR, ?_⟩
            · have h1 := resSlots_run (P := P) (w := w') (tmps := a.tmps) fn.results.toList res hres
              rw [slotVals_eq hst'.fits res hon] at h1
              unfold results
              rw [Array.mapM_eq_mapM_toList]
              simp only [Sem.run_bind, Sem.run_map]
              erw [h1]
              simp only [Result.andThen_ok, Sem.run_pure]
              generalize slotVals φ res = l
              match l with
              | [] => rfl
              | [x] => rfl
              | x :: y :: r => simp [resV]
            · exact ⟨hst2.sat, hst2.own, hst2.os, hst2.tape, hst2.output, hst2.size, hst2.same⟩
          intro e a' w' hq
          cases e with
          | normal => obtain ⟨φ', Γ', hk, hst'⟩ := hq; exact fin _ _ _ _ hk hst'
          | ret => obtain ⟨φ', Γ', hk, hst'⟩ := hq; exact fin _ _ _ _ hk hst'
          | exit id => obtain ⟨_, _, hk, _⟩ := hq; exact hk.elim
          | _ => exact hq.elim
        · cases htr
    · cases htr
  · cases htr
end
end Go.Proofs.Ytniobbepliknmaa.V
