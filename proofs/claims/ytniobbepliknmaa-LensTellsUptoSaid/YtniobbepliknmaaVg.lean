/- The symbolic walk is sound: a list of operations; no condition. -/
import Derived.Test.YtniobbepliknmaaVf
namespace Go.Proofs.Ytniobbepliknmaa.V
open Go
set_option linter.unusedVariables false
set_option linter.unusedSimpArgs false

section
variable {n : Nat} {Γr Γm : Ctx} {w0 : World} {P : Program} {o : Oper} {loc : Bool} {s : SOp}

/-! what the computed operations ask -/
theorem fnV_min {u v r : Value} (h : fnV .min [u, v] = some r) : ∃ k a b, u = .int k a ∧ v = .int k b ∧ r = .int k (if b < a then b else a) := by
  cases u <;> cases v <;> simp only [fnV, reduceCtorEq] at h
  rename_i k a k' b
  cases hk : (k == k') with
  | false => rw [hk] at h; cases h
  | true =>
    rw [hk] at h
    have hk' : k = k' := by simpa using hk
    subst hk'
    exact ⟨k, a, b, rfl, rfl, (Option.some.inj h).symm⟩
theorem fnV_max {u v r : Value} (h : fnV .max [u, v] = some r) : ∃ k a b, u = .int k a ∧ v = .int k b ∧ r = .int k (if a < b then b else a) := by
  cases u <;> cases v <;> simp only [fnV, reduceCtorEq] at h
  rename_i k a k' b
  cases hk : (k == k') with
  | false => rw [hk] at h; cases h
  | true =>
    rw [hk] at h
    have hk' : k = k' := by simpa using hk
    subst hk'
    exact ⟨k, a, b, rfl, rfl, (Option.some.inj h).symm⟩
theorem fnV_bits {op : BinOp} {u v r : Value} (h : fnV (.bits op) [u, v] = some r) : ∃ k a b, u = .int k a ∧ v = .int k b ∧ ∀ w : World, (Op.intBits op k a b).run P w = .ok r w := by
  cases op <;> cases u <;> cases v <;> simp only [fnV, reduceCtorEq] at h
  all_goals
    (rename_i k a k' b
     cases hk : (k == k') with
     | false => rw [hk] at h; cases h
     | true =>
       rw [hk] at h
       have hk' : k = k' := by simpa using hk
       subst hk'
       exact ⟨k, a, b, rfl, rfl, fun w => by rw [← Option.some.inj h]; rfl⟩)
theorem fnV_cat {u v r : Value} (h : fnV .cat [u, v] = some r) : ∃ a b, u = .string a ∧ v = .string b ∧ a.size + b.size ≤ 9223372036854775807 ∧ r = .string (a ++ b) := by
  cases u <;> cases v <;> simp only [fnV, reduceCtorEq] at h
  split at h
  · rename_i hle; exact ⟨_, _, rfl, rfl, hle, (Option.some.inj h).symm⟩
  · cases h
theorem fnV_rune {u r : Value} (h : fnV .rune [u] = some r) : ∃ k a, u = .int k a ∧ r = .string (Utf8.encode a) := by
  cases u <;> simp only [fnV, reduceCtorEq] at h
  exact ⟨_, _, rfl, (Option.some.inj h).symm⟩

/-- the three kinds of operations -/
def Kinds (P : Program) (n : Nat) (Γr Γm : Ctx) (w0 : World) (o : Oper) (s : SOp) : Prop :=
  (isPure s = true ∧ ∀ φ e k, pureV φ e s k → Yields P φ e o k) ∨
  (isPure s = false ∧ isAsk s = true ∧ ∀ φ Γ e k, askV P (Γ ++ Γr) φ e s k → Asks P n Γr Γm w0 φ Γ e o k) ∨
  (isPure s = false ∧ isAsk s = false ∧ ∀ φ Γ a w k, St n Γr Γm w0 φ Γ a w → (∀ t, o.dst = some t → t < n) → (∀ m x y, s = .store m x y → o.dst = none) → effV P Γr φ Γ o.dst s k → Acts P n Γr Γm w0 o a w k)

theorem kinds_nilC {kd : Nat} {op : BinOp} {t yt : TypeId} {x y : Operand} (ho : o.op = .binOp op t x y yt) (h : nilC kd op x y = some s)
    (ht : (kd = 0 ∧ ∃ e, P.underlying t = some (.slice e)) ∨ (kd = 1 ∧ ∃ e, P.underlying t = some (.pointer e)) ∨ (kd = 2 ∧ ∃ k e, P.underlying t = some (.map k e)) ∨ (kd = 3 ∧ ∃ p q z, P.underlying t = some (.func p q z))) :
    Kinds P n Γr Γm w0 o s := by
  unfold nilC at h
  split at h
  · rename_i v
    cases hn : isNil kd v with
    | false => rw [hn] at h; simp at h
    | true =>
      rw [hn] at h
      cases op <;> simp at h
      · subst h; exact .inl ⟨rfl, fun φ e k hv => ok_nilq (neg := false) ht rfl ho hv⟩
      · subst h; exact .inl ⟨rfl, fun φ e k hv => ok_nilq (neg := true) ht rfl ho hv⟩
  · simp at h

theorem kinds_binOp {op : BinOp} {t yt : TypeId} {x y : Operand} (ho : o.op = .binOp op t x y yt) (h : trBin P op t x y = some s) : Kinds P n Γr Γm w0 o s := by
  unfold trBin at h
  split at h
  · split at h
    · simp only [Option.some.injEq] at h; subst h; exact .inl ⟨rfl, fun φ e k hv => ok_ibin ho hv⟩
    · simp only [Option.some.injEq] at h; subst h; exact .inr (.inl ⟨rfl, rfl, fun φ Γ e k hv => ok_idiv ho hv⟩)
    · simp only [Option.some.injEq] at h; subst h; exact .inr (.inl ⟨rfl, rfl, fun φ Γ e k hv => ok_ishift ho hv⟩)
    · split at h
      all_goals first
        | (cases h; done)
        | (simp only [Option.some.injEq] at h
           subst h
           refine .inl ⟨rfl, fun φ e k hv => ok_fn (fun a w r hr => ?_) hv⟩
           obtain ⟨k1, a1, b1, e1, e2, e3⟩ := fnV_bits (P := P) hr
           simp only [execOp, ho, e1, e2, Sem.run_bind]
           have := e3 w
           simp [eqGuard, binOp, this])
  · split at h
    · simp only [Option.some.injEq] at h
      subst h
      refine .inl ⟨rfl, fun φ e k hv => ok_fn (fun a w r hr => ?_) hv⟩
      obtain ⟨a1, b1, e1, e2, hle, rfl⟩ := fnV_cat hr
      have hno : ¬ (((a1.size + b1.size : Nat) : Int) > IntKind.i64.max) := by
        have : IntKind.i64.max = 9223372036854775807 := rfl
        rw [this]
        omega
      simp only [execOp, ho, e1, e2, eqGuard, binOp, Op.stringOp]
      rw [if_neg hno]
      simp
    · simp only [Option.some.injEq] at h
      subst h
      exact .inl ⟨rfl, fun φ e k hv => ok_sbin ho hv⟩
    · simp only [Option.some.injEq] at h
      subst h
      exact .inl ⟨rfl, fun φ e k hv => ok_sbin ho hv⟩
    · cases h
  · rename_i ht
    split at h
    · simp only [Option.some.injEq] at h; subst h; exact .inl ⟨rfl, fun φ e k hv => ok_beq (neg := false) ht rfl ho hv⟩
    · simp only [Option.some.injEq] at h; subst h; exact .inl ⟨rfl, fun φ e k hv => ok_beq (neg := true) ht rfl ho hv⟩
    · cases h
  · rename_i el ht; exact kinds_nilC ho h (.inl ⟨rfl, el, ht⟩)
  · rename_i el ht; exact kinds_nilC ho h (.inr (.inl ⟨rfl, el, ht⟩))
  · rename_i k e ht; exact kinds_nilC ho h (.inr (.inr (.inl ⟨rfl, k, e, ht⟩)))
  · rename_i p q z ht; exact kinds_nilC ho h (.inr (.inr (.inr ⟨rfl, p, q, z, ht⟩)))
  · cases h

theorem kinds_call {c : Call} (ho : o.op = .call c) (h : trCall P c = some s) : Kinds P n Γr Γm w0 o s := by
  obtain ⟨callee, ⟨args⟩, ⟨ats⟩⟩ := c
  unfold trCall at h
  split at h
  · rename_i f hc
    dsimp only at hc
    subst hc
    simp only [Option.some.injEq] at h
    subst h
    exact .inr (.inr ⟨rfl, rfl, fun φ Γ a w k hst hd _ hv => ok_call hst hd ho hv⟩)
  · rename_i hc
    dsimp only at hc h
    subst hc
    unfold trLen at h
    split at h
    · split at h
      · rename_i x t el ht
        simp only [Option.some.injEq] at h
        subst h
        exact .inl ⟨rfl, fun φ e k hv => ok_len (.inl ⟨rfl, el, ht⟩) ho hv⟩
      · rename_i x t ht
        simp only [Option.some.injEq] at h
        subst h
        exact .inl ⟨rfl, fun φ e k hv => ok_len (.inr ⟨rfl, ht⟩) ho hv⟩
      · cases h
    · cases h
  · rename_i hc
    dsimp only at hc h
    subst hc
    unfold trAppend at h
    split at h
    · split at h
      · rename_i s' x t u _ el ht
        split at h
        · rename_i i hi
          split at h
          · rename_i z hz
            cases hcc : (decide (t = u) && decide (0 < i.size) && decide ((cellsV z).length = i.size)) with
            | false =>
              rw [hcc] at h
              simp only [cond_false] at h
              split at h
              · rename_i hu
                cases hc2 : (decide (0 < i.size) && decide (0 < i.bytes) && decide ((cellsV z).length = i.size)) with
                | false => rw [hc2] at h; simp at h
                | true =>
                  rw [hc2] at h
                  simp only [cond_true, Option.some.injEq] at h; subst h
                  simp only [Bool.and_eq_true, decide_eq_true_eq] at hc2
                  exact .inr (.inr ⟨rfl, rfl, fun φ Γ a w k hst hd _ hv => ok_appz hst hd ht hu hi hz hc2.1.1 hc2.1.2 hc2.2 ho hv⟩)
              · cases h
            | true =>
              rw [hcc] at h
              simp only [cond_true, Option.some.injEq] at h; subst h
              simp only [Bool.and_eq_true, decide_eq_true_eq] at hcc
              obtain ⟨⟨rfl, h2⟩, h3⟩ := hcc
              exact .inr (.inr ⟨rfl, rfl, fun φ Γ a w k hst hd _ hv => ok_append hst hd ht hi hz h2 h3 ho hv⟩)
          · cases h
        · cases h
      · cases h
    · cases h
  · rename_i hc
    dsimp only at hc h
    subst hc
    unfold trMin at h
    split at h
    · split at h
      · rename_i x y t u _ kk ht
        simp only [Option.some.injEq] at h
        subst h
        refine .inl ⟨rfl, fun φ e k hv => ok_fn (fun a w r hr => ?_) hv⟩
        obtain ⟨k1, a1, b1, e1, e2, rfl⟩ := fnV_min hr
        simp [execOp, ho, resolve, invoke, builtin, Builtin.min_, Builtin.min2, e1, e2]
      · cases h
    · cases h
  · rename_i hc
    dsimp only at hc h
    subst hc
    unfold trMin at h
    split at h
    · split at h
      · rename_i x y t u _ kk ht
        simp only [Option.some.injEq] at h
        subst h
        refine .inl ⟨rfl, fun φ e k hv => ok_fn (fun a w r hr => ?_) hv⟩
        obtain ⟨k1, a1, b1, e1, e2, rfl⟩ := fnV_max hr
        simp [execOp, ho, resolve, invoke, builtin, Builtin.max_, Builtin.max2, e1, e2]
      · cases h
    · cases h
  · cases h

theorem trQ_run {kd : Nat} {c : Qk} {xs : List Operand} (h : trQ o.op = some (kd, c, xs)) (ρ : Operand → Value) (w w' : World) (r : Value) (hr : (qsem c (xs.map ρ)).run P w = .ok r w') :
    (execOp ρ o).run P w = .ok (.value r) w' ∨ ((execOp ρ o).run P w = .ok .skip w' ∧ r = undef ∧ kd = 1) := by
  cases ho : o.op <;> rw [ho] at h <;> simp only [trQ, Option.some.injEq, Prod.mk.injEq, reduceCtorEq] at h
  case binOp op t x y _ => obtain ⟨rfl, rfl, rfl⟩ := h; left; simp only [qsem, List.map_cons, List.map_nil] at hr; simp only [execOp, ho, Sem.run_bind] at hr ⊢; rw [hr]; rfl
  case convert s d x => obtain ⟨rfl, rfl, rfl⟩ := h; left; simp only [qsem, List.map_cons, List.map_nil] at hr; simp only [execOp, ho, Sem.run_bind, hr]; rfl
  case call c =>
    obtain ⟨callee, ⟨args⟩, ⟨ats⟩⟩ := c
    simp only at h
    split at h
    · rename_i b
      cases b <;> simp only [trBi, Option.some.injEq, Prod.mk.injEq, reduceCtorEq] at h <;>
        (obtain ⟨rfl, rfl, rfl⟩ := h; left; simp only [qsem] at hr
         simp only [execOp, ho, resolve, invoke, builtin, Sem.run_bind, Sem.run_pure, Result.andThen_ok, List.map_toArray]
         first
           | (erw [hr]; rfl))
    · cases h
  case slice t x lo hi mx =>
    obtain ⟨rfl, rfl, rfl⟩ := h
    left
    cases lo <;> cases hi <;> cases mx <;> simp only [optL, List.map_cons, List.map_nil, List.nil_append, List.append_nil, List.cons_append, qsem, popO, Option.isSome_some, Option.isSome_none] at hr <;>
      simp only [execOp, ho, Sem.run_bind, Option.map_some, Option.map_none, hr] <;> rfl
  case index t x i => obtain ⟨rfl, rfl, rfl⟩ := h; left; simp only [qsem, List.map_cons, List.map_nil] at hr; simp only [execOp, ho, Sem.run_bind, hr]; rfl
  case lookup t x i ok => obtain ⟨rfl, rfl, rfl⟩ := h; left; simp only [qsem, List.map_cons, List.map_nil] at hr; simp only [execOp, ho, Sem.run_bind, hr]; rfl
  case range t x => obtain ⟨rfl, rfl, rfl⟩ := h; left; simp only [qsem, List.map_cons, List.map_nil] at hr; simp only [execOp, ho, Sem.run_bind, hr]; rfl
  case next it str => obtain ⟨rfl, rfl, rfl⟩ := h; left; simp only [qsem, List.map_cons, List.map_nil] at hr; simp only [execOp, ho, Sem.run_bind]; erw [hr]; rfl
  case makeMap t r =>
    obtain ⟨rfl, rfl, rfl⟩ := h
    left
    cases r <;> simp only [optL, List.map_cons, List.map_nil, qsem, List.head?_cons, List.head?_nil] at hr <;> simp only [execOp, ho, Sem.run_bind, Option.map_some, Option.map_none, hr] <;> rfl
  all_goals
    (obtain ⟨rfl, rfl, rfl⟩ := h
     right
     simp only [qsem, List.map_cons, List.map_nil, Sem.run_bind] at hr
     simp only [execOp, ho, Sem.run_bind]
     cases hm : (Instr.mapUpdate _ (ρ _) (ρ _) (ρ _)).run P w with
     | halt a b => rw [hm] at hr; cases hr
     | ok u w1 =>
       rw [hm] at hr
       simp only [Result.andThen_ok, Sem.run_pure, Result.ok.injEq] at hr ⊢
       exact ⟨⟨trivial, hr.2⟩, hr.1.symm, trivial⟩)

theorem kinds0 (h : trOp0 P loc o.op = some s) : Kinds P n Γr Γm w0 o s := by
  cases ho : o.op with
  | move x =>
    simp only [ho, trOp0, Option.some.injEq] at h; subst h
    exact .inl ⟨rfl, fun φ e k hv => ok_mv (.inl ho) hv⟩
  | assign x =>
    simp only [ho, trOp0, Option.some.injEq] at h; subst h
    exact .inl ⟨rfl, fun φ e k hv => ok_mv (.inr ho) hv⟩
  | pick c x y =>
    simp only [ho, trOp0, Option.some.injEq] at h; subst h
    exact .inl ⟨rfl, fun φ e k hv => ok_pick ho hv⟩
  | binOp op t x y yt => exact kinds_binOp ho (by rw [ho] at h; exact h)
  | unOp op t x =>
    simp only [ho, trOp0, Option.some.injEq] at h; subst h
    exact .inl ⟨rfl, fun φ e k hv => ok_un ho hv⟩
  | convert sr ds x =>
    simp only [ho, trOp0] at h
    split at h
    · rename_i ks k hs hd
      simp only [Option.some.injEq] at h; subst h
      exact .inl ⟨rfl, fun φ e k hv => ok_conv hs hd ho hv⟩
    · rename_i ks hs hd
      simp only [Option.some.injEq] at h; subst h
      refine .inl ⟨rfl, fun φ e k hv => ok_fn (fun a w r hr => ?_) hv⟩
      obtain ⟨k1, n1, e1, rfl⟩ := fnV_rune hr
      simp [execOp, ho, e1, convert, run_underlying hs, run_underlying hd, Conv.intToString]
    · cases h
  | box T x =>
    simp only [ho, trOp0, Option.some.injEq] at h; subst h
    exact .inr (.inr ⟨rfl, rfl, fun φ Γ a w k hst hd _ hv => ok_box hst hd ho hv⟩)
  | alloc T =>
    simp only [ho, trOp0] at h
    split at h
    · rename_i z hz
      simp only [Option.some.injEq] at h; subst h
      exact .inr (.inr ⟨rfl, rfl, fun φ Γ a w k hst hd _ hv => ok_alloc hst hd hz ho hv⟩)
    · cases h
  | build t parts =>
    simp only [ho, trOp0, trBuild] at h
    split at h
    · rename_i fs z ht hz
      split at h
      · rename_i l hl
        cases hc : fs.toList.all (fun f => (szOf P f.type).isSome) with
        | false => rw [hc] at h; simp at h
        | true =>
          rw [hc] at h
          simp only [cond_true, Option.some.injEq] at h; subst h
          refine .inl ⟨rfl, fun φ e k hv => ok_build ht hz hl (fun f hf => ?_) ho hv⟩
          rw [List.all_eq_true] at hc
          exact Option.isSome_iff_exists.1 (hc f (by simpa using hf))
      · cases h
    · cases h
  | buildSlice t m parts =>
    simp only [ho, trOp0, trBuildS] at h
    split at h
    · rename_i el ht
      split at h
      · rename_i z sz hz hs
        split at h
        · rename_i l hl
          cases hc : (decide (0 < sz) && decide (m * sz ≤ 1000) && decide ((cellsV z).length = sz)) with
          | false => rw [hc] at h; simp at h
          | true =>
            rw [hc] at h
            simp only [cond_true, Option.some.injEq] at h; subst h
            simp only [Bool.and_eq_true, decide_eq_true_eq] at hc
            exact .inr (.inr ⟨rfl, rfl, fun φ Γ a w k hst hd _ hv => ok_buildS hst hd ht hz hs hl hc.1.1 hc.1.2 hc.2 ho hv⟩)
        · cases h
      · cases h
    · cases h
  | load t x =>
    simp only [ho, trOp0] at h
    split at h
    · rename_i m hs
      simp only [Option.some.injEq] at h; subst h
      exact .inr (.inl ⟨rfl, rfl, fun φ Γ e k hv => ok_load hs ho hv⟩)
    · cases h
  | store t x y =>
    simp only [ho, trOp0] at h
    split at h
    · rename_i m hs
      simp only [Option.some.injEq] at h; subst h
      exact .inr (.inr ⟨rfl, rfl, fun φ Γ a w k hst hd hnone hv => ok_store hst (hnone _ _ _ rfl) hs ho hv⟩)
    · cases h
  | nilCheck x =>
    simp only [ho, trOp0, Option.some.injEq] at h; subst h
    exact .inl ⟨rfl, fun φ e k hv => ok_nilCheck ho hv⟩
  | fieldAddr t x i =>
    simp only [ho, trOp0] at h
    split at h
    · rename_i fs hfs
      split at h
      · rename_i f hf
        split at h
        · rename_i m hs
          simp only [Option.some.injEq] at h; subst h
          have ht : P.underlying t = some (.struct fs) := by
            unfold fieldsOf at hfs
            split at hfs
            · rename_i q; simp only [Option.some.injEq] at hfs; subst hfs; exact q
            · cases hfs
          exact .inl ⟨rfl, fun φ e k hv => ok_fld ht hf hs ho hv⟩
        · cases h
      · cases h
    · cases h
  | field t x i =>
    simp only [ho, trOp0] at h
    split at h
    · rename_i fs hfs
      split at h
      · rename_i f hf
        split at h
        · rename_i m hs
          simp only [Option.some.injEq] at h; subst h
          have ht : P.underlying t = some (.struct fs) := by
            unfold fieldsOf at hfs
            split at hfs
            · rename_i q; simp only [Option.some.injEq] at hfs; subst hfs; exact q
            · cases hfs
          exact .inl ⟨rfl, fun φ e k hv => ok_field ht hf hs ho hv⟩
        · cases h
      · cases h
    · cases h
  | indexAddr t x i =>
    simp only [ho, trOp0] at h
    split at h
    · rename_i el ht
      split at h
      · rename_i m hs
        simp only [Option.some.injEq] at h; subst h
        exact .inr (.inl ⟨rfl, rfl, fun φ Γ e k hv => ok_idx ht hs ho hv⟩)
      · cases h
    · rename_i len el ht
      split at h
      · rename_i m hs
        cases hc : decide (1 < len) with
        | false => rw [hc] at h; simp at h
        | true =>
          rw [hc] at h
          simp only [cond_true, Option.some.injEq] at h; subst h
          exact .inr (.inl ⟨rfl, rfl, fun φ Γ e k hv => ok_idxA ht hs (of_decide_eq_true hc) ho hv⟩)
      · cases h
    · cases h
  | slice t x lo hi mx =>
    simp only [ho, trOp0] at h
    split at h
    · rename_i el ht
      split at h
      · rename_i m hs
        simp only [Option.some.injEq] at h; subst h
        exact .inr (.inl ⟨rfl, rfl, fun φ Γ e k hv => ok_slc ht hs ho hv⟩)
      · cases h
    · cases h
  | makeSlice t x y =>
    simp only [ho, trOp0] at h
    split at h
    · rename_i el ht
      split at h
      · rename_i i hi
        split at h
        · rename_i z hz
          cases hc : (decide (0 < i.size) && decide (0 < i.bytes) && decide ((cellsV z).length = i.size)) with
          | false => rw [hc] at h; simp at h
          | true =>
            rw [hc] at h
            simp only [cond_true, Option.some.injEq] at h; subst h
            simp only [Bool.and_eq_true, decide_eq_true_eq] at hc
            exact .inr (.inr ⟨rfl, rfl, fun φ Γ a w k hst hd _ hv => ok_mk hst hd ht hi hz hc.1.1 hc.1.2 hc.2 ho hv⟩)
        · cases h
      · cases h
    · cases h
  | makeFunc fn first caps =>
    rw [ho] at h
    cases fn with
    | func f =>
      simp only [trOp0] at h
      cases hc : first.isEmpty with
      | false => rw [hc] at h; simp at h
      | true =>
        rw [hc] at h
        simp only [cond_true, Option.some.injEq] at h; subst h
        have : first = #[] := by simpa using hc
        subst this
        exact .inl ⟨rfl, fun φ e k hv => ok_mkFunc ho hv⟩
    | _ => simp [trOp0] at h
  | extract x i =>
    simp only [ho, trOp0, Option.some.injEq] at h; subst h
    exact .inl ⟨rfl, fun φ e k hv => ok_extract ho hv⟩
  | call c => exact kinds_call ho (by rw [ho] at h; exact h)
  | _ => simp [ho, trOp0] at h


theorem kinds (h : trOp P loc o.op = some s) : Kinds P n Γr Γm w0 o s := by
  unfold trOp at h
  split at h
  · rename_i s' h'
    simp only [Option.some.injEq] at h
    subst h
    exact kinds0 h'
  · split at h
    · rename_i c xs hq
      simp only [Option.some.injEq] at h
      subst h
      refine .inr (.inl ⟨rfl, rfl, fun φ Γ e k hv => ok_q (fun a w w' r hr => ?_) hv⟩)
      rcases trQ_run hq a.eval w w' r hr with q | ⟨_, _, q⟩
      · exact q
      · cases q
    · rename_i c xs hq
      simp only [Option.some.injEq] at h
      subst h
      refine .inr (.inr ⟨rfl, rfl, fun φ Γ a w k hst hd _ hv => ok_a (fun a w w' r hr => ?_) hst hd hv⟩)
      rcases trQ_run hq a.eval w w' r hr with q | ⟨q, r, _⟩
      · exact .inl q
      · exact .inr ⟨q, r⟩
    · rename_i kd c xs h0 h1 hq
      simp only [Option.some.injEq] at h
      subst h
      refine .inr (.inr ⟨rfl, rfl, fun φ Γ a w k hst hd _ hv => ok_n (fun a w w' r hr => ?_) hst hd hv⟩)
      rcases trQ_run hq a.eval w w' r hr with q | ⟨_, _, q⟩
      · exact q
      · exact absurd q h1
    · simp only [Option.some.injEq] at h
      subst h
      exact .inr (.inr ⟨rfl, rfl, fun φ Γ a w k hst hd _ hv => hv.elim⟩)

theorem wanted_none (o : Oper) (h : o.guard = none) (y : Nat → Option Bool) : Region.wanted o y = true := by simp [Region.wanted, h]

/-- an operation, its guard and what follows -/
theorem vcOps_sound {locs : List Nat} {ops : Array Oper} {K : Fr → Ctx → Prop} {Q : Exit → Act → World → Prop}
    (hQ : ∀ φ Γ a w, K φ Γ → St n Γr Γm w0 φ Γ a w → Q .normal a w) :
    ∀ (l : List Oper) (sl : List SOper), trOpers P n locs ops l = some sl → ∀ φ Γ a w, vcOps P Γr sl φ Γ K → St n Γr Γm w0 φ Γ a w → wpList P ops Q l a w
  | [], sl, h, φ, Γ, a, w, hv, hst => by
    simp only [trOpers, Option.some.injEq] at h
    subst h
    exact hQ _ _ _ _ hv hst
  | o :: r, sl, h, φ, Γ, a, w, hv, hst => by
    simp only [trOpers] at h
    split at h
    · rename_i so l' hso hl'
      simp only [Option.some.injEq] at h
      subst h
      have ih := vcOps_sound hQ r l' hl'
      -- the one operation
      unfold trOper at hso
      dsimp only at hso
      split at hso
      · rename_i g sop hg htr
        have hdst : so = ⟨o.dst, g, sop⟩ ∧ (∀ t, o.dst = some t → t < n) ∧ (∀ m x y, sop = .store m x y → o.dst = none) := by
          split at hso
          · rename_i d hd
            cases hc : (decide (d < n) && noStore sop) with
            | false => rw [hc] at hso; simp at hso
            | true =>
              rw [hc] at hso
              simp only [cond_true, Option.some.injEq] at hso
              simp only [Bool.and_eq_true, decide_eq_true_eq] at hc
              refine ⟨hso.symm, fun t ht => ?_, fun m x y hs => ?_⟩
              · rw [hd] at ht; cases ht; exact hc.1
              · subst hs; simp [noStore] at hc
          · rename_i hd
            simp only [Option.some.injEq] at hso
            refine ⟨?_, fun t ht => ?_, fun _ _ _ _ => hd⟩
            · rw [hd]; exact hso.symm
            · rw [hd] at ht; cases ht
        obtain ⟨rfl, hdn, hstore⟩ := hdst
        have hkinds := kinds (n := n) (Γr := Γr) (Γm := Γm) (w0 := w0) htr
        -- what follows when the operation is carried out, and when it is passed over
        have run : ∀ e : Bool, (e = true → Region.wanted o (yielded ops a.tmps) = true) → (e = false → Region.wanted o (yielded ops a.tmps) = false) →
            ((isPure sop = true ∧ pureV φ e sop (fun x => vcOps P Γr l' (put φ o.dst x) Γ K)) ∨
             (isPure sop = false ∧ isAsk sop = true ∧ askV P (Γ ++ Γr) φ e sop (fun x => vcOps P Γr l' (put φ o.dst x) Γ K)) ∨
             (isPure sop = false ∧ isAsk sop = false ∧ (e = true → effV P Γr φ Γ o.dst sop (fun φ' Γ' => vcOps P Γr l' φ' Γ' K)) ∧ (e = false → ∃ x, vcOps P Γr l' (put φ o.dst (.v false x)) Γ K))) →
            wpList P ops Q (o :: r) a w := by
          intro e h1 h2 h3
          unfold wpList
          have slot : ∀ (x : Sl) (v : Value), vcOps P Γr l' (put φ o.dst x) Γ K → notBox x → FitsSl x v → wpList P ops Q r (a.put o.dst v) w :=
            fun x v hk hnb hf => ih _ _ _ _ hk (hst.put hdn hnb hf)
          cases e with
          | false =>
            rw [if_neg (by rw [h2 rfl]; simp)]
            rcases h3 with ⟨hp, hv⟩ | ⟨hp, ha, hv⟩ | ⟨hp, ha, _, hv⟩
            · rcases hkinds with ⟨_, hk⟩ | ⟨q, _⟩ | ⟨q, _⟩
              · obtain ⟨sl, hk1, hk2, hk3, _⟩ := hk _ _ _ hv
                exact slot sl undef hk1 hk2 (hk3 rfl)
              · rw [hp] at q; cases q
              · rw [hp] at q; cases q
            · rcases hkinds with ⟨q, _⟩ | ⟨_, _, hk⟩ | ⟨_, q, _⟩
              · rw [hp] at q; cases q
              · obtain ⟨sl, hk1, hk2, hk3, _⟩ := hk _ _ _ _ hv
                exact slot sl undef hk1 hk2 (hk3 rfl)
              · rw [ha] at q; cases q
            · obtain ⟨x, hx⟩ := hv rfl
              exact slot (.v false x) undef hx trivial rfl
          | true =>
            rw [if_pos (h1 rfl)]
            left
            have value : ∀ v, (execOp a.eval o).run P w = .ok (.value v) w → wpList P ops Q r (a.put o.dst v) w → o.wp P a w (wpList P ops Q r) Q := by
              intro v hr hn
              unfold Oper.wp
              rw [hr]
              exact hn
            rcases h3 with ⟨hp, hv⟩ | ⟨hp, ha, hv⟩ | ⟨hp, ha, hv, _⟩
            · rcases hkinds with ⟨_, hk⟩ | ⟨q, _⟩ | ⟨q, _⟩
              · obtain ⟨sl, hk1, hk2, _, hk4⟩ := hk _ _ _ hv
                obtain ⟨v, hr, hf⟩ := hk4 rfl a w hst.fits
                exact value v hr (slot sl v hk1 hk2 hf)
              · rw [hp] at q; cases q
              · rw [hp] at q; cases q
            · rcases hkinds with ⟨q, _⟩ | ⟨_, _, hk⟩ | ⟨_, q, _⟩
              · rw [hp] at q; cases q
              · obtain ⟨sl, hk1, hk2, _, hk4⟩ := hk _ _ _ _ hv
                obtain ⟨v, hr, hf⟩ := hk4 rfl a w hst
                exact value v hr (slot sl v hk1 hk2 hf)
              · rw [ha] at q; cases q
            · rcases hkinds with ⟨q, _⟩ | ⟨_, q, _⟩ | ⟨_, _, hk⟩
              · rw [hp] at q; cases q
              · rw [ha] at q; cases q
              · exact hk _ _ _ _ _ hst hdn hstore (hv rfl) _ _ (fun φ' Γ' a' w' hk' hst' => ih φ' Γ' a' w' hk' hst')
        -- the guard
        cases hgd : o.guard with
        | none =>
          rw [hgd] at hg
          simp only [Option.some.injEq] at hg
          subst hg
          simp only [vcOps] at hv
          refine run true (fun _ => wanted_none o hgd _) (fun q => by cases q) ?_
          cases hp : isPure sop with
          | true => rw [hp] at hv; exact .inl ⟨rfl, hv⟩
          | false =>
            rw [hp] at hv
            cases ha : isAsk sop with
            | true => rw [ha] at hv; exact .inr (.inl ⟨rfl, rfl, hv⟩)
            | false => rw [ha] at hv; exact .inr (.inr ⟨rfl, rfl, fun _ => hv, fun q => by cases q⟩)
        | some jw =>
          obtain ⟨j, want⟩ := jw
          rw [hgd] at hg
          dsimp only at hg
          split at hg
          · rename_i t ht
            cases hc : decide (t < n) with
            | false => rw [hc] at hg; simp at hg
            | true =>
              rw [hc] at hg
              simp only [cond_true, Option.some.injEq] at hg
              subst hg
              have htn : t < a.tmps.size := by rw [hst.n]; exact of_decide_eq_true hc
              simp only [vcOps, gd] at hv
              cases hl : look φ t with
              | v ge x =>
                rw [hl] at hv
                cases x with
                | bool b =>
                  simp only at hv
                  have hfit := hst.fits t
                  rw [hl] at hfit
                  simp only [FitsSl] at hfit
                  have hy : yielded ops a.tmps j = (bif ge then some b else none) := by
                    unfold yielded
                    rw [ht]
                    simp only [Option.bind_some]
                    have : a.tmps[t]? = some (a.tmps.getD t undef) := by simp [Array.getD_eq_getD_getElem?, htn]
                    rw [this, hfit]
                    cases ge <;> rfl
                  have hw : Region.wanted o (yielded ops a.tmps) = (ge && (b == want)) := by
                    unfold Region.wanted
                    rw [hgd]
                    simp only [hy]
                    cases ge <;> cases b <;> cases want <;> rfl
                  refine run (ge && (b == want)) (fun q => by rw [hw]; exact q) (fun q => by rw [hw]; exact q) ?_
                  cases hp : isPure sop with
                  | true => rw [hp] at hv; exact .inl ⟨rfl, hv⟩
                  | false =>
                    rw [hp] at hv
                    cases ha : isAsk sop with
                    | true => rw [ha] at hv; exact .inr (.inl ⟨rfl, rfl, hv⟩)
                    | false => rw [ha] at hv; exact .inr (.inr ⟨rfl, rfl, hv.1, hv.2⟩)
                | _ => exact hv.elim
              | _ => rw [hl] at hv; exact hv.elim
          · cases hg
      · cases hso
    · cases h
end
end Go.Proofs.Ytniobbepliknmaa.V
