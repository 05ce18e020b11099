/- The row of parllaw5.GuessRules, proved: GuessRulesUptoSaid; no condition. -/
import Derived.Test.YtniobbepliknmaaW
import Derived.Test.YtniobbepliknmaaLgr
namespace Go.Proofs.Ytniobbepliknmaa.V
open Go Go.ChangeShapes Go.RowKit Go.WideShapes Go.ChangeAt
set_option linter.unusedVariables false

theorem guessRules_own : ownKnob Try.prog.godebug = none := by kernel_rfl
theorem guessRules_laidOut : laidOutB Try.prog = true := by kernel_rfl
set_option maxRecDepth 100000 in
theorem guessRules_contract (H : Type) (enc : TypeId × Value → H) (W : World) (base : Nat) (args : Array Value) (ds gs : List (DataW H)) (before : List MemPlace)
    (hW : DataW.Whole enc Try.prog Try.f5.params.toList Rows.guessRulesSpec.vars false W args.toList ds gs before) (hk : Rows.uptoSmall H (ds ++ gs) = true)
    (hval : ∀ (j : Nat) t v, Try.f5.params[j]? = some t → args[j]? = some v → Value.okWide Try.prog W .any base t v) :
    Calls Try.prog 5 args W fun e W' => ∃ v, e = .returned v ∧ Rows.guessRulesSpec.post enc Try.prog Try.f5 false true false false W args v W' := by
  have hW' := hW
  obtain ⟨p, q, hA, hV, rfl, hfz, hnd⟩ := hW
  obtain ⟨rfl, rfl⟩ := trodVars_none hV
  rw [Try.params5] at hA hval
  obtain ⟨v0, v1, d0, d1, p0, p1, rfl, rfl, rfl, r0, r1⟩ := trodAll_two hA
  have hb : Rows.uptoBulk d0 + Rows.uptoBulk d1 ≤ 1048576 := by simpa [Rows.uptoSmall, Rows.uptoBulkAll, Nat.add_assoc] using hk
  have g0 : Value.okWide Try.prog W .any base 3 v0 := by apply hval 0 3 v0 <;> simp
  obtain ⟨n0, rfl, l0, u0⟩ := arg_int (by kernel_rfl) g0 r0
  have g1 : Value.okWide Try.prog W .any base 3 v1 := by apply hval 1 3 v1 <;> simp
  obtain ⟨n1, rfl, l1, u1⟩ := arg_int (by kernel_rfl) g1 r1
  refine law_contract guessRules_laidOut rfl ?_ ?_ (tb := 4) (by kernel_rfl) (by kernel_rfl) hW' (law_rules n0 n1 ⟨l0, u0⟩ ⟨l1, u1⟩)
  · rw [Try.params5]
    intro H ds h
    match ds, h with
    | [a, b], _ => rfl
  · rw [Try.params5]
    intro t ht
    simp at ht
    subst ht
    exact ⟨by kernel_rfl, of_decide_eq_true (by kernel_rfl)⟩

set_option maxRecDepth 100000 in
theorem guessRules_lifted (os : Os) (started : os.Started) (H : Type) (enc : TypeId × Value → H) (F : Stop.Interp) :
    ReturnsInHanded {} Try.checked os 5 .any ((Rows.OpenSpec.upto Rows.guessRulesSpec).pre6 enc Try.prog Try.f5 Rows.guessRulesUptoRow.domain false) (((Rows.OpenSpec.upto Rows.guessRulesSpec).at F).post enc Try.prog Try.f5 false true false false) := by
  refine returnsInHanded_of_cond (C := Try.checked) (s := Rows.OpenSpec.upto Rows.guessRulesSpec) (k := Rows.uptoSmall) rfl guessRules_own started (by kernel_rfl) Try.func5
    (OpenSpec.witness (enc := enc) (C := Try.checked) (s := Rows.OpenSpec.upto Rows.guessRulesSpec) (k := Rows.uptoSmall) rfl false ⟨#[], #[.int .i64 0, .int .i64 0], []⟩ 8 (by kernel_rfl) (by kernel_rfl) (by kernel_rfl)
      (x := ([.lit (.int .i64 0), .lit (.int .i64 0)], [], [])) (by kernel_rfl) rfl (by kernel_rfl)) ?_
  intro W base args ds gs before hval hW _ hk _
  exact guessRules_contract H enc W base args ds gs before hW hk hval

theorem guessRules_closed : joinedFacts Try.prog 5 Try.f5 (Rows.OpenSpec.upto Rows.guessRulesSpec).bare Rows.guessRulesUptoRow = true := by kernel_rfl
theorem guessRules_named : Try.prog.funcNamed Rows.guessRulesUptoRow.func = some 5 := by kernel_rfl
theorem guessRules_inst : Func.isInstance Try.prog Try.f5 Rows.guessRulesUptoRow.origin Rows.guessRulesUptoRow.targs := of_decide_eq_true (by kernel_rfl)
theorem guessRules_wrap : Func.isWrapper Try.prog Try.f5 Rows.guessRulesUptoRow.wrapper Rows.guessRulesUptoRow.mainSum := by
  unfold Func.isWrapper; first | (rw [if_pos (by decide +kernel)]; kernel_rfl) | (rw [if_neg (by decide +kernel)]; exact ⟨rfl, rfl⟩)
theorem guessRules_over : Rows.guessRulesUptoRow.holds Try.pinned (Rows.OpenSpec.upto Rows.guessRulesSpec) :=
  OpenClaim.holds_of_cond (p := Try.pinned) 5 Try.f5 rfl rfl rfl rfl rfl rfl rfl ⟨rfl, rfl, rfl, rfl, rfl⟩ rfl rfl rfl rfl rfl guessRules_named Try.func5 guessRules_closed
    guessRules_inst guessRules_wrap
    (fun os started H enc _ F => guessRules_lifted os started H enc F)
theorem guessRules_holds : Rows.GuessRulesUptoSaid := guessRules_over
end Go.Proofs.Ytniobbepliknmaa.V
