/- The row of parllaw5.ShrinkWords, proved: ShrinkWordsUptoSaid; no condition. -/
import Derived.Test.YtniobbepliknmaaW
import Derived.Test.YtniobbepliknmaaLshr
namespace Go.Proofs.Ytniobbepliknmaa.V
open Go Go.ChangeShapes Go.RowKit Go.WideShapes Go.ChangeAt
set_option linter.unusedVariables false

theorem shrinkWords_own : ownKnob Try.prog.godebug = none := by kernel_rfl
theorem shrinkWords_laidOut : laidOutB Try.prog = true := by kernel_rfl
set_option maxRecDepth 100000 in
theorem shrinkWords_contract (H : Type) (enc : TypeId × Value → H) (W : World) (base : Nat) (args : Array Value) (ds gs : List (DataW H)) (before : List MemPlace)
    (hW : DataW.Whole enc Try.prog Try.f7.params.toList Rows.shrinkWordsSpec.vars false W args.toList ds gs before) (hk : Rows.uptoSmall H (ds ++ gs) = true)
    (hval : ∀ (j : Nat) t v, Try.f7.params[j]? = some t → args[j]? = some v → Value.okWide Try.prog W .any base t v) :
    Calls Try.prog 7 args W fun e W' => ∃ v, e = .returned v ∧ Rows.shrinkWordsSpec.post enc Try.prog Try.f7 false true false false W args v W' := by
  have hW' := hW
  obtain ⟨p, q, hA, hV, rfl, hfz, hnd⟩ := hW
  obtain ⟨rfl, rfl⟩ := trodVars_none hV
  rw [Try.params7] at hA hval
  obtain ⟨v0, v1, v2, d0, d1, d2, p0, p1, p2, rfl, rfl, rfl, r0, r1, r2⟩ := trodAll_three hA
  have hb : Rows.uptoBulk d0 + Rows.uptoBulk d1 + Rows.uptoBulk d2 ≤ 1048576 := by simpa [Rows.uptoSmall, Rows.uptoBulkAll, Nat.add_assoc] using hk
  have g0 : Value.okWide Try.prog W .any base 29 v0 := by apply hval 0 29 v0 <;> simp
  have hr0 : Reads Try.prog (List Int) 29 := reads_list (e := 3) (by kernel_rfl) (by kernel_rfl) (by decide) (reads_int (by kernel_rfl))
  obtain ⟨x0, A0, c0, rfl, s0, m0⟩ := arg_list (e := 3) (by kernel_rfl) hr0 g0 r0 (by omega)
  have g1 : Value.okWide Try.prog W .any base 3 v1 := by apply hval 1 3 v1 <;> simp
  obtain ⟨n1, rfl, l1, u1⟩ := arg_int (by kernel_rfl) g1 r1
  have g2 : Value.okWide Try.prog W .any base 3 v2 := by apply hval 2 3 v2 <;> simp
  obtain ⟨n2, rfl, l2, u2⟩ := arg_int (by kernel_rfl) g2 r2
  refine law_contract shrinkWords_laidOut rfl ?_ ?_ (tb := 4) (by kernel_rfl) (by kernel_rfl) hW' (law_shrink s0 n1 n2)
  · rw [Try.params7]
    intro H ds h
    match ds, h with
    | [a, b, c], _ => rfl
  · rw [Try.params7]
    intro t ht
    simp at ht
    rcases ht with rfl | rfl
    · exact ⟨by kernel_rfl, of_decide_eq_true (by kernel_rfl)⟩
    · exact ⟨by kernel_rfl, of_decide_eq_true (by kernel_rfl)⟩

set_option maxRecDepth 100000 in
theorem shrinkWords_lifted (os : Os) (started : os.Started) (H : Type) (enc : TypeId × Value → H) (F : Stop.Interp) :
    ReturnsInHanded {} Try.checked os 7 .any ((Rows.OpenSpec.upto Rows.shrinkWordsSpec).pre6 enc Try.prog Try.f7 Rows.shrinkWordsUptoRow.domain false) (((Rows.OpenSpec.upto Rows.shrinkWordsSpec).at F).post enc Try.prog Try.f7 false true false false) := by
  refine returnsInHanded_of_cond (C := Try.checked) (s := Rows.OpenSpec.upto Rows.shrinkWordsSpec) (k := Rows.uptoSmall) rfl shrinkWords_own started (by kernel_rfl) Try.func7
    (OpenSpec.witness (enc := enc) (C := Try.checked) (s := Rows.OpenSpec.upto Rows.shrinkWordsSpec) (k := Rows.uptoSmall) rfl false ⟨#[], #[.slice none 0 0, .int .i64 0, .int .i64 0], []⟩ 8 (by kernel_rfl) (by kernel_rfl) (by kernel_rfl)
      (x := ([.nil, .lit (.int .i64 0), .lit (.int .i64 0)], [], [])) (by kernel_rfl) rfl (by kernel_rfl)) ?_
  intro W base args ds gs before hval hW _ hk _
  exact shrinkWords_contract H enc W base args ds gs before hW hk hval

theorem shrinkWords_closed : joinedFacts Try.prog 7 Try.f7 (Rows.OpenSpec.upto Rows.shrinkWordsSpec).bare Rows.shrinkWordsUptoRow = true := by kernel_rfl
theorem shrinkWords_named : Try.prog.funcNamed Rows.shrinkWordsUptoRow.func = some 7 := by kernel_rfl
theorem shrinkWords_inst : Func.isInstance Try.prog Try.f7 Rows.shrinkWordsUptoRow.origin Rows.shrinkWordsUptoRow.targs := of_decide_eq_true (by kernel_rfl)
theorem shrinkWords_wrap : Func.isWrapper Try.prog Try.f7 Rows.shrinkWordsUptoRow.wrapper Rows.shrinkWordsUptoRow.mainSum := by
  unfold Func.isWrapper; first | (rw [if_pos (by decide +kernel)]; kernel_rfl) | (rw [if_neg (by decide +kernel)]; exact ⟨rfl, rfl⟩)
theorem shrinkWords_over : Rows.shrinkWordsUptoRow.holds Try.pinned (Rows.OpenSpec.upto Rows.shrinkWordsSpec) :=
  OpenClaim.holds_of_cond (p := Try.pinned) 7 Try.f7 rfl rfl rfl rfl rfl rfl rfl ⟨rfl, rfl, rfl, rfl, rfl⟩ rfl rfl rfl rfl rfl shrinkWords_named Try.func7 shrinkWords_closed
    shrinkWords_inst shrinkWords_wrap
    (fun os started H enc _ F => shrinkWords_lifted os started H enc F)
theorem shrinkWords_holds : Rows.ShrinkWordsUptoSaid := shrinkWords_over
end Go.Proofs.Ytniobbepliknmaa.V
