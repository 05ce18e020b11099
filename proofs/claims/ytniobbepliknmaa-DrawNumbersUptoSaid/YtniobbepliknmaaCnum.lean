/- The row of parllaw5.DrawNumbers, proved: DrawNumbersUptoSaid; no condition. -/
import Derived.Test.YtniobbepliknmaaW
import Derived.Test.YtniobbepliknmaaLnum
namespace Go.Proofs.Ytniobbepliknmaa.V
open Go Go.ChangeShapes Go.RowKit Go.WideShapes Go.ChangeAt
set_option linter.unusedVariables false

theorem own : ownKnob Try.prog.godebug = none := by kernel_rfl
theorem laidOut : laidOutB Try.prog = true := by kernel_rfl

set_option maxRecDepth 100000 in
theorem numbers_contract (H : Type) (enc : TypeId × Value → H) (W : World) (base : Nat) (args : Array Value) (ds gs : List (DataW H)) (before : List MemPlace)
    (hW : DataW.Whole enc Try.prog Try.f3.params.toList Rows.drawNumbersSpec.vars false W args.toList ds gs before) (hk : Rows.uptoSmall H (ds ++ gs) = true)
    (hval : ∀ (j : Nat) t v, Try.f3.params[j]? = some t → args[j]? = some v → Value.okWide Try.prog W .any base t v) :
    Calls Try.prog 3 args W fun e W' => ∃ v, e = .returned v ∧ Rows.drawNumbersSpec.post enc Try.prog Try.f3 false true false false W args v W' := by
  have hW' := hW
  obtain ⟨p, q, hA, hV, rfl, hfz, hnd⟩ := hW
  have hlen := trodAll_len _ _ _ _ hA
  obtain ⟨rfl, rfl⟩ := trodVars_none hV
  rw [Try.params3] at hA hval hlen
  obtain ⟨v0, v1, d0, d1, p0, p1, rfl, rfl, rfl, r0, r1⟩ := trodAll_two hA
  have hb : Rows.uptoBulk d0 + Rows.uptoBulk d1 ≤ 1048576 := by simpa [Rows.uptoSmall, Rows.uptoBulkAll] using hk
  have hx3 : Try.prog.underlying 3 = some (.int .i64) := Try.underlying3
  have g0 : Value.okWide Try.prog W .any base 3 v0 := by apply hval 0 3 v0 <;> simp
  have g1 : Value.okWide Try.prog W .any base 22 v1 := by apply hval 1 22 v1 <;> simp
  obtain ⟨n, rfl, _, _⟩ := arg_int hx3 g0 r0
  have hr : Reads Try.prog (List Bool) 22 := reads_list (e := 4) (by kernel_rfl) (by kernel_rfl) (by decide) (reads_bool (by kernel_rfl))
  obtain ⟨coins, A, c, rfl, hs, _⟩ := arg_list (e := 4) (by kernel_rfl) hr g1 r1 (by omega)
  refine law_contract laidOut rfl ?_ ?_ (tb := 4) (by kernel_rfl) (by kernel_rfl) hW' (law_numbers _ n A c coins hs)
  · rw [Try.params3]
    intro H ds h
    match ds, h with
    | [a, b], _ => rfl
  · rw [Try.params3]
    intro t ht
    simp at ht
    rcases ht with rfl | rfl
    · exact ⟨by kernel_rfl, of_decide_eq_true (by kernel_rfl)⟩
    · exact ⟨by kernel_rfl, of_decide_eq_true (by kernel_rfl)⟩

set_option maxRecDepth 100000 in
theorem numbers_lifted (os : Os) (started : os.Started) (H : Type) (enc : TypeId × Value → H) (F : Stop.Interp) :
    ReturnsInHanded {} Try.checked os 3 .any ((Rows.OpenSpec.upto Rows.drawNumbersSpec).pre6 enc Try.prog Try.f3 Rows.drawNumbersUptoRow.domain false) (((Rows.OpenSpec.upto Rows.drawNumbersSpec).at F).post enc Try.prog Try.f3 false true false false) := by
  refine returnsInHanded_of_cond (C := Try.checked) (s := Rows.OpenSpec.upto Rows.drawNumbersSpec) (k := Rows.uptoSmall) rfl own started (by kernel_rfl) Try.func3
    (OpenSpec.witness (enc := enc) (C := Try.checked) (s := Rows.OpenSpec.upto Rows.drawNumbersSpec) (k := Rows.uptoSmall) rfl false ⟨#[], #[.int .i64 0, .slice none 0 0], []⟩ 8 (by kernel_rfl) (by kernel_rfl) (by kernel_rfl)
      (x := ([.lit (.int .i64 0), .nil], [], [])) (by kernel_rfl) rfl (by kernel_rfl)) ?_
  intro W base args ds gs before hval hW _ hk _
  exact numbers_contract H enc W base args ds gs before hW hk hval

theorem numbers_closed : joinedFacts Try.prog 3 Try.f3 (Rows.OpenSpec.upto Rows.drawNumbersSpec).bare Rows.drawNumbersUptoRow = true := by kernel_rfl
theorem numbers_named : Try.prog.funcNamed Rows.drawNumbersUptoRow.func = some 3 := by kernel_rfl
theorem numbers_inst : Func.isInstance Try.prog Try.f3 Rows.drawNumbersUptoRow.origin Rows.drawNumbersUptoRow.targs := of_decide_eq_true (by kernel_rfl)
theorem numbers_wrap : Func.isWrapper Try.prog Try.f3 Rows.drawNumbersUptoRow.wrapper Rows.drawNumbersUptoRow.mainSum := by
  unfold Func.isWrapper; first | (rw [if_pos (by decide +kernel)]; kernel_rfl) | (rw [if_neg (by decide +kernel)]; exact ⟨rfl, rfl⟩)
theorem numbers_over : Rows.drawNumbersUptoRow.holds Try.pinned (Rows.OpenSpec.upto Rows.drawNumbersSpec) :=
  OpenClaim.holds_of_cond (p := Try.pinned) 3 Try.f3 rfl rfl rfl rfl rfl rfl rfl ⟨rfl, rfl, rfl, rfl, rfl⟩ rfl rfl rfl rfl rfl numbers_named Try.func3 numbers_closed
    numbers_inst numbers_wrap
    (fun os started H enc _ F => numbers_lifted os started H enc F)
theorem numbers_holds : Rows.DrawNumbersUptoSaid := numbers_over
end Go.Proofs.Ytniobbepliknmaa.V
