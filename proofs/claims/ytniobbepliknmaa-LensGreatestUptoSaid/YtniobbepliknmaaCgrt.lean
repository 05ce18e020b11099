/- The row of parllaw5.LensGreatest, proved: LensGreatestUptoSaid; no condition. -/
import Derived.Test.YtniobbepliknmaaCf
import Derived.Test.YtniobbepliknmaaM7
namespace Go.Proofs.Ytniobbepliknmaa.V
open Go Go.ChangeShapes Go.RowKit Go.WideShapes Go.ChangeAt
set_option linter.unusedVariables false

theorem lensGreatest_own : ownKnob Try.prog.godebug = none := by kernel_rfl
set_option maxRecDepth 100000 in
theorem lensGreatest_contract (H : Type) (enc : TypeId × Value → H) (W : World) (base : Nat) (args : Array Value) (ds gs : List (DataW H)) (before : List MemPlace)
    (hW : DataW.Whole enc Try.prog Try.f10.params.toList Rows.lensGreatestSpec.vars false W args.toList ds gs before) (hk : Rows.uptoSmall H (ds ++ gs) = true)
    (hval : ∀ (j : Nat) t v, Try.f10.params[j]? = some t → args[j]? = some v → Value.okWide Try.prog W .any base t v) :
    Calls Try.prog 10 args W fun e W' => ∃ v, e = .returned v ∧ Rows.lensGreatestSpec.post enc Try.prog Try.f10 false true false false W args v W' := by
  have hW' := hW
  obtain ⟨p, q, hA, hV, rfl, hfz, hnd⟩ := hW
  obtain ⟨rfl, rfl⟩ := trodVars_none hV
  rw [Try.params10] at hA hval
  obtain ⟨v0, d0, rfl, rfl, r0⟩ := trodAll_one hA
  have hb : Rows.uptoBulk d0 ≤ 1048576 := by simpa [Rows.uptoSmall, Rows.uptoBulkAll, Nat.add_assoc] using hk
  have g0 : Value.okWide Try.prog W .any base 57 v0 := by apply hval 0 57 v0 <;> simp
  obtain ⟨x0, c0, rfl, s0, m0⟩ := arg_st (by kernel_rfl) try_gr g0 r0 (by omega)
  refine law_contract try_laid rfl ?_ ?_ (tb := 4) (by kernel_rfl) (by kernel_rfl) hW' (law_greatest s0)
  · rw [Try.params10]
    intro H ds h
    match ds, h with
    | [a], _ => rfl
  · rw [Try.params10]
    intro t ht
    simp at ht
    subst ht
    exact ⟨by kernel_rfl, of_decide_eq_true (by kernel_rfl)⟩

set_option maxRecDepth 100000 in
theorem lensGreatest_lifted (os : Os) (started : os.Started) (H : Type) (enc : TypeId × Value → H) (F : Stop.Interp) :
    ReturnsInHanded {} Try.checked os 10 .any ((Rows.OpenSpec.upto Rows.lensGreatestSpec).pre6 enc Try.prog Try.f10 Rows.lensGreatestUptoRow.domain false) (((Rows.OpenSpec.upto Rows.lensGreatestSpec).at F).post enc Try.prog Try.f10 false true false false) := by
  refine returnsInHanded_of_cond (C := Try.checked) (s := Rows.OpenSpec.upto Rows.lensGreatestSpec) (k := Rows.uptoSmall) rfl lensGreatest_own started (by kernel_rfl) Try.func10
    (OpenSpec.witness (enc := enc) (C := Try.checked) (s := Rows.OpenSpec.upto Rows.lensGreatestSpec) (k := Rows.uptoSmall) rfl false ⟨#[], #[.agg #[.int .i64 0, .int .i64 0, .int .i64 0, .slice none 0 0]], []⟩ 8 (by kernel_rfl) (by kernel_rfl) (by kernel_rfl)
      (x := ([.agg [.lit (.int .i64 0), .lit (.int .i64 0), .lit (.int .i64 0), .nil]], [], [])) (by kernel_rfl) rfl (by kernel_rfl)) ?_
  intro W base args ds gs before hval hW _ hk _
  exact lensGreatest_contract H enc W base args ds gs before hW hk hval

theorem lensGreatest_c1 : (Rows.lensGreatestUptoRow.inPlace == Try.prog.inPlace 10) = true := by kernel_rfl
theorem lensGreatest_c2 : (Rows.lensGreatestUptoRow.unfollowed == Try.prog.unfollowed 10) = true := by kernel_rfl
theorem lensGreatest_c3 : (Rows.lensGreatestUptoRow.recurses == Try.prog.recurses 10) = true := by kernel_rfl
theorem lensGreatest_c4 : (Rows.lensGreatestUptoRow.named == Try.prog.varsNamed 10) = true := by kernel_rfl
theorem lensGreatest_closed : joinedFacts Try.prog 10 Try.f10 (Rows.OpenSpec.upto Rows.lensGreatestSpec).bare Rows.lensGreatestUptoRow = true :=
  joined_split try_laid try_maps try_heard try_enter try_lifts try_make lensGreatest_c1 lensGreatest_c2 lensGreatest_c3 lensGreatest_c4 (by rw [try_keys]; rfl) (by kernel_rfl)
theorem lensGreatest_named : Try.prog.funcNamed Rows.lensGreatestUptoRow.func = some 10 := by kernel_rfl
theorem lensGreatest_inst : Func.isInstance Try.prog Try.f10 Rows.lensGreatestUptoRow.origin Rows.lensGreatestUptoRow.targs := of_decide_eq_true (by kernel_rfl)
theorem lensGreatest_wrap : Func.isWrapper Try.prog Try.f10 Rows.lensGreatestUptoRow.wrapper Rows.lensGreatestUptoRow.mainSum := by
  unfold Func.isWrapper; first | (rw [if_pos (by decide +kernel)]; kernel_rfl) | (rw [if_neg (by decide +kernel)]; exact ⟨rfl, rfl⟩)
theorem lensGreatest_over : Rows.lensGreatestUptoRow.holds Try.pinned (Rows.OpenSpec.upto Rows.lensGreatestSpec) :=
  OpenClaim.holds_of_cond (p := Try.pinned) 10 Try.f10 rfl rfl rfl rfl rfl rfl rfl ⟨rfl, rfl, rfl, rfl, rfl⟩ rfl rfl rfl rfl rfl lensGreatest_named Try.func10 lensGreatest_closed
    lensGreatest_inst lensGreatest_wrap
    (fun os started H enc _ F => lensGreatest_lifted os started H enc F)
theorem lensGreatest_holds : Rows.LensGreatestUptoSaid := lensGreatest_over
end Go.Proofs.Ytniobbepliknmaa.V
