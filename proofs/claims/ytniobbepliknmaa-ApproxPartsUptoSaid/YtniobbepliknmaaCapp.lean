/- The row of parllaw5.ApproxParts, proved: ApproxPartsUptoSaid; no condition. -/
import Derived.Test.YtniobbepliknmaaCf
import Derived.Test.YtniobbepliknmaaM6
namespace Go.Proofs.Ytniobbepliknmaa.V
open Go Go.ChangeShapes Go.RowKit Go.WideShapes Go.ChangeAt
set_option linter.unusedVariables false

theorem approxParts_own : ownKnob Try.prog.godebug = none := by kernel_rfl
set_option maxRecDepth 100000 in
theorem approxParts_contract (H : Type) (enc : TypeId × Value → H) (W : World) (base : Nat) (args : Array Value) (ds gs : List (DataW H)) (before : List MemPlace)
    (hW : DataW.Whole enc Try.prog Try.f11.params.toList Rows.approxPartsSpec.vars false W args.toList ds gs before) (hk : Rows.uptoSmall H (ds ++ gs) = true)
    (hval : ∀ (j : Nat) t v, Try.f11.params[j]? = some t → args[j]? = some v → Value.okWide Try.prog W .any base t v) :
    Calls Try.prog 11 args W fun e W' => ∃ v, e = .returned v ∧ Rows.approxPartsSpec.post enc Try.prog Try.f11 false true false false W args v W' := by
  have hW' := hW
  obtain ⟨p, q, hA, hV, rfl, hfz, hnd⟩ := hW
  obtain ⟨rfl, rfl⟩ := trodVars_none hV
  rw [Try.params11] at hA hval
  obtain ⟨v0, d0, rfl, rfl, r0⟩ := trodAll_one hA
  have hb : Rows.uptoBulk d0 ≤ 1048576 := by simpa [Rows.uptoSmall, Rows.uptoBulkAll, Nat.add_assoc] using hk
  have g0 : Value.okWide Try.prog W .any base 57 v0 := by apply hval 0 57 v0 <;> simp
  obtain ⟨x0, c0, rfl, s0, m0⟩ := arg_st (by kernel_rfl) try_gr g0 r0 (by omega)
  refine law_contract try_laid rfl ?_ ?_ (tb := 4) (by kernel_rfl) (by kernel_rfl) hW' (law_parts s0)
  · rw [Try.params11]
    intro H ds h
    match ds, h with
    | [a], _ => rfl
  · rw [Try.params11]
    intro t ht
    simp at ht
    subst ht
    exact ⟨by kernel_rfl, of_decide_eq_true (by kernel_rfl)⟩

set_option maxRecDepth 100000 in
theorem approxParts_lifted (os : Os) (started : os.Started) (H : Type) (enc : TypeId × Value → H) (F : Stop.Interp) :
    ReturnsInHanded {} Try.checked os 11 .any ((Rows.OpenSpec.upto Rows.approxPartsSpec).pre6 enc Try.prog Try.f11 Rows.approxPartsUptoRow.domain false) (((Rows.OpenSpec.upto Rows.approxPartsSpec).at F).post enc Try.prog Try.f11 false true false false) := by
  refine returnsInHanded_of_cond (C := Try.checked) (s := Rows.OpenSpec.upto Rows.approxPartsSpec) (k := Rows.uptoSmall) rfl approxParts_own started (by kernel_rfl) Try.func11
    (OpenSpec.witness (enc := enc) (C := Try.checked) (s := Rows.OpenSpec.upto Rows.approxPartsSpec) (k := Rows.uptoSmall) rfl false ⟨#[], #[.agg #[.int .i64 0, .int .i64 0, .int .i64 0, .slice none 0 0]], []⟩ 8 (by kernel_rfl) (by kernel_rfl) (by kernel_rfl)
      (x := ([.agg [.lit (.int .i64 0), .lit (.int .i64 0), .lit (.int .i64 0), .nil]], [], [])) (by kernel_rfl) rfl (by kernel_rfl)) ?_
  intro W base args ds gs before hval hW _ hk _
  exact approxParts_contract H enc W base args ds gs before hW hk hval

theorem approxParts_c1 : (Rows.approxPartsUptoRow.inPlace == Try.prog.inPlace 11) = true := by kernel_rfl
theorem approxParts_c2 : (Rows.approxPartsUptoRow.unfollowed == Try.prog.unfollowed 11) = true := by kernel_rfl
theorem approxParts_c3 : (Rows.approxPartsUptoRow.recurses == Try.prog.recurses 11) = true := by kernel_rfl
theorem approxParts_c4 : (Rows.approxPartsUptoRow.named == Try.prog.varsNamed 11) = true := by kernel_rfl
theorem approxParts_closed : joinedFacts Try.prog 11 Try.f11 (Rows.OpenSpec.upto Rows.approxPartsSpec).bare Rows.approxPartsUptoRow = true :=
  joined_split try_laid try_maps try_heard try_enter try_lifts try_make approxParts_c1 approxParts_c2 approxParts_c3 approxParts_c4 (by rw [try_keys]; rfl) (by kernel_rfl)
theorem approxParts_named : Try.prog.funcNamed Rows.approxPartsUptoRow.func = some 11 := by kernel_rfl
theorem approxParts_inst : Func.isInstance Try.prog Try.f11 Rows.approxPartsUptoRow.origin Rows.approxPartsUptoRow.targs := of_decide_eq_true (by kernel_rfl)
theorem approxParts_wrap : Func.isWrapper Try.prog Try.f11 Rows.approxPartsUptoRow.wrapper Rows.approxPartsUptoRow.mainSum := by
  unfold Func.isWrapper; first | (rw [if_pos (by decide +kernel)]; kernel_rfl) | (rw [if_neg (by decide +kernel)]; exact ⟨rfl, rfl⟩)
theorem approxParts_over : Rows.approxPartsUptoRow.holds Try.pinned (Rows.OpenSpec.upto Rows.approxPartsSpec) :=
  OpenClaim.holds_of_cond (p := Try.pinned) 11 Try.f11 rfl rfl rfl rfl rfl rfl rfl ⟨rfl, rfl, rfl, rfl, rfl⟩ rfl rfl rfl rfl rfl approxParts_named Try.func11 approxParts_closed
    approxParts_inst approxParts_wrap
    (fun os started H enc _ F => approxParts_lifted os started H enc F)
theorem approxParts_holds : Rows.ApproxPartsUptoSaid := approxParts_over
end Go.Proofs.Ytniobbepliknmaa.V
