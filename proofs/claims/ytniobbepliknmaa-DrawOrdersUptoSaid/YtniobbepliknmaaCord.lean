/- The row of parllaw5.DrawOrders, proved: DrawOrdersUptoSaid; no condition. -/
import Derived.Test.YtniobbepliknmaaW
import Derived.Test.YtniobbepliknmaaLord
namespace Go.Proofs.Ytniobbepliknmaa.V
open Go Go.ChangeShapes Go.RowKit Go.WideShapes Go.ChangeAt
set_option linter.unusedVariables false

theorem drawOrders_own : ownKnob Try.prog.godebug = none := by kernel_rfl
theorem drawOrders_laidOut : laidOutB Try.prog = true := by kernel_rfl
set_option maxRecDepth 100000 in
theorem drawOrders_contract (H : Type) (enc : TypeId × Value → H) (W : World) (base : Nat) (args : Array Value) (ds gs : List (DataW H)) (before : List MemPlace)
    (hW : DataW.Whole enc Try.prog Try.f6.params.toList Rows.drawOrdersSpec.vars false W args.toList ds gs before) (hk : Rows.uptoSmall H (ds ++ gs) = true)
    (hval : ∀ (j : Nat) t v, Try.f6.params[j]? = some t → args[j]? = some v → Value.okWide Try.prog W .any base t v) :
    Calls Try.prog 6 args W fun e W' => ∃ v, e = .returned v ∧ Rows.drawOrdersSpec.post enc Try.prog Try.f6 false true false false W args v W' := by
  have hW' := hW
  obtain ⟨p, q, hA, hV, rfl, hfz, hnd⟩ := hW
  obtain ⟨rfl, rfl⟩ := trodVars_none hV
  rw [Try.params6] at hA hval
  obtain ⟨v0, v1, d0, d1, p0, p1, rfl, rfl, rfl, r0, r1⟩ := trodAll_two hA
  have hb : Rows.uptoBulk d0 + Rows.uptoBulk d1 ≤ 1048576 := by simpa [Rows.uptoSmall, Rows.uptoBulkAll, Nat.add_assoc] using hk
  have g0 : Value.okWide Try.prog W .any base 3 v0 := by apply hval 0 3 v0 <;> simp
  obtain ⟨n0, rfl, l0, u0⟩ := arg_int (by kernel_rfl) g0 r0
  have g1 : Value.okWide Try.prog W .any base 22 v1 := by apply hval 1 22 v1 <;> simp
  have hr1 : Reads Try.prog (List Bool) 22 := reads_list (e := 4) (by kernel_rfl) (by kernel_rfl) (by decide) (reads_bool (by kernel_rfl))
  obtain ⟨x1, A1, c1, rfl, s1, m1⟩ := arg_list (e := 4) (by kernel_rfl) hr1 g1 r1 (by omega)
  refine law_contract drawOrders_laidOut rfl ?_ ?_ (tb := 4) (by kernel_rfl) (by kernel_rfl) hW' (law_orders n0 s1)
  · rw [Try.params6]
    intro H ds h
    match ds, h with
    | [a, b], _ => rfl
  · rw [Try.params6]
    intro t ht
    simp at ht
    rcases ht with rfl | rfl
    · exact ⟨by kernel_rfl, of_decide_eq_true (by kernel_rfl)⟩
    · exact ⟨by kernel_rfl, of_decide_eq_true (by kernel_rfl)⟩

set_option maxRecDepth 100000 in
theorem drawOrders_lifted (os : Os) (started : os.Started) (H : Type) (enc : TypeId × Value → H) (F : Stop.Interp) :
    ReturnsInHanded {} Try.checked os 6 .any ((Rows.OpenSpec.upto Rows.drawOrdersSpec).pre6 enc Try.prog Try.f6 Rows.drawOrdersUptoRow.domain false) (((Rows.OpenSpec.upto Rows.drawOrdersSpec).at F).post enc Try.prog Try.f6 false true false false) := by
  refine returnsInHanded_of_cond (C := Try.checked) (s := Rows.OpenSpec.upto Rows.drawOrdersSpec) (k := Rows.uptoSmall) rfl drawOrders_own started (by kernel_rfl) Try.func6
    (OpenSpec.witness (enc := enc) (C := Try.checked) (s := Rows.OpenSpec.upto Rows.drawOrdersSpec) (k := Rows.uptoSmall) rfl false ⟨#[], #[.int .i64 0, .slice none 0 0], []⟩ 8 (by kernel_rfl) (by kernel_rfl) (by kernel_rfl)
      (x := ([.lit (.int .i64 0), .nil], [], [])) (by kernel_rfl) rfl (by kernel_rfl)) ?_
  intro W base args ds gs before hval hW _ hk _
  exact drawOrders_contract H enc W base args ds gs before hW hk hval

theorem drawOrders_closed : joinedFacts Try.prog 6 Try.f6 (Rows.OpenSpec.upto Rows.drawOrdersSpec).bare Rows.drawOrdersUptoRow = true := by kernel_rfl
theorem drawOrders_named : Try.prog.funcNamed Rows.drawOrdersUptoRow.func = some 6 := by kernel_rfl
theorem drawOrders_inst : Func.isInstance Try.prog Try.f6 Rows.drawOrdersUptoRow.origin Rows.drawOrdersUptoRow.targs := of_decide_eq_true (by kernel_rfl)
theorem drawOrders_wrap : Func.isWrapper Try.prog Try.f6 Rows.drawOrdersUptoRow.wrapper Rows.drawOrdersUptoRow.mainSum := by
  unfold Func.isWrapper; first | (rw [if_pos (by decide +kernel)]; kernel_rfl) | (rw [if_neg (by decide +kernel)]; exact ⟨rfl, rfl⟩)
theorem drawOrders_over : Rows.drawOrdersUptoRow.holds Try.pinned (Rows.OpenSpec.upto Rows.drawOrdersSpec) :=
  OpenClaim.holds_of_cond (p := Try.pinned) 6 Try.f6 rfl rfl rfl rfl rfl rfl rfl ⟨rfl, rfl, rfl, rfl, rfl⟩ rfl rfl rfl rfl rfl drawOrders_named Try.func6 drawOrders_closed
    drawOrders_inst drawOrders_wrap
    (fun os started H enc _ F => drawOrders_lifted os started H enc F)
theorem drawOrders_holds : Rows.DrawOrdersUptoSaid := drawOrders_over
end Go.Proofs.Ytniobbepliknmaa.V
