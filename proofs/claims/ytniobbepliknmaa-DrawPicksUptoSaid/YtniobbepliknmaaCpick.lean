/- The row of parllaw5.DrawPicks, proved: DrawPicksUptoSaid; no condition. -/
import Derived.Test.YtniobbepliknmaaW
import Derived.Test.YtniobbepliknmaaLpick
namespace Go.Proofs.Ytniobbepliknmaa.V
open Go Go.ChangeShapes Go.RowKit Go.WideShapes Go.ChangeAt
set_option linter.unusedVariables false

theorem drawPicks_own : ownKnob Try.prog.godebug = none := by kernel_rfl
theorem drawPicks_laidOut : laidOutB Try.prog = true := by kernel_rfl
set_option maxRecDepth 100000 in
theorem drawPicks_contract (H : Type) (enc : TypeId × Value → H) (W : World) (base : Nat) (args : Array Value) (ds gs : List (DataW H)) (before : List MemPlace)
    (hW : DataW.Whole enc Try.prog Try.f4.params.toList Rows.drawPicksSpec.vars false W args.toList ds gs before) (hk : Rows.uptoSmall H (ds ++ gs) = true)
    (hval : ∀ (j : Nat) t v, Try.f4.params[j]? = some t → args[j]? = some v → Value.okWide Try.prog W .any base t v) :
    Calls Try.prog 4 args W fun e W' => ∃ v, e = .returned v ∧ Rows.drawPicksSpec.post enc Try.prog Try.f4 false true false false W args v W' := by
  have hW' := hW
  obtain ⟨p, q, hA, hV, rfl, hfz, hnd⟩ := hW
  obtain ⟨rfl, rfl⟩ := trodVars_none hV
  rw [Try.params4] at hA hval
  obtain ⟨v0, v1, d0, d1, p0, p1, rfl, rfl, rfl, r0, r1⟩ := trodAll_two hA
  have hb : Rows.uptoBulk d0 + Rows.uptoBulk d1 ≤ 1048576 := by simpa [Rows.uptoSmall, Rows.uptoBulkAll, Nat.add_assoc] using hk
  have g0 : Value.okWide Try.prog W .any base 29 v0 := by apply hval 0 29 v0 <;> simp
  have hr0 : Reads Try.prog (List Int) 29 := reads_list (e := 3) (by kernel_rfl) (by kernel_rfl) (by decide) (reads_int (by kernel_rfl))
  obtain ⟨x0, A0, c0, rfl, s0, m0⟩ := arg_list (e := 3) (by kernel_rfl) hr0 g0 r0 (by omega)
  have g1 : Value.okWide Try.prog W .any base 22 v1 := by apply hval 1 22 v1 <;> simp
  have hr1 : Reads Try.prog (List Bool) 22 := reads_list (e := 4) (by kernel_rfl) (by kernel_rfl) (by decide) (reads_bool (by kernel_rfl))
  obtain ⟨x1, A1, c1, rfl, s1, m1⟩ := arg_list (e := 4) (by kernel_rfl) hr1 g1 r1 (by omega)
  refine law_contract drawPicks_laidOut rfl ?_ ?_ (tb := 4) (by kernel_rfl) (by kernel_rfl) hW' (law_picks _ A0 c0 x0 A1 c1 x1 s0 s1)
  · rw [Try.params4]
    intro H ds h
    match ds, h with
    | [a, b], _ => rfl
  · rw [Try.params4]
    intro t ht
    simp at ht
    rcases ht with rfl | rfl
    · exact ⟨by kernel_rfl, of_decide_eq_true (by kernel_rfl)⟩
    · exact ⟨by kernel_rfl, of_decide_eq_true (by kernel_rfl)⟩

set_option maxRecDepth 100000 in
theorem drawPicks_lifted (os : Os) (started : os.Started) (H : Type) (enc : TypeId × Value → H) (F : Stop.Interp) :
    ReturnsInHanded {} Try.checked os 4 .any ((Rows.OpenSpec.upto Rows.drawPicksSpec).pre6 enc Try.prog Try.f4 Rows.drawPicksUptoRow.domain false) (((Rows.OpenSpec.upto Rows.drawPicksSpec).at F).post enc Try.prog Try.f4 false true false false) := by
  refine returnsInHanded_of_cond (C := Try.checked) (s := Rows.OpenSpec.upto Rows.drawPicksSpec) (k := Rows.uptoSmall) rfl drawPicks_own started (by kernel_rfl) Try.func4
    (OpenSpec.witness (enc := enc) (C := Try.checked) (s := Rows.OpenSpec.upto Rows.drawPicksSpec) (k := Rows.uptoSmall) rfl false ⟨#[], #[.slice none 0 0, .slice none 0 0], []⟩ 8 (by kernel_rfl) (by kernel_rfl) (by kernel_rfl)
      (x := ([.nil, .nil], [], [])) (by kernel_rfl) rfl (by kernel_rfl)) ?_
  intro W base args ds gs before hval hW _ hk _
  exact drawPicks_contract H enc W base args ds gs before hW hk hval

theorem drawPicks_closed : joinedFacts Try.prog 4 Try.f4 (Rows.OpenSpec.upto Rows.drawPicksSpec).bare Rows.drawPicksUptoRow = true := by kernel_rfl
theorem drawPicks_named : Try.prog.funcNamed Rows.drawPicksUptoRow.func = some 4 := by kernel_rfl
theorem drawPicks_inst : Func.isInstance Try.prog Try.f4 Rows.drawPicksUptoRow.origin Rows.drawPicksUptoRow.targs := of_decide_eq_true (by kernel_rfl)
theorem drawPicks_wrap : Func.isWrapper Try.prog Try.f4 Rows.drawPicksUptoRow.wrapper Rows.drawPicksUptoRow.mainSum := by
  unfold Func.isWrapper; first | (rw [if_pos (by decide +kernel)]; kernel_rfl) | (rw [if_neg (by decide +kernel)]; exact ⟨rfl, rfl⟩)
theorem drawPicks_over : Rows.drawPicksUptoRow.holds Try.pinned (Rows.OpenSpec.upto Rows.drawPicksSpec) :=
  OpenClaim.holds_of_cond (p := Try.pinned) 4 Try.f4 rfl rfl rfl rfl rfl rfl rfl ⟨rfl, rfl, rfl, rfl, rfl⟩ rfl rfl rfl rfl rfl drawPicks_named Try.func4 drawPicks_closed
    drawPicks_inst drawPicks_wrap
    (fun os started H enc _ F => drawPicks_lifted os started H enc F)
theorem drawPicks_holds : Rows.DrawPicksUptoSaid := drawPicks_over
end Go.Proofs.Ytniobbepliknmaa.V
