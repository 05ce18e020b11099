/- The row of parllaw5.TeachTells, proved: TeachTellsUptoSaid; no condition. -/
import Derived.Test.YtniobbepliknmaaCf
import Derived.Test.YtniobbepliknmaaM7
namespace Go.Proofs.Ytniobbepliknmaa.V
open Go Go.ChangeShapes Go.RowKit Go.WideShapes Go.ChangeAt
set_option linter.unusedVariables false

theorem teachTells_own : ownKnob Try.prog.godebug = none := by kernel_rfl
set_option maxRecDepth 100000 in
theorem teachTells_contract (H : Type) (enc : TypeId × Value → H) (W : World) (base : Nat) (args : Array Value) (ds gs : List (DataW H)) (before : List MemPlace)
    (hW : DataW.Whole enc Try.prog Try.f9.params.toList Rows.teachTellsSpec.vars false W args.toList ds gs before) (hk : Rows.uptoSmall H (ds ++ gs) = true)
    (hval : ∀ (j : Nat) t v, Try.f9.params[j]? = some t → args[j]? = some v → Value.okWide Try.prog W .any base t v) :
    Calls Try.prog 9 args W fun e W' => ∃ v, e = .returned v ∧ Rows.teachTellsSpec.post enc Try.prog Try.f9 false true false false W args v W' := by
  have hW' := hW
  obtain ⟨p, q, hA, hV, rfl, hfz, hnd⟩ := hW
  obtain ⟨rfl, rfl⟩ := trodVars_none hV
  rw [Try.params9] at hA hval
  obtain ⟨v0, v1, v2, d0, d1, d2, p0, p1, p2, rfl, rfl, rfl, r0, r1, r2⟩ := trodAll_three hA
  have hb : Rows.uptoBulk d0 + Rows.uptoBulk d1 + Rows.uptoBulk d2 ≤ 1048576 := by simpa [Rows.uptoSmall, Rows.uptoBulkAll, Nat.add_assoc] using hk
  have g0 : Value.okWide Try.prog W .any base 67 v0 := by apply hval 0 67 v0 <;> simp
  obtain ⟨x0, c0, rfl, s0, m0⟩ := arg_st (by kernel_rfl) try_da g0 r0 (by omega)
  have g1 : Value.okWide Try.prog W .any base 67 v1 := by apply hval 1 67 v1 <;> simp
  obtain ⟨x1, c1, rfl, s1, m1⟩ := arg_st (by kernel_rfl) try_da g1 r1 (by omega)
  have g2 : Value.okWide Try.prog W .any base 65 v2 := by apply hval 2 65 v2 <;> simp
  obtain ⟨x2, A2, c2, rfl, s2, m2⟩ := arg_list (e := 29) (by kernel_rfl) try_intss g2 r2 (by omega)
  refine law_contract try_laid rfl ?_ ?_ (tb := 4) (by kernel_rfl) (by kernel_rfl) hW' (law_teach s0 s1 s2)
  · rw [Try.params9]
    intro H ds h
    match ds, h with
    | [a, b, c], _ => rfl
  · rw [Try.params9]
    intro t ht
    simp at ht
    rcases ht with rfl | rfl
    · exact ⟨by kernel_rfl, of_decide_eq_true (by kernel_rfl)⟩
    · exact ⟨by kernel_rfl, of_decide_eq_true (by kernel_rfl)⟩

set_option maxRecDepth 100000 in
theorem teachTells_lifted (os : Os) (started : os.Started) (H : Type) (enc : TypeId × Value → H) (F : Stop.Interp) :
    ReturnsInHanded {} Try.checked os 9 .any ((Rows.OpenSpec.upto Rows.teachTellsSpec).pre6 enc Try.prog Try.f9 Rows.teachTellsUptoRow.domain false) (((Rows.OpenSpec.upto Rows.teachTellsSpec).at F).post enc Try.prog Try.f9 false true false false) := by
  refine returnsInHanded_of_cond (C := Try.checked) (s := Rows.OpenSpec.upto Rows.teachTellsSpec) (k := Rows.uptoSmall) rfl teachTells_own started (by kernel_rfl) Try.func9
    (OpenSpec.witness (enc := enc) (C := Try.checked) (s := Rows.OpenSpec.upto Rows.teachTellsSpec) (k := Rows.uptoSmall) rfl false ⟨#[], #[.agg #[.int .i64 0, .slice none 0 0, .slice none 0 0], .agg #[.int .i64 0, .slice none 0 0, .slice none 0 0], .slice none 0 0], []⟩ 8 (by kernel_rfl) (by kernel_rfl) (by kernel_rfl)
      (x := ([.agg [.lit (.int .i64 0), .nil, .nil], .agg [.lit (.int .i64 0), .nil, .nil], .nil], [], [])) (by kernel_rfl) rfl (by kernel_rfl)) ?_
  intro W base args ds gs before hval hW _ hk _
  exact teachTells_contract H enc W base args ds gs before hW hk hval

theorem teachTells_c1 : (Rows.teachTellsUptoRow.inPlace == Try.prog.inPlace 9) = true := by kernel_rfl
theorem teachTells_c2 : (Rows.teachTellsUptoRow.unfollowed == Try.prog.unfollowed 9) = true := by kernel_rfl
theorem teachTells_c3 : (Rows.teachTellsUptoRow.recurses == Try.prog.recurses 9) = true := by kernel_rfl
theorem teachTells_c4 : (Rows.teachTellsUptoRow.named == Try.prog.varsNamed 9) = true := by kernel_rfl
theorem teachTells_closed : joinedFacts Try.prog 9 Try.f9 (Rows.OpenSpec.upto Rows.teachTellsSpec).bare Rows.teachTellsUptoRow = true :=
  joined_split try_laid try_maps try_heard try_enter try_lifts try_make teachTells_c1 teachTells_c2 teachTells_c3 teachTells_c4 (by rw [try_keys]; rfl) (by kernel_rfl)
theorem teachTells_named : Try.prog.funcNamed Rows.teachTellsUptoRow.func = some 9 := by kernel_rfl
theorem teachTells_inst : Func.isInstance Try.prog Try.f9 Rows.teachTellsUptoRow.origin Rows.teachTellsUptoRow.targs := of_decide_eq_true (by kernel_rfl)
theorem teachTells_wrap : Func.isWrapper Try.prog Try.f9 Rows.teachTellsUptoRow.wrapper Rows.teachTellsUptoRow.mainSum := by
  unfold Func.isWrapper; first | (rw [if_pos (by decide +kernel)]; kernel_rfl) | (rw [if_neg (by decide +kernel)]; exact ⟨rfl, rfl⟩)
theorem teachTells_over : Rows.teachTellsUptoRow.holds Try.pinned (Rows.OpenSpec.upto Rows.teachTellsSpec) :=
  OpenClaim.holds_of_cond (p := Try.pinned) 9 Try.f9 rfl rfl rfl rfl rfl rfl rfl ⟨rfl, rfl, rfl, rfl, rfl⟩ rfl rfl rfl rfl rfl teachTells_named Try.func9 teachTells_closed
    teachTells_inst teachTells_wrap
    (fun os started H enc _ F => teachTells_lifted os started H enc F)
theorem teachTells_holds : Rows.TeachTellsUptoSaid := teachTells_over
end Go.Proofs.Ytniobbepliknmaa.V
