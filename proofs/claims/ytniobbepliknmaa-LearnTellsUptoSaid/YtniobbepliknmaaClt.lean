/- The row of parllaw5.LearnTells, proved: LearnTellsUptoSaid; no condition. -/
import Derived.Test.YtniobbepliknmaaCf
import Derived.Test.YtniobbepliknmaaM3
import Derived.Test.YtniobbepliknmaaM8
namespace Go.Proofs.Ytniobbepliknmaa.V
open Go Go.ChangeShapes Go.RowKit Go.WideShapes Go.ChangeAt
set_option linter.unusedVariables false

theorem learnTells_own : ownKnob Try.prog.godebug = none := by kernel_rfl
set_option maxRecDepth 100000 in
theorem learnTells_contract (H : Type) (enc : TypeId × Value → H) (W : World) (base : Nat) (args : Array Value) (ds gs : List (DataW H)) (before : List MemPlace)
    (hW : DataW.Whole enc Try.prog Try.f17.params.toList Rows.learnTellsSpec.vars false W args.toList ds gs before) (hk : Rows.uptoSmall H (ds ++ gs) = true)
    (hval : ∀ (j : Nat) t v, Try.f17.params[j]? = some t → args[j]? = some v → Value.okWide Try.prog W .any base t v) :
    Calls Try.prog 17 args W fun e W' => ∃ v, e = .returned v ∧ Rows.learnTellsSpec.post enc Try.prog Try.f17 false true false false W args v W' := by
  have hW' := hW
  obtain ⟨p, q, hA, hV, rfl, hfz, hnd⟩ := hW
  obtain ⟨rfl, rfl⟩ := trodVars_none hV
  rw [Try.params17] at hA hval
  obtain ⟨v0, v1, d0, d1, p0, p1, rfl, rfl, rfl, r0, r1⟩ := trodAll_two hA
  have hb : Rows.uptoBulk d0 + Rows.uptoBulk d1 ≤ 1048576 := by simpa [Rows.uptoSmall, Rows.uptoBulkAll, Nat.add_assoc] using hk
  have g0 : Value.okWide Try.prog W .any base 67 v0 := by apply hval 0 67 v0 <;> simp
  obtain ⟨x0, c0, rfl, s0, m0⟩ := arg_st (by kernel_rfl) try_da g0 r0 (by omega)
  have g1 : Value.okWide Try.prog W .any base 3 v1 := by apply hval 1 3 v1 <;> simp
  obtain ⟨n1, rfl, l1, u1⟩ := arg_int (by kernel_rfl) g1 r1
  refine law_contract try_laid rfl ?_ ?_ (tb := 4) (by kernel_rfl) (by kernel_rfl) hW' (law_learn s0 ⟨l1, u1⟩)
  · rw [Try.params17]
    intro H ds h
    match ds, h with
    | [a, b], _ => rfl
  · rw [Try.params17]
    intro t ht
    simp at ht
    rcases ht with rfl | rfl
    · exact ⟨by kernel_rfl, of_decide_eq_true (by kernel_rfl)⟩
    · exact ⟨by kernel_rfl, of_decide_eq_true (by kernel_rfl)⟩

set_option maxRecDepth 100000 in
theorem learnTells_lifted (os : Os) (started : os.Started) (H : Type) (enc : TypeId × Value → H) (F : Stop.Interp) :
    ReturnsInHanded {} Try.checked os 17 .any ((Rows.OpenSpec.upto Rows.learnTellsSpec).pre6 enc Try.prog Try.f17 Rows.learnTellsUptoRow.domain false) (((Rows.OpenSpec.upto Rows.learnTellsSpec).at F).post enc Try.prog Try.f17 false true false false) := by
  refine returnsInHanded_of_cond (C := Try.checked) (s := Rows.OpenSpec.upto Rows.learnTellsSpec) (k := Rows.uptoSmall) rfl learnTells_own started (by kernel_rfl) Try.func17
    (OpenSpec.witness (enc := enc) (C := Try.checked) (s := Rows.OpenSpec.upto Rows.learnTellsSpec) (k := Rows.uptoSmall) rfl false ⟨#[], #[.agg #[.int .i64 0, .slice none 0 0, .slice none 0 0], .int .i64 0], []⟩ 8 (by kernel_rfl) (by kernel_rfl) (by kernel_rfl)
      (x := ([.agg [.lit (.int .i64 0), .nil, .nil], .lit (.int .i64 0)], [], [])) (by kernel_rfl) rfl (by kernel_rfl)) ?_
  intro W base args ds gs before hval hW _ hk _
  exact learnTells_contract H enc W base args ds gs before hW hk hval

theorem learnTells_c1 : (Rows.learnTellsUptoRow.inPlace == Try.prog.inPlace 17) = true := by kernel_rfl
theorem learnTells_c2 : (Rows.learnTellsUptoRow.unfollowed == Try.prog.unfollowed 17) = true := by kernel_rfl
theorem learnTells_c3 : (Rows.learnTellsUptoRow.recurses == Try.prog.recurses 17) = true := by kernel_rfl
theorem learnTells_c4 : (Rows.learnTellsUptoRow.named == Try.prog.varsNamed 17) = true := by kernel_rfl
theorem learnTells_closed : joinedFacts Try.prog 17 Try.f17 (Rows.OpenSpec.upto Rows.learnTellsSpec).bare Rows.learnTellsUptoRow = true :=
  joined_split try_laid try_maps try_heard try_enter try_lifts try_make learnTells_c1 learnTells_c2 learnTells_c3 learnTells_c4 (by rw [try_keys]; rfl) (by kernel_rfl)
theorem learnTells_named : Try.prog.funcNamed Rows.learnTellsUptoRow.func = some 17 := by kernel_rfl
theorem learnTells_inst : Func.isInstance Try.prog Try.f17 Rows.learnTellsUptoRow.origin Rows.learnTellsUptoRow.targs := of_decide_eq_true (by kernel_rfl)
theorem learnTells_wrap : Func.isWrapper Try.prog Try.f17 Rows.learnTellsUptoRow.wrapper Rows.learnTellsUptoRow.mainSum := by
  unfold Func.isWrapper; first | (rw [if_pos (by decide +kernel)]; kernel_rfl) | (rw [if_neg (by decide +kernel)]; exact ⟨rfl, rfl⟩)
theorem learnTells_over : Rows.learnTellsUptoRow.holds Try.pinned (Rows.OpenSpec.upto Rows.learnTellsSpec) :=
  OpenClaim.holds_of_cond (p := Try.pinned) 17 Try.f17 rfl rfl rfl rfl rfl rfl rfl ⟨rfl, rfl, rfl, rfl, rfl⟩ rfl rfl rfl rfl rfl learnTells_named Try.func17 learnTells_closed
    learnTells_inst learnTells_wrap
    (fun os started H enc _ F => learnTells_lifted os started H enc F)
theorem learnTells_holds : Rows.LearnTellsUptoSaid := learnTells_over
end Go.Proofs.Ytniobbepliknmaa.V
