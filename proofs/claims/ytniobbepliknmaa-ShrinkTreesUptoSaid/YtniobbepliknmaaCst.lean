/- The row of parllaw5.ShrinkTrees, proved: ShrinkTreesUptoSaid; no condition. -/
import Derived.Test.YtniobbepliknmaaCf
import Derived.Test.YtniobbepliknmaaM4
import Derived.Test.YtniobbepliknmaaM6
namespace Go.Proofs.Ytniobbepliknmaa.V
open Go Go.ChangeShapes Go.RowKit Go.WideShapes Go.ChangeAt
set_option linter.unusedVariables false

theorem shrinkTrees_own : ownKnob Try.prog.godebug = none := by kernel_rfl
set_option maxRecDepth 100000 in
theorem shrinkTrees_contract (H : Type) (enc : TypeId × Value → H) (W : World) (base : Nat) (args : Array Value) (ds gs : List (DataW H)) (before : List MemPlace)
    (hW : DataW.Whole enc Try.prog Try.f13.params.toList Rows.shrinkTreesSpec.vars false W args.toList ds gs before) (hk : Rows.uptoSmall H (ds ++ gs) = true)
    (hval : ∀ (j : Nat) t v, Try.f13.params[j]? = some t → args[j]? = some v → Value.okWide Try.prog W .any base t v) :
    Calls Try.prog 13 args W fun e W' => ∃ v, e = .returned v ∧ Rows.shrinkTreesSpec.post enc Try.prog Try.f13 false true false false W args v W' := by
  have hW' := hW
  obtain ⟨p, q, hA, hV, rfl, hfz, hnd⟩ := hW
  obtain ⟨rfl, rfl⟩ := trodVars_none hV
  rw [Try.params13] at hA hval
  obtain ⟨v0, v1, v2, d0, d1, d2, p0, p1, p2, rfl, rfl, rfl, r0, r1, r2⟩ := trodAll_three hA
  have hb : Rows.uptoBulk d0 + Rows.uptoBulk d1 + Rows.uptoBulk d2 ≤ 1048576 := by simpa [Rows.uptoSmall, Rows.uptoBulkAll, Nat.add_assoc] using hk
  have g0 : Value.okWide Try.prog W .any base 57 v0 := by apply hval 0 57 v0 <;> simp
  obtain ⟨x0, c0, rfl, s0, m0⟩ := arg_st (by kernel_rfl) try_gr g0 r0 (by omega)
  have g1 : Value.okWide Try.prog W .any base 106 v1 := by apply hval 1 106 v1 <;> simp
  obtain ⟨x1, c1, rfl, s1, m1⟩ := arg_st (by kernel_rfl) try_tr g1 r1 (by omega)
  have g2 : Value.okWide Try.prog W .any base 3 v2 := by apply hval 2 3 v2 <;> simp
  obtain ⟨n2, rfl, l2, u2⟩ := arg_int (by kernel_rfl) g2 r2
  refine law_contract try_laid rfl ?_ ?_ (tb := 4) (by kernel_rfl) (by kernel_rfl) hW' (law_shrinkTreesR s0 s1 (Nat.le_trans m1 (by omega)) n2)
  · rw [Try.params13]
    intro H ds h
    match ds, h with
    | [a, b, c], _ => rfl
  · rw [Try.params13]
    intro t ht
    simp at ht
    rcases ht with rfl | rfl | rfl
    · exact ⟨by kernel_rfl, of_decide_eq_true (by kernel_rfl)⟩
    · exact ⟨by kernel_rfl, of_decide_eq_true (by kernel_rfl)⟩
    · exact ⟨by kernel_rfl, of_decide_eq_true (by kernel_rfl)⟩

set_option maxRecDepth 100000 in
theorem shrinkTrees_lifted (os : Os) (started : os.Started) (H : Type) (enc : TypeId × Value → H) (F : Stop.Interp) :
    ReturnsInHanded {} Try.checked os 13 .any ((Rows.OpenSpec.upto Rows.shrinkTreesSpec).pre6 enc Try.prog Try.f13 Rows.shrinkTreesUptoRow.domain false) (((Rows.OpenSpec.upto Rows.shrinkTreesSpec).at F).post enc Try.prog Try.f13 false true false false) := by
  refine returnsInHanded_of_cond (C := Try.checked) (s := Rows.OpenSpec.upto Rows.shrinkTreesSpec) (k := Rows.uptoSmall) rfl shrinkTrees_own started (by kernel_rfl) Try.func13
    (OpenSpec.witness (enc := enc) (C := Try.checked) (s := Rows.OpenSpec.upto Rows.shrinkTreesSpec) (k := Rows.uptoSmall) rfl false ⟨#[], #[.agg #[.int .i64 0, .int .i64 0, .int .i64 0, .slice none 0 0], .agg #[.int .i64 0, .int .i64 0, .slice none 0 0], .int .i64 0], []⟩ 8 (by kernel_rfl) (by kernel_rfl) (by kernel_rfl)
      (x := ([.agg [.lit (.int .i64 0), .lit (.int .i64 0), .lit (.int .i64 0), .nil], .agg [.lit (.int .i64 0), .lit (.int .i64 0), .nil], .lit (.int .i64 0)], [], [])) (by kernel_rfl) rfl (by kernel_rfl)) ?_
  intro W base args ds gs before hval hW _ hk _
  exact shrinkTrees_contract H enc W base args ds gs before hW hk hval

theorem shrinkTrees_c1 : (Rows.shrinkTreesUptoRow.inPlace == Try.prog.inPlace 13) = true := by kernel_rfl
theorem shrinkTrees_c2 : (Rows.shrinkTreesUptoRow.unfollowed == Try.prog.unfollowed 13) = true := by kernel_rfl
theorem shrinkTrees_c3 : (Rows.shrinkTreesUptoRow.recurses == Try.prog.recurses 13) = true := by kernel_rfl
theorem shrinkTrees_c4 : (Rows.shrinkTreesUptoRow.named == Try.prog.varsNamed 13) = true := by kernel_rfl
theorem shrinkTrees_closed : joinedFacts Try.prog 13 Try.f13 (Rows.OpenSpec.upto Rows.shrinkTreesSpec).bare Rows.shrinkTreesUptoRow = true :=
  joined_split try_laid try_maps try_heard try_enter try_lifts try_make shrinkTrees_c1 shrinkTrees_c2 shrinkTrees_c3 shrinkTrees_c4 (by rw [try_keys]; rfl) (by kernel_rfl)
theorem shrinkTrees_named : Try.prog.funcNamed Rows.shrinkTreesUptoRow.func = some 13 := by kernel_rfl
theorem shrinkTrees_inst : Func.isInstance Try.prog Try.f13 Rows.shrinkTreesUptoRow.origin Rows.shrinkTreesUptoRow.targs := of_decide_eq_true (by kernel_rfl)
theorem shrinkTrees_wrap : Func.isWrapper Try.prog Try.f13 Rows.shrinkTreesUptoRow.wrapper Rows.shrinkTreesUptoRow.mainSum := by
  unfold Func.isWrapper; first | (rw [if_pos (by decide +kernel)]; kernel_rfl) | (rw [if_neg (by decide +kernel)]; exact ⟨rfl, rfl⟩)
theorem shrinkTrees_over : Rows.shrinkTreesUptoRow.holds Try.pinned (Rows.OpenSpec.upto Rows.shrinkTreesSpec) :=
  OpenClaim.holds_of_cond (p := Try.pinned) 13 Try.f13 rfl rfl rfl rfl rfl rfl rfl ⟨rfl, rfl, rfl, rfl, rfl⟩ rfl rfl rfl rfl rfl shrinkTrees_named Try.func13 shrinkTrees_closed
    shrinkTrees_inst shrinkTrees_wrap
    (fun os started H enc _ F => shrinkTrees_lifted os started H enc F)
theorem shrinkTrees_holds : Rows.ShrinkTreesUptoSaid := shrinkTrees_over
end Go.Proofs.Ytniobbepliknmaa.V
