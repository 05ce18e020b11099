/- The row of parllaw5.RankRefuses, proved: RankRefusesUptoSaid; no condition. -/
import Derived.Test.YtniobbepliknmaaCf
import Derived.Test.YtniobbepliknmaaM4
import Derived.Test.YtniobbepliknmaaM7
namespace Go.Proofs.Ytniobbepliknmaa.V
open Go Go.ChangeShapes Go.RowKit Go.WideShapes Go.ChangeAt
set_option linter.unusedVariables false

theorem rankRefuses_own : ownKnob Try.prog.godebug = none := by kernel_rfl
set_option maxRecDepth 100000 in
theorem rankRefuses_contract (H : Type) (enc : TypeId × Value → H) (W : World) (base : Nat) (args : Array Value) (ds gs : List (DataW H)) (before : List MemPlace)
    (hW : DataW.Whole enc Try.prog Try.f18.params.toList Rows.rankRefusesSpec.vars false W args.toList ds gs before) (hk : Rows.uptoSmall H (ds ++ gs) = true)
    (hval : ∀ (j : Nat) t v, Try.f18.params[j]? = some t → args[j]? = some v → Value.okWide Try.prog W .any base t v) :
    Calls Try.prog 18 args W fun e W' => ∃ v, e = .returned v ∧ Rows.rankRefusesSpec.post enc Try.prog Try.f18 false true false false W args v W' := by
  have hW' := hW
  obtain ⟨p, q, hA, hV, rfl, hfz, hnd⟩ := hW
  obtain ⟨rfl, rfl⟩ := trodVars_none hV
  rw [Try.params18] at hA hval
  obtain ⟨v0, v1, d0, d1, p0, p1, rfl, rfl, rfl, r0, r1⟩ := trodAll_two hA
  have hb : Rows.uptoBulk d0 + Rows.uptoBulk d1 ≤ 1048576 := by simpa [Rows.uptoSmall, Rows.uptoBulkAll, Nat.add_assoc] using hk
  have g0 : Value.okWide Try.prog W .any base 57 v0 := by apply hval 0 57 v0 <;> simp
  obtain ⟨x0, c0, rfl, s0, m0⟩ := arg_st (by kernel_rfl) try_gr g0 r0 (by omega)
  have g1 : Value.okWide Try.prog W .any base 106 v1 := by apply hval 1 106 v1 <;> simp
  obtain ⟨x1, c1, rfl, s1, m1⟩ := arg_st (by kernel_rfl) try_tr g1 r1 (by omega)
  refine law_contract try_laid rfl ?_ ?_ (tb := 4) (by kernel_rfl) (by kernel_rfl) hW' (law_refuses s0 s1 (Nat.le_trans m1 (by omega)))
  · rw [Try.params18]
    intro H ds h
    match ds, h with
    | [a, b], _ => rfl
  · rw [Try.params18]
    intro t ht
    simp at ht
    rcases ht with rfl | rfl
    · exact ⟨by kernel_rfl, of_decide_eq_true (by kernel_rfl)⟩
    · exact ⟨by kernel_rfl, of_decide_eq_true (by kernel_rfl)⟩

set_option maxRecDepth 100000 in
theorem rankRefuses_lifted (os : Os) (started : os.Started) (H : Type) (enc : TypeId × Value → H) (F : Stop.Interp) :
    ReturnsInHanded {} Try.checked os 18 .any ((Rows.OpenSpec.upto Rows.rankRefusesSpec).pre6 enc Try.prog Try.f18 Rows.rankRefusesUptoRow.domain false) (((Rows.OpenSpec.upto Rows.rankRefusesSpec).at F).post enc Try.prog Try.f18 false true false false) := by
  refine returnsInHanded_of_cond (C := Try.checked) (s := Rows.OpenSpec.upto Rows.rankRefusesSpec) (k := Rows.uptoSmall) rfl rankRefuses_own started (by kernel_rfl) Try.func18
    (OpenSpec.witness (enc := enc) (C := Try.checked) (s := Rows.OpenSpec.upto Rows.rankRefusesSpec) (k := Rows.uptoSmall) rfl false ⟨#[], #[.agg #[.int .i64 0, .int .i64 0, .int .i64 0, .slice none 0 0], .agg #[.int .i64 0, .int .i64 0, .slice none 0 0]], []⟩ 8 (by kernel_rfl) (by kernel_rfl) (by kernel_rfl)
      (x := ([.agg [.lit (.int .i64 0), .lit (.int .i64 0), .lit (.int .i64 0), .nil], .agg [.lit (.int .i64 0), .lit (.int .i64 0), .nil]], [], [])) (by kernel_rfl) rfl (by kernel_rfl)) ?_
  intro W base args ds gs before hval hW _ hk _
  exact rankRefuses_contract H enc W base args ds gs before hW hk hval

theorem rankRefuses_c1 : (Rows.rankRefusesUptoRow.inPlace == Try.prog.inPlace 18) = true := by kernel_rfl
theorem rankRefuses_c2 : (Rows.rankRefusesUptoRow.unfollowed == Try.prog.unfollowed 18) = true := by kernel_rfl
theorem rankRefuses_c3 : (Rows.rankRefusesUptoRow.recurses == Try.prog.recurses 18) = true := by kernel_rfl
theorem rankRefuses_c4 : (Rows.rankRefusesUptoRow.named == Try.prog.varsNamed 18) = true := by kernel_rfl
theorem rankRefuses_closed : joinedFacts Try.prog 18 Try.f18 (Rows.OpenSpec.upto Rows.rankRefusesSpec).bare Rows.rankRefusesUptoRow = true :=
  joined_split try_laid try_maps try_heard try_enter try_lifts try_make rankRefuses_c1 rankRefuses_c2 rankRefuses_c3 rankRefuses_c4 (by rw [try_keys]; rfl) (by kernel_rfl)
theorem rankRefuses_named : Try.prog.funcNamed Rows.rankRefusesUptoRow.func = some 18 := by kernel_rfl
theorem rankRefuses_inst : Func.isInstance Try.prog Try.f18 Rows.rankRefusesUptoRow.origin Rows.rankRefusesUptoRow.targs := of_decide_eq_true (by kernel_rfl)
theorem rankRefuses_wrap : Func.isWrapper Try.prog Try.f18 Rows.rankRefusesUptoRow.wrapper Rows.rankRefusesUptoRow.mainSum := by
  unfold Func.isWrapper; first | (rw [if_pos (by decide +kernel)]; kernel_rfl) | (rw [if_neg (by decide +kernel)]; exact ⟨rfl, rfl⟩)
theorem rankRefuses_over : Rows.rankRefusesUptoRow.holds Try.pinned (Rows.OpenSpec.upto Rows.rankRefusesSpec) :=
  OpenClaim.holds_of_cond (p := Try.pinned) 18 Try.f18 rfl rfl rfl rfl rfl rfl rfl ⟨rfl, rfl, rfl, rfl, rfl⟩ rfl rfl rfl rfl rfl rankRefuses_named Try.func18 rankRefuses_closed
    rankRefuses_inst rankRefuses_wrap
    (fun os started H enc _ F => rankRefuses_lifted os started H enc F)
theorem rankRefuses_holds : Rows.RankRefusesUptoSaid := rankRefuses_over
end Go.Proofs.Ytniobbepliknmaa.V
