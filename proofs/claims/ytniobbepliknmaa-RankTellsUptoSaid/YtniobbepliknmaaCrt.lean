/- The row of parllaw5.RankTells, proved: RankTellsUptoSaid; no condition. -/
import Derived.Test.YtniobbepliknmaaCf
import Derived.Test.YtniobbepliknmaaM2
import Derived.Test.YtniobbepliknmaaM7
namespace Go.Proofs.Ytniobbepliknmaa.V
open Go Go.ChangeShapes Go.RowKit Go.WideShapes Go.ChangeAt
set_option linter.unusedVariables false

theorem rankTells_own : ownKnob Try.prog.godebug = none := by kernel_rfl
set_option maxRecDepth 100000 in
theorem rankTells_contract (H : Type) (enc : TypeId × Value → H) (W : World) (base : Nat) (args : Array Value) (ds gs : List (DataW H)) (before : List MemPlace)
    (hW : DataW.Whole enc Try.prog Try.f20.params.toList Rows.rankTellsSpec.vars false W args.toList ds gs before) (hk : Rows.uptoSmall H (ds ++ gs) = true)
    (hval : ∀ (j : Nat) t v, Try.f20.params[j]? = some t → args[j]? = some v → Value.okWide Try.prog W .any base t v) :
    Calls Try.prog 20 args W fun e W' => ∃ v, e = .returned v ∧ Rows.rankTellsSpec.post enc Try.prog Try.f20 false true false false W args v W' := by
  have hW' := hW
  obtain ⟨p, q, hA, hV, rfl, hfz, hnd⟩ := hW
  obtain ⟨rfl, rfl⟩ := trodVars_none hV
  rw [Try.params20] at hA hval
  obtain ⟨v0, v1, v2, d0, d1, d2, p0, p1, p2, rfl, rfl, rfl, r0, r1, r2⟩ := trodAll_three hA
  have hb : Rows.uptoBulk d0 + Rows.uptoBulk d1 + Rows.uptoBulk d2 ≤ 1048576 := by simpa [Rows.uptoSmall, Rows.uptoBulkAll, Nat.add_assoc] using hk
  have g0 : Value.okWide Try.prog W .any base 57 v0 := by apply hval 0 57 v0 <;> simp
  obtain ⟨x0, c0, rfl, s0, m0⟩ := arg_st (by kernel_rfl) try_gr g0 r0 (by omega)
  have g1 : Value.okWide Try.prog W .any base 3 v1 := by apply hval 1 3 v1 <;> simp
  obtain ⟨n1, rfl, l1, u1⟩ := arg_int (by kernel_rfl) g1 r1
  have g2 : Value.okWide Try.prog W .any base 3 v2 := by apply hval 2 3 v2 <;> simp
  obtain ⟨n2, rfl, l2, u2⟩ := arg_int (by kernel_rfl) g2 r2
  refine law_contract try_laid rfl ?_ ?_ (tb := 4) (by kernel_rfl) (by kernel_rfl) hW' (law_rankTells s0 ⟨l1, u1⟩ ⟨l2, u2⟩)
  · rw [Try.params20]
    intro H ds h
    match ds, h with
    | [a, b, c], _ => rfl
  · rw [Try.params20]
    intro t ht
    simp at ht
    rcases ht with rfl | rfl
    · exact ⟨by kernel_rfl, of_decide_eq_true (by kernel_rfl)⟩
    · exact ⟨by kernel_rfl, of_decide_eq_true (by kernel_rfl)⟩

set_option maxRecDepth 100000 in
theorem rankTells_lifted (os : Os) (started : os.Started) (H : Type) (enc : TypeId × Value → H) (F : Stop.Interp) :
    ReturnsInHanded {} Try.checked os 20 .any ((Rows.OpenSpec.upto Rows.rankTellsSpec).pre6 enc Try.prog Try.f20 Rows.rankTellsUptoRow.domain false) (((Rows.OpenSpec.upto Rows.rankTellsSpec).at F).post enc Try.prog Try.f20 false true false false) := by
  refine returnsInHanded_of_cond (C := Try.checked) (s := Rows.OpenSpec.upto Rows.rankTellsSpec) (k := Rows.uptoSmall) rfl rankTells_own started (by kernel_rfl) Try.func20
    (OpenSpec.witness (enc := enc) (C := Try.checked) (s := Rows.OpenSpec.upto Rows.rankTellsSpec) (k := Rows.uptoSmall) rfl false ⟨#[], #[.agg #[.int .i64 0, .int .i64 0, .int .i64 0, .slice none 0 0], .int .i64 0, .int .i64 0], []⟩ 8 (by kernel_rfl) (by kernel_rfl) (by kernel_rfl)
      (x := ([.agg [.lit (.int .i64 0), .lit (.int .i64 0), .lit (.int .i64 0), .nil], .lit (.int .i64 0), .lit (.int .i64 0)], [], [])) (by kernel_rfl) rfl (by kernel_rfl)) ?_
  intro W base args ds gs before hval hW _ hk _
  exact rankTells_contract H enc W base args ds gs before hW hk hval

theorem rankTells_c1 : (Rows.rankTellsUptoRow.inPlace == Try.prog.inPlace 20) = true := by kernel_rfl
theorem rankTells_c2 : (Rows.rankTellsUptoRow.unfollowed == Try.prog.unfollowed 20) = true := by kernel_rfl
theorem rankTells_c3 : (Rows.rankTellsUptoRow.recurses == Try.prog.recurses 20) = true := by kernel_rfl
theorem rankTells_c4 : (Rows.rankTellsUptoRow.named == Try.prog.varsNamed 20) = true := by kernel_rfl
theorem rankTells_closed : joinedFacts Try.prog 20 Try.f20 (Rows.OpenSpec.upto Rows.rankTellsSpec).bare Rows.rankTellsUptoRow = true :=
  joined_split try_laid try_maps try_heard try_enter try_lifts try_make rankTells_c1 rankTells_c2 rankTells_c3 rankTells_c4 (by rw [try_keys]; rfl) (by kernel_rfl)
theorem rankTells_named : Try.prog.funcNamed Rows.rankTellsUptoRow.func = some 20 := by kernel_rfl
theorem rankTells_inst : Func.isInstance Try.prog Try.f20 Rows.rankTellsUptoRow.origin Rows.rankTellsUptoRow.targs := of_decide_eq_true (by kernel_rfl)
theorem rankTells_wrap : Func.isWrapper Try.prog Try.f20 Rows.rankTellsUptoRow.wrapper Rows.rankTellsUptoRow.mainSum := by
  unfold Func.isWrapper; first | (rw [if_pos (by decide +kernel)]; kernel_rfl) | (rw [if_neg (by decide +kernel)]; exact ⟨rfl, rfl⟩)
theorem rankTells_over : Rows.rankTellsUptoRow.holds Try.pinned (Rows.OpenSpec.upto Rows.rankTellsSpec) :=
  OpenClaim.holds_of_cond (p := Try.pinned) 20 Try.f20 rfl rfl rfl rfl rfl rfl rfl ⟨rfl, rfl, rfl, rfl, rfl⟩ rfl rfl rfl rfl rfl rankTells_named Try.func20 rankTells_closed
    rankTells_inst rankTells_wrap
    (fun os started H enc _ F => rankTells_lifted os started H enc F)
theorem rankTells_holds : Rows.RankTellsUptoSaid := rankTells_over
end Go.Proofs.Ytniobbepliknmaa.V
