/- The row of parllaw5.CompareTells, proved: CompareTellsUptoSaid; no condition. -/
import Derived.Test.YtniobbepliknmaaCf
import Derived.Test.YtniobbepliknmaaM6
namespace Go.Proofs.Ytniobbepliknmaa.V
open Go Go.ChangeShapes Go.RowKit Go.WideShapes Go.ChangeAt
set_option linter.unusedVariables false

theorem compareTells_own : ownKnob Try.prog.godebug = none := by kernel_rfl
set_option maxRecDepth 100000 in
theorem compareTells_contract (H : Type) (enc : TypeId × Value → H) (W : World) (base : Nat) (args : Array Value) (ds gs : List (DataW H)) (before : List MemPlace)
    (hW : DataW.Whole enc Try.prog Try.f14.params.toList Rows.compareTellsSpec.vars false W args.toList ds gs before) (hk : Rows.uptoSmall H (ds ++ gs) = true)
    (hval : ∀ (j : Nat) t v, Try.f14.params[j]? = some t → args[j]? = some v → Value.okWide Try.prog W .any base t v) :
    Calls Try.prog 14 args W fun e W' => ∃ v, e = .returned v ∧ Rows.compareTellsSpec.post enc Try.prog Try.f14 false true false false W args v W' := by
  have hW' := hW
  obtain ⟨p, q, hA, hV, rfl, hfz, hnd⟩ := hW
  obtain ⟨rfl, rfl⟩ := trodVars_none hV
  rw [Try.params14] at hA hval
  obtain ⟨v0, v1, v2, d0, d1, d2, p0, p1, p2, rfl, rfl, rfl, r0, r1, r2⟩ := trodAll_three hA
  have hb : Rows.uptoBulk d0 + Rows.uptoBulk d1 + Rows.uptoBulk d2 ≤ 1048576 := by simpa [Rows.uptoSmall, Rows.uptoBulkAll, Nat.add_assoc] using hk
  have g0 : Value.okWide Try.prog W .any base 57 v0 := by apply hval 0 57 v0 <;> simp
  obtain ⟨x0, c0, rfl, s0, m0⟩ := arg_st (by kernel_rfl) try_gr g0 r0 (by omega)
  have g1 : Value.okWide Try.prog W .any base 57 v1 := by apply hval 1 57 v1 <;> simp
  obtain ⟨x1, c1, rfl, s1, m1⟩ := arg_st (by kernel_rfl) try_gr g1 r1 (by omega)
  have g2 : Value.okWide Try.prog W .any base 3 v2 := by apply hval 2 3 v2 <;> simp
  obtain ⟨n2, rfl, l2, u2⟩ := arg_int (by kernel_rfl) g2 r2
  refine law_contract try_laid rfl ?_ ?_ (tb := 4) (by kernel_rfl) (by kernel_rfl) hW' (law_compare s0 s1 n2 l2 u2)
  · rw [Try.params14]
    intro H ds h
    match ds, h with
    | [a, b, c], _ => rfl
  · rw [Try.params14]
    intro t ht
    simp at ht
    rcases ht with rfl | rfl
    · exact ⟨by kernel_rfl, of_decide_eq_true (by kernel_rfl)⟩
    · exact ⟨by kernel_rfl, of_decide_eq_true (by kernel_rfl)⟩

set_option maxRecDepth 100000 in
theorem compareTells_lifted (os : Os) (started : os.Started) (H : Type) (enc : TypeId × Value → H) (F : Stop.Interp) :
    ReturnsInHanded {} Try.checked os 14 .any ((Rows.OpenSpec.upto Rows.compareTellsSpec).pre6 enc Try.prog Try.f14 Rows.compareTellsUptoRow.domain false) (((Rows.OpenSpec.upto Rows.compareTellsSpec).at F).post enc Try.prog Try.f14 false true false false) := by
  refine returnsInHanded_of_cond (C := Try.checked) (s := Rows.OpenSpec.upto Rows.compareTellsSpec) (k := Rows.uptoSmall) rfl compareTells_own started (by kernel_rfl) Try.func14
    (OpenSpec.witness (enc := enc) (C := Try.checked) (s := Rows.OpenSpec.upto Rows.compareTellsSpec) (k := Rows.uptoSmall) rfl false ⟨#[], #[.agg #[.int .i64 0, .int .i64 0, .int .i64 0, .slice none 0 0], .agg #[.int .i64 0, .int .i64 0, .int .i64 0, .slice none 0 0], .int .i64 0], []⟩ 8 (by kernel_rfl) (by kernel_rfl) (by kernel_rfl)
      (x := ([.agg [.lit (.int .i64 0), .lit (.int .i64 0), .lit (.int .i64 0), .nil], .agg [.lit (.int .i64 0), .lit (.int .i64 0), .lit (.int .i64 0), .nil], .lit (.int .i64 0)], [], [])) (by kernel_rfl) rfl (by kernel_rfl)) ?_
  intro W base args ds gs before hval hW _ hk _
  exact compareTells_contract H enc W base args ds gs before hW hk hval

theorem compareTells_c1 : (Rows.compareTellsUptoRow.inPlace == Try.prog.inPlace 14) = true := by kernel_rfl
theorem compareTells_c2 : (Rows.compareTellsUptoRow.unfollowed == Try.prog.unfollowed 14) = true := by kernel_rfl
theorem compareTells_c3 : (Rows.compareTellsUptoRow.recurses == Try.prog.recurses 14) = true := by kernel_rfl
theorem compareTells_c4 : (Rows.compareTellsUptoRow.named == Try.prog.varsNamed 14) = true := by kernel_rfl
theorem compareTells_closed : joinedFacts Try.prog 14 Try.f14 (Rows.OpenSpec.upto Rows.compareTellsSpec).bare Rows.compareTellsUptoRow = true :=
  joined_split try_laid try_maps try_heard try_enter try_lifts try_make compareTells_c1 compareTells_c2 compareTells_c3 compareTells_c4 (by rw [try_keys]; rfl) (by kernel_rfl)
theorem compareTells_named : Try.prog.funcNamed Rows.compareTellsUptoRow.func = some 14 := by kernel_rfl
theorem compareTells_inst : Func.isInstance Try.prog Try.f14 Rows.compareTellsUptoRow.origin Rows.compareTellsUptoRow.targs := of_decide_eq_true (by kernel_rfl)
theorem compareTells_wrap : Func.isWrapper Try.prog Try.f14 Rows.compareTellsUptoRow.wrapper Rows.compareTellsUptoRow.mainSum := by
  unfold Func.isWrapper; first | (rw [if_pos (by decide +kernel)]; kernel_rfl) | (rw [if_neg (by decide +kernel)]; exact ⟨rfl, rfl⟩)
theorem compareTells_over : Rows.compareTellsUptoRow.holds Try.pinned (Rows.OpenSpec.upto Rows.compareTellsSpec) :=
  OpenClaim.holds_of_cond (p := Try.pinned) 14 Try.f14 rfl rfl rfl rfl rfl rfl rfl ⟨rfl, rfl, rfl, rfl, rfl⟩ rfl rfl rfl rfl rfl compareTells_named Try.func14 compareTells_closed
    compareTells_inst compareTells_wrap
    (fun os started H enc _ F => compareTells_lifted os started H enc F)
theorem compareTells_holds : Rows.CompareTellsUptoSaid := compareTells_over
end Go.Proofs.Ytniobbepliknmaa.V
