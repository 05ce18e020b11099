/- The row of parllaw5.CompareWithin, proved: CompareWithinUptoSaid; no condition. -/
import Derived.Test.YtiipiapfnedfjaaCf
import Derived.Test.YtiipiapfnedfjaaM2
import Derived.Test.YtiipiapfnedfjaaM5
namespace Go.Proofs.Ytiipiapfnedfjaa.V
open Go Go.ChangeShapes Go.RowKit Go.WideShapes Go.ChangeAt
set_option linter.unusedVariables false

theorem compareWithin_own : ownKnob Try.prog.godebug = none := by kernel_rfl
set_option maxRecDepth 100000 in
theorem compareWithin_contract (H : Type) (enc : TypeId × Value → H) (W : World) (base : Nat) (args : Array Value) (ds gs : List (DataW H)) (before : List MemPlace)
    (hW : DataW.Whole enc Try.prog Try.f12.params.toList Rows.compareWithinSpec.vars false W args.toList ds gs before) (hk : Rows.uptoSmall H (ds ++ gs) = true)
    (hval : ∀ (j : Nat) t v, Try.f12.params[j]? = some t → args[j]? = some v → Value.okWide Try.prog W .any base t v) :
    Calls Try.prog 12 args W fun e W' => ∃ v, e = .returned v ∧ Rows.compareWithinSpec.post enc Try.prog Try.f12 false true false false W args v W' := by
  have hW' := hW
  obtain ⟨p, q, hA, hV, rfl, hfz, hnd⟩ := hW
  obtain ⟨rfl, rfl⟩ := trodVars_none hV
  rw [Try.params12] at hA hval
  obtain ⟨v0, v1, d0, d1, p0, p1, rfl, rfl, rfl, r0, r1⟩ := trodAll_two hA
  have hb : Rows.uptoBulk d0 + Rows.uptoBulk d1 ≤ 1048576 := by simpa [Rows.uptoSmall, Rows.uptoBulkAll, Nat.add_assoc] using hk
  have g0 : Value.okWide Try.prog W .any base 24 v0 := by apply hval 0 24 v0 <;> simp
  obtain ⟨x0, c0, rfl, s0, m0⟩ := arg_st (by kernel_rfl) try_gr g0 r0 (by omega)
  have g1 : Value.okWide Try.prog W .any base 94 v1 := by apply hval 1 94 v1 <;> simp
  obtain ⟨x1, c1, rfl, s1, m1⟩ := arg_st (by kernel_rfl) try_da g1 r1 (by omega)
  refine law_contract try_laid rfl ?_ ?_ (tb := 4) (by kernel_rfl) (by kernel_rfl) hW' (law_within s0 s1)
  · rw [Try.params12]
    intro H ds h
    match ds, h with
    | [a, b], _ => rfl
  · rw [Try.params12]
    intro t ht
    simp at ht
    rcases ht with rfl | rfl
    · exact ⟨by kernel_rfl, of_decide_eq_true (by kernel_rfl)⟩
    · exact ⟨by kernel_rfl, of_decide_eq_true (by kernel_rfl)⟩

set_option maxRecDepth 100000 in
theorem compareWithin_lifted (os : Os) (started : os.Started) (H : Type) (enc : TypeId × Value → H) (F : Stop.Interp) :
    ReturnsInHanded {} Try.checked os 12 .any ((Rows.OpenSpec.upto Rows.compareWithinSpec).pre6 enc Try.prog Try.f12 Rows.compareWithinUptoRow.domain false) (((Rows.OpenSpec.upto Rows.compareWithinSpec).at F).post enc Try.prog Try.f12 false true false false) := by
  refine returnsInHanded_of_cond (C := Try.checked) (s := Rows.OpenSpec.upto Rows.compareWithinSpec) (k := Rows.uptoSmall) rfl compareWithin_own started (by kernel_rfl) Try.func12
    (OpenSpec.witness (enc := enc) (C := Try.checked) (s := Rows.OpenSpec.upto Rows.compareWithinSpec) (k := Rows.uptoSmall) rfl false ⟨#[], #[.agg #[.int .i64 0, .int .i64 0, .int .i64 0, .slice none 0 0], .agg #[.int .i64 0, .slice none 0 0, .slice none 0 0]], []⟩ 8 (by kernel_rfl) (by kernel_rfl) (by kernel_rfl)
      (x := ([.agg [.lit (.int .i64 0), .lit (.int .i64 0), .lit (.int .i64 0), .nil], .agg [.lit (.int .i64 0), .nil, .nil]], [], [])) (by kernel_rfl) rfl (by kernel_rfl)) ?_
  intro W base args ds gs before hval hW _ hk _
  exact compareWithin_contract H enc W base args ds gs before hW hk hval

theorem compareWithin_c1 : (Rows.compareWithinUptoRow.inPlace == Try.prog.inPlace 12) = true := by kernel_rfl
theorem compareWithin_c2 : (Rows.compareWithinUptoRow.unfollowed == Try.prog.unfollowed 12) = true := by kernel_rfl
theorem compareWithin_c3 : (Rows.compareWithinUptoRow.recurses == Try.prog.recurses 12) = true := by kernel_rfl
theorem compareWithin_c4 : (Rows.compareWithinUptoRow.named == Try.prog.varsNamed 12) = true := by kernel_rfl
theorem compareWithin_closed : joinedFacts Try.prog 12 Try.f12 (Rows.OpenSpec.upto Rows.compareWithinSpec).bare Rows.compareWithinUptoRow = true :=
  joined_split try_laid try_maps try_heard try_enter try_lifts try_make compareWithin_c1 compareWithin_c2 compareWithin_c3 compareWithin_c4 (by rw [try_keys]; rfl) (by kernel_rfl)
theorem compareWithin_named : Try.prog.funcNamed Rows.compareWithinUptoRow.func = some 12 := by kernel_rfl
theorem compareWithin_inst : Func.isInstance Try.prog Try.f12 Rows.compareWithinUptoRow.origin Rows.compareWithinUptoRow.targs := of_decide_eq_true (by kernel_rfl)
theorem compareWithin_wrap : Func.isWrapper Try.prog Try.f12 Rows.compareWithinUptoRow.wrapper Rows.compareWithinUptoRow.mainSum := by
  unfold Func.isWrapper; first | (rw [if_pos (by decide +kernel)]; kernel_rfl) | (rw [if_neg (by decide +kernel)]; exact ⟨rfl, rfl⟩)
theorem compareWithin_over : Rows.compareWithinUptoRow.holds Try.pinned (Rows.OpenSpec.upto Rows.compareWithinSpec) :=
  OpenClaim.holds_of_cond (p := Try.pinned) 12 Try.f12 rfl rfl rfl rfl rfl rfl rfl ⟨rfl, rfl, rfl, rfl, rfl⟩ rfl rfl rfl rfl rfl compareWithin_named Try.func12 compareWithin_closed
    compareWithin_inst compareWithin_wrap
    (fun os started H enc _ F => compareWithin_lifted os started H enc F)
theorem compareWithin_holds : Rows.CompareWithinUptoSaid := compareWithin_over
end Go.Proofs.Ytiipiapfnedfjaa.V
