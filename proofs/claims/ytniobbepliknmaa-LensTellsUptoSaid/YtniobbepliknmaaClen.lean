/- The row of parllaw5.LensTells, proved: LensTellsUptoSaid; no condition. -/
import Derived.Test.YtniobbepliknmaaCf
import Derived.Test.YtniobbepliknmaaLlen
namespace Go.Proofs.Ytniobbepliknmaa.V
open Go Go.ChangeShapes Go.RowKit Go.WideShapes Go.ChangeAt
set_option linter.unusedVariables false

theorem lensTells_own : ownKnob Try.prog.godebug = none := by kernel_rfl
set_option maxRecDepth 100000 in
theorem lensTells_contract (H : Type) (enc : TypeId × Value → H) (W : World) (base : Nat) (args : Array Value) (ds gs : List (DataW H)) (before : List MemPlace)
    (hW : DataW.Whole enc Try.prog Try.f8.params.toList Rows.lensTellsSpec.vars false W args.toList ds gs before) (hk : Rows.uptoSmall H (ds ++ gs) = true)
    (hval : ∀ (j : Nat) t v, Try.f8.params[j]? = some t → args[j]? = some v → Value.okWide Try.prog W .any base t v) :
    Calls Try.prog 8 args W fun e W' => ∃ v, e = .returned v ∧ Rows.lensTellsSpec.post enc Try.prog Try.f8 false true false false W args v W' := by
  have hW' := hW
  obtain ⟨p, q, hA, hV, rfl, hfz, hnd⟩ := hW
  obtain ⟨rfl, rfl⟩ := trodVars_none hV
  rw [Try.params8] at hA hval
  obtain ⟨v0, v1, d0, d1, p0, p1, rfl, rfl, rfl, r0, r1⟩ := trodAll_two hA
  have hb : Rows.uptoBulk d0 + Rows.uptoBulk d1 ≤ 1048576 := by simpa [Rows.uptoSmall, Rows.uptoBulkAll, Nat.add_assoc] using hk
  have g0 : Value.okWide Try.prog W .any base 57 v0 := by apply hval 0 57 v0 <;> simp
  obtain ⟨x0, c0, rfl, s0, m0⟩ := arg_st (by kernel_rfl) try_gr g0 r0 (by omega)
  have g1 : Value.okWide Try.prog W .any base 3 v1 := by apply hval 1 3 v1 <;> simp
  obtain ⟨n1, rfl, l1, u1⟩ := arg_int (by kernel_rfl) g1 r1
  refine law_contract try_laid rfl ?_ ?_ (tb := 4) (by kernel_rfl) (by kernel_rfl) hW' (law_lens s0 n1 l1 u1)
  · rw [Try.params8]
    intro H ds h
    match ds, h with
    | [a, b], _ => rfl
  · rw [Try.params8]
    intro t ht
    simp at ht
    rcases ht with rfl | rfl
    · exact ⟨by kernel_rfl, of_decide_eq_true (by kernel_rfl)⟩
    · exact ⟨by kernel_rfl, of_decide_eq_true (by kernel_rfl)⟩

set_option maxRecDepth 100000 in
theorem lensTells_lifted (os : Os) (started : os.Started) (H : Type) (enc : TypeId × Value → H) (F : Stop.Interp) :
    ReturnsInHanded {} Try.checked os 8 .any ((Rows.OpenSpec.upto Rows.lensTellsSpec).pre6 enc Try.prog Try.f8 Rows.lensTellsUptoRow.domain false) (((Rows.OpenSpec.upto Rows.lensTellsSpec).at F).post enc Try.prog Try.f8 false true false false) := by
  refine returnsInHanded_of_cond (C := Try.checked) (s := Rows.OpenSpec.upto Rows.lensTellsSpec) (k := Rows.uptoSmall) rfl lensTells_own started (by kernel_rfl) Try.func8
    (OpenSpec.witness (enc := enc) (C := Try.checked) (s := Rows.OpenSpec.upto Rows.lensTellsSpec) (k := Rows.uptoSmall) rfl false ⟨#[], #[.agg #[.int .i64 0, .int .i64 0, .int .i64 0, .slice none 0 0], .int .i64 0], []⟩ 8 (by kernel_rfl) (by kernel_rfl) (by kernel_rfl)
      (x := ([.agg [.lit (.int .i64 0), .lit (.int .i64 0), .lit (.int .i64 0), .nil], .lit (.int .i64 0)], [], [])) (by kernel_rfl) rfl (by kernel_rfl)) ?_
  intro W base args ds gs before hval hW _ hk _
  exact lensTells_contract H enc W base args ds gs before hW hk hval

theorem lensTells_c1 : (Rows.lensTellsUptoRow.inPlace == Try.prog.inPlace 8) = true := by kernel_rfl
theorem lensTells_c2 : (Rows.lensTellsUptoRow.unfollowed == Try.prog.unfollowed 8) = true := by kernel_rfl
theorem lensTells_c3 : (Rows.lensTellsUptoRow.recurses == Try.prog.recurses 8) = true := by kernel_rfl
theorem lensTells_c4 : (Rows.lensTellsUptoRow.named == Try.prog.varsNamed 8) = true := by kernel_rfl
theorem lensTells_closed : joinedFacts Try.prog 8 Try.f8 (Rows.OpenSpec.upto Rows.lensTellsSpec).bare Rows.lensTellsUptoRow = true :=
  joined_split try_laid try_maps try_heard try_enter try_lifts try_make lensTells_c1 lensTells_c2 lensTells_c3 lensTells_c4 (by rw [try_keys]; rfl) (by kernel_rfl)
theorem lensTells_named : Try.prog.funcNamed Rows.lensTellsUptoRow.func = some 8 := by kernel_rfl
theorem lensTells_inst : Func.isInstance Try.prog Try.f8 Rows.lensTellsUptoRow.origin Rows.lensTellsUptoRow.targs := of_decide_eq_true (by kernel_rfl)
theorem lensTells_wrap : Func.isWrapper Try.prog Try.f8 Rows.lensTellsUptoRow.wrapper Rows.lensTellsUptoRow.mainSum := by
  unfold Func.isWrapper; first | (rw [if_pos (by decide +kernel)]; kernel_rfl) | (rw [if_neg (by decide +kernel)]; exact ⟨rfl, rfl⟩)
theorem lensTells_over : Rows.lensTellsUptoRow.holds Try.pinned (Rows.OpenSpec.upto Rows.lensTellsSpec) :=
  OpenClaim.holds_of_cond (p := Try.pinned) 8 Try.f8 rfl rfl rfl rfl rfl rfl rfl ⟨rfl, rfl, rfl, rfl, rfl⟩ rfl rfl rfl rfl rfl lensTells_named Try.func8 lensTells_closed
    lensTells_inst lensTells_wrap
    (fun os started H enc _ F => lensTells_lifted os started H enc F)
theorem lensTells_holds : Rows.LensTellsUptoSaid := lensTells_over
end Go.Proofs.Ytniobbepliknmaa.V
