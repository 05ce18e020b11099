/- The row of parllaw5.LearnRefuses, proved: LearnRefusesUptoSaid; no condition. -/
import Derived.Test.YtniobbepliknmaaCf
import Derived.Test.YtniobbepliknmaaM4
import Derived.Test.YtniobbepliknmaaM7
namespace Go.Proofs.Ytniobbepliknmaa.V
open Go Go.ChangeShapes Go.RowKit Go.WideShapes Go.ChangeAt
set_option linter.unusedVariables false

theorem learnRefuses_own : ownKnob Try.prog.godebug = none := by kernel_rfl
set_option maxRecDepth 100000 in
theorem learnRefuses_contract (H : Type) (enc : TypeId × Value → H) (W : World) (base : Nat) (args : Array Value) (ds gs : List (DataW H)) (before : List MemPlace)
    (hW : DataW.Whole enc Try.prog Try.f16.params.toList Rows.learnRefusesSpec.vars false W args.toList ds gs before) (hk : Rows.uptoSmall H (ds ++ gs) = true)
    (hval : ∀ (j : Nat) t v, Try.f16.params[j]? = some t → args[j]? = some v → Value.okWide Try.prog W .any base t v) :
    Calls Try.prog 16 args W fun e W' => ∃ v, e = .returned v ∧ Rows.learnRefusesSpec.post enc Try.prog Try.f16 false true false false W args v W' := by
  have hW' := hW
  obtain ⟨p, q, hA, hV, rfl, hfz, hnd⟩ := hW
  obtain ⟨rfl, rfl⟩ := trodVars_none hV
  rw [Try.params16] at hA hval
  obtain ⟨v0, v1, d0, d1, p0, p1, rfl, rfl, rfl, r0, r1⟩ := trodAll_two hA
  have hb : Rows.uptoBulk d0 + Rows.uptoBulk d1 ≤ 1048576 := by simpa [Rows.uptoSmall, Rows.uptoBulkAll, Nat.add_assoc] using hk
  have g0 : Value.okWide Try.prog W .any base 3 v0 := by apply hval 0 3 v0 <;> simp
  obtain ⟨n0, rfl, l0, u0⟩ := arg_int (by kernel_rfl) g0 r0
  have g1 : Value.okWide Try.prog W .any base 29 v1 := by apply hval 1 29 v1 <;> simp
  have hr1 : Reads Try.prog (List Int) 29 := reads_list (e := 3) (by kernel_rfl) (by kernel_rfl) (by decide) (reads_int (by kernel_rfl))
  obtain ⟨x1, A1, c1, rfl, s1, m1⟩ := arg_list (e := 3) (by kernel_rfl) hr1 g1 r1 (by omega)
  refine law_contract try_laid rfl ?_ ?_ (tb := 4) (by kernel_rfl) (by kernel_rfl) hW' (law_refuses ⟨l0, u0⟩ s1 (ints_len m1 (by omega)))
  · rw [Try.params16]
    intro H ds h
    match ds, h with
    | [a, b], _ => rfl
  · rw [Try.params16]
    intro t ht
    simp at ht
    rcases ht with rfl | rfl
    · exact ⟨by kernel_rfl, of_decide_eq_true (by kernel_rfl)⟩
    · exact ⟨by kernel_rfl, of_decide_eq_true (by kernel_rfl)⟩

set_option maxRecDepth 100000 in
theorem learnRefuses_lifted (os : Os) (started : os.Started) (H : Type) (enc : TypeId × Value → H) (F : Stop.Interp) :
    ReturnsInHanded {} Try.checked os 16 .any ((Rows.OpenSpec.upto Rows.learnRefusesSpec).pre6 enc Try.prog Try.f16 Rows.learnRefusesUptoRow.domain false) (((Rows.OpenSpec.upto Rows.learnRefusesSpec).at F).post enc Try.prog Try.f16 false true false false) := by
  refine returnsInHanded_of_cond (C := Try.checked) (s := Rows.OpenSpec.upto Rows.learnRefusesSpec) (k := Rows.uptoSmall) rfl learnRefuses_own started (by kernel_rfl) Try.func16
    (OpenSpec.witness (enc := enc) (C := Try.checked) (s := Rows.OpenSpec.upto Rows.learnRefusesSpec) (k := Rows.uptoSmall) rfl false ⟨#[], #[.int .i64 0, .slice none 0 0], []⟩ 8 (by kernel_rfl) (by kernel_rfl) (by kernel_rfl)
      (x := ([.lit (.int .i64 0), .nil], [], [])) (by kernel_rfl) rfl (by kernel_rfl)) ?_
  intro W base args ds gs before hval hW _ hk _
  exact learnRefuses_contract H enc W base args ds gs before hW hk hval

theorem learnRefuses_c1 : (Rows.learnRefusesUptoRow.inPlace == Try.prog.inPlace 16) = true := by kernel_rfl
theorem learnRefuses_c2 : (Rows.learnRefusesUptoRow.unfollowed == Try.prog.unfollowed 16) = true := by kernel_rfl
theorem learnRefuses_c3 : (Rows.learnRefusesUptoRow.recurses == Try.prog.recurses 16) = true := by kernel_rfl
theorem learnRefuses_c4 : (Rows.learnRefusesUptoRow.named == Try.prog.varsNamed 16) = true := by kernel_rfl
theorem learnRefuses_closed : joinedFacts Try.prog 16 Try.f16 (Rows.OpenSpec.upto Rows.learnRefusesSpec).bare Rows.learnRefusesUptoRow = true :=
  joined_split try_laid try_maps try_heard try_enter try_lifts try_make learnRefuses_c1 learnRefuses_c2 learnRefuses_c3 learnRefuses_c4 (by rw [try_keys]; rfl) (by kernel_rfl)
theorem learnRefuses_named : Try.prog.funcNamed Rows.learnRefusesUptoRow.func = some 16 := by kernel_rfl
theorem learnRefuses_inst : Func.isInstance Try.prog Try.f16 Rows.learnRefusesUptoRow.origin Rows.learnRefusesUptoRow.targs := of_decide_eq_true (by kernel_rfl)
theorem learnRefuses_wrap : Func.isWrapper Try.prog Try.f16 Rows.learnRefusesUptoRow.wrapper Rows.learnRefusesUptoRow.mainSum := by
  unfold Func.isWrapper; first | (rw [if_pos (by decide +kernel)]; kernel_rfl) | (rw [if_neg (by decide +kernel)]; exact ⟨rfl, rfl⟩)
theorem learnRefuses_over : Rows.learnRefusesUptoRow.holds Try.pinned (Rows.OpenSpec.upto Rows.learnRefusesSpec) :=
  OpenClaim.holds_of_cond (p := Try.pinned) 16 Try.f16 rfl rfl rfl rfl rfl rfl rfl ⟨rfl, rfl, rfl, rfl, rfl⟩ rfl rfl rfl rfl rfl learnRefuses_named Try.func16 learnRefuses_closed
    learnRefuses_inst learnRefuses_wrap
    (fun os started H enc _ F => learnRefuses_lifted os started H enc F)
theorem learnRefuses_holds : Rows.LearnRefusesUptoSaid := learnRefuses_over
end Go.Proofs.Ytniobbepliknmaa.V
