/- The row of parllaw5.DrawTrees, proved: DrawTreesUptoSaid; no condition. -/
import Derived.Test.YtniobbepliknmaaCf
import Derived.Test.YtniobbepliknmaaM3
import Derived.Test.YtniobbepliknmaaM8
namespace Go.Proofs.Ytniobbepliknmaa.V
open Go Go.ChangeShapes Go.RowKit Go.WideShapes Go.ChangeAt
set_option linter.unusedVariables false

theorem drawTrees_own : ownKnob Try.prog.godebug = none := by kernel_rfl
set_option maxRecDepth 100000 in
theorem drawTrees_contract (H : Type) (enc : TypeId × Value → H) (W : World) (base : Nat) (args : Array Value) (ds gs : List (DataW H)) (before : List MemPlace)
    (hW : DataW.Whole enc Try.prog Try.f19.params.toList Rows.drawTreesSpec.vars false W args.toList ds gs before) (hk : Rows.uptoSmall H (ds ++ gs) = true)
    (hval : ∀ (j : Nat) t v, Try.f19.params[j]? = some t → args[j]? = some v → Value.okWide Try.prog W .any base t v) :
    Calls Try.prog 19 args W fun e W' => ∃ v, e = .returned v ∧ Rows.drawTreesSpec.post enc Try.prog Try.f19 false true false false W args v W' := by
  have hW' := hW
  obtain ⟨p, q, hA, hV, rfl, hfz, hnd⟩ := hW
  obtain ⟨rfl, rfl⟩ := trodVars_none hV
  rw [Try.params19] at hA hval
  obtain ⟨v0, v1, v2, d0, d1, d2, p0, p1, p2, rfl, rfl, rfl, r0, r1, r2⟩ := trodAll_three hA
  have hb : Rows.uptoBulk d0 + Rows.uptoBulk d1 + Rows.uptoBulk d2 ≤ 1048576 := by simpa [Rows.uptoSmall, Rows.uptoBulkAll, Nat.add_assoc] using hk
  have g0 : Value.okWide Try.prog W .any base 57 v0 := by apply hval 0 57 v0 <;> simp
  obtain ⟨x0, c0, rfl, s0, m0⟩ := arg_st (by kernel_rfl) try_gr g0 r0 (by omega)
  have g1 : Value.okWide Try.prog W .any base 3 v1 := by apply hval 1 3 v1 <;> simp
  obtain ⟨n1, rfl, l1, u1⟩ := arg_int (by kernel_rfl) g1 r1
  have g2 : Value.okWide Try.prog W .any base 22 v2 := by apply hval 2 22 v2 <;> simp
  have hr2 : Reads Try.prog (List Bool) 22 := reads_list (e := 4) (by kernel_rfl) (by kernel_rfl) (by decide) (reads_bool (by kernel_rfl))
  obtain ⟨x2, A2, c2, rfl, s2, m2⟩ := arg_list (e := 4) (by kernel_rfl) hr2 g2 r2 (by omega)
  refine law_contract try_laid rfl ?_ ?_ (tb := 4) (by kernel_rfl) (by kernel_rfl) hW' (law_drawTrees s0 ⟨l1, u1⟩ s2)
  · rw [Try.params19]
    intro H ds h
    match ds, h with
    | [a, b, c], _ => rfl
  · rw [Try.params19]
    intro t ht
    simp at ht
    rcases ht with rfl | rfl | rfl
    · exact ⟨by kernel_rfl, of_decide_eq_true (by kernel_rfl)⟩
    · exact ⟨by kernel_rfl, of_decide_eq_true (by kernel_rfl)⟩
    · exact ⟨by kernel_rfl, of_decide_eq_true (by kernel_rfl)⟩

set_option maxRecDepth 100000 in
theorem drawTrees_lifted (os : Os) (started : os.Started) (H : Type) (enc : TypeId × Value → H) (F : Stop.Interp) :
    ReturnsInHanded {} Try.checked os 19 .any ((Rows.OpenSpec.upto Rows.drawTreesSpec).pre6 enc Try.prog Try.f19 Rows.drawTreesUptoRow.domain false) (((Rows.OpenSpec.upto Rows.drawTreesSpec).at F).post enc Try.prog Try.f19 false true false false) := by
  refine returnsInHanded_of_cond (C := Try.checked) (s := Rows.OpenSpec.upto Rows.drawTreesSpec) (k := Rows.uptoSmall) rfl drawTrees_own started (by kernel_rfl) Try.func19
    (OpenSpec.witness (enc := enc) (C := Try.checked) (s := Rows.OpenSpec.upto Rows.drawTreesSpec) (k := Rows.uptoSmall) rfl false ⟨#[], #[.agg #[.int .i64 0, .int .i64 0, .int .i64 0, .slice none 0 0], .int .i64 0, .slice none 0 0], []⟩ 8 (by kernel_rfl) (by kernel_rfl) (by kernel_rfl)
      (x := ([.agg [.lit (.int .i64 0), .lit (.int .i64 0), .lit (.int .i64 0), .nil], .lit (.int .i64 0), .nil], [], [])) (by kernel_rfl) rfl (by kernel_rfl)) ?_
  intro W base args ds gs before hval hW _ hk _
  exact drawTrees_contract H enc W base args ds gs before hW hk hval

theorem drawTrees_c1 : (Rows.drawTreesUptoRow.inPlace == Try.prog.inPlace 19) = true := by kernel_rfl
theorem drawTrees_c2 : (Rows.drawTreesUptoRow.unfollowed == Try.prog.unfollowed 19) = true := by kernel_rfl
theorem drawTrees_c3 : (Rows.drawTreesUptoRow.recurses == Try.prog.recurses 19) = true := by kernel_rfl
theorem drawTrees_c4 : (Rows.drawTreesUptoRow.named == Try.prog.varsNamed 19) = true := by kernel_rfl
theorem drawTrees_closed : joinedFacts Try.prog 19 Try.f19 (Rows.OpenSpec.upto Rows.drawTreesSpec).bare Rows.drawTreesUptoRow = true :=
  joined_split try_laid try_maps try_heard try_enter try_lifts try_make drawTrees_c1 drawTrees_c2 drawTrees_c3 drawTrees_c4 (by rw [try_keys]; rfl) (by kernel_rfl)
theorem drawTrees_named : Try.prog.funcNamed Rows.drawTreesUptoRow.func = some 19 := by kernel_rfl
theorem drawTrees_inst : Func.isInstance Try.prog Try.f19 Rows.drawTreesUptoRow.origin Rows.drawTreesUptoRow.targs := of_decide_eq_true (by kernel_rfl)
theorem drawTrees_wrap : Func.isWrapper Try.prog Try.f19 Rows.drawTreesUptoRow.wrapper Rows.drawTreesUptoRow.mainSum := by
  unfold Func.isWrapper; first | (rw [if_pos (by decide +kernel)]; kernel_rfl) | (rw [if_neg (by decide +kernel)]; exact ⟨rfl, rfl⟩)
theorem drawTrees_over : Rows.drawTreesUptoRow.holds Try.pinned (Rows.OpenSpec.upto Rows.drawTreesSpec) :=
  OpenClaim.holds_of_cond (p := Try.pinned) 19 Try.f19 rfl rfl rfl rfl rfl rfl rfl ⟨rfl, rfl, rfl, rfl, rfl⟩ rfl rfl rfl rfl rfl drawTrees_named Try.func19 drawTrees_closed
    drawTrees_inst drawTrees_wrap
    (fun os started H enc _ F => drawTrees_lifted os started H enc F)
theorem drawTrees_holds : Rows.DrawTreesUptoSaid := drawTrees_over
end Go.Proofs.Ytniobbepliknmaa.V
