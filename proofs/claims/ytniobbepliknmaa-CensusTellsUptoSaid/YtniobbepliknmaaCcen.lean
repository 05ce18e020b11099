/- The row of parllaw5.CensusTells, proved: CensusTellsUptoSaid; no condition. -/
import Derived.Test.YtniobbepliknmaaCf
import Derived.Test.YtniobbepliknmaaM3
import Derived.Test.YtniobbepliknmaaM7
import Derived.Test.YtniobbepliknmaaM8
namespace Go.Proofs.Ytniobbepliknmaa.V
open Go Go.ChangeShapes Go.RowKit Go.WideShapes Go.ChangeAt
set_option linter.unusedVariables false

theorem censusTells_own : ownKnob Try.prog.godebug = none := by kernel_rfl
set_option maxRecDepth 100000 in
theorem censusTells_contract (H : Type) (enc : TypeId × Value → H) (W : World) (base : Nat) (args : Array Value) (ds gs : List (DataW H)) (before : List MemPlace)
    (hW : DataW.Whole enc Try.prog Try.f15.params.toList Rows.censusTellsSpec.vars false W args.toList ds gs before) (hk : Rows.uptoSmall H (ds ++ gs) = true)
    (hval : ∀ (j : Nat) t v, Try.f15.params[j]? = some t → args[j]? = some v → Value.okWide Try.prog W .any base t v) :
    Calls Try.prog 15 args W fun e W' => ∃ v, e = .returned v ∧ Rows.censusTellsSpec.post enc Try.prog Try.f15 false true false false W args v W' := by
  have hW' := hW
  obtain ⟨p, q, hA, hV, rfl, hfz, hnd⟩ := hW
  obtain ⟨rfl, rfl⟩ := trodVars_none hV
  rw [Try.params15] at hA hval
  obtain ⟨v0, v1, d0, d1, p0, p1, rfl, rfl, rfl, r0, r1⟩ := trodAll_two hA
  have hb : Rows.uptoBulk d0 + Rows.uptoBulk d1 ≤ 1048576 := by simpa [Rows.uptoSmall, Rows.uptoBulkAll, Nat.add_assoc] using hk
  have g0 : Value.okWide Try.prog W .any base 57 v0 := by apply hval 0 57 v0 <;> simp
  obtain ⟨x0, c0, rfl, s0, m0⟩ := arg_st (by kernel_rfl) try_gr g0 r0 (by omega)
  have g1 : Value.okWide Try.prog W .any base 3 v1 := by apply hval 1 3 v1 <;> simp
  obtain ⟨n1, rfl, l1, u1⟩ := arg_int (by kernel_rfl) g1 r1
  refine law_contract try_laid rfl ?_ ?_ (tb := 4) (by kernel_rfl) (by kernel_rfl) hW' (law_census s0 ⟨l1, u1⟩ (fun hx => ref_census hx ⟨l1, u1⟩))
  · rw [Try.params15]
    intro H ds h
    match ds, h with
    | [a, b], _ => rfl
  · rw [Try.params15]
    intro t ht
    simp at ht
    rcases ht with rfl | rfl
    · exact ⟨by kernel_rfl, of_decide_eq_true (by kernel_rfl)⟩
    · exact ⟨by kernel_rfl, of_decide_eq_true (by kernel_rfl)⟩

set_option maxRecDepth 100000 in
theorem censusTells_lifted (os : Os) (started : os.Started) (H : Type) (enc : TypeId × Value → H) (F : Stop.Interp) :
    ReturnsInHanded {} Try.checked os 15 .any ((Rows.OpenSpec.upto Rows.censusTellsSpec).pre6 enc Try.prog Try.f15 Rows.censusTellsUptoRow.domain false) (((Rows.OpenSpec.upto Rows.censusTellsSpec).at F).post enc Try.prog Try.f15 false true false false) := by
  refine returnsInHanded_of_cond (C := Try.checked) (s := Rows.OpenSpec.upto Rows.censusTellsSpec) (k := Rows.uptoSmall) rfl censusTells_own started (by kernel_rfl) Try.func15
    (OpenSpec.witness (enc := enc) (C := Try.checked) (s := Rows.OpenSpec.upto Rows.censusTellsSpec) (k := Rows.uptoSmall) rfl false ⟨#[], #[.agg #[.int .i64 0, .int .i64 0, .int .i64 0, .slice none 0 0], .int .i64 0], []⟩ 8 (by kernel_rfl) (by kernel_rfl) (by kernel_rfl)
      (x := ([.agg [.lit (.int .i64 0), .lit (.int .i64 0), .lit (.int .i64 0), .nil], .lit (.int .i64 0)], [], [])) (by kernel_rfl) rfl (by kernel_rfl)) ?_
  intro W base args ds gs before hval hW _ hk _
  exact censusTells_contract H enc W base args ds gs before hW hk hval

theorem censusTells_c1 : (Rows.censusTellsUptoRow.inPlace == Try.prog.inPlace 15) = true := by kernel_rfl
theorem censusTells_c2 : (Rows.censusTellsUptoRow.unfollowed == Try.prog.unfollowed 15) = true := by kernel_rfl
theorem censusTells_c3 : (Rows.censusTellsUptoRow.recurses == Try.prog.recurses 15) = true := by kernel_rfl
theorem censusTells_c4 : (Rows.censusTellsUptoRow.named == Try.prog.varsNamed 15) = true := by kernel_rfl
theorem censusTells_closed : joinedFacts Try.prog 15 Try.f15 (Rows.OpenSpec.upto Rows.censusTellsSpec).bare Rows.censusTellsUptoRow = true :=
  joined_split try_laid try_maps try_heard try_enter try_lifts try_make censusTells_c1 censusTells_c2 censusTells_c3 censusTells_c4 (by rw [try_keys]; rfl) (by kernel_rfl)
theorem censusTells_named : Try.prog.funcNamed Rows.censusTellsUptoRow.func = some 15 := by kernel_rfl
theorem censusTells_inst : Func.isInstance Try.prog Try.f15 Rows.censusTellsUptoRow.origin Rows.censusTellsUptoRow.targs := of_decide_eq_true (by kernel_rfl)
theorem censusTells_wrap : Func.isWrapper Try.prog Try.f15 Rows.censusTellsUptoRow.wrapper Rows.censusTellsUptoRow.mainSum := by
  unfold Func.isWrapper; first | (rw [if_pos (by decide +kernel)]; kernel_rfl) | (rw [if_neg (by decide +kernel)]; exact ⟨rfl, rfl⟩)
theorem censusTells_over : Rows.censusTellsUptoRow.holds Try.pinned (Rows.OpenSpec.upto Rows.censusTellsSpec) :=
  OpenClaim.holds_of_cond (p := Try.pinned) 15 Try.f15 rfl rfl rfl rfl rfl rfl rfl ⟨rfl, rfl, rfl, rfl, rfl⟩ rfl rfl rfl rfl rfl censusTells_named Try.func15 censusTells_closed
    censusTells_inst censusTells_wrap
    (fun os started H enc _ F => censusTells_lifted os started H enc F)
theorem censusTells_holds : Rows.CensusTellsUptoSaid := censusTells_over
end Go.Proofs.Ytniobbepliknmaa.V
