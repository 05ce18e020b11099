/- The row of parllaw5.MeetFirst, proved: MeetFirstUptoSaid; no condition. -/
import Derived.Test.YtiipiapfnedfjaaCf
import Derived.Test.YtiipiapfnedfjaaM2
import Derived.Test.YtiipiapfnedfjaaM5
namespace Go.Proofs.Ytiipiapfnedfjaa.V
open Go Go.ChangeShapes Go.RowKit Go.WideShapes Go.ChangeAt
set_option linter.unusedVariables false

theorem meetFirst_own : ownKnob Try.prog.godebug = none := by kernel_rfl
set_option maxRecDepth 100000 in
theorem meetFirst_contract (H : Type) (enc : TypeId × Value → H) (W : World) (base : Nat) (args : Array Value) (ds gs : List (DataW H)) (before : List MemPlace)
    (hW : DataW.Whole enc Try.prog Try.f11.params.toList Rows.meetFirstSpec.vars false W args.toList ds gs before) (hk : Rows.uptoSmall H (ds ++ gs) = true)
    (hval : ∀ (j : Nat) t v, Try.f11.params[j]? = some t → args[j]? = some v → Value.okWide Try.prog W .any base t v) :
    Calls Try.prog 11 args W fun e W' => ∃ v, e = .returned v ∧ Rows.meetFirstSpec.post enc Try.prog Try.f11 false true false false W args v W' := by
  have hW' := hW
  obtain ⟨p, q, hA, hV, rfl, hfz, hnd⟩ := hW
  obtain ⟨rfl, rfl⟩ := trodVars_none hV
  rw [Try.params11] at hA hval
  obtain ⟨v0, v1, d0, d1, p0, p1, rfl, rfl, rfl, r0, r1⟩ := trodAll_two hA
  have hb : Rows.uptoBulk d0 + Rows.uptoBulk d1 ≤ 1048576 := by simpa [Rows.uptoSmall, Rows.uptoBulkAll, Nat.add_assoc] using hk
  have g0 : Value.okWide Try.prog W .any base 24 v0 := by apply hval 0 24 v0 <;> simp
  obtain ⟨x0, c0, rfl, s0, m0⟩ := arg_st (by kernel_rfl) try_gr g0 r0 (by omega)
  have g1 : Value.okWide Try.prog W .any base 94 v1 := by apply hval 1 94 v1 <;> simp
  obtain ⟨x1, c1, rfl, s1, m1⟩ := arg_st (by kernel_rfl) try_da g1 r1 (by omega)
  refine law_contract try_laid rfl ?_ ?_ (tb := 4) (by kernel_rfl) (by kernel_rfl) hW' (law_meetFirst s0 s1)
  · rw [Try.params11]
    intro H ds h
    match ds, h with
    | [a, b], _ => rfl
  · rw [Try.params11]
    intro t ht
    simp at ht
    rcases ht with rfl | rfl
    · exact ⟨by kernel_rfl, of_decide_eq_true (by kernel_rfl)⟩
    · exact ⟨by kernel_rfl, of_decide_eq_true (by kernel_rfl)⟩

set_option maxRecDepth 100000 in
theorem meetFirst_lifted (os : Os) (started : os.Started) (H : Type) (enc : TypeId × Value → H) (F : Stop.Interp) :
    ReturnsInHanded {} Try.checked os 11 .any ((Rows.OpenSpec.upto Rows.meetFirstSpec).pre6 enc Try.prog Try.f11 Rows.meetFirstUptoRow.domain false) (((Rows.OpenSpec.upto Rows.meetFirstSpec).at F).post enc Try.prog Try.f11 false true false false) := by
  refine returnsInHanded_of_cond (C := Try.checked) (s := Rows.OpenSpec.upto Rows.meetFirstSpec) (k := Rows.uptoSmall) rfl meetFirst_own started (by kernel_rfl) Try.func11
    (OpenSpec.witness (enc := enc) (C := Try.checked) (s := Rows.OpenSpec.upto Rows.meetFirstSpec) (k := Rows.uptoSmall) rfl false ⟨#[], #[.agg #[.int .i64 0, .int .i64 0, .int .i64 0, .slice none 0 0], .agg #[.int .i64 0, .slice none 0 0, .slice none 0 0]], []⟩ 8 (by kernel_rfl) (by kernel_rfl) (by kernel_rfl)
      (x := ([.agg [.lit (.int .i64 0), .lit (.int .i64 0), .lit (.int .i64 0), .nil], .agg [.lit (.int .i64 0), .nil, .nil]], [], [])) (by kernel_rfl) rfl (by kernel_rfl)) ?_
  intro W base args ds gs before hval hW _ hk _
  exact meetFirst_contract H enc W base args ds gs before hW hk hval

theorem meetFirst_c1 : (Rows.meetFirstUptoRow.inPlace == Try.prog.inPlace 11) = true := by kernel_rfl
theorem meetFirst_c2 : (Rows.meetFirstUptoRow.unfollowed == Try.prog.unfollowed 11) = true := by kernel_rfl
theorem meetFirst_c3 : (Rows.meetFirstUptoRow.recurses == Try.prog.recurses 11) = true := by kernel_rfl
theorem meetFirst_c4 : (Rows.meetFirstUptoRow.named == Try.prog.varsNamed 11) = true := by kernel_rfl
theorem meetFirst_closed : joinedFacts Try.prog 11 Try.f11 (Rows.OpenSpec.upto Rows.meetFirstSpec).bare Rows.meetFirstUptoRow = true :=
  joined_split try_laid try_maps try_heard try_enter try_lifts try_make meetFirst_c1 meetFirst_c2 meetFirst_c3 meetFirst_c4 (by rw [try_keys]; rfl) (by kernel_rfl)
theorem meetFirst_named : Try.prog.funcNamed Rows.meetFirstUptoRow.func = some 11 := by kernel_rfl
theorem meetFirst_inst : Func.isInstance Try.prog Try.f11 Rows.meetFirstUptoRow.origin Rows.meetFirstUptoRow.targs := of_decide_eq_true (by kernel_rfl)
theorem meetFirst_wrap : Func.isWrapper Try.prog Try.f11 Rows.meetFirstUptoRow.wrapper Rows.meetFirstUptoRow.mainSum := by
  unfold Func.isWrapper; first | (rw [if_pos (by decide +kernel)]; kernel_rfl) | (rw [if_neg (by decide +kernel)]; exact ⟨rfl, rfl⟩)
theorem meetFirst_over : Rows.meetFirstUptoRow.holds Try.pinned (Rows.OpenSpec.upto Rows.meetFirstSpec) :=
  OpenClaim.holds_of_cond (p := Try.pinned) 11 Try.f11 rfl rfl rfl rfl rfl rfl rfl ⟨rfl, rfl, rfl, rfl, rfl⟩ rfl rfl rfl rfl rfl meetFirst_named Try.func11 meetFirst_closed
    meetFirst_inst meetFirst_wrap
    (fun os started H enc _ F => meetFirst_lifted os started H enc F)
theorem meetFirst_holds : Rows.MeetFirstUptoSaid := meetFirst_over
end Go.Proofs.Ytiipiapfnedfjaa.V
