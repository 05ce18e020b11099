/- The row of parllaw5.GuessTells, proved: GuessTellsUptoSaid; no condition. -/
import Derived.Test.YtniobbepliknmaaCf
import Derived.Test.YtniobbepliknmaaM8
namespace Go.Proofs.Ytniobbepliknmaa.V
open Go Go.ChangeShapes Go.RowKit Go.WideShapes Go.ChangeAt
set_option linter.unusedVariables false

theorem meas_words : ∀ xs : List (List Int), xs.length + 1 ≤ Meas.meas xs
  | [] => Nat.le_refl _
  | x :: r => by
    have h1 : Meas.meas (x :: r) = Meas.meas x + measL r + 1 := rfl
    have h2 : Meas.meas r = measL r + 1 := rfl
    have h3 : Meas.meas x = measL x + 1 := rfl
    have := meas_words r
    rw [List.length_cons]
    omega
theorem guessTells_own : ownKnob Try.prog.godebug = none := by kernel_rfl
set_option maxRecDepth 100000 in
theorem guessTells_contract (H : Type) (enc : TypeId × Value → H) (W : World) (base : Nat) (args : Array Value) (ds gs : List (DataW H)) (before : List MemPlace)
    (hW : DataW.Whole enc Try.prog Try.f12.params.toList Rows.guessTellsSpec.vars false W args.toList ds gs before) (hk : Rows.uptoSmall H (ds ++ gs) = true)
    (hval : ∀ (j : Nat) t v, Try.f12.params[j]? = some t → args[j]? = some v → Value.okWide Try.prog W .any base t v) :
    Calls Try.prog 12 args W fun e W' => ∃ v, e = .returned v ∧ Rows.guessTellsSpec.post enc Try.prog Try.f12 false true false false W args v W' := by
  have hW' := hW
  obtain ⟨p, q, hA, hV, rfl, hfz, hnd⟩ := hW
  obtain ⟨rfl, rfl⟩ := trodVars_none hV
  rw [Try.params12] at hA hval
  obtain ⟨v0, v1, v2, v3, d0, d1, d2, d3, p0, p1, p2, p3, rfl, rfl, rfl, r0, r1, r2, r3⟩ := trodAll_four hA
  have hb : Rows.uptoBulk d0 + Rows.uptoBulk d1 + Rows.uptoBulk d2 + Rows.uptoBulk d3 ≤ 1048576 := by simpa [Rows.uptoSmall, Rows.uptoBulkAll, Nat.add_assoc] using hk
  have g0 : Value.okWide Try.prog W .any base 3 v0 := by apply hval 0 3 v0 <;> simp
  obtain ⟨n0, rfl, l0, u0⟩ := arg_int (by kernel_rfl) g0 r0
  have g1 : Value.okWide Try.prog W .any base 3 v1 := by apply hval 1 3 v1 <;> simp
  obtain ⟨n1, rfl, l1, u1⟩ := arg_int (by kernel_rfl) g1 r1
  have g2 : Value.okWide Try.prog W .any base 65 v2 := by apply hval 2 65 v2 <;> simp
  obtain ⟨x2, A2, c2, rfl, s2, m2⟩ := arg_list (e := 29) (by kernel_rfl) try_intss g2 r2 (by omega)
  have g3 : Value.okWide Try.prog W .any base 65 v3 := by apply hval 3 65 v3 <;> simp
  obtain ⟨x3, A3, c3, rfl, s3, m3⟩ := arg_list (e := 29) (by kernel_rfl) try_intss g3 r3 (by omega)
  refine law_contract try_laid rfl ?_ ?_ (tb := 4) (by kernel_rfl) (by kernel_rfl) hW' (law_guess n0 n1 s2 s3 (by have := meas_words x2; have := meas_words x3; omega))
  · rw [Try.params12]
    intro H ds h
    match ds, h with
    | [a, b, c, d], _ => rfl
  · rw [Try.params12]
    intro t ht
    simp at ht
    rcases ht with rfl | rfl
    · exact ⟨by kernel_rfl, of_decide_eq_true (by kernel_rfl)⟩
    · exact ⟨by kernel_rfl, of_decide_eq_true (by kernel_rfl)⟩

set_option maxRecDepth 100000 in
theorem guessTells_lifted (os : Os) (started : os.Started) (H : Type) (enc : TypeId × Value → H) (F : Stop.Interp) :
    ReturnsInHanded {} Try.checked os 12 .any ((Rows.OpenSpec.upto Rows.guessTellsSpec).pre6 enc Try.prog Try.f12 Rows.guessTellsUptoRow.domain false) (((Rows.OpenSpec.upto Rows.guessTellsSpec).at F).post enc Try.prog Try.f12 false true false false) := by
  refine returnsInHanded_of_cond (C := Try.checked) (s := Rows.OpenSpec.upto Rows.guessTellsSpec) (k := Rows.uptoSmall) rfl guessTells_own started (by kernel_rfl) Try.func12
    (OpenSpec.witness (enc := enc) (C := Try.checked) (s := Rows.OpenSpec.upto Rows.guessTellsSpec) (k := Rows.uptoSmall) rfl false ⟨#[], #[.int .i64 0, .int .i64 0, .slice none 0 0, .slice none 0 0], []⟩ 8 (by kernel_rfl) (by kernel_rfl) (by kernel_rfl)
      (x := ([.lit (.int .i64 0), .lit (.int .i64 0), .nil, .nil], [], [])) (by kernel_rfl) rfl (by kernel_rfl)) ?_
  intro W base args ds gs before hval hW _ hk _
  exact guessTells_contract H enc W base args ds gs before hW hk hval

theorem guessTells_c1 : (Rows.guessTellsUptoRow.inPlace == Try.prog.inPlace 12) = true := by kernel_rfl
theorem guessTells_c2 : (Rows.guessTellsUptoRow.unfollowed == Try.prog.unfollowed 12) = true := by kernel_rfl
theorem guessTells_c3 : (Rows.guessTellsUptoRow.recurses == Try.prog.recurses 12) = true := by kernel_rfl
theorem guessTells_c4 : (Rows.guessTellsUptoRow.named == Try.prog.varsNamed 12) = true := by kernel_rfl
theorem guessTells_closed : joinedFacts Try.prog 12 Try.f12 (Rows.OpenSpec.upto Rows.guessTellsSpec).bare Rows.guessTellsUptoRow = true :=
  joined_split try_laid try_maps try_heard try_enter try_lifts try_make guessTells_c1 guessTells_c2 guessTells_c3 guessTells_c4 (by rw [try_keys]; rfl) (by kernel_rfl)
theorem guessTells_named : Try.prog.funcNamed Rows.guessTellsUptoRow.func = some 12 := by kernel_rfl
theorem guessTells_inst : Func.isInstance Try.prog Try.f12 Rows.guessTellsUptoRow.origin Rows.guessTellsUptoRow.targs := of_decide_eq_true (by kernel_rfl)
theorem guessTells_wrap : Func.isWrapper Try.prog Try.f12 Rows.guessTellsUptoRow.wrapper Rows.guessTellsUptoRow.mainSum := by
  unfold Func.isWrapper; first | (rw [if_pos (by decide +kernel)]; kernel_rfl) | (rw [if_neg (by decide +kernel)]; exact ⟨rfl, rfl⟩)
theorem guessTells_over : Rows.guessTellsUptoRow.holds Try.pinned (Rows.OpenSpec.upto Rows.guessTellsSpec) :=
  OpenClaim.holds_of_cond (p := Try.pinned) 12 Try.f12 rfl rfl rfl rfl rfl rfl rfl ⟨rfl, rfl, rfl, rfl, rfl⟩ rfl rfl rfl rfl rfl guessTells_named Try.func12 guessTells_closed
    guessTells_inst guessTells_wrap
    (fun os started H enc _ F => guessTells_lifted os started H enc F)
theorem guessTells_holds : Rows.GuessTellsUptoSaid := guessTells_over
end Go.Proofs.Ytniobbepliknmaa.V
