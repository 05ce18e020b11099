/- Words made smaller: shrink.Word, shrink.Lower, parlref5.Shrunk and parlref5.Lowered walked; no condition. -/
import Derived.Test.YtniobbepliknmaaPsl
import Derived.Test.YtniobbepliknmaaDshr
import Derived.Test.YtniobbepliknmaaS106
import Derived.Test.YtniobbepliknmaaS30
import Derived.Test.YtniobbepliknmaaS37
import Derived.Test.YtniobbepliknmaaS34
import Derived.Test.YtniobbepliknmaaS38
namespace Go.Proofs.Ytniobbepliknmaa.V
open Go
set_option linter.unusedVariables false
set_option linter.unusedSimpArgs false
attribute [local go_sem] e_seq e_region e_quiet e_join e_loop e_cond e_block e_exit e_ret e_skip e_fin e_kseq e_snrm e_sret e_sex e_bnrm e_bret e_bex e_rnrm e_rret e_res e_condC e_nil e_g e_mv g_mv e_pick g_pick pickC_eq e_ibin g_ibin ibinC_eq e_sbin g_sbin e_beq g_beq beqC_eq e_nilq g_nilq nilqC_sl nilqC_pt nilqC_mp e_un g_un unC_not unC_neg e_conv g_conv convC_eq e_fld g_fld fldC_ref fldC_ptr e_nilCheck g_nilCheck nilCheckC_ref nilCheckC_ptr nilCheckC_fun e_field g_field fieldC_eq e_len g_len lenC_sl lenC_str e_extract g_extract extractC_eq e_mkFunc e_build g_build e_idiv g_idiv idivC_eq e_ishift g_ishift ishiftC_eq e_idx g_idx e_idxA g_idxA e_load g_load loadC_ref loadC_ptr loadB_eq e_slc g_slc e_box boxC_loc boxC_esc e_alloc allocC_loc allocC_esc e_buildS e_store storeC_ref storeC_ptr storeB_eq e_append e_appz e_mk mkC_eq e_call callC_eq e_fn g_fn fnC_eq fnV_min' fnV_max' fnV_rune' e_q g_q e_a e_n g_call g_box g_alloc g_buildS g_store g_append g_mk g_a g_n g_dead e_dead e_callK e_drawn e_tree e_finJ e_tk e_tfin e_tno e_nbt_q e_nbt_qn e_nbt_a e_nbt_an e_nbt_fin e_early_nil e_early_t e_early_f e_nob_nil e_nob_none e_nob_some isBox_dead isBox_v isBox_ref e_dnil e_dk e_ek e_finB vcOps_vc1 e_dcons e_tq e_ekt e_tearly e_talt e_dearly look_nil look_c proj_nil proj_c looks_nil looks_c zip_nil zip_c val_tmp val_const val_func slv_v slv_box slv_ref slot_tmp slot_const slot_func slotL_v slotL_box slotL_ref put_some put_none updBox_c boxSet_box gd_eq slotVals_nil slotVals_c slotVals_b boxV_box boxOn_box slotsOn_nil slotsOn_c slotsOn_b resV_one resV_two vals_nil vals_c allOn_nil allOn_c partOn_nil partOn_c partVals_nil partVals_c fits_nil fits_c fillL_nil fillL_c mkv_one mkv_agg cellsV_agg cellsV_int cellsV_bool cellsV_slice cellsV_string cellsV_pointer cellsV_func cellsV_nilf cellsV_map one'_nil one'_c oc_int oc_bool oc_slice oc_string oc_pointer oc_func oc_nilf oc_map setC_eq iv_add iv_sub iv_mul iv_eql iv_neq iv_lss iv_leq iv_gtr iv_geq iok_add iok_sub iok_mul iok_eql iok_neq iok_lss iok_leq iok_gtr iok_geq pickV_bool args0_nil args0_c bnd_none bnd_some imp_bt imp_bf imp_ebt imp_ebf imp_eb1 imp_np imp_pp beq_tt beq_tf beq_ft beq_ff cond_or cond_and e_round e_meet Int.le_refl Int.toNat_zero decide_true decide_false Bool.or_false Bool.false_or Bool.true_or Bool.or_true Bool.and_false Bool.false_and Bool.bne_false Bool.bne_true beq_iff_eq Int.cast_ofNat_Int not_false_eq_true not_true_eq_false false_and and_false false_implies true_implies true_and and_true Bool.true_and Bool.and_true Bool.not_true Bool.not_false forall_const implies_true List.take_zero List.drop_zero List.take_succ_cons List.drop_succ_cons List.take_nil List.drop_nil List.length_cons List.length_nil List.nil_append List.append_nil List.cons_append Int.toNat_natCast decide_eq_true_eq decide_eq_false_iff_not cond_true cond_false and_self List.getElem?_cons_zero List.getElem?_cons_succ List.set_cons_zero List.set_cons_succ Option.some.injEq exists_eq_left' Nat.zero_add Nat.add_zero Nat.mul_one imp_self true_or or_true or_false false_or Bool.or_eq_true Bool.or_eq_false_iff Bool.and_eq_true Bool.and_eq_false_iff Bool.not_eq_true' Bool.not_eq_false'

theorem erase_snoc {α : Type} (w : List α) (i k : Nat) (hk : k < w.length) : (w.take (k + 1)).eraseIdx i = if k = i then (w.take k).eraseIdx i else (w.take k).eraseIdx i ++ [w[k]] := by
  rw [List.take_succ_eq_append_getElem hk]
  have hl : (w.take k).length = k := by simp; omega
  by_cases h1 : k < i
  · rw [if_neg (by omega), List.eraseIdx_of_length_le (by simp; omega), List.eraseIdx_of_length_le (by omega)]
  · by_cases h2 : k = i
    · subst h2
      rw [if_pos rfl, List.eraseIdx_append_of_length_le (by omega), List.eraseIdx_of_length_le (l := w.take k) (by omega), hl]
      simp
    · rw [if_neg h2, List.eraseIdx_append_of_lt_length (by omega)]

theorem shrink_without {Γr : Ctx} {A : Option Addr} {c : Nat} {w : List Int} (hw : SlOk (lk Γr) A c w) (hs : w.length ≤ 1048576) (i : Nat) :
    Ret Try.prog 106 [.slice A w.length c, .int .i64 i] Γr [] (fun v Γ => ∃ g, Γ = [g] ∧ Bld g (lk []) 3 v (w.eraseIdx i)) := by
  generalize hR : (fun (v : Value) (Γ : Ctx) => ∃ g, _) = R
  refine ret_of_vc tr106 (Nat.le_of_ble_eq_true rfl) ?_
  simp only [S106, S106_0, go_sem, Nat.reduceBEq, Nat.reduceAdd, Nat.reduceSub, Nat.reduceMul, Nat.reduceLeDiff, reduceCtorEq, ↓reduceIte, Int.reduceLT, Int.reduceLE, Int.reduceEq, Int.reduceNe]
  refine ⟨by omega, by omega, fun b => ?_⟩
  have h0 : Bld (V.one b (.cells (zerosL [Value.int .i64 0] w.length).toArray 3)) (lk []) 3 (.slice (some ⟨b, 0, none⟩) 0 w.length) ([] : List Int) := Bld.make0 (z := .int .i64 0) rfl (by unfold maxLen; omega)
  refine s_loop (fun f vs Γ => ∃ g, Γ = [g] ∧ ∃ (k : Nat) (u : Value), vs = [.v true u, .v true (.int .i64 k)] ∧ k + f = w.length ∧ Bld g (lk []) 3 u ((w.take k).eraseIdx i)) w.length (Up.here ⟨_, rfl, 0, _, rfl, by omega, h0⟩) ?_
  rintro f vs Γ ⟨g, rfl, k, u, rfl, hkf, hB⟩
  simp only [S106_3, go_sem, Nat.reduceBEq, Nat.reduceAdd, Nat.reduceSub, Nat.reduceMul, Nat.reduceLeDiff, reduceCtorEq, ↓reduceIte, Int.reduceLT, Int.reduceLE, Int.reduceEq, Int.reduceNe]
  refine ⟨fun hlt => ?_, fun hge => ?_⟩
  · have hk : k < w.length := by omega
    have hsn := erase_snoc w i k hk
    have hlen : ((w.take k).eraseIdx i).length ≤ k := Nat.le_trans (List.length_eraseIdx_le ..) (by simp; omega)
    obtain ⟨b1, o, hA, hc⟩ := hw.int hk
    refine s_split ?_
    simp only [S106_1, S106_2, go_sem, Nat.reduceBEq, Nat.reduceAdd, Nat.reduceSub, Nat.reduceMul, Nat.reduceLeDiff, reduceCtorEq, ↓reduceIte, Int.reduceLT, Int.reduceLE, Int.reduceEq, Int.reduceNe]
    refine s_idx hA (by omega) (by omega) ?_
    simp only [go_sem, Nat.reduceBEq, Nat.reduceAdd, Nat.reduceSub, Nat.reduceMul, Nat.reduceLeDiff, reduceCtorEq, ↓reduceIte, Int.reduceLT, Int.reduceLE, Int.reduceEq, Int.reduceNe]
    refine s_ld0 (hc _ (lk_r _ _)) (by simp) (by simp) ?_
    simp only [go_sem, Nat.reduceBEq, Nat.reduceAdd, Nat.reduceSub, Nat.reduceMul, Nat.reduceLeDiff, reduceCtorEq, ↓reduceIte, Int.reduceLT, Int.reduceLE, Int.reduceEq, Int.reduceNe]
    refine ⟨fun hne b2 => ?_, fun he => Up.here ?_⟩
    · refine s_app1S (ix := 1) w[k] rfl hB cells_one rfl (by omega) (by unfold maxLen; omega) ?_
      intro v' g' hB' _
      simp only [go_sem, Nat.reduceBEq, Nat.reduceAdd, Nat.reduceSub, Nat.reduceMul, Nat.reduceLeDiff, reduceCtorEq, ↓reduceIte, Int.reduceLT, Int.reduceLE, Int.reduceEq, Int.reduceNe]
      simp (disch := omega) only [wrap_id]
      rw [if_neg (by omega)] at hsn
      rw [← hsn] at hB'
      exact Up.here ⟨f - 1, by omega, Up.sel [[1]] (by decide) fun _ _ => ⟨_, rfl, k + 1, v', rfl, by omega, hB'⟩⟩
    · simp (disch := omega) only [wrap_id]
      rw [if_pos (by omega)] at hsn
      exact ⟨f - 1, by omega, Up.here ⟨_, rfl, k + 1, u, rfl, by omega, by rw [hsn]; exact hB⟩⟩
  · have hk : k = w.length := by omega
    rw [hk, List.take_length] at hB
    refine Up.here ?_
    subst hR
    exact ⟨_, rfl, hB⟩

/-- a condition of words, as a function value -/
def FailsOk (Γr : Ctx) (fv : Value) (F : List Int → Bool) : Prop := ∃ g c1 c2, fv = .func (.func g) c1 c2 ∧ ∀ (Γ : Ctx), Mem.le (lk Γr) (lk Γ) → ∀ (A : Option Addr) (c : Nat) (w : List Int), SlOk (lk Γ) A c w → w.length ≤ 1048576 →
  Ret Try.prog g (c1.toList ++ [.slice A w.length c] ++ c2.toList) Γ [] (fun r Γ => Γ = [] ∧ r = .bool (F w))
theorem FailsOk.mono {Γr Γ : Ctx} {fv : Value} {F : List Int → Bool} (h : FailsOk Γr fv F) (hl : Mem.le (lk Γr) (lk Γ)) : FailsOk Γ fv F := by
  obtain ⟨g, c1, c2, e, h⟩ := h
  exact ⟨g, c1, c2, e, fun Γ' hl' => h Γ' (hl.trans hl')⟩
/-- a row as a slice -/
theorem Bld.own {g : PH} {L : Mem} {v : Value} {w : List Int} (h : Bld g L 3 v w) (hs : w.length ≤ 1048576) : ∃ A c, v = .slice A w.length c ∧ SlOk (lk [g]) A c w := by
  have any : Bld g (lk []) 3 v w := by
    obtain ⟨cs, h1, h3⟩ := h
    exact ⟨cs, h1, fun i x hi => let ⟨c, q1, q2⟩ := h3 i x hi; ⟨c, ok_sc q1 ▸ rfl, q2⟩⟩
  exact any.slok (Mem.le.refl _) (lk_sub (by simp)) (by omega)

def wordR (F : List Int → Bool) (w : List Int) : List Int × Int := if 60 < w.length then ([], 2) else if F w = false then ([], 7) else (shr F w.length w, 0)
theorem shrink_word {Γr : Ctx} {A : Option Addr} {c : Nat} {w : List Int} (hw : SlOk (lk Γr) A c w) {fv : Value} {F : List Int → Bool} (hf : FailsOk Γr fv F) :
    Ret Try.prog 30 [.slice A w.length c, fv] Γr [] (fun v Γ => ∃ g B d, Γ = [g] ∧ SlOk (lk [g]) B d (wordR F w).1 ∧ v = .tuple #[.slice B (wordR F w).1.length d, .int .i64 (wordR F w).2]) := by
  generalize hR : (fun (v : Value) (Γ : Ctx) => ∃ g B d, _) = R
  refine ret_of_vc tr30 (Nat.le_of_ble_eq_true rfl) ?_
  obtain ⟨fg, c1, c2, rfl, hf⟩ := hf
  simp only [S30, S30_0, go_sem, Nat.reduceBEq, Nat.reduceAdd, Nat.reduceSub, Nat.reduceMul, Nat.reduceLeDiff, reduceCtorEq, ↓reduceIte, Int.reduceLT, Int.reduceLE, Int.reduceEq, Int.reduceNe]
  refine ⟨fun h => Up.one fun g _ => ?_, fun h60 => ?_⟩
  · subst hR
    have : wordR F w = ([], 2) := by unfold wordR; rw [if_pos (by omega)]
    rw [this]
    exact ⟨g, none, 0, rfl, SlOk.nil, rfl⟩
  have hno : ¬ 60 < w.length := by omega
  refine CallVC.read (shrink_without hw (by omega) _) ?_
  rintro v Γ' ⟨g, rfl, hB⟩
  rw [List.eraseIdx_of_length_le (Nat.le_refl _)] at hB
  obtain ⟨B, d, rfl, hs⟩ := hB.own (by omega)
  simp only [go_sem, Nat.reduceBEq, Nat.reduceAdd, Nat.reduceSub, Nat.reduceMul, Nat.reduceLeDiff, reduceCtorEq, ↓reduceIte, Int.reduceLT, Int.reduceLE, Int.reduceEq, Int.reduceNe]
  refine CallVC.read (hf _ (lk_r _ _) _ _ _ (hs.mono (lk_sub (by simp))) (by omega)) ?_
  rintro v Γ' ⟨rfl, rfl⟩
  simp only [go_sem, Nat.reduceBEq, Nat.reduceAdd, Nat.reduceSub, Nat.reduceMul, Nat.reduceLeDiff, reduceCtorEq, ↓reduceIte, Int.reduceLT, Int.reduceLE, Int.reduceEq, Int.reduceNe]
  refine ⟨fun h => Up.one fun g _ => ?_, fun hF => ?_⟩
  · subst hR
    have : wordR F w = ([], 7) := by unfold wordR; rw [if_neg hno, if_pos h]
    rw [this]
    exact ⟨g, none, 0, rfl, SlOk.nil, rfl⟩
  have hres : wordR F w = (shr F w.length w, 0) := by unfold wordR; rw [if_neg hno, if_neg (by simp [hF])]
  refine CallVC.read (shrink_without hw.r (by omega) _) ?_
  rintro v Γ' ⟨g2, rfl, hB2⟩
  rw [List.eraseIdx_of_length_le (Nat.le_refl _)] at hB2
  simp only [go_sem, Nat.reduceBEq, Nat.reduceAdd, Nat.reduceSub, Nat.reduceMul, Nat.reduceLeDiff, reduceCtorEq, ↓reduceIte, Int.reduceLT, Int.reduceLE, Int.reduceEq, Int.reduceNe]
  refine s_loop (fun f vs Γ => ∃ g, Γ = [g] ∧ ∃ (x : List Int) (i : Nat) (u : Value), vs = [.v true u, .v true (.int .i64 i)] ∧ x.length * 100 + 100 = f + i ∧ i ≤ x.length ∧ x.length ≤ 60 ∧ Bld g (lk []) 3 u x ∧ (∀ j, j < i → F (x.eraseIdx j) = false) ∧ shr F x.length x = shr F w.length w) (w.length * 100 + 100)
    (Up.sel [[0]] (by decide) fun _ _ => ⟨_, rfl, w, 0, _, rfl, by omega, by omega, by omega, hB2, by intro j h; omega, rfl⟩) ?_
  rintro f vs Γ ⟨g3, rfl, x, i, u, rfl, hfi, hix, hx60, hB3, hbef, hsh⟩
  obtain ⟨A3, c3, rfl, hs3⟩ := hB3.own (by omega)
  simp only [S30_1, go_sem, Nat.reduceBEq, Nat.reduceAdd, Nat.reduceSub, Nat.reduceMul, Nat.reduceLeDiff, reduceCtorEq, ↓reduceIte, Int.reduceLT, Int.reduceLE, Int.reduceEq, Int.reduceNe]
  refine ⟨fun hlt => ?_, fun hge => ?_⟩
  · have hi : i < x.length := by omega
    have hel : (x.eraseIdx i).length = x.length - 1 := by rw [List.length_eraseIdx, if_pos hi]
    refine CallVC.read (shrink_without (hs3.mono (lk_l _ _)) (by omega) i) ?_
    rintro v Γ' ⟨g4, rfl, hB4⟩
    obtain ⟨A4, c4, rfl, hs4⟩ := hB4.own (by omega)
    simp only [go_sem, Nat.reduceBEq, Nat.reduceAdd, Nat.reduceSub, Nat.reduceMul, Nat.reduceLeDiff, reduceCtorEq, ↓reduceIte, Int.reduceLT, Int.reduceLE, Int.reduceEq, Int.reduceNe]
    refine CallVC.read (shrink_without (hs4.mono (lk_sub (by simp))) (by omega) _) ?_
    rintro v Γ' ⟨g5, rfl, hB5⟩
    rw [List.eraseIdx_of_length_le (Nat.le_refl _)] at hB5
    obtain ⟨A5, c5, rfl, hs5⟩ := hB5.own (by omega)
    simp only [go_sem, Nat.reduceBEq, Nat.reduceAdd, Nat.reduceSub, Nat.reduceMul, Nat.reduceLeDiff, reduceCtorEq, ↓reduceIte, Int.reduceLT, Int.reduceLE, Int.reduceEq, Int.reduceNe]
    refine CallVC.read (hf _ (lk_r _ _) _ _ _ (hs5.mono (lk_sub (by simp))) (by omega)) ?_
    rintro v Γ' ⟨rfl, rfl⟩
    simp only [go_sem, Nat.reduceBEq, Nat.reduceAdd, Nat.reduceSub, Nat.reduceMul, Nat.reduceLeDiff, reduceCtorEq, ↓reduceIte, Int.reduceLT, Int.reduceLE, Int.reduceEq, Int.reduceNe]
    refine ⟨fun hF' => ?_, fun hF' => ?_⟩
    · exact ⟨(x.length - 1) * 100 + 100, by omega, Up.sel [[1]] (by decide) fun _ _ => ⟨_, rfl, x.eraseIdx i, 0, _, rfl, by omega, by omega, by omega, hB4, by intro j h; omega, by rw [← shr_step hi hF' hbef, hsh]⟩⟩
    · simp (disch := omega) only [wrap_id]
      refine ⟨f - 1, by omega, Up.sel [[2]] (by decide) fun _ _ => ⟨_, rfl, x, i + 1, _, rfl, by omega, by omega, by omega, hB3, fun j hj => ?_, hsh⟩⟩
      by_cases e : j = i
      · subst e; exact hF'
      · exact hbef j (by omega)
  · have hi : i = x.length := by omega
    have hend := shr_end (F := F) (w := x) (fun j hj => hbef j (by omega))
    refine Up.here ?_
    subst hR
    rw [hres, ← hsh, hend]
    exact ⟨_, A3, c3, rfl, hs3, rfl⟩

theorem ref_shrunk : ∀ (n : Nat) {Γr : Ctx} {A : Option Addr} {c : Nat} {w : List Int} (hw : SlOk (lk Γr) A c w) (hs : w.length ≤ 1000) (hn : w.length ≤ n) {fv : Value} {F : List Int → Bool} (hf : FailsOk Γr fv F),
    Ret Try.prog 37 [.slice A w.length c, fv] Γr [] (fun v Γ => ∃ g, Γ = [g] ∧ Bld g (lk []) 3 v (shr F w.length w)) := by
  intro n
  induction n with
  | zero =>
    intro Γr A c w hw hs hn fv F hf
    generalize hR : (fun (v : Value) (Γ : Ctx) => ∃ g, _) = R
    refine ret_of_vc tr37 (Nat.le_of_ble_eq_true rfl) ?_
    have hw0 : w = [] := List.eq_nil_of_length_eq_zero (by omega)
    subst hw0
    simp only [S37, S37_0, go_sem, Nat.reduceBEq, Nat.reduceAdd, Nat.reduceSub, Nat.reduceMul, Nat.reduceLeDiff, reduceCtorEq, ↓reduceIte, Int.reduceLT, Int.reduceLE, Int.reduceEq, Int.reduceNe]
    refine s_loop (fun f vs Γ => Γ = [] ∧ vs = [.v true (.int .i64 0)]) 0 (Up.here ⟨rfl, rfl⟩) ?_
    rintro f vs Γ ⟨rfl, rfl⟩
    simp only [S37_1, go_sem, Nat.reduceBEq, Nat.reduceAdd, Nat.reduceSub, Nat.reduceMul, Nat.reduceLeDiff, reduceCtorEq, ↓reduceIte, Int.reduceLT, Int.reduceLE, Int.reduceEq, Int.reduceNe]
    refine CallVC.read (slices_clone (xs := []) hw (by simp)) ?_
    rintro v Γ' ⟨g, rfl, hB⟩
    simp only [go_sem, Nat.reduceBEq, Nat.reduceAdd, Nat.reduceSub, Nat.reduceMul, Nat.reduceLeDiff, reduceCtorEq, ↓reduceIte, Int.reduceLT, Int.reduceLE, Int.reduceEq, Int.reduceNe]
    refine Up.here ?_
    subst hR
    exact ⟨_, rfl, hB⟩
  | succ n ih =>
    intro Γr A c w hw hs hn fv F hf
    generalize hR : (fun (v : Value) (Γ : Ctx) => ∃ g, _) = R
    refine ret_of_vc tr37 (Nat.le_of_ble_eq_true rfl) ?_
    obtain ⟨fg, c1, c2, hfv, hf'⟩ := id hf
    subst hfv
    simp only [S37, S37_0, go_sem, Nat.reduceBEq, Nat.reduceAdd, Nat.reduceSub, Nat.reduceMul, Nat.reduceLeDiff, reduceCtorEq, ↓reduceIte, Int.reduceLT, Int.reduceLE, Int.reduceEq, Int.reduceNe]
    refine s_loop (fun f vs Γ => ∃ i : Nat, vs = [.v true (.int .i64 i)] ∧ i + f = w.length ∧ (∀ j, j < i → F (w.eraseIdx j) = false)) w.length (Up.here ⟨0, rfl, by omega, by intro j h; omega⟩) ?_
    rintro f vs Γ ⟨i, rfl, hif, hbef⟩
    simp only [S37_1, go_sem, Nat.reduceBEq, Nat.reduceAdd, Nat.reduceSub, Nat.reduceMul, Nat.reduceLeDiff, reduceCtorEq, ↓reduceIte, Int.reduceLT, Int.reduceLE, Int.reduceEq, Int.reduceNe]
    refine ⟨fun hlt => ?_, fun hge => ?_⟩
    · have hi : i < w.length := by omega
      have hel : (w.eraseIdx i).length = w.length - 1 := by rw [List.length_eraseIdx, if_pos hi]
      refine s_hi i (by simp only [go_sem, Nat.reduceBEq, Nat.reduceAdd, Nat.reduceSub, Nat.reduceMul, Nat.reduceLeDiff, reduceCtorEq, ↓reduceIte, Int.reduceLT, Int.reduceLE, Int.reduceEq, Int.reduceNe]; exact ⟨_, rfl⟩) (by have := hw.cap; omega) ?_
      simp only [go_sem, Nat.reduceBEq, Nat.reduceAdd, Nat.reduceSub, Nat.reduceMul, Nat.reduceLeDiff, reduceCtorEq, ↓reduceIte, Int.reduceLT, Int.reduceLE, Int.reduceEq, Int.reduceNe]
      simp (disch := omega) only [wrap_id]
      refine s_lo (i + 1) (by simp only [go_sem, Nat.reduceBEq, Nat.reduceAdd, Nat.reduceSub, Nat.reduceMul, Nat.reduceLeDiff, reduceCtorEq, ↓reduceIte, Int.reduceLT, Int.reduceLE, Int.reduceEq, Int.reduceNe]; exact ⟨_, rfl⟩) (by omega) hw.cap ?_
      intro A2 hA2
      simp only [go_sem, Nat.reduceBEq, Nat.reduceAdd, Nat.reduceSub, Nat.reduceMul, Nat.reduceLeDiff, reduceCtorEq, ↓reduceIte, Int.reduceLT, Int.reduceLE, Int.reduceEq, Int.reduceNe]
      intro b
      have h1 := hw.slice (l := 0) (m := i) (by omega) (by omega)
      have h2 := hw.drop (l := i + 1) (by omega)
      rw [show (if c = i + 1 then A else A.map (·.add ((i + 1) * Rep.sz Int))) = A2 from hA2.symm] at h2
      have h1' : SlOk (lk Γr) A c (w.take i) := by
        rw [Nat.zero_mul, Nat.sub_zero, List.drop_zero] at h1
        cases A with
        | none => simpa using h1
        | some a => obtain ⟨b1, o1, e1, q1⟩ := hw.int hi; simp only [Option.some.injEq] at e1; subst e1; simpa [add_mk] using h1
      have hap : w.take i ++ w.drop (i + 1) = w.eraseIdx i := (List.eraseIdx_eq_take_drop_succ w i).symm
      have hl : SlOk (lk (V.one b (.cells #[.slice A i c, .slice A2 (w.length - (i + 1)) (c - (i + 1))] 29) :: Γ ++ Γr)) (some ⟨b, 0, none⟩) 2 [w.take i, w.drop (i + 1)] :=
        lit_rep2 (cs := [.slice A i c]) (ds := [.slice A2 (w.length - (i + 1)) (c - (i + 1))]) _ _ lk_head rfl
          ⟨A, c, by rw [List.length_take, Nat.min_eq_left (by omega)], h1'.mono (lk_sub (by simp; grind))⟩
          ⟨A2, c - (i + 1), by rw [List.length_drop], h2.mono (lk_sub (by simp; grind))⟩
      refine CallVC.read (slices_concat hl (by simp [hap, hel]; omega) (by simp)) ?_
      rintro v Γ' ⟨g, rfl, hB⟩
      simp only [List.flatten_cons, List.flatten_nil, List.append_nil, hap] at hB
      obtain ⟨A5, c5, rfl, hs5⟩ := hB.own (by omega)
      simp only [go_sem, Nat.reduceBEq, Nat.reduceAdd, Nat.reduceSub, Nat.reduceMul, Nat.reduceLeDiff, reduceCtorEq, ↓reduceIte, Int.reduceLT, Int.reduceLE, Int.reduceEq, Int.reduceNe]
      refine CallVC.read (hf' _ (lk_r _ _) _ _ _ (hs5.mono (lk_sub (by simp))) (by omega)) ?_
      rintro v Γ' ⟨rfl, rfl⟩
      simp only [go_sem, Nat.reduceBEq, Nat.reduceAdd, Nat.reduceSub, Nat.reduceMul, Nat.reduceLeDiff, reduceCtorEq, ↓reduceIte, Int.reduceLT, Int.reduceLE, Int.reduceEq, Int.reduceNe]
      refine ⟨fun hF => ?_, fun hF => ?_⟩
      · refine CallVC.read (ih (hs5.mono (lk_sub (by simp))) (by omega) (by omega) (hf.mono (lk_r _ _))) ?_
        rintro v Γ' ⟨g6, rfl, hB6⟩
        simp only [go_sem, Nat.reduceBEq, Nat.reduceAdd, Nat.reduceSub, Nat.reduceMul, Nat.reduceLeDiff, reduceCtorEq, ↓reduceIte, Int.reduceLT, Int.reduceLE, Int.reduceEq, Int.reduceNe]
        refine Up.sel [[0]] (by decide) fun _ _ => ?_
        subst hR
        exact ⟨_, rfl, by rw [shr_step hi hF hbef]; exact hB6⟩
      · simp (disch := omega) only [wrap_id]
        refine ⟨f - 1, by omega, Up.here ⟨i + 1, rfl, by omega, fun j hj => ?_⟩⟩
        by_cases e : j = i
        · subst e; exact hF
        · exact hbef j (by omega)
    · have hi : i = w.length := by omega
      refine CallVC.read (slices_clone hw.r (by omega)) ?_
      rintro v Γ' ⟨g, rfl, hB⟩
      simp only [go_sem, Nat.reduceBEq, Nat.reduceAdd, Nat.reduceSub, Nat.reduceMul, Nat.reduceLeDiff, reduceCtorEq, ↓reduceIte, Int.reduceLT, Int.reduceLE, Int.reduceEq, Int.reduceNe]
      refine Up.sel [[0]] (by decide) fun _ _ => ?_
      subst hR
      exact ⟨_, rfl, by rw [shr_end (fun j hj => hbef j (by omega))]; exact hB⟩
end Go.Proofs.Ytniobbepliknmaa.V
