/- parllaw5.ShrinkWords answers true; no condition. -/
import Derived.Test.YtniobbepliknmaaPord
import Derived.Test.YtniobbepliknmaaPlow
import Derived.Test.YtniobbepliknmaaS33
import Derived.Test.YtniobbepliknmaaS108
import Derived.Test.YtniobbepliknmaaS31
import Derived.Test.YtniobbepliknmaaS36
import Derived.Test.YtniobbepliknmaaS7
namespace Go.Proofs.Ytniobbepliknmaa.V
open Go
set_option linter.unusedVariables false
set_option linter.unusedSimpArgs false
attribute [local go_sem] e_seq e_region e_quiet e_join e_loop e_cond e_block e_exit e_ret e_skip e_fin e_kseq e_snrm e_sret e_sex e_bnrm e_bret e_bex e_rnrm e_rret e_res e_condC e_nil e_g e_mv g_mv e_pick g_pick pickC_eq e_ibin g_ibin ibinC_eq e_sbin g_sbin e_beq g_beq beqC_eq e_nilq g_nilq nilqC_sl nilqC_pt nilqC_mp e_un g_un unC_not unC_neg e_conv g_conv convC_eq e_fld g_fld fldC_ref fldC_ptr e_nilCheck g_nilCheck nilCheckC_ref nilCheckC_ptr nilCheckC_fun e_field g_field fieldC_eq e_len g_len lenC_sl lenC_str e_extract g_extract extractC_eq e_mkFunc e_build g_build e_idiv g_idiv idivC_eq e_ishift g_ishift ishiftC_eq e_idx g_idx e_idxA g_idxA e_load g_load loadC_ref loadC_ptr loadB_eq e_slc g_slc e_box boxC_loc boxC_esc e_alloc allocC_loc allocC_esc e_buildS e_store storeC_ref storeC_ptr storeB_eq e_append e_appz e_mk mkC_eq e_call callC_eq e_fn g_fn fnC_eq fnV_min' fnV_max' fnV_rune' e_q g_q e_a e_n g_call g_box g_alloc g_buildS g_store g_append g_mk g_a g_n g_dead e_dead e_callK e_drawn e_tree e_finJ e_tk e_tfin e_tno e_nbt_q e_nbt_qn e_nbt_a e_nbt_an e_nbt_fin e_early_nil e_early_t e_early_f e_nob_nil e_nob_none e_nob_some isBox_dead isBox_v isBox_ref e_dnil e_dk e_ek e_finB vcOps_vc1 e_dcons e_tq e_ekt e_tearly e_talt e_dearly look_nil look_c proj_nil proj_c looks_nil looks_c zip_nil zip_c val_tmp val_const val_func slv_v slv_box slv_ref slot_tmp slot_const slot_func slotL_v slotL_box slotL_ref put_some put_none updBox_c boxSet_box gd_eq slotVals_nil slotVals_c slotVals_b boxV_box boxOn_box slotsOn_nil slotsOn_c slotsOn_b resV_one resV_two vals_nil vals_c allOn_nil allOn_c partOn_nil partOn_c partVals_nil partVals_c fits_nil fits_c fillL_nil fillL_c mkv_one mkv_agg cellsV_agg cellsV_int cellsV_bool cellsV_slice cellsV_string cellsV_pointer cellsV_func cellsV_nilf cellsV_map one'_nil one'_c oc_int oc_bool oc_slice oc_string oc_pointer oc_func oc_nilf oc_map setC_eq iv_add iv_sub iv_mul iv_eql iv_neq iv_lss iv_leq iv_gtr iv_geq iok_add iok_sub iok_mul iok_eql iok_neq iok_lss iok_leq iok_gtr iok_geq pickV_bool args0_nil args0_c bnd_none bnd_some imp_bt imp_bf imp_ebt imp_ebf imp_eb1 imp_np imp_pp beq_tt beq_tf beq_ft beq_ff cond_or cond_and e_round e_meet Int.le_refl Int.toNat_zero decide_true decide_false Bool.or_false Bool.false_or Bool.true_or Bool.or_true Bool.and_false Bool.false_and Bool.bne_false Bool.bne_true beq_iff_eq Int.cast_ofNat_Int not_false_eq_true not_true_eq_false false_and and_false false_implies true_implies true_and and_true Bool.true_and Bool.and_true Bool.not_true Bool.not_false forall_const implies_true List.take_zero List.drop_zero List.take_succ_cons List.drop_succ_cons List.take_nil List.drop_nil List.length_cons List.length_nil List.nil_append List.append_nil List.cons_append Int.toNat_natCast decide_eq_true_eq decide_eq_false_iff_not cond_true cond_false and_self List.getElem?_cons_zero List.getElem?_cons_succ List.set_cons_zero List.set_cons_succ Option.some.injEq exists_eq_left' Nat.zero_add Nat.add_zero Nat.mul_one imp_self true_or or_true or_false false_or Bool.or_eq_true Bool.or_eq_false_iff Bool.and_eq_true Bool.and_eq_false_iff Bool.not_eq_true' Bool.not_eq_false'

def hardS (w : List Int) : Nat → Int
  | 0 => 0
  | k + 1 => IntKind.i64.wrap (hardS w k + IntKind.i64.wrap (w.getD k 0 * IntKind.i64.wrap (1 + Int.tmod k 2)))

/-- what the conditions of ShrinkWords say -/
def hardF (x y : Int) (w : List Int) : Bool :=
  decide ((0 : Int) < (w.length : Int)) && decide (Int.tmod (IntKind.i64.wrap (hardS w w.length + IntKind.i64.wrap (w.length * x))) 3 = Int.tmod (IntKind.i64.wrap (Int.tmod y 3 + 3)) 3)
theorem rem64 (x y : Int) : idivV .rem .i64 x y = .int .i64 (Int.tmod x y) := rfl
theorem hard1 {Γr : Ctx} {A : Option Addr} {c : Nat} {w : List Int} (hw : SlOk (lk Γr) A c w) {b1 b2 : Nat} {x y : Int} (h1 : lk Γr b1 (.cells [.int .i64 x].toArray 3 (0, 0))) (h2 : lk Γr b2 (.cells [.int .i64 y].toArray 3 (0, 0))) :
    Ret Try.prog 108 [.slice A w.length c, .pointer (some ⟨b1, 0, none⟩), .pointer (some ⟨b2, 0, none⟩)] Γr [] (fun v Γ => Γ = [] ∧ v = .bool (hardF x y w)) := by
  generalize hR : (fun (v : Value) (Γ : Ctx) => Γ = [] ∧ _) = R
  refine ret_of_vc tr108 (Nat.le_of_ble_eq_true rfl) ?_
  have hs := hw.short
  simp only [S108, S108_0, go_sem, Nat.reduceBEq, Nat.reduceAdd, Nat.reduceSub, Nat.reduceMul, Nat.reduceLeDiff, reduceCtorEq, ↓reduceIte, Int.reduceLT, Int.reduceLE, Int.reduceEq, Int.reduceNe]
  refine s_loop (fun f vs Γ => Γ = [] ∧ ∃ k : Nat, vs = [.v true (.int .i64 (hardS w k)), .v true (.int .i64 k)] ∧ k + f = w.length) w.length (Up.here ⟨rfl, 0, rfl, by omega⟩) ?_
  rintro f vs Γ ⟨rfl, k, rfl, hkf⟩
  simp only [S108_1, go_sem, Nat.reduceBEq, Nat.reduceAdd, Nat.reduceSub, Nat.reduceMul, Nat.reduceLeDiff, reduceCtorEq, ↓reduceIte, Int.reduceLT, Int.reduceLE, Int.reduceEq, Int.reduceNe]
  refine ⟨fun hlt => ?_, fun hge => ?_⟩
  · have hk : k < w.length := by omega
    obtain ⟨b, o, hA, hc⟩ := hw.int hk
    refine s_idx hA (by omega) (by omega) ?_
    simp only [go_sem, Nat.reduceBEq, Nat.reduceAdd, Nat.reduceSub, Nat.reduceMul, Nat.reduceLeDiff, reduceCtorEq, ↓reduceIte, Int.reduceLT, Int.reduceLE, Int.reduceEq, Int.reduceNe]
    refine s_ld0 (hc _ (Mem.le.refl _)) (by simp) (by simp) ?_
    simp only [go_sem, Nat.reduceBEq, Nat.reduceAdd, Nat.reduceSub, Nat.reduceMul, Nat.reduceLeDiff, reduceCtorEq, ↓reduceIte, Int.reduceLT, Int.reduceLE, Int.reduceEq, Int.reduceNe]
    rw [rem64]
    simp only [go_sem, Nat.reduceBEq, Nat.reduceAdd, Nat.reduceSub, Nat.reduceMul, Nat.reduceLeDiff, reduceCtorEq, ↓reduceIte, Int.reduceLT, Int.reduceLE, Int.reduceEq, Int.reduceNe]
    rw [wrap_id (x := (k : Int) + 1) (by omega) (by omega)]
    refine ⟨f - 1, by omega, Up.here ⟨rfl, k + 1, ?_, by omega⟩⟩
    rw [hardS, show w.getD k 0 = w[k] by simp [hk]]
    rfl
  · have hk : k = w.length := by omega
    subst hk
    refine s_ldg0 (by simp) (fun _ => cells_lk h1) (by simp) (by simp) ?_
    simp only [go_sem, Nat.reduceBEq, Nat.reduceAdd, Nat.reduceSub, Nat.reduceMul, Nat.reduceLeDiff, reduceCtorEq, ↓reduceIte, Int.reduceLT, Int.reduceLE, Int.reduceEq, Int.reduceNe]
    rw [rem64]
    refine s_ldg0 (by simp) (fun _ => cells_lk h2) (by simp) (by simp) ?_
    simp only [go_sem, Nat.reduceBEq, Nat.reduceAdd, Nat.reduceSub, Nat.reduceMul, Nat.reduceLeDiff, reduceCtorEq, ↓reduceIte, Int.reduceLT, Int.reduceLE, Int.reduceEq, Int.reduceNe]
    rw [rem64]
    simp only [go_sem, Nat.reduceBEq, Nat.reduceAdd, Nat.reduceSub, Nat.reduceMul, Nat.reduceLeDiff, reduceCtorEq, ↓reduceIte, Int.reduceLT, Int.reduceLE, Int.reduceEq, Int.reduceNe]
    rw [rem64]
    simp only [go_sem, Nat.reduceBEq, Nat.reduceAdd, Nat.reduceSub, Nat.reduceMul, Nat.reduceLeDiff, reduceCtorEq, ↓reduceIte, Int.reduceLT, Int.reduceLE, Int.reduceEq, Int.reduceNe]
    refine Up.here ?_
    subst hR
    exact ⟨rfl, rfl⟩
theorem hard_ {Γr : Ctx} (x y : Int) :
    Ret Try.prog 33 [.int .i64 x, .int .i64 y] Γr [] (fun v Γ => ∃ g, Γ = [g] ∧ FailsOk [g] v (hardF x y)) := by
  generalize hR : (fun (v : Value) (Γ : Ctx) => ∃ g, _) = R
  refine ret_of_vc tr33 (Nat.le_of_ble_eq_true rfl) ?_
  simp only [S33, S33_0, go_sem, Nat.reduceBEq, Nat.reduceAdd, Nat.reduceSub, Nat.reduceMul, Nat.reduceLeDiff, reduceCtorEq, ↓reduceIte, Int.reduceLT, Int.reduceLE, Int.reduceEq, Int.reduceNe]
  intro b b'
  refine Up.one fun g hg => ?_
  subst hR
  refine ⟨g, rfl, 108, #[], _, rfl, fun Γ hle A c w hw hs => ?_⟩
  exact hard1 hw (hle _ _ (hg _ _ (lk_tail lk_head))) (hle _ _ (hg _ _ lk_head))

theorem sw1 {Γr : Ctx} : FailsOk Γr (.func (.func 31) #[] #[]) (fun w => decide ((2 : Int) ∈ w)) := by
  refine ⟨31, #[], #[], rfl, fun Γ hle A c w hw hs => ?_⟩
  generalize hR : (fun (v : Value) (Γ : Ctx) => Γ = [] ∧ _) = R
  refine ret_of_vc tr31 (Nat.le_of_ble_eq_true rfl) ?_
  simp only [S31, S31_0, go_sem, Nat.reduceBEq, Nat.reduceAdd, Nat.reduceSub, Nat.reduceMul, Nat.reduceLeDiff, reduceCtorEq, ↓reduceIte, Int.reduceLT, Int.reduceLE, Int.reduceEq, Int.reduceNe]
  refine CallVC.read (slices_contains hw 2) ?_
  rintro v Γ' ⟨rfl, rfl⟩
  simp only [go_sem, Nat.reduceBEq, Nat.reduceAdd, Nat.reduceSub, Nat.reduceMul, Nat.reduceLeDiff, reduceCtorEq, ↓reduceIte, Int.reduceLT, Int.reduceLE, Int.reduceEq, Int.reduceNe]
  refine Up.here ?_
  subst hR
  exact ⟨rfl, rfl⟩
theorem sw2 {Γr : Ctx} : PredOk Γr (.func (.func 36) #[] #[]) (fun x => decide (x < 0 ∨ 7 < x)) := by
  refine ⟨36, #[], #[], rfl, fun Γ x hle => ?_⟩
  generalize hR : (fun (v : Value) (Γ : Ctx) => Γ = [] ∧ _) = R
  refine ret_of_vc tr36 (Nat.le_of_ble_eq_true rfl) ?_
  simp only [S36, S36_0, go_sem, Nat.reduceBEq, Nat.reduceAdd, Nat.reduceSub, Nat.reduceMul, Nat.reduceLeDiff, reduceCtorEq, ↓reduceIte, Int.reduceLT, Int.reduceLE, Int.reduceEq, Int.reduceNe]
  refine Up.here ?_
  subst hR
  exact ⟨rfl, by simp⟩
theorem bad_small {w : List Int} : (w.any fun x => decide (x < 0 ∨ 7 < x)) = decide (¬ small w) := by
  rw [Bool.eq_iff_iff]
  simp only [List.any_eq_true, decide_eq_true_eq]
  constructor
  · rintro ⟨x, hx, h⟩ hs
    obtain ⟨j, hj, rfl⟩ := List.getElem_of_mem hx
    have := hs j hj
    omega
  · intro h
    apply Classical.byContradiction
    intro hn
    exact h fun j hj => by
      have : ¬ (w[j] < 0 ∨ 7 < w[j]) := fun q => hn ⟨_, List.getElem_mem hj, q⟩
      omega
def bitAnd (a b : Int) : Int := IntKind.i64.wrap (BitVec.ofInt IntKind.i64.bits a &&& BitVec.ofInt IntKind.i64.bits b).toNat
theorem and64 (a b : Int) : fnV (.bits .and) [.int .i64 a, .int .i64 b] = some (.int .i64 (bitAnd a b)) := rfl
theorem shr_len (F : List Int → Bool) : ∀ (n : Nat) (w : List Int), (shr F n w).length ≤ w.length
  | 0, w => Nat.le_refl _
  | n + 1, w => by
    simp only [shr]
    split
    · exact Nat.le_trans (shr_len F n _) (List.length_eraseIdx_le ..)
    · exact Nat.le_refl _
theorem low_len (F : List Int → Bool) : ∀ (n : Nat) (w : List Int), (low F n w).length ≤ w.length
  | 0, w => Nat.le_refl _
  | n + 1, w => by
    simp only [low]
    split
    · exact Nat.le_trans (low_len F n _) (by simp)
    · exact Nat.le_refl _
theorem law_shrink {Γr : Ctx} {A : Option Addr} {c : Nat} {w : List Int} (hw : SlOk (lk Γr) A c w) (a b : Int) :
    Ret Try.prog 7 [.slice A w.length c, .int .i64 a, .int .i64 b] Γr [] (fun v Γ => Γ = [] ∧ v = .bool true) := by
  generalize hR : (fun (v : Value) (Γ : Ctx) => Γ = [] ∧ _) = R
  refine ret_of_vc tr7 (Nat.le_of_ble_eq_true rfl) ?_
  have hwl := hw.short
  simp only [S7, S7_0, go_sem, Nat.reduceBEq, Nat.reduceAdd, Nat.reduceSub, Nat.reduceMul, Nat.reduceLeDiff, reduceCtorEq, ↓reduceIte, Int.reduceLT, Int.reduceLE, Int.reduceEq, Int.reduceNe]
  intro b0
  refine CallVC.read (shrink_word (w := [1, 2, 3]) (lit_slok [1, 2, 3] rfl (by simp)) sw1) ?_
  rintro v Γ' ⟨g, B, d, rfl, hs, rfl⟩
  have e1 : wordR (fun w => decide ((2 : Int) ∈ w)) [1, 2, 3] = ([2], 0) := by decide
  rw [e1] at hs ⊢
  simp only [go_sem, Nat.reduceBEq, Nat.reduceAdd, Nat.reduceSub, Nat.reduceMul, Nat.reduceLeDiff, reduceCtorEq, ↓reduceIte, Int.reduceLT, Int.reduceLE, Int.reduceEq, Int.reduceNe]
  intro b2
  refine CallVC.read (slices_equal (xs := [2]) (ys := [2]) (hs.mono (lk_sub (by simp))) (lit_slok [2] rfl (by simp))) ?_
  rintro v Γ' ⟨rfl, rfl⟩
  simp only [go_sem, Nat.reduceBEq, Nat.reduceAdd, Nat.reduceSub, Nat.reduceMul, Nat.reduceLeDiff, reduceCtorEq, ↓reduceIte, Int.reduceLT, Int.reduceLE, Int.reduceEq, Int.reduceNe]
  rw [and64]
  generalize bitAnd a 7 = a'
  simp only [go_sem, Nat.reduceBEq, Nat.reduceAdd, Nat.reduceSub, Nat.reduceMul, Nat.reduceLeDiff, reduceCtorEq, ↓reduceIte, Int.reduceLT, Int.reduceLE, Int.reduceEq, Int.reduceNe]
  rw [and64]
  generalize bitAnd b 7 = b'
  simp only [go_sem, Nat.reduceBEq, Nat.reduceAdd, Nat.reduceSub, Nat.reduceMul, Nat.reduceLeDiff, reduceCtorEq, ↓reduceIte, Int.reduceLT, Int.reduceLE, Int.reduceEq, Int.reduceNe]
  refine CallVC.read (hard_ _ _) ?_
  rintro v Γ' ⟨g2, rfl, hf⟩
  generalize hardF a' b' = F at hf
  obtain ⟨fg, c1, c2, hfv, hf'⟩ := id hf
  subst hfv
  simp -implicitDefEqProofs only [go_sem, Nat.reduceBEq, Nat.reduceAdd, Nat.reduceSub, Nat.reduceMul, Nat.reduceLeDiff, reduceCtorEq, ↓reduceIte, Int.reduceLT, Int.reduceLE, Int.reduceEq, Int.reduceNe]
  refine CallVC.read (shrink_word hw.r (hf.mono (lk_sub (by simp)))) ?_
  rintro v Γ' ⟨g3, B3, d3, rfl, hs3, rfl⟩
  simp -implicitDefEqProofs only [go_sem, Nat.reduceBEq, Nat.reduceAdd, Nat.reduceSub, Nat.reduceMul, Nat.reduceLeDiff, reduceCtorEq, ↓reduceIte, Int.reduceLT, Int.reduceLE, Int.reduceEq, Int.reduceNe]
  refine CallVC.read (shrink_lower hw.r (hf.mono (lk_sub (by simp)))) ?_
  rintro v Γ' ⟨g4, B4, d4, rfl, hs4, rfl⟩
  by_cases h60 : 60 < w.length
  · have e1 : wordR F w = ([], 2) := by unfold wordR; rw [if_pos h60]
    have e2 : lowR F w = ([], 2) := by unfold lowR; rw [if_pos h60]
    rw [e1, e2]
    simp -implicitDefEqProofs only [go_sem, Nat.reduceBEq, Nat.reduceAdd, Nat.reduceSub, Nat.reduceMul, Nat.reduceLeDiff, reduceCtorEq, ↓reduceIte, Int.reduceLT, Int.reduceLE, Int.reduceEq, Int.reduceNe]
    refine ⟨fun _ => Up.to [] (Ent.nil _) ?_, fun h => by omega⟩
    subst hR
    exact ⟨rfl, rfl⟩
  by_cases hsm : small w
  · by_cases hFw : F w = false
    · have e1 : wordR F w = ([], 7) := by unfold wordR; rw [if_neg h60, if_pos hFw]
      have e2 : lowR F w = ([], 7) := by unfold lowR; rw [if_neg h60, if_neg (by simp [hsm]), if_pos hFw]
      rw [e1, e2]
      simp -implicitDefEqProofs only [go_sem, Nat.reduceBEq, Nat.reduceAdd, Nat.reduceSub, Nat.reduceMul, Nat.reduceLeDiff, reduceCtorEq, ↓reduceIte, Int.reduceLT, Int.reduceLE, Int.reduceEq, Int.reduceNe]
      refine ⟨fun h => by omega, fun _ => ?_⟩
      refine CallVC.read (slices_containsFunc hw.r sw2) ?_
      rintro v Γ' ⟨rfl, rfl⟩
      rw [bad_small]
      simp only [hsm, not_true, decide_false]
      simp -implicitDefEqProofs only [go_sem, Nat.reduceBEq, Nat.reduceAdd, Nat.reduceSub, Nat.reduceMul, Nat.reduceLeDiff, reduceCtorEq, ↓reduceIte, Int.reduceLT, Int.reduceLE, Int.reduceEq, Int.reduceNe]
      refine CallVC.read (hf' _ (lk_sub (by simp)) _ _ _ hw.r (by omega)) ?_
      rintro v Γ' ⟨rfl, rfl⟩
      rw [hFw]
      simp -implicitDefEqProofs only [go_sem, Nat.reduceBEq, Nat.reduceAdd, Nat.reduceSub, Nat.reduceMul, Nat.reduceLeDiff, reduceCtorEq, ↓reduceIte, Int.reduceLT, Int.reduceLE, Int.reduceEq, Int.reduceNe]
      refine Up.to [] (Ent.nil _) ?_
      subst hR
      exact ⟨rfl, rfl⟩
    · have hFw : F w = true := by simpa using hFw
      have e1 : wordR F w = (shr F w.length w, 0) := by unfold wordR; rw [if_neg h60, if_neg (by simp [hFw])]
      have e2 : lowR F w = (low F (wsum w) w, 0) := by unfold lowR; rw [if_neg h60, if_neg (by simp [hsm]), if_neg (by simp [hFw])]
      rw [e1] at hs3 ⊢
      rw [e2] at hs4 ⊢
      simp -implicitDefEqProofs only [go_sem, Nat.reduceBEq, Nat.reduceAdd, Nat.reduceSub, Nat.reduceMul, Nat.reduceLeDiff, reduceCtorEq, ↓reduceIte, Int.reduceLT, Int.reduceLE, Int.reduceEq, Int.reduceNe]
      refine ⟨fun h => by omega, fun _ => ?_⟩
      refine CallVC.read (slices_containsFunc hw.r sw2) ?_
      rintro v Γ' ⟨rfl, rfl⟩
      rw [bad_small]
      simp only [hsm, not_true, decide_false]
      simp -implicitDefEqProofs only [go_sem, Nat.reduceBEq, Nat.reduceAdd, Nat.reduceSub, Nat.reduceMul, Nat.reduceLeDiff, reduceCtorEq, ↓reduceIte, Int.reduceLT, Int.reduceLE, Int.reduceEq, Int.reduceNe]
      refine CallVC.read (hf' _ (lk_sub (by simp)) _ _ _ hw.r (by omega)) ?_
      rintro v Γ' ⟨rfl, rfl⟩
      rw [hFw]
      simp -implicitDefEqProofs only [go_sem, Nat.reduceBEq, Nat.reduceAdd, Nat.reduceSub, Nat.reduceMul, Nat.reduceLeDiff, reduceCtorEq, ↓reduceIte, Int.reduceLT, Int.reduceLE, Int.reduceEq, Int.reduceNe]
      refine CallVC.read (ref_shrunk _ hw.r (by omega) (Nat.le_refl _) (hf.mono (lk_sub (by simp)))) ?_
      rintro v Γ' ⟨g5, rfl, hB5⟩
      have hl5 : (shr F w.length w).length ≤ 60 := by have := shr_len F w.length w; omega
      obtain ⟨A6, c6, rfl, hs6⟩ := hB5.own (by omega)
      simp -implicitDefEqProofs only [go_sem, Nat.reduceBEq, Nat.reduceAdd, Nat.reduceSub, Nat.reduceMul, Nat.reduceLeDiff, reduceCtorEq, ↓reduceIte, Int.reduceLT, Int.reduceLE, Int.reduceEq, Int.reduceNe]
      refine CallVC.read (slices_equal (hs3.mono (lk_sub (by simp))) (hs6.mono (lk_sub (by simp)))) ?_
      rintro v Γ' ⟨rfl, rfl⟩
      simp only [decide_true]
      simp -implicitDefEqProofs only [go_sem, Nat.reduceBEq, Nat.reduceAdd, Nat.reduceSub, Nat.reduceMul, Nat.reduceLeDiff, reduceCtorEq, ↓reduceIte, Int.reduceLT, Int.reduceLE, Int.reduceEq, Int.reduceNe]
      refine CallVC.read (ref_lowered _ hw.r (by omega) hsm (Nat.le_refl _) (hf.mono (lk_sub (by simp)))) ?_
      rintro v Γ' ⟨g7, rfl, hB7⟩
      have hl7 : (low F (wsum w) w).length ≤ 60 := by have := low_len F (wsum w) w; omega
      obtain ⟨A8, c8, rfl, hs8⟩ := hB7.own (by omega)
      simp -implicitDefEqProofs only [go_sem, Nat.reduceBEq, Nat.reduceAdd, Nat.reduceSub, Nat.reduceMul, Nat.reduceLeDiff, reduceCtorEq, ↓reduceIte, Int.reduceLT, Int.reduceLE, Int.reduceEq, Int.reduceNe]
      refine CallVC.read (slices_equal (hs4.mono (lk_sub (by simp))) (hs8.mono (lk_sub (by simp)))) ?_
      rintro v Γ' ⟨rfl, rfl⟩
      simp only [decide_true]
      simp -implicitDefEqProofs only [go_sem, Nat.reduceBEq, Nat.reduceAdd, Nat.reduceSub, Nat.reduceMul, Nat.reduceLeDiff, reduceCtorEq, ↓reduceIte, Int.reduceLT, Int.reduceLE, Int.reduceEq, Int.reduceNe]
      refine Up.to [] (Ent.nil _) ?_
      subst hR
      exact ⟨rfl, rfl⟩
  · have e2 : lowR F w = ([], 1) := by unfold lowR; rw [if_neg h60, if_pos hsm]
    rw [e2]
    by_cases hFw : F w = false
    · have e1 : wordR F w = ([], 7) := by unfold wordR; rw [if_neg h60, if_pos hFw]
      rw [e1]
      simp -implicitDefEqProofs only [go_sem, Nat.reduceBEq, Nat.reduceAdd, Nat.reduceSub, Nat.reduceMul, Nat.reduceLeDiff, reduceCtorEq, ↓reduceIte, Int.reduceLT, Int.reduceLE, Int.reduceEq, Int.reduceNe]
      refine ⟨fun h => by omega, fun _ => ?_⟩
      refine CallVC.read (slices_containsFunc hw.r sw2) ?_
      rintro v Γ' ⟨rfl, rfl⟩
      rw [bad_small]
      simp only [hsm, not_false_eq_true, decide_true]
      simp -implicitDefEqProofs only [go_sem, Nat.reduceBEq, Nat.reduceAdd, Nat.reduceSub, Nat.reduceMul, Nat.reduceLeDiff, reduceCtorEq, ↓reduceIte, Int.reduceLT, Int.reduceLE, Int.reduceEq, Int.reduceNe]
      refine CallVC.read (hf' _ (lk_sub (by simp)) _ _ _ hw.r (by omega)) ?_
      rintro v Γ' ⟨rfl, rfl⟩
      rw [hFw]
      simp -implicitDefEqProofs only [go_sem, Nat.reduceBEq, Nat.reduceAdd, Nat.reduceSub, Nat.reduceMul, Nat.reduceLeDiff, reduceCtorEq, ↓reduceIte, Int.reduceLT, Int.reduceLE, Int.reduceEq, Int.reduceNe]
      refine Up.to [] (Ent.nil _) ?_
      subst hR
      exact ⟨rfl, rfl⟩
    · have hFw : F w = true := by simpa using hFw
      have e1 : wordR F w = (shr F w.length w, 0) := by unfold wordR; rw [if_neg h60, if_neg (by simp [hFw])]
      rw [e1] at hs3 ⊢
      simp -implicitDefEqProofs only [go_sem, Nat.reduceBEq, Nat.reduceAdd, Nat.reduceSub, Nat.reduceMul, Nat.reduceLeDiff, reduceCtorEq, ↓reduceIte, Int.reduceLT, Int.reduceLE, Int.reduceEq, Int.reduceNe]
      refine ⟨fun h => by omega, fun _ => ?_⟩
      refine CallVC.read (slices_containsFunc hw.r sw2) ?_
      rintro v Γ' ⟨rfl, rfl⟩
      rw [bad_small]
      simp only [hsm, not_false_eq_true, decide_true]
      simp -implicitDefEqProofs only [go_sem, Nat.reduceBEq, Nat.reduceAdd, Nat.reduceSub, Nat.reduceMul, Nat.reduceLeDiff, reduceCtorEq, ↓reduceIte, Int.reduceLT, Int.reduceLE, Int.reduceEq, Int.reduceNe]
      refine CallVC.read (hf' _ (lk_sub (by simp)) _ _ _ hw.r (by omega)) ?_
      rintro v Γ' ⟨rfl, rfl⟩
      rw [hFw]
      simp -implicitDefEqProofs only [go_sem, Nat.reduceBEq, Nat.reduceAdd, Nat.reduceSub, Nat.reduceMul, Nat.reduceLeDiff, reduceCtorEq, ↓reduceIte, Int.reduceLT, Int.reduceLE, Int.reduceEq, Int.reduceNe]
      refine CallVC.read (ref_shrunk _ hw.r (by omega) (Nat.le_refl _) (hf.mono (lk_sub (by simp)))) ?_
      rintro v Γ' ⟨g5, rfl, hB5⟩
      have hl5 : (shr F w.length w).length ≤ 60 := by have := shr_len F w.length w; omega
      obtain ⟨A6, c6, rfl, hs6⟩ := hB5.own (by omega)
      simp -implicitDefEqProofs only [go_sem, Nat.reduceBEq, Nat.reduceAdd, Nat.reduceSub, Nat.reduceMul, Nat.reduceLeDiff, reduceCtorEq, ↓reduceIte, Int.reduceLT, Int.reduceLE, Int.reduceEq, Int.reduceNe]
      refine CallVC.read (slices_equal (hs3.mono (lk_sub (by simp))) (hs6.mono (lk_sub (by simp)))) ?_
      rintro v Γ' ⟨rfl, rfl⟩
      simp only [decide_true]
      simp -implicitDefEqProofs only [go_sem, Nat.reduceBEq, Nat.reduceAdd, Nat.reduceSub, Nat.reduceMul, Nat.reduceLeDiff, reduceCtorEq, ↓reduceIte, Int.reduceLT, Int.reduceLE, Int.reduceEq, Int.reduceNe]
      refine ⟨.bool true, .bool true, Up.to [] (Ent.nil _) ?_⟩
      subst hR
      exact ⟨rfl, rfl⟩
end Go.Proofs.Ytniobbepliknmaa.V
