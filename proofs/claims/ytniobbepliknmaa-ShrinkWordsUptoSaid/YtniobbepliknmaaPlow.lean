/- Lower words: shrink.Lower and parlref5.Lowered walked; no condition. -/
import Derived.Test.YtniobbepliknmaaPshr
namespace Go.Proofs.Ytniobbepliknmaa.V
open Go
set_option linter.unusedVariables false
set_option linter.unusedSimpArgs false
attribute [local go_sem] e_seq e_region e_quiet e_join e_loop e_cond e_block e_exit e_ret e_skip e_fin e_kseq e_snrm e_sret e_sex e_bnrm e_bret e_bex e_rnrm e_rret e_res e_condC e_nil e_g e_mv g_mv e_pick g_pick pickC_eq e_ibin g_ibin ibinC_eq e_sbin g_sbin e_beq g_beq beqC_eq e_nilq g_nilq nilqC_sl nilqC_pt nilqC_mp e_un g_un unC_not unC_neg e_conv g_conv convC_eq e_fld g_fld fldC_ref fldC_ptr e_nilCheck g_nilCheck nilCheckC_ref nilCheckC_ptr nilCheckC_fun e_field g_field fieldC_eq e_len g_len lenC_sl lenC_str e_extract g_extract extractC_eq e_mkFunc e_build g_build e_idiv g_idiv idivC_eq e_ishift g_ishift ishiftC_eq e_idx g_idx e_idxA g_idxA e_load g_load loadC_ref loadC_ptr loadB_eq e_slc g_slc e_box boxC_loc boxC_esc e_alloc allocC_loc allocC_esc e_buildS e_store storeC_ref storeC_ptr storeB_eq e_append e_appz e_mk mkC_eq e_call callC_eq e_fn g_fn fnC_eq fnV_min' fnV_max' fnV_rune' e_q g_q e_a e_n g_call g_box g_alloc g_buildS g_store g_append g_mk g_a g_n g_dead e_dead e_callK e_drawn e_tree e_finJ e_tk e_tfin e_tno e_nbt_q e_nbt_qn e_nbt_a e_nbt_an e_nbt_fin e_early_nil e_early_t e_early_f e_nob_nil e_nob_none e_nob_some isBox_dead isBox_v isBox_ref e_dnil e_dk e_ek e_finB vcOps_vc1 e_dcons e_tq e_ekt e_tearly e_talt e_dearly look_nil look_c proj_nil proj_c looks_nil looks_c zip_nil zip_c val_tmp val_const val_func slv_v slv_box slv_ref slot_tmp slot_const slot_func slotL_v slotL_box slotL_ref put_some put_none updBox_c boxSet_box gd_eq slotVals_nil slotVals_c slotVals_b boxV_box boxOn_box slotsOn_nil slotsOn_c slotsOn_b resV_one resV_two vals_nil vals_c allOn_nil allOn_c partOn_nil partOn_c partVals_nil partVals_c fits_nil fits_c fillL_nil fillL_c mkv_one mkv_agg cellsV_agg cellsV_int cellsV_bool cellsV_slice cellsV_string cellsV_pointer cellsV_func cellsV_nilf cellsV_map one'_nil one'_c oc_int oc_bool oc_slice oc_string oc_pointer oc_func oc_nilf oc_map setC_eq iv_add iv_sub iv_mul iv_eql iv_neq iv_lss iv_leq iv_gtr iv_geq iok_add iok_sub iok_mul iok_eql iok_neq iok_lss iok_leq iok_gtr iok_geq pickV_bool args0_nil args0_c bnd_none bnd_some imp_bt imp_bf imp_ebt imp_ebf imp_eb1 imp_np imp_pp beq_tt beq_tf beq_ft beq_ff cond_or cond_and e_round e_meet Int.le_refl Int.toNat_zero decide_true decide_false Bool.or_false Bool.false_or Bool.true_or Bool.or_true Bool.and_false Bool.false_and Bool.bne_false Bool.bne_true beq_iff_eq Int.cast_ofNat_Int not_false_eq_true not_true_eq_false false_and and_false false_implies true_implies true_and and_true Bool.true_and Bool.and_true Bool.not_true Bool.not_false forall_const implies_true List.take_zero List.drop_zero List.take_succ_cons List.drop_succ_cons List.take_nil List.drop_nil List.length_cons List.length_nil List.nil_append List.append_nil List.cons_append Int.toNat_natCast decide_eq_true_eq decide_eq_false_iff_not cond_true cond_false and_self List.getElem?_cons_zero List.getElem?_cons_succ List.set_cons_zero List.set_cons_succ Option.some.injEq exists_eq_left' Nat.zero_add Nat.add_zero Nat.mul_one imp_self true_or or_true or_false false_or Bool.or_eq_true Bool.or_eq_false_iff Bool.and_eq_true Bool.and_eq_false_iff Bool.not_eq_true' Bool.not_eq_false'

/-- all are small terminals -/
def small (w : List Int) : Prop := ∀ (j : Nat) (h : j < w.length), 0 ≤ w[j] ∧ w[j] < 8
instance (w : List Int) : Decidable (small w) := by unfold small; infer_instance
theorem small.set {w : List Int} (h : small w) {i x : Nat} (hi : i < w.length) (hx : (x : Int) < 8) : small (w.set i x) := by
  intro j hj
  have hj' : j < w.length := by simpa using hj
  rw [List.getElem_set]
  split
  · omega
  · exact h j hj'
theorem small.getD {w : List Int} (h : small w) {i : Nat} (hi : i < w.length) : w.getD i 0 = w[i] ∧ (w.getD i 0).toNat = w[i] ∧ w[i] < 8 ∧ 0 ≤ w[i] := by
  have := h i hi
  have e : w.getD i 0 = w[i] := by simp [hi]
  exact ⟨e, by rw [e]; omega, this.2, this.1⟩
theorem wsum_small : ∀ {w : List Int}, small w → wsum w ≤ 7 * w.length
  | [], _ => by simp [wsum]
  | a :: w, h => by
    have h1 := h 0 (by simp)
    have h2 := wsum_small (w := w) fun j hj => h (j + 1) (by simpa using hj)
    simp [wsum] at h1 h2 ⊢
    omega

def lowR (F : List Int → Bool) (w : List Int) : List Int × Int := if 60 < w.length then ([], 2) else if ¬ small w then ([], 1) else if F w = false then ([], 7) else (low F (wsum w) w, 0)
theorem shrink_lower {Γr : Ctx} {A : Option Addr} {c : Nat} {w : List Int} (hw : SlOk (lk Γr) A c w) {fv : Value} {F : List Int → Bool} (hf : FailsOk Γr fv F) :
    Ret Try.prog 34 [.slice A w.length c, fv] Γr [] (fun v Γ => ∃ g B d, Γ = [g] ∧ SlOk (lk [g]) B d (lowR F w).1 ∧ v = .tuple #[.slice B (lowR F w).1.length d, .int .i64 (lowR F w).2]) := by
  generalize hR : (fun (v : Value) (Γ : Ctx) => ∃ g B d, _) = R
  refine ret_of_vc tr34 (Nat.le_of_ble_eq_true rfl) ?_
  obtain ⟨fg, c1, c2, rfl, hf⟩ := hf
  simp only [S34, S34_0, go_sem, Nat.reduceBEq, Nat.reduceAdd, Nat.reduceSub, Nat.reduceMul, Nat.reduceLeDiff, reduceCtorEq, ↓reduceIte, Int.reduceLT, Int.reduceLE, Int.reduceEq, Int.reduceNe]
  refine ⟨fun h => Up.one fun g _ => ?_, fun h60 => ?_⟩
  · subst hR
    have : lowR F w = ([], 2) := by unfold lowR; rw [if_pos (by omega)]
    rw [this]
    exact ⟨g, none, 0, rfl, SlOk.nil, rfl⟩
  have hno : ¬ 60 < w.length := by omega
  refine s_loop (fun f vs Γ => Γ = [] ∧ ∃ k : Nat, vs = [.v true (.int .i64 k)] ∧ k + f = w.length ∧ ∀ (j : Nat) (h : j < w.length), j < k → 0 ≤ w[j] ∧ w[j] < 8) w.length (Up.here ⟨rfl, 0, rfl, by omega, by intro j _ h; omega⟩) ?_
  rintro f vs Γ ⟨rfl, k, rfl, hkf, hsm⟩
  simp only [S34_1, go_sem, Nat.reduceBEq, Nat.reduceAdd, Nat.reduceSub, Nat.reduceMul, Nat.reduceLeDiff, reduceCtorEq, ↓reduceIte, Int.reduceLT, Int.reduceLE, Int.reduceEq, Int.reduceNe]
  refine ⟨fun hlt => ?_, fun hge => ?_⟩
  · have hk : k < w.length := by omega
    obtain ⟨b, o, hA, hc⟩ := hw.int hk
    refine s_idx hA (by omega) (by omega) ?_
    simp only [go_sem, Nat.reduceBEq, Nat.reduceAdd, Nat.reduceSub, Nat.reduceMul, Nat.reduceLeDiff, reduceCtorEq, ↓reduceIte, Int.reduceLT, Int.reduceLE, Int.reduceEq, Int.reduceNe]
    refine s_ld0 (hc _ (Mem.le.refl _)) (by simp) (by simp) ?_
    simp only [go_sem, Nat.reduceBEq, Nat.reduceAdd, Nat.reduceSub, Nat.reduceMul, Nat.reduceLeDiff, reduceCtorEq, ↓reduceIte, Int.reduceLT, Int.reduceLE, Int.reduceEq, Int.reduceNe]
    simp (disch := omega) only [wrap_id]
    refine ⟨fun h => Up.one fun g _ => ?_, fun h => ?_⟩
    · subst hR
      have hbad : ¬ small w := fun q => by have := q k hk; omega
      have : lowR F w = ([], 1) := by unfold lowR; rw [if_neg hno, if_pos hbad]
      rw [this]
      exact ⟨g, none, 0, rfl, SlOk.nil, rfl⟩
    · exact ⟨f - 1, by omega, Up.here ⟨rfl, k + 1, rfl, by omega, fun j hj hjk => by
        by_cases e : j = k
        · subst e; omega
        · exact hsm j hj (by omega)⟩⟩
  have hsw : small w := fun j hj => hsm j hj (by omega)
  refine CallVC.read (shrink_without hw (by omega) _) ?_
  rintro v Γ' ⟨g, rfl, hB⟩
  rw [List.eraseIdx_of_length_le (Nat.le_refl _)] at hB
  obtain ⟨B, d, rfl, hs⟩ := hB.own (by omega)
  simp only [go_sem, Nat.reduceBEq, Nat.reduceAdd, Nat.reduceSub, Nat.reduceMul, Nat.reduceLeDiff, reduceCtorEq, ↓reduceIte, Int.reduceLT, Int.reduceLE, Int.reduceEq, Int.reduceNe]
  refine CallVC.read (shrink_without (hs.mono (lk_sub (by simp))) (by omega) _) ?_
  rintro v Γ' ⟨g2, rfl, hB2⟩
  rw [List.eraseIdx_of_length_le (Nat.le_refl _)] at hB2
  obtain ⟨B2, d2, rfl, hs2⟩ := hB2.own (by omega)
  simp only [go_sem, Nat.reduceBEq, Nat.reduceAdd, Nat.reduceSub, Nat.reduceMul, Nat.reduceLeDiff, reduceCtorEq, ↓reduceIte, Int.reduceLT, Int.reduceLE, Int.reduceEq, Int.reduceNe]
  refine CallVC.read (hf _ (lk_r _ _) _ _ _ (hs2.mono (lk_sub (by simp))) (by omega)) ?_
  rintro v Γ' ⟨rfl, rfl⟩
  simp only [go_sem, Nat.reduceBEq, Nat.reduceAdd, Nat.reduceSub, Nat.reduceMul, Nat.reduceLeDiff, reduceCtorEq, ↓reduceIte, Int.reduceLT, Int.reduceLE, Int.reduceEq, Int.reduceNe]
  refine ⟨fun h => Up.one fun g _ => ?_, fun hF => ?_⟩
  · subst hR
    have : lowR F w = ([], 7) := by unfold lowR; rw [if_neg hno, if_neg (by simp [hsw]), if_pos h]
    rw [this]
    exact ⟨g, none, 0, rfl, SlOk.nil, rfl⟩
  have hres : lowR F w = (low F (wsum w) w, 0) := by unfold lowR; rw [if_neg hno, if_neg (by simp [hsw]), if_neg (by simp [hF])]
  refine s_loop (fun f vs Γ => ∃ g, Γ = [g] ∧ ∃ (x : List Int) (i : Nat) (u : Value), vs = [.v true u, .v true (.int .i64 i)] ∧ wsum x * 100 + 100 = f + i ∧ i ≤ x.length ∧ x.length = w.length ∧ small x ∧ Bld g (lk []) 3 u x ∧ (∀ j, j < i → ∀ y, y < (x.getD j 0).toNat → F (x.set j y) = false) ∧ low F (wsum x) x = low F (wsum w) w) (wsum w * 100 + 100)
    (Up.sel [[1]] (by decide) fun _ _ => ⟨_, rfl, w, 0, _, rfl, by omega, by omega, rfl, hsw, hB, by intro j h; omega, rfl⟩) ?_
  rintro f vs Γ ⟨g3, rfl, x, i, u, rfl, hfi, hix, hxl, hsx, hB3, hbef, hlo⟩
  obtain ⟨A3, c3, rfl, hs3⟩ := hB3.own (by omega)
  simp only [S34_5, go_sem, Nat.reduceBEq, Nat.reduceAdd, Nat.reduceSub, Nat.reduceMul, Nat.reduceLeDiff, reduceCtorEq, ↓reduceIte, Int.reduceLT, Int.reduceLE, Int.reduceEq, Int.reduceNe]
  refine ⟨fun hlt => ?_, fun hge => ?_⟩
  · have hi : i < x.length := by omega
    obtain ⟨e1, e2, e3, e4⟩ := hsx.getD hi
    refine s_split ?_
    simp only [S34_3, S34_4, go_sem, Nat.reduceBEq, Nat.reduceAdd, Nat.reduceSub, Nat.reduceMul, Nat.reduceLeDiff, reduceCtorEq, ↓reduceIte, Int.reduceLT, Int.reduceLE, Int.reduceEq, Int.reduceNe]
    obtain ⟨b, o, hA, hc⟩ := hs3.int hi
    refine s_idx hA (by omega) (by omega) ?_
    simp only [go_sem, Nat.reduceBEq, Nat.reduceAdd, Nat.reduceSub, Nat.reduceMul, Nat.reduceLeDiff, reduceCtorEq, ↓reduceIte, Int.reduceLT, Int.reduceLE, Int.reduceEq, Int.reduceNe]
    refine s_ld0 (hc _ (lk_l _ _)) (by simp) (by simp) ?_
    simp only [go_sem, Nat.reduceBEq, Nat.reduceAdd, Nat.reduceSub, Nat.reduceMul, Nat.reduceLeDiff, reduceCtorEq, ↓reduceIte, Int.reduceLT, Int.reduceLE, Int.reduceEq, Int.reduceNe]
    refine s_loop (fun f' vs Γ => ∃ g, Γ = [g] ∧ ∃ (y : Nat) (u : Value), vs = [.v true u, .v true (.int .i64 i), .v true (.int .i64 y)] ∧ y + f' = (x.getD i 0).toNat ∧ Bld g (lk []) 3 u x ∧ (∀ z, z < y → F (x.set i z) = false)) (x.getD i 0).toNat
      (Up.here ⟨_, rfl, 0, _, rfl, by omega, hB3, by intro z h; omega⟩) ?_
    rintro f' vs Γ ⟨g4, rfl, y, u, rfl, hyf, hB4, hno4⟩
    obtain ⟨A4, c4, rfl, hs4⟩ := hB4.own (by omega)
    simp only [S34_2, go_sem, Nat.reduceBEq, Nat.reduceAdd, Nat.reduceSub, Nat.reduceMul, Nat.reduceLeDiff, reduceCtorEq, ↓reduceIte, Int.reduceLT, Int.reduceLE, Int.reduceEq, Int.reduceNe]
    refine ⟨fun hlt => ?_, fun hge => ?_⟩
    · have hy : y < (x.getD i 0).toNat := by omega
      refine CallVC.read (shrink_without (hs4.mono (lk_l _ _)) (by omega) _) ?_
      rintro v Γ' ⟨g5, rfl, hB5⟩
      rw [List.eraseIdx_of_length_le (Nat.le_refl _)] at hB5
      obtain ⟨A5, c5, rfl, hs5⟩ := hB5.own (by omega)
      simp only [go_sem, Nat.reduceBEq, Nat.reduceAdd, Nat.reduceSub, Nat.reduceMul, Nat.reduceLeDiff, reduceCtorEq, ↓reduceIte, Int.reduceLT, Int.reduceLE, Int.reduceEq, Int.reduceNe]
      obtain ⟨b5, o5, hA5, hc5⟩ := hs5.int hi
      subst hA5
      refine s_idx rfl (by omega) (by omega) ?_
      simp only [go_sem, Nat.reduceBEq, Nat.reduceAdd, Nat.reduceSub, Nat.reduceMul, Nat.reduceLeDiff, reduceCtorEq, ↓reduceIte, Int.reduceLT, Int.reduceLE, Int.reduceEq, Int.reduceNe]
      refine s_storeB (ix := 0) (y : Int) rfl hB5 hi ?_
      intro g6 hB6 _
      have hset : (x.set i (y : Int)).length = x.length := by simp
      obtain ⟨A6, c6, e6, hs6⟩ := hB6.own (by omega)
      rw [hset] at e6
      simp only [Value.slice.injEq, true_and] at e6
      obtain ⟨rfl, rfl⟩ := e6
      rw [← hset] at hB6 ⊢
      simp only [go_sem, Nat.reduceBEq, Nat.reduceAdd, Nat.reduceSub, Nat.reduceMul, Nat.reduceLeDiff, reduceCtorEq, ↓reduceIte, Int.reduceLT, Int.reduceLE, Int.reduceEq, Int.reduceNe]
      refine CallVC.read (shrink_without (hs6.mono (lk_sub (by simp))) (by omega) _) ?_
      rintro v Γ' ⟨g7, rfl, hB7⟩
      rw [List.eraseIdx_of_length_le (Nat.le_refl _)] at hB7
      obtain ⟨A7, c7, rfl, hs7⟩ := hB7.own (by omega)
      simp only [go_sem, Nat.reduceBEq, Nat.reduceAdd, Nat.reduceSub, Nat.reduceMul, Nat.reduceLeDiff, reduceCtorEq, ↓reduceIte, Int.reduceLT, Int.reduceLE, Int.reduceEq, Int.reduceNe]
      refine CallVC.read (hf _ (lk_r _ _) _ _ _ (hs7.mono (lk_sub (by simp))) (by omega)) ?_
      rintro v Γ' ⟨rfl, rfl⟩
      simp only [go_sem, Nat.reduceBEq, Nat.reduceAdd, Nat.reduceSub, Nat.reduceMul, Nat.reduceLeDiff, reduceCtorEq, ↓reduceIte, Int.reduceLT, Int.reduceLE, Int.reduceEq, Int.reduceNe]
      refine ⟨fun hF' => ?_, fun hF' => ?_⟩
      · have hws := wsum_set x i y hi hy
        have hlo' := low_step (F := F) hi hy hF' hbef hno4
        refine Up.sel [[1]] (by decide) fun _ _ => ?_
        exact ⟨wsum (x.set i y) * 100 + 100, by omega, Up.here ⟨_, rfl, x.set i y, 0, _, rfl, by omega, by omega, by omega, hsx.set hi (by omega), hB6, by intro j h; omega, by rw [← hlo', hlo]⟩⟩
      · simp (disch := omega) only [wrap_id]
        exact ⟨f' - 1, by omega, Up.sel [[2]] (by decide) fun _ _ => ⟨_, rfl, y + 1, _, rfl, by omega, by rw [hset]; exact hB4, fun z hz => by
          by_cases e : z = y
          · subst e; exact hF'
          · exact hno4 z (by omega)⟩⟩
    · simp (disch := omega) only [wrap_id]
      refine Up.here ⟨f - 1, by omega, Up.here ⟨_, rfl, x, i + 1, _, rfl, by omega, by omega, hxl, hsx, hB4, fun j hj z hz => ?_, hlo⟩⟩
      by_cases e : j = i
      · subst e; exact hno4 z (by omega)
      · exact hbef j (by omega) z hz
  · have hi : i = x.length := by omega
    have hend := low_end (F := F) (w := x) (fun j hj => hbef j (by omega))
    refine Up.here ?_
    subst hR
    rw [hres, ← hlo, hend]
    exact ⟨_, A3, c3, rfl, hs3, by rw [hxl]⟩

theorem ref_lowered : ∀ (n : Nat) {Γr : Ctx} {A : Option Addr} {c : Nat} {w : List Int} (hw : SlOk (lk Γr) A c w) (hs : w.length ≤ 1000) (hsm : small w) (hn : wsum w ≤ n) {fv : Value} {F : List Int → Bool} (hf : FailsOk Γr fv F),
    Ret Try.prog 38 [.slice A w.length c, fv] Γr [] (fun v Γ => ∃ g, Γ = [g] ∧ Bld g (lk []) 3 v (low F (wsum w) w)) := by
  intro n
  induction n using Nat.strongRecOn with
  | ind n ih =>
    intro Γr A c w hw hs hsm hn fv F hf
    generalize hR : (fun (v : Value) (Γ : Ctx) => ∃ g, _) = R
    refine ret_of_vc tr38 (Nat.le_of_ble_eq_true rfl) ?_
    obtain ⟨fg, c1, c2, hfv, hf'⟩ := id hf
    subst hfv
    simp only [S38, S38_0, go_sem, Nat.reduceBEq, Nat.reduceAdd, Nat.reduceSub, Nat.reduceMul, Nat.reduceLeDiff, reduceCtorEq, ↓reduceIte, Int.reduceLT, Int.reduceLE, Int.reduceEq, Int.reduceNe]
    refine s_loop (fun f vs Γ => ∃ i : Nat, vs = [.v true (.int .i64 i)] ∧ i + f = w.length ∧ (∀ j, j < i → ∀ y, y < (w.getD j 0).toNat → F (w.set j y) = false)) w.length (Up.here ⟨0, rfl, by omega, by intro j h; omega⟩) ?_
    rintro f vs Γ ⟨i, rfl, hif, hbef⟩
    simp only [S38_2, go_sem, Nat.reduceBEq, Nat.reduceAdd, Nat.reduceSub, Nat.reduceMul, Nat.reduceLeDiff, reduceCtorEq, ↓reduceIte, Int.reduceLT, Int.reduceLE, Int.reduceEq, Int.reduceNe]
    refine ⟨fun hlt => ?_, fun hge => ?_⟩
    · have hi : i < w.length := by omega
      obtain ⟨e1, e2, e3, e4⟩ := hsm.getD hi
      obtain ⟨b, o, hA, hc⟩ := hw.int hi
      refine s_loop (fun f' vs Γ => ∃ y : Nat, vs = [.v true (.int .i64 y)] ∧ y + f' = (w.getD i 0).toNat ∧ (∀ z, z < y → F (w.set i z) = false)) (w.getD i 0).toNat (Up.here ⟨0, rfl, by omega, by intro z h; omega⟩) ?_
      rintro f' vs Γ ⟨y, rfl, hyf, hno4⟩
      simp only [S38_1, go_sem, Nat.reduceBEq, Nat.reduceAdd, Nat.reduceSub, Nat.reduceMul, Nat.reduceLeDiff, reduceCtorEq, ↓reduceIte, Int.reduceLT, Int.reduceLE, Int.reduceEq, Int.reduceNe]
      refine s_idx hA (by omega) (by omega) ?_
      simp only [go_sem, Nat.reduceBEq, Nat.reduceAdd, Nat.reduceSub, Nat.reduceMul, Nat.reduceLeDiff, reduceCtorEq, ↓reduceIte, Int.reduceLT, Int.reduceLE, Int.reduceEq, Int.reduceNe]
      refine s_ld0 (hc _ (lk_r _ _)) (by simp) (by simp) ?_
      simp only [go_sem, Nat.reduceBEq, Nat.reduceAdd, Nat.reduceSub, Nat.reduceMul, Nat.reduceLeDiff, reduceCtorEq, ↓reduceIte, Int.reduceLT, Int.reduceLE, Int.reduceEq, Int.reduceNe]
      refine ⟨fun hlt => ?_, fun hge => ?_⟩
      · have hy : y < (w.getD i 0).toNat := by omega
        refine CallVC.read (slices_clone hw.r (by omega)) ?_
        rintro v Γ' ⟨g5, rfl, hB5⟩
        obtain ⟨A5, c5, rfl, hs5⟩ := hB5.own (by omega)
        simp only [go_sem, Nat.reduceBEq, Nat.reduceAdd, Nat.reduceSub, Nat.reduceMul, Nat.reduceLeDiff, reduceCtorEq, ↓reduceIte, Int.reduceLT, Int.reduceLE, Int.reduceEq, Int.reduceNe]
        obtain ⟨b5, o5, hA5, hc5⟩ := hs5.int hi
        subst hA5
        refine s_idx rfl (by omega) (by omega) ?_
        simp only [go_sem, Nat.reduceBEq, Nat.reduceAdd, Nat.reduceSub, Nat.reduceMul, Nat.reduceLeDiff, reduceCtorEq, ↓reduceIte, Int.reduceLT, Int.reduceLE, Int.reduceEq, Int.reduceNe]
        refine s_storeB (ix := 0) (y : Int) rfl hB5 hi ?_
        intro g6 hB6 _
        have hset : (w.set i (y : Int)).length = w.length := by simp
        obtain ⟨A6, c6, e6, hs6⟩ := hB6.own (by omega)
        rw [hset] at e6
        simp only [Value.slice.injEq, true_and] at e6
        obtain ⟨rfl, rfl⟩ := e6
        rw [← hset] at hB6 ⊢
        simp only [go_sem, Nat.reduceBEq, Nat.reduceAdd, Nat.reduceSub, Nat.reduceMul, Nat.reduceLeDiff, reduceCtorEq, ↓reduceIte, Int.reduceLT, Int.reduceLE, Int.reduceEq, Int.reduceNe]
        refine CallVC.read (hf' _ (lk_r _ _) _ _ _ (hs6.mono (lk_sub (by simp))) (by omega)) ?_
        rintro v Γ' ⟨rfl, rfl⟩
        simp only [go_sem, Nat.reduceBEq, Nat.reduceAdd, Nat.reduceSub, Nat.reduceMul, Nat.reduceLeDiff, reduceCtorEq, ↓reduceIte, Int.reduceLT, Int.reduceLE, Int.reduceEq, Int.reduceNe]
        refine ⟨fun hF' => ?_, fun hF' => ?_⟩
        · have hws := wsum_set w i y hi hy
          have hlo' := low_step (F := F) hi hy hF' hbef hno4
          refine CallVC.read (ih (wsum (w.set i y)) (by omega) (hs6.mono (lk_sub (by simp))) (by omega) (hsm.set hi (by omega)) (Nat.le_refl _) (hf.mono (lk_r _ _))) ?_
          rintro v Γ' ⟨g8, rfl, hB8⟩
          simp only [go_sem, Nat.reduceBEq, Nat.reduceAdd, Nat.reduceSub, Nat.reduceMul, Nat.reduceLeDiff, reduceCtorEq, ↓reduceIte, Int.reduceLT, Int.reduceLE, Int.reduceEq, Int.reduceNe]
          refine Up.sel [[0]] (by decide) fun _ _ => ?_
          subst hR
          exact ⟨_, rfl, by rw [hlo']; exact hB8⟩
        · simp (disch := omega) only [wrap_id]
          exact ⟨f' - 1, by omega, Up.here ⟨y + 1, rfl, by omega, fun z hz => by
            by_cases e : z = y
            · subst e; exact hF'
            · exact hno4 z (by omega)⟩⟩
      · simp (disch := omega) only [wrap_id]
        refine ⟨f - 1, by omega, Up.here ⟨i + 1, rfl, by omega, fun j hj z hz => ?_⟩⟩
        by_cases e : j = i
        · subst e; exact hno4 z (by omega)
        · exact hbef j (by omega) z hz
    · refine CallVC.read (slices_clone hw.r (by omega)) ?_
      rintro v Γ' ⟨g, rfl, hB⟩
      simp only [go_sem, Nat.reduceBEq, Nat.reduceAdd, Nat.reduceSub, Nat.reduceMul, Nat.reduceLeDiff, reduceCtorEq, ↓reduceIte, Int.reduceLT, Int.reduceLE, Int.reduceEq, Int.reduceNe]
      refine Up.sel [[0]] (by decide) fun _ _ => ?_
      subst hR
      exact ⟨_, rfl, by rw [low_end (fun j hj => hbef j (by omega))]; exact hB⟩
end Go.Proofs.Ytniobbepliknmaa.V
