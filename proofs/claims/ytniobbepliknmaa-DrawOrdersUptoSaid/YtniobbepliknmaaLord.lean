/- parllaw5.DrawOrders answers true; no condition. -/
import Derived.Test.YtniobbepliknmaaPord
import Derived.Test.YtniobbepliknmaaS6
namespace Go.Proofs.Ytniobbepliknmaa.V
open Go
set_option linter.unusedVariables false
set_option linter.unusedSimpArgs false
attribute [local go_sem] e_seq e_region e_quiet e_join e_loop e_cond e_block e_exit e_ret e_skip e_fin e_kseq e_snrm e_sret e_sex e_bnrm e_bret e_bex e_rnrm e_rret e_res e_condC e_nil e_g e_mv g_mv e_pick g_pick pickC_eq e_ibin g_ibin ibinC_eq e_sbin g_sbin e_beq g_beq beqC_eq e_nilq g_nilq e_un g_un unC_not unC_neg e_conv g_conv convC_eq e_fld g_fld fldC_ref fldC_ptr e_nilCheck g_nilCheck nilCheckC_ref nilCheckC_ptr nilCheckC_fun e_field g_field fieldC_eq e_len g_len lenC_sl lenC_str e_extract g_extract extractC_eq e_mkFunc e_build g_build e_idiv g_idiv idivC_eq e_ishift g_ishift ishiftC_eq e_idx g_idx e_idxA g_idxA e_load g_load loadC_ref loadC_ptr loadB_eq e_slc g_slc e_box boxC_loc boxC_esc e_alloc allocC_loc allocC_esc e_buildS e_store storeC_ref storeC_ptr storeB_eq e_append e_mk mkC_eq e_call callC_eq e_fn g_fn fnC_eq fnV_min' fnV_max' fnV_rune' e_q g_q e_a e_n g_call g_box g_alloc g_buildS g_store g_append g_mk g_a g_n g_dead e_dead e_callK e_drawn e_tree e_finJ e_tk e_tfin e_tno e_nbt_q e_nbt_qn e_nbt_a e_nbt_an e_nbt_fin e_early_nil e_early_t e_early_f e_nob_nil e_nob_none e_nob_some isBox_dead isBox_v isBox_ref e_dnil e_dk e_ek e_finB vcOps_vc1 e_dcons e_tq e_ekt e_tearly e_talt e_dearly look_nil look_c proj_nil proj_c looks_nil looks_c zip_nil zip_c val_tmp val_const val_func slv_v slv_box slv_ref slot_tmp slot_const slot_func slotL_v slotL_box slotL_ref put_some put_none updBox_c boxSet_box gd_eq slotVals_nil slotVals_c slotVals_b boxV_box boxOn_box slotsOn_nil slotsOn_c slotsOn_b resV_one resV_two vals_nil vals_c allOn_nil allOn_c partOn_nil partOn_c partVals_nil partVals_c fits_nil fits_c fillL_nil fillL_c mkv_one mkv_agg cellsV_agg cellsV_int cellsV_bool cellsV_slice cellsV_string cellsV_pointer cellsV_func cellsV_nilf cellsV_map one'_nil one'_c oc_int oc_bool oc_slice oc_string oc_pointer oc_func oc_nilf oc_map setC_eq iv_add iv_sub iv_mul iv_eql iv_neq iv_lss iv_leq iv_gtr iv_geq iok_add iok_sub iok_mul iok_eql iok_neq iok_lss iok_leq iok_gtr iok_geq pickV_bool args0_nil args0_c bnd_none bnd_some imp_bt imp_bf imp_ebt imp_ebf imp_eb1 imp_np imp_pp beq_tt beq_tf beq_ft beq_ff cond_or cond_and e_round e_meet decide_true decide_false Bool.or_false Bool.false_or Bool.true_or Bool.or_true Bool.and_false Bool.false_and Bool.bne_false Bool.bne_true beq_iff_eq Int.cast_ofNat_Int not_false_eq_true not_true_eq_false false_and and_false false_implies true_implies true_and and_true Bool.true_and Bool.and_true Bool.not_true Bool.not_false forall_const implies_true List.take_zero List.drop_zero List.take_succ_cons List.drop_succ_cons List.take_nil List.drop_nil List.length_cons List.length_nil List.nil_append List.append_nil List.cons_append Int.toNat_natCast decide_eq_true_eq decide_eq_false_iff_not cond_true cond_false and_self List.getElem?_cons_zero List.getElem?_cons_succ List.set_cons_zero List.set_cons_succ Option.some.injEq exists_eq_left' Nat.zero_add Nat.add_zero Nat.mul_one imp_self true_or or_true or_false false_or Bool.or_eq_true Bool.or_eq_false_iff Bool.and_eq_true Bool.and_eq_false_iff Bool.not_eq_true' Bool.not_eq_false'

theorem Arr.one {α : Type} [Sc α] (b : Nat) (T : TypeId) (xs : List α) : Arr (V.one b (.cells (xs.map Sc.enc).toArray T)) b T xs := one_self _ _
theorem lit_slok {α : Type} [Sc α] {b : Nat} {T : TypeId} {cs : List Value} {Γ : Ctx} (xs : List α) (h : xs.map Sc.enc = cs) (hs : xs.length ≤ 1000) : SlOk (lk (V.one b (.cells cs.toArray T) :: Γ)) (some ⟨b, 0, none⟩) xs.length xs := by
  subst h
  exact (Arr.one b T xs).slok (lk_sub (by simp)) (Nat.le_refl _) (by unfold maxLen; omega) (by omega)

theorem law_orders {Γr : Ctx} (n : Int) {A : Option Addr} {c : Nat} {coins : List Bool} (hc : SlOk (lk Γr) A c coins) :
    Ret Try.prog 6 [.int .i64 n, .slice A coins.length c] Γr [] (fun v Γ => Γ = [] ∧ v = .bool true) := by
  generalize hR : (fun (v : Value) (Γ : Ctx) => Γ = [] ∧ _) = R
  refine ret_of_vc tr6 (Nat.le_of_ble_eq_true rfl) ?_
  have hcl := hc.short
  simp only [S6, S6_0, go_sem, Nat.reduceBEq, Nat.reduceAdd, Nat.reduceSub, Nat.reduceMul, Nat.reduceLeDiff, reduceCtorEq, ↓reduceIte, Int.reduceLT, Int.reduceLE, Int.reduceEq, Int.reduceNe]
  intro b
  refine CallVC.read (draw_order 2 (lit_slok [true] rfl (by simp))) ?_
  rintro v Γ' ⟨g, B, cb, rfl, hs, rfl⟩
  have e1 : orderR 2 [true] = ([1, 0], 1, 0) := by decide
  rw [e1] at hs ⊢
  simp only [go_sem, Nat.reduceBEq, Nat.reduceAdd, Nat.reduceSub, Nat.reduceMul, Nat.reduceLeDiff, reduceCtorEq, ↓reduceIte, Int.reduceLT, Int.reduceLE, Int.reduceEq, Int.reduceNe]
  intro b2
  refine CallVC.read (slices_equal (xs := [1, 0]) (ys := [1, 0]) (hs.mono (lk_sub (by simp))) (lit_slok [1, 0] rfl (by simp))) ?_
  rintro v Γ' ⟨rfl, rfl⟩
  simp only [go_sem, Nat.reduceBEq, Nat.reduceAdd, Nat.reduceSub, Nat.reduceMul, Nat.reduceLeDiff, reduceCtorEq, ↓reduceIte, Int.reduceLT, Int.reduceLE, Int.reduceEq, Int.reduceNe]
  refine CallVC.read (draw_order n hc.r) ?_
  rintro v Γ' ⟨g2, B2, cb2, rfl, hs2, rfl⟩
  obtain ⟨⟨l, k, e⟩, hp⟩ : ∃ p, p = orderR n coins := ⟨_, rfl⟩
  rw [← hp] at hs2 ⊢
  simp only [go_sem, Nat.reduceBEq, Nat.reduceAdd, Nat.reduceSub, Nat.reduceMul, Nat.reduceLeDiff, reduceCtorEq, ↓reduceIte, Int.reduceLT, Int.reduceLE, Int.reduceEq, Int.reduceNe]
  refine ⟨fun h => Up.to [] (Ent.nil _) ?_, fun hn => ?_⟩
  · have : orderR n coins = ([], 0, 1) := by unfold orderR; rw [if_pos h]
    rw [this] at hp
    simp only [Prod.mk.injEq] at hp
    obtain ⟨rfl, rfl, rfl⟩ := hp
    subst hR
    exact ⟨rfl, rfl⟩
  obtain ⟨m, rfl⟩ : ∃ m : Nat, n = m := ⟨n.toNat, by omega⟩
  have hm : m ≤ 100 := by omega
  have hres : orderR m coins = match ordF coins m (numsI m) [] 0 with
    | none => ([], 0, 5)
    | some (o, k) => (o, k, 0) := by
    unfold orderR
    rw [if_neg (by omega), Int.toNat_natCast]
    rfl
  rw [hres] at hp
  refine s_loop (fun f vs Γ => ∃ g g3 : PH, Γ = [g, g3] ∧ ∃ (k : Nat) (u : Value), vs = [.v true u, .v true (.int .i64 k)] ∧ k + f = m ∧ Bld g (lk []) 3 u (numsI k) ∧ SlOk (lk [g3]) B2 cb2 l) m
    (Up.sel [[], [0]] (by decide) fun _ _ => ⟨_, _, rfl, 0, _, rfl, by omega, Bld.nil _ _ _, hs2⟩) ?_
  rintro f vs Γ ⟨g4, g5, rfl, j, u, rfl, hkf, hB, hs3⟩
  have hkl := numsI_len j
  simp only [S6_1, go_sem, Nat.reduceBEq, Nat.reduceAdd, Nat.reduceSub, Nat.reduceMul, Nat.reduceLeDiff, reduceCtorEq, ↓reduceIte, Int.reduceLT, Int.reduceLE, Int.reduceEq, Int.reduceNe]
  refine ⟨fun hlt => ?_, fun hge => ?_⟩
  · intro b
    refine s_app1S (ix := 1) (j : Int) rfl hB cells_one rfl (by omega) (by simp [maxLen]; omega) ?_
    intro v' g' hB' _
    simp only [go_sem, Nat.reduceBEq, Nat.reduceAdd, Nat.reduceSub, Nat.reduceMul, Nat.reduceLeDiff, reduceCtorEq, ↓reduceIte, Int.reduceLT, Int.reduceLE, Int.reduceEq, Int.reduceNe]
    simp (disch := omega) only [wrap_id]
    rw [← numsI_succ] at hB'
    exact ⟨f - 1, by omega, Up.sel [[1], [2]] (by decide) fun _ _ => ⟨_, _, rfl, j + 1, v', rfl, by omega, hB', hs3⟩⟩
  · have hk : j = m := by omega
    subst hk
    refine s_loop (fun f vs Γ => ∃ g g2 g3 : PH, Γ = [g, g2, g3] ∧ ∃ (left out : List Int) (used : Nat) (u1 u2 : Value), vs = [.v true u1, .v true u2, .v true (.int .i64 used)] ∧ f = left.length ∧ Bld g (lk []) 3 u1 left ∧ Bld g2 (lk []) 3 u2 out ∧
      left.length + out.length = j ∧ used ≤ coins.length ∧ ordF coins left.length left out used = ordF coins j (numsI j) [] 0 ∧ SlOk (lk [g3]) B2 cb2 l) j
      (Up.sel [[0], [], [1]] (by decide) fun _ _ => ⟨_, _, _, rfl, numsI j, [], 0, _, _, rfl, hkl.symm, hB, Bld.nil _ _ _, by simp [hkl], by omega, by rw [hkl], hs3⟩) ?_
    rintro f vs Γ ⟨g, g2, g3, rfl, left, out, used, u1, u2, rfl, hf, hB1, hB2, hlen, hused, hord, hs4⟩
    obtain ⟨A1, c1, rfl⟩ := hB1.val
    simp only [S6_2, go_sem, Nat.reduceBEq, Nat.reduceAdd, Nat.reduceSub, Nat.reduceMul, Nat.reduceLeDiff, reduceCtorEq, ↓reduceIte, Int.reduceLT, Int.reduceLE, Int.reduceEq, Int.reduceNe]
    refine ⟨fun hlt => ?_, fun hge => ?_⟩
    · refine s_lo used (by simp only [go_sem, Nat.reduceBEq, Nat.reduceAdd, Nat.reduceSub, Nat.reduceMul, Nat.reduceLeDiff, reduceCtorEq, ↓reduceIte, Int.reduceLT, Int.reduceLE, Int.reduceEq, Int.reduceNe]; exact ⟨_, rfl⟩) hused hc.cap ?_
      intro A2 hA2
      simp only [go_sem, Nat.reduceBEq, Nat.reduceAdd, Nat.reduceSub, Nat.reduceMul, Nat.reduceLeDiff, reduceCtorEq, ↓reduceIte, Int.reduceLT, Int.reduceLE, Int.reduceEq, Int.reduceNe]
      have hd := (hc.drop (l := used) hused).r (Γ := [g, g2, g3])
      rw [show (if c = used then A else A.map (·.add (used * Rep.sz Bool))) = A2 from hA2.symm] at hd
      have hdl : (coins.drop used).length = coins.length - used := by simp
      rw [← hdl]
      refine CallVC.read (ref_coins left.length (by omega) (by omega) _ _ _ hd) ?_
      rintro v Γ' ⟨rfl, rfl⟩
      obtain ⟨l', hl⟩ : ∃ l, left.length = l + 1 := ⟨left.length - 1, by omega⟩
      rw [hl] at hord
      simp only [ordF, hl] at hord
      rw [hl]
      cases hcf : coinsF (l' + 1) (coins.drop used) with
      | none =>
        rw [hcf] at hord
        simp only at hord
        rw [← hord] at hp
        simp only [Prod.mk.injEq] at hp
        obtain ⟨rfl, rfl, rfl⟩ := hp
        simp only [go_sem, Nat.reduceBEq, Nat.reduceAdd, Nat.reduceSub, Nat.reduceMul, Nat.reduceLeDiff, reduceCtorEq, ↓reduceIte, Int.reduceLT, Int.reduceLE, Int.reduceEq, Int.reduceNe]
        refine Up.to [] (Ent.nil _) ?_
        subst hR
        exact ⟨rfl, rfl⟩
      | some p =>
        obtain ⟨i, w⟩ := p
        rw [hcf] at hord
        simp only at hord
        obtain ⟨hi, hw⟩ := coinsF_lt' hcf
        simp only [List.length_drop] at hw
        simp only [go_sem, Nat.reduceBEq, Nat.reduceAdd, Nat.reduceSub, Nat.reduceMul, Nat.reduceLeDiff, reduceCtorEq, ↓reduceIte, Int.reduceLT, Int.reduceLE, Int.reduceEq, Int.reduceNe]
        have hsl : ∃ A' c', (Value.slice A1 left.length c1) = .slice A' left.length c' ∧ SlOk (lk [g]) A' c' left := hB1.slok (Mem.le.refl _) (lk_sub (by simp)) (by omega)
        obtain ⟨A', c', e, hsl⟩ := hsl
        simp only [Value.slice.injEq, true_and] at e
        obtain ⟨rfl, rfl⟩ := e
        have hil : i < left.length := by omega
        obtain ⟨b, o, hA1, hcells⟩ := hsl.int hil
        refine s_idx hA1 (by omega) (by omega) ?_
        simp only [go_sem, Nat.reduceBEq, Nat.reduceAdd, Nat.reduceSub, Nat.reduceMul, Nat.reduceLeDiff, reduceCtorEq, ↓reduceIte, Int.reduceLT, Int.reduceLE, Int.reduceEq, Int.reduceNe]
        refine s_ld0 (hcells _ (lk_sub (by simp))) (by simp) (by simp) ?_
        simp only [go_sem, Nat.reduceBEq, Nat.reduceAdd, Nat.reduceSub, Nat.reduceMul, Nat.reduceLeDiff, reduceCtorEq, ↓reduceIte, Int.reduceLT, Int.reduceLE, Int.reduceEq, Int.reduceNe]
        intro b'
        refine s_app1S (ix := 2) left[i] rfl hB2 cells_one rfl (by omega) (by simp [maxLen]; omega) ?_
        intro v2 g2' hB2' _
        simp only [go_sem, Nat.reduceBEq, Nat.reduceAdd, Nat.reduceSub, Nat.reduceMul, Nat.reduceLeDiff, reduceCtorEq, ↓reduceIte, Int.reduceLT, Int.reduceLE, Int.reduceEq, Int.reduceNe]
        simp (disch := omega) only [wrap_id]
        rw [← hl]
        refine CallVC.perm (slices_delete (Γr := []) hB1 (by omega) i hil) (Γf := [V.one b' (.cells #[.int .i64 left[i]] 3), g2', g3]) (List.Perm.swap _ _ _) (List.nil_sublist _) ?_
        rintro v Γ' ⟨g', rfl, hB'⟩
        have hel : (left.eraseIdx i).length = l' := by rw [List.length_eraseIdx, if_pos hil]; omega
        simp only [go_sem, Nat.reduceBEq, Nat.reduceAdd, Nat.reduceSub, Nat.reduceMul, Nat.reduceLeDiff, reduceCtorEq, ↓reduceIte, Int.reduceLT, Int.reduceLE, Int.reduceEq, Int.reduceNe]
        have hg : left.getD i 0 = left[i] := by rw [List.getD_eq_getElem?_getD, List.getElem?_eq_getElem hil]; rfl
        rw [hg] at hord
        exact ⟨l', by omega, Up.sel [[0], [2], [3]] (by decide) fun _ _ => ⟨_, _, _, rfl, left.eraseIdx i, out ++ [left[i]], used + w, _, _, rfl, hel.symm, hB', hB2', by simp [hel]; omega, by omega, by rw [hel]; exact hord, hs4⟩⟩
    · have hl0 : left = [] := List.eq_nil_of_length_eq_zero (by omega)
      subst hl0
      simp only [List.length_nil, ordF] at hord
      rw [← hord] at hp
      simp only [Prod.mk.injEq] at hp
      obtain ⟨rfl, rfl, rfl⟩ := hp
      have hol : l.length ≤ 100 := by simp at hlen; omega
      obtain ⟨B, cb, rfl, hs⟩ := hB2.slok (L' := lk [g, g2, g3]) (lk_sub (by simp)) (fun _ _ h => by obtain ⟨_, h, _⟩ := h; cases h) (by omega)
      simp only [go_sem, Nat.reduceBEq, Nat.reduceAdd, Nat.reduceSub, Nat.reduceMul, Nat.reduceLeDiff, reduceCtorEq, ↓reduceIte, Int.reduceLT, Int.reduceLE, Int.reduceEq, Int.reduceNe]
      refine CallVC.read (slices_equal (hs4.mono (lk_sub (by simp))) (hs.mono (lk_l _ _))) ?_
      rintro v Γ' ⟨rfl, rfl⟩
      simp only [go_sem, Nat.reduceBEq, Nat.reduceAdd, Nat.reduceSub, Nat.reduceMul, Nat.reduceLeDiff, reduceCtorEq, ↓reduceIte, Int.reduceLT, Int.reduceLE, Int.reduceEq, Int.reduceNe]
      refine Up.to [] (Ent.nil _) ?_
      subst hR
      exact ⟨rfl, by simp⟩
end Go.Proofs.Ytniobbepliknmaa.V
