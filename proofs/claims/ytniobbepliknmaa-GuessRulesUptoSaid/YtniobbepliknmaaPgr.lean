/- The rules of which grammars are guessed: guess.Rules walked; no condition. -/
import Derived.Test.YtniobbepliknmaaVk
import Derived.Test.YtniobbepliknmaaS24
namespace Go.Proofs.Ytniobbepliknmaa.V
open Go
set_option linter.unusedVariables false
set_option linter.unusedSimpArgs false
attribute [local go_sem] e_seq e_region e_quiet e_join e_loop e_cond e_block e_exit e_ret e_skip e_fin e_kseq e_snrm e_sret e_sex e_bnrm e_bret e_bex e_rnrm e_rret e_res e_condC e_nil e_g e_mv g_mv e_pick g_pick pickC_eq e_ibin g_ibin ibinC_eq e_sbin g_sbin e_beq g_beq beqC_eq e_nilq g_nilq e_un g_un unC_not unC_neg e_conv g_conv convC_eq e_fld g_fld fldC_ref fldC_ptr e_nilCheck g_nilCheck nilCheckC_ref nilCheckC_ptr nilCheckC_fun e_field g_field fieldC_eq e_len g_len lenC_sl lenC_str e_extract g_extract extractC_eq e_mkFunc e_build g_build e_idiv g_idiv idivC_eq e_ishift g_ishift ishiftC_eq e_idx g_idx e_idxA g_idxA e_load g_load loadC_ref loadC_ptr loadB_eq e_slc g_slc e_box boxC_loc boxC_esc e_alloc allocC_loc allocC_esc e_buildS e_store storeC_ref storeC_ptr storeB_eq e_append e_mk mkC_eq e_call callC_eq e_fn g_fn fnC_eq fnV_min' fnV_max' fnV_rune' e_q g_q e_a e_n g_call g_box g_alloc g_buildS g_store g_append g_mk g_a g_n g_dead e_dead e_callK e_drawn e_tree e_finJ e_tk e_tfin e_tno e_nbt_q e_nbt_qn e_nbt_a e_nbt_an e_nbt_fin e_early_nil e_early_t e_early_f e_nob_nil e_nob_none e_nob_some isBox_dead isBox_v isBox_ref e_dnil e_dk e_ek e_finB vcOps_vc1 e_dcons e_tq e_ekt e_tearly e_talt e_dearly look_nil look_c proj_nil proj_c looks_nil looks_c zip_nil zip_c val_tmp val_const val_func slv_v slv_box slv_ref slot_tmp slot_const slot_func slotL_v slotL_box slotL_ref put_some put_none updBox_c boxSet_box gd_eq slotVals_nil slotVals_c slotVals_b boxV_box boxOn_box slotsOn_nil slotsOn_c slotsOn_b resV_one resV_two vals_nil vals_c allOn_nil allOn_c partOn_nil partOn_c partVals_nil partVals_c fits_nil fits_c fillL_nil fillL_c mkv_one mkv_agg cellsV_agg cellsV_int cellsV_bool cellsV_slice cellsV_string cellsV_pointer cellsV_func cellsV_nilf cellsV_map one'_nil one'_c oc_int oc_bool oc_slice oc_string oc_pointer oc_func oc_nilf oc_map setC_eq iv_add iv_sub iv_mul iv_eql iv_neq iv_lss iv_leq iv_gtr iv_geq iok_add iok_sub iok_mul iok_eql iok_neq iok_lss iok_leq iok_gtr iok_geq pickV_bool args0_nil args0_c bnd_none bnd_some imp_bt imp_bf imp_ebt imp_ebf imp_eb1 imp_np imp_pp beq_tt beq_tf beq_ft beq_ff cond_or cond_and e_round e_meet decide_true decide_false Bool.or_false Bool.false_or Bool.true_or Bool.or_true Bool.and_false Bool.false_and Bool.bne_false Bool.bne_true beq_iff_eq Int.cast_ofNat_Int not_false_eq_true not_true_eq_false false_and and_false false_implies true_implies true_and and_true Bool.true_and Bool.and_true Bool.not_true Bool.not_false forall_const implies_true List.take_zero List.drop_zero List.take_succ_cons List.drop_succ_cons List.take_nil List.drop_nil List.length_cons List.length_nil List.nil_append List.append_nil List.cons_append Int.toNat_natCast decide_eq_true_eq decide_eq_false_iff_not cond_true cond_false and_self List.getElem?_cons_zero List.getElem?_cons_succ List.set_cons_zero List.set_cons_succ Option.some.injEq exists_eq_left' Nat.zero_add Nat.add_zero Nat.mul_one imp_self true_or or_true or_false false_or Bool.or_eq_true Bool.or_eq_false_iff Bool.and_eq_true Bool.and_eq_false_iff Bool.not_eq_true' Bool.not_eq_false'

def symsF (t n : Nat) : List Sy := (numsI t).map (fun i => ⟨true, i⟩) ++ (numsI n).map (fun i => ⟨false, i⟩)
def rulesA (syms : List Sy) (a : Int) : List Ru := ⟨a, []⟩ :: (syms.map (fun x => ⟨a, [x]⟩) ++ syms.flatMap (fun x => syms.map fun y => ⟨a, [x, y]⟩))
def rulesF (t n : Nat) : List Ru := (numsI n).flatMap (rulesA (symsF t n))
def badTN (t n : Int) : Prop := t < 1 ∨ 2 < t ∨ n < 1 ∨ 2 < n
instance (t n : Int) : Decidable (badTN t n) := by unfold badTN; infer_instance
def rulesR (t n : Int) : List Ru × Int := if badTN t n then ([], 1) else (rulesF t.toNat n.toNat, 0)

theorem symsF_len (t n : Nat) : (symsF t n).length = t + n := by simp [symsF, numsI_len]
theorem bnd_syms {t n : Nat} (ht : t ≤ 2) (hn : n ≤ 2) : (symsF t n).length ≤ 4 := by rw [symsF_len]; omega

theorem guess_rules {Γr : Ctx} (t n : Int) :
    Ret Try.prog 24 [.int .i64 t, .int .i64 n] Γr [] (fun v Γ => ∃ g A c, Γ = [g] ∧ SlOk (lk [g]) A c (rulesR t n).1 ∧
      v = .tuple #[.slice A (rulesR t n).1.length c, .int .i64 (rulesR t n).2]) := by
  generalize hR : (fun (v : Value) (Γ : Ctx) => ∃ g A c, _) = R
  refine ret_of_vc tr24 (Nat.le_of_ble_eq_true rfl) ?_
  simp only [S24, S24_0, go_sem, Nat.reduceBEq, Nat.reduceAdd, Nat.reduceSub, Nat.reduceMul, Nat.reduceLeDiff, reduceCtorEq, ↓reduceIte, Int.reduceLT, Int.reduceLE, Int.reduceEq, Int.reduceNe]
  refine ⟨fun h => Up.one fun g _ => ?_, fun hok => ?_⟩
  · have hb : badTN t n := by unfold badTN; omega
    subst hR
    have : rulesR t n = ([], 1) := by unfold rulesR; rw [if_pos hb]
    rw [this]
    exact ⟨g, none, 0, rfl, SlOk.nil, rfl⟩
  have hb : ¬ badTN t n := by unfold badTN; omega
  obtain ⟨T, rfl⟩ : ∃ m : Nat, t = m := ⟨t.toNat, by omega⟩
  obtain ⟨N, rfl⟩ : ∃ m : Nat, n = m := ⟨n.toNat, by omega⟩
  have hT : T ≤ 2 := by omega
  have hN : N ≤ 2 := by omega
  have hres : rulesR T N = (rulesF T N, 0) := by unfold rulesR; rw [if_neg hb, Int.toNat_natCast, Int.toNat_natCast]
  -- the terminals
  refine s_loop (fun f vs Γ => ∃ g : PH, Γ = [g] ∧ ∃ (k : Nat) (u : Value), vs = [.v true u, .v true (.int .i64 k)] ∧ k + f = T ∧ Bld g (lk []) 39 u ((numsI k).map (fun i => (⟨true, i⟩ : Sy)))) T
    (Up.sel [[]] (by decide) fun _ _ => ⟨_, rfl, 0, _, rfl, by omega, Bld.nil _ _ _⟩) ?_
  rintro f vs Γ ⟨g, rfl, k, u, rfl, hkf, hB⟩
  have hkl := numsI_len k
  simp only [S24_1, go_sem, Nat.reduceBEq, Nat.reduceAdd, Nat.reduceSub, Nat.reduceMul, Nat.reduceLeDiff, reduceCtorEq, ↓reduceIte, Int.reduceLT, Int.reduceLE, Int.reduceEq, Int.reduceNe]
  refine ⟨fun hlt => ?_, fun hge => ?_⟩
  · intro b
    refine s_app1 (ix := 1) (x := (⟨true, (k : Int)⟩ : Sy)) (L' := lk []) (cs := [.bool true, .int .i64 k]) rfl hB (Mem.le.refl _) rfl cells_one rfl (by simp [hkl]; omega) (by simp [maxLen, hkl]; omega) ?_
    intro v' g' hB' _
    simp only [go_sem, Nat.reduceBEq, Nat.reduceAdd, Nat.reduceSub, Nat.reduceMul, Nat.reduceLeDiff, reduceCtorEq, ↓reduceIte, Int.reduceLT, Int.reduceLE, Int.reduceEq, Int.reduceNe]
    simp (disch := omega) only [wrap_id]
    rw [show (numsI k).map (fun i => (⟨true, i⟩ : Sy)) ++ [⟨true, (k : Int)⟩] = (numsI (k + 1)).map (fun i => (⟨true, i⟩ : Sy)) by rw [numsI_succ]; simp] at hB'
    exact ⟨f - 1, by omega, Up.sel [[1]] (by decide) fun _ _ => ⟨_, rfl, k + 1, v', rfl, by omega, hB'⟩⟩
  obtain rfl : k = T := by omega
  -- the nonterminals
  refine s_loop (fun f vs Γ => ∃ g : PH, Γ = [g] ∧ ∃ (j : Nat) (u : Value), vs = [.v true u, .v true (.int .i64 j)] ∧ j + f = N ∧ Bld g (lk []) 39 u ((numsI k).map (fun i => (⟨true, i⟩ : Sy)) ++ (numsI j).map (fun i => (⟨false, i⟩ : Sy)))) N
    (Up.here ⟨_, rfl, 0, _, rfl, by omega, by rw [show (numsI 0).map (fun i => (⟨false, i⟩ : Sy)) = [] from rfl, List.append_nil]; exact hB⟩) ?_
  rintro f vs Γ ⟨g, rfl, j, u, rfl, hjf, hB⟩
  have hjl := numsI_len j
  simp only [S24_2, go_sem, Nat.reduceBEq, Nat.reduceAdd, Nat.reduceSub, Nat.reduceMul, Nat.reduceLeDiff, reduceCtorEq, ↓reduceIte, Int.reduceLT, Int.reduceLE, Int.reduceEq, Int.reduceNe]
  refine ⟨fun hlt => ?_, fun hge => ?_⟩
  · intro b
    refine s_app1 (ix := 1) (x := (⟨false, (j : Int)⟩ : Sy)) (L' := lk []) (cs := [.bool false, .int .i64 j]) rfl hB (Mem.le.refl _) rfl cells_one rfl (by simp [hkl, hjl]; omega) (by simp [maxLen, hkl, hjl]; omega) ?_
    intro v' g' hB' _
    simp only [go_sem, Nat.reduceBEq, Nat.reduceAdd, Nat.reduceSub, Nat.reduceMul, Nat.reduceLeDiff, reduceCtorEq, ↓reduceIte, Int.reduceLT, Int.reduceLE, Int.reduceEq, Int.reduceNe]
    simp (disch := omega) only [wrap_id]
    rw [List.append_assoc, show (numsI j).map (fun i => (⟨false, i⟩ : Sy)) ++ [⟨false, (j : Int)⟩] = (numsI (j + 1)).map (fun i => (⟨false, i⟩ : Sy)) by rw [numsI_succ]; simp] at hB'
    exact ⟨f - 1, by omega, Up.sel [[1]] (by decide) fun _ _ => ⟨_, rfl, j + 1, v', rfl, by omega, hB'⟩⟩
  obtain rfl : j = N := by omega
  rw [show (numsI k).map (fun i => (⟨true, i⟩ : Sy)) ++ (numsI j).map (fun i => (⟨false, i⟩ : Sy)) = symsF k j from rfl] at hB
  have hs4 := bnd_syms hT hN
  obtain ⟨syms, hsy⟩ : ∃ s, s = symsF k j := ⟨_, rfl⟩
  rw [← hsy] at hB hs4
  obtain ⟨As, cs, rfl, hS⟩ := hB.slok (Mem.le.refl _) (lk_sub (by simp)) (by omega)
  have hrf : rulesF k j = (numsI j).flatMap (rulesA syms) := by rw [hsy]; rfl
  -- by nonterminals
  refine s_loop (fun f vs Γ => ∃ gs go gi : PH, Γ = [gs, go, gi] ∧ ∃ (a : Nat) (u : Value) (out : List Ru), vs = [.v true u, .v true (.int .i64 a)] ∧ a + f = j ∧ SlOk (lk [gs]) As cs syms ∧ Bld go (lk [gi]) 37 u out ∧ out.length ≤ a * 40 ∧ out = (numsI a).flatMap (rulesA syms)) j
    (Up.sel [[0], [], []] (by decide) fun _ _ => ⟨_, _, _, rfl, 0, _, [], rfl, by omega, hS, Bld.nil _ _ _, by simp, rfl⟩) ?_
  rintro f vs Γ ⟨gs, go, gi, rfl, a, u, out, rfl, haf, hS, hO, hol, hout⟩
  simp only [S24_6, go_sem, Nat.reduceBEq, Nat.reduceAdd, Nat.reduceSub, Nat.reduceMul, Nat.reduceLeDiff, reduceCtorEq, ↓reduceIte, Int.reduceLT, Int.reduceLE, Int.reduceEq, Int.reduceNe]
  refine ⟨fun hlt => ?_, fun hge => ?_⟩
  · intro b
    refine s_app1 (ix := 2) (x := (⟨(a : Int), []⟩ : Ru)) (L' := lk [gi]) (cs := [.int .i64 a, .slice none 0 0]) rfl hO (Mem.le.refl _) ⟨none, 0, rfl, SlOk.nil⟩ cells_one rfl (by omega) (by simp [maxLen]; omega) ?_
    intro v1 go1 hO1 _
    simp only [go_sem, Nat.reduceBEq, Nat.reduceAdd, Nat.reduceSub, Nat.reduceMul, Nat.reduceLeDiff, reduceCtorEq, ↓reduceIte, Int.reduceLT, Int.reduceLE, Int.reduceEq, Int.reduceNe]
    -- one symbol
    refine s_loop (fun f vs Γ => ∃ gs go gi : PH, Γ = [gs, go, gi] ∧ ∃ (i : Nat) (u : Value), vs = [.v true u, .v true (.int .i64 i)] ∧ i + f = syms.length ∧ SlOk (lk [gs]) As cs syms ∧
        Bld go (lk [gi]) 37 u (out ++ [⟨(a : Int), []⟩] ++ (syms.take i).map (fun x => (⟨(a : Int), [x]⟩ : Ru)))) syms.length
      (Up.sel [[1], [2], [0, 3]] (by decide) fun _ le => ⟨_, _, _, rfl, 0, _, rfl, by omega, hS, by
        rw [List.take_zero, List.map_nil, List.append_nil]
        exact hO1.mono (Mem.le.refl _) ((lk_sub (by simp [sel])).trans (le [0, 3] (by simp)))⟩) ?_
    rintro f2 vs Γ ⟨gs, go, gi, rfl, i, u, rfl, hif, hS, hO⟩
    simp only [S24_3, go_sem, Nat.reduceBEq, Nat.reduceAdd, Nat.reduceSub, Nat.reduceMul, Nat.reduceLeDiff, reduceCtorEq, ↓reduceIte, Int.reduceLT, Int.reduceLE, Int.reduceEq, Int.reduceNe]
    refine ⟨fun hlt => ?_, fun hge => ?_⟩
    · have hi : i < syms.length := by omega
      obtain ⟨b1, o1, hA, hc1⟩ := hS.sy hi
      refine s_idx hA (by omega) (by omega) ?_
      simp only [go_sem, Nat.reduceBEq, Nat.reduceAdd, Nat.reduceSub, Nat.reduceMul, Nat.reduceLeDiff, reduceCtorEq, ↓reduceIte, Int.reduceLT, Int.reduceLE, Int.reduceEq, Int.reduceNe]
      refine s_ld0 (hc1 _ (lk_sub (by simp))) (by simp) (by simp) ?_
      simp only [go_sem, Nat.reduceBEq, Nat.reduceAdd, Nat.reduceSub, Nat.reduceMul, Nat.reduceLeDiff, reduceCtorEq, ↓reduceIte, Int.reduceLT, Int.reduceLE, Int.reduceEq, Int.reduceNe]
      intro b2 b3 b4
      refine s_app1 (ix := 3) (x := (⟨(a : Int), [syms[i]]⟩ : Ru)) (L' := lk [V.one b3 (.cells [.bool syms[i].t, .int .i64 syms[i].n].toArray 39), gi]) (cs := [.int .i64 a, .slice (some ⟨b3, 0, none⟩) 1 1]) rfl hO (lk_sub (by simp)) ⟨_, 1, rfl, lit_rep1 _ lk_head rfl⟩ cells_one rfl (by simp; omega) (by simp [maxLen]; omega) ?_
      intro v2 go2 hO2 _
      simp only [go_sem, Nat.reduceBEq, Nat.reduceAdd, Nat.reduceSub, Nat.reduceMul, Nat.reduceLeDiff, reduceCtorEq, ↓reduceIte, Int.reduceLT, Int.reduceLE, Int.reduceEq, Int.reduceNe]
      simp (disch := omega) only [wrap_id]
      refine ⟨f2 - 1, by omega, Up.sel [[2], [3], [1, 4]] (by decide) fun _ le => ⟨_, _, _, rfl, i + 1, _, rfl, by omega, hS, ?_⟩⟩
      rw [List.take_succ_eq_append_getElem hi, List.map_append, ← List.append_assoc]
      exact hO2.mono (Mem.le.refl _) (le [1, 4] (by simp))
    have hi : i = syms.length := by omega
    rw [hi, List.take_length] at hO
    obtain ⟨out2, ho2⟩ : ∃ o, o = out ++ [⟨(a : Int), []⟩] ++ syms.map (fun x => (⟨(a : Int), [x]⟩ : Ru)) := ⟨_, rfl⟩
    rw [← ho2] at hO
    have hol2 : out2.length ≤ a * 40 + 5 := by rw [ho2]; simp; omega
    -- two symbols
    refine s_loop (fun f vs Γ => ∃ gs go gi : PH, Γ = [gs, go, gi] ∧ ∃ (i : Nat) (u : Value) (out3 : List Ru), vs = [.v true u, .v true (.int .i64 i)] ∧ i + f = syms.length ∧ SlOk (lk [gs]) As cs syms ∧
        Bld go (lk [gi]) 37 u out3 ∧ out3.length ≤ a * 40 + 5 + i * 4 ∧ out3 = out2 ++ (syms.take i).flatMap (fun x => syms.map fun y => (⟨(a : Int), [x, y]⟩ : Ru))) syms.length
      (Up.here ⟨_, _, _, rfl, 0, _, out2, rfl, by omega, hS, hO, by omega, by simp⟩) ?_
    rintro f3 vs Γ ⟨gs, go, gi, rfl, i, u, out3, rfl, hif, hS, hO, hol3, ho3⟩
    simp only [S24_5, go_sem, Nat.reduceBEq, Nat.reduceAdd, Nat.reduceSub, Nat.reduceMul, Nat.reduceLeDiff, reduceCtorEq, ↓reduceIte, Int.reduceLT, Int.reduceLE, Int.reduceEq, Int.reduceNe]
    refine ⟨fun hlt => ?_, fun hge => ?_⟩
    · have hi : i < syms.length := by omega
      obtain ⟨b1, o1, hA, hc1⟩ := hS.sy hi
      refine s_idx hA (by omega) (by omega) ?_
      simp only [go_sem, Nat.reduceBEq, Nat.reduceAdd, Nat.reduceSub, Nat.reduceMul, Nat.reduceLeDiff, reduceCtorEq, ↓reduceIte, Int.reduceLT, Int.reduceLE, Int.reduceEq, Int.reduceNe]
      refine s_ld0 (hc1 _ (lk_sub (by simp))) (by simp) (by simp) ?_
      simp only [go_sem, Nat.reduceBEq, Nat.reduceAdd, Nat.reduceSub, Nat.reduceMul, Nat.reduceLeDiff, reduceCtorEq, ↓reduceIte, Int.reduceLT, Int.reduceLE, Int.reduceEq, Int.reduceNe]
      intro b2
      refine s_loop (fun f vs Γ => ∃ gs go gi : PH, Γ = [gs, go, gi] ∧ ∃ (p : Nat) (u : Value), vs = [.v true u, .v true (.int .i64 p)] ∧ p + f = syms.length ∧ SlOk (lk [gs]) As cs syms ∧
          Bld go (lk [gi]) 37 u (out3 ++ (syms.take p).map (fun y => (⟨(a : Int), [syms[i], y]⟩ : Ru)))) syms.length
        (Up.here ⟨_, _, _, rfl, 0, _, rfl, by omega, hS, by rw [List.take_zero, List.map_nil, List.append_nil]; exact hO⟩) ?_
      rintro f4 vs Γ ⟨gs, go, gi, rfl, p, u, rfl, hpf, hS, hO⟩
      simp only [S24_4, go_sem, Nat.reduceBEq, Nat.reduceAdd, Nat.reduceSub, Nat.reduceMul, Nat.reduceLeDiff, reduceCtorEq, ↓reduceIte, Int.reduceLT, Int.reduceLE, Int.reduceEq, Int.reduceNe]
      refine ⟨fun hlt => ?_, fun hge => ?_⟩
      · have hp : p < syms.length := by omega
        obtain ⟨b3, o3, hA3, hc3⟩ := hS.sy hp
        refine s_idx hA3 (by omega) (by omega) ?_
        simp only [go_sem, Nat.reduceBEq, Nat.reduceAdd, Nat.reduceSub, Nat.reduceMul, Nat.reduceLeDiff, reduceCtorEq, ↓reduceIte, Int.reduceLT, Int.reduceLE, Int.reduceEq, Int.reduceNe]
        refine s_ld0 (hc3 _ (lk_sub (by simp))) (by simp) (by simp) ?_
        simp only [go_sem, Nat.reduceBEq, Nat.reduceAdd, Nat.reduceSub, Nat.reduceMul, Nat.reduceLeDiff, reduceCtorEq, ↓reduceIte, Int.reduceLT, Int.reduceLE, Int.reduceEq, Int.reduceNe]
        intro b4 b5 b6
        refine s_app1 (ix := 3) (x := (⟨(a : Int), [syms[i], syms[p]]⟩ : Ru)) (L' := lk [V.one b5 (.cells [.bool syms[i].t, .int .i64 syms[i].n, .bool syms[p].t, .int .i64 syms[p].n].toArray 39), gi]) (cs := [.int .i64 a, .slice (some ⟨b5, 0, none⟩) 2 2]) rfl hO (lk_sub (by simp)) ⟨_, 2, rfl, lit_rep2 _ _ lk_head rfl rfl rfl⟩ cells_one rfl (by simp; omega) (by simp [maxLen]; omega) ?_
        intro v2 go2 hO2 _
        simp only [go_sem, Nat.reduceBEq, Nat.reduceAdd, Nat.reduceSub, Nat.reduceMul, Nat.reduceLeDiff, reduceCtorEq, ↓reduceIte, Int.reduceLT, Int.reduceLE, Int.reduceEq, Int.reduceNe]
        simp (disch := omega) only [wrap_id]
        refine ⟨f4 - 1, by omega, Up.sel [[2], [3], [1, 4]] (by decide) fun _ le => ⟨_, _, _, rfl, p + 1, _, rfl, by omega, hS, ?_⟩⟩
        rw [List.take_succ_eq_append_getElem hp, List.map_append, ← List.append_assoc]
        exact hO2.mono (Mem.le.refl _) (le [1, 4] (by simp))
      · have hp : p = syms.length := by omega
        rw [hp, List.take_length] at hO
        simp (disch := omega) only [wrap_id]
        refine ⟨f3 - 1, by omega, Up.here ⟨_, _, _, rfl, i + 1, _, _, rfl, by omega, hS, hO, by simp; omega, ?_⟩⟩
        rw [List.take_succ_eq_append_getElem hi, List.flatMap_append, ← List.append_assoc, ← ho3]
        simp
    · have hi : i = syms.length := by omega
      rw [hi, List.take_length] at ho3
      simp (disch := omega) only [wrap_id]
      refine ⟨f - 1, by omega, Up.here ⟨_, _, _, rfl, a + 1, _, out3, rfl, by omega, hS, hO, by omega, ?_⟩⟩
      rw [numsI_succ, List.flatMap_append, ← hout, ho3, ho2]
      simp [rulesA]
  · obtain rfl : a = j := by omega
    refine Up.one fun g3 hg3 => ?_
    obtain ⟨B, cb, rfl, hs⟩ := hO.slok (L' := lk [g3]) ((lk_m (by simp)).trans hg3) ((lk_m (by simp)).trans hg3) (by omega)
    subst hR
    rw [hres, hrf, ← hout]
    exact ⟨g3, B, cb, rfl, hs, rfl⟩
end Go.Proofs.Ytniobbepliknmaa.V
