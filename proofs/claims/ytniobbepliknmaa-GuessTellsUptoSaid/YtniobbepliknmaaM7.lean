/- Texts put together, in the order in which they build; each says what it proves; no condition. -/
import Derived.Test.YtniobbepliknmaaM3
import Derived.Test.YtniobbepliknmaaM6
import Derived.Test.YtniobbepliknmaaM2
import Derived.Test.YtniobbepliknmaaProg
import Derived.Test.YtniobbepliknmaaM5
/- The rules of which grammars are guessed: guess.Rules walked; no condition. -/
namespace Go.Proofs.Ytniobbepliknmaa.V
open Go
set_option linter.unusedVariables false
set_option linter.unusedSimpArgs false
attribute [local go_sem] e_seq e_region e_quiet e_join e_loop e_cond e_block e_exit e_ret e_skip e_fin e_kseq e_snrm e_sret e_sex e_bnrm e_bret e_bex e_rnrm e_rret e_res e_condC e_nil e_g e_mv g_mv e_pick g_pick pickC_eq e_ibin g_ibin ibinC_eq e_sbin g_sbin e_beq g_beq beqC_eq e_nilq g_nilq nilqC_sl nilqC_pt nilqC_mp e_un g_un unC_not unC_neg e_conv g_conv convC_eq e_fld g_fld fldC_ref fldC_ptr e_nilCheck g_nilCheck nilCheckC_ref nilCheckC_ptr nilCheckC_fun e_field g_field fieldC_eq e_len g_len lenC_sl lenC_str e_extract g_extract extractC_eq e_mkFunc e_build g_build e_idiv g_idiv idivC_eq e_ishift g_ishift ishiftC_eq e_idx g_idx e_idxA g_idxA e_load g_load loadC_ref loadC_ptr loadB_eq e_slc g_slc e_box boxC_loc boxC_esc e_alloc allocC_loc allocC_esc e_buildS e_store storeC_ref storeC_ptr storeB_eq e_append e_appz e_mk mkC_eq e_call callC_eq e_fn g_fn fnC_eq fnV_min' fnV_max' fnV_rune' e_q g_q e_a e_n g_call g_box g_alloc g_buildS g_store g_append g_mk g_a g_n g_dead e_dead e_callK e_drawn e_tree e_finJ e_tk e_tfin e_tno e_nbt_q e_nbt_qn e_nbt_a e_nbt_an e_nbt_fin e_early_nil e_early_t e_early_f e_nob_nil e_nob_none e_nob_some isBox_dead isBox_v isBox_ref e_dnil e_dk e_ek e_finB vcOps_vc1 e_dcons e_tq e_ekt e_tearly e_talt e_dearly look_nil look_c proj_nil proj_c looks_nil looks_c zip_nil zip_c val_tmp val_const val_func slv_v slv_box slv_ref slot_tmp slot_const slot_func slotL_v slotL_box slotL_ref put_some put_none updBox_c boxSet_box gd_eq slotVals_nil slotVals_c slotVals_b boxV_box boxOn_box slotsOn_nil slotsOn_c slotsOn_b resV_one resV_two vals_nil vals_c allOn_nil allOn_c partOn_nil partOn_c partVals_nil partVals_c fits_nil fits_c fillL_nil fillL_c mkv_one mkv_agg cellsV_agg cellsV_int cellsV_bool cellsV_slice cellsV_string cellsV_pointer cellsV_func cellsV_nilf cellsV_map one'_nil one'_c oc_int oc_bool oc_slice oc_string oc_pointer oc_func oc_nilf oc_map setC_eq iv_add iv_sub iv_mul iv_eql iv_neq iv_lss iv_leq iv_gtr iv_geq iok_add iok_sub iok_mul iok_eql iok_neq iok_lss iok_leq iok_gtr iok_geq pickV_bool args0_nil args0_c bnd_none bnd_some imp_bt imp_bf imp_ebt imp_ebf imp_eb1 imp_np imp_pp beq_tt beq_tf beq_ft beq_ff cond_or cond_and e_round e_meet Int.le_refl Int.toNat_zero decide_true decide_false Bool.or_false Bool.false_or Bool.true_or Bool.or_true Bool.and_false Bool.false_and Bool.bne_false Bool.bne_true beq_iff_eq Int.cast_ofNat_Int not_false_eq_true not_true_eq_false false_and and_false false_implies true_implies true_and and_true Bool.true_and Bool.and_true Bool.not_true Bool.not_false forall_const implies_true List.take_zero List.drop_zero List.take_succ_cons List.drop_succ_cons List.take_nil List.drop_nil List.length_cons List.length_nil List.nil_append List.append_nil List.cons_append Int.toNat_natCast decide_eq_true_eq decide_eq_false_iff_not cond_true cond_false and_self List.getElem?_cons_zero List.getElem?_cons_succ List.set_cons_zero List.set_cons_succ Option.some.injEq exists_eq_left' Nat.zero_add Nat.add_zero Nat.mul_one imp_self true_or or_true or_false false_or Bool.or_eq_true Bool.or_eq_false_iff Bool.and_eq_true Bool.and_eq_false_iff Bool.not_eq_true' Bool.not_eq_false'

def symsF (t n : Nat) : List Sy := (numsI t).map (fun i => ⟨true, i⟩) ++ (numsI n).map (fun i => ⟨false, i⟩)
def rulesA (syms : List Sy) (a : Int) : List Ru := ⟨a, []⟩ :: (syms.map (fun x => ⟨a, [x]⟩) ++ syms.flatMap (fun x => syms.map fun y => ⟨a, [x, y]⟩))
def rulesF (t n : Nat) : List Ru := (numsI n).flatMap (rulesA (symsF t n))
def badTN (t n : Int) : Prop := t < 1 ∨ 2 < t ∨ n < 1 ∨ 2 < n
instance (t n : Int) : Decidable (badTN t n) := by unfold badTN; infer_instance
def rulesR (t n : Int) : List Ru × Int := if badTN t n then ([], 1) else (rulesF t.toNat n.toNat, 0)

theorem symsF_len (t n : Nat) : (symsF t n).length = t + n := by simp [symsF, numsI_len]
theorem bnd_syms {t n : Nat} (ht : t ≤ 2) (hn : n ≤ 2) : (symsF t n).length ≤ 4 := by rw [symsF_len]; omega

theorem guess_rules {Γr : Ctx} (t n : Int) :
    Ret Try.prog 24 [.int .i64 t, .int .i64 n] Γr [] (fun v Γ => ∃ g A c, Γ = [g] ∧ SlOk (lk [g]) A c (rulesR t n).1 ∧
      v = .tuple #[.slice A (rulesR t n).1.length c, .int .i64 (rulesR t n).2]) := by
  generalize hR : (fun (v : Value) (Γ : Ctx) => ∃ g A c, _) = R
  refine ret_of_vc tr24 (Nat.le_of_ble_eq_true rfl) ?_
  simp only [S24, S24_0, go_sem, Nat.reduceBEq, Nat.reduceAdd, Nat.reduceSub, Nat.reduceMul, Nat.reduceLeDiff, reduceCtorEq, ↓reduceIte, Int.reduceLT, Int.reduceLE, Int.reduceEq, Int.reduceNe]
  refine ⟨fun h => Up.one fun g _ => ?_, fun hok => ?_⟩
  · have hb : badTN t n := by unfold badTN; omega
    subst hR
    have : rulesR t n = ([], 1) := by unfold rulesR; rw [if_pos hb]
    rw [this]
    exact ⟨g, none, 0, rfl, SlOk.nil, rfl⟩
  have hb : ¬ badTN t n := by unfold badTN; omega
  obtain ⟨T, rfl⟩ : ∃ m : Nat, t = m := ⟨t.toNat, by omega⟩
  obtain ⟨N, rfl⟩ : ∃ m : Nat, n = m := ⟨n.toNat, by omega⟩
  have hT : T ≤ 2 := by omega
  have hN : N ≤ 2 := by omega
  have hres : rulesR T N = (rulesF T N, 0) := by unfold rulesR; rw [if_neg hb, Int.toNat_natCast, Int.toNat_natCast]
  -- the terminals
  refine s_loop (fun f vs Γ => ∃ g : PH, Γ = [g] ∧ ∃ (k : Nat) (u : Value), vs = [.v true u, .v true (.int .i64 k)] ∧ k + f = T ∧ Bld g (lk []) 39 u ((numsI k).map (fun i => (⟨true, i⟩ : Sy)))) T
    (Up.sel [[]] (by decide) fun _ _ => ⟨_, rfl, 0, _, rfl, by omega, Bld.nil _ _ _⟩) ?_
  rintro f vs Γ ⟨g, rfl, k, u, rfl, hkf, hB⟩
  have hkl := numsI_len k
  simp only [S24_1, go_sem, Nat.reduceBEq, Nat.reduceAdd, Nat.reduceSub, Nat.reduceMul, Nat.reduceLeDiff, reduceCtorEq, ↓reduceIte, Int.reduceLT, Int.reduceLE, Int.reduceEq, Int.reduceNe]
  refine ⟨fun hlt => ?_, fun hge => ?_⟩
  · intro b
    refine s_app1 (ix := 1) (x := (⟨true, (k : Int)⟩ : Sy)) (L' := lk []) (cs := [.bool true, .int .i64 k]) rfl hB (Mem.le.refl _) rfl cells_one rfl (by simp [hkl]; omega) (by simp [maxLen, hkl]; omega) ?_
    intro v' g' hB' _
    simp only [go_sem, Nat.reduceBEq, Nat.reduceAdd, Nat.reduceSub, Nat.reduceMul, Nat.reduceLeDiff, reduceCtorEq, ↓reduceIte, Int.reduceLT, Int.reduceLE, Int.reduceEq, Int.reduceNe]
    simp (disch := omega) only [wrap_id]
    rw [show (numsI k).map (fun i => (⟨true, i⟩ : Sy)) ++ [⟨true, (k : Int)⟩] = (numsI (k + 1)).map (fun i => (⟨true, i⟩ : Sy)) by rw [numsI_succ]; simp] at hB'
    exact ⟨f - 1, by omega, Up.sel [[1]] (by decide) fun _ _ => ⟨_, rfl, k + 1, v', rfl, by omega, hB'⟩⟩
  obtain rfl : k = T := by omega
  -- the nonterminals
  refine s_loop (fun f vs Γ => ∃ g : PH, Γ = [g] ∧ ∃ (j : Nat) (u : Value), vs = [.v true u, .v true (.int .i64 j)] ∧ j + f = N ∧ Bld g (lk []) 39 u ((numsI k).map (fun i => (⟨true, i⟩ : Sy)) ++ (numsI j).map (fun i => (⟨false, i⟩ : Sy)))) N
    (Up.here ⟨_, rfl, 0, _, rfl, by omega, by rw [show (numsI 0).map (fun i => (⟨false, i⟩ : Sy)) = [] from rfl, List.append_nil]; exact hB⟩) ?_
  rintro f vs Γ ⟨g, rfl, j, u, rfl, hjf, hB⟩
  have hjl := numsI_len j
  simp only [S24_2, go_sem, Nat.reduceBEq, Nat.reduceAdd, Nat.reduceSub, Nat.reduceMul, Nat.reduceLeDiff, reduceCtorEq, ↓reduceIte, Int.reduceLT, Int.reduceLE, Int.reduceEq, Int.reduceNe]
  refine ⟨fun hlt => ?_, fun hge => ?_⟩
  · intro b
    refine s_app1 (ix := 1) (x := (⟨false, (j : Int)⟩ : Sy)) (L' := lk []) (cs := [.bool false, .int .i64 j]) rfl hB (Mem.le.refl _) rfl cells_one rfl (by simp [hkl, hjl]; omega) (by simp [maxLen, hkl, hjl]; omega) ?_
    intro v' g' hB' _
    simp only [go_sem, Nat.reduceBEq, Nat.reduceAdd, Nat.reduceSub, Nat.reduceMul, Nat.reduceLeDiff, reduceCtorEq, ↓reduceIte, Int.reduceLT, Int.reduceLE, Int.reduceEq, Int.reduceNe]
    simp (disch := omega) only [wrap_id]
    rw [List.append_assoc, show (numsI j).map (fun i => (⟨false, i⟩ : Sy)) ++ [⟨false, (j : Int)⟩] = (numsI (j + 1)).map (fun i => (⟨false, i⟩ : Sy)) by rw [numsI_succ]; simp] at hB'
    exact ⟨f - 1, by omega, Up.sel [[1]] (by decide) fun _ _ => ⟨_, rfl, j + 1, v', rfl, by omega, hB'⟩⟩
  obtain rfl : j = N := by omega
  rw [show (numsI k).map (fun i => (⟨true, i⟩ : Sy)) ++ (numsI j).map (fun i => (⟨false, i⟩ : Sy)) = symsF k j from rfl] at hB
  have hs4 := bnd_syms hT hN
  obtain ⟨syms, hsy⟩ : ∃ s, s = symsF k j := ⟨_, rfl⟩
  rw [← hsy] at hB hs4
  obtain ⟨As, cs, rfl, hS⟩ := hB.slok (Mem.le.refl _) (lk_sub (by simp)) (by omega)
  have hrf : rulesF k j = (numsI j).flatMap (rulesA syms) := by rw [hsy]; rfl
  -- by nonterminals
  refine s_loop (fun f vs Γ => ∃ gs go gi : PH, Γ = [gs, go, gi] ∧ ∃ (a : Nat) (u : Value) (out : List Ru), vs = [.v true u, .v true (.int .i64 a)] ∧ a + f = j ∧ SlOk (lk [gs]) As cs syms ∧ Bld go (lk [gi]) 37 u out ∧ out.length ≤ a * 40 ∧ out = (numsI a).flatMap (rulesA syms)) j
    (Up.sel [[0], [], []] (by decide) fun _ _ => ⟨_, _, _, rfl, 0, _, [], rfl, by omega, hS, Bld.nil _ _ _, by simp, rfl⟩) ?_
  rintro f vs Γ ⟨gs, go, gi, rfl, a, u, out, rfl, haf, hS, hO, hol, hout⟩
  simp only [S24_6, go_sem, Nat.reduceBEq, Nat.reduceAdd, Nat.reduceSub, Nat.reduceMul, Nat.reduceLeDiff, reduceCtorEq, ↓reduceIte, Int.reduceLT, Int.reduceLE, Int.reduceEq, Int.reduceNe]
  refine ⟨fun hlt => ?_, fun hge => ?_⟩
  · intro b
    refine s_app1 (ix := 2) (x := (⟨(a : Int), []⟩ : Ru)) (L' := lk [gi]) (cs := [.int .i64 a, .slice none 0 0]) rfl hO (Mem.le.refl _) ⟨none, 0, rfl, SlOk.nil⟩ cells_one rfl (by omega) (by simp [maxLen]; omega) ?_
    intro v1 go1 hO1 _
    simp only [go_sem, Nat.reduceBEq, Nat.reduceAdd, Nat.reduceSub, Nat.reduceMul, Nat.reduceLeDiff, reduceCtorEq, ↓reduceIte, Int.reduceLT, Int.reduceLE, Int.reduceEq, Int.reduceNe]
    -- one symbol
    refine s_loop (fun f vs Γ => ∃ gs go gi : PH, Γ = [gs, go, gi] ∧ ∃ (i : Nat) (u : Value), vs = [.v true u, .v true (.int .i64 i)] ∧ i + f = syms.length ∧ SlOk (lk [gs]) As cs syms ∧
        Bld go (lk [gi]) 37 u (out ++ [⟨(a : Int), []⟩] ++ (syms.take i).map (fun x => (⟨(a : Int), [x]⟩ : Ru)))) syms.length
      (Up.sel [[1], [2], [0, 3]] (by decide) fun _ le => ⟨_, _, _, rfl, 0, _, rfl, by omega, hS, by
        rw [List.take_zero, List.map_nil, List.append_nil]
        exact hO1.mono (Mem.le.refl _) ((lk_sub (by simp [sel])).trans (le [0, 3] (by simp)))⟩) ?_
    rintro f2 vs Γ ⟨gs, go, gi, rfl, i, u, rfl, hif, hS, hO⟩
    simp only [S24_3, go_sem, Nat.reduceBEq, Nat.reduceAdd, Nat.reduceSub, Nat.reduceMul, Nat.reduceLeDiff, reduceCtorEq, ↓reduceIte, Int.reduceLT, Int.reduceLE, Int.reduceEq, Int.reduceNe]
    refine ⟨fun hlt => ?_, fun hge => ?_⟩
    · have hi : i < syms.length := by omega
      obtain ⟨b1, o1, hA, hc1⟩ := hS.sy hi
      refine s_idx hA (by omega) (by omega) ?_
      simp only [go_sem, Nat.reduceBEq, Nat.reduceAdd, Nat.reduceSub, Nat.reduceMul, Nat.reduceLeDiff, reduceCtorEq, ↓reduceIte, Int.reduceLT, Int.reduceLE, Int.reduceEq, Int.reduceNe]
      refine s_ld0 (hc1 _ (lk_sub (by simp))) (by simp) (by simp) ?_
      simp only [go_sem, Nat.reduceBEq, Nat.reduceAdd, Nat.reduceSub, Nat.reduceMul, Nat.reduceLeDiff, reduceCtorEq, ↓reduceIte, Int.reduceLT, Int.reduceLE, Int.reduceEq, Int.reduceNe]
      intro b2 b3 b4
      refine s_app1 (ix := 3) (x := (⟨(a : Int), [syms[i]]⟩ : Ru)) (L' := lk [V.one b3 (.cells [.bool syms[i].t, .int .i64 syms[i].n].toArray 39), gi]) (cs := [.int .i64 a, .slice (some ⟨b3, 0, none⟩) 1 1]) rfl hO (lk_sub (by simp)) ⟨_, 1, rfl, lit_rep1 _ lk_head rfl⟩ cells_one rfl (by simp; omega) (by simp [maxLen]; omega) ?_
      intro v2 go2 hO2 _
      simp only [go_sem, Nat.reduceBEq, Nat.reduceAdd, Nat.reduceSub, Nat.reduceMul, Nat.reduceLeDiff, reduceCtorEq, ↓reduceIte, Int.reduceLT, Int.reduceLE, Int.reduceEq, Int.reduceNe]
      simp (disch := omega) only [wrap_id]
      refine ⟨f2 - 1, by omega, Up.sel [[2], [3], [1, 4]] (by decide) fun _ le => ⟨_, _, _, rfl, i + 1, _, rfl, by omega, hS, ?_⟩⟩
      rw [List.take_succ_eq_append_getElem hi, List.map_append, ← List.append_assoc]
      exact hO2.mono (Mem.le.refl _) (le [1, 4] (by simp))
    have hi : i = syms.length := by omega
    rw [hi, List.take_length] at hO
    obtain ⟨out2, ho2⟩ : ∃ o, o = out ++ [⟨(a : Int), []⟩] ++ syms.map (fun x => (⟨(a : Int), [x]⟩ : Ru)) := ⟨_, rfl⟩
    rw [← ho2] at hO
    have hol2 : out2.length ≤ a * 40 + 5 := by rw [ho2]; simp; omega
    -- two symbols
    refine s_loop (fun f vs Γ => ∃ gs go gi : PH, Γ = [gs, go, gi] ∧ ∃ (i : Nat) (u : Value) (out3 : List Ru), vs = [.v true u, .v true (.int .i64 i)] ∧ i + f = syms.length ∧ SlOk (lk [gs]) As cs syms ∧
        Bld go (lk [gi]) 37 u out3 ∧ out3.length ≤ a * 40 + 5 + i * 4 ∧ out3 = out2 ++ (syms.take i).flatMap (fun x => syms.map fun y => (⟨(a : Int), [x, y]⟩ : Ru))) syms.length
      (Up.here ⟨_, _, _, rfl, 0, _, out2, rfl, by omega, hS, hO, by omega, by simp⟩) ?_
    rintro f3 vs Γ ⟨gs, go, gi, rfl, i, u, out3, rfl, hif, hS, hO, hol3, ho3⟩
    simp only [S24_5, go_sem, Nat.reduceBEq, Nat.reduceAdd, Nat.reduceSub, Nat.reduceMul, Nat.reduceLeDiff, reduceCtorEq, ↓reduceIte, Int.reduceLT, Int.reduceLE, Int.reduceEq, Int.reduceNe]
    refine ⟨fun hlt => ?_, fun hge => ?_⟩
    · have hi : i < syms.length := by omega
      obtain ⟨b1, o1, hA, hc1⟩ := hS.sy hi
      refine s_idx hA (by omega) (by omega) ?_
      simp only [go_sem, Nat.reduceBEq, Nat.reduceAdd, Nat.reduceSub, Nat.reduceMul, Nat.reduceLeDiff, reduceCtorEq, ↓reduceIte, Int.reduceLT, Int.reduceLE, Int.reduceEq, Int.reduceNe]
      refine s_ld0 (hc1 _ (lk_sub (by simp))) (by simp) (by simp) ?_
      simp only [go_sem, Nat.reduceBEq, Nat.reduceAdd, Nat.reduceSub, Nat.reduceMul, Nat.reduceLeDiff, reduceCtorEq, ↓reduceIte, Int.reduceLT, Int.reduceLE, Int.reduceEq, Int.reduceNe]
      intro b2
      refine s_loop (fun f vs Γ => ∃ gs go gi : PH, Γ = [gs, go, gi] ∧ ∃ (p : Nat) (u : Value), vs = [.v true u, .v true (.int .i64 p)] ∧ p + f = syms.length ∧ SlOk (lk [gs]) As cs syms ∧
          Bld go (lk [gi]) 37 u (out3 ++ (syms.take p).map (fun y => (⟨(a : Int), [syms[i], y]⟩ : Ru)))) syms.length
        (Up.here ⟨_, _, _, rfl, 0, _, rfl, by omega, hS, by rw [List.take_zero, List.map_nil, List.append_nil]; exact hO⟩) ?_
      rintro f4 vs Γ ⟨gs, go, gi, rfl, p, u, rfl, hpf, hS, hO⟩
      simp only [S24_4, go_sem, Nat.reduceBEq, Nat.reduceAdd, Nat.reduceSub, Nat.reduceMul, Nat.reduceLeDiff, reduceCtorEq, ↓reduceIte, Int.reduceLT, Int.reduceLE, Int.reduceEq, Int.reduceNe]
      refine ⟨fun hlt => ?_, fun hge => ?_⟩
      · have hp : p < syms.length := by omega
        obtain ⟨b3, o3, hA3, hc3⟩ := hS.sy hp
        refine s_idx hA3 (by omega) (by omega) ?_
        simp only [go_sem, Nat.reduceBEq, Nat.reduceAdd, Nat.reduceSub, Nat.reduceMul, Nat.reduceLeDiff, reduceCtorEq, ↓reduceIte, Int.reduceLT, Int.reduceLE, Int.reduceEq, Int.reduceNe]
        refine s_ld0 (hc3 _ (lk_sub (by simp))) (by simp) (by simp) ?_
        simp only [go_sem, Nat.reduceBEq, Nat.reduceAdd, Nat.reduceSub, Nat.reduceMul, Nat.reduceLeDiff, reduceCtorEq, ↓reduceIte, Int.reduceLT, Int.reduceLE, Int.reduceEq, Int.reduceNe]
        intro b4 b5 b6
        refine s_app1 (ix := 3) (x := (⟨(a : Int), [syms[i], syms[p]]⟩ : Ru)) (L' := lk [V.one b5 (.cells [.bool syms[i].t, .int .i64 syms[i].n, .bool syms[p].t, .int .i64 syms[p].n].toArray 39), gi]) (cs := [.int .i64 a, .slice (some ⟨b5, 0, none⟩) 2 2]) rfl hO (lk_sub (by simp)) ⟨_, 2, rfl, lit_rep2 _ _ lk_head rfl rfl rfl⟩ cells_one rfl (by simp; omega) (by simp [maxLen]; omega) ?_
        intro v2 go2 hO2 _
        simp only [go_sem, Nat.reduceBEq, Nat.reduceAdd, Nat.reduceSub, Nat.reduceMul, Nat.reduceLeDiff, reduceCtorEq, ↓reduceIte, Int.reduceLT, Int.reduceLE, Int.reduceEq, Int.reduceNe]
        simp (disch := omega) only [wrap_id]
        refine ⟨f4 - 1, by omega, Up.sel [[2], [3], [1, 4]] (by decide) fun _ le => ⟨_, _, _, rfl, p + 1, _, rfl, by omega, hS, ?_⟩⟩
        rw [List.take_succ_eq_append_getElem hp, List.map_append, ← List.append_assoc]
        exact hO2.mono (Mem.le.refl _) (le [1, 4] (by simp))
      · have hp : p = syms.length := by omega
        rw [hp, List.take_length] at hO
        simp (disch := omega) only [wrap_id]
        refine ⟨f3 - 1, by omega, Up.here ⟨_, _, _, rfl, i + 1, _, _, rfl, by omega, hS, hO, by simp; omega, ?_⟩⟩
        rw [List.take_succ_eq_append_getElem hi, List.flatMap_append, ← List.append_assoc, ← ho3]
        simp
    · have hi : i = syms.length := by omega
      rw [hi, List.take_length] at ho3
      simp (disch := omega) only [wrap_id]
      refine ⟨f - 1, by omega, Up.here ⟨_, _, _, rfl, a + 1, _, out3, rfl, by omega, hS, hO, by omega, ?_⟩⟩
      rw [numsI_succ, List.flatMap_append, ← hout, ho3, ho2]
      simp [rulesA]
  · obtain rfl : a = j := by omega
    refine Up.one fun g3 hg3 => ?_
    obtain ⟨B, cb, rfl, hs⟩ := hO.slok (L' := lk [g3]) ((lk_m (by simp)).trans hg3) ((lk_m (by simp)).trans hg3) (by omega)
    subst hR
    rw [hres, hrf, ← hout]
    exact ⟨g3, B, cb, rfl, hs, rfl⟩
end Go.Proofs.Ytniobbepliknmaa.V
/- The text of parlance/guess.Of as a statement (slots: 0 terms, 1 nons, 2 yes, 3 no, 4 terms, 5 nons, 6 yes, 7 no, 10 rules, 11 e, 12 e, 13 k, 14 at, 15 g, 16 _, 17 i); no condition. -/
namespace Go.Proofs.Ytniobbepliknmaa.V
open Go
def S57_1 : Stmt :=
  Stmt.seq
  (Stmt.region [SOper.mk (some 53) none (SOp.ibin BinOp.lss (Operand.tmp 52) (Operand.tmp 51))]
    [0, 1, 2, 3, 8, 10, 14, 15, 36, 50, 51, 52, 53])
  (Stmt.seq (Stmt.cond (Operand.tmp 53) Stmt.skip (Stmt.exit 4))
    (Stmt.seq
      (Stmt.block 5
        (Stmt.seq
          (Stmt.region
            [SOper.mk (some 54) none (SOp.idx 1 (Operand.tmp 50) (Operand.tmp 52)),
              SOper.mk (some 55) none (SOp.load false 1 (Operand.tmp 54)),
              SOper.mk (some 17) none (SOp.mv (Operand.tmp 55))]
            [0, 1, 2, 3, 8, 10, 14, 15, 17, 36, 50, 51, 52])
          (Stmt.tree
            (DT.q (false, SOper.mk (some 56) none (SOp.fld 3 (Operand.tmp 15)))
              (DT.q (false, SOper.mk (some 58) none (SOp.mv (Operand.tmp 10)))
                (DT.q (false, SOper.mk (some 59) none (SOp.mv (Operand.tmp 17)))
                  (DT.q (false, SOper.mk (some 63) none (SOp.mv (Operand.tmp 10)))
                    (DT.q (false, SOper.mk (some 64) none (SOp.mv (Operand.tmp 17)))
                      (DT.q (false, SOper.mk (some 60) none (SOp.idx 2 (Operand.tmp 58) (Operand.tmp 59)))
                        (DT.q (false, SOper.mk (some 65) none (SOp.idx 2 (Operand.tmp 63) (Operand.tmp 64)))
                          (DT.q (false, SOper.mk (some 61) none (SOp.fld 0 (Operand.tmp 60)))
                            (DT.q (false, SOper.mk (some 66) none (SOp.fld 1 (Operand.tmp 65)))
                              (DT.q (true, SOper.mk (some 62) none (SOp.load false 1 (Operand.tmp 61)))
                                (DT.q (false, SOper.mk (some 67) none (SOp.load false 1 (Operand.tmp 66)))
                                  (DT.alt (false, SOper.mk (some 57) none (SOp.load false 1 (Operand.tmp 56)))
                                    (DT.alt
                                      (false, SOper.mk (some 68) none (SOp.call (Operand.func 129) [Operand.tmp 67]))
                                      (DT.q
                                        (false,
                                          SOper.mk (some 69) none
                                            (SOp.build 37 [Value.int IntKind.i64 0, Value.slice none 0 0]
                                              [(0, 1, Operand.tmp 62), (1, 1, Operand.tmp 68)]))
                                        (DT.alt
                                          (false,
                                            SOper.mk (some 70) none
                                              (SOp.buildS 37 1 [Value.int IntKind.i64 0, Value.slice none 0 0]
                                                [(0, 2, Operand.tmp 69)]))
                                          (DT.alt
                                            (false,
                                              SOper.mk (some 71) none
                                                (SOp.append 32 37 2 32
                                                  (Value.agg (Array.mk [Value.int IntKind.i64 0, Value.slice none 0 0]))
                                                  (Operand.tmp 57) (Operand.tmp 70)))
                                            (DT.q (false, SOper.mk (some 72) none (SOp.fld 3 (Operand.tmp 15)))
                                              (DT.alt
                                                (false,
                                                  SOper.mk none none (SOp.store 1 (Operand.tmp 72) (Operand.tmp 71)))
                                                DT.fin DT.no))
                                            DT.no)
                                          DT.no))
                                      DT.no)
                                    (DT.alt
                                      (false, SOper.mk (some 68) none (SOp.call (Operand.func 129) [Operand.tmp 67]))
                                      (DT.q
                                        (false,
                                          SOper.mk (some 69) none
                                            (SOp.build 37 [Value.int IntKind.i64 0, Value.slice none 0 0]
                                              [(0, 1, Operand.tmp 62), (1, 1, Operand.tmp 68)]))
                                        (DT.alt (false, SOper.mk (some 57) none (SOp.load false 1 (Operand.tmp 56)))
                                          (DT.alt
                                            (false,
                                              SOper.mk (some 70) none
                                                (SOp.buildS 37 1 [Value.int IntKind.i64 0, Value.slice none 0 0]
                                                  [(0, 2, Operand.tmp 69)]))
                                            (DT.alt
                                              (false,
                                                SOper.mk (some 71) none
                                                  (SOp.append 32 37 2 32
                                                    (Value.agg
                                                      (Array.mk [Value.int IntKind.i64 0, Value.slice none 0 0]))
                                                    (Operand.tmp 57) (Operand.tmp 70)))
                                              (DT.q (false, SOper.mk (some 72) none (SOp.fld 3 (Operand.tmp 15)))
                                                (DT.alt
                                                  (false,
                                                    SOper.mk none none (SOp.store 1 (Operand.tmp 72) (Operand.tmp 71)))
                                                  DT.fin DT.no))
                                              DT.no)
                                            DT.no)
                                          (DT.alt
                                            (false,
                                              SOper.mk (some 70) none
                                                (SOp.buildS 37 1 [Value.int IntKind.i64 0, Value.slice none 0 0]
                                                  [(0, 2, Operand.tmp 69)]))
                                            (DT.alt (false, SOper.mk (some 57) none (SOp.load false 1 (Operand.tmp 56)))
                                              (DT.alt
                                                (false,
                                                  SOper.mk (some 71) none
                                                    (SOp.append 32 37 2 32
                                                      (Value.agg
                                                        (Array.mk [Value.int IntKind.i64 0, Value.slice none 0 0]))
                                                      (Operand.tmp 57) (Operand.tmp 70)))
                                                (DT.q (false, SOper.mk (some 72) none (SOp.fld 3 (Operand.tmp 15)))
                                                  (DT.alt
                                                    (false,
                                                      SOper.mk none none
                                                        (SOp.store 1 (Operand.tmp 72) (Operand.tmp 71)))
                                                    DT.fin DT.no))
                                                DT.no)
                                              DT.no)
                                            DT.no)))
                                      DT.no)))))))))))))
            [0, 1, 2, 3, 8, 10, 14, 15, 36, 50, 51, 52])))
      (Stmt.region
        [SOper.mk (some 73) none (SOp.ibin BinOp.add (Operand.tmp 52) (Operand.const (Value.int IntKind.i64 1))),
          SOper.mk (some 52) none (SOp.mv (Operand.tmp 73))]
        [0, 1, 2, 3, 8, 10, 14, 15, 36, 50, 51, 52])))
def S57_2 : Stmt :=
  Stmt.seq
  (Stmt.seq
    (Stmt.region
      [SOper.mk (some 41) none (SOp.mv (Operand.tmp 14)),
        SOper.mk (some 42) none (SOp.nilq 0 true (Operand.tmp 41) (Operand.const (Value.slice none 0 0)))]
      [0, 1, 2, 3, 8, 10, 14, 36, 42])
    (Stmt.cond (Operand.tmp 42) Stmt.skip (Stmt.exit 2)))
  (Stmt.seq
    (Stmt.block 3
      (Stmt.seq
        (Stmt.region
          [SOper.mk (some 47) none (SOp.mv (Operand.tmp 0)), SOper.mk (some 48) none (SOp.mv (Operand.tmp 1)),
            SOper.mk (some 49) none
              (SOp.build 57
                [Value.int IntKind.i64 0, Value.int IntKind.i64 0, Value.int IntKind.i64 0, Value.slice none 0 0]
                [(0, 1, Operand.tmp 47), (1, 1, Operand.tmp 48)]),
            SOper.mk (some 15) none
              (SOp.alloc true 57
                (Value.agg
                  (Array.mk
                    [Value.int IntKind.i64 0, Value.int IntKind.i64 0, Value.int IntKind.i64 0,
                      Value.slice none 0 0]))),
            SOper.mk none none (SOp.store 4 (Operand.tmp 15) (Operand.tmp 49))]
          [0, 1, 2, 3, 8, 10, 14, 15, 36])
        (Stmt.seq
          (Stmt.seq
            (Stmt.region
              [SOper.mk (some 50) none (SOp.mv (Operand.tmp 14)),
                SOper.mk (some 51) none (SOp.len false (Operand.tmp 50)),
                SOper.mk (some 52) none (SOp.mv (Operand.const (Value.int IntKind.i64 0)))]
              [0, 1, 2, 3, 8, 10, 14, 15, 36, 50, 51, 52])
            (Stmt.block 4 (Stmt.loop S57_1 [15, 52] [0, 1, 2, 3, 8, 10, 14, 36, 50, 51])))
          (Stmt.seq
            (Stmt.region
              [SOper.mk (some 74) none (SOp.load true 4 (Operand.tmp 15)),
                SOper.mk (some 75) none (SOp.mv (Operand.tmp 2)), SOper.mk (some 76) none (SOp.mv (Operand.tmp 3)),
                SOper.mk (some 77) none (SOp.call (Operand.func 130) [Operand.tmp 74, Operand.tmp 75, Operand.tmp 76])]
              [0, 1, 2, 3, 8, 10, 14, 15, 36, 77])
            (Stmt.cond (Operand.tmp 77)
              (Stmt.seq
                (Stmt.region
                  [SOper.mk (some 78) none (SOp.load true 4 (Operand.tmp 15)),
                    SOper.mk none none (SOp.store 4 (Operand.tmp 8) (Operand.tmp 78)),
                    SOper.mk (some 9) none (SOp.mv (Operand.const (Value.int IntKind.i64 0)))]
                  [8, 9])
                Stmt.ret)
              Stmt.skip)))))
    (Stmt.region
      [SOper.mk (some 43) none (SOp.mv (Operand.tmp 14)), SOper.mk (some 44) none (SOp.mv (Operand.tmp 10)),
        SOper.mk (some 45) none (SOp.len false (Operand.tmp 44)),
        SOper.mk (some 46) none (SOp.call (Operand.func 128) [Operand.tmp 43, Operand.tmp 45]),
        SOper.mk (some 14) none (SOp.mv (Operand.tmp 46))]
      [0, 1, 2, 3, 8, 10, 14, 36]))
def S57_3 : Stmt :=
  Stmt.seq
  (Stmt.region [SOper.mk (some 37) none (SOp.ibin BinOp.lss (Operand.tmp 36) (Operand.const (Value.int IntKind.i64 4)))]
    [0, 1, 2, 3, 8, 10, 36, 37])
  (Stmt.seq (Stmt.cond (Operand.tmp 37) Stmt.skip (Stmt.exit 0))
    (Stmt.seq
      (Stmt.block 1
        (Stmt.seq
          (Stmt.region
            [SOper.mk (some 38) none (SOp.mv (Operand.tmp 36)), SOper.mk (some 13) none (SOp.mv (Operand.tmp 38))]
            [0, 1, 2, 3, 8, 10, 13, 36])
          (Stmt.seq
            (Stmt.region
              [SOper.mk (some 39) none (SOp.mv (Operand.tmp 13)),
                SOper.mk (some 40) none (SOp.call (Operand.func 127) [Operand.tmp 39]),
                SOper.mk (some 14) none (SOp.mv (Operand.tmp 40))]
              [0, 1, 2, 3, 8, 10, 14, 36])
            (Stmt.block 2 (Stmt.loop S57_2 [8, 14] [0, 1, 2, 3, 10, 36])))))
      (Stmt.region
        [SOper.mk (some 79) none (SOp.ibin BinOp.add (Operand.tmp 36) (Operand.const (Value.int IntKind.i64 1))),
          SOper.mk (some 36) none (SOp.mv (Operand.tmp 79))]
        [0, 1, 2, 3, 8, 10, 36])))
def S57_0 : Stmt :=
  Stmt.seq
  (Stmt.region
    [SOper.mk (some 8) none
        (SOp.alloc true 57
          (Value.agg
            (Array.mk
              [Value.int IntKind.i64 0, Value.int IntKind.i64 0, Value.int IntKind.i64 0, Value.slice none 0 0]))),
      SOper.mk (some 9) none (SOp.mv (Operand.const (Value.int IntKind.i64 0)))]
    [0, 1, 2, 3, 8])
  (Stmt.seq
    (Stmt.region
      [SOper.mk (some 19) none (SOp.mv (Operand.tmp 0)), SOper.mk (some 20) none (SOp.mv (Operand.tmp 1)),
        SOper.mk (some 21) none (SOp.call (Operand.func 24) [Operand.tmp 19, Operand.tmp 20]),
        SOper.mk (some 18) none (SOp.mv (Operand.tmp 21)), SOper.mk (some 22) none (SOp.extract 0 (Operand.tmp 18)),
        SOper.mk (some 23) none (SOp.extract 1 (Operand.tmp 18)), SOper.mk (some 10) none (SOp.mv (Operand.tmp 22)),
        SOper.mk (some 11) none (SOp.mv (Operand.tmp 23))]
      [0, 1, 2, 3, 8, 10, 11])
    (Stmt.seq
      (Stmt.seq
        (Stmt.region
          [SOper.mk (some 24) none (SOp.mv (Operand.tmp 11)),
            SOper.mk (some 25) none (SOp.ibin BinOp.neq (Operand.tmp 24) (Operand.const (Value.int IntKind.i64 0)))]
          [0, 1, 2, 3, 8, 10, 11, 25])
        (Stmt.cond (Operand.tmp 25)
          (Stmt.seq
            (Stmt.region
              [SOper.mk (some 26) none
                  (SOp.build 57
                    [Value.int IntKind.i64 0, Value.int IntKind.i64 0, Value.int IntKind.i64 0, Value.slice none 0 0]
                    []),
                SOper.mk (some 27) none (SOp.mv (Operand.tmp 11)),
                SOper.mk none none (SOp.store 4 (Operand.tmp 8) (Operand.tmp 26)),
                SOper.mk (some 9) none (SOp.mv (Operand.tmp 27))]
              [8, 9])
            Stmt.ret)
          Stmt.skip))
      (Stmt.seq
        (Stmt.seq
          (Stmt.region
            [SOper.mk (some 28) none (SOp.mv (Operand.tmp 0)), SOper.mk (some 29) none (SOp.mv (Operand.tmp 2)),
              SOper.mk (some 30) none (SOp.mv (Operand.tmp 3)),
              SOper.mk (some 31) none (SOp.call (Operand.func 126) [Operand.tmp 28, Operand.tmp 29, Operand.tmp 30]),
              SOper.mk (some 12) none (SOp.mv (Operand.tmp 31))]
            [0, 1, 2, 3, 8, 10, 12])
          (Stmt.seq
            (Stmt.region
              [SOper.mk (some 32) none (SOp.mv (Operand.tmp 12)),
                SOper.mk (some 33) none (SOp.ibin BinOp.neq (Operand.tmp 32) (Operand.const (Value.int IntKind.i64 0)))]
              [0, 1, 2, 3, 8, 10, 12, 33])
            (Stmt.cond (Operand.tmp 33)
              (Stmt.seq
                (Stmt.region
                  [SOper.mk (some 34) none
                      (SOp.build 57
                        [Value.int IntKind.i64 0, Value.int IntKind.i64 0, Value.int IntKind.i64 0,
                          Value.slice none 0 0]
                        []),
                    SOper.mk (some 35) none (SOp.mv (Operand.tmp 12)),
                    SOper.mk none none (SOp.store 4 (Operand.tmp 8) (Operand.tmp 34)),
                    SOper.mk (some 9) none (SOp.mv (Operand.tmp 35))]
                  [8, 9])
                Stmt.ret)
              Stmt.skip)))
        (Stmt.seq
          (Stmt.seq
            (Stmt.region [SOper.mk (some 36) none (SOp.mv (Operand.const (Value.int IntKind.i64 0)))]
              [0, 1, 2, 3, 8, 10, 36])
            (Stmt.block 0 (Stmt.loop S57_3 [8, 36] [0, 1, 2, 3, 10])))
          (Stmt.seq
            (Stmt.region
              [SOper.mk (some 80) none
                  (SOp.build 57
                    [Value.int IntKind.i64 0, Value.int IntKind.i64 0, Value.int IntKind.i64 0, Value.slice none 0 0]
                    []),
                SOper.mk none none (SOp.store 4 (Operand.tmp 8) (Operand.tmp 80)),
                SOper.mk (some 9) none (SOp.mv (Operand.const (Value.int IntKind.i64 5)))]
              [8, 9])
            Stmt.ret)))))
def S57 : FnS := ⟨81, [(8, some (true, 4)), (9, none)], S57_0⟩
theorem tr57 : trFn Try.prog 57 [8, 15] [[0, 1, 2, 3, 8], [0, 1, 2, 3, 8, 10, 11], [0, 1, 2, 3, 8, 10, 11, 25], [8, 9], [0, 1, 2, 3, 8, 10, 12], [0, 1, 2, 3, 8, 10, 12, 33], [8, 9], [0, 1, 2, 3, 8, 10, 36], [8, 36], [0, 1, 2, 3, 10], [0, 1, 2, 3, 8, 10, 36, 37], [0, 1, 2, 3, 8, 10, 13, 36], [0, 1, 2, 3, 8, 10, 14, 36], [8, 14], [0, 1, 2, 3, 10, 36], [0, 1, 2, 3, 8, 10, 14, 36, 42], [0, 1, 2, 3, 8, 10, 14, 15, 36], [0, 1, 2, 3, 8, 10, 14, 15, 36, 50, 51, 52], [15, 52], [0, 1, 2, 3, 8, 10, 14, 36, 50, 51], [0, 1, 2, 3, 8, 10, 14, 15, 36, 50, 51, 52, 53], [0, 1, 2, 3, 8, 10, 14, 15, 17, 36, 50, 51, 52], [0, 1, 2, 3, 8, 10, 14, 15, 36, 50, 51, 52], [], [2, 0, 2, 2, 2, 3, 2, 7, 2, 8, 2, 4, 2, 9, 2, 5, 2, 10, 2, 6, 2, 11, 3, 1, 3, 12, 2, 13, 3, 14, 3, 15, 2, 16, 3, 17, 0, 1, 1, 1, 1, 3, 12, 2, 13, 3, 1, 3, 14, 3, 15, 2, 16, 3, 17, 0, 1, 1, 1, 3, 14, 3, 1, 3, 15, 2, 16, 3, 17, 0, 1, 1, 1, 1, 1], [6], [], [0], [], [], [2, 3], [2, 3, 4], [2, 3, 4, 5], [], [], [7, 8], [7, 8, 9], [7, 8, 9, 10], [7, 8, 9, 10, 11], [2, 3, 4, 5, 6, 7, 8, 9, 10, 11, 12], [2, 3, 4, 5, 6, 7, 8, 9, 10, 11, 12, 13], [0, 1, 2, 3, 4, 5, 6, 7, 8, 9, 10, 11, 12, 13, 14], [0, 1, 2, 3, 4, 5, 6, 7, 8, 9, 10, 11, 12, 13, 14, 15], [0, 1, 2, 3, 4, 5, 6, 7, 8, 9, 10, 11, 12, 13, 14, 15, 16], [0, 1, 2, 3, 8, 10, 14, 15, 36, 50, 51, 52], [0, 1, 2, 3, 8, 10, 14, 15, 36, 77], [8, 9], [0, 1, 2, 3, 8, 10, 14, 36], [0, 1, 2, 3, 8, 10, 36], [8, 9]] = some S57 := by kernel_rfl
end Go.Proofs.Ytniobbepliknmaa.V
/- The least grammar that agrees with examples: guess.Of; no condition. -/
namespace Go.Proofs.Ytniobbepliknmaa.V
open Go
set_option linter.unusedVariables false
set_option linter.unusedSimpArgs false
attribute [local go_sem] e_seq e_region e_quiet e_join e_loop e_cond e_block e_exit e_ret e_skip e_fin e_kseq e_snrm e_sret e_sex e_bnrm e_bret e_bex e_rnrm e_rret e_res e_condC e_nil e_g e_mv g_mv e_pick g_pick pickC_eq e_ibin g_ibin ibinC_eq e_sbin g_sbin e_beq g_beq beqC_eq e_nilq g_nilq nilqC_sl nilqC_pt nilqC_mp e_un g_un unC_not unC_neg e_conv g_conv convC_eq e_fld g_fld fldC_ref fldC_ptr e_nilCheck g_nilCheck nilCheckC_ref nilCheckC_ptr nilCheckC_fun e_field g_field fieldC_eq e_len g_len lenC_sl lenC_str e_extract g_extract extractC_eq e_mkFunc e_build g_build e_idiv g_idiv idivC_eq e_ishift g_ishift ishiftC_eq e_idx g_idx e_idxA g_idxA e_load g_load loadC_ref loadC_ptr loadB_eq e_slc g_slc e_box boxC_loc boxC_esc e_alloc allocC_loc allocC_esc e_buildS e_store storeC_ref storeC_ptr storeB_eq e_append e_appz e_mk mkC_eq e_call callC_eq e_fn g_fn fnC_eq fnV_min' fnV_max' fnV_rune' e_q g_q e_a e_n g_call g_box g_alloc g_buildS g_store g_append g_mk g_a g_n g_dead e_dead e_callK e_drawn e_tree e_finJ e_tk e_tfin e_tno e_nbt_q e_nbt_qn e_nbt_a e_nbt_an e_nbt_fin e_early_nil e_early_t e_early_f e_nob_nil e_nob_none e_nob_some isBox_dead isBox_v isBox_ref e_dnil e_dk e_ek e_finB vcOps_vc1 e_dcons e_tq e_ekt e_tearly e_talt e_dearly look_nil look_c proj_nil proj_c looks_nil looks_c zip_nil zip_c val_tmp val_const val_func slv_v slv_box slv_ref slot_tmp slot_const slot_func slotL_v slotL_box slotL_ref put_some put_none updBox_c boxSet_box gd_eq slotVals_nil slotVals_c slotVals_b boxV_box boxOn_box slotsOn_nil slotsOn_c slotsOn_b resV_one resV_two vals_nil vals_c allOn_nil allOn_c partOn_nil partOn_c partVals_nil partVals_c fits_nil fits_c fillL_nil fillL_c mkv_one mkv_agg cellsV_agg cellsV_int cellsV_bool cellsV_slice cellsV_string cellsV_pointer cellsV_func cellsV_nilf cellsV_map one'_nil one'_c oc_int oc_bool oc_slice oc_string oc_pointer oc_func oc_nilf oc_map setC_eq iv_add iv_sub iv_mul iv_eql iv_neq iv_lss iv_leq iv_gtr iv_geq iok_add iok_sub iok_mul iok_eql iok_neq iok_lss iok_leq iok_gtr iok_geq pickV_bool args0_nil args0_c bnd_none bnd_some imp_bt imp_bf imp_ebt imp_ebf imp_eb1 imp_np imp_pp beq_tt beq_tf beq_ft beq_ff cond_or cond_and e_round e_meet Int.le_refl Int.toNat_zero decide_true decide_false Bool.or_false Bool.false_or Bool.true_or Bool.or_true Bool.and_false Bool.false_and Bool.bne_false Bool.bne_true beq_iff_eq Int.cast_ofNat_Int not_false_eq_true not_true_eq_false false_and and_false false_implies true_implies true_and and_true Bool.true_and Bool.and_true Bool.not_true Bool.not_false forall_const implies_true List.take_zero List.drop_zero List.take_succ_cons List.drop_succ_cons List.take_nil List.drop_nil List.length_cons List.length_nil List.nil_append List.append_nil List.cons_append Int.toNat_natCast decide_eq_true_eq decide_eq_false_iff_not cond_true cond_false and_self List.getElem?_cons_zero List.getElem?_cons_succ List.set_cons_zero List.set_cons_succ Option.some.injEq exists_eq_left' Nat.zero_add Nat.add_zero Nat.mul_one imp_self true_or or_true or_false false_or Bool.or_eq_true Bool.or_eq_false_iff Bool.and_eq_true Bool.and_eq_false_iff Bool.not_eq_true' Bool.not_eq_false'

/-- the rules with these numbers -/
def subR (R : List Ru) (c : List Int) : List Ru := c.map fun i => R.getD i.toNat ⟨0, []⟩
theorem subR_len (R : List Ru) (c : List Int) : (subR R c).length = c.length := by simp [subR]
theorem subR_mem {R : List Ru} {c : List Int} (h : Val R.length c) : ∀ r ∈ subR R c, r ∈ R := by
  intro r hr
  obtain ⟨i, hi, rfl⟩ := List.mem_map.1 hr
  have := h.1 i hi
  have hl : i.toNat < R.length := by omega
  simp [List.getD, hl]
theorem rulesF_mem {t n : Nat} {r : Ru} (hr : r ∈ rulesF t n) : (0 ≤ r.l ∧ r.l < n) ∧ r.r.length ≤ 2 ∧ ∀ s ∈ r.r, 0 ≤ s.n ∧ (s.t = true → s.n < t) ∧ (s.t = false → s.n < n) := by
  have hs : ∀ s ∈ symsF t n, 0 ≤ s.n ∧ (s.t = true → s.n < t) ∧ (s.t = false → s.n < n) := by
    intro s hs
    simp only [symsF, numsI, List.mem_append, List.mem_map, List.mem_range] at hs
    rcases hs with ⟨i, ⟨j, hj, rfl⟩, rfl⟩ | ⟨i, ⟨j, hj, rfl⟩, rfl⟩
    · exact ⟨by simp, fun _ => by simp; omega, fun h => Bool.noConfusion h⟩
    · exact ⟨by simp, fun h => Bool.noConfusion h, fun _ => by simp; omega⟩
  simp only [rulesF, List.mem_flatMap] at hr
  obtain ⟨a, ha, hr⟩ := hr
  have ha' : 0 ≤ a ∧ a < n := by
    simp only [numsI, List.mem_map, List.mem_range] at ha
    obtain ⟨j, hj, rfl⟩ := ha
    omega
  simp only [rulesA, List.mem_cons, List.mem_append, List.mem_map, List.mem_flatMap] at hr
  rcases hr with rfl | ⟨x, hx, rfl⟩ | ⟨x, hx, y, hy, rfl⟩
  · exact ⟨ha', by simp, by simp⟩
  · refine ⟨ha', by simp, fun s h => ?_⟩
    simp at h
    subst h
    exact hs _ hx
  · refine ⟨ha', by simp, fun s h => ?_⟩
    simp at h
    rcases h with rfl | rfl
    · exact hs _ hx
    · exact hs _ hy
theorem rulesF_len {t n : Nat} (ht : t ≤ 2) (hn : n ≤ 2) : (rulesF t n).length ≤ 42 := by
  have h1 : t = 0 ∨ t = 1 ∨ t = 2 := by omega
  have h2 : n = 0 ∨ n = 1 ∨ n = 2 := by omega
  rcases h1 with rfl | rfl | rfl <;> rcases h2 with rfl | rfl | rfl <;> decide
theorem rulesF_len3 {t n : Nat} (ht : 1 ≤ t ∧ t ≤ 2) (hn : 1 ≤ n ∧ n ≤ 2) : 3 ≤ (rulesF t n).length := by
  have h1 : t = 1 ∨ t = 2 := by omega
  have h2 : n = 1 ∨ n = 2 := by omega
  rcases h1 with rfl | rfl <;> rcases h2 with rfl | rfl <;> decide
theorem sub_ok {t n : Nat} (ht : t ≤ 2) (hn : n ≤ 2) {rs : List Ru} (h : ∀ r ∈ rs, r ∈ rulesF t n) (hl : rs.length ≤ 100) : RsOk rs 2 := by
  refine ⟨by omega, fun r hr => ?_, fun r hr => ?_, fun r hr s hs => ?_⟩
  · have := (rulesF_mem (h r hr)).1; omega
  · have := (rulesF_mem (h r hr)).2.1; omega
  · have := (rulesF_mem (h r hr)).2.2 s hs
    exact ⟨this.1, fun q => by have := this.2.1 q; omega, fun q => by have := this.2.2 q; omega⟩
def codeL : List Int → Nat
  | [] => 0
  | x :: r => x.toNat * 64 ^ r.length + codeL r
theorem code_bound {c : List Int} (h : ∀ x ∈ c, 0 ≤ x ∧ x < 64) : codeL c < 64 ^ c.length := by
  induction c with
  | nil => simp [codeL]
  | cons x r ih =>
    have h1 := ih fun y hy => h y (by simp [hy])
    have h2 := h x (by simp)
    have h3 : x.toNat * 64 ^ r.length ≤ 63 * 64 ^ r.length := Nat.mul_le_mul_right _ (by omega)
    simp only [codeL, List.length_cons, Nat.pow_succ]
    omega
theorem code_lt {c d : List Int} (hl : c.length = d.length) (hc : ∀ x ∈ c, 0 ≤ x ∧ x < 64) (hd : ∀ x ∈ d, 0 ≤ x ∧ x < 64) (h : LtL c d) : codeL c < codeL d := by
  induction c generalizing d with
  | nil => obtain ⟨p, x, y, _, h2, _⟩ := h; simp at h2
  | cons x c ih => cases d with
    | nil => simp at hl
    | cons y d =>
      have hl' : c.length = d.length := by simpa using hl
      have hb := code_bound (c := c) fun z hz => hc z (by simp [hz])
      have hx := hc x (by simp)
      have hy := hd y (by simp)
      obtain ⟨p, a, b, h1, h2, h3, h4⟩ := h
      simp only [codeL]
      rw [← hl']
      cases p with
      | zero =>
        simp only [List.getElem?_cons_zero, Option.some.injEq] at h2 h3
        subst h2 h3
        have : (x.toNat + 1) * 64 ^ c.length ≤ y.toNat * 64 ^ c.length := Nat.mul_le_mul_right _ (by omega)
        rw [Nat.add_mul, Nat.one_mul] at this
        omega
      | succ p =>
        have h0 := h1 0 (by omega)
        simp only [List.getElem?_cons_zero, Option.some.injEq] at h0
        subst h0
        have := ih hl' (fun z hz => hc z (by simp [hz])) (fun z hz => hd z (by simp [hz])) ⟨p, a, b, fun r hr => by simpa using h1 (r + 1) (by omega), by simpa using h2, by simpa using h3, h4⟩
        omega
theorem inc_gt {c : List Int} {i : Nat} (hi : i < c.length) : LtL c (incL c i) := by
  refine ⟨i, c[i], c[i] + 1, fun r hr => (incL_lo (by omega) hr).symm, List.getElem?_eq_getElem hi, ?_, by omega⟩
  have := incL_hi (c := c) (i := i) (d := 0) (by omega)
  rw [Nat.add_zero] at this
  rw [this]
  simp [List.getD, hi]
def zeroG : Value := .agg #[.int .i64 0, .int .i64 0, .int .i64 0, .slice none 0 0]
/-- the error that all of guess returns -/
def geF (t n : Int) (yes no : List (List Int)) : Int := if badTN t n then 1 else gcF t yes no
def GuessS (t n : Int) (yes no : List (List Int)) (v : Value) (Γ : Ctx) : Prop :=
  (geF t n yes no ≠ 0 ∧ Γ = [] ∧ v = .tuple #[zeroG, .int .i64 (geF t n yes no)]) ∨
  (geF t n yes no = 0 ∧ (∀ c, Val (rulesF t.toNat n.toNat).length c → c.length ≤ 3 → ¬ Agr yes no (subR (rulesF t.toNat n.toNat) c)) ∧ Γ = [] ∧ v = .tuple #[zeroG, .int .i64 5]) ∨
  (geF t n yes no = 0 ∧ ∃ go gl A d c, LeastAt (rulesF t.toNat n.toNat).length 3 (fun c => Agr yes no (subR (rulesF t.toNat n.toNat) c)) c ∧ Γ = [go, gl] ∧ SlOk (lk [go, gl]) A d (subR (rulesF t.toNat n.toNat) c) ∧ v = .tuple #[.agg #[.int .i64 t, .int .i64 n, .int .i64 0, .slice A c.length d], .int .i64 0])
set_option maxHeartbeats 4000000 in
theorem guess_of {Γr : Ctx} (t n : Int) {Y Z : Option Addr} {d e : Nat} {yes no : List (List Int)} (hy : SlOk (lk Γr) Y d yes) (hn : SlOk (lk Γr) Z e no) :
    Ret Try.prog 57 [.int .i64 t, .int .i64 n, .slice Y yes.length d, .slice Z no.length e] Γr [] (GuessS t n yes no) := by
  generalize hR : GuessS t n yes no = R
  refine ret_of_vc tr57 (Nat.le_of_ble_eq_true rfl) ?_
  simp -implicitDefEqProofs only [S57, S57_0, go_sem, Nat.reduceBEq, Nat.reduceAdd, Nat.reduceSub, Nat.reduceMul, Nat.reduceLeDiff, reduceCtorEq, ↓reduceIte, Int.reduceLT, Int.reduceLE, Int.reduceEq, Int.reduceNe]
  intro b8
  refine CallVC.read (guess_rules t n) ?_
  rintro v Γ' ⟨gr, A1, c1, rfl, hs1, rfl⟩
  simp -implicitDefEqProofs only [go_sem, Nat.reduceBEq, Nat.reduceAdd, Nat.reduceSub, Nat.reduceMul, Nat.reduceLeDiff, reduceCtorEq, ↓reduceIte, Int.reduceLT, Int.reduceLE, Int.reduceEq, Int.reduceNe]
  by_cases hbad : badTN t n
  · have h1 : rulesR t n = ([], 1) := by unfold rulesR; rw [if_pos hbad]
    rw [h1]
    simp -implicitDefEqProofs only [go_sem, Nat.reduceBEq, Nat.reduceAdd, Nat.reduceSub, Nat.reduceMul, Nat.reduceLeDiff, reduceCtorEq, ↓reduceIte, Int.reduceLT, Int.reduceLE, Int.reduceEq, Int.reduceNe]
    refine Up.to [] (Ent.nil _) ?_
    subst hR
    have e1 : geF t n yes no = 1 := by rw [geF, if_pos hbad]
    exact .inl ⟨by rw [e1]; decide, rfl, by rw [e1]; rfl⟩
  have h1 : rulesR t n = (rulesF t.toNat n.toNat, 0) := by unfold rulesR; rw [if_neg hbad]
  rw [h1] at hs1 ⊢
  simp -implicitDefEqProofs only [go_sem, Nat.reduceBEq, Nat.reduceAdd, Nat.reduceSub, Nat.reduceMul, Nat.reduceLeDiff, reduceCtorEq, ↓reduceIte, Int.reduceLT, Int.reduceLE, Int.reduceEq, Int.reduceNe]
  have htn : 1 ≤ t ∧ t ≤ 2 ∧ 1 ≤ n ∧ n ≤ 2 := by unfold badTN at hbad; omega
  refine CallVC.read (guess_check t (hy.mono (lk_r _ _)) (hn.mono (lk_r _ _))) ?_
  rintro v Γ' ⟨rfl, rfl⟩
  have e1 : geF t n yes no = gcF t yes no := by rw [geF, if_neg hbad]
  simp -implicitDefEqProofs only [go_sem, Nat.reduceBEq, Nat.reduceAdd, Nat.reduceSub, Nat.reduceMul, Nat.reduceLeDiff, reduceCtorEq, ↓reduceIte, Int.reduceLT, Int.reduceLE, Int.reduceEq, Int.reduceNe]
  refine ⟨fun h2 => Up.to [] (Ent.nil _) ?_, fun h2 => ?_⟩
  · subst hR
    exact .inl ⟨by rw [e1]; exact h2, rfl, by rw [e1]; rfl⟩
  rw [h2] at e1
  have hgc : ¬ (6 < yes.length ∨ 6 < no.length) ∧ wF t (yes ++ no) = 0 := by
    unfold gcF at h2
    split at h2
    · cases h2
    · split at h2
      · rename_i q1 q2; exact absurd h2 q2
      · rename_i q1 q2; exact ⟨q1, by simpa using q2⟩
  have hwok := wF_ok hgc.2
  have hyl : ∀ w ∈ yes, w.length ≤ 5 := fun w hw => (hwok w (by simp [hw])).1
  have hnl : ∀ w ∈ no, w.length ≤ 5 := fun w hw => (hwok w (by simp [hw])).1
  obtain ⟨RR, hRR⟩ : ∃ RR, rulesF t.toNat n.toNat = RR := ⟨_, rfl⟩
  have hlen : RR.length ≤ 42 := by rw [← hRR]; exact rulesF_len (by omega) (by omega)
  have hlen3 : 3 ≤ RR.length := by rw [← hRR]; exact rulesF_len3 (by omega) (by omega)
  have hsub : ∀ c, Val RR.length c → c.length ≤ 3 → RsOk (subR RR c) 2 := fun c hc hl => sub_ok (t := t.toNat) (n := n.toNat) (by omega) (by omega) (fun r hr => by rw [hRR]; exact subR_mem hc r hr) (by rw [subR_len]; omega)
  simp only [hRR] at hs1 ⊢
  refine s_loop (fun f vs Γ => Γ = [gr] ∧ ∃ k : Nat, vs = [.box b8 57 [.int .i64 0, .int .i64 0, .int .i64 0, .slice none 0 0], .v true (.int .i64 k)] ∧ k + f = 4 ∧ ∀ c, Val RR.length c → c.length < k → ¬ Agr yes no (subR RR c)) 4 (Up.here ⟨rfl, 0, rfl, by omega, fun c _ h => by omega⟩) ?_
  rintro f vs Γ ⟨rfl, k, rfl, hkf, hless⟩
  simp -implicitDefEqProofs only [S57_3, go_sem, Nat.reduceBEq, Nat.reduceAdd, Nat.reduceSub, Nat.reduceMul, Nat.reduceLeDiff, reduceCtorEq, ↓reduceIte, Int.reduceLT, Int.reduceLE, Int.reduceEq, Int.reduceNe]
  refine ⟨fun hlt => ?_, fun hge => ?_⟩
  · have hk : k < 4 := by omega
    refine CallVC.read (guess_first k (by omega)) ?_
    rintro v Γ' ⟨ga, b, o, c, rfl, rfl, hBa⟩
    simp -implicitDefEqProofs only [go_sem, Nat.reduceBEq, Nat.reduceAdd, Nat.reduceSub, Nat.reduceMul, Nat.reduceLeDiff, reduceCtorEq, ↓reduceIte, Int.reduceLT, Int.reduceLE, Int.reduceEq, Int.reduceNe]
    have hV0 := first_val (n := RR.length) (k := k) (by omega)
    refine s_loop (fun f vs Γ => (∃ (ga : PH) (b o c : Nat) (at_ : List Int), vs = [.box b8 57 [.int .i64 0, .int .i64 0, .int .i64 0, .slice none 0 0], .v true (.slice (some ⟨b, o, none⟩) k c)] ∧ Γ = [ga, gr] ∧ Bld ga (lk []) 3 (.slice (some ⟨b, o, none⟩) k c) at_ ∧ at_.length = k ∧ Val RR.length at_ ∧ f = 64 ^ k - codeL at_ ∧ ∀ d, Val RR.length d → d.length = k → LtL d at_ → ¬ Agr yes no (subR RR d)) ∨
        (vs = [.box b8 57 [.int .i64 0, .int .i64 0, .int .i64 0, .slice none 0 0], .v true (.slice none 0 0)] ∧ Γ = [gr] ∧ f = 0 ∧ ∀ d, Val RR.length d → d.length = k → ¬ Agr yes no (subR RR d))) (64 ^ k - codeL (numsI k))
      (Up.here (.inl ⟨ga, b, o, c, _, rfl, rfl, hBa, numsI_len k, hV0, rfl, fun d hd hl h => absurd h (first_least hd hl)⟩)) ?_
    clear hBa hV0
    rintro f2 vs Γ (⟨ga, b, o, c, at_, rfl, rfl, hBa, hal, hVa, hf2, hlow⟩ | ⟨rfl, rfl, rfl, hnone⟩)
    · obtain ⟨Az, cz, ez, hSa⟩ := hBa.slok (L' := lk [ga]) (Mem.le.refl _) (lk_sub (by simp)) (by omega)
      simp only [Value.slice.injEq] at ez
      obtain ⟨rfl, _, rfl⟩ := ez
      simp -implicitDefEqProofs only [S57_2, go_sem, Nat.reduceBEq, Nat.reduceAdd, Nat.reduceSub, Nat.reduceMul, Nat.reduceLeDiff, reduceCtorEq, ↓reduceIte, Int.reduceLT, Int.reduceLE, Int.reduceEq, Int.reduceNe]
      refine ⟨fun _ b15 => ?_, fun h => absurd h (by simp)⟩
      refine s_loop (fun f3 vs Γ => ∃ (j : Nat) (go gl : PH) (v : Value), vs = [.box b15 57 [.int .i64 t, .int .i64 n, .int .i64 0, v], .v true (.int .i64 j)] ∧ Γ = [go, gl, ga, gr] ∧ j + f3 = k ∧ Bld go (lk [gl]) 37 v (subR RR (at_.take j))) k
        (Up.sel (Γ := [ga, gr]) [[], [], [0], [1]] (by decide) fun _ _ => ⟨0, emp, emp, _, rfl, rfl, by omega, Bld.nil _ _ _⟩) ?_
      rintro f3 vs Γ ⟨j, go, gl, v, rfl, rfl, hjf, hBo⟩
      obtain ⟨A9, c9, rfl⟩ := hBo.val
      simp -implicitDefEqProofs only [S57_1, go_sem, Nat.reduceBEq, Nat.reduceAdd, Nat.reduceSub, Nat.reduceMul, Nat.reduceLeDiff, reduceCtorEq, ↓reduceIte, Int.reduceLT, Int.reduceLE, Int.reduceEq, Int.reduceNe]
      refine ⟨fun hlt => ?_, fun hge => ?_⟩
      · have hj : j < at_.length := by omega
        have htk : at_.take (j + 1) = at_.take j ++ [at_[j]] := List.take_succ_eq_append_getElem hj
        have hsb : subR RR (at_.take (j + 1)) = subR RR (at_.take j) ++ [RR.getD at_[j].toNat ⟨0, []⟩] := by rw [htk, subR, List.map_append]; rfl
        have hsl : (subR RR (at_.take j)).length = j := by rw [subR_len, List.length_take]; omega
        have hvj := hVa.1 _ (List.getElem_mem hj)
        obtain ⟨b1, o1, hA1, hc1⟩ := hSa.int hj
        generalize at_[j] = x at *
        have hxl : x.toNat < RR.length := by omega
        have hxr : RR.getD x.toNat ⟨0, []⟩ = RR[x.toNat] := by simp [List.getD, hxl]
        rw [hxr] at hsb
        obtain ⟨b2, o2, hA2, A3, c3, hs3, hc2⟩ := hs1.ru hxl
        refine s_idx hA1 (by omega) (by omega) ?_
        simp -implicitDefEqProofs only [go_sem, Nat.reduceBEq, Nat.reduceAdd, Nat.reduceSub, Nat.reduceMul, Nat.reduceLeDiff, reduceCtorEq, ↓reduceIte, Int.reduceLT, Int.reduceLE, Int.reduceEq, Int.reduceNe]
        refine s_ld0 (hc1 _ (lk_sub (by simp))) (by simp) (by simp) ?_
        simp -implicitDefEqProofs only [go_sem, Nat.reduceBEq, Nat.reduceAdd, Nat.reduceSub, Nat.reduceMul, Nat.reduceLeDiff, reduceCtorEq, ↓reduceIte, Int.reduceLT, Int.reduceLE, Int.reduceEq, Int.reduceNe]
        refine ⟨[go, gl], [ga, gr], fun ψ Γ' => ∃ go' gl' v', ψ = [(0, .v true (.int .i64 t)), (1, .v true (.int .i64 n)), (2, .v true (.slice Y yes.length d)), (3, .v true (.slice Z no.length e)), (8, .box b8 57 [.int .i64 0, .int .i64 0, .int .i64 0, .slice none 0 0]), (10, .v true (.slice A1 RR.length c1)),
          (14, .v true (.slice (some ⟨b, o, none⟩) k c)), (15, .box b15 57 [.int .i64 t, .int .i64 n, .int .i64 0, v']), (36, .v true (.int .i64 k)), (50, .v true (.slice (some ⟨b, o, none⟩) k c)), (51, .v true (.int .i64 k)), (52, .v true (.int .i64 j))] ∧ Γ' = [go', gl', ga, gr] ∧ Bld go' (lk [gl']) 37 v' (subR RR (at_.take (j + 1))), Ent.refl _, ?_, ?_⟩
        · have hr2 : RR[x.toNat].r.length ≤ 2 := by
            have : RR[x.toNat] ∈ rulesF t.toNat n.toNat := by rw [hRR]; exact List.getElem_mem hxl
            exact (rulesF_mem this).2.1
          obtain ⟨ru, hru⟩ : ∃ ru, RR[x.toNat] = ru := ⟨_, rfl⟩
          rw [hru] at hs3 hc2 hsb hr2
          simp -implicitDefEqProofs only [go_sem, Nat.reduceBEq, Nat.reduceAdd, Nat.reduceSub, Nat.reduceMul, Nat.reduceLeDiff, reduceCtorEq, ↓reduceIte, Int.reduceLT, Int.reduceLE, Int.reduceEq, Int.reduceNe]
          refine s_idx hA2 (by omega) (by omega) ?_
          simp -implicitDefEqProofs only [go_sem, Nat.reduceBEq, Nat.reduceAdd, Nat.reduceSub, Nat.reduceMul, Nat.reduceLeDiff, reduceCtorEq, ↓reduceIte, Int.reduceLT, Int.reduceLE, Int.reduceEq, Int.reduceNe]
          refine s_idx hA2 (by omega) (by omega) ?_
          simp -implicitDefEqProofs only [go_sem, Nat.reduceBEq, Nat.reduceAdd, Nat.reduceSub, Nat.reduceMul, Nat.reduceLeDiff, reduceCtorEq, ↓reduceIte, Int.reduceLT, Int.reduceLE, Int.reduceEq, Int.reduceNe]
          refine s_ld0 (hc2 _ (lk_sub (by simp))) (by simp) (by simp) ?_
          simp -implicitDefEqProofs only [go_sem, Nat.reduceBEq, Nat.reduceAdd, Nat.reduceSub, Nat.reduceMul, Nat.reduceLeDiff, reduceCtorEq, ↓reduceIte, Int.reduceLT, Int.reduceLE, Int.reduceEq, Int.reduceNe]
          refine s_ld (j := 1) (hc2 _ (lk_sub (by simp))) (by simp) (by simp) ?_
          simp -implicitDefEqProofs only [go_sem, Nat.reduceBEq, Nat.reduceAdd, Nat.reduceSub, Nat.reduceMul, Nat.reduceLeDiff, reduceCtorEq, ↓reduceIte, Int.reduceLT, Int.reduceLE, Int.reduceEq, Int.reduceNe]
          repeat' first
            | with_reducible exact True.intro
            | with_reducible refine And.intro ?_ ?_
            | with_reducible intro bk
            | (refine CallVC.read (clone_sy (hs3.mono (lk_sub fun y hy => by simp at hy; subst hy; simp)) (by omega)) ?_; rintro nv nΓ ⟨gn, rfl, hBn⟩; obtain ⟨A5, c5, rfl, hs5⟩ := hBn.slok (L' := lk [gn]) (Mem.le.refl _) (lk_sub (by simp)) (by omega))
            | (refine s_app1 (ix := 2) (L' := lk [gn, gl]) (x := ru) rfl hBo (lk_sub (by simp)) ⟨_, _, rfl, hs5.mono (lk_sub (by simp))⟩ cells_one rfl (by omega) (by unfold maxLen; omega) ?_; intro av ag ah ak; obtain ⟨aA, ac, rfl⟩ := ah.val)
            | simp -implicitDefEqProofs only [go_sem, Nat.reduceBEq, Nat.reduceAdd, Nat.reduceSub, Nat.reduceMul, Nat.reduceLeDiff, reduceCtorEq, ↓reduceIte, Int.reduceLT, Int.reduceLE, Int.reduceEq, Int.reduceNe]
          all_goals
            refine Up.sel [[2], [1, 3], [4], [5]] (by decide) fun _ hm => ⟨_, _, _, rfl, rfl, ?_⟩
            rw [hsb]
            exact ah.mono (Mem.le.refl _) (hm [1, 3] (by simp))
        · rintro ψ Γ' ⟨go', gl', v', rfl, rfl, hB'⟩
          simp -implicitDefEqProofs only [go_sem, Nat.reduceBEq, Nat.reduceAdd, Nat.reduceSub, Nat.reduceMul, Nat.reduceLeDiff, reduceCtorEq, ↓reduceIte, Int.reduceLT, Int.reduceLE, Int.reduceEq, Int.reduceNe]
          simp (disch := omega) only [wrap_id]
          exact ⟨f3 - 1, by omega, Up.here ⟨j + 1, _, _, _, rfl, rfl, by omega, hB'⟩⟩
      · have hj : at_.take j = at_ := List.take_of_length_le (by omega)
        rw [hj] at hBo ⊢
        have hsl := subR_len RR at_
        obtain ⟨Az, cz, ez, hSo⟩ := hBo.slok (L' := lk [go, gl]) (lk_sub (by simp)) (lk_sub (by simp)) (by omega)
        simp only [Value.slice.injEq, true_and] at ez
        obtain ⟨rfl, rfl⟩ := ez
        have hSo4 : SlOk (lk ([go, gl, ga, gr] ++ Γr)) A9 c9 (subR RR at_) := hSo.mono (lk_sub fun y hy => by simp at hy; rcases hy with rfl | rfl <;> simp)
        have hok := hsub at_ hVa (by omega)
        refine CallVC.read (guess_agrees hSo4 (hy.mono (lk_r _ _)) (hn.mono (lk_r _ _)) hok hyl hnl) ?_
        rintro v Γ' ⟨rfl, q, rfl, hq⟩
        have h64 : ∀ {c : List Int}, Val RR.length c → ∀ x ∈ c, 0 ≤ x ∧ x < 64 := fun hc x hx => by have := hc.1 x hx; omega
        cases q with
        | true =>
          simp -implicitDefEqProofs only [go_sem, Nat.reduceBEq, Nat.reduceAdd, Nat.reduceSub, Nat.reduceMul, Nat.reduceLeDiff, reduceCtorEq, ↓reduceIte, Int.reduceLT, Int.reduceLE, Int.reduceEq, Int.reduceNe]
          refine Up.sel [[0], [1]] (by decide) fun _ _ => ?_
          subst hR
          refine .inr (.inr ⟨e1, go, gl, A9, c9, at_, ?_, rfl, ?_, ?_⟩)
          · rw [hRR]
            exact ⟨hVa, by omega, hq.1 rfl, fun d hd hl => hless d hd (by omega), fun d hd hl hlt => hlow d hd (by omega) hlt⟩
          · rw [hRR]; exact hSo
          · rw [← hsl]
        | false =>
          have hnq : ¬ Agr yes no (subR RR at_) := fun h => by have := hq.2 h; cases this
          have hb := code_bound (c := at_) (h64 hVa)
          rw [hal] at hb
          have hnx : Ret Try.prog _ _ ([go, gl, ga, gr] ++ Γr) [] _ := guess_next (hSa.mono (lk_sub fun y hy => by simp at hy; subst hy; simp)) RR.length hVa (by omega) (by omega)
          simp -implicitDefEqProofs only [go_sem, Nat.reduceBEq, Nat.reduceAdd, Nat.reduceSub, Nat.reduceMul, Nat.reduceLeDiff, reduceCtorEq, ↓reduceIte, Int.reduceLT, Int.reduceLE, Int.reduceEq, Int.reduceNe]
          rw [← hal]
          refine CallVC.read hnx ?_
          rintro v Γ' (⟨rfl, rfl, hfull⟩ | ⟨g5, b5, o5, c5, i, rfl, rfl, hB5, hi, hin, hfull⟩)
          · simp -implicitDefEqProofs only [go_sem, Nat.reduceBEq, Nat.reduceAdd, Nat.reduceSub, Nat.reduceMul, Nat.reduceLeDiff, reduceCtorEq, ↓reduceIte, Int.reduceLT, Int.reduceLE, Int.reduceEq, Int.reduceNe]
            refine ⟨0, by omega, Up.sel [[3]] (by decide) fun _ _ => .inr ⟨rfl, rfl, fun d hd hl => ?_⟩⟩
            rw [hal] at hl
            rcases ltL_or (c := d) (d := at_) (by omega) with h | rfl | h
            · exact hlow d hd hl h
            · exact hnq
            · exact absurd h (next_none hfull hd (by omega))
          · simp -implicitDefEqProofs only [go_sem, Nat.reduceBEq, Nat.reduceAdd, Nat.reduceSub, Nat.reduceMul, Nat.reduceLeDiff, reduceCtorEq, ↓reduceIte, Int.reduceLT, Int.reduceLE, Int.reduceEq, Int.reduceNe]
            have hVi := incL_val hVa hi hin
            have hil := incL_len (c := at_) (i := i) (by omega)
            have hcl := code_lt (by omega) (h64 hVa) (h64 hVi) (inc_gt hi)
            refine ⟨64 ^ k - codeL (incL at_ i), by omega, Up.sel [[0], [4]] (by decide) fun _ _ => .inl ⟨_, b5, o5, c5, incL at_ i, rfl, rfl, hB5, by omega, hVi, by rw [hal], fun d hd hl hlt => ?_⟩⟩
            rcases ltL_or (c := d) (d := at_) (by omega) with h | rfl | h
            · exact hlow d hd (by omega) h
            · exact hnq
            · exact absurd hlt (next_some hi hfull hd (by omega) h)
    · simp -implicitDefEqProofs only [S57_2, go_sem, Nat.reduceBEq, Nat.reduceAdd, Nat.reduceSub, Nat.reduceMul, Nat.reduceLeDiff, reduceCtorEq, ↓reduceIte, Int.reduceLT, Int.reduceLE, Int.reduceEq, Int.reduceNe]
      simp (disch := omega) only [wrap_id]
      refine ⟨fun h => absurd h (by simp), fun _ => ⟨f - 1, by omega, Up.here ⟨rfl, k + 1, rfl, by omega, fun c hc hl => ?_⟩⟩⟩
      by_cases e : c.length = k
      · exact hnone c hc e
      · exact hless c hc (by omega)
  · refine Up.to [] (Ent.nil _) ?_
    subst hR
    refine .inr (.inl ⟨e1, ?_, rfl, rfl⟩)
    rw [hRR]
    exact fun c hc hl => hless c hc (by omega)
end Go.Proofs.Ytniobbepliknmaa.V
/- All words of a length in order; no condition. -/
namespace Go.Proofs.Ytniobbepliknmaa.V
open Go
set_option linter.unusedVariables false
set_option linter.unusedSimpArgs false

/-- the word with number i among those of k symbols out of t -/
def dg (t : Nat) : Nat → Nat → List Int
  | 0, _ => []
  | k + 1, i => dg t k (i / t) ++ [((i % t : Nat) : Int)]
theorem dg_len (t : Nat) : ∀ k i, (dg t k i).length = k
  | 0, _ => rfl
  | k + 1, i => by simp [dg, dg_len t k]
theorem dg_mem {t : Nat} (ht : 0 < t) : ∀ {k i : Nat} {x : Int}, x ∈ dg t k i → 0 ≤ x ∧ x < t
  | 0, _, x, h => by simp [dg] at h
  | k + 1, i, x, h => by
    simp only [dg, List.mem_append, List.mem_singleton] at h
    rcases h with h | rfl
    · exact dg_mem ht h
    · have := Nat.mod_lt i ht; omega
/-- with another last symbol -/
theorem dg_snoc {t : Nat} (k j c : Nat) (hc : c < t) : dg t (k + 1) (j * t + c) = dg t k j ++ [(c : Int)] := by
  have ht : 0 < t := by omega
  have h1 : (j * t + c) / t = j := by rw [Nat.add_comm, Nat.add_mul_div_right _ _ ht, Nat.div_eq_of_lt hc, Nat.zero_add]
  have h2 : (j * t + c) % t = c := by rw [Nat.add_comm, Nat.add_mul_mod_self_right, Nat.mod_eq_of_lt hc]
  simp only [dg, h1, h2]
theorem dg_zeros {t : Nat} (ht : 0 < t) (k p : Nat) : ∀ m, dg t (k + m) (p * t ^ m) = dg t k p ++ List.replicate m (0 : Int)
  | 0 => by simp
  | m + 1 => by
    have := dg_snoc (k + m) (p * t ^ m) 0 ht
    simp only [Nat.add_zero] at this
    rw [show k + (m + 1) = k + m + 1 by omega, Nat.pow_succ, ← Nat.mul_assoc, this, dg_zeros ht k p m, List.replicate_succ', List.append_assoc]
    rfl
theorem dg_zero {t : Nat} (ht : 0 < t) (k : Nat) : dg t k 0 = List.replicate k (0 : Int) := by
  have := dg_zeros ht 0 0 k
  simpa [dg] using this
theorem dg_inj {t : Nat} (ht : 0 < t) : ∀ {k i j : Nat}, i < t ^ k → j < t ^ k → dg t k i = dg t k j → i = j
  | 0, i, j, hi, hj, _ => by simp at hi hj; omega
  | k + 1, i, j, hi, hj, h => by
    simp only [dg] at h
    have h1 := List.append_inj h (by rw [dg_len, dg_len])
    have h2 : ((i % t : Nat) : Int) = ((j % t : Nat) : Int) := by simpa using h1.2
    have h3 := dg_inj ht (Nat.div_lt_of_lt_mul (by rw [Nat.pow_succ, Nat.mul_comm] at hi; exact hi)) (Nat.div_lt_of_lt_mul (by rw [Nat.pow_succ, Nat.mul_comm] at hj; exact hj)) h1.1
    have h4 := Nat.div_add_mod i t
    have h5 := Nat.div_add_mod j t
    rw [h3] at h4
    have h6 : i % t = j % t := by omega
    omega
/-- the words of k symbols -/
def lev (t k : Nat) : List (List Int) := (List.range (t ^ k)).map (dg t k)
/-- the words of less than k symbols -/
def lvs (t k : Nat) : List (List Int) := (List.range k).flatMap (lev t)
theorem lev_len (t k : Nat) : (lev t k).length = t ^ k := by simp [lev]
theorem lvs_zero (t : Nat) : lvs t 0 = [] := rfl
theorem lvs_succ (t k : Nat) : lvs t (k + 1) = lvs t k ++ lev t k := by simp [lvs, List.range_succ]
theorem lvs_one (t : Nat) : lvs t 1 = [[]] := by simp [lvs, lev, dg]
theorem lvs_len_succ (t k : Nat) : (lvs t (k + 1)).length = (lvs t k).length + t ^ k := by rw [lvs_succ, List.length_append, lev_len]
theorem lvs_at {t k j : Nat} (hj : j < t ^ k) : (lvs t (k + 1))[(lvs t k).length + j]? = some (dg t k j) := by
  rw [lvs_succ, List.getElem?_append_right (by omega), Nat.add_sub_cancel_left, lev, List.getElem?_map, List.getElem?_range hj]
  rfl
theorem lvs_pre {t k n : Nat} (h : k ≤ n) : ∃ r, lvs t n = lvs t k ++ r := by
  induction n with
  | zero => have : k = 0 := by omega
            subst this; exact ⟨[], by simp⟩
  | succ n ih =>
    by_cases e : k = n + 1
    · subst e; exact ⟨[], by simp⟩
    · obtain ⟨r, hr⟩ := ih (by omega)
      exact ⟨r ++ lev t n, by rw [lvs_succ, hr, List.append_assoc]⟩
theorem lev_split {t k j : Nat} (hj : j < t ^ k) : ∃ r, lev t k = (List.range j).map (dg t k) ++ dg t k j :: r := by
  refine ⟨((List.range (t ^ k)).drop (j + 1)).map (dg t k), ?_⟩
  unfold lev
  have h1 : List.range (t ^ k) = (List.range (t ^ k)).take j ++ (j :: (List.range (t ^ k)).drop (j + 1)) := by
    have hl : j < (List.range (t ^ k)).length := by simpa using hj
    have h2 := List.drop_eq_getElem_cons hl
    rw [List.getElem_range] at h2
    rw [← h2, List.take_append_drop]
  have h3 : (List.range (t ^ k)).take j = List.range j := by
    rw [List.take_range]
    congr 1
    omega
  rw [h3] at h1
  conv => lhs; rw [h1]
  rw [List.map_append, List.map_cons]
/-- what stands ahead of a word, and behind it -/
theorem all_split {t k j n : Nat} (hk : k < n) (hj : j < t ^ k) : ∃ r, lvs t n = (lvs t k ++ (List.range j).map (dg t k)) ++ dg t k j :: r := by
  obtain ⟨r, hr⟩ := lvs_pre (t := t) (k := k + 1) (n := n) (by omega)
  obtain ⟨r', hr'⟩ := lev_split hj
  exact ⟨r' ++ r, by rw [hr, lvs_succ, hr']; simp⟩
theorem find_split {α : Type} {p : α → Bool} {a b : List α} {x : α} (h : ∀ y ∈ a, p y = false) (hx : p x = true) : (a ++ x :: b).find? p = some x := by
  rw [List.find?_append, List.find?_eq_none.2 (by simpa using h)]
  simp [hx]
theorem lvs_mem {t n : Nat} {w : List Int} : w ∈ lvs t n ↔ ∃ k j, k < n ∧ j < t ^ k ∧ w = dg t k j := by
  simp only [lvs, lev, List.mem_flatMap, List.mem_map, List.mem_range]
  constructor
  · rintro ⟨k, h1, j, h2, rfl⟩; exact ⟨k, j, h1, h2, rfl⟩
  · rintro ⟨k, j, h1, h2, rfl⟩; exact ⟨k, h1, j, h2, rfl⟩
theorem range_map_succ {α : Type} (f : Nat → α) (k : Nat) : (List.range (k + 1)).map f = (List.range k).map f ++ [f k] := by rw [List.range_succ, List.map_append]; rfl
end Go.Proofs.Ytniobbepliknmaa.V
/- The text of parlance/compare.words as a statement (slots: 0 terms, 1 n, 2 terms, 3 n, 5 sum, 6 all); no condition. -/
namespace Go.Proofs.Ytniobbepliknmaa.V
open Go
def S143_1 : Stmt :=
  Stmt.seq
  (Stmt.region [SOper.mk (some 10) none (SOp.ibin BinOp.lss (Operand.tmp 9) (Operand.tmp 8))] [0, 5, 6, 8, 9, 10])
  (Stmt.seq (Stmt.cond (Operand.tmp 10) Stmt.skip (Stmt.exit 0))
    (Stmt.seq
      (Stmt.block 1
        (Stmt.seq
          (Stmt.region
            [SOper.mk (some 11) none (SOp.mv (Operand.tmp 5)), SOper.mk (some 12) none (SOp.mv (Operand.tmp 6)),
              SOper.mk (some 13) none (SOp.ibin BinOp.add (Operand.tmp 11) (Operand.tmp 12)),
              SOper.mk (some 14) none (SOp.fn Fk.min [Operand.const (Value.int IntKind.i64 501), Operand.tmp 13]),
              SOper.mk (some 5) none (SOp.mv (Operand.tmp 14))]
            [0, 5, 6, 8, 9])
          (Stmt.region
            [SOper.mk (some 15) none (SOp.mv (Operand.tmp 6)), SOper.mk (some 16) none (SOp.mv (Operand.tmp 0)),
              SOper.mk (some 17) none (SOp.ibin BinOp.mul (Operand.tmp 15) (Operand.tmp 16)),
              SOper.mk (some 18) none (SOp.fn Fk.min [Operand.const (Value.int IntKind.i64 501), Operand.tmp 17]),
              SOper.mk (some 6) none (SOp.mv (Operand.tmp 18))]
            [0, 5, 6, 8, 9])))
      (Stmt.region
        [SOper.mk (some 19) none (SOp.ibin BinOp.add (Operand.tmp 9) (Operand.const (Value.int IntKind.i64 1))),
          SOper.mk (some 9) none (SOp.mv (Operand.tmp 19))]
        [0, 5, 6, 8, 9])))
def S143_0 : Stmt :=
  Stmt.seq (Stmt.region [SOper.mk (some 4) none (SOp.mv (Operand.const (Value.int IntKind.i64 0)))] [0, 1])
  (Stmt.seq
    (Stmt.region
      [SOper.mk (some 5) none (SOp.mv (Operand.const (Value.int IntKind.i64 0))),
        SOper.mk (some 6) none (SOp.mv (Operand.const (Value.int IntKind.i64 1)))]
      [0, 1, 5, 6])
    (Stmt.seq
      (Stmt.seq
        (Stmt.region
          [SOper.mk (some 7) none (SOp.mv (Operand.tmp 1)),
            SOper.mk (some 8) none (SOp.ibin BinOp.add (Operand.tmp 7) (Operand.const (Value.int IntKind.i64 1))),
            SOper.mk (some 9) none (SOp.mv (Operand.const (Value.int IntKind.i64 0)))]
          [0, 5, 6, 8, 9])
        (Stmt.block 0 (Stmt.loop S143_1 [5, 6, 9] [0, 8])))
      (Stmt.seq
        (Stmt.region
          [SOper.mk (some 20) none (SOp.mv (Operand.tmp 5)), SOper.mk (some 4) none (SOp.mv (Operand.tmp 20))] [4])
        Stmt.ret)))
def S143 : FnS := ⟨21, [(4, none)], S143_0⟩
theorem tr143 : trFn Try.prog 143 [] [[0, 1], [0, 1, 5, 6], [0, 5, 6, 8, 9], [5, 6, 9], [0, 8], [0, 5, 6, 8, 9, 10], [0, 5, 6, 8, 9], [0, 5, 6, 8, 9], [0, 5, 6, 8, 9], [4]] = some S143 := by kernel_rfl
end Go.Proofs.Ytniobbepliknmaa.V
/- The text of parlance/compare.next as a statement (slots: 0 w, 1 terms, 2 w, 3 terms, 5 i); no condition. -/
namespace Go.Proofs.Ytniobbepliknmaa.V
open Go
def S145_1 : Stmt :=
  Stmt.seq
  (Stmt.seq
    (Stmt.region
      [SOper.mk (some 9) none (SOp.mv (Operand.tmp 5)),
        SOper.mk (some 10) none (SOp.ibin BinOp.geq (Operand.tmp 9) (Operand.const (Value.int IntKind.i64 0)))]
      [0, 1, 5, 10])
    (Stmt.cond (Operand.tmp 10) Stmt.skip (Stmt.exit 0)))
  (Stmt.seq
    (Stmt.block 1
      (Stmt.seq
        (Stmt.seq
          (Stmt.region
            [SOper.mk (some 13) none (SOp.mv (Operand.tmp 0)), SOper.mk (some 14) none (SOp.mv (Operand.tmp 5)),
              SOper.mk (some 15) none (SOp.idx 1 (Operand.tmp 13) (Operand.tmp 14)),
              SOper.mk (some 16) none (SOp.load false 1 (Operand.tmp 15)),
              SOper.mk (some 17) none (SOp.ibin BinOp.add (Operand.tmp 16) (Operand.const (Value.int IntKind.i64 1))),
              SOper.mk (some 18) none (SOp.mv (Operand.tmp 1)),
              SOper.mk (some 19) none (SOp.ibin BinOp.lss (Operand.tmp 17) (Operand.tmp 18))]
            [0, 1, 5, 19])
          (Stmt.cond (Operand.tmp 19)
            (Stmt.seq
              (Stmt.region
                [SOper.mk (some 20) none (SOp.mv (Operand.tmp 0)), SOper.mk (some 21) none (SOp.mv (Operand.tmp 5)),
                  SOper.mk (some 22) none (SOp.idx 1 (Operand.tmp 20) (Operand.tmp 21)),
                  SOper.mk (some 23) none (SOp.load false 1 (Operand.tmp 22)),
                  SOper.mk (some 24) none
                    (SOp.ibin BinOp.add (Operand.tmp 23) (Operand.const (Value.int IntKind.i64 1))),
                  SOper.mk (some 25) none (SOp.idx 1 (Operand.tmp 20) (Operand.tmp 21)),
                  SOper.mk none none (SOp.store 1 (Operand.tmp 25) (Operand.tmp 24))]
                [])
              (Stmt.seq (Stmt.region [SOper.mk (some 4) none (SOp.mv (Operand.const (Value.bool true)))] [4]) Stmt.ret))
            Stmt.skip))
        (Stmt.region
          [SOper.mk (some 26) none (SOp.mv (Operand.tmp 0)), SOper.mk (some 27) none (SOp.mv (Operand.tmp 5)),
            SOper.mk (some 28) none (SOp.idx 1 (Operand.tmp 26) (Operand.tmp 27)),
            SOper.mk none none (SOp.store 1 (Operand.tmp 28) (Operand.const (Value.int IntKind.i64 0)))]
          [0, 1, 5])))
    (Stmt.region
      [SOper.mk (some 11) none (SOp.mv (Operand.tmp 5)),
        SOper.mk (some 12) none (SOp.ibin BinOp.sub (Operand.tmp 11) (Operand.const (Value.int IntKind.i64 1))),
        SOper.mk (some 5) none (SOp.mv (Operand.tmp 12))]
      [0, 1, 5]))
def S145_0 : Stmt :=
  Stmt.seq (Stmt.region [SOper.mk (some 4) none (SOp.mv (Operand.const (Value.bool false)))] [0, 1])
  (Stmt.seq
    (Stmt.seq
      (Stmt.region
        [SOper.mk (some 6) none (SOp.mv (Operand.tmp 0)), SOper.mk (some 7) none (SOp.len false (Operand.tmp 6)),
          SOper.mk (some 8) none (SOp.ibin BinOp.sub (Operand.tmp 7) (Operand.const (Value.int IntKind.i64 1))),
          SOper.mk (some 5) none (SOp.mv (Operand.tmp 8))]
        [0, 1, 5])
      (Stmt.block 0 (Stmt.loop S145_1 [5] [0, 1])))
    (Stmt.seq (Stmt.region [SOper.mk (some 4) none (SOp.mv (Operand.const (Value.bool false)))] [4]) Stmt.ret))
def S145 : FnS := ⟨29, [(4, none)], S145_0⟩
theorem tr145 : trFn Try.prog 145 [] [[0, 1], [0, 1, 5], [5], [0, 1], [0, 1, 5, 10], [0, 1, 5, 19], [], [4], [0, 1, 5], [0, 1, 5], [4]] = some S145 := by kernel_rfl
end Go.Proofs.Ytniobbepliknmaa.V
/- How many words there are, and the next word: compare.words, compare.next; no condition. -/
namespace Go.Proofs.Ytniobbepliknmaa.V
open Go
set_option linter.unusedVariables false
set_option linter.unusedSimpArgs false
attribute [local go_sem] e_seq e_region e_quiet e_join e_loop e_cond e_block e_exit e_ret e_skip e_fin e_kseq e_snrm e_sret e_sex e_bnrm e_bret e_bex e_rnrm e_rret e_res e_condC e_nil e_g e_mv g_mv e_pick g_pick pickC_eq e_ibin g_ibin ibinC_eq e_sbin g_sbin e_beq g_beq beqC_eq e_nilq g_nilq nilqC_sl nilqC_pt nilqC_mp e_un g_un unC_not unC_neg e_conv g_conv convC_eq e_fld g_fld fldC_ref fldC_ptr e_nilCheck g_nilCheck nilCheckC_ref nilCheckC_ptr nilCheckC_fun e_field g_field fieldC_eq e_len g_len lenC_sl lenC_str e_extract g_extract extractC_eq e_mkFunc e_build g_build e_idiv g_idiv idivC_eq e_ishift g_ishift ishiftC_eq e_idx g_idx e_idxA g_idxA e_load g_load loadC_ref loadC_ptr loadB_eq e_slc g_slc e_box boxC_loc boxC_esc e_alloc allocC_loc allocC_esc e_buildS e_store storeC_ref storeC_ptr storeB_eq e_append e_appz e_mk mkC_eq e_call callC_eq e_fn g_fn fnC_eq fnV_min' fnV_max' fnV_rune' e_q g_q e_a e_n g_call g_box g_alloc g_buildS g_store g_append g_mk g_a g_n g_dead e_dead e_callK e_drawn e_tree e_finJ e_tk e_tfin e_tno e_nbt_q e_nbt_qn e_nbt_a e_nbt_an e_nbt_fin e_early_nil e_early_t e_early_f e_nob_nil e_nob_none e_nob_some isBox_dead isBox_v isBox_ref e_dnil e_dk e_ek e_finB vcOps_vc1 e_dcons e_tq e_ekt e_tearly e_talt e_dearly look_nil look_c proj_nil proj_c looks_nil looks_c zip_nil zip_c val_tmp val_const val_func slv_v slv_box slv_ref slot_tmp slot_const slot_func slotL_v slotL_box slotL_ref put_some put_none updBox_c boxSet_box gd_eq slotVals_nil slotVals_c slotVals_b boxV_box boxOn_box slotsOn_nil slotsOn_c slotsOn_b resV_one resV_two vals_nil vals_c allOn_nil allOn_c partOn_nil partOn_c partVals_nil partVals_c fits_nil fits_c fillL_nil fillL_c mkv_one mkv_agg cellsV_agg cellsV_int cellsV_bool cellsV_slice cellsV_string cellsV_pointer cellsV_func cellsV_nilf cellsV_map one'_nil one'_c oc_int oc_bool oc_slice oc_string oc_pointer oc_func oc_nilf oc_map setC_eq iv_add iv_sub iv_mul iv_eql iv_neq iv_lss iv_leq iv_gtr iv_geq iok_add iok_sub iok_mul iok_eql iok_neq iok_lss iok_leq iok_gtr iok_geq pickV_bool args0_nil args0_c bnd_none bnd_some imp_bt imp_bf imp_ebt imp_ebf imp_eb1 imp_np imp_pp beq_tt beq_tf beq_ft beq_ff cond_or cond_and e_round e_meet Int.le_refl Int.toNat_zero decide_true decide_false Bool.or_false Bool.false_or Bool.true_or Bool.or_true Bool.and_false Bool.false_and Bool.bne_false Bool.bne_true beq_iff_eq Int.cast_ofNat_Int not_false_eq_true not_true_eq_false false_and and_false false_implies true_implies true_and and_true Bool.true_and Bool.and_true Bool.not_true Bool.not_false forall_const implies_true List.take_zero List.drop_zero List.take_succ_cons List.drop_succ_cons List.take_nil List.drop_nil List.length_cons List.length_nil List.nil_append List.append_nil List.cons_append Int.toNat_natCast decide_eq_true_eq decide_eq_false_iff_not cond_true cond_false and_self List.getElem?_cons_zero List.getElem?_cons_succ List.set_cons_zero List.set_cons_succ Option.some.injEq exists_eq_left' Nat.zero_add Nat.add_zero Nat.mul_one imp_self true_or or_true or_false false_or Bool.or_eq_true Bool.or_eq_false_iff Bool.and_eq_true Bool.and_eq_false_iff Bool.not_eq_true' Bool.not_eq_false'

theorem min_mul (p t : Nat) (ht : 1 ≤ t) : min 501 (min 501 p * t) = min 501 (p * t) := by
  rcases Nat.le_total p 501 with h | h
  · rw [Nat.min_eq_right h]
  · rw [Nat.min_eq_left h]
    have h1 : 501 * 1 ≤ 501 * t := Nat.mul_le_mul_left _ ht
    have h2 : p * 1 ≤ p * t := Nat.mul_le_mul_left _ ht
    omega
theorem cmp_words {Γr : Ctx} (t n : Nat) (ht : 1 ≤ t ∧ t ≤ 8) (hn : n ≤ 100) :
    Ret Try.prog 143 [.int .i64 t, .int .i64 n] Γr [] (fun v Γ => Γ = [] ∧ v = .int .i64 (min 501 (lvs t (n + 1)).length : Nat)) := by
  generalize hR : (fun (v : Value) (Γ : Ctx) => Γ = [] ∧ v = _) = R
  refine ret_of_vc tr143 (Nat.le_of_ble_eq_true rfl) ?_
  simp -implicitDefEqProofs only [S143, S143_0, go_sem, Nat.reduceBEq, Nat.reduceAdd, Nat.reduceSub, Nat.reduceMul, Nat.reduceLeDiff, reduceCtorEq, ↓reduceIte, Int.reduceLT, Int.reduceLE, Int.reduceEq, Int.reduceNe]
  simp (disch := omega) only [wrap_id]
  refine s_loop (fun f vs Γ => Γ = [] ∧ ∃ k a b : Nat, vs = [.v true (.int .i64 a), .v true (.int .i64 b), .v true (.int .i64 k)] ∧ k + f = n + 1 ∧ a = min 501 (lvs t k).length ∧ b = min 501 (t ^ k)) (n + 1) (Up.here ⟨rfl, 0, 0, 1, rfl, by omega, by simp [lvs_zero], by simp⟩) ?_
  rintro f vs Γ ⟨rfl, k, a, b, rfl, hkf, ha, hb⟩
  have ha5 : a ≤ 501 := by omega
  have hb5 : b ≤ 501 := by omega
  have hm : (b : Int) * t = ((b * t : Nat) : Int) := by simp
  have hm5 : b * t ≤ 501 * 8 := Nat.mul_le_mul hb5 ht.2
  simp -implicitDefEqProofs only [S143_1, hm, fnV_min', fnC_eq, go_sem, Nat.reduceBEq, Nat.reduceAdd, Nat.reduceSub, Nat.reduceMul, Nat.reduceLeDiff, reduceCtorEq, ↓reduceIte, Int.reduceLT, Int.reduceLE, Int.reduceEq, Int.reduceNe]
  simp (disch := omega) only [wrap_id]
  have e1 : (if ((a : Int) + b) < 501 then ((a : Int) + b) else 501) = ((min 501 (a + b) : Nat) : Int) := by split <;> omega
  have e2 : (if ((b * t : Nat) : Int) < 501 then ((b * t : Nat) : Int) else 501) = ((min 501 (b * t) : Nat) : Int) := by split <;> omega
  refine ⟨fun hlt => ?_, fun hge => Up.here ?_⟩
  · rw [e1, e2]
    refine ⟨f - 1, by omega, Up.here ⟨rfl, k + 1, _, _, rfl, by omega, ?_, ?_⟩⟩
    · rw [lvs_len_succ]; omega
    · rw [hb, min_mul _ _ ht.1, Nat.pow_succ]
  · subst hR
    have hk : k = n + 1 := by omega
    subst hk
    exact ⟨rfl, by rw [ha]⟩
/-- what the word is while its end is put back to zeros -/
theorem cmp_next {Γr : Ctx} {g : PH} {b : Nat} (t k P : Nat) (ht : 1 ≤ t ∧ t ≤ 1000) (hk : k ≤ 100000) (hP : P < t ^ k) (hA : Arr g b 3 (dg t k P)) :
    Ret Try.prog 145 [.slice (some ⟨b, 0, none⟩) k k, .int .i64 t] Γr [g] (fun v Γ => ∃ g', Γ = [g'] ∧ ((P + 1 < t ^ k ∧ v = .bool true ∧ Arr g' b 3 (dg t k (P + 1))) ∨ (P + 1 = t ^ k ∧ v = .bool false ∧ ∃ xs : List Int, Arr g' b 3 xs))) := by
  generalize hR : (fun (v : Value) (Γ : Ctx) => ∃ g', _) = R
  refine ret_of_vc tr145 (Nat.le_of_ble_eq_true rfl) ?_
  have ht0 : 0 < t := by omega
  simp -implicitDefEqProofs only [S145, S145_0, go_sem, Nat.reduceBEq, Nat.reduceAdd, Nat.reduceSub, Nat.reduceMul, Nat.reduceLeDiff, reduceCtorEq, ↓reduceIte, Int.reduceLT, Int.reduceLE, Int.reduceEq, Int.reduceNe]
  simp (disch := omega) only [wrap_id]
  refine s_loop (fun f vs Γ => ∃ (g : PH) (p m : Nat), vs = [.v true (.int .i64 ((f : Int) - 1))] ∧ Γ = [g] ∧ f + m = k ∧ P + 1 = (p + 1) * t ^ m ∧ Arr g b 3 (dg t f p ++ List.replicate m (0 : Int))) k
    (Up.here ⟨g, P, 0, rfl, rfl, by omega, by simp, by simpa using hA⟩) ?_
  rintro f vs Γ ⟨g1, p, m, rfl, rfl, hfm, hp, hA1⟩
  simp -implicitDefEqProofs only [S145_1, go_sem, Nat.reduceBEq, Nat.reduceAdd, Nat.reduceSub, Nat.reduceMul, Nat.reduceLeDiff, reduceCtorEq, ↓reduceIte, Int.reduceLT, Int.reduceLE, Int.reduceEq, Int.reduceNe]
  refine ⟨fun hge => ?_, fun hlt => Up.here ?_⟩
  · obtain ⟨f, rfl⟩ : ∃ f', f = f' + 1 := ⟨f - 1, by omega⟩
    have hlen : (dg t (f + 1) p ++ List.replicate m (0 : Int)).length = k := by rw [List.length_append, dg_len, List.length_replicate]; omega
    have hfl : f < (dg t (f + 1) p ++ List.replicate m (0 : Int)).length := by omega
    have hel : (dg t (f + 1) p ++ List.replicate m (0 : Int))[f] = ((p % t : Nat) : Int) := by
      rw [List.getElem_append_left (by rw [dg_len]; omega)]
      simp only [dg]
      rw [List.getElem_append_right (by rw [dg_len]; omega)]
      simp [dg_len]
    have hset : ∀ x : Int, (dg t (f + 1) p ++ List.replicate m (0 : Int)).set f x = (dg t f (p / t) ++ [x]) ++ List.replicate m (0 : Int) := by
      intro x
      rw [List.set_append_left _ _ (by rw [dg_len]; omega)]
      simp only [dg]
      rw [List.set_append_right _ _ (by rw [dg_len]; omega)]
      simp [dg_len]
    have hmt := Nat.mod_lt p ht0
    have hdm := Nat.div_add_mod p t
    have e0 : (((f + 1 : Nat) : Int) - 1) = (f : Int) := by omega
    rw [e0]
    refine s_idx rfl (by omega) (by omega) ?_
    simp -implicitDefEqProofs only [go_sem, Nat.reduceBEq, Nat.reduceAdd, Nat.reduceSub, Nat.reduceMul, Nat.reduceLeDiff, reduceCtorEq, ↓reduceIte, Int.reduceLT, Int.reduceLE, Int.reduceEq, Int.reduceNe]
    refine s_ld0 (hA1.cell hfl (by simp)) (by simp) (by simp) ?_
    rw [hel]
    simp -implicitDefEqProofs only [Sc.enc, go_sem, Nat.reduceBEq, Nat.reduceAdd, Nat.reduceSub, Nat.reduceMul, Nat.reduceLeDiff, reduceCtorEq, ↓reduceIte, Int.reduceLT, Int.reduceLE, Int.reduceEq, Int.reduceNe]
    simp (disch := omega) only [wrap_id]
    refine ⟨fun hl => ?_, fun hl => ?_⟩
    · refine s_idx rfl (by omega) (by omega) ?_
      simp -implicitDefEqProofs only [go_sem, Nat.reduceBEq, Nat.reduceAdd, Nat.reduceSub, Nat.reduceMul, Nat.reduceLeDiff, reduceCtorEq, ↓reduceIte, Int.reduceLT, Int.reduceLE, Int.reduceEq, Int.reduceNe]
      refine s_ld0 (hA1.cell hfl (by simp)) (by simp) (by simp) ?_
      rw [hel]
      simp -implicitDefEqProofs only [Sc.enc, go_sem, Nat.reduceBEq, Nat.reduceAdd, Nat.reduceSub, Nat.reduceMul, Nat.reduceLeDiff, reduceCtorEq, ↓reduceIte, Int.reduceLT, Int.reduceLE, Int.reduceEq, Int.reduceNe]
      refine s_idx rfl (by omega) (by omega) ?_
      simp -implicitDefEqProofs only [go_sem, Nat.reduceBEq, Nat.reduceAdd, Nat.reduceSub, Nat.reduceMul, Nat.reduceLeDiff, reduceCtorEq, ↓reduceIte, Int.reduceLT, Int.reduceLE, Int.reduceEq, Int.reduceNe]
      simp (disch := omega) only [wrap_id]
      refine s_storeA (ix := 0) (α := Int) ((p % t : Nat) + 1 : Int) rfl hA1 hfl ?_
      intro g' hA' _
      simp -implicitDefEqProofs only [go_sem, Nat.reduceBEq, Nat.reduceAdd, Nat.reduceSub, Nat.reduceMul, Nat.reduceLeDiff, reduceCtorEq, ↓reduceIte, Int.reduceLT, Int.reduceLE, Int.reduceEq, Int.reduceNe]
      refine Up.here ?_
      rw [hset] at hA'
      have h1 : dg t (f + 1) (p + 1) = dg t f (p / t) ++ [((p % t : Nat) : Int) + 1] := by
        have := dg_snoc (t := t) f (p / t) (p % t + 1) (by omega)
        rw [show p / t * t + (p % t + 1) = p + 1 by rw [Nat.mul_comm]; omega] at this
        rw [this]
        rfl
      rw [← h1, ← dg_zeros ht0, ← hp, hfm] at hA'
      have hlt2 : P + 1 < t ^ k := by
        have h2 : p + 1 < t * (p / t + 1) := by rw [Nat.mul_add]; omega
        have h3 : p / t + 1 ≤ t ^ f := by
          have : p / t < t ^ f := by
            apply Nat.lt_of_not_le
            intro q
            have h4 : t * t ^ f ≤ t * (p / t) := Nat.mul_le_mul_left _ q
            have h5 : t ^ (f + 1) * t ^ m ≤ p * t ^ m := Nat.mul_le_mul_right _ (by rw [Nat.pow_succ, Nat.mul_comm]; omega)
            rw [← Nat.pow_add, hfm] at h5
            have h6 : p * t ^ m + 1 ≤ (p + 1) * t ^ m := by
              rw [Nat.add_mul, Nat.one_mul]
              have := Nat.pow_pos (n := m) ht0
              omega
            omega
          omega
        have h7 : p + 1 < t ^ (f + 1) := by
          have : t * (p / t + 1) ≤ t * t ^ f := Nat.mul_le_mul_left _ h3
          rw [Nat.pow_succ, Nat.mul_comm (t ^ f)]
          omega
        rw [hp, ← hfm, Nat.pow_add]
        exact Nat.mul_lt_mul_of_pos_right h7 (Nat.pow_pos ht0)
      subst hR
      exact ⟨g', rfl, .inl ⟨hlt2, rfl, hA'⟩⟩
    · refine s_idx rfl (by omega) (by omega) ?_
      simp -implicitDefEqProofs only [go_sem, Nat.reduceBEq, Nat.reduceAdd, Nat.reduceSub, Nat.reduceMul, Nat.reduceLeDiff, reduceCtorEq, ↓reduceIte, Int.reduceLT, Int.reduceLE, Int.reduceEq, Int.reduceNe]
      refine s_storeA (ix := 0) (α := Int) (0 : Int) rfl hA1 hfl ?_
      intro g' hA' _
      simp -implicitDefEqProofs only [go_sem, Nat.reduceBEq, Nat.reduceAdd, Nat.reduceSub, Nat.reduceMul, Nat.reduceLeDiff, reduceCtorEq, ↓reduceIte, Int.reduceLT, Int.reduceLE, Int.reduceEq, Int.reduceNe]
      simp (disch := omega) only [wrap_id]
      rw [hset] at hA'
      refine ⟨f, by omega, Up.here ⟨g', p / t, m + 1, rfl, rfl, by omega, ?_, ?_⟩⟩
      · have : p + 1 = (p / t + 1) * t := by rw [Nat.add_mul, Nat.mul_comm]; omega
        rw [hp, this, Nat.pow_succ, Nat.mul_assoc, Nat.mul_comm t]
      · rw [List.append_assoc] at hA'
        exact hA'
  · have hf : f = 0 := by omega
    subst hf
    subst hR
    refine ⟨g1, rfl, .inr ⟨?_, rfl, _, hA1⟩⟩
    have hmk : m = k := by omega
    subst hmk
    have : t ^ m ≤ (p + 1) * t ^ m := Nat.le_mul_of_pos_left _ (by omega)
    omega
end Go.Proofs.Ytniobbepliknmaa.V
/- The text of parlance/gram.Word as a statement (slots: 0 g, 1 w, 2 most, 3 g, 4 w, 5 most, 7 _, 8 t); no condition. -/
namespace Go.Proofs.Ytniobbepliknmaa.V
open Go
def S205_1 : Stmt :=
  Stmt.seq
  (Stmt.region [SOper.mk (some 16) none (SOp.ibin BinOp.lss (Operand.tmp 15) (Operand.tmp 14))] [3, 13, 14, 15, 16])
  (Stmt.seq (Stmt.cond (Operand.tmp 16) Stmt.skip (Stmt.exit 0))
    (Stmt.seq
      (Stmt.block 1
        (Stmt.seq
          (Stmt.region
            [SOper.mk (some 17) none (SOp.idx 1 (Operand.tmp 13) (Operand.tmp 15)),
              SOper.mk (some 18) none (SOp.load false 1 (Operand.tmp 17)),
              SOper.mk (some 8) none (SOp.mv (Operand.tmp 18))]
            [3, 8, 13, 14, 15])
          (Stmt.seq
            (Stmt.region
              [SOper.mk (some 19) none (SOp.mv (Operand.tmp 8)),
                SOper.mk (some 20) none (SOp.ibin BinOp.lss (Operand.tmp 19) (Operand.const (Value.int IntKind.i64 0))),
                SOper.mk (some 21) none (SOp.mv (Operand.tmp 20)),
                SOper.mk (some 22) (some (21, false)) (SOp.mv (Operand.tmp 8)),
                SOper.mk (some 23) (some (21, false)) (SOp.fld 0 (Operand.tmp 3)),
                SOper.mk (some 24) (some (21, false)) (SOp.load false 1 (Operand.tmp 23)),
                SOper.mk (some 25) (some (21, false)) (SOp.ibin BinOp.geq (Operand.tmp 22) (Operand.tmp 24)),
                SOper.mk (some 26) none (SOp.pick (Operand.tmp 21) (Operand.const (Value.bool true)) (Operand.tmp 25))]
              [3, 13, 14, 15, 26])
            (Stmt.cond (Operand.tmp 26)
              (Stmt.seq (Stmt.region [SOper.mk (some 6) none (SOp.mv (Operand.const (Value.int IntKind.i64 1)))] [6])
                Stmt.ret)
              Stmt.skip))))
      (Stmt.region
        [SOper.mk (some 27) none (SOp.ibin BinOp.add (Operand.tmp 15) (Operand.const (Value.int IntKind.i64 1))),
          SOper.mk (some 15) none (SOp.mv (Operand.tmp 27))]
        [3, 13, 14, 15])))
def S205_0 : Stmt :=
  Stmt.seq
  (Stmt.region
    [SOper.mk (some 3) none (SOp.box true 57 (Operand.tmp 0)),
      SOper.mk (some 6) none (SOp.mv (Operand.const (Value.int IntKind.i64 0)))]
    [1, 2, 3])
  (Stmt.seq
    (Stmt.seq
      (Stmt.region
        [SOper.mk (some 9) none (SOp.mv (Operand.tmp 1)), SOper.mk (some 10) none (SOp.len false (Operand.tmp 9)),
          SOper.mk (some 11) none (SOp.mv (Operand.tmp 2)),
          SOper.mk (some 12) none (SOp.ibin BinOp.gtr (Operand.tmp 10) (Operand.tmp 11))]
        [1, 3, 12])
      (Stmt.cond (Operand.tmp 12)
        (Stmt.seq (Stmt.region [SOper.mk (some 6) none (SOp.mv (Operand.const (Value.int IntKind.i64 2)))] [6])
          Stmt.ret)
        Stmt.skip))
    (Stmt.seq
      (Stmt.seq
        (Stmt.region
          [SOper.mk (some 13) none (SOp.mv (Operand.tmp 1)), SOper.mk (some 14) none (SOp.len false (Operand.tmp 13)),
            SOper.mk (some 15) none (SOp.mv (Operand.const (Value.int IntKind.i64 0)))]
          [3, 13, 14, 15])
        (Stmt.block 0 (Stmt.loop S205_1 [15] [3, 13, 14])))
      (Stmt.seq (Stmt.region [SOper.mk (some 6) none (SOp.mv (Operand.const (Value.int IntKind.i64 0)))] [6])
        Stmt.ret)))
def S205 : FnS := ⟨28, [(6, none)], S205_0⟩
theorem tr205 : trFn Try.prog 205 [3] [[1, 2, 3], [1, 3, 12], [6], [3, 13, 14, 15], [15], [3, 13, 14], [3, 13, 14, 15, 16], [3, 8, 13, 14, 15], [3, 13, 14, 15, 26], [6], [3, 13, 14, 15], [6]] = some S205 := by kernel_rfl
end Go.Proofs.Ytniobbepliknmaa.V
/- The text of parlance/mean.check as a statement (slots: 0 g, 1 w, 2 g, 3 w, 5 e); no condition. -/
namespace Go.Proofs.Ytniobbepliknmaa.V
open Go
def S181_0 : Stmt :=
  Stmt.seq
  (Stmt.region
    [SOper.mk (some 2) none (SOp.box true 57 (Operand.tmp 0)),
      SOper.mk (some 4) none (SOp.mv (Operand.const (Value.int IntKind.i64 0)))]
    [1, 2])
  (Stmt.seq
    (Stmt.seq
      (Stmt.region
        [SOper.mk (some 6) none (SOp.load true 4 (Operand.tmp 2)),
          SOper.mk (some 7) none (SOp.call (Operand.func 112) [Operand.tmp 6]),
          SOper.mk (some 5) none (SOp.mv (Operand.tmp 7))]
        [1, 2, 5])
      (Stmt.seq
        (Stmt.region
          [SOper.mk (some 8) none (SOp.mv (Operand.tmp 5)),
            SOper.mk (some 9) none (SOp.ibin BinOp.neq (Operand.tmp 8) (Operand.const (Value.int IntKind.i64 0)))]
          [1, 2, 5, 9])
        (Stmt.cond (Operand.tmp 9)
          (Stmt.seq
            (Stmt.region
              [SOper.mk (some 10) none (SOp.mv (Operand.tmp 5)), SOper.mk (some 4) none (SOp.mv (Operand.tmp 10))] [4])
            Stmt.ret)
          Stmt.skip)))
    (Stmt.seq
      (Stmt.region
        [SOper.mk (some 11) none (SOp.load true 4 (Operand.tmp 2)), SOper.mk (some 12) none (SOp.mv (Operand.tmp 1)),
          SOper.mk (some 13) none
            (SOp.call (Operand.func 205) [Operand.tmp 11, Operand.tmp 12, Operand.const (Value.int IntKind.i64 12)]),
          SOper.mk (some 4) none (SOp.mv (Operand.tmp 13))]
        [4])
      Stmt.ret))
def S181 : FnS := ⟨14, [(4, none)], S181_0⟩
theorem tr181 : trFn Try.prog 181 [2] [[1, 2], [1, 2, 5], [1, 2, 5, 9], [4], [4]] = some S181 := by kernel_rfl
end Go.Proofs.Ytniobbepliknmaa.V
/- The text of parlance/mean.Accepts as a statement (slots: 0 g, 1 w, 2 g, 3 w, 6 e); no condition. -/
namespace Go.Proofs.Ytniobbepliknmaa.V
open Go
def S144_0 : Stmt :=
  Stmt.seq
  (Stmt.region
    [SOper.mk (some 2) none (SOp.box true 57 (Operand.tmp 0)),
      SOper.mk (some 4) none (SOp.mv (Operand.const (Value.bool false))),
      SOper.mk (some 5) none (SOp.mv (Operand.const (Value.int IntKind.i64 0)))]
    [1, 2])
  (Stmt.seq
    (Stmt.seq
      (Stmt.region
        [SOper.mk (some 7) none (SOp.load true 4 (Operand.tmp 2)), SOper.mk (some 8) none (SOp.mv (Operand.tmp 1)),
          SOper.mk (some 9) none (SOp.call (Operand.func 181) [Operand.tmp 7, Operand.tmp 8]),
          SOper.mk (some 6) none (SOp.mv (Operand.tmp 9))]
        [1, 2, 6])
      (Stmt.seq
        (Stmt.region
          [SOper.mk (some 10) none (SOp.mv (Operand.tmp 6)),
            SOper.mk (some 11) none (SOp.ibin BinOp.neq (Operand.tmp 10) (Operand.const (Value.int IntKind.i64 0)))]
          [1, 2, 6, 11])
        (Stmt.cond (Operand.tmp 11)
          (Stmt.seq
            (Stmt.region
              [SOper.mk (some 12) none (SOp.mv (Operand.tmp 6)),
                SOper.mk (some 4) none (SOp.mv (Operand.const (Value.bool false))),
                SOper.mk (some 5) none (SOp.mv (Operand.tmp 12))]
              [4, 5])
            Stmt.ret)
          Stmt.skip)))
    (Stmt.seq
      (Stmt.drawn
        [(false, SOper.mk (some 13) none (SOp.load true 4 (Operand.tmp 2))),
          (false, SOper.mk (some 14) none (SOp.mv (Operand.tmp 1))),
          (false, SOper.mk (some 16) none (SOp.fld 2 (Operand.tmp 2))),
          (true, SOper.mk (some 17) none (SOp.load false 1 (Operand.tmp 16))),
          (false,
            SOper.mk (some 18) none
              (SOp.build 39 [Value.bool false, Value.int IntKind.i64 0] [(1, 1, Operand.tmp 17)])),
          (false, SOper.mk (some 19) none (SOp.mv (Operand.tmp 1))),
          (false, SOper.mk (some 20) none (SOp.len false (Operand.tmp 19))),
          (false, SOper.mk (some 15) none (SOp.call (Operand.func 182) [Operand.tmp 13, Operand.tmp 14])),
          (false,
            SOper.mk (some 21) none
              (SOp.call (Operand.func 183)
                [Operand.tmp 15, Operand.tmp 18, Operand.const (Value.int IntKind.i64 0), Operand.tmp 20])),
          (false, SOper.mk (some 4) none (SOp.mv (Operand.tmp 21))),
          (false, SOper.mk (some 5) none (SOp.mv (Operand.const (Value.int IntKind.i64 0))))]
        [4, 5])
      Stmt.ret))
def S144 : FnS := ⟨22, [(4, none), (5, none)], S144_0⟩
theorem tr144 : trFn Try.prog 144 [2] [[1, 2], [1, 2, 6], [1, 2, 6, 11], [4, 5], [4, 5], [0, 1, 3, 4, 5, 6, 7, 2, 8, 9, 10], [4], [], [], [0, 1], [], [3], [3, 4], [], [6], [0, 1, 2, 3, 4, 5, 6, 7], [0, 1, 2, 3, 4, 5, 6, 7, 8], [0, 1, 2, 3, 4, 5, 6, 7, 8, 9]] = some S144 := by kernel_rfl
end Go.Proofs.Ytniobbepliknmaa.V
/- Whether a grammar has a word: gram.Word, mean.check, mean.Accepts; no condition. -/
namespace Go.Proofs.Ytniobbepliknmaa.V
open Go
set_option linter.unusedVariables false
set_option linter.unusedSimpArgs false
attribute [local go_sem] e_seq e_region e_quiet e_join e_loop e_cond e_block e_exit e_ret e_skip e_fin e_kseq e_snrm e_sret e_sex e_bnrm e_bret e_bex e_rnrm e_rret e_res e_condC e_nil e_g e_mv g_mv e_pick g_pick pickC_eq e_ibin g_ibin ibinC_eq e_sbin g_sbin e_beq g_beq beqC_eq e_nilq g_nilq nilqC_sl nilqC_pt nilqC_mp e_un g_un unC_not unC_neg e_conv g_conv convC_eq e_fld g_fld fldC_ref fldC_ptr e_nilCheck g_nilCheck nilCheckC_ref nilCheckC_ptr nilCheckC_fun e_field g_field fieldC_eq e_len g_len lenC_sl lenC_str e_extract g_extract extractC_eq e_mkFunc e_build g_build e_idiv g_idiv idivC_eq e_ishift g_ishift ishiftC_eq e_idx g_idx e_idxA g_idxA e_load g_load loadC_ref loadC_ptr loadB_eq e_slc g_slc e_box boxC_loc boxC_esc e_alloc allocC_loc allocC_esc e_buildS e_store storeC_ref storeC_ptr storeB_eq e_append e_appz e_mk mkC_eq e_call callC_eq e_fn g_fn fnC_eq fnV_min' fnV_max' fnV_rune' e_q g_q e_a e_n g_call g_box g_alloc g_buildS g_store g_append g_mk g_a g_n g_dead e_dead e_callK e_drawn e_tree e_finJ e_tk e_tfin e_tno e_nbt_q e_nbt_qn e_nbt_a e_nbt_an e_nbt_fin e_early_nil e_early_t e_early_f e_nob_nil e_nob_none e_nob_some isBox_dead isBox_v isBox_ref e_dnil e_dk e_ek e_finB vcOps_vc1 e_dcons e_tq e_ekt e_tearly e_talt e_dearly look_nil look_c proj_nil proj_c looks_nil looks_c zip_nil zip_c val_tmp val_const val_func slv_v slv_box slv_ref slot_tmp slot_const slot_func slotL_v slotL_box slotL_ref put_some put_none updBox_c boxSet_box gd_eq slotVals_nil slotVals_c slotVals_b boxV_box boxOn_box slotsOn_nil slotsOn_c slotsOn_b resV_one resV_two vals_nil vals_c allOn_nil allOn_c partOn_nil partOn_c partVals_nil partVals_c fits_nil fits_c fillL_nil fillL_c mkv_one mkv_agg cellsV_agg cellsV_int cellsV_bool cellsV_slice cellsV_string cellsV_pointer cellsV_func cellsV_nilf cellsV_map one'_nil one'_c oc_int oc_bool oc_slice oc_string oc_pointer oc_func oc_nilf oc_map setC_eq iv_add iv_sub iv_mul iv_eql iv_neq iv_lss iv_leq iv_gtr iv_geq iok_add iok_sub iok_mul iok_eql iok_neq iok_lss iok_leq iok_gtr iok_geq pickV_bool args0_nil args0_c bnd_none bnd_some imp_bt imp_bf imp_ebt imp_ebf imp_eb1 imp_np imp_pp beq_tt beq_tf beq_ft beq_ff cond_or cond_and e_round e_meet Int.le_refl Int.toNat_zero decide_true decide_false Bool.or_false Bool.false_or Bool.true_or Bool.or_true Bool.and_false Bool.false_and Bool.bne_false Bool.bne_true beq_iff_eq Int.cast_ofNat_Int not_false_eq_true not_true_eq_false false_and and_false false_implies true_implies true_and and_true Bool.true_and Bool.and_true Bool.not_true Bool.not_false forall_const implies_true List.take_zero List.drop_zero List.take_succ_cons List.drop_succ_cons List.take_nil List.drop_nil List.length_cons List.length_nil List.nil_append List.append_nil List.cons_append Int.toNat_natCast decide_eq_true_eq decide_eq_false_iff_not cond_true cond_false and_self List.getElem?_cons_zero List.getElem?_cons_succ List.set_cons_zero List.set_cons_succ Option.some.injEq exists_eq_left' Nat.zero_add Nat.add_zero Nat.mul_one imp_self true_or or_true or_false false_or Bool.or_eq_true Bool.or_eq_false_iff Bool.and_eq_true Bool.and_eq_false_iff Bool.not_eq_true' Bool.not_eq_false'

def wordF (ts : Int) (w : List Int) (most : Nat) : Int := if most < w.length then 2 else if ∀ t ∈ w, 0 ≤ t ∧ t < ts then 0 else 1
theorem wordF_ok {ts : Int} {w : List Int} {most : Nat} (h : wordF ts w most = 0) : w.length ≤ most ∧ ∀ t ∈ w, 0 ≤ t ∧ t < ts := by
  unfold wordF at h
  split at h
  · cases h
  · split at h
    · rename_i h2; exact ⟨by omega, h2⟩
    · cases h
theorem gram_word {Γr : Ctx} {g : Gr} {A W : Option Addr} {c d : Nat} {w : List Int} (hw : SlOk (lk Γr) W d w) (most : Nat) (hm : most ≤ 100000) :
    Ret Try.prog 205 [.agg #[.int .i64 g.ts, .int .i64 g.ns, .int .i64 g.st, .slice A g.rs.length c], .slice W w.length d, .int .i64 most] Γr [] (fun v Γ => Γ = [] ∧ v = .int .i64 (wordF g.ts w most)) := by
  generalize hR : (fun (v : Value) (Γ : Ctx) => Γ = [] ∧ v = _) = R
  refine ret_of_vc tr205 (Nat.le_of_ble_eq_true rfl) ?_
  have hws := hw.short
  simp -implicitDefEqProofs only [S205, S205_0, go_sem, Nat.reduceBEq, Nat.reduceAdd, Nat.reduceSub, Nat.reduceMul, Nat.reduceLeDiff, reduceCtorEq, ↓reduceIte, Int.reduceLT, Int.reduceLE, Int.reduceEq, Int.reduceNe]
  intro b0
  refine ⟨fun h => Up.here ?_, fun h => ?_⟩
  · subst hR
    exact ⟨rfl, by rw [wordF, if_pos (by omega)]⟩
  have hle : w.length ≤ most := by omega
  refine s_loop (fun f vs Γ => Γ = [] ∧ ∃ k : Nat, vs = [.v true (.int .i64 k)] ∧ k + f = w.length ∧ ∀ t ∈ w.take k, 0 ≤ t ∧ t < g.ts) w.length (Up.here ⟨rfl, 0, rfl, by omega, by simp⟩) ?_
  rintro f vs Γ ⟨rfl, k, rfl, hkf, hk2⟩
  simp -implicitDefEqProofs only [S205_1, go_sem, Nat.reduceBEq, Nat.reduceAdd, Nat.reduceSub, Nat.reduceMul, Nat.reduceLeDiff, reduceCtorEq, ↓reduceIte, Int.reduceLT, Int.reduceLE, Int.reduceEq, Int.reduceNe]
  refine ⟨fun hlt => ?_, fun hge => ?_⟩
  · have hk : k < w.length := by omega
    obtain ⟨b1, o1, hA1, hc1⟩ := hw.int hk
    refine s_idx hA1 (by omega) (by omega) ?_
    simp -implicitDefEqProofs only [go_sem, Nat.reduceBEq, Nat.reduceAdd, Nat.reduceSub, Nat.reduceMul, Nat.reduceLeDiff, reduceCtorEq, ↓reduceIte, Int.reduceLT, Int.reduceLE, Int.reduceEq, Int.reduceNe]
    refine s_ld0 (hc1 _ (lk_r _ _)) (by simp) (by simp) ?_
    simp -implicitDefEqProofs only [go_sem, Nat.reduceBEq, Nat.reduceAdd, Nat.reduceSub, Nat.reduceMul, Nat.reduceLeDiff, reduceCtorEq, ↓reduceIte, Int.reduceLT, Int.reduceLE, Int.reduceEq, Int.reduceNe]
    simp (disch := omega) only [wrap_id]
    refine ⟨fun h => Up.here ?_, fun h => ⟨f - 1, by omega, Up.here ⟨rfl, k + 1, rfl, by omega, fun t ht => ?_⟩⟩⟩
    · subst hR
      refine ⟨rfl, ?_⟩
      rw [wordF, if_neg (by omega), if_neg]
      intro q
      have := q _ (List.getElem_mem hk)
      omega
    · rw [List.take_succ_eq_append_getElem hk] at ht
      rcases List.mem_append.1 ht with ht | ht
      · exact hk2 t ht
      · simp at ht
        subst ht
        omega
  · have hk : k = w.length := by omega
    rw [hk, List.take_length] at hk2
    refine Up.here ?_
    subst hR
    exact ⟨rfl, by rw [wordF, if_neg (by omega), if_pos hk2]⟩
/-- the first error of a grammar and a word -/
def mcF (g : Gr) (w : List Int) : Int := if ckF g ≠ 0 then ckF g else wordF g.ts w 12
theorem mean_check {Γr : Ctx} {g : Gr} {A W : Option Addr} {c d : Nat} {w : List Int} (hx : SlOk (lk Γr) A c g.rs) (hw : SlOk (lk Γr) W d w) :
    Ret Try.prog 181 [.agg #[.int .i64 g.ts, .int .i64 g.ns, .int .i64 g.st, .slice A g.rs.length c], .slice W w.length d] Γr [] (fun v Γ => Γ = [] ∧ v = .int .i64 (mcF g w)) := by
  generalize hR : (fun (v : Value) (Γ : Ctx) => Γ = [] ∧ v = _) = R
  refine ret_of_vc tr181 (Nat.le_of_ble_eq_true rfl) ?_
  simp -implicitDefEqProofs only [S181, S181_0, go_sem, Nat.reduceBEq, Nat.reduceAdd, Nat.reduceSub, Nat.reduceMul, Nat.reduceLeDiff, reduceCtorEq, ↓reduceIte, Int.reduceLT, Int.reduceLE, Int.reduceEq, Int.reduceNe]
  intro b
  refine CallVC.read (gram_check (g := g) (hx.mono (lk_r _ _))) ?_
  rintro v Γ' ⟨rfl, rfl⟩
  simp -implicitDefEqProofs only [go_sem, Nat.reduceBEq, Nat.reduceAdd, Nat.reduceSub, Nat.reduceMul, Nat.reduceLeDiff, reduceCtorEq, ↓reduceIte, Int.reduceLT, Int.reduceLE, Int.reduceEq, Int.reduceNe]
  refine ⟨fun h => Up.here ?_, fun h => ?_⟩
  · subst hR
    exact ⟨rfl, by rw [mcF, if_pos h]⟩
  · refine CallVC.read (gram_word (g := g) (hw.mono (lk_r _ _)) 12 (by omega)) ?_
    rintro v Γ' ⟨rfl, rfl⟩
    simp -implicitDefEqProofs only [go_sem, Nat.reduceBEq, Nat.reduceAdd, Nat.reduceSub, Nat.reduceMul, Nat.reduceLeDiff, reduceCtorEq, ↓reduceIte, Int.reduceLT, Int.reduceLE, Int.reduceEq, Int.reduceNe]
    refine Up.here ?_
    subst hR
    exact ⟨rfl, by rw [mcF, if_neg (by simpa using h)]⟩
theorem mean_accepts {Γr : Ctx} {g : Gr} {A W : Option Addr} {c d : Nat} {w : List Int} (hx : SlOk (lk Γr) A c g.rs) (hw : SlOk (lk Γr) W d w) :
    Ret Try.prog 144 [.agg #[.int .i64 g.ts, .int .i64 g.ns, .int .i64 g.st, .slice A g.rs.length c], .slice W w.length d] Γr [] (fun v Γ => Γ = [] ∧ ∃ q : Bool, v = .tuple #[.bool q, .int .i64 (mcF g w)] ∧ (q = true ↔ mcF g w = 0 ∧ DerN id g.rs g.st w)) := by
  generalize hR : (fun (v : Value) (Γ : Ctx) => Γ = [] ∧ _) = R
  refine ret_of_vc tr144 (Nat.le_of_ble_eq_true rfl) ?_
  simp -implicitDefEqProofs only [S144, S144_0, go_sem, Nat.reduceBEq, Nat.reduceAdd, Nat.reduceSub, Nat.reduceMul, Nat.reduceLeDiff, reduceCtorEq, ↓reduceIte, Int.reduceLT, Int.reduceLE, Int.reduceEq, Int.reduceNe]
  intro b
  refine CallVC.read (mean_check (g := g) (hx.mono (lk_r _ _)) (hw.mono (lk_r _ _))) ?_
  rintro v Γ' ⟨rfl, rfl⟩
  simp -implicitDefEqProofs only [go_sem, Nat.reduceBEq, Nat.reduceAdd, Nat.reduceSub, Nat.reduceMul, Nat.reduceLeDiff, reduceCtorEq, ↓reduceIte, Int.reduceLT, Int.reduceLE, Int.reduceEq, Int.reduceNe]
  refine ⟨fun h => Up.here ?_, fun h => ?_⟩
  · subst hR
    exact ⟨rfl, false, rfl, by simp [h]⟩
  · have hck : ckF g = 0 := by
      apply Classical.byContradiction
      intro q
      rw [mcF, if_pos q] at h
      exact q h
    have V := ckF_ok hck
    have hwd : wordF g.ts w 12 = 0 := by rw [mcF, if_neg (by simpa using hck)] at h; exact h
    obtain ⟨hl, hws⟩ := wordF_ok hwd
    refine s_drawn [] [] (Ent.refl _) ?_
    simp -implicitDefEqProofs only [go_sem, Nat.reduceBEq, Nat.reduceAdd, Nat.reduceSub, Nat.reduceMul, Nat.reduceLeDiff, reduceCtorEq, ↓reduceIte, Int.reduceLT, Int.reduceLE, Int.reduceEq, Int.reduceNe]
    refine CallVC.read (mean_derived (g := g) (hx.mono (lk_r _ _)) (hw.mono (lk_r _ _)) V (by omega)) ?_
    rintro v Γ' ⟨ge, be, O, e, rows, rfl, rfl, hbe, ho, hT, hE⟩
    simp -implicitDefEqProofs only [go_sem, Nat.reduceBEq, Nat.reduceAdd, Nat.reduceSub, Nat.reduceMul, Nat.reduceLeDiff, reduceCtorEq, ↓reduceIte, Int.reduceLT, Int.reduceLE, Int.reduceEq, Int.reduceNe]
    refine CallVC.read (mean_is (g := g) (lk_sub (by simp) _ _ hbe) (hw.mono (lk_r _ _)) (ho.mono (lk_l _ _)) hT (by omega) ⟨false, g.st⟩ (fun _ => ⟨V.st.1, by have := V.st; show g.st < _; omega⟩) 0 w.length (by omega)) ?_
    rintro v Γ' ⟨rfl, q, rfl, hq⟩
    simp -implicitDefEqProofs only [go_sem, Nat.reduceBEq, Nat.reduceAdd, Nat.reduceSub, Nat.reduceMul, Nat.reduceLeDiff, reduceCtorEq, ↓reduceIte, Int.reduceLT, Int.reduceLE, Int.reduceEq, Int.reduceNe]
    refine Up.to [] (Ent.nil _) ?_
    subst hR
    refine ⟨rfl, q, by rw [h], ?_⟩
    rw [hq]
    simp only [Stp, h, true_and]
    simp only [Bool.false_eq_true, if_false]
    rw [hE _ _ _ (by omega), prt_whole]
end Go.Proofs.Ytniobbepliknmaa.V
/- The text of parlance/compare.Least as a statement (slots: 0 g, 1 h, 2 n, 3 g, 4 h, 5 n, 9 e, 10 e, 11 k, 12 w, 13 a, 14 _, 15 b, 16 _); no condition. -/
namespace Go.Proofs.Ytniobbepliknmaa.V
open Go
def S74_1 : Stmt :=
  Stmt.block 3
  (Stmt.seq
    (Stmt.region
      [SOper.mk (some 53) none (SOp.load true 4 (Operand.tmp 3)), SOper.mk (some 54) none (SOp.mv (Operand.tmp 12)),
        SOper.mk (some 55) none (SOp.call (Operand.func 144) [Operand.tmp 53, Operand.tmp 54]),
        SOper.mk (some 52) none (SOp.mv (Operand.tmp 55)), SOper.mk (some 56) none (SOp.extract 0 (Operand.tmp 52)),
        SOper.mk (some 57) none (SOp.extract 1 (Operand.tmp 52)), SOper.mk (some 13) none (SOp.mv (Operand.tmp 56)),
        SOper.mk (some 14) none (SOp.mv (Operand.tmp 57))]
      [3, 4, 12, 13, 46, 47])
    (Stmt.seq
      (Stmt.region
        [SOper.mk (some 59) none (SOp.load true 4 (Operand.tmp 4)), SOper.mk (some 60) none (SOp.mv (Operand.tmp 12)),
          SOper.mk (some 61) none (SOp.call (Operand.func 144) [Operand.tmp 59, Operand.tmp 60]),
          SOper.mk (some 58) none (SOp.mv (Operand.tmp 61)), SOper.mk (some 62) none (SOp.extract 0 (Operand.tmp 58)),
          SOper.mk (some 63) none (SOp.extract 1 (Operand.tmp 58)), SOper.mk (some 15) none (SOp.mv (Operand.tmp 62)),
          SOper.mk (some 16) none (SOp.mv (Operand.tmp 63))]
        [3, 4, 12, 13, 15, 46, 47])
      (Stmt.seq
        (Stmt.block 4
          (Stmt.seq
            (Stmt.region
              [SOper.mk (some 65) none (SOp.mv (Operand.tmp 13)), SOper.mk (some 66) none (SOp.mv (Operand.tmp 65)),
                SOper.mk (some 67) (some (66, true)) (SOp.mv (Operand.tmp 15)),
                SOper.mk (some 68) (some (66, true)) (SOp.un UnOp.not (Operand.tmp 67)),
                SOper.mk (some 69) none (SOp.pick (Operand.tmp 66) (Operand.tmp 68) (Operand.const (Value.bool false))),
                SOper.mk (some 64) none (SOp.mv (Operand.tmp 69))]
              [3, 4, 12, 13, 15, 46, 47, 64])
            (Stmt.cond (Operand.tmp 64)
              (Stmt.seq
                (Stmt.region
                  [SOper.mk (some 70) none (SOp.mv (Operand.tmp 12)), SOper.mk (some 6) none (SOp.mv (Operand.tmp 70)),
                    SOper.mk (some 7) none (SOp.mv (Operand.const (Value.int IntKind.i64 1))),
                    SOper.mk (some 8) none (SOp.mv (Operand.const (Value.int IntKind.i64 0)))]
                  [6, 7, 8])
                Stmt.ret)
              (Stmt.seq
                (Stmt.region
                  [SOper.mk (some 72) none (SOp.mv (Operand.tmp 15)), SOper.mk (some 73) none (SOp.mv (Operand.tmp 72)),
                    SOper.mk (some 74) (some (73, true)) (SOp.mv (Operand.tmp 13)),
                    SOper.mk (some 75) (some (73, true)) (SOp.un UnOp.not (Operand.tmp 74)),
                    SOper.mk (some 76) none
                      (SOp.pick (Operand.tmp 73) (Operand.tmp 75) (Operand.const (Value.bool false))),
                    SOper.mk (some 71) none (SOp.mv (Operand.tmp 76))]
                  [3, 4, 12, 46, 47, 71])
                (Stmt.cond (Operand.tmp 71)
                  (Stmt.seq
                    (Stmt.region
                      [SOper.mk (some 77) none (SOp.mv (Operand.tmp 12)),
                        SOper.mk (some 6) none (SOp.mv (Operand.tmp 77)),
                        SOper.mk (some 7) none (SOp.mv (Operand.const (Value.int IntKind.i64 2))),
                        SOper.mk (some 8) none (SOp.mv (Operand.const (Value.int IntKind.i64 0)))]
                      [6, 7, 8])
                    Stmt.ret)
                  Stmt.skip)))))
        (Stmt.seq
          (Stmt.region
            [SOper.mk (some 78) none (SOp.mv (Operand.tmp 12)), SOper.mk (some 79) none (SOp.fld 0 (Operand.tmp 3)),
              SOper.mk (some 80) none (SOp.load false 1 (Operand.tmp 79)),
              SOper.mk (some 81) none (SOp.call (Operand.func 145) [Operand.tmp 78, Operand.tmp 80]),
              SOper.mk (some 82) none (SOp.un UnOp.not (Operand.tmp 81))]
            [3, 4, 12, 46, 47, 82])
          (Stmt.cond (Operand.tmp 82) (Stmt.exit 2) Stmt.skip)))))
def S74_2 : Stmt :=
  Stmt.seq
  (Stmt.region [SOper.mk (some 48) none (SOp.ibin BinOp.lss (Operand.tmp 47) (Operand.tmp 46))] [3, 4, 46, 47, 48])
  (Stmt.seq (Stmt.cond (Operand.tmp 48) Stmt.skip (Stmt.exit 0))
    (Stmt.seq
      (Stmt.block 1
        (Stmt.seq
          (Stmt.region
            [SOper.mk (some 49) none (SOp.mv (Operand.tmp 47)), SOper.mk (some 11) none (SOp.mv (Operand.tmp 49))]
            [3, 4, 11, 46, 47])
          (Stmt.seq
            (Stmt.region
              [SOper.mk (some 50) none (SOp.mv (Operand.tmp 11)),
                SOper.mk (some 51) none (SOp.mk 3 1 8 (Value.int IntKind.i64 0) (Operand.tmp 50) (Operand.tmp 50)),
                SOper.mk (some 12) none (SOp.mv (Operand.tmp 51))]
              [3, 4, 12, 46, 47])
            (Stmt.block 2 (Stmt.loop S74_1 [] [3, 4, 12, 46, 47])))))
      (Stmt.region
        [SOper.mk (some 83) none (SOp.ibin BinOp.add (Operand.tmp 47) (Operand.const (Value.int IntKind.i64 1))),
          SOper.mk (some 47) none (SOp.mv (Operand.tmp 83))]
        [3, 4, 46, 47])))
def S74_0 : Stmt :=
  Stmt.seq
  (Stmt.region
    [SOper.mk (some 3) none (SOp.box true 57 (Operand.tmp 0)), SOper.mk (some 4) none (SOp.box true 57 (Operand.tmp 1)),
      SOper.mk (some 6) none (SOp.mv (Operand.const (Value.slice none 0 0))),
      SOper.mk (some 7) none (SOp.mv (Operand.const (Value.int IntKind.i64 0))),
      SOper.mk (some 8) none (SOp.mv (Operand.const (Value.int IntKind.i64 0)))]
    [2, 3, 4])
  (Stmt.seq
    (Stmt.seq
      (Stmt.region
        [SOper.mk (some 17) none (SOp.load true 4 (Operand.tmp 3)),
          SOper.mk (some 18) none (SOp.call (Operand.func 112) [Operand.tmp 17]),
          SOper.mk (some 9) none (SOp.mv (Operand.tmp 18))]
        [2, 3, 4, 9])
      (Stmt.seq
        (Stmt.region
          [SOper.mk (some 19) none (SOp.mv (Operand.tmp 9)),
            SOper.mk (some 20) none (SOp.ibin BinOp.neq (Operand.tmp 19) (Operand.const (Value.int IntKind.i64 0)))]
          [2, 3, 4, 9, 20])
        (Stmt.cond (Operand.tmp 20)
          (Stmt.seq
            (Stmt.region
              [SOper.mk (some 21) none (SOp.mv (Operand.tmp 9)),
                SOper.mk (some 6) none (SOp.mv (Operand.const (Value.slice none 0 0))),
                SOper.mk (some 7) none (SOp.mv (Operand.const (Value.int IntKind.i64 0))),
                SOper.mk (some 8) none (SOp.mv (Operand.tmp 21))]
              [6, 7, 8])
            Stmt.ret)
          Stmt.skip)))
    (Stmt.seq
      (Stmt.seq
        (Stmt.region
          [SOper.mk (some 22) none (SOp.load true 4 (Operand.tmp 4)),
            SOper.mk (some 23) none (SOp.call (Operand.func 112) [Operand.tmp 22]),
            SOper.mk (some 10) none (SOp.mv (Operand.tmp 23))]
          [2, 3, 4, 10])
        (Stmt.seq
          (Stmt.region
            [SOper.mk (some 24) none (SOp.mv (Operand.tmp 10)),
              SOper.mk (some 25) none (SOp.ibin BinOp.neq (Operand.tmp 24) (Operand.const (Value.int IntKind.i64 0)))]
            [2, 3, 4, 10, 25])
          (Stmt.cond (Operand.tmp 25)
            (Stmt.seq
              (Stmt.region
                [SOper.mk (some 26) none (SOp.mv (Operand.tmp 10)),
                  SOper.mk (some 6) none (SOp.mv (Operand.const (Value.slice none 0 0))),
                  SOper.mk (some 7) none (SOp.mv (Operand.const (Value.int IntKind.i64 0))),
                  SOper.mk (some 8) none (SOp.mv (Operand.tmp 26))]
                [6, 7, 8])
              Stmt.ret)
            Stmt.skip)))
      (Stmt.seq
        (Stmt.seq
          (Stmt.region
            [SOper.mk (some 27) none (SOp.fld 0 (Operand.tmp 3)),
              SOper.mk (some 28) none (SOp.load false 1 (Operand.tmp 27)),
              SOper.mk (some 29) none (SOp.fld 0 (Operand.tmp 4)),
              SOper.mk (some 30) none (SOp.load false 1 (Operand.tmp 29)),
              SOper.mk (some 31) none (SOp.ibin BinOp.neq (Operand.tmp 28) (Operand.tmp 30)),
              SOper.mk (some 32) none (SOp.mv (Operand.tmp 31)),
              SOper.mk (some 33) (some (32, false)) (SOp.mv (Operand.tmp 2)),
              SOper.mk (some 34) (some (32, false))
                (SOp.ibin BinOp.lss (Operand.tmp 33) (Operand.const (Value.int IntKind.i64 0))),
              SOper.mk (some 35) none (SOp.pick (Operand.tmp 32) (Operand.const (Value.bool true)) (Operand.tmp 34)),
              SOper.mk (some 36) none (SOp.mv (Operand.tmp 35)),
              SOper.mk (some 37) (some (36, false)) (SOp.mv (Operand.tmp 2)),
              SOper.mk (some 38) (some (36, false))
                (SOp.ibin BinOp.gtr (Operand.tmp 37) (Operand.const (Value.int IntKind.i64 12))),
              SOper.mk (some 39) none (SOp.pick (Operand.tmp 36) (Operand.const (Value.bool true)) (Operand.tmp 38))]
            [2, 3, 4, 39])
          (Stmt.cond (Operand.tmp 39)
            (Stmt.seq
              (Stmt.region
                [SOper.mk (some 6) none (SOp.mv (Operand.const (Value.slice none 0 0))),
                  SOper.mk (some 7) none (SOp.mv (Operand.const (Value.int IntKind.i64 0))),
                  SOper.mk (some 8) none (SOp.mv (Operand.const (Value.int IntKind.i64 1)))]
                [6, 7, 8])
              Stmt.ret)
            Stmt.skip))
        (Stmt.seq
          (Stmt.seq
            (Stmt.region
              [SOper.mk (some 40) none (SOp.fld 0 (Operand.tmp 3)),
                SOper.mk (some 41) none (SOp.load false 1 (Operand.tmp 40)),
                SOper.mk (some 42) none (SOp.mv (Operand.tmp 2)),
                SOper.mk (some 43) none (SOp.call (Operand.func 143) [Operand.tmp 41, Operand.tmp 42]),
                SOper.mk (some 44) none
                  (SOp.ibin BinOp.gtr (Operand.tmp 43) (Operand.const (Value.int IntKind.i64 500)))]
              [2, 3, 4, 44])
            (Stmt.cond (Operand.tmp 44)
              (Stmt.seq
                (Stmt.region
                  [SOper.mk (some 6) none (SOp.mv (Operand.const (Value.slice none 0 0))),
                    SOper.mk (some 7) none (SOp.mv (Operand.const (Value.int IntKind.i64 0))),
                    SOper.mk (some 8) none (SOp.mv (Operand.const (Value.int IntKind.i64 2)))]
                  [6, 7, 8])
                Stmt.ret)
              Stmt.skip))
          (Stmt.seq
            (Stmt.seq
              (Stmt.region
                [SOper.mk (some 45) none (SOp.mv (Operand.tmp 2)),
                  SOper.mk (some 46) none
                    (SOp.ibin BinOp.add (Operand.tmp 45) (Operand.const (Value.int IntKind.i64 1))),
                  SOper.mk (some 47) none (SOp.mv (Operand.const (Value.int IntKind.i64 0)))]
                [3, 4, 46, 47])
              (Stmt.block 0 (Stmt.loop S74_2 [47] [3, 4, 46])))
            (Stmt.seq
              (Stmt.region
                [SOper.mk (some 6) none (SOp.mv (Operand.const (Value.slice none 0 0))),
                  SOper.mk (some 7) none (SOp.mv (Operand.const (Value.int IntKind.i64 0))),
                  SOper.mk (some 8) none (SOp.mv (Operand.const (Value.int IntKind.i64 5)))]
                [6, 7, 8])
              Stmt.ret))))))
def S74 : FnS := ⟨84, [(6, none), (7, none), (8, none)], S74_0⟩
theorem tr74 : trFn Try.prog 74 [3, 4] [[2, 3, 4], [2, 3, 4, 9], [2, 3, 4, 9, 20], [6, 7, 8], [2, 3, 4, 10], [2, 3, 4, 10, 25], [6, 7, 8], [2, 3, 4, 39], [6, 7, 8], [2, 3, 4, 44], [6, 7, 8], [3, 4, 46, 47], [47], [3, 4, 46], [3, 4, 46, 47, 48], [3, 4, 11, 46, 47], [3, 4, 12, 46, 47], [], [3, 4, 12, 46, 47], [3, 4, 12, 13, 46, 47], [3, 4, 12, 13, 15, 46, 47], [3, 4, 12, 13, 15, 46, 47, 64], [6, 7, 8], [3, 4, 12, 46, 47, 71], [6, 7, 8], [3, 4, 12, 46, 47, 82], [3, 4, 46, 47], [6, 7, 8]] = some S74 := by kernel_rfl
end Go.Proofs.Ytniobbepliknmaa.V
/- The least word that only one of two grammars has: compare.Least; no condition. -/
namespace Go.Proofs.Ytniobbepliknmaa.V
open Go
set_option linter.unusedVariables false
set_option linter.unusedSimpArgs false
attribute [local go_sem] e_seq e_region e_quiet e_join e_loop e_cond e_block e_exit e_ret e_skip e_fin e_kseq e_snrm e_sret e_sex e_bnrm e_bret e_bex e_rnrm e_rret e_res e_condC e_nil e_g e_mv g_mv e_pick g_pick pickC_eq e_ibin g_ibin ibinC_eq e_sbin g_sbin e_beq g_beq beqC_eq e_nilq g_nilq nilqC_sl nilqC_pt nilqC_mp e_un g_un unC_not unC_neg e_conv g_conv convC_eq e_fld g_fld fldC_ref fldC_ptr e_nilCheck g_nilCheck nilCheckC_ref nilCheckC_ptr nilCheckC_fun e_field g_field fieldC_eq e_len g_len lenC_sl lenC_str e_extract g_extract extractC_eq e_mkFunc e_build g_build e_idiv g_idiv idivC_eq e_ishift g_ishift ishiftC_eq e_idx g_idx e_idxA g_idxA e_load g_load loadC_ref loadC_ptr loadB_eq e_slc g_slc e_box boxC_loc boxC_esc e_alloc allocC_loc allocC_esc e_buildS e_store storeC_ref storeC_ptr storeB_eq e_append e_appz e_mk mkC_eq e_call callC_eq e_fn g_fn fnC_eq fnV_min' fnV_max' fnV_rune' e_q g_q e_a e_n g_call g_box g_alloc g_buildS g_store g_append g_mk g_a g_n g_dead e_dead e_callK e_drawn e_tree e_finJ e_tk e_tfin e_tno e_nbt_q e_nbt_qn e_nbt_a e_nbt_an e_nbt_fin e_early_nil e_early_t e_early_f e_nob_nil e_nob_none e_nob_some isBox_dead isBox_v isBox_ref e_dnil e_dk e_ek e_finB vcOps_vc1 e_dcons e_tq e_ekt e_tearly e_talt e_dearly look_nil look_c proj_nil proj_c looks_nil looks_c zip_nil zip_c val_tmp val_const val_func slv_v slv_box slv_ref slot_tmp slot_const slot_func slotL_v slotL_box slotL_ref put_some put_none updBox_c boxSet_box gd_eq slotVals_nil slotVals_c slotVals_b boxV_box boxOn_box slotsOn_nil slotsOn_c slotsOn_b resV_one resV_two vals_nil vals_c allOn_nil allOn_c partOn_nil partOn_c partVals_nil partVals_c fits_nil fits_c fillL_nil fillL_c mkv_one mkv_agg cellsV_agg cellsV_int cellsV_bool cellsV_slice cellsV_string cellsV_pointer cellsV_func cellsV_nilf cellsV_map one'_nil one'_c oc_int oc_bool oc_slice oc_string oc_pointer oc_func oc_nilf oc_map setC_eq iv_add iv_sub iv_mul iv_eql iv_neq iv_lss iv_leq iv_gtr iv_geq iok_add iok_sub iok_mul iok_eql iok_neq iok_lss iok_leq iok_gtr iok_geq pickV_bool args0_nil args0_c bnd_none bnd_some imp_bt imp_bf imp_ebt imp_ebf imp_eb1 imp_np imp_pp beq_tt beq_tf beq_ft beq_ff cond_or cond_and e_round e_meet Int.le_refl Int.toNat_zero decide_true decide_false Bool.or_false Bool.false_or Bool.true_or Bool.or_true Bool.and_false Bool.false_and Bool.bne_false Bool.bne_true beq_iff_eq Int.cast_ofNat_Int not_false_eq_true not_true_eq_false false_and and_false false_implies true_implies true_and and_true Bool.true_and Bool.and_true Bool.not_true Bool.not_false forall_const implies_true List.take_zero List.drop_zero List.take_succ_cons List.drop_succ_cons List.take_nil List.drop_nil List.length_cons List.length_nil List.nil_append List.append_nil List.cons_append Int.toNat_natCast decide_eq_true_eq decide_eq_false_iff_not cond_true cond_false and_self List.getElem?_cons_zero List.getElem?_cons_succ List.set_cons_zero List.set_cons_succ Option.some.injEq exists_eq_left' Nat.zero_add Nat.add_zero Nat.mul_one imp_self true_or or_true or_false false_or Bool.or_eq_true Bool.or_eq_false_iff Bool.and_eq_true Bool.and_eq_false_iff Bool.not_eq_true' Bool.not_eq_false'

/-- a grammar has a word -/
def Has (g : Gr) (w : List Int) : Prop := DerN id g.rs g.st w
def OneOf (g h : Gr) (w : List Int) : Prop := (Has g w ∧ ¬ Has h w) ∨ (Has h w ∧ ¬ Has g w)
/-- the first word of a list that just one of two grammars has -/
def FirstIn (g h : Gr) (l : List (List Int)) (w : List Int) : Prop := ∃ a r, l = a ++ w :: r ∧ (∀ v ∈ a, ¬ OneOf g h v) ∧ OneOf g h w
open Classical in
/-- the first error of two grammars and a length -/
noncomputable def leF (g h : Gr) (n : Int) : Int := if ckF g ≠ 0 then ckF g else if ckF h ≠ 0 then ckF h else if g.ts ≠ h.ts ∨ n < 0 ∨ 12 < n then 1 else if 500 < (lvs g.ts.toNat (n.toNat + 1)).length then 2 else 0
def LeastS (g h : Gr) (n : Int) (v : Value) (Γ : Ctx) : Prop :=
  (leF g h n ≠ 0 ∧ Γ = [] ∧ v = .tuple #[.slice none 0 0, .int .i64 0, .int .i64 (leF g h n)]) ∨
  (leF g h n = 0 ∧ (∀ w ∈ lvs g.ts.toNat (n.toNat + 1), ¬ OneOf g h w) ∧ Γ = [] ∧ v = .tuple #[.slice none 0 0, .int .i64 0, .int .i64 5]) ∨
  (leF g h n = 0 ∧ ∃ gw A c w, ∃ s : Int, FirstIn g h (lvs g.ts.toNat (n.toNat + 1)) w ∧ Γ = [gw] ∧ SlOk (lk [gw]) A c w ∧ v = .tuple #[.slice A w.length c, .int .i64 s, .int .i64 0] ∧ ((s = 1 ∧ Has g w ∧ ¬ Has h w) ∨ (s = 2 ∧ Has h w ∧ ¬ Has g w)))
theorem words_mc {g : Gr} (V : VG g) (hk : ckF g = 0) {k j : Nat} (h : k ≤ 12) : mcF g (dg g.ts.toNat k j) = 0 := by
  rw [mcF, if_neg (by simpa using hk), wordF, if_neg (by rw [dg_len]; omega), if_pos]
  intro t ht
  have := V.ts
  have := dg_mem (by omega) ht
  omega
set_option maxHeartbeats 1000000 in
theorem cmp_least {Γr : Ctx} {g h : Gr} {A B : Option Addr} {c d : Nat} (hx : SlOk (lk Γr) A c g.rs) (hy : SlOk (lk Γr) B d h.rs) (n : Int) (hn0 : -9223372036854775808 ≤ n) (hn1 : n ≤ 9223372036854775807) :
    Ret Try.prog 74 [.agg #[.int .i64 g.ts, .int .i64 g.ns, .int .i64 g.st, .slice A g.rs.length c], .agg #[.int .i64 h.ts, .int .i64 h.ns, .int .i64 h.st, .slice B h.rs.length d], .int .i64 n] Γr [] (LeastS g h n) := by
  generalize hR : LeastS g h n = R
  refine ret_of_vc tr74 (Nat.le_of_ble_eq_true rfl) ?_
  simp -implicitDefEqProofs only [S74, S74_0, go_sem, Nat.reduceBEq, Nat.reduceAdd, Nat.reduceSub, Nat.reduceMul, Nat.reduceLeDiff, reduceCtorEq, ↓reduceIte, Int.reduceLT, Int.reduceLE, Int.reduceEq, Int.reduceNe]
  intro b0 b1
  refine CallVC.read (gram_check (g := g) (hx.mono (lk_r _ _))) ?_
  rintro v Γ' ⟨rfl, rfl⟩
  simp -implicitDefEqProofs only [go_sem, Nat.reduceBEq, Nat.reduceAdd, Nat.reduceSub, Nat.reduceMul, Nat.reduceLeDiff, reduceCtorEq, ↓reduceIte, Int.reduceLT, Int.reduceLE, Int.reduceEq, Int.reduceNe]
  refine ⟨fun h1 => Up.here ?_, fun h1 => ?_⟩
  · subst hR
    have e : leF g h n = ckF g := by rw [leF, if_pos h1]
    exact .inl ⟨by rw [e]; exact h1, rfl, by rw [e]⟩
  refine CallVC.read (gram_check (g := h) (hy.mono (lk_r _ _))) ?_
  rintro v Γ' ⟨rfl, rfl⟩
  simp -implicitDefEqProofs only [go_sem, Nat.reduceBEq, Nat.reduceAdd, Nat.reduceSub, Nat.reduceMul, Nat.reduceLeDiff, reduceCtorEq, ↓reduceIte, Int.reduceLT, Int.reduceLE, Int.reduceEq, Int.reduceNe]
  refine ⟨fun h2 => Up.here ?_, fun h2 => ?_⟩
  · subst hR
    have e : leF g h n = ckF h := by rw [leF, if_neg (by simpa using h1), if_pos h2]
    exact .inl ⟨by rw [e]; exact h2, rfl, by rw [e]⟩
  have V := ckF_ok h1
  have V' := ckF_ok h2
  have hts := V.ts
  refine ⟨fun h3 => Up.here ?_, fun h3 => ?_⟩
  · subst hR
    have e : leF g h n = 1 := by rw [leF, if_neg (by simpa using h1), if_neg (by simpa using h2), if_pos (by rcases h3 with (h3 | h3) | h3 <;> simp [h3])]
    exact .inl ⟨by rw [e]; decide, rfl, by rw [e]⟩
  have hN : ((n.toNat : Nat) : Int) = n := by omega
  have hT : ((g.ts.toNat : Nat) : Int) = g.ts := by omega
  have ht0 : 0 < g.ts.toNat := by omega
  have e3 : leF g h n = if 500 < (lvs g.ts.toNat (n.toNat + 1)).length then 2 else 0 := by
    rw [leF, if_neg (by simpa using h1), if_neg (by simpa using h2), if_neg]
    rintro (q | q | q)
    · exact q h3.1.1
    · exact h3.1.2 q
    · exact h3.2 q
  have hW : ∀ Γ, Ret Try.prog _ _ Γ [] _ := fun Γ => cmp_words (Γr := Γ) g.ts.toNat n.toNat (by omega) (by omega)
  rw [hN, hT] at hW
  refine CallVC.read (hW _) ?_
  rintro v Γ' ⟨rfl, rfl⟩
  simp -implicitDefEqProofs only [go_sem, Nat.reduceBEq, Nat.reduceAdd, Nat.reduceSub, Nat.reduceMul, Nat.reduceLeDiff, reduceCtorEq, ↓reduceIte, Int.reduceLT, Int.reduceLE, Int.reduceEq, Int.reduceNe]
  refine ⟨fun h4 => Up.here ?_, fun h4 => ?_⟩
  · subst hR
    rw [if_pos (by omega)] at e3
    exact .inl ⟨by rw [e3]; decide, rfl, by rw [e3]⟩
  rw [if_neg (by omega)] at e3
  have hlen : (lvs g.ts.toNat (n.toNat + 1)).length ≤ 500 := by omega
  simp (disch := omega) only [wrap_id]
  refine s_loop (fun f vs Γ => Γ = [] ∧ ∃ k : Nat, vs = [.v true (.int .i64 k)] ∧ k + f = n.toNat + 1 ∧ ∀ w ∈ lvs g.ts.toNat k, ¬ OneOf g h w) (n.toNat + 1) (Up.here ⟨rfl, 0, rfl, by omega, by simp [lvs_zero]⟩) ?_
  rintro f vs Γ ⟨rfl, k, rfl, hkf, hall⟩
  simp -implicitDefEqProofs only [S74_2, go_sem, Nat.reduceBEq, Nat.reduceAdd, Nat.reduceSub, Nat.reduceMul, Nat.reduceLeDiff, reduceCtorEq, ↓reduceIte, Int.reduceLT, Int.reduceLE, Int.reduceEq, Int.reduceNe]
  refine ⟨fun hlt => ?_, fun hge => Up.here ?_⟩
  · have hk : k < n.toNat + 1 := by omega
    refine ⟨by omega, by omega, fun bw => ?_⟩
    refine s_loop (fun f vs Γ => vs = [] ∧ ∃ (gw : PH) (P : Nat), Γ = [gw] ∧ P + f = g.ts.toNat ^ k ∧ 0 < f ∧ Arr gw bw 3 (dg g.ts.toNat k P) ∧ ∀ w ∈ lvs g.ts.toNat k ++ (List.range P).map (dg g.ts.toNat k), ¬ OneOf g h w) (g.ts.toNat ^ k)
      (Up.here ⟨rfl, _, 0, rfl, by omega, Nat.pow_pos ht0, by
        rw [dg_zero ht0]
        exact Arr.made (0 : Int) bw 3 k, by simpa using hall⟩) ?_
    rintro f2 vs Γ ⟨rfl, gw, P, rfl, hPf, hf2, hA, hall2⟩
    have hP : P < g.ts.toNat ^ k := by omega
    have hdl := dg_len g.ts.toNat k P
    have hsl : ∀ {L : Mem}, Mem.le (lk [gw]) L → SlOk L (some ⟨bw, 0, none⟩) k (dg g.ts.toNat k P) := fun {L} hL => hA.slok hL (by omega) (by unfold maxLen; omega) (by omega)
    have hmg := words_mc V h1 (k := k) (j := P) (by omega)
    have hmh := words_mc V' h2 (k := k) (j := P) (by omega)
    rw [← h3.1.1] at hmh
    obtain ⟨r, hr⟩ := all_split (t := g.ts.toNat) (k := k) (j := P) (n := n.toNat + 1) hk hP
    simp -implicitDefEqProofs only [S74_1, go_sem, Nat.reduceBEq, Nat.reduceAdd, Nat.reduceSub, Nat.reduceMul, Nat.reduceLeDiff, reduceCtorEq, ↓reduceIte, Int.reduceLT, Int.reduceLE, Int.reduceEq, Int.reduceNe]
    have hag : Ret Try.prog _ _ ([gw] ++ Γr) [] _ := mean_accepts (g := g) (A := A) (c := c) (w := dg g.ts.toNat k P) (hx.mono (lk_r _ _)) (hsl (lk_sub (by simp)))
    have hah : Ret Try.prog _ _ ([gw] ++ Γr) [] _ := mean_accepts (g := h) (A := B) (c := d) (w := dg g.ts.toNat k P) (hy.mono (lk_r _ _)) (hsl (lk_sub (by simp)))
    rw [hdl, hmg] at hag
    rw [hdl, hmh] at hah
    refine CallVC.read hag ?_
    rintro v Γ' ⟨rfl, qa, rfl, hqa⟩
    simp -implicitDefEqProofs only [go_sem, Nat.reduceBEq, Nat.reduceAdd, Nat.reduceSub, Nat.reduceMul, Nat.reduceLeDiff, reduceCtorEq, ↓reduceIte, Int.reduceLT, Int.reduceLE, Int.reduceEq, Int.reduceNe]
    refine CallVC.read hah ?_
    rintro v Γ' ⟨rfl, qb, rfl, hqb⟩
    have hqa : qa = true ↔ Has g (dg g.ts.toNat k P) := by rw [hqa]; simp [Has]
    have hqb : qb = true ↔ Has h (dg g.ts.toNat k P) := by rw [hqb]; simp [Has]
    have found : OneOf g h (dg g.ts.toNat k P) → ∀ s : Int, ((s = 1 ∧ Has g (dg g.ts.toNat k P) ∧ ¬ Has h (dg g.ts.toNat k P)) ∨ (s = 2 ∧ Has h (dg g.ts.toNat k P) ∧ ¬ Has g (dg g.ts.toNat k P))) → R (.tuple #[.slice (some ⟨bw, 0, none⟩) k k, .int .i64 s, .int .i64 0]) [gw] := by
      intro h5 s h6
      subst hR
      exact .inr (.inr ⟨e3, gw, some ⟨bw, 0, none⟩, k, dg g.ts.toNat k P, s, ⟨_, r, hr, hall2, h5⟩, rfl, hsl (Mem.le.refl _), by rw [hdl], h6⟩)
    have hdiff : qa = qb → ¬ OneOf g h (dg g.ts.toNat k P) := by
      rintro rfl (⟨h5, h6⟩ | ⟨h5, h6⟩)
      · exact h6 (hqb.1 (hqa.2 h5))
      · exact h6 (hqa.1 (hqb.2 h5))
    have hnx : Ret Try.prog _ _ Γr [gw] _ := cmp_next (Γr := Γr) (g := gw) (b := bw) g.ts.toNat k P (by omega) (by omega) hP hA
    rw [hT] at hnx
    cases qa <;> cases qb
    case true.false =>
      simp -implicitDefEqProofs only [go_sem, Nat.reduceBEq, Nat.reduceAdd, Nat.reduceSub, Nat.reduceMul, Nat.reduceLeDiff, reduceCtorEq, ↓reduceIte, Int.reduceLT, Int.reduceLE, Int.reduceEq, Int.reduceNe]
      have h6 : Has g (dg g.ts.toNat k P) ∧ ¬ Has h (dg g.ts.toNat k P) := ⟨hqa.1 rfl, fun q => by have := hqb.2 q; cases this⟩
      exact Up.here (found (.inl h6) 1 (.inl ⟨rfl, h6⟩))
    case false.true =>
      simp -implicitDefEqProofs only [go_sem, Nat.reduceBEq, Nat.reduceAdd, Nat.reduceSub, Nat.reduceMul, Nat.reduceLeDiff, reduceCtorEq, ↓reduceIte, Int.reduceLT, Int.reduceLE, Int.reduceEq, Int.reduceNe]
      have h6 : Has h (dg g.ts.toNat k P) ∧ ¬ Has g (dg g.ts.toNat k P) := ⟨hqb.1 rfl, fun q => by have := hqa.2 q; cases this⟩
      exact Up.here (found (.inr h6) 2 (.inr ⟨rfl, h6⟩))
    all_goals
      have hno := hdiff rfl
      simp -implicitDefEqProofs only [go_sem, Nat.reduceBEq, Nat.reduceAdd, Nat.reduceSub, Nat.reduceMul, Nat.reduceLeDiff, reduceCtorEq, ↓reduceIte, Int.reduceLT, Int.reduceLE, Int.reduceEq, Int.reduceNe]
      refine CallVC.head hnx (by simp) ?_
      rintro v Γ' ⟨g', rfl, hn⟩
      have hall3 : ∀ w ∈ lvs g.ts.toNat k ++ (List.range (P + 1)).map (dg g.ts.toNat k), ¬ OneOf g h w := by
        intro w hw
        rw [range_map_succ, ← List.append_assoc] at hw
        rcases List.mem_append.1 hw with hw | hw
        · exact hall2 w hw
        · simp at hw
          subst hw
          exact hno
      rcases hn with ⟨h5, rfl, hA'⟩ | ⟨h5, rfl, _⟩
      · simp -implicitDefEqProofs only [go_sem, Nat.reduceBEq, Nat.reduceAdd, Nat.reduceSub, Nat.reduceMul, Nat.reduceLeDiff, reduceCtorEq, ↓reduceIte, Int.reduceLT, Int.reduceLE, Int.reduceEq, Int.reduceNe]
        exact ⟨f2 - 1, by omega, Up.here ⟨_, P + 1, rfl, by omega, by omega, hA', hall3⟩⟩
      · simp -implicitDefEqProofs only [go_sem, Nat.reduceBEq, Nat.reduceAdd, Nat.reduceSub, Nat.reduceMul, Nat.reduceLeDiff, reduceCtorEq, ↓reduceIte, Int.reduceLT, Int.reduceLE, Int.reduceEq, Int.reduceNe]
        simp (disch := omega) only [wrap_id]
        refine ⟨f - 1, by omega, Up.to [] (Ent.nil _) ⟨rfl, k + 1, rfl, by omega, ?_⟩⟩
        rw [h5] at hall3
        rw [lvs_succ]
        exact hall3
  · subst hR
    have hk : k = n.toNat + 1 := by omega
    subst hk
    exact .inr (.inl ⟨e3, hall, rfl, rfl⟩)
end Go.Proofs.Ytniobbepliknmaa.V
/- The text of parlance/parlref5.key as a statement (slots: 0 w, 1 w, 3 b, 4 i, 5 x); no condition. -/
namespace Go.Proofs.Ytniobbepliknmaa.V
open Go
def S146_1 : Stmt :=
  Stmt.seq
  (Stmt.region [SOper.mk (some 12) none (SOp.ibin BinOp.lss (Operand.tmp 11) (Operand.tmp 10))] [3, 9, 10, 11, 12])
  (Stmt.seq (Stmt.cond (Operand.tmp 12) Stmt.skip (Stmt.exit 0))
    (Stmt.seq
      (Stmt.block 1
        (Stmt.seq
          (Stmt.region
            [SOper.mk (some 13) none (SOp.mv (Operand.tmp 11)),
              SOper.mk (some 14) none (SOp.idx 1 (Operand.tmp 9) (Operand.tmp 11)),
              SOper.mk (some 15) none (SOp.load false 1 (Operand.tmp 14)),
              SOper.mk (some 4) none (SOp.mv (Operand.tmp 13)), SOper.mk (some 5) none (SOp.mv (Operand.tmp 15))]
            [3, 4, 5, 9, 10, 11])
          (Stmt.region
            [SOper.mk (some 16) none (SOp.mv (Operand.tmp 3)), SOper.mk (some 17) none (SOp.mv (Operand.tmp 4)),
              SOper.mk (some 18) none (SOp.mv (Operand.tmp 5)),
              SOper.mk (some 19) none (SOp.conv IntKind.u8 (Operand.tmp 18)),
              SOper.mk (some 20) none (SOp.idx 1 (Operand.tmp 16) (Operand.tmp 17)),
              SOper.mk none none (SOp.store 1 (Operand.tmp 20) (Operand.tmp 19))]
            [3, 9, 10, 11])))
      (Stmt.region
        [SOper.mk (some 21) none (SOp.ibin BinOp.add (Operand.tmp 11) (Operand.const (Value.int IntKind.i64 1))),
          SOper.mk (some 11) none (SOp.mv (Operand.tmp 21))]
        [3, 9, 10, 11])))
def S146_0 : Stmt :=
  Stmt.seq (Stmt.region [SOper.mk (some 2) none (SOp.mv (Operand.const (Value.string (ByteArray.mk (Array.mk [])))))] [0])
  (Stmt.seq
    (Stmt.region
      [SOper.mk (some 6) none (SOp.mv (Operand.tmp 0)), SOper.mk (some 7) none (SOp.len false (Operand.tmp 6)),
        SOper.mk (some 8) none (SOp.mk 5 1 1 (Value.int IntKind.u8 0) (Operand.tmp 7) (Operand.tmp 7)),
        SOper.mk (some 3) none (SOp.mv (Operand.tmp 8))]
      [0, 3])
    (Stmt.seq
      (Stmt.seq
        (Stmt.region
          [SOper.mk (some 9) none (SOp.mv (Operand.tmp 0)), SOper.mk (some 10) none (SOp.len false (Operand.tmp 9)),
            SOper.mk (some 11) none (SOp.mv (Operand.const (Value.int IntKind.i64 0)))]
          [3, 9, 10, 11])
        (Stmt.block 0 (Stmt.loop S146_1 [11] [3, 9, 10])))
      (Stmt.seq
        (Stmt.region
          [SOper.mk (some 22) none (SOp.mv (Operand.tmp 3)),
            SOper.mk (some 23) none (SOp.q (Qk.cnv 233 9) [Operand.tmp 22]),
            SOper.mk (some 2) none (SOp.mv (Operand.tmp 23))]
          [2])
        Stmt.ret)))
def S146 : FnS := ⟨24, [(2, none)], S146_0⟩
theorem tr146 : trFn Try.prog 146 [] [[0], [0, 3], [3, 9, 10, 11], [11], [3, 9, 10], [3, 9, 10, 11, 12], [3, 4, 5, 9, 10, 11], [3, 9, 10, 11], [3, 9, 10, 11], [2]] = some S146 := by kernel_rfl
end Go.Proofs.Ytniobbepliknmaa.V
/- The text of parlance/parlref5.Has as a statement (slots: 0 m, 1 w, 2 m, 3 w); no condition. -/
namespace Go.Proofs.Ytniobbepliknmaa.V
open Go
def S77_0 : Stmt :=
  Stmt.seq (Stmt.region [SOper.mk (some 4) none (SOp.mv (Operand.const (Value.bool false)))] [0, 1])
  (Stmt.seq
    (Stmt.region
      [SOper.mk (some 5) none (SOp.mv (Operand.tmp 0)), SOper.mk (some 6) none (SOp.mv (Operand.tmp 1)),
        SOper.mk (some 7) none (SOp.call (Operand.func 146) [Operand.tmp 6]),
        SOper.mk (some 8) none (SOp.q (Qk.look 118 false) [Operand.tmp 5, Operand.tmp 7]),
        SOper.mk (some 4) none (SOp.mv (Operand.tmp 8))]
      [4])
    Stmt.ret)
def S77 : FnS := ⟨9, [(4, none)], S77_0⟩
theorem tr77 : trFn Try.prog 77 [] [[0, 1], [4]] = some S77 := by kernel_rfl
end Go.Proofs.Ytniobbepliknmaa.V
/- The text of parlance/parlref5.Words as a statement (slots: 0 g, 1 n, 2 g, 3 n, 6 l, 7 ok); no condition. -/
namespace Go.Proofs.Ytniobbepliknmaa.V
open Go
def S75_0 : Stmt :=
  Stmt.seq
  (Stmt.region
    [SOper.mk (some 2) none (SOp.box true 57 (Operand.tmp 0)),
      SOper.mk (some 4) none (SOp.mv (Operand.const (Value.map none))),
      SOper.mk (some 5) none (SOp.mv (Operand.const (Value.bool false)))]
    [1, 2])
  (Stmt.seq
    (Stmt.region
      [SOper.mk (some 9) none (SOp.fld 1 (Operand.tmp 2)), SOper.mk (some 10) none (SOp.load false 1 (Operand.tmp 9)),
        SOper.mk (some 11) none (SOp.fld 3 (Operand.tmp 2)),
        SOper.mk (some 12) none (SOp.load false 1 (Operand.tmp 11)),
        SOper.mk (some 13) none
          (SOp.build 177 [Value.int IntKind.i64 0, Value.slice none 0 0]
            [(0, 1, Operand.tmp 10), (1, 1, Operand.tmp 12)]),
        SOper.mk (some 14) none (SOp.mv (Operand.tmp 1)),
        SOper.mk (some 15) none
          (SOp.call (Operand.func 134) [Operand.tmp 13, Operand.tmp 14, Operand.const (Value.int IntKind.i64 3000)]),
        SOper.mk (some 8) none (SOp.mv (Operand.tmp 15)), SOper.mk (some 16) none (SOp.extract 0 (Operand.tmp 8)),
        SOper.mk (some 17) none (SOp.extract 1 (Operand.tmp 8)), SOper.mk (some 6) none (SOp.mv (Operand.tmp 16)),
        SOper.mk (some 7) none (SOp.mv (Operand.tmp 17))]
      [2, 6, 7])
    (Stmt.seq
      (Stmt.seq
        (Stmt.region
          [SOper.mk (some 18) none (SOp.mv (Operand.tmp 7)), SOper.mk (some 19) none (SOp.un UnOp.not (Operand.tmp 18))]
          [2, 6, 19])
        (Stmt.cond (Operand.tmp 19)
          (Stmt.seq
            (Stmt.region
              [SOper.mk (some 4) none (SOp.mv (Operand.const (Value.map none))),
                SOper.mk (some 5) none (SOp.mv (Operand.const (Value.bool false)))]
              [4, 5])
            Stmt.ret)
          Stmt.skip))
      (Stmt.seq
        (Stmt.region
          [SOper.mk (some 20) none (SOp.mv (Operand.tmp 6)), SOper.mk (some 21) none (SOp.fld 2 (Operand.tmp 2)),
            SOper.mk (some 22) none (SOp.load false 1 (Operand.tmp 21)),
            SOper.mk (some 23) none (SOp.idx 1 (Operand.tmp 20) (Operand.tmp 22)),
            SOper.mk (some 24) none (SOp.load false 1 (Operand.tmp 23)),
            SOper.mk (some 4) none (SOp.mv (Operand.tmp 24)),
            SOper.mk (some 5) none (SOp.mv (Operand.const (Value.bool true)))]
          [4, 5])
        Stmt.ret)))
def S75 : FnS := ⟨25, [(4, none), (5, none)], S75_0⟩
theorem tr75 : trFn Try.prog 75 [2] [[1, 2], [2, 6, 7], [2, 6, 19], [4, 5], [4, 5]] = some S75 := by kernel_rfl
end Go.Proofs.Ytniobbepliknmaa.V
/- Words as keys of sets: parlref5.key, Has, Words; no condition. -/
namespace Go.Proofs.Ytniobbepliknmaa.V
open Go
set_option linter.unusedVariables false
set_option linter.unusedSimpArgs false
attribute [local go_sem] e_seq e_region e_quiet e_join e_loop e_cond e_block e_exit e_ret e_skip e_fin e_kseq e_snrm e_sret e_sex e_bnrm e_bret e_bex e_rnrm e_rret e_res e_condC e_nil e_g e_mv g_mv e_pick g_pick pickC_eq e_ibin g_ibin ibinC_eq e_sbin g_sbin e_beq g_beq beqC_eq e_nilq g_nilq nilqC_sl nilqC_pt nilqC_mp e_un g_un unC_not unC_neg e_conv g_conv convC_eq e_fld g_fld fldC_ref fldC_ptr e_nilCheck g_nilCheck nilCheckC_ref nilCheckC_ptr nilCheckC_fun e_field g_field fieldC_eq e_len g_len lenC_sl lenC_str e_extract g_extract extractC_eq e_mkFunc e_build g_build e_idiv g_idiv idivC_eq e_ishift g_ishift ishiftC_eq e_idx g_idx e_idxA g_idxA e_load g_load loadC_ref loadC_ptr loadB_eq e_slc g_slc e_box boxC_loc boxC_esc e_alloc allocC_loc allocC_esc e_buildS e_store storeC_ref storeC_ptr storeB_eq e_append e_appz e_mk mkC_eq e_call callC_eq e_fn g_fn fnC_eq fnV_min' fnV_max' fnV_rune' e_q g_q e_a e_n g_call g_box g_alloc g_buildS g_store g_append g_mk g_a g_n g_dead e_dead e_callK e_drawn e_tree e_finJ e_tk e_tfin e_tno e_nbt_q e_nbt_qn e_nbt_a e_nbt_an e_nbt_fin e_early_nil e_early_t e_early_f e_nob_nil e_nob_none e_nob_some isBox_dead isBox_v isBox_ref e_dnil e_dk e_ek e_finB vcOps_vc1 e_dcons e_tq e_ekt e_tearly e_talt e_dearly look_nil look_c proj_nil proj_c looks_nil looks_c zip_nil zip_c val_tmp val_const val_func slv_v slv_box slv_ref slot_tmp slot_const slot_func slotL_v slotL_box slotL_ref put_some put_none updBox_c boxSet_box gd_eq slotVals_nil slotVals_c slotVals_b boxV_box boxOn_box slotsOn_nil slotsOn_c slotsOn_b resV_one resV_two vals_nil vals_c allOn_nil allOn_c partOn_nil partOn_c partVals_nil partVals_c fits_nil fits_c fillL_nil fillL_c mkv_one mkv_agg cellsV_agg cellsV_int cellsV_bool cellsV_slice cellsV_string cellsV_pointer cellsV_func cellsV_nilf cellsV_map one'_nil one'_c oc_int oc_bool oc_slice oc_string oc_pointer oc_func oc_nilf oc_map setC_eq iv_add iv_sub iv_mul iv_eql iv_neq iv_lss iv_leq iv_gtr iv_geq iok_add iok_sub iok_mul iok_eql iok_neq iok_lss iok_leq iok_gtr iok_geq pickV_bool args0_nil args0_c bnd_none bnd_some imp_bt imp_bf imp_ebt imp_ebf imp_eb1 imp_np imp_pp beq_tt beq_tf beq_ft beq_ff cond_or cond_and e_round e_meet Int.le_refl Int.toNat_zero decide_true decide_false Bool.or_false Bool.false_or Bool.true_or Bool.or_true Bool.and_false Bool.false_and Bool.bne_false Bool.bne_true beq_iff_eq Int.cast_ofNat_Int not_false_eq_true not_true_eq_false false_and and_false false_implies true_implies true_and and_true Bool.true_and Bool.and_true Bool.not_true Bool.not_false forall_const implies_true List.take_zero List.drop_zero List.take_succ_cons List.drop_succ_cons List.take_nil List.drop_nil List.length_cons List.length_nil List.nil_append List.append_nil List.cons_append Int.toNat_natCast decide_eq_true_eq decide_eq_false_iff_not cond_true cond_false and_self List.getElem?_cons_zero List.getElem?_cons_succ List.set_cons_zero List.set_cons_succ Option.some.injEq exists_eq_left' Nat.zero_add Nat.add_zero Nat.mul_one imp_self true_or or_true or_false false_or Bool.or_eq_true Bool.or_eq_false_iff Bool.and_eq_true Bool.and_eq_false_iff Bool.not_eq_true' Bool.not_eq_false'

theorem ref_key {Γr : Ctx} {W : Option Addr} {d : Nat} {w : List Int} (hw : SlOk (lk Γr) W d w) (hl : w.length ≤ 1000) (hb : ∀ x ∈ w, 0 ≤ x ∧ x < 256) :
    Ret Try.prog 146 [.slice W w.length d] Γr [] (fun v Γ => Γ = [] ∧ v = strB (w.map u8)) := by
  generalize hR : (fun (v : Value) (Γ : Ctx) => Γ = [] ∧ v = _) = R
  refine ret_of_vc tr146 (Nat.le_of_ble_eq_true rfl) ?_
  simp -implicitDefEqProofs only [S146, S146_0, go_sem, Nat.reduceBEq, Nat.reduceAdd, Nat.reduceSub, Nat.reduceMul, Nat.reduceLeDiff, reduceCtorEq, ↓reduceIte, Int.reduceLT, Int.reduceLE, Int.reduceEq, Int.reduceNe]
  refine ⟨by omega, by omega, fun bb => ?_⟩
  refine s_loop (fun f vs Γ => ∃ (k : Nat) (gb : PH) (xs : List By), vs = [.v true (.int .i64 k)] ∧ Γ = [gb] ∧ k + f = w.length ∧ Arr gb bb 5 xs ∧ xs.length = w.length ∧ ∀ i (h : i < xs.length) (h' : i < w.length), i < k → xs[i].n = u8 w[i]) w.length
    (Up.here ⟨0, _, _, rfl, rfl, by omega, Arr.made (⟨0⟩ : By) bb 5 w.length, by simp, fun i _ _ h => by omega⟩) ?_
  rintro f vs Γ ⟨k, gb, xs, rfl, rfl, hkf, hA, hxl, hxs⟩
  simp -implicitDefEqProofs only [S146_1, go_sem, Nat.reduceBEq, Nat.reduceAdd, Nat.reduceSub, Nat.reduceMul, Nat.reduceLeDiff, reduceCtorEq, ↓reduceIte, Int.reduceLT, Int.reduceLE, Int.reduceEq, Int.reduceNe]
  refine ⟨fun hlt => ?_, fun hge => ?_⟩
  · have hk : k < w.length := by omega
    obtain ⟨b1, o1, hA1, hc1⟩ := hw.int hk
    have hx := hb _ (List.getElem_mem hk)
    refine s_idx hA1 (by omega) (by omega) ?_
    simp -implicitDefEqProofs only [go_sem, Nat.reduceBEq, Nat.reduceAdd, Nat.reduceSub, Nat.reduceMul, Nat.reduceLeDiff, reduceCtorEq, ↓reduceIte, Int.reduceLT, Int.reduceLE, Int.reduceEq, Int.reduceNe]
    refine s_ld0 (hc1 _ (lk_r _ _)) (by simp) (by simp) ?_
    simp -implicitDefEqProofs only [go_sem, Nat.reduceBEq, Nat.reduceAdd, Nat.reduceSub, Nat.reduceMul, Nat.reduceLeDiff, reduceCtorEq, ↓reduceIte, Int.reduceLT, Int.reduceLE, Int.reduceEq, Int.reduceNe]
    refine s_idx rfl (by omega) (by omega) ?_
    simp -implicitDefEqProofs only [wrap_by hx.1 hx.2, go_sem, Nat.reduceBEq, Nat.reduceAdd, Nat.reduceSub, Nat.reduceMul, Nat.reduceLeDiff, reduceCtorEq, ↓reduceIte, Int.reduceLT, Int.reduceLE, Int.reduceEq, Int.reduceNe]
    refine s_storeA (ix := 0) (α := By) (⟨u8 w[k]⟩ : By) rfl hA (i := k) (by omega) ?_
    intro gb' hA' _
    simp -implicitDefEqProofs only [go_sem, Nat.reduceBEq, Nat.reduceAdd, Nat.reduceSub, Nat.reduceMul, Nat.reduceLeDiff, reduceCtorEq, ↓reduceIte, Int.reduceLT, Int.reduceLE, Int.reduceEq, Int.reduceNe]
    simp (disch := omega) only [wrap_id]
    refine ⟨f - 1, by omega, Up.here ⟨k + 1, gb', _, rfl, rfl, by omega, hA', by simpa using hxl, fun i h h' hi => ?_⟩⟩
    rw [List.getElem_set]
    split
    · rename_i e; subst e; rfl
    · exact hxs i (by simpa using h) h' (by omega)
  · have hk : k = w.length := by omega
    have hs : SlOk (lk [gb]) (some ⟨bb, 0, none⟩) w.length xs := hA.slok (Mem.le.refl _) (by omega) (by unfold maxLen; omega) (by omega)
    have hq := qr_bytes (P := Try.prog) (Γ := gb :: Γr) (s := 233) (d := 9) (e := 5) (by kernel_rfl) (by kernel_rfl) (by kernel_rfl) hs (lk_sub (by simp))
    rw [hxl] at hq
    refine s_q trivial hq ?_
    simp -implicitDefEqProofs only [go_sem, Nat.reduceBEq, Nat.reduceAdd, Nat.reduceSub, Nat.reduceMul, Nat.reduceLeDiff, reduceCtorEq, ↓reduceIte, Int.reduceLT, Int.reduceLE, Int.reduceEq, Int.reduceNe]
    refine Up.to [] (Ent.nil _) ?_
    subst hR
    refine ⟨rfl, ?_⟩
    have : xs.map (·.n) = w.map u8 := by
      apply List.ext_getElem
      · simp [hxl]
      · intro i h1 h2
        simp only [List.getElem_map]
        simp at h1 h2
        exact hxs i h1 h2 (by omega)
    rw [this]
    rfl
theorem ref_has {Γr : Ctx} {b : Nat} {l : List (List UInt8)} (hm : SetS (lk Γr) b l) {W : Option Addr} {d : Nat} {w : List Int} (hw : SlOk (lk Γr) W d w) (hl : w.length ≤ 1000) (hb : ∀ x ∈ w, 0 ≤ x ∧ x < 256) :
    Ret Try.prog 77 [.map (some b), .slice W w.length d] Γr [] (fun v Γ => Γ = [] ∧ v = .bool (decide (w.map u8 ∈ l))) := by
  generalize hR : (fun (v : Value) (Γ : Ctx) => Γ = [] ∧ v = _) = R
  refine ret_of_vc tr77 (Nat.le_of_ble_eq_true rfl) ?_
  simp -implicitDefEqProofs only [S77, S77_0, go_sem, Nat.reduceBEq, Nat.reduceAdd, Nat.reduceSub, Nat.reduceMul, Nat.reduceLeDiff, reduceCtorEq, ↓reduceIte, Int.reduceLT, Int.reduceLE, Int.reduceEq, Int.reduceNe]
  refine CallVC.read (ref_key (hw.mono (lk_r _ _)) hl hb) ?_
  rintro v Γ' ⟨rfl, rfl⟩
  simp -implicitDefEqProofs only [go_sem, Nat.reduceBEq, Nat.reduceAdd, Nat.reduceSub, Nat.reduceMul, Nat.reduceLeDiff, reduceCtorEq, ↓reduceIte, Int.reduceLT, Int.reduceLE, Int.reduceEq, Int.reduceNe]
  refine s_q trivial (look_str (t := 118) (kt := 9) (by kernel_rfl) (by kernel_rfl) (hm.mono (lk_r _ _)) (by simpa using hl)) ?_
  simp -implicitDefEqProofs only [go_sem, Nat.reduceBEq, Nat.reduceAdd, Nat.reduceSub, Nat.reduceMul, Nat.reduceLeDiff, reduceCtorEq, ↓reduceIte, Int.reduceLT, Int.reduceLE, Int.reduceEq, Int.reduceNe]
  refine Up.here ?_
  subst hR
  exact ⟨rfl, rfl⟩
theorem u8_inj {x y : Int} (hx : 0 ≤ x ∧ x < 256) (hy : 0 ≤ y ∧ y < 256) (h : u8 x = u8 y) : x = y := by
  have h1 := wrap_by hx.1 hx.2
  have h2 := wrap_by hy.1 hy.2
  unfold u8 at h
  rw [h, ← h2, IntKind.wrap_u8, IntKind.wrap_u8] at h1
  omega
theorem rsOk_of {g : Gr} (V : VG g) : RsOk g.rs g.ns.toNat := by
  have hns := V.ns
  have hts := V.ts
  refine ⟨by have := V.len; omega, fun r hr => ?_, fun r hr => by have := V.right r hr; omega, fun r hr s hs => ?_⟩
  · have := V.left r hr; omega
  · have := V.sym r hr s hs
    exact ⟨this.1, fun h => by have := this.2.1 h; omega, fun h => by have := this.2.2 h; omega⟩
/-- the set of a grammar's short words -/
def HasS (g : Gr) (n : Nat) (l : List (List UInt8)) : Prop := ∀ w : List Int, (∀ x ∈ w, 0 ≤ x ∧ x < 256) → (w.map u8 ∈ l ↔ Has g w ∧ w.length ≤ n)
theorem has_u8 {g : Gr} (V : VG g) {w : List Int} (hw : ∀ x ∈ w, 0 ≤ x ∧ x < 256) : DerN u8 g.rs g.st (w.map u8) ↔ Has g w :=
  derN_map (p := fun x => 0 ≤ x ∧ x < 256) (fun x y hx hy h => u8_inj hx hy h) (fun r hr s hs ht => by have := V.sym r hr s hs; have := V.ts; have := this; exact ⟨by omega, by have := (V.sym r hr s hs).2.1 ht; omega⟩) hw
theorem ref_words {Γr : Ctx} {g : Gr} {A : Option Addr} {c : Nat} (hx : SlOk (lk Γr) A c g.rs) (V : VG g) (n : Nat) (hn : n ≤ 900) :
    Ret Try.prog 75 [.agg #[.int .i64 g.ts, .int .i64 g.ns, .int .i64 g.st, .slice A g.rs.length c], .int .i64 n] Γr [] (fun v Γ => (Γ = [] ∧ v = .tuple #[.map none, .bool false]) ∨
      (∃ gm bm l, Γ = [gm] ∧ v = .tuple #[.map (some bm), .bool true] ∧ SetS (lk [gm]) bm l ∧ HasS g n l)) := by
  generalize hR : (fun (v : Value) (Γ : Ctx) => _ ∨ _) = R
  refine ret_of_vc tr75 (Nat.le_of_ble_eq_true rfl) ?_
  have hns := V.ns
  have hst := V.st
  have hwo : ∀ Γ, Mem.le (lk Γr) (lk Γ) → Ret Try.prog _ _ Γ [] _ := fun Γ hΓ => ref_wordsOf (hx.mono hΓ) (N := g.ns.toNat) (n := n) (most := 3000) (rsOk_of V) (by omega) hn (by omega)
  rw [show ((g.ns.toNat : Nat) : Int) = g.ns by omega] at hwo
  simp -implicitDefEqProofs only [S75, S75_0, go_sem, Nat.reduceBEq, Nat.reduceAdd, Nat.reduceSub, Nat.reduceMul, Nat.reduceLeDiff, reduceCtorEq, ↓reduceIte, Int.reduceLT, Int.reduceLE, Int.reduceEq, Int.reduceNe]
  intro b0
  refine CallVC.read (hwo _ (lk_r _ _)) ?_
  rintro v Γ' (⟨rfl, rfl, _⟩ | ⟨gm, bo, maps, rfl, rfl, hG, hml, hE⟩)
  · simp -implicitDefEqProofs only [go_sem, Nat.reduceBEq, Nat.reduceAdd, Nat.reduceSub, Nat.reduceMul, Nat.reduceLeDiff, reduceCtorEq, ↓reduceIte, Int.reduceLT, Int.reduceLE, Int.reduceEq, Int.reduceNe]
    refine Up.here ?_
    subst hR
    exact .inl ⟨rfl, rfl⟩
  · simp -implicitDefEqProofs only [go_sem, Nat.reduceBEq, Nat.reduceAdd, Nat.reduceSub, Nat.reduceMul, Nat.reduceLeDiff, reduceCtorEq, ↓reduceIte, Int.reduceLT, Int.reduceLE, Int.reduceEq, Int.reduceNe]
    have hsl : g.st.toNat < maps.length := by omega
    obtain ⟨bm, hcell, hM, hne, hput⟩ := hG.at' hsl
    refine s_idx rfl (by omega) (by omega) ?_
    simp -implicitDefEqProofs only [go_sem, Nat.reduceBEq, Nat.reduceAdd, Nat.reduceSub, Nat.reduceMul, Nat.reduceLeDiff, reduceCtorEq, ↓reduceIte, Int.reduceLT, Int.reduceLE, Int.reduceEq, Int.reduceNe]
    refine s_ld0 (hcell _ (by simp)) (by simp) (by simp) ?_
    simp -implicitDefEqProofs only [go_sem, Nat.reduceBEq, Nat.reduceAdd, Nat.reduceSub, Nat.reduceMul, Nat.reduceLeDiff, reduceCtorEq, ↓reduceIte, Int.reduceLT, Int.reduceLE, Int.reduceEq, Int.reduceNe]
    refine Up.here ?_
    subst hR
    refine .inr ⟨gm, bm, maps[g.st.toNat], rfl, rfl, hM.l (by simp), fun w hw => ?_⟩
    rw [← em_at hsl, hE _ _ (by omega), show ((g.st.toNat : Nat) : Int) = g.st by omega, has_u8 V hw, List.length_map]
end Go.Proofs.Ytniobbepliknmaa.V
/- The text of parlance/parlref5.Guessed$1 as a statement (slots: 0 l, 4 l, 6 m, 7 ok, 8 _, 9 w, 10 _, 11 w); no condition. -/
namespace Go.Proofs.Ytniobbepliknmaa.V
open Go
def S133_1 : Stmt :=
  Stmt.seq
  (Stmt.region [SOper.mk (some 24) none (SOp.ibin BinOp.lss (Operand.tmp 23) (Operand.tmp 22))] [3, 6, 21, 22, 23, 24])
  (Stmt.seq (Stmt.cond (Operand.tmp 24) Stmt.skip (Stmt.exit 0))
    (Stmt.seq
      (Stmt.block 1
        (Stmt.seq
          (Stmt.region
            [SOper.mk (some 25) none (SOp.idx 1 (Operand.tmp 21) (Operand.tmp 23)),
              SOper.mk (some 26) none (SOp.load false 1 (Operand.tmp 25)),
              SOper.mk (some 9) none (SOp.mv (Operand.tmp 26))]
            [3, 6, 9, 21, 22, 23])
          (Stmt.seq
            (Stmt.region
              [SOper.mk (some 27) none (SOp.mv (Operand.tmp 6)),
                SOper.mk (some 28) none (SOp.idx 1 (Operand.tmp 27) (Operand.const (Value.int IntKind.i64 0))),
                SOper.mk (some 29) none (SOp.load false 1 (Operand.tmp 28)),
                SOper.mk (some 30) none (SOp.mv (Operand.tmp 9)),
                SOper.mk (some 31) none (SOp.call (Operand.func 77) [Operand.tmp 29, Operand.tmp 30]),
                SOper.mk (some 32) none (SOp.un UnOp.not (Operand.tmp 31))]
              [3, 6, 21, 22, 23, 32])
            (Stmt.cond (Operand.tmp 32)
              (Stmt.seq (Stmt.region [SOper.mk (some 5) none (SOp.mv (Operand.const (Value.bool false)))] [5]) Stmt.ret)
              Stmt.skip))))
      (Stmt.region
        [SOper.mk (some 33) none (SOp.ibin BinOp.add (Operand.tmp 23) (Operand.const (Value.int IntKind.i64 1))),
          SOper.mk (some 23) none (SOp.mv (Operand.tmp 33))]
        [3, 6, 21, 22, 23])))
def S133_2 : Stmt :=
  Stmt.seq
  (Stmt.region [SOper.mk (some 37) none (SOp.ibin BinOp.lss (Operand.tmp 36) (Operand.tmp 35))] [6, 34, 35, 36, 37])
  (Stmt.seq (Stmt.cond (Operand.tmp 37) Stmt.skip (Stmt.exit 2))
    (Stmt.seq
      (Stmt.block 3
        (Stmt.seq
          (Stmt.region
            [SOper.mk (some 38) none (SOp.idx 1 (Operand.tmp 34) (Operand.tmp 36)),
              SOper.mk (some 39) none (SOp.load false 1 (Operand.tmp 38)),
              SOper.mk (some 11) none (SOp.mv (Operand.tmp 39))]
            [6, 11, 34, 35, 36])
          (Stmt.seq
            (Stmt.region
              [SOper.mk (some 40) none (SOp.mv (Operand.tmp 6)),
                SOper.mk (some 41) none (SOp.idx 1 (Operand.tmp 40) (Operand.const (Value.int IntKind.i64 0))),
                SOper.mk (some 42) none (SOp.load false 1 (Operand.tmp 41)),
                SOper.mk (some 43) none (SOp.mv (Operand.tmp 11)),
                SOper.mk (some 44) none (SOp.call (Operand.func 77) [Operand.tmp 42, Operand.tmp 43])]
              [6, 34, 35, 36, 44])
            (Stmt.cond (Operand.tmp 44)
              (Stmt.seq (Stmt.region [SOper.mk (some 5) none (SOp.mv (Operand.const (Value.bool false)))] [5]) Stmt.ret)
              Stmt.skip))))
      (Stmt.region
        [SOper.mk (some 45) none (SOp.ibin BinOp.add (Operand.tmp 36) (Operand.const (Value.int IntKind.i64 1))),
          SOper.mk (some 36) none (SOp.mv (Operand.tmp 45))]
        [6, 34, 35, 36])))
def S133_0 : Stmt :=
  Stmt.seq (Stmt.region [SOper.mk (some 5) none (SOp.mv (Operand.const (Value.bool false)))] [0, 1, 2, 3])
  (Stmt.seq
    (Stmt.region
      [SOper.mk (some 13) none (SOp.load false 1 (Operand.tmp 1)), SOper.mk (some 14) none (SOp.mv (Operand.tmp 0)),
        SOper.mk (some 15) none
          (SOp.build 177 [Value.int IntKind.i64 0, Value.slice none 0 0]
            [(0, 1, Operand.tmp 13), (1, 1, Operand.tmp 14)]),
        SOper.mk (some 16) none
          (SOp.call (Operand.func 134)
            [Operand.tmp 15, Operand.const (Value.int IntKind.i64 5), Operand.const (Value.int IntKind.i64 200)]),
        SOper.mk (some 12) none (SOp.mv (Operand.tmp 16)), SOper.mk (some 17) none (SOp.extract 0 (Operand.tmp 12)),
        SOper.mk (some 18) none (SOp.extract 1 (Operand.tmp 12)), SOper.mk (some 6) none (SOp.mv (Operand.tmp 17)),
        SOper.mk (some 7) none (SOp.mv (Operand.tmp 18))]
      [2, 3, 6, 7])
    (Stmt.seq
      (Stmt.seq
        (Stmt.region
          [SOper.mk (some 19) none (SOp.mv (Operand.tmp 7)), SOper.mk (some 20) none (SOp.un UnOp.not (Operand.tmp 19))]
          [2, 3, 6, 20])
        (Stmt.cond (Operand.tmp 20)
          (Stmt.seq (Stmt.region [SOper.mk (some 5) none (SOp.mv (Operand.const (Value.bool false)))] [5]) Stmt.ret)
          Stmt.skip))
      (Stmt.seq
        (Stmt.seq
          (Stmt.region
            [SOper.mk (some 21) none (SOp.load false 1 (Operand.tmp 2)),
              SOper.mk (some 22) none (SOp.len false (Operand.tmp 21)),
              SOper.mk (some 23) none (SOp.mv (Operand.const (Value.int IntKind.i64 0)))]
            [3, 6, 21, 22, 23])
          (Stmt.block 0 (Stmt.loop S133_1 [23] [3, 6, 21, 22])))
        (Stmt.seq
          (Stmt.seq
            (Stmt.region
              [SOper.mk (some 34) none (SOp.load false 1 (Operand.tmp 3)),
                SOper.mk (some 35) none (SOp.len false (Operand.tmp 34)),
                SOper.mk (some 36) none (SOp.mv (Operand.const (Value.int IntKind.i64 0)))]
              [6, 34, 35, 36])
            (Stmt.block 2 (Stmt.loop S133_2 [36] [6, 34, 35])))
          (Stmt.seq (Stmt.region [SOper.mk (some 5) none (SOp.mv (Operand.const (Value.bool true)))] [5]) Stmt.ret)))))
def S133 : FnS := ⟨46, [(5, none)], S133_0⟩
theorem tr133 : trFn Try.prog 133 [] [[0, 1, 2, 3], [2, 3, 6, 7], [2, 3, 6, 20], [5], [3, 6, 21, 22, 23], [23], [3, 6, 21, 22], [3, 6, 21, 22, 23, 24], [3, 6, 9, 21, 22, 23], [3, 6, 21, 22, 23, 32], [5], [3, 6, 21, 22, 23], [6, 34, 35, 36], [36], [6, 34, 35], [6, 34, 35, 36, 37], [6, 11, 34, 35, 36], [6, 34, 35, 36, 44], [5], [6, 34, 35, 36], [5]] = some S133 := by kernel_rfl
end Go.Proofs.Ytniobbepliknmaa.V
/- The text of parlance/parlref5.Guessed$2 as a statement (slots: 0 l, 3 l); no condition. -/
namespace Go.Proofs.Ytniobbepliknmaa.V
open Go
def S135_0 : Stmt :=
  Stmt.seq
  (Stmt.region
    [SOper.mk (some 4) none
        (SOp.alloc true 57
          (Value.agg
            (Array.mk
              [Value.int IntKind.i64 0, Value.int IntKind.i64 0, Value.int IntKind.i64 0, Value.slice none 0 0]))),
      SOper.mk (some 5) none (SOp.mv (Operand.const (Value.bool false)))]
    [0, 1, 2, 4])
  (Stmt.seq
    (Stmt.drawn
      [(true, SOper.mk (some 6) none (SOp.load false 1 (Operand.tmp 1))),
        (true, SOper.mk (some 7) none (SOp.load false 1 (Operand.tmp 2))),
        (false, SOper.mk (some 8) none (SOp.mv (Operand.tmp 0))),
        (false, SOper.mk (some 9) none (SOp.call (Operand.func 136) [Operand.tmp 8])),
        (false,
          SOper.mk (some 10) none
            (SOp.build 57
              [Value.int IntKind.i64 0, Value.int IntKind.i64 0, Value.int IntKind.i64 0, Value.slice none 0 0]
              [(0, 1, Operand.tmp 6), (1, 1, Operand.tmp 7), (3, 1, Operand.tmp 9)])),
        (false, SOper.mk none none (SOp.store 4 (Operand.tmp 4) (Operand.tmp 10))),
        (false, SOper.mk (some 5) none (SOp.mv (Operand.const (Value.bool true))))]
      [4, 5])
    Stmt.ret)
def S135 : FnS := ⟨11, [(4, some (true, 4)), (5, none)], S135_0⟩
theorem tr135 : trFn Try.prog 135 [4] [[0, 1, 2, 4], [4, 5], [0, 1, 2, 3, 4, 5, 6], [0, 1], [], [], [], [2], [0, 1, 2, 3], [0, 1, 2, 3, 4], [0, 1, 2, 3, 4, 5]] = some S135 := by kernel_rfl
end Go.Proofs.Ytniobbepliknmaa.V
/- What the second implementation of guessing asks of rules: parlref5.Guessed's functions; no condition. -/
namespace Go.Proofs.Ytniobbepliknmaa.V
open Go
set_option linter.unusedVariables false
set_option linter.unusedSimpArgs false
attribute [local go_sem] e_seq e_region e_quiet e_join e_loop e_cond e_block e_exit e_ret e_skip e_fin e_kseq e_snrm e_sret e_sex e_bnrm e_bret e_bex e_rnrm e_rret e_res e_condC e_nil e_g e_mv g_mv e_pick g_pick pickC_eq e_ibin g_ibin ibinC_eq e_sbin g_sbin e_beq g_beq beqC_eq e_nilq g_nilq nilqC_sl nilqC_pt nilqC_mp e_un g_un unC_not unC_neg e_conv g_conv convC_eq e_fld g_fld fldC_ref fldC_ptr e_nilCheck g_nilCheck nilCheckC_ref nilCheckC_ptr nilCheckC_fun e_field g_field fieldC_eq e_len g_len lenC_sl lenC_str e_extract g_extract extractC_eq e_mkFunc e_build g_build e_idiv g_idiv idivC_eq e_ishift g_ishift ishiftC_eq e_idx g_idx e_idxA g_idxA e_load g_load loadC_ref loadC_ptr loadB_eq e_slc g_slc e_box boxC_loc boxC_esc e_alloc allocC_loc allocC_esc e_buildS e_store storeC_ref storeC_ptr storeB_eq e_append e_appz e_mk mkC_eq e_call callC_eq e_fn g_fn fnC_eq fnV_min' fnV_max' fnV_rune' e_q g_q e_a e_n g_call g_box g_alloc g_buildS g_store g_append g_mk g_a g_n g_dead e_dead e_callK e_drawn e_tree e_finJ e_tk e_tfin e_tno e_nbt_q e_nbt_qn e_nbt_a e_nbt_an e_nbt_fin e_early_nil e_early_t e_early_f e_nob_nil e_nob_none e_nob_some isBox_dead isBox_v isBox_ref e_dnil e_dk e_ek e_finB vcOps_vc1 e_dcons e_tq e_ekt e_tearly e_talt e_dearly look_nil look_c proj_nil proj_c looks_nil looks_c zip_nil zip_c val_tmp val_const val_func slv_v slv_box slv_ref slot_tmp slot_const slot_func slotL_v slotL_box slotL_ref put_some put_none updBox_c boxSet_box gd_eq slotVals_nil slotVals_c slotVals_b boxV_box boxOn_box slotsOn_nil slotsOn_c slotsOn_b resV_one resV_two vals_nil vals_c allOn_nil allOn_c partOn_nil partOn_c partVals_nil partVals_c fits_nil fits_c fillL_nil fillL_c mkv_one mkv_agg cellsV_agg cellsV_int cellsV_bool cellsV_slice cellsV_string cellsV_pointer cellsV_func cellsV_nilf cellsV_map one'_nil one'_c oc_int oc_bool oc_slice oc_string oc_pointer oc_func oc_nilf oc_map setC_eq iv_add iv_sub iv_mul iv_eql iv_neq iv_lss iv_leq iv_gtr iv_geq iok_add iok_sub iok_mul iok_eql iok_neq iok_lss iok_leq iok_gtr iok_geq pickV_bool args0_nil args0_c bnd_none bnd_some imp_bt imp_bf imp_ebt imp_ebf imp_eb1 imp_np imp_pp beq_tt beq_tf beq_ft beq_ff cond_or cond_and e_round e_meet Int.le_refl Int.toNat_zero decide_true decide_false Bool.or_false Bool.false_or Bool.true_or Bool.or_true Bool.and_false Bool.false_and Bool.bne_false Bool.bne_true beq_iff_eq Int.cast_ofNat_Int not_false_eq_true not_true_eq_false false_and and_false false_implies true_implies true_and and_true Bool.true_and Bool.and_true Bool.not_true Bool.not_false forall_const implies_true List.take_zero List.drop_zero List.take_succ_cons List.drop_succ_cons List.take_nil List.drop_nil List.length_cons List.length_nil List.nil_append List.append_nil List.cons_append Int.toNat_natCast decide_eq_true_eq decide_eq_false_iff_not cond_true cond_false and_self List.getElem?_cons_zero List.getElem?_cons_succ List.set_cons_zero List.set_cons_succ Option.some.injEq exists_eq_left' Nat.zero_add Nat.add_zero Nat.mul_one imp_self true_or or_true or_false false_or Bool.or_eq_true Bool.or_eq_false_iff Bool.and_eq_true Bool.and_eq_false_iff Bool.not_eq_true' Bool.not_eq_false'

theorem nodup_le {α : Type} [DecidableEq α] : ∀ {l l' : List α}, l.Nodup → (∀ x ∈ l, x ∈ l') → l.length ≤ l'.length
  | [], l', _, _ => by simp
  | x :: l, l', hn, hs => by
    have hx : x ∈ l' := hs x (by simp)
    have h2 := List.nodup_cons.1 hn
    have := nodup_le (l := l) (l' := l'.erase x) h2.2 fun y hy => by
      have : y ≠ x := fun e => by subst e; exact h2.1 hy
      exact (List.mem_erase_of_ne this).2 (hs y (by simp [hy]))
    rw [List.length_erase_of_mem hx] at this
    have := List.length_pos_of_mem hx
    simp only [List.length_cons]
    omega
theorem dg_all {t : Nat} : ∀ {w : List Int}, (∀ x ∈ w, 0 ≤ x ∧ x < t) → ∃ j, j < t ^ w.length ∧ w = dg t w.length j := by
  intro w
  induction hk : w.length generalizing w with
  | zero => intro _; exact ⟨0, by simp, by simpa [dg] using hk⟩
  | succ k ih =>
    intro hw
    have hne : w ≠ [] := fun e => by rw [e] at hk; simp at hk
    have hl := List.dropLast_concat_getLast hne
    obtain ⟨j, h1, h2⟩ := ih (w := w.dropLast) (by simp [hk]) fun x hx => hw x (List.dropLast_subset _ hx)
    have hx := hw _ (List.getLast_mem hne)
    generalize w.getLast hne = x at *
    have hc : x.toNat < t := by omega
    refine ⟨j * t + x.toNat, ?_, ?_⟩
    · rw [Nat.pow_succ]
      have : (j + 1) * t ≤ t ^ k * t := Nat.mul_le_mul_right _ h1
      rw [Nat.add_mul, Nat.one_mul] at this
      omega
    · rw [dg_snoc k j x.toNat hc, ← h2, show ((x.toNat : Nat) : Int) = x by omega]
      exact hl.symm
/-- there are few short words -/
theorem few_words {rs : List Ru} {t : Nat} (ht : 1 ≤ t ∧ t ≤ 2) (h : ∀ r ∈ rs, ∀ s ∈ r.r, s.t = true → 0 ≤ s.n ∧ s.n < t) : ¬ ManyW rs 5 200 := by
  rintro ⟨a, l, hn, hl, hall⟩
  have hsub : ∀ x ∈ l, x ∈ (lvs t 6).map (List.map u8) := by
    intro x hx
    obtain ⟨⟨r, hr, _, hd⟩, h5⟩ := hall x hx
    obtain ⟨v, rfl, hd'⟩ := hd.back
    have hv := hd'.all (p := fun y => 0 ≤ y ∧ y < t) h (h r hr)
    obtain ⟨j, h1, h2⟩ := dg_all hv
    rw [List.length_map] at h5
    exact List.mem_map.2 ⟨v, lvs_mem.2 ⟨v.length, j, by omega, h1, h2⟩, rfl⟩
  have h1 := nodup_le hn hsub
  have h2 : (lvs t 6).length ≤ 63 := by
    have : t = 1 ∨ t = 2 := by omega
    rcases this with rfl | rfl <;> decide
  rw [List.length_map] at h1
  omega
theorem ref_fits {Γr : Ctx} {bn by_ bo N : Nat} {T1 T2 T3 : TypeId} {Y Z A : Option Addr} {c d e : Nat} {yes no : List (List Int)} {l : List Ru} (hbn : lk Γr bn (.cells [Value.int .i64 N].toArray T1 (0, 0))) (hby : lk Γr by_ (.cells [Value.slice Y yes.length d].toArray T2 (0, 0))) (hbo : lk Γr bo (.cells [Value.slice Z no.length e].toArray T3 (0, 0)))
    (hx : SlOk (lk Γr) A c l) (hy : SlOk (lk Γr) Y d yes) (hn : SlOk (lk Γr) Z e no) (V : RsOk l N) (hN : 1 ≤ N ∧ N ≤ 2) (hfew : ¬ ManyW l 5 200) (hyl : ∀ w ∈ yes, w.length ≤ 5 ∧ ∀ x ∈ w, 0 ≤ x ∧ x < 256) (hnl : ∀ w ∈ no, w.length ≤ 5 ∧ ∀ x ∈ w, 0 ≤ x ∧ x < 256) :
    Ret Try.prog 133 [.slice A l.length c, .pointer (some ⟨bn, 0, none⟩), .pointer (some ⟨by_, 0, none⟩), .pointer (some ⟨bo, 0, none⟩)] Γr [] (fun v Γ => Γ = [] ∧ ∃ q : Bool, v = .bool q ∧ (q = true ↔ Agr yes no l)) := by
  generalize hR : (fun (v : Value) (Γ : Ctx) => Γ = [] ∧ _) = R
  refine ret_of_vc tr133 (Nat.le_of_ble_eq_true rfl) ?_
  have h1 := hy.short
  have h2 := hn.short
  simp -implicitDefEqProofs only [S133, S133_0, go_sem, Nat.reduceBEq, Nat.reduceAdd, Nat.reduceSub, Nat.reduceMul, Nat.reduceLeDiff, reduceCtorEq, ↓reduceIte, Int.reduceLT, Int.reduceLE, Int.reduceEq, Int.reduceNe]
  refine s_ld (o := 0) (j := 0) (cells_lk (lk_r _ _ _ _ hbn)) (by simp) (by simp) ?_
  simp -implicitDefEqProofs only [go_sem, Nat.reduceBEq, Nat.reduceAdd, Nat.reduceSub, Nat.reduceMul, Nat.reduceLeDiff, reduceCtorEq, ↓reduceIte, Int.reduceLT, Int.reduceLE, Int.reduceEq, Int.reduceNe]
  refine CallVC.read (ref_wordsOf (N := N) (n := 5) (most := 200) (hx.mono (lk_r _ _)) V (by omega) (by omega) (by omega)) ?_
  rintro v Γ' (⟨rfl, rfl, hm⟩ | ⟨gm, bm, maps, rfl, rfl, hG, hml, hE⟩)
  · exact absurd hm hfew
  have h0 : 0 < maps.length := by omega
  have hmem : ∀ w : List Int, w.length ≤ 5 → (∀ x ∈ w, 0 ≤ x ∧ x < 256) → (w.map u8 ∈ maps[0] ↔ DerN id l 0 w) := by
    intro w hw hb
    rw [← em_at h0, hE 0 _ (by omega), List.length_map]
    have := derN_map (f := u8) (p := fun x => 0 ≤ x ∧ x < 256) (fun x y hx hy h => u8_inj hx hy h) (rs := l) (fun r hr s hs ht => ⟨(V.sym r hr s hs).1, (V.sym r hr s hs).2.1 ht⟩) (a := 0) hb
    constructor
    · exact fun h => this.1 h.1
    · exact fun h => ⟨this.2 h, hw⟩
  obtain ⟨b0, hcell, hM, hne, hput⟩ := hG.at' h0
  clear hput
  generalize maps[0] = l0 at *
  simp -implicitDefEqProofs only [go_sem, Nat.reduceBEq, Nat.reduceAdd, Nat.reduceSub, Nat.reduceMul, Nat.reduceLeDiff, reduceCtorEq, ↓reduceIte, Int.reduceLT, Int.reduceLE, Int.reduceEq, Int.reduceNe]
  refine s_ld (o := 0) (j := 0) (cells_lk (lk_r _ _ _ _ hby)) (by simp) (by simp) ?_
  simp -implicitDefEqProofs only [go_sem, Nat.reduceBEq, Nat.reduceAdd, Nat.reduceSub, Nat.reduceMul, Nat.reduceLeDiff, reduceCtorEq, ↓reduceIte, Int.reduceLT, Int.reduceLE, Int.reduceEq, Int.reduceNe]
  refine s_loop (fun f vs Γ => Γ = [gm] ∧ ∃ k : Nat, vs = [.v true (.int .i64 k)] ∧ k + f = yes.length ∧ ∀ w ∈ yes.take k, DerN id l 0 w) yes.length (Up.here ⟨rfl, 0, rfl, by omega, by simp⟩) ?_
  rintro f vs Γ ⟨rfl, k, rfl, hkf, hall⟩
  simp -implicitDefEqProofs only [S133_1, go_sem, Nat.reduceBEq, Nat.reduceAdd, Nat.reduceSub, Nat.reduceMul, Nat.reduceLeDiff, reduceCtorEq, ↓reduceIte, Int.reduceLT, Int.reduceLE, Int.reduceEq, Int.reduceNe]
  refine ⟨fun hlt => ?_, fun hge => ?_⟩
  · have hk : k < yes.length := by omega
    obtain ⟨b1, o1, hA1, A2, c2, hs2, hc1⟩ := hy.list hk
    have hw := hyl _ (List.getElem_mem hk)
    have hme := hmem _ hw.1 hw.2
    have htk : yes.take (k + 1) = yes.take k ++ [yes[k]] := List.take_succ_eq_append_getElem hk
    have hin := List.getElem_mem hk
    generalize yes[k] = w at *
    refine s_idx hA1 (by omega) (by omega) ?_
    simp -implicitDefEqProofs only [go_sem, Nat.reduceBEq, Nat.reduceAdd, Nat.reduceSub, Nat.reduceMul, Nat.reduceLeDiff, reduceCtorEq, ↓reduceIte, Int.reduceLT, Int.reduceLE, Int.reduceEq, Int.reduceNe]
    refine s_ld0 (hc1 _ (lk_r _ _)) (by simp) (by simp) ?_
    simp -implicitDefEqProofs only [go_sem, Nat.reduceBEq, Nat.reduceAdd, Nat.reduceSub, Nat.reduceMul, Nat.reduceLeDiff, reduceCtorEq, ↓reduceIte, Int.reduceLT, Int.reduceLE, Int.reduceEq, Int.reduceNe]
    refine s_idx rfl (by omega) (by omega) ?_
    simp -implicitDefEqProofs only [go_sem, Nat.reduceBEq, Nat.reduceAdd, Nat.reduceSub, Nat.reduceMul, Nat.reduceLeDiff, reduceCtorEq, ↓reduceIte, Int.reduceLT, Int.reduceLE, Int.reduceEq, Int.reduceNe]
    refine s_ld0 (hcell _ (by simp)) (by simp) (by simp) ?_
    simp -implicitDefEqProofs only [go_sem, Nat.reduceBEq, Nat.reduceAdd, Nat.reduceSub, Nat.reduceMul, Nat.reduceLeDiff, reduceCtorEq, ↓reduceIte, Int.reduceLT, Int.reduceLE, Int.reduceEq, Int.reduceNe]
    refine CallVC.read (ref_has (hM.l (by simp)) (hs2.mono (lk_r _ _)) (by omega) hw.2) ?_
    rintro v Γ' ⟨rfl, rfl⟩
    by_cases e : w.map u8 ∈ l0
    · rw [decide_eq_true e]
      simp -implicitDefEqProofs only [go_sem, Nat.reduceBEq, Nat.reduceAdd, Nat.reduceSub, Nat.reduceMul, Nat.reduceLeDiff, reduceCtorEq, ↓reduceIte, Int.reduceLT, Int.reduceLE, Int.reduceEq, Int.reduceNe]
      simp (disch := omega) only [wrap_id]
      refine ⟨f - 1, by omega, Up.here ⟨rfl, k + 1, rfl, by omega, fun x hx => ?_⟩⟩
      rw [htk] at hx
      rcases List.mem_append.1 hx with hx | hx
      · exact hall x hx
      · simp at hx
        subst hx
        exact hme.1 e
    · rw [decide_eq_false e]
      simp -implicitDefEqProofs only [go_sem, Nat.reduceBEq, Nat.reduceAdd, Nat.reduceSub, Nat.reduceMul, Nat.reduceLeDiff, reduceCtorEq, ↓reduceIte, Int.reduceLT, Int.reduceLE, Int.reduceEq, Int.reduceNe]
      refine Up.to [] (Ent.nil _) ?_
      subst hR
      refine ⟨rfl, false, rfl, ?_⟩
      simp only [Bool.false_eq_true, false_iff]
      exact fun r => e (hme.2 (r.1 w hin))
  have hk : k = yes.length := by omega
  rw [hk, List.take_length] at hall
  refine s_ld (o := 0) (j := 0) (cells_lk (lk_r _ _ _ _ hbo)) (by simp) (by simp) ?_
  simp -implicitDefEqProofs only [go_sem, Nat.reduceBEq, Nat.reduceAdd, Nat.reduceSub, Nat.reduceMul, Nat.reduceLeDiff, reduceCtorEq, ↓reduceIte, Int.reduceLT, Int.reduceLE, Int.reduceEq, Int.reduceNe]
  refine s_loop (fun f vs Γ => Γ = [gm] ∧ ∃ k : Nat, vs = [.v true (.int .i64 k)] ∧ k + f = no.length ∧ ∀ w ∈ no.take k, ¬ DerN id l 0 w) no.length (Up.here ⟨rfl, 0, rfl, by omega, by simp⟩) ?_
  rintro f vs Γ ⟨rfl, k, rfl, hkf, hall2⟩
  simp -implicitDefEqProofs only [S133_2, go_sem, Nat.reduceBEq, Nat.reduceAdd, Nat.reduceSub, Nat.reduceMul, Nat.reduceLeDiff, reduceCtorEq, ↓reduceIte, Int.reduceLT, Int.reduceLE, Int.reduceEq, Int.reduceNe]
  refine ⟨fun hlt => ?_, fun hge => ?_⟩
  · have hk : k < no.length := by omega
    obtain ⟨b1, o1, hA1, A2, c2, hs2, hc1⟩ := hn.list hk
    have hw := hnl _ (List.getElem_mem hk)
    have hme := hmem _ hw.1 hw.2
    have htk : no.take (k + 1) = no.take k ++ [no[k]] := List.take_succ_eq_append_getElem hk
    have hin := List.getElem_mem hk
    generalize no[k] = w at *
    refine s_idx hA1 (by omega) (by omega) ?_
    simp -implicitDefEqProofs only [go_sem, Nat.reduceBEq, Nat.reduceAdd, Nat.reduceSub, Nat.reduceMul, Nat.reduceLeDiff, reduceCtorEq, ↓reduceIte, Int.reduceLT, Int.reduceLE, Int.reduceEq, Int.reduceNe]
    refine s_ld0 (hc1 _ (lk_r _ _)) (by simp) (by simp) ?_
    simp -implicitDefEqProofs only [go_sem, Nat.reduceBEq, Nat.reduceAdd, Nat.reduceSub, Nat.reduceMul, Nat.reduceLeDiff, reduceCtorEq, ↓reduceIte, Int.reduceLT, Int.reduceLE, Int.reduceEq, Int.reduceNe]
    refine s_idx rfl (by omega) (by omega) ?_
    simp -implicitDefEqProofs only [go_sem, Nat.reduceBEq, Nat.reduceAdd, Nat.reduceSub, Nat.reduceMul, Nat.reduceLeDiff, reduceCtorEq, ↓reduceIte, Int.reduceLT, Int.reduceLE, Int.reduceEq, Int.reduceNe]
    refine s_ld0 (hcell _ (by simp)) (by simp) (by simp) ?_
    simp -implicitDefEqProofs only [go_sem, Nat.reduceBEq, Nat.reduceAdd, Nat.reduceSub, Nat.reduceMul, Nat.reduceLeDiff, reduceCtorEq, ↓reduceIte, Int.reduceLT, Int.reduceLE, Int.reduceEq, Int.reduceNe]
    refine CallVC.read (ref_has (hM.l (by simp)) (hs2.mono (lk_r _ _)) (by omega) hw.2) ?_
    rintro v Γ' ⟨rfl, rfl⟩
    by_cases e : w.map u8 ∈ l0
    · rw [decide_eq_true e]
      simp -implicitDefEqProofs only [go_sem, Nat.reduceBEq, Nat.reduceAdd, Nat.reduceSub, Nat.reduceMul, Nat.reduceLeDiff, reduceCtorEq, ↓reduceIte, Int.reduceLT, Int.reduceLE, Int.reduceEq, Int.reduceNe]
      refine Up.to [] (Ent.nil _) ?_
      subst hR
      refine ⟨rfl, false, rfl, ?_⟩
      simp only [Bool.false_eq_true, false_iff]
      exact fun r => r.2 w hin (hme.1 e)
    · rw [decide_eq_false e]
      simp -implicitDefEqProofs only [go_sem, Nat.reduceBEq, Nat.reduceAdd, Nat.reduceSub, Nat.reduceMul, Nat.reduceLeDiff, reduceCtorEq, ↓reduceIte, Int.reduceLT, Int.reduceLE, Int.reduceEq, Int.reduceNe]
      simp (disch := omega) only [wrap_id]
      refine ⟨f - 1, by omega, Up.here ⟨rfl, k + 1, rfl, by omega, fun x hx => ?_⟩⟩
      rw [htk] at hx
      rcases List.mem_append.1 hx with hx | hx
      · exact hall2 x hx
      · simp at hx
        subst hx
        exact fun q => e (hme.2 q)
  have hk : k = no.length := by omega
  rw [hk, List.take_length] at hall2
  refine Up.to [] (Ent.nil _) ?_
  subst hR
  exact ⟨rfl, true, rfl, by simp only [true_iff]; exact ⟨hall, hall2⟩⟩
theorem ref_make {Γr : Ctx} {b1 b2 : Nat} {t n : Int} {T1 T2 : TypeId} {A : Option Addr} {c : Nat} {l : List Ru} (h1 : lk Γr b1 (.cells [Value.int .i64 t].toArray T1 (0, 0))) (h2 : lk Γr b2 (.cells [Value.int .i64 n].toArray T2 (0, 0))) (hx : SlOk (lk Γr) A c l) (hl : l.length ≤ 1000) :
    Ret Try.prog 135 [.slice A l.length c, .pointer (some ⟨b1, 0, none⟩), .pointer (some ⟨b2, 0, none⟩)] Γr [] (fun v Γ => ∃ g B d, Γ = [g] ∧ SlOk (lk (g :: Γr)) B d l ∧ v = .tuple #[.agg #[.int .i64 t, .int .i64 n, .int .i64 0, .slice B l.length d], .bool true]) := by
  generalize hR : (fun (v : Value) (Γ : Ctx) => ∃ g B d, _) = R
  refine ret_of_vc tr135 (Nat.le_of_ble_eq_true rfl) ?_
  simp -implicitDefEqProofs only [S135, S135_0, go_sem, Nat.reduceBEq, Nat.reduceAdd, Nat.reduceSub, Nat.reduceMul, Nat.reduceLeDiff, reduceCtorEq, ↓reduceIte, Int.reduceLT, Int.reduceLE, Int.reduceEq, Int.reduceNe]
  intro b0
  refine s_drawn [] [] (Ent.refl _) ?_
  simp -implicitDefEqProofs only [go_sem, Nat.reduceBEq, Nat.reduceAdd, Nat.reduceSub, Nat.reduceMul, Nat.reduceLeDiff, reduceCtorEq, ↓reduceIte, Int.reduceLT, Int.reduceLE, Int.reduceEq, Int.reduceNe]
  refine s_ld (o := 0) (j := 0) (cells_lk (lk_r _ _ _ _ h1)) (by simp) (by simp) ?_
  simp -implicitDefEqProofs only [go_sem, Nat.reduceBEq, Nat.reduceAdd, Nat.reduceSub, Nat.reduceMul, Nat.reduceLeDiff, reduceCtorEq, ↓reduceIte, Int.reduceLT, Int.reduceLE, Int.reduceEq, Int.reduceNe]
  refine s_ld (o := 0) (j := 0) (cells_lk (lk_r _ _ _ _ h2)) (by simp) (by simp) ?_
  simp -implicitDefEqProofs only [go_sem, Nat.reduceBEq, Nat.reduceAdd, Nat.reduceSub, Nat.reduceMul, Nat.reduceLeDiff, reduceCtorEq, ↓reduceIte, Int.reduceLT, Int.reduceLE, Int.reduceEq, Int.reduceNe]
  refine CallVC.read (clone_ru (hx.mono (lk_r _ _)) (by omega)) ?_
  rintro v Γ' ⟨g, rfl, hB⟩
  obtain ⟨B, d, rfl, hs⟩ := hB.slok (L' := lk (g :: Γr)) (lk_sub (by simp)) (lk_sub fun x hx => by simp at hx; simp [hx]) (by omega)
  simp -implicitDefEqProofs only [go_sem, Nat.reduceBEq, Nat.reduceAdd, Nat.reduceSub, Nat.reduceMul, Nat.reduceLeDiff, reduceCtorEq, ↓reduceIte, Int.reduceLT, Int.reduceLE, Int.reduceEq, Int.reduceNe]
  refine Up.here ?_
  subst hR
  exact ⟨g, B, d, rfl, hs, rfl⟩
end Go.Proofs.Ytniobbepliknmaa.V
/- The text of parlance/parlref5.Guessed as a statement (slots: 0 terms, 1 nons, 2 rules, 3 yes, 4 no, 5 terms, 6 nons, 7 rules, 8 yes, 9 no, 12 fits, 13 make1, 14 _, 15 a, 16 i, 17 a, 18 _, 19 b, 20 l, 21 i, 22 a, 23 j, 24 b, 25 _, 26 c, 27 l); no condition. -/
namespace Go.Proofs.Ytniobbepliknmaa.V
open Go
def S61_1 : Stmt :=
  Stmt.seq
  (Stmt.region [SOper.mk (some 39) none (SOp.ibin BinOp.lss (Operand.tmp 38) (Operand.tmp 37))]
    [2, 10, 12, 13, 36, 37, 38, 39])
  (Stmt.seq (Stmt.cond (Operand.tmp 39) Stmt.skip (Stmt.exit 0))
    (Stmt.seq
      (Stmt.block 1
        (Stmt.seq
          (Stmt.region
            [SOper.mk (some 40) none (SOp.idx 2 (Operand.tmp 36) (Operand.tmp 38)),
              SOper.mk (some 41) none (SOp.load true 2 (Operand.tmp 40)),
              SOper.mk (some 15) none
                (SOp.alloc true 37 (Value.agg (Array.mk [Value.int IntKind.i64 0, Value.slice none 0 0]))),
              SOper.mk none none (SOp.store 2 (Operand.tmp 15) (Operand.tmp 41))]
            [2, 10, 12, 13, 15, 36, 37, 38])
          (Stmt.seq
            (Stmt.region
              [SOper.mk (some 42) none (SOp.mv (Operand.tmp 12)),
                SOper.mk (some 43) none (SOp.load true 2 (Operand.tmp 15)),
                SOper.mk (some 44) none
                  (SOp.buildS 37 1 [Value.int IntKind.i64 0, Value.slice none 0 0] [(0, 2, Operand.tmp 43)]),
                SOper.mk (some 45) none (SOp.call (Operand.tmp 42) [Operand.tmp 44])]
              [2, 10, 12, 13, 15, 36, 37, 38, 45])
            (Stmt.cond (Operand.tmp 45)
              (Stmt.seq
                (Stmt.region
                  [SOper.mk (some 46) none (SOp.mv (Operand.tmp 13)),
                    SOper.mk (some 47) none (SOp.load true 2 (Operand.tmp 15)),
                    SOper.mk (some 48) none
                      (SOp.buildS 37 1 [Value.int IntKind.i64 0, Value.slice none 0 0] [(0, 2, Operand.tmp 47)]),
                    SOper.mk (some 49) none (SOp.call (Operand.tmp 46) [Operand.tmp 48]),
                    SOper.mk (some 50) none (SOp.extract 0 (Operand.tmp 49)),
                    SOper.mk (some 51) none (SOp.extract 1 (Operand.tmp 49)),
                    SOper.mk none none (SOp.store 4 (Operand.tmp 10) (Operand.tmp 50)),
                    SOper.mk (some 11) none (SOp.mv (Operand.tmp 51))]
                  [10, 11])
                Stmt.ret)
              Stmt.skip))))
      (Stmt.region
        [SOper.mk (some 52) none (SOp.ibin BinOp.add (Operand.tmp 38) (Operand.const (Value.int IntKind.i64 1))),
          SOper.mk (some 38) none (SOp.mv (Operand.tmp 52))]
        [2, 10, 12, 13, 36, 37, 38])))
def S61_2 : Stmt :=
  Stmt.seq
  (Stmt.region [SOper.mk (some 66) none (SOp.ibin BinOp.lss (Operand.tmp 65) (Operand.tmp 64))]
    [2, 10, 12, 13, 17, 53, 54, 55, 63, 64, 65, 66])
  (Stmt.seq (Stmt.cond (Operand.tmp 66) Stmt.skip (Stmt.exit 4))
    (Stmt.seq
      (Stmt.block 5
        (Stmt.seq
          (Stmt.region
            [SOper.mk (some 67) none (SOp.idx 2 (Operand.tmp 63) (Operand.tmp 65)),
              SOper.mk (some 68) none (SOp.load true 2 (Operand.tmp 67)),
              SOper.mk (some 19) none
                (SOp.alloc true 37 (Value.agg (Array.mk [Value.int IntKind.i64 0, Value.slice none 0 0]))),
              SOper.mk none none (SOp.store 2 (Operand.tmp 19) (Operand.tmp 68))]
            [2, 10, 12, 13, 17, 19, 53, 54, 55, 63, 64, 65])
          (Stmt.seq
            (Stmt.region
              [SOper.mk (some 69) none (SOp.load true 2 (Operand.tmp 17)),
                SOper.mk (some 70) none (SOp.load true 2 (Operand.tmp 19)),
                SOper.mk (some 71) none
                  (SOp.buildS 37 2
                    [Value.int IntKind.i64 0, Value.slice none 0 0, Value.int IntKind.i64 0, Value.slice none 0 0]
                    [(0, 2, Operand.tmp 69), (2, 2, Operand.tmp 70)]),
                SOper.mk (some 20) none (SOp.mv (Operand.tmp 71))]
              [2, 10, 12, 13, 17, 20, 53, 54, 55, 63, 64, 65])
            (Stmt.seq
              (Stmt.region
                [SOper.mk (some 72) none (SOp.mv (Operand.tmp 12)), SOper.mk (some 73) none (SOp.mv (Operand.tmp 20)),
                  SOper.mk (some 74) none (SOp.call (Operand.tmp 72) [Operand.tmp 73])]
                [2, 10, 12, 13, 17, 20, 53, 54, 55, 63, 64, 65, 74])
              (Stmt.cond (Operand.tmp 74)
                (Stmt.seq
                  (Stmt.region
                    [SOper.mk (some 75) none (SOp.mv (Operand.tmp 13)),
                      SOper.mk (some 76) none (SOp.mv (Operand.tmp 20)),
                      SOper.mk (some 77) none (SOp.call (Operand.tmp 75) [Operand.tmp 76]),
                      SOper.mk (some 78) none (SOp.extract 0 (Operand.tmp 77)),
                      SOper.mk (some 79) none (SOp.extract 1 (Operand.tmp 77)),
                      SOper.mk none none (SOp.store 4 (Operand.tmp 10) (Operand.tmp 78)),
                      SOper.mk (some 11) none (SOp.mv (Operand.tmp 79))]
                    [10, 11])
                  Stmt.ret)
                Stmt.skip)))))
      (Stmt.region
        [SOper.mk (some 80) none (SOp.ibin BinOp.add (Operand.tmp 65) (Operand.const (Value.int IntKind.i64 1))),
          SOper.mk (some 65) none (SOp.mv (Operand.tmp 80))]
        [2, 10, 12, 13, 17, 53, 54, 55, 63, 64, 65])))
def S61_3 : Stmt :=
  Stmt.seq
  (Stmt.region [SOper.mk (some 56) none (SOp.ibin BinOp.lss (Operand.tmp 55) (Operand.tmp 54))]
    [2, 10, 12, 13, 53, 54, 55, 56])
  (Stmt.seq (Stmt.cond (Operand.tmp 56) Stmt.skip (Stmt.exit 2))
    (Stmt.seq
      (Stmt.block 3
        (Stmt.seq
          (Stmt.region
            [SOper.mk (some 57) none (SOp.mv (Operand.tmp 55)),
              SOper.mk (some 58) none (SOp.idx 2 (Operand.tmp 53) (Operand.tmp 55)),
              SOper.mk (some 59) none (SOp.load true 2 (Operand.tmp 58)),
              SOper.mk (some 17) none
                (SOp.alloc true 37 (Value.agg (Array.mk [Value.int IntKind.i64 0, Value.slice none 0 0]))),
              SOper.mk (some 16) none (SOp.mv (Operand.tmp 57)),
              SOper.mk none none (SOp.store 2 (Operand.tmp 17) (Operand.tmp 59))]
            [2, 10, 12, 13, 16, 17, 53, 54, 55])
          (Stmt.seq
            (Stmt.region
              [SOper.mk (some 60) none (SOp.mv (Operand.tmp 2)), SOper.mk (some 61) none (SOp.mv (Operand.tmp 16)),
                SOper.mk (some 62) none (SOp.ibin BinOp.add (Operand.tmp 61) (Operand.const (Value.int IntKind.i64 1))),
                SOper.mk (some 63) none (SOp.slc 2 (Operand.tmp 60) (some (Operand.tmp 62)) none none),
                SOper.mk (some 64) none (SOp.len false (Operand.tmp 63)),
                SOper.mk (some 65) none (SOp.mv (Operand.const (Value.int IntKind.i64 0)))]
              [2, 10, 12, 13, 17, 53, 54, 55, 63, 64, 65])
            (Stmt.block 4 (Stmt.loop S61_2 [10, 65] [2, 12, 13, 17, 53, 54, 55, 63, 64])))))
      (Stmt.region
        [SOper.mk (some 81) none (SOp.ibin BinOp.add (Operand.tmp 55) (Operand.const (Value.int IntKind.i64 1))),
          SOper.mk (some 55) none (SOp.mv (Operand.tmp 81))]
        [2, 10, 12, 13, 53, 54, 55])))
def S61_4 : Stmt :=
  Stmt.seq
  (Stmt.region [SOper.mk (some 107) none (SOp.ibin BinOp.lss (Operand.tmp 106) (Operand.tmp 105))]
    [2, 10, 12, 13, 21, 22, 24, 82, 83, 84, 92, 93, 94, 104, 105, 106, 107])
  (Stmt.seq (Stmt.cond (Operand.tmp 107) Stmt.skip (Stmt.exit 10))
    (Stmt.seq
      (Stmt.block 11
        (Stmt.seq
          (Stmt.region
            [SOper.mk (some 108) none (SOp.idx 2 (Operand.tmp 104) (Operand.tmp 106)),
              SOper.mk (some 109) none (SOp.load true 2 (Operand.tmp 108)),
              SOper.mk (some 26) none
                (SOp.alloc true 37 (Value.agg (Array.mk [Value.int IntKind.i64 0, Value.slice none 0 0]))),
              SOper.mk none none (SOp.store 2 (Operand.tmp 26) (Operand.tmp 109))]
            [2, 10, 12, 13, 21, 22, 24, 26, 82, 83, 84, 92, 93, 94, 104, 105, 106])
          (Stmt.seq
            (Stmt.region
              [SOper.mk (some 110) none (SOp.load true 2 (Operand.tmp 22)),
                SOper.mk (some 111) none (SOp.load true 2 (Operand.tmp 24)),
                SOper.mk (some 112) none (SOp.load true 2 (Operand.tmp 26)),
                SOper.mk (some 113) none
                  (SOp.buildS 37 3
                    [Value.int IntKind.i64 0, Value.slice none 0 0, Value.int IntKind.i64 0, Value.slice none 0 0,
                      Value.int IntKind.i64 0, Value.slice none 0 0]
                    [(0, 2, Operand.tmp 110), (2, 2, Operand.tmp 111), (4, 2, Operand.tmp 112)]),
                SOper.mk (some 27) none (SOp.mv (Operand.tmp 113))]
              [2, 10, 12, 13, 21, 22, 24, 27, 82, 83, 84, 92, 93, 94, 104, 105, 106])
            (Stmt.seq
              (Stmt.region
                [SOper.mk (some 114) none (SOp.mv (Operand.tmp 12)), SOper.mk (some 115) none (SOp.mv (Operand.tmp 27)),
                  SOper.mk (some 116) none (SOp.call (Operand.tmp 114) [Operand.tmp 115])]
                [2, 10, 12, 13, 21, 22, 24, 27, 82, 83, 84, 92, 93, 94, 104, 105, 106, 116])
              (Stmt.cond (Operand.tmp 116)
                (Stmt.seq
                  (Stmt.region
                    [SOper.mk (some 117) none (SOp.mv (Operand.tmp 13)),
                      SOper.mk (some 118) none (SOp.mv (Operand.tmp 27)),
                      SOper.mk (some 119) none (SOp.call (Operand.tmp 117) [Operand.tmp 118]),
                      SOper.mk (some 120) none (SOp.extract 0 (Operand.tmp 119)),
                      SOper.mk (some 121) none (SOp.extract 1 (Operand.tmp 119)),
                      SOper.mk none none (SOp.store 4 (Operand.tmp 10) (Operand.tmp 120)),
                      SOper.mk (some 11) none (SOp.mv (Operand.tmp 121))]
                    [10, 11])
                  Stmt.ret)
                Stmt.skip)))))
      (Stmt.region
        [SOper.mk (some 122) none (SOp.ibin BinOp.add (Operand.tmp 106) (Operand.const (Value.int IntKind.i64 1))),
          SOper.mk (some 106) none (SOp.mv (Operand.tmp 122))]
        [2, 10, 12, 13, 21, 22, 24, 82, 83, 84, 92, 93, 94, 104, 105, 106])))
def S61_5 : Stmt :=
  Stmt.seq
  (Stmt.region [SOper.mk (some 95) none (SOp.ibin BinOp.lss (Operand.tmp 94) (Operand.tmp 93))]
    [2, 10, 12, 13, 21, 22, 82, 83, 84, 92, 93, 94, 95])
  (Stmt.seq (Stmt.cond (Operand.tmp 95) Stmt.skip (Stmt.exit 8))
    (Stmt.seq
      (Stmt.block 9
        (Stmt.seq
          (Stmt.region
            [SOper.mk (some 96) none (SOp.mv (Operand.tmp 94)),
              SOper.mk (some 97) none (SOp.idx 2 (Operand.tmp 92) (Operand.tmp 94)),
              SOper.mk (some 98) none (SOp.load true 2 (Operand.tmp 97)),
              SOper.mk (some 24) none
                (SOp.alloc true 37 (Value.agg (Array.mk [Value.int IntKind.i64 0, Value.slice none 0 0]))),
              SOper.mk (some 23) none (SOp.mv (Operand.tmp 96)),
              SOper.mk none none (SOp.store 2 (Operand.tmp 24) (Operand.tmp 98))]
            [2, 10, 12, 13, 21, 22, 23, 24, 82, 83, 84, 92, 93, 94])
          (Stmt.seq
            (Stmt.region
              [SOper.mk (some 99) none (SOp.mv (Operand.tmp 2)), SOper.mk (some 100) none (SOp.mv (Operand.tmp 21)),
                SOper.mk (some 101) none (SOp.mv (Operand.tmp 23)),
                SOper.mk (some 102) none (SOp.ibin BinOp.add (Operand.tmp 100) (Operand.tmp 101)),
                SOper.mk (some 103) none
                  (SOp.ibin BinOp.add (Operand.tmp 102) (Operand.const (Value.int IntKind.i64 2))),
                SOper.mk (some 104) none (SOp.slc 2 (Operand.tmp 99) (some (Operand.tmp 103)) none none),
                SOper.mk (some 105) none (SOp.len false (Operand.tmp 104)),
                SOper.mk (some 106) none (SOp.mv (Operand.const (Value.int IntKind.i64 0)))]
              [2, 10, 12, 13, 21, 22, 24, 82, 83, 84, 92, 93, 94, 104, 105, 106])
            (Stmt.block 10 (Stmt.loop S61_4 [10, 106] [2, 12, 13, 21, 22, 24, 82, 83, 84, 92, 93, 94, 104, 105])))))
      (Stmt.region
        [SOper.mk (some 123) none (SOp.ibin BinOp.add (Operand.tmp 94) (Operand.const (Value.int IntKind.i64 1))),
          SOper.mk (some 94) none (SOp.mv (Operand.tmp 123))]
        [2, 10, 12, 13, 21, 22, 82, 83, 84, 92, 93, 94])))
def S61_6 : Stmt :=
  Stmt.seq
  (Stmt.region [SOper.mk (some 85) none (SOp.ibin BinOp.lss (Operand.tmp 84) (Operand.tmp 83))]
    [2, 10, 12, 13, 82, 83, 84, 85])
  (Stmt.seq (Stmt.cond (Operand.tmp 85) Stmt.skip (Stmt.exit 6))
    (Stmt.seq
      (Stmt.block 7
        (Stmt.seq
          (Stmt.region
            [SOper.mk (some 86) none (SOp.mv (Operand.tmp 84)),
              SOper.mk (some 87) none (SOp.idx 2 (Operand.tmp 82) (Operand.tmp 84)),
              SOper.mk (some 88) none (SOp.load true 2 (Operand.tmp 87)),
              SOper.mk (some 22) none
                (SOp.alloc true 37 (Value.agg (Array.mk [Value.int IntKind.i64 0, Value.slice none 0 0]))),
              SOper.mk (some 21) none (SOp.mv (Operand.tmp 86)),
              SOper.mk none none (SOp.store 2 (Operand.tmp 22) (Operand.tmp 88))]
            [2, 10, 12, 13, 21, 22, 82, 83, 84])
          (Stmt.seq
            (Stmt.region
              [SOper.mk (some 89) none (SOp.mv (Operand.tmp 2)), SOper.mk (some 90) none (SOp.mv (Operand.tmp 21)),
                SOper.mk (some 91) none (SOp.ibin BinOp.add (Operand.tmp 90) (Operand.const (Value.int IntKind.i64 1))),
                SOper.mk (some 92) none (SOp.slc 2 (Operand.tmp 89) (some (Operand.tmp 91)) none none),
                SOper.mk (some 93) none (SOp.len false (Operand.tmp 92)),
                SOper.mk (some 94) none (SOp.mv (Operand.const (Value.int IntKind.i64 0)))]
              [2, 10, 12, 13, 21, 22, 82, 83, 84, 92, 93, 94])
            (Stmt.block 8 (Stmt.loop S61_5 [10, 94] [2, 12, 13, 21, 22, 82, 83, 84, 92, 93])))))
      (Stmt.region
        [SOper.mk (some 124) none (SOp.ibin BinOp.add (Operand.tmp 84) (Operand.const (Value.int IntKind.i64 1))),
          SOper.mk (some 84) none (SOp.mv (Operand.tmp 124))]
        [2, 10, 12, 13, 82, 83, 84])))
def S61_0 : Stmt :=
  Stmt.seq
  (Stmt.region
    [SOper.mk (some 5) none (SOp.box false 3 (Operand.tmp 0)), SOper.mk (some 6) none (SOp.box false 3 (Operand.tmp 1)),
      SOper.mk (some 8) none (SOp.box false 65 (Operand.tmp 3)),
      SOper.mk (some 9) none (SOp.box false 65 (Operand.tmp 4)),
      SOper.mk (some 10) none
        (SOp.alloc true 57
          (Value.agg
            (Array.mk
              [Value.int IntKind.i64 0, Value.int IntKind.i64 0, Value.int IntKind.i64 0, Value.slice none 0 0]))),
      SOper.mk (some 11) none (SOp.mv (Operand.const (Value.bool false)))]
    [2, 5, 6, 8, 9, 10])
  (Stmt.seq
    (Stmt.region
      [SOper.mk (some 28) none (SOp.mkFunc 133 [Operand.tmp 6, Operand.tmp 8, Operand.tmp 9]),
        SOper.mk (some 12) none (SOp.mv (Operand.tmp 28))]
      [2, 5, 6, 10, 12])
    (Stmt.seq
      (Stmt.region
        [SOper.mk (some 29) none (SOp.mkFunc 135 [Operand.tmp 5, Operand.tmp 6]),
          SOper.mk (some 13) none (SOp.mv (Operand.tmp 29))]
        [2, 10, 12, 13])
      (Stmt.seq
        (Stmt.seq
          (Stmt.region
            [SOper.mk (some 30) none (SOp.mv (Operand.tmp 12)),
              SOper.mk (some 31) none (SOp.call (Operand.tmp 30) [Operand.const (Value.slice none 0 0)])]
            [2, 10, 12, 13, 31])
          (Stmt.cond (Operand.tmp 31)
            (Stmt.seq
              (Stmt.region
                [SOper.mk (some 32) none (SOp.mv (Operand.tmp 13)),
                  SOper.mk (some 33) none (SOp.call (Operand.tmp 32) [Operand.const (Value.slice none 0 0)]),
                  SOper.mk (some 34) none (SOp.extract 0 (Operand.tmp 33)),
                  SOper.mk (some 35) none (SOp.extract 1 (Operand.tmp 33)),
                  SOper.mk none none (SOp.store 4 (Operand.tmp 10) (Operand.tmp 34)),
                  SOper.mk (some 11) none (SOp.mv (Operand.tmp 35))]
                [10, 11])
              Stmt.ret)
            Stmt.skip))
        (Stmt.seq
          (Stmt.seq
            (Stmt.region
              [SOper.mk (some 36) none (SOp.mv (Operand.tmp 2)),
                SOper.mk (some 37) none (SOp.len false (Operand.tmp 36)),
                SOper.mk (some 38) none (SOp.mv (Operand.const (Value.int IntKind.i64 0)))]
              [2, 10, 12, 13, 36, 37, 38])
            (Stmt.block 0 (Stmt.loop S61_1 [10, 38] [2, 12, 13, 36, 37])))
          (Stmt.seq
            (Stmt.seq
              (Stmt.region
                [SOper.mk (some 53) none (SOp.mv (Operand.tmp 2)),
                  SOper.mk (some 54) none (SOp.len false (Operand.tmp 53)),
                  SOper.mk (some 55) none (SOp.mv (Operand.const (Value.int IntKind.i64 0)))]
                [2, 10, 12, 13, 53, 54, 55])
              (Stmt.block 2 (Stmt.loop S61_3 [10, 55] [2, 12, 13, 53, 54])))
            (Stmt.seq
              (Stmt.seq
                (Stmt.region
                  [SOper.mk (some 82) none (SOp.mv (Operand.tmp 2)),
                    SOper.mk (some 83) none (SOp.len false (Operand.tmp 82)),
                    SOper.mk (some 84) none (SOp.mv (Operand.const (Value.int IntKind.i64 0)))]
                  [2, 10, 12, 13, 82, 83, 84])
                (Stmt.block 6 (Stmt.loop S61_6 [10, 84] [2, 12, 13, 82, 83])))
              (Stmt.seq
                (Stmt.region
                  [SOper.mk (some 125) none
                      (SOp.build 57
                        [Value.int IntKind.i64 0, Value.int IntKind.i64 0, Value.int IntKind.i64 0,
                          Value.slice none 0 0]
                        []),
                    SOper.mk none none (SOp.store 4 (Operand.tmp 10) (Operand.tmp 125)),
                    SOper.mk (some 11) none (SOp.mv (Operand.const (Value.bool false)))]
                  [10, 11])
                Stmt.ret)))))))
def S61 : FnS := ⟨126, [(10, some (true, 4)), (11, none)], S61_0⟩
theorem tr61 : trFn Try.prog 61 [10, 15, 17, 19, 22, 24, 26] [[2, 5, 6, 8, 9, 10], [2, 5, 6, 10, 12], [2, 10, 12, 13], [2, 10, 12, 13, 31], [10, 11], [2, 10, 12, 13, 36, 37, 38], [10, 38], [2, 12, 13, 36, 37], [2, 10, 12, 13, 36, 37, 38, 39], [2, 10, 12, 13, 15, 36, 37, 38], [2, 10, 12, 13, 15, 36, 37, 38, 45], [10, 11], [2, 10, 12, 13, 36, 37, 38], [2, 10, 12, 13, 53, 54, 55], [10, 55], [2, 12, 13, 53, 54], [2, 10, 12, 13, 53, 54, 55, 56], [2, 10, 12, 13, 16, 17, 53, 54, 55], [2, 10, 12, 13, 17, 53, 54, 55, 63, 64, 65], [10, 65], [2, 12, 13, 17, 53, 54, 55, 63, 64], [2, 10, 12, 13, 17, 53, 54, 55, 63, 64, 65, 66], [2, 10, 12, 13, 17, 19, 53, 54, 55, 63, 64, 65], [2, 10, 12, 13, 17, 20, 53, 54, 55, 63, 64, 65], [2, 10, 12, 13, 17, 20, 53, 54, 55, 63, 64, 65, 74], [10, 11], [2, 10, 12, 13, 17, 53, 54, 55, 63, 64, 65], [2, 10, 12, 13, 53, 54, 55], [2, 10, 12, 13, 82, 83, 84], [10, 84], [2, 12, 13, 82, 83], [2, 10, 12, 13, 82, 83, 84, 85], [2, 10, 12, 13, 21, 22, 82, 83, 84], [2, 10, 12, 13, 21, 22, 82, 83, 84, 92, 93, 94], [10, 94], [2, 12, 13, 21, 22, 82, 83, 84, 92, 93], [2, 10, 12, 13, 21, 22, 82, 83, 84, 92, 93, 94, 95], [2, 10, 12, 13, 21, 22, 23, 24, 82, 83, 84, 92, 93, 94], [2, 10, 12, 13, 21, 22, 24, 82, 83, 84, 92, 93, 94, 104, 105, 106], [10, 106], [2, 12, 13, 21, 22, 24, 82, 83, 84, 92, 93, 94, 104, 105], [2, 10, 12, 13, 21, 22, 24, 82, 83, 84, 92, 93, 94, 104, 105, 106, 107], [2, 10, 12, 13, 21, 22, 24, 26, 82, 83, 84, 92, 93, 94, 104, 105, 106], [2, 10, 12, 13, 21, 22, 24, 27, 82, 83, 84, 92, 93, 94, 104, 105, 106], [2, 10, 12, 13, 21, 22, 24, 27, 82, 83, 84, 92, 93, 94, 104, 105, 106, 116], [10, 11], [2, 10, 12, 13, 21, 22, 24, 82, 83, 84, 92, 93, 94, 104, 105, 106], [2, 10, 12, 13, 21, 22, 82, 83, 84, 92, 93, 94], [2, 10, 12, 13, 82, 83, 84], [10, 11]] = some S61 := by kernel_rfl
end Go.Proofs.Ytniobbepliknmaa.V
/- The least grammar that agrees with examples, once more: parlref5.Guessed; no condition. -/
namespace Go.Proofs.Ytniobbepliknmaa.V
open Go
set_option linter.unusedVariables false
set_option linter.unusedSimpArgs false
attribute [local go_sem] e_seq e_region e_quiet e_join e_loop e_cond e_block e_exit e_ret e_skip e_fin e_kseq e_snrm e_sret e_sex e_bnrm e_bret e_bex e_rnrm e_rret e_res e_condC e_nil e_g e_mv g_mv e_pick g_pick pickC_eq e_ibin g_ibin ibinC_eq e_sbin g_sbin e_beq g_beq beqC_eq e_nilq g_nilq nilqC_sl nilqC_pt nilqC_mp e_un g_un unC_not unC_neg e_conv g_conv convC_eq e_fld g_fld fldC_ref fldC_ptr e_nilCheck g_nilCheck nilCheckC_ref nilCheckC_ptr nilCheckC_fun e_field g_field fieldC_eq e_len g_len lenC_sl lenC_str e_extract g_extract extractC_eq e_mkFunc e_build g_build e_idiv g_idiv idivC_eq e_ishift g_ishift ishiftC_eq e_idx g_idx e_idxA g_idxA e_load g_load loadC_ref loadC_ptr loadB_eq e_slc g_slc e_box boxC_loc boxC_esc e_alloc allocC_loc allocC_esc e_buildS e_store storeC_ref storeC_ptr storeB_eq e_append e_appz e_mk mkC_eq e_call callC_eq e_fn g_fn fnC_eq fnV_min' fnV_max' fnV_rune' e_q g_q e_a e_n g_call g_box g_alloc g_buildS g_store g_append g_mk g_a g_n g_dead e_dead e_callK e_drawn e_tree e_finJ e_tk e_tfin e_tno e_nbt_q e_nbt_qn e_nbt_a e_nbt_an e_nbt_fin e_early_nil e_early_t e_early_f e_nob_nil e_nob_none e_nob_some isBox_dead isBox_v isBox_ref e_dnil e_dk e_ek e_finB vcOps_vc1 e_dcons e_tq e_ekt e_tearly e_talt e_dearly look_nil look_c proj_nil proj_c looks_nil looks_c zip_nil zip_c val_tmp val_const val_func slv_v slv_box slv_ref slot_tmp slot_const slot_func slotL_v slotL_box slotL_ref put_some put_none updBox_c boxSet_box gd_eq slotVals_nil slotVals_c slotVals_b boxV_box boxOn_box slotsOn_nil slotsOn_c slotsOn_b resV_one resV_two vals_nil vals_c allOn_nil allOn_c partOn_nil partOn_c partVals_nil partVals_c fits_nil fits_c fillL_nil fillL_c mkv_one mkv_agg cellsV_agg cellsV_int cellsV_bool cellsV_slice cellsV_string cellsV_pointer cellsV_func cellsV_nilf cellsV_map one'_nil one'_c oc_int oc_bool oc_slice oc_string oc_pointer oc_func oc_nilf oc_map setC_eq iv_add iv_sub iv_mul iv_eql iv_neq iv_lss iv_leq iv_gtr iv_geq iok_add iok_sub iok_mul iok_eql iok_neq iok_lss iok_leq iok_gtr iok_geq pickV_bool args0_nil args0_c bnd_none bnd_some imp_bt imp_bf imp_ebt imp_ebf imp_eb1 imp_np imp_pp beq_tt beq_tf beq_ft beq_ff cond_or cond_and e_round e_meet Int.le_refl Int.toNat_zero decide_true decide_false Bool.or_false Bool.false_or Bool.true_or Bool.or_true Bool.and_false Bool.false_and Bool.bne_false Bool.bne_true beq_iff_eq Int.cast_ofNat_Int not_false_eq_true not_true_eq_false false_and and_false false_implies true_implies true_and and_true Bool.true_and Bool.and_true Bool.not_true Bool.not_false forall_const implies_true List.take_zero List.drop_zero List.take_succ_cons List.drop_succ_cons List.take_nil List.drop_nil List.length_cons List.length_nil List.nil_append List.append_nil List.cons_append Int.toNat_natCast decide_eq_true_eq decide_eq_false_iff_not cond_true cond_false and_self List.getElem?_cons_zero List.getElem?_cons_succ List.set_cons_zero List.set_cons_succ Option.some.injEq exists_eq_left' Nat.zero_add Nat.add_zero Nat.mul_one imp_self true_or or_true or_false false_or Bool.or_eq_true Bool.or_eq_false_iff Bool.and_eq_true Bool.and_eq_false_iff Bool.not_eq_true' Bool.not_eq_false'

theorem ltL_cons {x y : Int} {c d : List Int} : LtL (x :: c) (y :: d) ↔ x < y ∨ (x = y ∧ LtL c d) := by
  constructor
  · rintro ⟨p, a, b, h1, h2, h3, h4⟩
    cases p with
    | zero =>
      simp only [List.getElem?_cons_zero, Option.some.injEq] at h2 h3
      subst h2 h3
      exact .inl h4
    | succ p =>
      have h0 := h1 0 (by omega)
      simp only [List.getElem?_cons_zero, Option.some.injEq] at h0
      exact .inr ⟨h0, p, a, b, fun r hr => by simpa using h1 (r + 1) (by omega), by simpa using h2, by simpa using h3, h4⟩
  · rintro (h | ⟨rfl, p, a, b, h1, h2, h3, h4⟩)
    · exact ⟨0, x, y, fun r hr => by omega, rfl, rfl, h⟩
    · exact ⟨p + 1, a, b, fun r hr => by cases r with | zero => rfl | succ r => simpa using h1 r (by omega), by simpa using h2, by simpa using h3, h4⟩
theorem ltL_nil {d : List Int} : ¬ LtL [] d := by rintro ⟨p, x, y, _, h, _⟩; simp at h
theorem val_cons {n : Nat} {x y : Int} {r : List Int} : Val n (x :: y :: r) ↔ (0 ≤ x ∧ x < y) ∧ Val n (y :: r) := by
  constructor
  · rintro ⟨h1, h2⟩
    exact ⟨⟨(h1 x (by simp)).1, h2 0 x y rfl rfl⟩, fun z hz => h1 z (List.mem_cons_of_mem _ hz), fun p a b q1 q2 => h2 (p + 1) a b (by simpa using q1) (by simpa using q2)⟩
  · rintro ⟨⟨h1, h2⟩, h3, h4⟩
    refine ⟨fun z hz => ?_, fun p a b q1 q2 => ?_⟩
    · rcases List.mem_cons.1 hz with rfl | hz
      · have := h3 y (by simp); omega
      · exact h3 z hz
    · cases p with
      | zero =>
        simp at q1 q2
        subst q1 q2
        exact h2
      | succ p => exact h4 p a b (by simpa using q1) (by simpa using q2)
theorem val_one {n : Nat} {x : Int} : Val n [x] ↔ 0 ≤ x ∧ x < n := by
  constructor
  · exact fun h => h.1 x (by simp)
  · intro h
    refine ⟨fun z hz => by simp at hz; subst hz; exact h, fun p a b q1 q2 => by simp at q2⟩
theorem val_nil {n : Nat} : Val n [] := ⟨by simp, fun p a b q1 => by simp at q1⟩
theorem lit_rep3 {α : Type} [Rep α] {L : Mem} {b : Nat} {T : TypeId} {cs ds es fs : List Value} (x y z : α) (hb : L b (.cells fs.toArray T (0, 0))) (he : fs = cs ++ (ds ++ es)) (hx : Rep.ok L x cs) (hy : Rep.ok L y ds) (hz : Rep.ok L z es) : SlOk L (some ⟨b, 0, none⟩) 3 [x, y, z] := by
  subst he
  have h1 := Rep.len hx
  have h2 := Rep.len hy
  have h3 := Rep.len hz
  refine ⟨by simp, by simp [maxLen], by simp, .inr ⟨b, 0, _, T, _, rfl, hb, fun i w hi => ?_⟩⟩
  match i, hi with
  | 0, hi => simp at hi; subst hi; exact ⟨cs, hx, fun j hj => by simp; rw [List.getElem?_append_left (by omega)]⟩
  | 1, hi => simp at hi; subst hi; exact ⟨ds, hy, fun j hj => by simp; rw [List.getElem?_append_right (by omega), List.getElem?_append_left (by omega)]; congr 1; omega⟩
  | 2, hi => simp at hi; subst hi; exact ⟨es, hz, fun j hj => by simp; rw [List.getElem?_append_right (by omega), List.getElem?_append_right (by omega)]; congr 1; omega⟩
  | i + 3, hi => simp at hi
def GuessedS (t n : Int) (R : List Ru) (yes no : List (List Int)) (Γr : Ctx) (v : Value) (Γ : Ctx) : Prop :=
  ((∀ c, Val R.length c → c.length ≤ 3 → ¬ Agr yes no (subR R c)) ∧ Γ = [] ∧ v = .tuple #[zeroG, .bool false]) ∨
  (∃ A d c, LeastAt R.length 3 (fun c => Agr yes no (subR R c)) c ∧ SlOk (lk (Γ ++ Γr)) A d (subR R c) ∧ v = .tuple #[.agg #[.int .i64 t, .int .i64 n, .int .i64 0, .slice A c.length d], .bool true])
set_option maxHeartbeats 8000000 in
theorem ref_guessed {Γr : Ctx} {t n : Int} {Y Z A : Option Addr} {c d e : Nat} {R : List Ru} {yes no : List (List Int)} (hx : SlOk (lk Γr) A c R) (hy : SlOk (lk Γr) Y d yes) (hn : SlOk (lk Γr) Z e no) (htn : 1 ≤ t ∧ t ≤ 2 ∧ 1 ≤ n ∧ n ≤ 2) (hRR : R = rulesF t.toNat n.toNat)
    (hfew : ∀ l : List Ru, (∀ r ∈ l, r ∈ R) → ¬ ManyW l 5 200) (hyl : ∀ w ∈ yes, w.length ≤ 5 ∧ ∀ x ∈ w, 0 ≤ x ∧ x < 256) (hnl : ∀ w ∈ no, w.length ≤ 5 ∧ ∀ x ∈ w, 0 ≤ x ∧ x < 256) :
    Ret Try.prog 61 [.int .i64 t, .int .i64 n, .slice A R.length c, .slice Y yes.length d, .slice Z no.length e] Γr [] (GuessedS t n R yes no Γr) := by
  generalize hR : GuessedS t n R yes no Γr = Q
  refine ret_of_vc tr61 (Nat.le_of_ble_eq_true rfl) ?_
  have hlen : R.length ≤ 42 := by rw [hRR]; exact rulesF_len (by omega) (by omega)
  simp -implicitDefEqProofs only [S61, S61_0, go_sem, Nat.reduceBEq, Nat.reduceAdd, Nat.reduceSub, Nat.reduceMul, Nat.reduceLeDiff, reduceCtorEq, ↓reduceIte, Int.reduceLT, Int.reduceLE, Int.reduceEq, Int.reduceNe]
  intro b5 b6 b8 b9
  have hb9 : (one b9 (.cells [Value.slice Z no.length e].toArray 65 (0, 0))) b9 = some (.cells [Value.slice Z no.length e].toArray 65 (0, 0)) := one_self _ _
  have hb8 : (one b8 (.cells [Value.slice Y yes.length d].toArray 65 (0, 0))) b8 = some (.cells [Value.slice Y yes.length d].toArray 65 (0, 0)) := one_self _ _
  have hb6 : (one b6 (.cells [Value.int .i64 n].toArray 3 (0, 0))) b6 = some (.cells [Value.int .i64 n].toArray 3 (0, 0)) := one_self _ _
  have hb5 : (one b5 (.cells [Value.int .i64 t].toArray 3 (0, 0))) b5 = some (.cells [Value.int .i64 t].toArray 3 (0, 0)) := one_self _ _
  generalize one b9 _ = h9 at *
  generalize one b8 _ = h8 at *
  generalize one b6 _ = h6 at *
  generalize one b5 _ = h5 at *
  intro b10
  have hN : ((n.toNat : Nat) : Int) = n := by omega
  have hfit : ∀ (Γ : Ctx) (B : Option Addr) (f : Nat) (l : List Ru), (∀ h ∈ [h9, h8, h6, h5], h ∈ Γ) → Mem.le (lk Γr) (lk Γ) → SlOk (lk Γ) B f l → (∀ r ∈ l, r ∈ R) → l.length ≤ 3 → Ret Try.prog 133 [.slice B l.length f, .pointer (some ⟨b6, 0, none⟩), .pointer (some ⟨b8, 0, none⟩), .pointer (some ⟨b9, 0, none⟩)] Γ [] (fun v Γ => Γ = [] ∧ ∃ q : Bool, v = .bool q ∧ (q = true ↔ Agr yes no l)) := by
    intro Γ B f l hΓ hle hs hm hl
    have hl2 : ∀ r ∈ l, r ∈ rulesF t.toNat n.toNat := fun r hr => hRR ▸ hm r hr
    refine ref_fits (N := n.toNat) (T1 := 3) (T2 := 65) (T3 := 65) ⟨h6, hΓ _ (by simp), by rw [hN]; exact hb6⟩ ⟨h8, hΓ _ (by simp), hb8⟩ ⟨h9, hΓ _ (by simp), hb9⟩ hs (hy.mono hle) (hn.mono hle) ?_ (by omega) (hfew l hm) hyl hnl
    refine ⟨by omega, fun r hr => ?_, fun r hr => ?_, fun r hr s hs => ?_⟩
    · exact (rulesF_mem (hl2 r hr)).1
    · have := (rulesF_mem (hl2 r hr)).2.1; omega
    · have := (rulesF_mem (hl2 r hr)).2.2 s hs
      exact ⟨this.1, fun q => by have := this.2.1 q; omega, fun q => this.2.2 q⟩
  have hmk : ∀ (Γ : Ctx) (B : Option Addr) (f : Nat) (l : List Ru), (∀ h ∈ [h9, h8, h6, h5], h ∈ Γ) → SlOk (lk Γ) B f l → l.length ≤ 3 → Ret Try.prog 135 [.slice B l.length f, .pointer (some ⟨b5, 0, none⟩), .pointer (some ⟨b6, 0, none⟩)] Γ [] (fun v Γ' => ∃ g B d, Γ' = [g] ∧ SlOk (lk (g :: Γ)) B d l ∧ v = .tuple #[.agg #[.int .i64 t, .int .i64 n, .int .i64 0, .slice B l.length d], .bool true]) := by
    intro Γ B f l hΓ hs hl
    exact ref_make (T1 := 3) (T2 := 3) ⟨h5, hΓ _ (by simp), hb5⟩ ⟨h6, hΓ _ (by simp), hb6⟩ hs (by omega)
  have hget : ∀ x : Int, 0 ≤ x → (h : x.toNat < R.length) → R.getD x.toNat ⟨0, []⟩ = R[x.toNat] := fun x _ h => by simp [List.getD, h]
  refine CallVC.read (hfit _ _ _ [] (by simp) (lk_r _ _) SlOk.nil (by simp) (by simp)) ?_
  rintro v Γ' ⟨rfl, q0, rfl, hq0⟩
  cases q0 with
  | true =>
    simp -implicitDefEqProofs only [go_sem, Nat.reduceBEq, Nat.reduceAdd, Nat.reduceSub, Nat.reduceMul, Nat.reduceLeDiff, reduceCtorEq, ↓reduceIte, Int.reduceLT, Int.reduceLE, Int.reduceEq, Int.reduceNe]
    refine CallVC.read (hmk _ _ _ [] (by simp) SlOk.nil (by simp)) ?_
    rintro v Γ' ⟨g, B, f, rfl, hs, rfl⟩
    simp -implicitDefEqProofs only [go_sem, Nat.reduceBEq, Nat.reduceAdd, Nat.reduceSub, Nat.reduceMul, Nat.reduceLeDiff, reduceCtorEq, ↓reduceIte, Int.reduceLT, Int.reduceLE, Int.reduceEq, Int.reduceNe]
    refine Up.here ?_
    subst hR
    exact .inr ⟨B, f, [], ⟨val_nil, by simp, hq0.1 rfl, fun d _ h => by simp at h, fun d _ hl h => by
      have : d = [] := List.eq_nil_of_length_eq_zero (by simpa using hl)
      subst this
      exact absurd h ltL_nil⟩, hs, rfl⟩
  | false =>
  have hn0 : ¬ Agr yes no (subR R []) := fun h => by have := hq0.2 h; cases this
  clear hq0
  simp -implicitDefEqProofs only [go_sem, Nat.reduceBEq, Nat.reduceAdd, Nat.reduceSub, Nat.reduceMul, Nat.reduceLeDiff, reduceCtorEq, ↓reduceIte, Int.reduceLT, Int.reduceLE, Int.reduceEq, Int.reduceNe]
  refine s_loop (fun f vs Γ => Γ = [h9, h8, h6, h5] ∧ ∃ k : Nat, vs = [.box b10 57 [.int .i64 0, .int .i64 0, .int .i64 0, .slice none 0 0], .v true (.int .i64 k)] ∧ k + f = R.length ∧ ∀ x : Int, 0 ≤ x → x < k → ¬ Agr yes no (subR R [x])) R.length (Up.here ⟨rfl, 0, rfl, by omega, fun x h0 h1 => by omega⟩) ?_
  rintro f vs Γ ⟨rfl, k, rfl, hkf, h1⟩
  simp -implicitDefEqProofs only [S61_1, go_sem, Nat.reduceBEq, Nat.reduceAdd, Nat.reduceSub, Nat.reduceMul, Nat.reduceLeDiff, reduceCtorEq, ↓reduceIte, Int.reduceLT, Int.reduceLE, Int.reduceEq, Int.reduceNe]
  refine ⟨fun hlt => ?_, fun hge => ?_⟩
  · have hk : k < R.length := by omega
    obtain ⟨b1, o1, hA1, A2, c2, hs2, hc1⟩ := hx.ru hk
    have hsub : subR R [(k : Int)] = [R[k]] := by simp [subR, List.getD, hk]
    have hmem := List.getElem_mem hk
    generalize R[k] = r at *
    refine s_idx hA1 (by omega) (by omega) ?_
    simp -implicitDefEqProofs only [go_sem, Nat.reduceBEq, Nat.reduceAdd, Nat.reduceSub, Nat.reduceMul, Nat.reduceLeDiff, reduceCtorEq, ↓reduceIte, Int.reduceLT, Int.reduceLE, Int.reduceEq, Int.reduceNe]
    refine s_ld0 (hc1 _ (lk_r _ _)) (by simp) (by simp) ?_
    simp -implicitDefEqProofs only [go_sem, Nat.reduceBEq, Nat.reduceAdd, Nat.reduceSub, Nat.reduceMul, Nat.reduceLeDiff, reduceCtorEq, ↓reduceIte, Int.reduceLT, Int.reduceLE, Int.reduceEq, Int.reduceNe]
    intro b11 b12
    have hlit : ∀ Γ, SlOk (lk (one b12 (.cells [Value.int .i64 r.l, .slice A2 r.r.length c2].toArray 37) :: (Γ ++ Γr))) (some ⟨b12, 0, none⟩) 1 [r] := fun Γ => lit_rep1 (cs := [Value.int .i64 r.l, .slice A2 r.r.length c2]) r lk_head ⟨_, _, rfl, hs2.mono (lk_sub fun x hx => by simp [hx])⟩
    refine CallVC.read (hfit _ _ _ [r] (by simp) (lk_r _ _) (hlit [h9, h8, h6, h5]) (by simpa using hmem) (by simp)) ?_
    rintro v Γ' ⟨rfl, q1, rfl, hq1⟩
    cases q1 with
    | true =>
      simp -implicitDefEqProofs only [go_sem, Nat.reduceBEq, Nat.reduceAdd, Nat.reduceSub, Nat.reduceMul, Nat.reduceLeDiff, reduceCtorEq, ↓reduceIte, Int.reduceLT, Int.reduceLE, Int.reduceEq, Int.reduceNe]
      intro b13
      have hlit2 : SlOk (lk (one b13 (.cells [Value.int .i64 r.l, .slice A2 r.r.length c2].toArray 37) :: ([one b12 (.cells [Value.int .i64 r.l, .slice A2 r.r.length c2].toArray 37), h9, h8, h6, h5] ++ Γr))) (some ⟨b13, 0, none⟩) 1 [r] := lit_rep1 (cs := [Value.int .i64 r.l, .slice A2 r.r.length c2]) r lk_head ⟨_, _, rfl, hs2.mono (lk_sub fun x hx => by simp [hx])⟩
      refine CallVC.read (hmk _ _ _ [r] (by simp) hlit2 (by simp)) ?_
      rintro v Γ' ⟨g, B, f, rfl, hs, rfl⟩
      simp -implicitDefEqProofs only [go_sem, Nat.reduceBEq, Nat.reduceAdd, Nat.reduceSub, Nat.reduceMul, Nat.reduceLeDiff, reduceCtorEq, ↓reduceIte, Int.reduceLT, Int.reduceLE, Int.reduceEq, Int.reduceNe]
      refine Up.here ?_
      subst hR
      refine .inr ⟨B, f, [(k : Int)], ⟨val_one.2 (by omega), by simp, by show Agr yes no (subR R [(k : Int)]); rw [hsub]; exact hq1.1 rfl, fun d _ h => ?_, fun d hd hl h => ?_⟩, by rw [hsub]; exact hs, rfl⟩
      · have : d = [] := List.eq_nil_of_length_eq_zero (by simpa using h)
        subst this
        exact hn0
      · match d, hl with
        | [x], _ =>
          have h2 := val_one.1 hd
          rcases ltL_cons.1 h with h3 | ⟨_, h3⟩
          · exact h1 x h2.1 h3
          · exact absurd h3 ltL_nil
    | false =>
      simp -implicitDefEqProofs only [go_sem, Nat.reduceBEq, Nat.reduceAdd, Nat.reduceSub, Nat.reduceMul, Nat.reduceLeDiff, reduceCtorEq, ↓reduceIte, Int.reduceLT, Int.reduceLE, Int.reduceEq, Int.reduceNe]
      simp (disch := omega) only [wrap_id]
      refine ⟨f - 1, by omega, Up.sel [[1], [2], [3], [4]] (by decide) fun _ _ => ⟨rfl, k + 1, rfl, by omega, fun x h2 h3 => ?_⟩⟩
      by_cases e : x = k
      · subst e
        rw [hsub]
        exact fun h => by have := hq1.2 h; cases this
      · exact h1 x h2 (by omega)
  have hk : k = R.length := by omega
  subst hk
  refine s_loop (fun f vs Γ => Γ = [h9, h8, h6, h5] ∧ ∃ k : Nat, vs = [.box b10 57 [.int .i64 0, .int .i64 0, .int .i64 0, .slice none 0 0], .v true (.int .i64 k)] ∧ k + f = R.length ∧ ∀ x y : Int, 0 ≤ x → x < k → x < y → y < R.length → ¬ Agr yes no (subR R [x, y])) R.length (Up.here ⟨rfl, 0, rfl, by omega, fun x y h0 h1 => by omega⟩) ?_
  rintro f vs Γ ⟨rfl, k, rfl, hkf, h2⟩
  simp -implicitDefEqProofs only [S61_3, go_sem, Nat.reduceBEq, Nat.reduceAdd, Nat.reduceSub, Nat.reduceMul, Nat.reduceLeDiff, reduceCtorEq, ↓reduceIte, Int.reduceLT, Int.reduceLE, Int.reduceEq, Int.reduceNe]
  refine ⟨fun hlt => ?_, fun hge => ?_⟩
  · have hk : k < R.length := by omega
    obtain ⟨b1, o1, hA1, A2, c2, hs2, hc1⟩ := hx.ru hk
    have hsub : R.getD (k : Int).toNat ⟨0, []⟩ = R[k] := by simp [List.getD, hk]
    have hmem := List.getElem_mem hk
    generalize R[k] = r at *
    refine s_idx hA1 (by omega) (by omega) ?_
    simp -implicitDefEqProofs only [go_sem, Nat.reduceBEq, Nat.reduceAdd, Nat.reduceSub, Nat.reduceMul, Nat.reduceLeDiff, reduceCtorEq, ↓reduceIte, Int.reduceLT, Int.reduceLE, Int.reduceEq, Int.reduceNe]
    refine s_ld0 (hc1 _ (lk_r _ _)) (by simp) (by simp) ?_
    simp -implicitDefEqProofs only [go_sem, Nat.reduceBEq, Nat.reduceAdd, Nat.reduceSub, Nat.reduceMul, Nat.reduceLeDiff, reduceCtorEq, ↓reduceIte, Int.reduceLT, Int.reduceLE, Int.reduceEq, Int.reduceNe]
    intro b11
    simp (disch := omega) only [wrap_id]
    refine s_lo (k + 1) (by simp only [go_sem, Nat.reduceBEq, Nat.reduceAdd, Nat.reduceSub, Nat.reduceMul, Nat.reduceLeDiff, reduceCtorEq, ↓reduceIte, Int.reduceLT, Int.reduceLE, Int.reduceEq, Int.reduceNe]; exact ⟨_, rfl⟩) (by omega) hx.cap ?_
    intro A' hA'
    have hxd := hx.drop (l := k + 1) (by omega)
    rw [show Rep.sz Ru = 2 from rfl, ← hA'] at hxd
    have hdl : (R.drop (k + 1)).length = R.length - (k + 1) := List.length_drop
    simp -implicitDefEqProofs only [go_sem, Nat.reduceBEq, Nat.reduceAdd, Nat.reduceSub, Nat.reduceMul, Nat.reduceLeDiff, reduceCtorEq, ↓reduceIte, Int.reduceLT, Int.reduceLE, Int.reduceEq, Int.reduceNe]
    refine s_loop (fun f vs Γ => Γ = [h9, h8, h6, h5] ∧ ∃ j : Nat, vs = [.box b10 57 [.int .i64 0, .int .i64 0, .int .i64 0, .slice none 0 0], .v true (.int .i64 j)] ∧ j + f = R.length - (k + 1) ∧ ∀ y : Int, k < y → y < k + 1 + j → ¬ Agr yes no (subR R [(k : Int), y])) (R.length - (k + 1)) (Up.here ⟨rfl, 0, rfl, by omega, fun y h0 h1 => by omega⟩) ?_
    rintro f2 vs Γ ⟨rfl, j, rfl, hjf, h3⟩
    simp -implicitDefEqProofs only [S61_2, go_sem, Nat.reduceBEq, Nat.reduceAdd, Nat.reduceSub, Nat.reduceMul, Nat.reduceLeDiff, reduceCtorEq, ↓reduceIte, Int.reduceLT, Int.reduceLE, Int.reduceEq, Int.reduceNe]
    refine ⟨fun hlt => ?_, fun hge => ?_⟩
    · have hj : j < (R.drop (k + 1)).length := by omega
      obtain ⟨b3, o3, hA3, A4, c4, hs4, hc3⟩ := hxd.ru hj
      have hel : (R.drop (k + 1))[j] = R[k + 1 + j]'(by omega) := by rw [List.getElem_drop]
      rw [hel] at hs4 hc3
      have hmem2 := List.getElem_mem (show k + 1 + j < R.length by omega)
      have hsub2 : R.getD ((k + 1 + j : Nat) : Int).toNat ⟨0, []⟩ = R[k + 1 + j]'(by omega) := by show R.getD (k + 1 + j) ⟨0, []⟩ = _; simp [List.getD, show k + 1 + j < R.length by omega]
      generalize R[k + 1 + j]'(by omega) = s at *
      have hss : subR R [(k : Int), ((k + 1 + j : Nat) : Int)] = [r, s] := by simp only [subR, List.map_cons, List.map_nil, hsub, hsub2]
      refine s_idx hA3 (by omega) (by omega) ?_
      simp -implicitDefEqProofs only [go_sem, Nat.reduceBEq, Nat.reduceAdd, Nat.reduceSub, Nat.reduceMul, Nat.reduceLeDiff, reduceCtorEq, ↓reduceIte, Int.reduceLT, Int.reduceLE, Int.reduceEq, Int.reduceNe]
      refine s_ld0 (hc3 _ (lk_r _ _)) (by simp) (by simp) ?_
      simp -implicitDefEqProofs only [go_sem, Nat.reduceBEq, Nat.reduceAdd, Nat.reduceSub, Nat.reduceMul, Nat.reduceLeDiff, reduceCtorEq, ↓reduceIte, Int.reduceLT, Int.reduceLE, Int.reduceEq, Int.reduceNe]
      intro b14
      have hlit : SlOk (lk (one b14 (.cells [Value.int .i64 r.l, .slice A2 r.r.length c2, Value.int .i64 s.l, .slice A4 s.r.length c4].toArray 37) :: ([h9, h8, h6, h5] ++ Γr))) (some ⟨b14, 0, none⟩) 2 [r, s] := lit_rep2 (cs := [Value.int .i64 r.l, .slice A2 r.r.length c2]) (ds := [Value.int .i64 s.l, .slice A4 s.r.length c4]) r s lk_head rfl ⟨_, _, rfl, hs2.mono (lk_sub fun x hx => by simp [hx])⟩ ⟨_, _, rfl, hs4.mono (lk_sub fun x hx => by simp [hx])⟩
      refine CallVC.read (hfit _ _ _ [r, s] (by simp) (lk_r _ _) hlit (by simpa using ⟨hmem, hmem2⟩) (by simp)) ?_
      rintro v Γ' ⟨rfl, q1, rfl, hq1⟩
      cases q1 with
      | true =>
        simp -implicitDefEqProofs only [go_sem, Nat.reduceBEq, Nat.reduceAdd, Nat.reduceSub, Nat.reduceMul, Nat.reduceLeDiff, reduceCtorEq, ↓reduceIte, Int.reduceLT, Int.reduceLE, Int.reduceEq, Int.reduceNe]
        refine CallVC.read (hmk _ _ _ [r, s] (by simp) hlit (by simp)) ?_
        rintro v Γ' ⟨g, B, f, rfl, hs, rfl⟩
        simp -implicitDefEqProofs only [go_sem, Nat.reduceBEq, Nat.reduceAdd, Nat.reduceSub, Nat.reduceMul, Nat.reduceLeDiff, reduceCtorEq, ↓reduceIte, Int.reduceLT, Int.reduceLE, Int.reduceEq, Int.reduceNe]
        refine Up.here ?_
        subst hR
        refine .inr ⟨B, f, [(k : Int), ((k + 1 + j : Nat) : Int)], ⟨val_cons.2 ⟨by omega, val_one.2 (by omega)⟩, by simp, by show Agr yes no (subR R _); rw [hss]; exact hq1.1 rfl, fun d hd h => ?_, fun d hd hl h => ?_⟩, by rw [hss]; exact hs, rfl⟩
        · match d, h with
          | [], _ => exact hn0
          | [x], _ => exact h1 x (val_one.1 hd).1 (val_one.1 hd).2
        · match d, hl with
          | [x, y], _ =>
            obtain ⟨v1, v2⟩ := val_cons.1 hd
            have v3 := val_one.1 v2
            rcases ltL_cons.1 h with h4 | ⟨h5, h4⟩
            · exact h2 x y v1.1 h4 v1.2 v3.2
            · subst h5
              rcases ltL_cons.1 h4 with h5 | ⟨_, h5⟩
              · exact h3 y v1.2 (by omega)
              · exact absurd h5 ltL_nil
      | false =>
        simp -implicitDefEqProofs only [go_sem, Nat.reduceBEq, Nat.reduceAdd, Nat.reduceSub, Nat.reduceMul, Nat.reduceLeDiff, reduceCtorEq, ↓reduceIte, Int.reduceLT, Int.reduceLE, Int.reduceEq, Int.reduceNe]
        simp (disch := omega) only [wrap_id]
        refine ⟨f2 - 1, by omega, Up.sel [[1], [2], [3], [4]] (by decide) fun _ _ => ⟨rfl, j + 1, rfl, by omega, fun y h4 h5 => ?_⟩⟩
        by_cases e : y = ((k + 1 + j : Nat) : Int)
        · subst e
          rw [hss]
          exact fun h => by have := hq1.2 h; cases this
        · exact h3 y h4 (by omega)
    · simp (disch := omega) only [wrap_id]
      refine ⟨f - 1, by omega, Up.here ⟨rfl, k + 1, rfl, by omega, fun x y v1 v2 v3 v4 => ?_⟩⟩
      by_cases e : x = k
      · subst e
        exact h3 y v3 (by omega)
      · exact h2 x y v1 (by omega) v3 v4
  have hk : k = R.length := by omega
  subst hk
  refine s_loop (fun f vs Γ => Γ = [h9, h8, h6, h5] ∧ ∃ k : Nat, vs = [.box b10 57 [.int .i64 0, .int .i64 0, .int .i64 0, .slice none 0 0], .v true (.int .i64 k)] ∧ k + f = R.length ∧ ∀ x y z : Int, 0 ≤ x → x < k → x < y → y < z → z < R.length → ¬ Agr yes no (subR R [x, y, z])) R.length (Up.here ⟨rfl, 0, rfl, by omega, fun x y z h0 h1 => by omega⟩) ?_
  rintro f vs Γ ⟨rfl, k, rfl, hkf, h3⟩
  simp -implicitDefEqProofs only [S61_6, go_sem, Nat.reduceBEq, Nat.reduceAdd, Nat.reduceSub, Nat.reduceMul, Nat.reduceLeDiff, reduceCtorEq, ↓reduceIte, Int.reduceLT, Int.reduceLE, Int.reduceEq, Int.reduceNe]
  refine ⟨fun hlt => ?_, fun hge => ?_⟩
  · have hk : k < R.length := by omega
    obtain ⟨b1, o1, hA1, A2, c2, hs2, hc1⟩ := hx.ru hk
    have hsub : R.getD (k : Int).toNat ⟨0, []⟩ = R[k] := by simp [List.getD, hk]
    have hmem := List.getElem_mem hk
    generalize R[k] = r at *
    refine s_idx hA1 (by omega) (by omega) ?_
    simp -implicitDefEqProofs only [go_sem, Nat.reduceBEq, Nat.reduceAdd, Nat.reduceSub, Nat.reduceMul, Nat.reduceLeDiff, reduceCtorEq, ↓reduceIte, Int.reduceLT, Int.reduceLE, Int.reduceEq, Int.reduceNe]
    refine s_ld0 (hc1 _ (lk_r _ _)) (by simp) (by simp) ?_
    simp -implicitDefEqProofs only [go_sem, Nat.reduceBEq, Nat.reduceAdd, Nat.reduceSub, Nat.reduceMul, Nat.reduceLeDiff, reduceCtorEq, ↓reduceIte, Int.reduceLT, Int.reduceLE, Int.reduceEq, Int.reduceNe]
    intro b11
    simp (disch := omega) only [wrap_id]
    refine s_lo (k + 1) (by simp only [go_sem, Nat.reduceBEq, Nat.reduceAdd, Nat.reduceSub, Nat.reduceMul, Nat.reduceLeDiff, reduceCtorEq, ↓reduceIte, Int.reduceLT, Int.reduceLE, Int.reduceEq, Int.reduceNe]; exact ⟨_, rfl⟩) (by omega) hx.cap ?_
    intro A' hA'
    have hxd := hx.drop (l := k + 1) (by omega)
    rw [show Rep.sz Ru = 2 from rfl, ← hA'] at hxd
    have hdl : (R.drop (k + 1)).length = R.length - (k + 1) := List.length_drop
    simp -implicitDefEqProofs only [go_sem, Nat.reduceBEq, Nat.reduceAdd, Nat.reduceSub, Nat.reduceMul, Nat.reduceLeDiff, reduceCtorEq, ↓reduceIte, Int.reduceLT, Int.reduceLE, Int.reduceEq, Int.reduceNe]
    refine s_loop (fun f vs Γ => Γ = [h9, h8, h6, h5] ∧ ∃ j : Nat, vs = [.box b10 57 [.int .i64 0, .int .i64 0, .int .i64 0, .slice none 0 0], .v true (.int .i64 j)] ∧ j + f = R.length - (k + 1) ∧ ∀ y z : Int, k < y → y < k + 1 + j → y < z → z < R.length → ¬ Agr yes no (subR R [(k : Int), y, z])) (R.length - (k + 1)) (Up.here ⟨rfl, 0, rfl, by omega, fun y z h0 h1 => by omega⟩) ?_
    rintro f2 vs Γ ⟨rfl, j, rfl, hjf, h4⟩
    simp -implicitDefEqProofs only [S61_5, go_sem, Nat.reduceBEq, Nat.reduceAdd, Nat.reduceSub, Nat.reduceMul, Nat.reduceLeDiff, reduceCtorEq, ↓reduceIte, Int.reduceLT, Int.reduceLE, Int.reduceEq, Int.reduceNe]
    refine ⟨fun hlt => ?_, fun hge => ?_⟩
    · have hj : j < (R.drop (k + 1)).length := by omega
      obtain ⟨b3, o3, hA3, A4, c4, hs4, hc3⟩ := hxd.ru hj
      have hel : (R.drop (k + 1))[j] = R[k + 1 + j]'(by omega) := by rw [List.getElem_drop]
      rw [hel] at hs4 hc3
      have hmem2 := List.getElem_mem (show k + 1 + j < R.length by omega)
      have hsub2 : R.getD ((k + 1 + j : Nat) : Int).toNat ⟨0, []⟩ = R[k + 1 + j]'(by omega) := by show R.getD (k + 1 + j) ⟨0, []⟩ = _; simp [List.getD, show k + 1 + j < R.length by omega]
      generalize R[k + 1 + j]'(by omega) = s at *
      refine s_idx hA3 (by omega) (by omega) ?_
      simp -implicitDefEqProofs only [go_sem, Nat.reduceBEq, Nat.reduceAdd, Nat.reduceSub, Nat.reduceMul, Nat.reduceLeDiff, reduceCtorEq, ↓reduceIte, Int.reduceLT, Int.reduceLE, Int.reduceEq, Int.reduceNe]
      refine s_ld0 (hc3 _ (lk_r _ _)) (by simp) (by simp) ?_
      simp -implicitDefEqProofs only [go_sem, Nat.reduceBEq, Nat.reduceAdd, Nat.reduceSub, Nat.reduceMul, Nat.reduceLeDiff, reduceCtorEq, ↓reduceIte, Int.reduceLT, Int.reduceLE, Int.reduceEq, Int.reduceNe]
      intro b12
      simp (disch := omega) only [wrap_id]
      refine s_lo (k + j + 2) (by simp only [go_sem, Nat.reduceBEq, Nat.reduceAdd, Nat.reduceSub, Nat.reduceMul, Nat.reduceLeDiff, reduceCtorEq, ↓reduceIte, Int.reduceLT, Int.reduceLE, Int.reduceEq, Int.reduceNe]; exact ⟨_, rfl⟩) (by omega) hx.cap ?_
      intro A'' hA''
      have hxe := hx.drop (l := k + j + 2) (by omega)
      rw [show Rep.sz Ru = 2 from rfl, ← hA''] at hxe
      have hel2 : (R.drop (k + j + 2)).length = R.length - (k + j + 2) := List.length_drop
      simp -implicitDefEqProofs only [go_sem, Nat.reduceBEq, Nat.reduceAdd, Nat.reduceSub, Nat.reduceMul, Nat.reduceLeDiff, reduceCtorEq, ↓reduceIte, Int.reduceLT, Int.reduceLE, Int.reduceEq, Int.reduceNe]
      refine s_loop (fun f vs Γ => Γ = [h9, h8, h6, h5] ∧ ∃ m : Nat, vs = [.box b10 57 [.int .i64 0, .int .i64 0, .int .i64 0, .slice none 0 0], .v true (.int .i64 m)] ∧ m + f = R.length - (k + j + 2) ∧ ∀ z : Int, ((k + 1 + j : Nat) : Int) < z → z < k + j + 2 + m → ¬ Agr yes no (subR R [(k : Int), ((k + 1 + j : Nat) : Int), z])) (R.length - (k + j + 2)) (Up.here ⟨rfl, 0, rfl, by omega, fun z h0 h1 => by omega⟩) ?_
      rintro f3 vs Γ ⟨rfl, m, rfl, hmf, h5'⟩
      simp -implicitDefEqProofs only [S61_4, go_sem, Nat.reduceBEq, Nat.reduceAdd, Nat.reduceSub, Nat.reduceMul, Nat.reduceLeDiff, reduceCtorEq, ↓reduceIte, Int.reduceLT, Int.reduceLE, Int.reduceEq, Int.reduceNe]
      refine ⟨fun hlt => ?_, fun hge => ?_⟩
      · have hm : m < (R.drop (k + j + 2)).length := by omega
        obtain ⟨b6', o6, hA6, A6, c6, hs6, hc6⟩ := hxe.ru hm
        have hel3 : (R.drop (k + j + 2))[m] = R[k + j + 2 + m]'(by omega) := by rw [List.getElem_drop]
        rw [hel3] at hs6 hc6
        have hmem3 := List.getElem_mem (show k + j + 2 + m < R.length by omega)
        have hsub3 : R.getD ((k + j + 2 + m : Nat) : Int).toNat ⟨0, []⟩ = R[k + j + 2 + m]'(by omega) := by show R.getD (k + j + 2 + m) ⟨0, []⟩ = _; simp [List.getD, show k + j + 2 + m < R.length by omega]
        generalize R[k + j + 2 + m]'(by omega) = u at *
        have hss : subR R [(k : Int), ((k + 1 + j : Nat) : Int), ((k + j + 2 + m : Nat) : Int)] = [r, s, u] := by simp only [subR, List.map_cons, List.map_nil, hsub, hsub2, hsub3]
        refine s_idx hA6 (by omega) (by omega) ?_
        simp -implicitDefEqProofs only [go_sem, Nat.reduceBEq, Nat.reduceAdd, Nat.reduceSub, Nat.reduceMul, Nat.reduceLeDiff, reduceCtorEq, ↓reduceIte, Int.reduceLT, Int.reduceLE, Int.reduceEq, Int.reduceNe]
        refine s_ld0 (hc6 _ (lk_r _ _)) (by simp) (by simp) ?_
        simp -implicitDefEqProofs only [go_sem, Nat.reduceBEq, Nat.reduceAdd, Nat.reduceSub, Nat.reduceMul, Nat.reduceLeDiff, reduceCtorEq, ↓reduceIte, Int.reduceLT, Int.reduceLE, Int.reduceEq, Int.reduceNe]
        intro b14
        have hlit : SlOk (lk (one b14 (.cells [Value.int .i64 r.l, .slice A2 r.r.length c2, Value.int .i64 s.l, .slice A4 s.r.length c4, Value.int .i64 u.l, .slice A6 u.r.length c6].toArray 37) :: ([h9, h8, h6, h5] ++ Γr))) (some ⟨b14, 0, none⟩) 3 [r, s, u] := lit_rep3 (cs := [Value.int .i64 r.l, .slice A2 r.r.length c2]) (ds := [Value.int .i64 s.l, .slice A4 s.r.length c4]) (es := [Value.int .i64 u.l, .slice A6 u.r.length c6]) r s u lk_head rfl ⟨_, _, rfl, hs2.mono (lk_sub fun x hx => by simp [hx])⟩ ⟨_, _, rfl, hs4.mono (lk_sub fun x hx => by simp [hx])⟩ ⟨_, _, rfl, hs6.mono (lk_sub fun x hx => by simp [hx])⟩
        refine CallVC.read (hfit _ _ _ [r, s, u] (by simp) (lk_r _ _) hlit (by simpa using ⟨hmem, hmem2, hmem3⟩) (by simp)) ?_
        rintro v Γ' ⟨rfl, q1, rfl, hq1⟩
        cases q1 with
        | true =>
          simp -implicitDefEqProofs only [go_sem, Nat.reduceBEq, Nat.reduceAdd, Nat.reduceSub, Nat.reduceMul, Nat.reduceLeDiff, reduceCtorEq, ↓reduceIte, Int.reduceLT, Int.reduceLE, Int.reduceEq, Int.reduceNe]
          refine CallVC.read (hmk _ _ _ [r, s, u] (by simp) hlit (by simp)) ?_
          rintro v Γ' ⟨g, B, f, rfl, hs, rfl⟩
          simp -implicitDefEqProofs only [go_sem, Nat.reduceBEq, Nat.reduceAdd, Nat.reduceSub, Nat.reduceMul, Nat.reduceLeDiff, reduceCtorEq, ↓reduceIte, Int.reduceLT, Int.reduceLE, Int.reduceEq, Int.reduceNe]
          refine Up.here ?_
          subst hR
          refine .inr ⟨B, f, [(k : Int), ((k + 1 + j : Nat) : Int), ((k + j + 2 + m : Nat) : Int)], ⟨val_cons.2 ⟨by omega, val_cons.2 ⟨by omega, val_one.2 (by omega)⟩⟩, by simp, by show Agr yes no (subR R _); rw [hss]; exact hq1.1 rfl, fun d hd h => ?_, fun d hd hl h => ?_⟩, by rw [hss]; exact hs, rfl⟩
          · match d, h with
            | [], _ => exact hn0
            | [x], _ => exact h1 x (val_one.1 hd).1 (val_one.1 hd).2
            | [x, y], _ =>
              obtain ⟨v1, v2⟩ := val_cons.1 hd
              have v3 := val_one.1 v2
              exact h2 x y v1.1 (by omega) v1.2 v3.2
          · match d, hl with
            | [x, y, z], _ =>
              obtain ⟨v1, v2⟩ := val_cons.1 hd
              obtain ⟨v3, v4⟩ := val_cons.1 v2
              have v5 := val_one.1 v4
              rcases ltL_cons.1 h with w1 | ⟨e1, w1⟩
              · exact h3 x y z v1.1 w1 v1.2 v3.2 v5.2
              · subst e1
                rcases ltL_cons.1 w1 with w2 | ⟨e2, w2⟩
                · exact h4 y z v1.2 (by omega) v3.2 v5.2
                · subst e2
                  rcases ltL_cons.1 w2 with w3 | ⟨_, w3⟩
                  · exact h5' z v3.2 (by omega)
                  · exact absurd w3 ltL_nil
        | false =>
          simp -implicitDefEqProofs only [go_sem, Nat.reduceBEq, Nat.reduceAdd, Nat.reduceSub, Nat.reduceMul, Nat.reduceLeDiff, reduceCtorEq, ↓reduceIte, Int.reduceLT, Int.reduceLE, Int.reduceEq, Int.reduceNe]
          simp (disch := omega) only [wrap_id]
          refine ⟨f3 - 1, by omega, Up.sel [[1], [2], [3], [4]] (by decide) fun _ _ => ⟨rfl, m + 1, rfl, by omega, fun z w1 w2 => ?_⟩⟩
          by_cases e : z = ((k + j + 2 + m : Nat) : Int)
          · subst e
            rw [hss]
            exact fun h => by have := hq1.2 h; cases this
          · exact h5' z w1 (by omega)
      · simp (disch := omega) only [wrap_id]
        refine ⟨f2 - 1, by omega, Up.here ⟨rfl, j + 1, rfl, by omega, fun y z v1 v2 v3 v4 => ?_⟩⟩
        by_cases e : y = ((k + 1 + j : Nat) : Int)
        · subst e
          exact h5' z v3 (by omega)
        · exact h4 y z v1 (by omega) v3 v4
    · simp (disch := omega) only [wrap_id]
      refine ⟨f - 1, by omega, Up.here ⟨rfl, k + 1, rfl, by omega, fun x y z v1 v2 v3 v4 v5 => ?_⟩⟩
      by_cases e : x = k
      · subst e
        exact h4 y z v3 (by omega) v4 v5
      · exact h3 x y z v1 (by omega) v3 v4 v5
  have hk : k = R.length := by omega
  subst hk
  refine Up.to [] (Ent.nil _) ?_
  subst hR
  refine .inl ⟨fun d hd hl => ?_, rfl, rfl⟩
  match d, hl with
  | [], _ => exact hn0
  | [x], _ => exact h1 x (val_one.1 hd).1 (val_one.1 hd).2
  | [x, y], _ =>
    obtain ⟨v1, v2⟩ := val_cons.1 hd
    have v3 := val_one.1 v2
    exact h2 x y v1.1 (by omega) v1.2 v3.2
  | [x, y, z], _ =>
    obtain ⟨v1, v2⟩ := val_cons.1 hd
    obtain ⟨v3, v4⟩ := val_cons.1 v2
    have v5 := val_one.1 v4
    exact h3 x y z v1.1 (by omega) v1.2 v3.2 v5.2
end Go.Proofs.Ytniobbepliknmaa.V
