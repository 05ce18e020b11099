/- The law of parllaw5.TeachTells: it answers true; no condition. -/
import Derived.Test.YtniobbepliknmaaM5
import Derived.Test.YtniobbepliknmaaM6
namespace Go.Proofs.Ytniobbepliknmaa.V
open Go
set_option linter.unusedVariables false
set_option linter.unusedSimpArgs false
attribute [local go_sem] e_seq e_region e_quiet e_join e_loop e_cond e_block e_exit e_ret e_skip e_fin e_kseq e_snrm e_sret e_sex e_bnrm e_bret e_bex e_rnrm e_rret e_res e_condC e_nil e_g e_mv g_mv e_pick g_pick pickC_eq e_ibin g_ibin ibinC_eq e_sbin g_sbin e_beq g_beq beqC_eq e_nilq g_nilq nilqC_sl nilqC_pt nilqC_mp e_un g_un unC_not unC_neg e_conv g_conv convC_eq e_fld g_fld fldC_ref fldC_ptr e_nilCheck g_nilCheck nilCheckC_ref nilCheckC_ptr nilCheckC_fun e_field g_field fieldC_eq e_len g_len lenC_sl lenC_str e_extract g_extract extractC_eq e_mkFunc e_build g_build e_idiv g_idiv idivC_eq e_ishift g_ishift ishiftC_eq e_idx g_idx e_idxA g_idxA e_load g_load loadC_ref loadC_ptr loadB_eq e_slc g_slc e_box boxC_loc boxC_esc e_alloc allocC_loc allocC_esc e_buildS e_store storeC_ref storeC_ptr storeB_eq e_append e_appz e_mk mkC_eq e_call callC_eq e_fn g_fn fnC_eq fnV_min' fnV_max' fnV_rune' e_q g_q e_a e_n g_call g_box g_alloc g_buildS g_store g_append g_mk g_a g_n g_dead e_dead e_callK e_drawn e_tree e_finJ e_tk e_tfin e_tno e_nbt_q e_nbt_qn e_nbt_a e_nbt_an e_nbt_fin e_early_nil e_early_t e_early_f e_nob_nil e_nob_none e_nob_some isBox_dead isBox_v isBox_ref e_dnil e_dk e_ek e_finB vcOps_vc1 e_dcons e_tq e_ekt e_tearly e_talt e_dearly look_nil look_c proj_nil proj_c looks_nil looks_c zip_nil zip_c val_tmp val_const val_func slv_v slv_box slv_ref slot_tmp slot_const slot_func slotL_v slotL_box slotL_ref put_some put_none updBox_c boxSet_box gd_eq slotVals_nil slotVals_c slotVals_b boxV_box boxOn_box slotsOn_nil slotsOn_c slotsOn_b resV_one resV_two vals_nil vals_c allOn_nil allOn_c partOn_nil partOn_c partVals_nil partVals_c fits_nil fits_c fillL_nil fillL_c mkv_one mkv_agg cellsV_agg cellsV_int cellsV_bool cellsV_slice cellsV_string cellsV_pointer cellsV_func cellsV_nilf cellsV_map one'_nil one'_c oc_int oc_bool oc_slice oc_string oc_pointer oc_func oc_nilf oc_map setC_eq iv_add iv_sub iv_mul iv_eql iv_neq iv_lss iv_leq iv_gtr iv_geq iok_add iok_sub iok_mul iok_eql iok_neq iok_lss iok_leq iok_gtr iok_geq pickV_bool args0_nil args0_c bnd_none bnd_some imp_bt imp_bf imp_ebt imp_ebf imp_eb1 imp_np imp_pp beq_tt beq_tf beq_ft beq_ff cond_or cond_and e_round e_meet Int.le_refl Int.toNat_zero decide_true decide_false Bool.or_false Bool.false_or Bool.true_or Bool.or_true Bool.and_false Bool.false_and Bool.bne_false Bool.bne_true beq_iff_eq Int.cast_ofNat_Int not_false_eq_true not_true_eq_false false_and and_false false_implies true_implies true_and and_true Bool.true_and Bool.and_true Bool.not_true Bool.not_false forall_const implies_true List.take_zero List.drop_zero List.take_succ_cons List.drop_succ_cons List.take_nil List.drop_nil List.length_cons List.length_nil List.nil_append List.append_nil List.cons_append Int.toNat_natCast decide_eq_true_eq decide_eq_false_iff_not cond_true cond_false and_self List.getElem?_cons_zero List.getElem?_cons_succ List.set_cons_zero List.set_cons_succ Option.some.injEq exists_eq_left' Nat.zero_add Nat.add_zero Nat.mul_one imp_self true_or or_true or_false false_or Bool.or_eq_true Bool.or_eq_false_iff Bool.and_eq_true Bool.and_eq_false_iff Bool.not_eq_true' Bool.not_eq_false'

def endsA : Da := ⟨0, [-1, 0], [[1, 0], [1, 0]]⟩
theorem ends_ {Γr : Ctx} : Ret Try.prog 45 [] Γr [] (fun v Γ => ∃ g A c B e, Γ = [g] ∧ SlOk (lk [g]) A c endsA.ac ∧ SlOk (lk [g]) B e endsA.nx ∧ v = .agg #[.int .i64 0, .slice A 2 c, .slice B 2 e]) := by
  generalize hR : (fun (v : Value) (Γ : Ctx) => ∃ g A c B e, _) = R
  refine ret_of_vc tr45 (Nat.le_of_ble_eq_true rfl) ?_
  simp -implicitDefEqProofs only [S45, S45_0, go_sem, Nat.reduceBEq, Nat.reduceAdd, Nat.reduceSub, Nat.reduceMul, Nat.reduceLeDiff, reduceCtorEq, ↓reduceIte, Int.reduceLT, Int.reduceLE, Int.reduceEq, Int.reduceNe]
  intro b b1 b2 b3
  refine Up.one fun g hg => ?_
  subst hR
  refine ⟨g, _, 2, _, 2, rfl, lit_rep2 (cs := [.int .i64 (-1)]) (ds := [.int .i64 0]) (-1 : Int) (0 : Int) (hg _ _ (lk_tail (lk_tail (lk_tail lk_head)))) rfl rfl rfl, ?_, rfl⟩
  refine lit_rep2 (cs := [.slice (some ⟨b1, 0, none⟩) 2 2]) (ds := [.slice (some ⟨b2, 0, none⟩) 2 2]) _ _ (hg _ _ lk_head) rfl ⟨_, _, rfl, ?_⟩ ⟨_, _, rfl, ?_⟩
  · exact lit_rep2 (cs := [.int .i64 1]) (ds := [.int .i64 0]) (1 : Int) (0 : Int) (hg _ _ (lk_tail (lk_tail lk_head))) rfl rfl rfl
  · exact lit_rep2 (cs := [.int .i64 1]) (ds := [.int .i64 0]) (1 : Int) (0 : Int) (hg _ _ (lk_tail lk_head)) rfl rfl rfl
theorem bad_sym {Γr : Ctx} {b T : Nat} {d : Da} {A B : Option Addr} {c e : Nat} (hd : lk Γr b (.cells [.int .i64 d.st, .slice A d.ac.length c, .slice B d.nx.length e].toArray T (0, 0))) (hB : SlOk (lk Γr) B e d.nx) (hpos : 0 < d.nx.length) : PredOk Γr (.func (.func 49) #[] #[.pointer (some ⟨b, 0, none⟩)]) (fun x => decide (x < 0 ∨ (colsD d : Int) ≤ x)) := by
  refine ⟨49, _, _, rfl, fun Γ x hle => ?_⟩
  generalize hR : (fun (v : Value) (Γ : Ctx) => Γ = [] ∧ _) = R
  refine ret_of_vc tr49 (Nat.le_of_ble_eq_true rfl) ?_
  simp -implicitDefEqProofs only [S49, S49_0, go_sem, Nat.reduceBEq, Nat.reduceAdd, Nat.reduceSub, Nat.reduceMul, Nat.reduceLeDiff, reduceCtorEq, ↓reduceIte, Int.reduceLT, Int.reduceLE, Int.reduceEq, Int.reduceNe]
  obtain ⟨b1, o1, hB1, A1, c1, hr1, hc1⟩ := hB.list hpos
  rw [cols_at hpos] at hc1
  refine s_ldg (o := 0) (j := 2) (fun he => he) (fun _ => cells_lk (by simpa using hle _ _ hd)) (by simp) (by simp) ?_
  simp -implicitDefEqProofs only [go_sem, Nat.reduceBEq, Nat.reduceAdd, Nat.reduceSub, Nat.reduceMul, Nat.reduceLeDiff, reduceCtorEq, ↓reduceIte, Int.reduceLT, Int.reduceLE, Int.reduceEq, Int.reduceNe]
  refine s_idxg (fun he => ⟨by first | exact he | rfl | simp_all, by first | exact he | rfl | simp_all, hB1, by omega, by omega⟩) ?_
  simp -implicitDefEqProofs only [go_sem, Nat.reduceBEq, Nat.reduceAdd, Nat.reduceSub, Nat.reduceMul, Nat.reduceLeDiff, reduceCtorEq, ↓reduceIte, Int.reduceLT, Int.reduceLE, Int.reduceEq, Int.reduceNe]
  refine s_ldg0 (fun he => by first | exact he | rfl | simp_all) (fun _ => by simpa using hc1 Γ hle) (by simp) (by simp) ?_
  simp -implicitDefEqProofs only [go_sem, Nat.reduceBEq, Nat.reduceAdd, Nat.reduceSub, Nat.reduceMul, Nat.reduceLeDiff, reduceCtorEq, ↓reduceIte, Int.reduceLT, Int.reduceLE, Int.reduceEq, Int.reduceNe]
  refine Up.here ?_
  subst hR
  refine ⟨rfl, ?_⟩
  by_cases h : x < 0 <;> simp [h]
theorem bad_ok {d : Da} {w : List Int} : (w.any fun x => decide (x < 0 ∨ (colsD d : Int) ≤ x)) = true ↔ ¬ okW d w := by
  simp only [List.any_eq_true, decide_eq_true_eq, okW]
  constructor
  · rintro ⟨x, hx, h⟩ hs
    have := hs x hx
    omega
  · intro h
    apply Classical.byContradiction
    intro hn
    exact h fun x hx => by
      have : ¬ (x < 0 ∨ (colsD d : Int) ≤ x) := fun q => hn ⟨_, hx, q⟩
      omega
theorem law_teach {Γr : Ctx} {d h : Da} {ws : List (List Int)} {cs ds : List Value} {W : Option Addr} {cw : Nat} (hd : Rep.ok (lk Γr) d cs) (hh : Rep.ok (lk Γr) h ds) (hw : SlOk (lk Γr) W cw ws) :
    Ret Try.prog 9 [.agg cs.toArray, .agg ds.toArray, .slice W ws.length cw] Γr [] (fun v Γ => Γ = [] ∧ v = .bool true) := by
  obtain ⟨A, ca, B, cb, rfl, hA, hB⟩ := ok_da hd
  obtain ⟨C, cc, D, cd, rfl, hC, hD⟩ := ok_da hh
  generalize hR : (fun (v : Value) (Γ : Ctx) => Γ = [] ∧ v = Value.bool true) = R
  refine ret_of_vc tr9 (Nat.le_of_ble_eq_true rfl) ?_
  have hsw := hw.short
  simp -implicitDefEqProofs only [S9, S9_0, go_sem, Nat.reduceBEq, Nat.reduceAdd, Nat.reduceSub, Nat.reduceMul, Nat.reduceLeDiff, reduceCtorEq, ↓reduceIte, Int.reduceLT, Int.reduceLE, Int.reduceEq, Int.reduceNe]
  intro b bh
  have hbd : (one b (.cells [.int .i64 d.st, .slice A d.ac.length ca, .slice B d.nx.length cb].toArray 67 (0, 0))) b = some (.cells [.int .i64 d.st, .slice A d.ac.length ca, .slice B d.nx.length cb].toArray 67 (0, 0)) := one_self _ _
  generalize one b _ = g0 at *
  refine CallVC.read ends_ ?_
  rintro v Γ' ⟨gE, AE, cE, BE, eE, rfl, hAE, hBE, rfl⟩
  simp -implicitDefEqProofs only [go_sem, Nat.reduceBEq, Nat.reduceAdd, Nat.reduceSub, Nat.reduceMul, Nat.reduceLeDiff, reduceCtorEq, ↓reduceIte, Int.reduceLT, Int.reduceLE, Int.reduceEq, Int.reduceNe]
  refine CallVC.read (teach_new (d := endsA) (hAE.mono (lk_sub fun x hx => by simp at hx; simp [hx])) (hBE.mono (lk_sub fun x hx => by simp at hx; simp [hx]))) ?_
  have hE0 : dfF endsA = 0 := by decide
  rintro v Γ' (⟨hq, _⟩ | ⟨_, gp, gd, p, A2, c2, B2, e2, rfl, rfl, hT2, hA2, hB2⟩)
  · exact absurd hE0 hq
  simp -implicitDefEqProofs only [Option.isNone_some, go_sem, Nat.reduceBEq, Nat.reduceAdd, Nat.reduceSub, Nat.reduceMul, Nat.reduceLeDiff, reduceCtorEq, ↓reduceIte, Int.reduceLT, Int.reduceLE, Int.reduceEq, Int.reduceNe]
  refine CallVC.read (teach_symbols (Γr := gp :: gd :: gE :: g0 :: Γr) (d := endsA) (q := 0) ⟨gp, by simp, hT2⟩ (hB2.mono (lk_sub fun x hx => by simp at hx; simp [hx])) (by decide)) ?_
  rintro v Γ' ⟨rfl, rfl⟩
  have hcE : colsD endsA = 2 := by decide
  rw [hcE]
  simp -implicitDefEqProofs only [go_sem, Nat.reduceBEq, Nat.reduceAdd, Nat.reduceSub, Nat.reduceMul, Nat.reduceLeDiff, reduceCtorEq, ↓reduceIte, Int.reduceLT, Int.reduceLE, Int.reduceEq, Int.reduceNe]
  refine s_ld0 (cells_lk ⟨g0, by simp, hbd⟩) (by simp) (by simp) ?_
  simp -implicitDefEqProofs only [go_sem, Nat.reduceBEq, Nat.reduceAdd, Nat.reduceSub, Nat.reduceMul, Nat.reduceLeDiff, reduceCtorEq, ↓reduceIte, Int.reduceLT, Int.reduceLE, Int.reduceEq, Int.reduceNe]
  refine CallVC.read (teach_new (d := d) (hA.mono (lk_r _ _)) (hB.mono (lk_r _ _))) ?_
  rintro v Γ' (⟨hq, rfl, rfl⟩ | ⟨h0, gt, gdd, pt, A9, c9, B9, e9, rfl, rfl, hT, hA9, hB9⟩)
  · simp -implicitDefEqProofs only [go_sem, Nat.reduceBEq, Nat.reduceAdd, Nat.reduceSub, Nat.reduceMul, Nat.reduceLeDiff, reduceCtorEq, ↓reduceIte, Int.reduceLT, Int.reduceLE, Int.reduceEq, Int.reduceNe]
    refine s_ld0 (cells_lk ⟨g0, by simp, hbd⟩) (by simp) (by simp) ?_
    simp -implicitDefEqProofs only [go_sem, Nat.reduceBEq, Nat.reduceAdd, Nat.reduceSub, Nat.reduceMul, Nat.reduceLeDiff, reduceCtorEq, ↓reduceIte, Int.reduceLT, Int.reduceLE, Int.reduceEq, Int.reduceNe]
    refine CallVC.read (ref_dfa (d := d) (hA.mono (lk_r _ _)) (hB.mono (lk_r _ _))) ?_
    rintro v Γ' ⟨rfl, rfl⟩
    simp -implicitDefEqProofs only [Option.isNone_none, go_sem, Nat.reduceBEq, Nat.reduceAdd, Nat.reduceSub, Nat.reduceMul, Nat.reduceLeDiff, reduceCtorEq, ↓reduceIte, Int.reduceLT, Int.reduceLE, Int.reduceEq, Int.reduceNe]
    refine ⟨fun _ => Up.to [] (Ent.nil _) ?_, fun h => absurd h hq⟩
    subst hR
    simp
  have V := dfF_ok h0
  have hlen := V.len
  have hpos : 0 < d.nx.length := by omega
  obtain ⟨b1, o1, hB1, A1, c1, hr1, hc1⟩ := hB.list hpos
  rw [cols_at hpos] at hc1
  simp -implicitDefEqProofs only [go_sem, Nat.reduceBEq, Nat.reduceAdd, Nat.reduceSub, Nat.reduceMul, Nat.reduceLeDiff, reduceCtorEq, ↓reduceIte, Int.reduceLT, Int.reduceLE, Int.reduceEq, Int.reduceNe]
  refine s_ld0 (cells_lk ⟨g0, by simp, hbd⟩) (by simp) (by simp) ?_
  simp -implicitDefEqProofs only [go_sem, Nat.reduceBEq, Nat.reduceAdd, Nat.reduceSub, Nat.reduceMul, Nat.reduceLeDiff, reduceCtorEq, ↓reduceIte, Int.reduceLT, Int.reduceLE, Int.reduceEq, Int.reduceNe]
  refine CallVC.read (ref_dfa (d := d) (hA.mono (lk_r _ _)) (hB.mono (lk_r _ _))) ?_
  rintro v Γ' ⟨rfl, rfl⟩
  simp -implicitDefEqProofs only [Option.isNone_some, go_sem, Nat.reduceBEq, Nat.reduceAdd, Nat.reduceSub, Nat.reduceMul, Nat.reduceLeDiff, reduceCtorEq, ↓reduceIte, Int.reduceLT, Int.reduceLE, Int.reduceEq, Int.reduceNe]
  refine ⟨fun h => absurd h0 h, fun _ => ?_⟩
  refine s_drawn [] [gt, gdd, gp, gd, gE, g0] (Ent.refl _) ?_
  simp -implicitDefEqProofs only [Option.isNone_some, go_sem, Nat.reduceBEq, Nat.reduceAdd, Nat.reduceSub, Nat.reduceMul, Nat.reduceLeDiff, reduceCtorEq, ↓reduceIte, Int.reduceLT, Int.reduceLE, Int.reduceEq, Int.reduceNe]
  refine s_ld (o := 0) (j := 2) (cells_lk ⟨g0, by simp, hbd⟩) (by simp) (by simp) ?_
  simp -implicitDefEqProofs only [go_sem, Nat.reduceBEq, Nat.reduceAdd, Nat.reduceSub, Nat.reduceMul, Nat.reduceLeDiff, reduceCtorEq, ↓reduceIte, Int.reduceLT, Int.reduceLE, Int.reduceEq, Int.reduceNe]
  refine s_idx hB1 (by omega) (by omega) ?_
  simp -implicitDefEqProofs only [go_sem, Nat.reduceBEq, Nat.reduceAdd, Nat.reduceSub, Nat.reduceMul, Nat.reduceLeDiff, reduceCtorEq, ↓reduceIte, Int.reduceLT, Int.reduceLE, Int.reduceEq, Int.reduceNe]
  refine s_ld0 (by simpa using hc1 _ (lk_r [gt, gdd, gp, gd, gE, g0] _)) (by simp) (by simp) ?_
  simp -implicitDefEqProofs only [go_sem, Nat.reduceBEq, Nat.reduceAdd, Nat.reduceSub, Nat.reduceMul, Nat.reduceLeDiff, reduceCtorEq, ↓reduceIte, Int.reduceLT, Int.reduceLE, Int.reduceEq, Int.reduceNe]
  refine CallVC.read (teach_symbols (Γr := gt :: gdd :: gp :: gd :: gE :: g0 :: Γr) (d := d) (q := 0) ⟨gt, by simp, hT⟩ (hB9.mono (lk_sub fun x hx => by simp at hx; simp [hx])) hpos) ?_
  rintro v Γ' ⟨rfl, rfl⟩
  simp -implicitDefEqProofs only [go_sem, Nat.reduceBEq, Nat.reduceAdd, Nat.reduceSub, Nat.reduceMul, Nat.reduceLeDiff, reduceCtorEq, ↓reduceIte, Int.reduceLT, Int.reduceLE, Int.reduceEq, Int.reduceNe]
  have hAm : ∀ g : PH, SlOk (lk (g :: [gdd, gp, gd, gE, g0] ++ Γr)) A9 c9 d.ac := fun g => hA9.mono (lk_sub fun x hx => by simp at hx; simp [hx])
  have hBm : ∀ g : PH, SlOk (lk (g :: [gdd, gp, gd, gE, g0] ++ Γr)) B9 e9 d.nx := fun g => hB9.mono (lk_sub fun x hx => by simp at hx; simp [hx])
  refine s_loop (fun f vs Γ => ∃ (k : Nat) (m : Int) (gt : PH), vs = [.v true (.int .i64 m), .v true (.int .i64 k)] ∧ Γ = [gt, gdd, gp, gd, gE, g0] ∧ k + f = ws.length ∧ 0 ≤ m ∧ m ≤ k ∧ Tea gt pt d A9 B9 c9 e9 m 0) ws.length
    (Up.here ⟨0, 0, gt, rfl, rfl, by omega, by omega, by omega, hT⟩) ?_
  clear hT
  rintro f vs Γ ⟨k, m, gt, rfl, rfl, hkf, hm0, hmk, hT⟩
  simp -implicitDefEqProofs only [S9_3, go_sem, Nat.reduceBEq, Nat.reduceAdd, Nat.reduceSub, Nat.reduceMul, Nat.reduceLeDiff, reduceCtorEq, ↓reduceIte, Int.reduceLT, Int.reduceLE, Int.reduceEq, Int.reduceNe]
  refine ⟨fun hlt => ?_, fun hge => ?_⟩
  · have hk : k < ws.length := by omega
    obtain ⟨b2, o2, hW2, A3, c3, hr3, hc3⟩ := hw.list hk
    generalize ws[k] = w at *
    refine s_split ?_
    simp -implicitDefEqProofs only [S9_1, S9_2, go_sem, Nat.reduceBEq, Nat.reduceAdd, Nat.reduceSub, Nat.reduceMul, Nat.reduceLeDiff, reduceCtorEq, ↓reduceIte, Int.reduceLT, Int.reduceLE, Int.reduceEq, Int.reduceNe]
    refine s_idx hW2 (by omega) (by omega) ?_
    simp -implicitDefEqProofs only [go_sem, Nat.reduceBEq, Nat.reduceAdd, Nat.reduceSub, Nat.reduceMul, Nat.reduceLeDiff, reduceCtorEq, ↓reduceIte, Int.reduceLT, Int.reduceLE, Int.reduceEq, Int.reduceNe]
    refine s_ld0 (hc3 _ (lk_r _ _)) (by simp) (by simp) ?_
    simp -implicitDefEqProofs only [go_sem, Nat.reduceBEq, Nat.reduceAdd, Nat.reduceSub, Nat.reduceMul, Nat.reduceLeDiff, reduceCtorEq, ↓reduceIte, Int.reduceLT, Int.reduceLE, Int.reduceEq, Int.reduceNe]
    refine CallVC.head (teach_member (Γr := [gdd, gp, gd, gE, g0] ++ Γr) hT h0 (hA9.mono (lk_sub fun x hx => by simp at hx; simp [hx])) (hB9.mono (lk_sub fun x hx => by simp at hx; simp [hx])) (hr3.mono (lk_r _ _)) (by omega)) (List.Sublist.refl _) ?_
    rintro v Γ' ⟨gt', ok, er, m', rfl, rfl, hT', hM⟩
    simp -implicitDefEqProofs only [go_sem, Nat.reduceBEq, Nat.reduceAdd, Nat.reduceSub, Nat.reduceMul, Nat.reduceLeDiff, reduceCtorEq, ↓reduceIte, Int.reduceLT, Int.reduceLE, Int.reduceEq, Int.reduceNe]
    rcases hM with ⟨hl, rfl, rfl, rfl⟩ | ⟨hl, hbad, rfl, rfl, rfl⟩ | ⟨hl, hgood, rfl, rfl, rfl⟩
    · refine ⟨fun _ => ⟨fun h => by simp at h, fun _ => ?_⟩, fun h => by omega⟩
      simp (disch := omega) only [wrap_id]
      exact Up.here ⟨f - 1, by omega, Up.here ⟨k + 1, _, _, rfl, rfl, by omega, by omega, by omega, hT'⟩⟩
    · refine ⟨fun h => by omega, fun _ => ?_⟩
      refine CallVC.read (slices_containsFunc (hr3.mono (lk_r _ _)) (bad_sym (d := d) (T := 67) (A := A) (c := ca) ⟨g0, by simp, hbd⟩ (hB.mono (lk_r _ _)) hpos)) ?_
      rintro v Γ' ⟨rfl, rfl⟩
      rw [bad_ok.2 hbad]
      simp -implicitDefEqProofs only [go_sem, Nat.reduceBEq, Nat.reduceAdd, Nat.reduceSub, Nat.reduceMul, Nat.reduceLeDiff, reduceCtorEq, ↓reduceIte, Int.reduceLT, Int.reduceLE, Int.reduceEq, Int.reduceNe]
      simp (disch := omega) only [wrap_id]
      exact Up.here ⟨f - 1, by omega, Up.here ⟨k + 1, _, _, rfl, rfl, by omega, by omega, by omega, hT'⟩⟩
    · refine ⟨fun h => by omega, fun _ => ?_⟩
      refine CallVC.read (slices_containsFunc (hr3.mono (lk_r _ _)) (bad_sym (d := d) (T := 67) (A := A) (c := ca) ⟨g0, by simp, hbd⟩ (hB.mono (lk_r _ _)) hpos)) ?_
      rintro v Γ' ⟨rfl, rfl⟩
      rw [show (w.any fun x => decide (x < 0 ∨ (colsD d : Int) ≤ x)) = false from Bool.eq_false_iff.2 fun q => bad_ok.1 q hgood]
      simp -implicitDefEqProofs only [go_sem, Nat.reduceBEq, Nat.reduceAdd, Nat.reduceSub, Nat.reduceMul, Nat.reduceLeDiff, reduceCtorEq, ↓reduceIte, Int.reduceLT, Int.reduceLE, Int.reduceEq, Int.reduceNe]
      refine s_ld0 (cells_lk ⟨g0, by simp, hbd⟩) (by simp) (by simp) ?_
      simp -implicitDefEqProofs only [go_sem, Nat.reduceBEq, Nat.reduceAdd, Nat.reduceSub, Nat.reduceMul, Nat.reduceLeDiff, reduceCtorEq, ↓reduceIte, Int.reduceLT, Int.reduceLE, Int.reduceEq, Int.reduceNe]
      refine CallVC.read (ref_ends (d := d) (hA.mono (lk_r _ _)) (hB.mono (lk_r _ _)) V (hr3.mono (lk_r _ _)) hgood) ?_
      rintro v Γ' ⟨rfl, rfl⟩
      simp -implicitDefEqProofs only [go_sem, Nat.reduceBEq, Nat.reduceAdd, Nat.reduceSub, Nat.reduceMul, Nat.reduceLeDiff, reduceCtorEq, ↓reduceIte, Int.reduceLT, Int.reduceLE, Int.reduceEq, Int.reduceNe]
      refine ⟨fun h => by simp at h, ?_⟩
      simp (disch := omega) only [wrap_id]
      exact Up.here ⟨f - 1, by omega, Up.here ⟨k + 1, _, _, rfl, rfl, by omega, by omega, by omega, hT'⟩⟩
  refine CallVC.head (teach_equal (Γr := [gdd, gp, gd, gE, g0] ++ Γr) hT h0 (hA9.mono (lk_sub fun x hx => by simp at hx; simp [hx])) (hB9.mono (lk_sub fun x hx => by simp at hx; simp [hx])) (hC.mono (lk_r _ _)) (hD.mono (lk_r _ _)) (by omega)) (List.Sublist.refl _) ?_
  rintro v Γ' ⟨gt', gw, yes, wt, vw, er, q', rfl, rfl, hT', hBw, hE⟩
  simp -implicitDefEqProofs only [go_sem, Nat.reduceBEq, Nat.reduceAdd, Nat.reduceSub, Nat.reduceMul, Nat.reduceLeDiff, reduceCtorEq, ↓reduceIte, Int.reduceLT, Int.reduceLE, Int.reduceEq, Int.reduceNe]
  refine CallVC.read (teach_asked ⟨gt', by simp, hT'⟩) ?_
  rintro v Γ' ⟨rfl, rfl⟩
  simp -implicitDefEqProofs only [go_sem, Nat.reduceBEq, Nat.reduceAdd, Nat.reduceSub, Nat.reduceMul, Nat.reduceLeDiff, reduceCtorEq, ↓reduceIte, Int.reduceLT, Int.reduceLE, Int.reduceEq, Int.reduceNe]
  refine CallVC.read (ref_dfa (d := h) (hC.mono (lk_r _ _)) (hD.mono (lk_r _ _))) ?_
  rintro v Γ' ⟨rfl, rfl⟩
  simp -implicitDefEqProofs only [go_sem, Nat.reduceBEq, Nat.reduceAdd, Nat.reduceSub, Nat.reduceMul, Nat.reduceLeDiff, reduceCtorEq, ↓reduceIte, Int.reduceLT, Int.reduceLE, Int.reduceEq, Int.reduceNe]
  have hwl : wt.length ≤ 40401 := by
    rcases hE with ⟨_, _, rfl, _⟩ | ⟨_, _, _, rfl, _⟩ | ⟨_, _, hTo, _⟩
    · simp
    · simp
    · rcases hTo with ⟨_, _, h⟩ | ⟨_, rfl, _⟩
      · exact h
      · simp
  obtain ⟨AW, cW, rfl, hSw⟩ := hBw.slok (L' := lk [gw]) (Mem.le.refl _) (lk_sub (by simp)) (by omega)
  refine s_split ?_
  simp -implicitDefEqProofs only [S9_4, S9_5, go_sem, Nat.reduceBEq, Nat.reduceAdd, Nat.reduceSub, Nat.reduceMul, Nat.reduceLeDiff, reduceCtorEq, ↓reduceIte, Int.reduceLT, Int.reduceLE, Int.reduceEq, Int.reduceNe]
  rcases hE with ⟨h1, rfl, rfl, rfl, rfl⟩ | ⟨h1, h2, rfl, rfl, rfl, rfl⟩ | ⟨h1, h2, hTo, rfl, rfl⟩
  · simp only [show decide (dfF h = 0) = false from by simp [h1]]
    simp -implicitDefEqProofs only [go_sem, Nat.reduceBEq, Nat.reduceAdd, Nat.reduceSub, Nat.reduceMul, Nat.reduceLeDiff, reduceCtorEq, ↓reduceIte, Int.reduceLT, Int.reduceLE, Int.reduceEq, Int.reduceNe]
    refine s_idxg (b := 0) (o := 0) (by simp) ?_
    simp -implicitDefEqProofs only [go_sem, Nat.reduceBEq, Nat.reduceAdd, Nat.reduceSub, Nat.reduceMul, Nat.reduceLeDiff, reduceCtorEq, ↓reduceIte, Int.reduceLT, Int.reduceLE, Int.reduceEq, Int.reduceNe]
    refine s_ldg0 (cs := [.slice none 0 0]) (by simp) (by simp) (by simp) (by simp) ?_
    simp -implicitDefEqProofs only [go_sem, Nat.reduceBEq, Nat.reduceAdd, Nat.reduceSub, Nat.reduceMul, Nat.reduceLeDiff, reduceCtorEq, ↓reduceIte, Int.reduceLT, Int.reduceLE, Int.reduceEq, Int.reduceNe]
    refine s_ldg (o := 0) (j := 2) (by simp) (fun _ => cells_lk ⟨g0, by simp, hbd⟩) (by simp) (by simp) ?_
    simp -implicitDefEqProofs only [go_sem, Nat.reduceBEq, Nat.reduceAdd, Nat.reduceSub, Nat.reduceMul, Nat.reduceLeDiff, reduceCtorEq, ↓reduceIte, Int.reduceLT, Int.reduceLE, Int.reduceEq, Int.reduceNe]
    refine s_idxg (b := 0) (o := 0) (by simp) ?_
    simp -implicitDefEqProofs only [go_sem, Nat.reduceBEq, Nat.reduceAdd, Nat.reduceSub, Nat.reduceMul, Nat.reduceLeDiff, reduceCtorEq, ↓reduceIte, Int.reduceLT, Int.reduceLE, Int.reduceEq, Int.reduceNe]
    refine s_ldg0 (cs := [.slice none 0 0]) (by simp) (by simp) (by simp) (by simp) ?_
    simp -implicitDefEqProofs only [go_sem, Nat.reduceBEq, Nat.reduceAdd, Nat.reduceSub, Nat.reduceMul, Nat.reduceLeDiff, reduceCtorEq, ↓reduceIte, Int.reduceLT, Int.reduceLE, Int.reduceEq, Int.reduceNe]
    refine Up.here ⟨fun _ => Up.to [] (Ent.nil _) ?_, fun h => absurd h h1⟩
    subst hR
    simp
  · have hposh : 0 < h.nx.length := by have := (dfF_ok h1).len; omega
    obtain ⟨b3, o3, hD3, A5, c5, hr5, hc5⟩ := hD.list hposh
    rw [cols_at hposh] at hc5
    rw [h1]
    simp -implicitDefEqProofs only [go_sem, Nat.reduceBEq, Nat.reduceAdd, Nat.reduceSub, Nat.reduceMul, Nat.reduceLeDiff, reduceCtorEq, ↓reduceIte, Int.reduceLT, Int.reduceLE, Int.reduceEq, Int.reduceNe]
    refine s_idx hD3 (by omega) (by omega) ?_
    simp -implicitDefEqProofs only [go_sem, Nat.reduceBEq, Nat.reduceAdd, Nat.reduceSub, Nat.reduceMul, Nat.reduceLeDiff, reduceCtorEq, ↓reduceIte, Int.reduceLT, Int.reduceLE, Int.reduceEq, Int.reduceNe]
    refine s_ld0 (by simpa using hc5 _ (lk_r [gt', gw, gdd, gp, gd, gE, g0] _)) (by simp) (by simp) ?_
    simp -implicitDefEqProofs only [go_sem, Nat.reduceBEq, Nat.reduceAdd, Nat.reduceSub, Nat.reduceMul, Nat.reduceLeDiff, reduceCtorEq, ↓reduceIte, Int.reduceLT, Int.reduceLE, Int.reduceEq, Int.reduceNe]
    refine s_ld (o := 0) (j := 2) (cells_lk ⟨g0, by simp, hbd⟩) (by simp) (by simp) ?_
    simp -implicitDefEqProofs only [go_sem, Nat.reduceBEq, Nat.reduceAdd, Nat.reduceSub, Nat.reduceMul, Nat.reduceLeDiff, reduceCtorEq, ↓reduceIte, Int.reduceLT, Int.reduceLE, Int.reduceEq, Int.reduceNe]
    refine s_idx hB1 (by omega) (by omega) ?_
    simp -implicitDefEqProofs only [go_sem, Nat.reduceBEq, Nat.reduceAdd, Nat.reduceSub, Nat.reduceMul, Nat.reduceLeDiff, reduceCtorEq, ↓reduceIte, Int.reduceLT, Int.reduceLE, Int.reduceEq, Int.reduceNe]
    refine s_ld0 (by simpa using hc1 _ (lk_r [gt', gw, gdd, gp, gd, gE, g0] _)) (by simp) (by simp) ?_
    simp -implicitDefEqProofs only [go_sem, Nat.reduceBEq, Nat.reduceAdd, Nat.reduceSub, Nat.reduceMul, Nat.reduceLeDiff, reduceCtorEq, ↓reduceIte, Int.reduceLT, Int.reduceLE, Int.reduceEq, Int.reduceNe]
    refine ⟨fun _ => Up.here (Up.to [] (Ent.nil _) ?_), fun h => absurd (by omega) h2⟩
    subst hR
    simp
  · have hposh : 0 < h.nx.length := by have := (dfF_ok h1).len; omega
    obtain ⟨b3, o3, hD3, A5, c5, hr5, hc5⟩ := hD.list hposh
    rw [cols_at hposh] at hc5
    rw [h1]
    simp -implicitDefEqProofs only [go_sem, Nat.reduceBEq, Nat.reduceAdd, Nat.reduceSub, Nat.reduceMul, Nat.reduceLeDiff, reduceCtorEq, ↓reduceIte, Int.reduceLT, Int.reduceLE, Int.reduceEq, Int.reduceNe]
    refine s_idx hD3 (by omega) (by omega) ?_
    simp -implicitDefEqProofs only [go_sem, Nat.reduceBEq, Nat.reduceAdd, Nat.reduceSub, Nat.reduceMul, Nat.reduceLeDiff, reduceCtorEq, ↓reduceIte, Int.reduceLT, Int.reduceLE, Int.reduceEq, Int.reduceNe]
    refine s_ld0 (by simpa using hc5 _ (lk_r [gt', gw, gdd, gp, gd, gE, g0] _)) (by simp) (by simp) ?_
    simp -implicitDefEqProofs only [go_sem, Nat.reduceBEq, Nat.reduceAdd, Nat.reduceSub, Nat.reduceMul, Nat.reduceLeDiff, reduceCtorEq, ↓reduceIte, Int.reduceLT, Int.reduceLE, Int.reduceEq, Int.reduceNe]
    refine s_ld (o := 0) (j := 2) (cells_lk ⟨g0, by simp, hbd⟩) (by simp) (by simp) ?_
    simp -implicitDefEqProofs only [go_sem, Nat.reduceBEq, Nat.reduceAdd, Nat.reduceSub, Nat.reduceMul, Nat.reduceLeDiff, reduceCtorEq, ↓reduceIte, Int.reduceLT, Int.reduceLE, Int.reduceEq, Int.reduceNe]
    refine s_idx hB1 (by omega) (by omega) ?_
    simp -implicitDefEqProofs only [go_sem, Nat.reduceBEq, Nat.reduceAdd, Nat.reduceSub, Nat.reduceMul, Nat.reduceLeDiff, reduceCtorEq, ↓reduceIte, Int.reduceLT, Int.reduceLE, Int.reduceEq, Int.reduceNe]
    refine s_ld0 (by simpa using hc1 _ (lk_r [gt', gw, gdd, gp, gd, gE, g0] _)) (by simp) (by simp) ?_
    simp -implicitDefEqProofs only [go_sem, Nat.reduceBEq, Nat.reduceAdd, Nat.reduceSub, Nat.reduceMul, Nat.reduceLeDiff, reduceCtorEq, ↓reduceIte, Int.reduceLT, Int.reduceLE, Int.reduceEq, Int.reduceNe]
    refine ⟨fun h => absurd h2 (by omega), fun _ => Up.here ?_⟩
    refine s_ld0 (cells_lk ⟨g0, by simp, hbd⟩) (by simp) (by simp) ?_
    simp -implicitDefEqProofs only [go_sem, Nat.reduceBEq, Nat.reduceAdd, Nat.reduceSub, Nat.reduceMul, Nat.reduceLeDiff, reduceCtorEq, ↓reduceIte, Int.reduceLT, Int.reduceLE, Int.reduceEq, Int.reduceNe]
    refine CallVC.read (ref_apart V (dfF_ok h1) h2.symm (hA.mono (lk_r _ _)) (hB.mono (lk_r _ _)) (hC.mono (lk_r _ _)) (hD.mono (lk_r _ _))) ?_
    rintro v Γ' ⟨gq, wq, bq, vq, rfl, rfl, hBq, hql, hToF⟩
    obtain ⟨rfl, hyb⟩ := told_same hTo hToF
    obtain ⟨AQ, cQ, rfl, hSq⟩ := hBq.slok (L' := lk [gq]) (Mem.le.refl _) (lk_sub (by simp)) (by omega)
    simp -implicitDefEqProofs only [go_sem, Nat.reduceBEq, Nat.reduceAdd, Nat.reduceSub, Nat.reduceMul, Nat.reduceLeDiff, reduceCtorEq, ↓reduceIte, Int.reduceLT, Int.reduceLE, Int.reduceEq, Int.reduceNe]
    have hyb' : (yes == !bq) = true := by rw [← hyb]; cases yes <;> rfl
    rw [hyb']
    simp -implicitDefEqProofs only [go_sem, Nat.reduceBEq, Nat.reduceAdd, Nat.reduceSub, Nat.reduceMul, Nat.reduceLeDiff, reduceCtorEq, ↓reduceIte, Int.reduceLT, Int.reduceLE, Int.reduceEq, Int.reduceNe]
    refine fun hyq => ⟨hyq, ?_⟩
    refine CallVC.read (slices_equal (hSw.mono (lk_sub (by simp))) (hSq.mono (lk_sub (by simp)))) ?_
    rintro v Γ' ⟨rfl, rfl⟩
    simp -implicitDefEqProofs only [go_sem, Nat.reduceBEq, Nat.reduceAdd, Nat.reduceSub, Nat.reduceMul, Nat.reduceLeDiff, reduceCtorEq, ↓reduceIte, Int.reduceLT, Int.reduceLE, Int.reduceEq, Int.reduceNe]
    refine Up.to [] (Ent.nil _) ?_
    subst hR
    simp
end Go.Proofs.Ytniobbepliknmaa.V
