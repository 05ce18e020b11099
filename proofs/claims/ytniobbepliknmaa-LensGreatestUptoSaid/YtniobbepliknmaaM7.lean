/- The law of parllaw5.LensGreatest: it answers true; no condition. -/
import Derived.Test.YtniobbepliknmaaM5
import Derived.Test.YtniobbepliknmaaM6
namespace Go.Proofs.Ytniobbepliknmaa.V
open Go
set_option linter.unusedVariables false
set_option linter.unusedSimpArgs false
attribute [local go_sem] e_seq e_region e_quiet e_join e_loop e_cond e_block e_exit e_ret e_skip e_fin e_kseq e_snrm e_sret e_sex e_bnrm e_bret e_bex e_rnrm e_rret e_res e_condC e_nil e_g e_mv g_mv e_pick g_pick pickC_eq e_ibin g_ibin ibinC_eq e_sbin g_sbin e_beq g_beq beqC_eq e_nilq g_nilq nilqC_sl nilqC_pt nilqC_mp e_un g_un unC_not unC_neg e_conv g_conv convC_eq e_fld g_fld fldC_ref fldC_ptr e_nilCheck g_nilCheck nilCheckC_ref nilCheckC_ptr nilCheckC_fun e_field g_field fieldC_eq e_len g_len lenC_sl lenC_str e_extract g_extract extractC_eq e_mkFunc e_build g_build e_idiv g_idiv idivC_eq e_ishift g_ishift ishiftC_eq e_idx g_idx e_idxA g_idxA e_load g_load loadC_ref loadC_ptr loadB_eq e_slc g_slc e_box boxC_loc boxC_esc e_alloc allocC_loc allocC_esc e_buildS e_store storeC_ref storeC_ptr storeB_eq e_append e_appz e_mk mkC_eq e_call callC_eq e_fn g_fn fnC_eq fnV_min' fnV_max' fnV_rune' e_q g_q e_a e_n g_call g_box g_alloc g_buildS g_store g_append g_mk g_a g_n g_dead e_dead e_callK e_drawn e_tree e_finJ e_tk e_tfin e_tno e_nbt_q e_nbt_qn e_nbt_a e_nbt_an e_nbt_fin e_early_nil e_early_t e_early_f e_nob_nil e_nob_none e_nob_some isBox_dead isBox_v isBox_ref e_dnil e_dk e_ek e_finB vcOps_vc1 e_dcons e_tq e_ekt e_tearly e_talt e_dearly look_nil look_c proj_nil proj_c looks_nil looks_c zip_nil zip_c val_tmp val_const val_func slv_v slv_box slv_ref slot_tmp slot_const slot_func slotL_v slotL_box slotL_ref put_some put_none updBox_c boxSet_box gd_eq slotVals_nil slotVals_c slotVals_b boxV_box boxOn_box slotsOn_nil slotsOn_c slotsOn_b resV_one resV_two vals_nil vals_c allOn_nil allOn_c partOn_nil partOn_c partVals_nil partVals_c fits_nil fits_c fillL_nil fillL_c mkv_one mkv_agg cellsV_agg cellsV_int cellsV_bool cellsV_slice cellsV_string cellsV_pointer cellsV_func cellsV_nilf cellsV_map one'_nil one'_c oc_int oc_bool oc_slice oc_string oc_pointer oc_func oc_nilf oc_map setC_eq iv_add iv_sub iv_mul iv_eql iv_neq iv_lss iv_leq iv_gtr iv_geq iok_add iok_sub iok_mul iok_eql iok_neq iok_lss iok_leq iok_gtr iok_geq pickV_bool args0_nil args0_c bnd_none bnd_some imp_bt imp_bf imp_ebt imp_ebf imp_eb1 imp_np imp_pp beq_tt beq_tf beq_ft beq_ff cond_or cond_and e_round e_meet Int.le_refl Int.toNat_zero decide_true decide_false Bool.or_false Bool.false_or Bool.true_or Bool.or_true Bool.and_false Bool.false_and Bool.bne_false Bool.bne_true beq_iff_eq Int.cast_ofNat_Int not_false_eq_true not_true_eq_false false_and and_false false_implies true_implies true_and and_true Bool.true_and Bool.and_true Bool.not_true Bool.not_false forall_const implies_true List.take_zero List.drop_zero List.take_succ_cons List.drop_succ_cons List.take_nil List.drop_nil List.length_cons List.length_nil List.nil_append List.append_nil List.cons_append Int.toNat_natCast decide_eq_true_eq decide_eq_false_iff_not cond_true cond_false and_self List.getElem?_cons_zero List.getElem?_cons_succ List.set_cons_zero List.set_cons_succ Option.some.injEq exists_eq_left' Nat.zero_add Nat.add_zero Nat.mul_one imp_self true_or or_true or_false false_or Bool.or_eq_true Bool.or_eq_false_iff Bool.and_eq_true Bool.and_eq_false_iff Bool.not_eq_true' Bool.not_eq_false'

theorem plain_endl : Endl plainG := by
  have he : Edge plainG true 0 0 := by
    refine ⟨⟨0, [⟨true, 1⟩, ⟨false, 0⟩]⟩, by simp [plainG], rfl, fun s hs ht => ?_, 1, rfl, fun _ => ⟨0, ⟨true, 1⟩, by omega, rfl, .inl rfl⟩⟩
    simp at hs
    rcases hs with rfl | rfl
    · cases ht
    · exact ⟨1, plain_has.2⟩
  exact ⟨0, false, .refl _, .step he (.refl _)⟩
/-- the last place -/
def LastT (xs : List Bool) (k : Nat) (w : Int) : Prop := (w = -1 ∧ ∀ i (h : i < xs.length), i < k → xs[i] = false) ∨ ∃ m : Nat, w = m ∧ m < k ∧ (∃ h : m < xs.length, xs[m] = true) ∧ ∀ i (h : i < xs.length), m < i → i < k → xs[i] = false
theorem greatest_same {g : Gr} (V : VG g) (hsm : ∀ r ∈ g.rs, g.ns ≤ 4 ∧ r.r.length ≤ 3) {xs : List Bool} (hT : Tells 324 xs (HasD g g.st)) {x w : Int} (hx : GrtR g x) (hw : LastT xs xs.length w) : x = if 81 < w then -2 else w := by
  have hlen := hT.1
  have hns := V.ns
  have small : ∀ k, HasD g g.st k → g.ns ≤ 4 ∧ ∀ r ∈ g.rs, r.r.length ≤ 3 := by
    rintro k ⟨r, hr, _⟩
    exact ⟨(hsm r hr).1, fun r' hr' => (hsm r' hr').2⟩
  rcases hx with ⟨hE, rfl⟩ | ⟨hE, hx⟩
  · obtain ⟨k0, hk0, hd0⟩ := endl_many hE 81
    obtain ⟨h4, h3⟩ := small k0 hd0
    obtain ⟨k, h1, h2, h5⟩ := long_some V h4 h3 hk0 hd0
    have hk : k < xs.length := by omega
    have ht := (hT.2 k hk).2 h5
    rcases hw with ⟨rfl, hall⟩ | ⟨m, rfl, hm, ⟨hml, hmt⟩, hall⟩
    · rw [hall k hk hk] at ht; cases ht
    · have : k ≤ m := Nat.le_of_not_lt fun q => by rw [hall k hk q hk] at ht; cases ht
      rw [if_pos (by omega)]
  · rcases hx with ⟨rfl, hno⟩ | ⟨k, rfl, hk, hmax⟩
    · rcases hw with ⟨rfl, hall⟩ | ⟨m, rfl, hm, ⟨hml, hmt⟩, hall⟩
      · rfl
      · exact absurd ((hT.2 m hml).1 hmt) (hno m)
    · obtain ⟨h4, h3⟩ := small k hk
      have hb := HasH.bound (c := 3) (by omega) h3 _ (flat_all V hE hk)
      have hpow : (3 : Nat) ^ g.ns.toNat ≤ 81 := Nat.pow_le_pow_right (by omega) (show g.ns.toNat ≤ 4 by omega)
      have hkl : k < xs.length := by omega
      have ht := (hT.2 k hkl).2 hk
      rcases hw with ⟨rfl, hall⟩ | ⟨m, rfl, hm, ⟨hml, hmt⟩, hall⟩
      · rw [hall k hkl hkl] at ht; cases ht
      · have h1 : k ≤ m := Nat.le_of_not_lt fun q => by rw [hall k hkl q hkl] at ht; cases ht
        have h2 := hmax m ((hT.2 m hml).1 hmt)
        rw [if_neg (by omega)]
        omega
theorem law_greatest {Γr : Ctx} {g : Gr} {cs : List Value} (hg : Rep.ok (lk Γr) g cs) :
    Ret Try.prog 10 [.agg cs.toArray] Γr [] (fun v Γ => Γ = [] ∧ v = .bool true) := by
  obtain ⟨A, c, rfl, hx⟩ := ok_gr hg
  generalize hR : (fun (v : Value) (Γ : Ctx) => Γ = [] ∧ v = Value.bool true) = R
  refine ret_of_vc tr10 (Nat.le_of_ble_eq_true rfl) ?_
  simp -implicitDefEqProofs only [S10, S10_0, go_sem, Nat.reduceBEq, Nat.reduceAdd, Nat.reduceSub, Nat.reduceMul, Nat.reduceLeDiff, reduceCtorEq, ↓reduceIte, Int.reduceLT, Int.reduceLE, Int.reduceEq, Int.reduceNe]
  intro b
  refine CallVC.read plain_ ?_
  rintro v Γ' ⟨g1, A1, c1, rfl, hp, rfl⟩
  simp -implicitDefEqProofs only [go_sem, Nat.reduceBEq, Nat.reduceAdd, Nat.reduceSub, Nat.reduceMul, Nat.reduceLeDiff, reduceCtorEq, ↓reduceIte, Int.reduceLT, Int.reduceLE, Int.reduceEq, Int.reduceNe]
  refine CallVC.read (lens_greatest (g := plainG) (hp.mono (lk_sub (by simp)))) ?_
  rintro v Γ' ⟨rfl, x, e, rfl, hS⟩
  have hck : ckF plainG = 0 := by decide
  have hplain : e = 0 ∧ x = -2 := by
    rcases hS with ⟨h, _⟩ | ⟨_, he, h | h⟩
    · exact absurd hck h
    · exact ⟨he, h.2⟩
    · exact absurd plain_endl h.1
  obtain ⟨rfl, rfl⟩ := hplain
  simp -implicitDefEqProofs only [go_sem, Nat.reduceBEq, Nat.reduceAdd, Nat.reduceSub, Nat.reduceMul, Nat.reduceLeDiff, reduceCtorEq, ↓reduceIte, Int.reduceLT, Int.reduceLE, Int.reduceEq, Int.reduceNe]
  refine CallVC.read (lens_greatest (g := g) (hx.mono (lk_r _ _))) ?_
  rintro v Γ' ⟨rfl, x, e, rfl, hS⟩
  simp -implicitDefEqProofs only [go_sem, Nat.reduceBEq, Nat.reduceAdd, Nat.reduceSub, Nat.reduceMul, Nat.reduceLeDiff, reduceCtorEq, ↓reduceIte, Int.reduceLT, Int.reduceLE, Int.reduceEq, Int.reduceNe]
  refine CallVC.read (rule_fault (g := g) (hx.mono (lk_r _ _))) ?_
  rintro v Γ' ⟨rfl, rfl⟩
  simp -implicitDefEqProofs only [go_sem, Nat.reduceBEq, Nat.reduceAdd, Nat.reduceSub, Nat.reduceMul, Nat.reduceLeDiff, reduceCtorEq, ↓reduceIte, Int.reduceLT, Int.reduceLE, Int.reduceEq, Int.reduceNe]
  rcases hS with ⟨hk, rfl, rfl⟩ | ⟨hk, rfl, hG⟩
  · refine ⟨fun _ => Up.to [] (Ent.nil _) ?_, fun h => absurd h hk⟩
    subst hR
    simp
  refine ⟨fun h => absurd hk h, fun _ => ?_⟩
  have V := ckF_ok hk
  have hns := V.ns
  have hvl := V.len
  refine ⟨fun h => absurd rfl h, fun _ => ?_⟩
  refine s_loop (fun f vs Γ => Γ = [g1] ∧ ∃ k : Nat, vs = [.v true (.int .i64 k)] ∧ k + f = g.rs.length ∧ ∀ (j : Nat) (hj : j < g.rs.length), j < k → g.ns ≤ 4 ∧ g.rs[j].r.length ≤ 3) g.rs.length (Up.here ⟨rfl, 0, rfl, by omega, fun j _ h => by omega⟩) ?_
  rintro f vs Γ ⟨rfl, k, rfl, hkf, hsm⟩
  simp -implicitDefEqProofs only [S10_1, go_sem, Nat.reduceBEq, Nat.reduceAdd, Nat.reduceSub, Nat.reduceMul, Nat.reduceLeDiff, reduceCtorEq, ↓reduceIte, Int.reduceLT, Int.reduceLE, Int.reduceEq, Int.reduceNe]
  refine ⟨fun hlt => ?_, fun hge => ?_⟩
  · have hkk : k < g.rs.length := by omega
    obtain ⟨b1, o1, hA2, A3, c3, hr3, hc2⟩ := hx.ru hkk
    refine s_idx hA2 (by omega) (by omega) ?_
    simp -implicitDefEqProofs only [go_sem, Nat.reduceBEq, Nat.reduceAdd, Nat.reduceSub, Nat.reduceMul, Nat.reduceLeDiff, reduceCtorEq, ↓reduceIte, Int.reduceLT, Int.reduceLE, Int.reduceEq, Int.reduceNe]
    refine s_ld0 (hc2 _ (lk_r _ _)) (by simp) (by simp) ?_
    simp -implicitDefEqProofs only [go_sem, Nat.reduceBEq, Nat.reduceAdd, Nat.reduceSub, Nat.reduceMul, Nat.reduceLeDiff, reduceCtorEq, ↓reduceIte, Int.reduceLT, Int.reduceLE, Int.reduceEq, Int.reduceNe]
    refine ⟨fun _ => Up.to [] (Ent.nil _) ?_, fun h => ?_⟩
    · subst hR
      exact ⟨rfl, rfl⟩
    · simp (disch := omega) only [wrap_id]
      refine ⟨f - 1, by omega, Up.here ⟨rfl, k + 1, rfl, by omega, fun j hj h2 => ?_⟩⟩
      by_cases e : j = k
      · subst e; omega
      · exact hsm j hj (by omega)
  have hkk : k = g.rs.length := by omega
  have hsm' : ∀ r ∈ g.rs, g.ns ≤ 4 ∧ r.r.length ≤ 3 := fun r hr => by
    obtain ⟨j, hj, rfl⟩ := List.getElem_of_mem hr
    exact hsm j hj (by omega)
  refine CallVC.read (ref_lens (g := g) (hx.mono (lk_r _ _)) V 324 (by omega)) ?_
  rintro v Γ' ⟨g5, B5, d5, xs, rfl, rfl, hs5, hT⟩
  have hxl := hT.1
  simp -implicitDefEqProofs only [go_sem, Nat.reduceBEq, Nat.reduceAdd, Nat.reduceSub, Nat.reduceMul, Nat.reduceLeDiff, reduceCtorEq, ↓reduceIte, Int.reduceLT, Int.reduceLE, Int.reduceEq, Int.reduceNe]
  refine s_loop (fun f vs Γ => Γ = [g5, g1] ∧ ∃ (k : Nat) (w : Int), vs = [.v true (.int .i64 w), .v true (.int .i64 k)] ∧ k + f = xs.length ∧ LastT xs k w) xs.length (Up.here ⟨rfl, 0, -1, rfl, by omega, .inl ⟨rfl, fun i _ h => by omega⟩⟩) ?_
  rintro f vs Γ ⟨rfl, k, w, rfl, hkf, hw⟩
  simp -implicitDefEqProofs only [S10_4, go_sem, Nat.reduceBEq, Nat.reduceAdd, Nat.reduceSub, Nat.reduceMul, Nat.reduceLeDiff, reduceCtorEq, ↓reduceIte, Int.reduceLT, Int.reduceLE, Int.reduceEq, Int.reduceNe]
  refine ⟨fun hlt => ?_, fun hge => ?_⟩
  · have hkk : k < xs.length := by omega
    refine s_split ?_
    simp -implicitDefEqProofs only [S10_2, S10_3, go_sem, Nat.reduceBEq, Nat.reduceAdd, Nat.reduceSub, Nat.reduceMul, Nat.reduceLeDiff, reduceCtorEq, ↓reduceIte, Int.reduceLT, Int.reduceLE, Int.reduceEq, Int.reduceNe]
    obtain ⟨b3, o3, hA3, hc3⟩ := hs5.bool hkk
    refine s_idx hA3 (by omega) (by omega) ?_
    simp -implicitDefEqProofs only [go_sem, Nat.reduceBEq, Nat.reduceAdd, Nat.reduceSub, Nat.reduceMul, Nat.reduceLeDiff, reduceCtorEq, ↓reduceIte, Int.reduceLT, Int.reduceLE, Int.reduceEq, Int.reduceNe]
    refine s_ld0 (hc3 _ (lk_sub (by simp))) (by simp) (by simp) ?_
    simp -implicitDefEqProofs only [go_sem, Nat.reduceBEq, Nat.reduceAdd, Nat.reduceSub, Nat.reduceMul, Nat.reduceLeDiff, reduceCtorEq, ↓reduceIte, Int.reduceLT, Int.reduceLE, Int.reduceEq, Int.reduceNe]
    simp (disch := omega) only [wrap_id]
    refine ⟨fun ht => ?_, fun ht => ?_⟩
    · exact Up.here ⟨f - 1, by omega, Up.here ⟨rfl, k + 1, k, rfl, by omega, .inr ⟨k, rfl, by omega, ⟨hkk, ht⟩, fun i _ h1 h2 => by omega⟩⟩⟩
    · refine Up.here ⟨f - 1, by omega, Up.here ⟨rfl, k + 1, w, rfl, by omega, ?_⟩⟩
      have up : ∀ {P : Nat → Prop}, (∀ i (h : i < xs.length), P i → i < k → xs[i] = false) → ∀ i (h : i < xs.length), P i → i < k + 1 → xs[i] = false := fun h1 i h2 h3 h4 => by
        by_cases e : i = k
        · subst e; exact ht
        · exact h1 i h2 h3 (by omega)
      rcases hw with ⟨rfl, hall⟩ | ⟨m, rfl, hm, hmt, hall⟩
      · exact .inl ⟨rfl, fun i h h2 => up (P := fun _ => True) (fun i h _ h3 => hall i h h3) i h trivial h2⟩
      · exact .inr ⟨m, rfl, by omega, hmt, up hall⟩
  have hkk : k = xs.length := by omega
  rw [hkk] at hw
  have hfin := greatest_same V hsm' hT hG hw
  refine s_split ?_
  simp -implicitDefEqProofs only [S10_5, S10_6, go_sem, Nat.reduceBEq, Nat.reduceAdd, Nat.reduceSub, Nat.reduceMul, Nat.reduceLeDiff, reduceCtorEq, ↓reduceIte, Int.reduceLT, Int.reduceLE, Int.reduceEq, Int.reduceNe]
  refine ⟨fun h => Up.here (Up.to [] (Ent.nil _) ?_), fun h => Up.here (Up.to [] (Ent.nil _) ?_)⟩
  · rw [if_pos h] at hfin
    subst hR
    simp [hfin]
  · rw [if_neg h] at hfin
    subst hR
    simp [hfin]
end Go.Proofs.Ytniobbepliknmaa.V
