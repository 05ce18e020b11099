/- The law of parllaw5.LensTells: it answers true; no condition. -/
import Derived.Test.YtniobbepliknmaaPln
import Derived.Test.YtniobbepliknmaaPset
import Derived.Test.YtniobbepliknmaaPplain
import Derived.Test.YtniobbepliknmaaPrf
import Derived.Test.YtniobbepliknmaaS8
namespace Go.Proofs.Ytniobbepliknmaa.V
open Go
set_option linter.unusedVariables false
set_option linter.unusedSimpArgs false
attribute [local go_sem] e_seq e_region e_quiet e_join e_loop e_cond e_block e_exit e_ret e_skip e_fin e_kseq e_snrm e_sret e_sex e_bnrm e_bret e_bex e_rnrm e_rret e_res e_condC e_nil e_g e_mv g_mv e_pick g_pick pickC_eq e_ibin g_ibin ibinC_eq e_sbin g_sbin e_beq g_beq beqC_eq e_nilq g_nilq nilqC_sl nilqC_pt nilqC_mp e_un g_un unC_not unC_neg e_conv g_conv convC_eq e_fld g_fld fldC_ref fldC_ptr e_nilCheck g_nilCheck nilCheckC_ref nilCheckC_ptr nilCheckC_fun e_field g_field fieldC_eq e_len g_len lenC_sl lenC_str e_extract g_extract extractC_eq e_mkFunc e_build g_build e_idiv g_idiv idivC_eq e_ishift g_ishift ishiftC_eq e_idx g_idx e_idxA g_idxA e_load g_load loadC_ref loadC_ptr loadB_eq e_slc g_slc e_box boxC_loc boxC_esc e_alloc allocC_loc allocC_esc e_buildS e_store storeC_ref storeC_ptr storeB_eq e_append e_appz e_mk mkC_eq e_call callC_eq e_fn g_fn fnC_eq fnV_min' fnV_max' fnV_rune' e_q g_q e_a e_n g_call g_box g_alloc g_buildS g_store g_append g_mk g_a g_n g_dead e_dead e_callK e_drawn e_tree e_finJ e_tk e_tfin e_tno e_nbt_q e_nbt_qn e_nbt_a e_nbt_an e_nbt_fin e_early_nil e_early_t e_early_f e_nob_nil e_nob_none e_nob_some isBox_dead isBox_v isBox_ref e_dnil e_dk e_ek e_finB vcOps_vc1 e_dcons e_tq e_ekt e_tearly e_talt e_dearly look_nil look_c proj_nil proj_c looks_nil looks_c zip_nil zip_c val_tmp val_const val_func slv_v slv_box slv_ref slot_tmp slot_const slot_func slotL_v slotL_box slotL_ref put_some put_none updBox_c boxSet_box gd_eq slotVals_nil slotVals_c slotVals_b boxV_box boxOn_box slotsOn_nil slotsOn_c slotsOn_b resV_one resV_two vals_nil vals_c allOn_nil allOn_c partOn_nil partOn_c partVals_nil partVals_c fits_nil fits_c fillL_nil fillL_c mkv_one mkv_agg cellsV_agg cellsV_int cellsV_bool cellsV_slice cellsV_string cellsV_pointer cellsV_func cellsV_nilf cellsV_map one'_nil one'_c oc_int oc_bool oc_slice oc_string oc_pointer oc_func oc_nilf oc_map setC_eq iv_add iv_sub iv_mul iv_eql iv_neq iv_lss iv_leq iv_gtr iv_geq iok_add iok_sub iok_mul iok_eql iok_neq iok_lss iok_leq iok_gtr iok_geq pickV_bool args0_nil args0_c bnd_none bnd_some imp_bt imp_bf imp_ebt imp_ebf imp_eb1 imp_np imp_pp beq_tt beq_tf beq_ft beq_ff cond_or cond_and e_round e_meet Int.le_refl Int.toNat_zero decide_true decide_false Bool.or_false Bool.false_or Bool.true_or Bool.or_true Bool.and_false Bool.false_and Bool.bne_false Bool.bne_true beq_iff_eq Int.cast_ofNat_Int not_false_eq_true not_true_eq_false false_and and_false false_implies true_implies true_and and_true Bool.true_and Bool.and_true Bool.not_true Bool.not_false forall_const implies_true List.take_zero List.drop_zero List.take_succ_cons List.drop_succ_cons List.take_nil List.drop_nil List.length_cons List.length_nil List.nil_append List.append_nil List.cons_append Int.toNat_natCast decide_eq_true_eq decide_eq_false_iff_not cond_true cond_false and_self List.getElem?_cons_zero List.getElem?_cons_succ List.set_cons_zero List.set_cons_succ Option.some.injEq exists_eq_left' Nat.zero_add Nat.add_zero Nat.mul_one imp_self true_or or_true or_false false_or Bool.or_eq_true Bool.or_eq_false_iff Bool.and_eq_true Bool.and_eq_false_iff Bool.not_eq_true' Bool.not_eq_false'

theorem plain_pos {l : List Sy} {k : Nat} (h : LenD plainG l k) : l ≠ [] → (∀ s, l.head? = some s → s.t = true) → 0 < k := by
  cases h with
  | nil => intro h; exact absurd rfl h
  | term _ => intro _ _; omega
  | non _ _ _ _ => intro _ h; have := h _ rfl; simp at this
theorem plain_has : ¬ HasD plainG 0 0 ∧ HasD plainG 0 1 := by
  constructor
  · rintro ⟨r, hr, ha, hd⟩
    simp [plainG] at hr
    rcases hr with rfl | rfl
    · have := plain_pos hd (by simp) (by simp); omega
    · have := plain_pos hd (by simp) (by simp); omega
  · exact ⟨⟨0, [⟨true, 0⟩]⟩, by simp [plainG], rfl, .term .nil⟩
theorem tells_same {n : Nat} {xs ys : List Bool} {p : Nat → Prop} (h : Tells n xs p) (h' : Tells n ys p) : xs = ys := by
  apply List.ext_getElem
  · rw [h.1, h'.1]
  · intro i h1 h2
    have q1 := h.2 i h1
    have q2 := h'.2 i h2
    cases e1 : xs[i] <;> cases e2 : ys[i] <;> simp_all
theorem law_lens {Γr : Ctx} {g : Gr} {cs : List Value} (hg : Rep.ok (lk Γr) g cs) (n : Int) (h0 : -9223372036854775808 ≤ n) (h1 : n ≤ 9223372036854775807) :
    Ret Try.prog 8 [.agg cs.toArray, .int .i64 n] Γr [] (fun v Γ => Γ = [] ∧ v = .bool true) := by
  obtain ⟨A, c, rfl, hx⟩ := ok_gr hg
  generalize hR : (fun (v : Value) (Γ : Ctx) => Γ = [] ∧ v = Value.bool true) = R
  refine ret_of_vc tr8 (Nat.le_of_ble_eq_true rfl) ?_
  simp -implicitDefEqProofs only [S8, S8_0, go_sem, Nat.reduceBEq, Nat.reduceAdd, Nat.reduceSub, Nat.reduceMul, Nat.reduceLeDiff, reduceCtorEq, ↓reduceIte, Int.reduceLT, Int.reduceLE, Int.reduceEq, Int.reduceNe]
  intro b
  refine CallVC.read plain_ ?_
  rintro v Γ' ⟨g1, A1, c1, rfl, hp, rfl⟩
  simp -implicitDefEqProofs only [go_sem, Nat.reduceBEq, Nat.reduceAdd, Nat.reduceSub, Nat.reduceMul, Nat.reduceLeDiff, reduceCtorEq, ↓reduceIte, Int.reduceLT, Int.reduceLE, Int.reduceEq, Int.reduceNe]
  refine CallVC.read (lens_set (g := plainG) (hp.mono (lk_sub (by simp))) 1) ?_
  rintro v Γ' ⟨g2, B2, d2, xs, e, rfl, hxs, rfl, hS⟩
  have hck : ckF plainG = 0 := by decide
  have hplain : e = 0 ∧ xs = [false, true] := by
    rcases hS with ⟨h, _⟩ | ⟨_, h, _⟩ | ⟨_, h, N, hN, _, hT⟩
    · exact absurd hck h
    · omega
    · have hN1 : N = 1 := by omega
      subst hN1
      refine ⟨h, tells_same hT ⟨rfl, fun m hm => ?_⟩⟩
      have := plain_has
      match m, hm with
      | 0, _ => exact ⟨fun h => Bool.noConfusion h, fun h => absurd h this.1⟩
      | 1, _ => exact ⟨fun _ => this.2, fun _ => rfl⟩
  obtain ⟨rfl, rfl⟩ := hplain
  simp -implicitDefEqProofs only [go_sem, Nat.reduceBEq, Nat.reduceAdd, Nat.reduceSub, Nat.reduceMul, Nat.reduceLeDiff, reduceCtorEq, ↓reduceIte, Int.reduceLT, Int.reduceLE, Int.reduceEq, Int.reduceNe]
  intro b1
  have hlit : SlOk (lk [one b1 (Obj.cells #[Value.bool false, Value.bool true] 4), g2, g1]) (some ⟨b1, 0, none⟩) 2 [false, true] := lit_slok [false, true] rfl (by simp)
  refine CallVC.read (equal_bools (xs := [false, true]) (ys := [false, true]) (hxs.mono (lk_sub (by simp))) (hlit.mono (lk_l _ _))) ?_
  rintro v Γ' ⟨rfl, rfl⟩
  simp only [decide_true]
  simp -implicitDefEqProofs only [go_sem, Nat.reduceBEq, Nat.reduceAdd, Nat.reduceSub, Nat.reduceMul, Nat.reduceLeDiff, reduceCtorEq, ↓reduceIte, Int.reduceLT, Int.reduceLE, Int.reduceEq, Int.reduceNe]
  refine CallVC.read (lens_set (g := g) (hx.mono (lk_r _ _)) n) ?_
  rintro v Γ' ⟨g3, B3, d3, xs3, e3, rfl, hxs3, rfl, hS3⟩
  simp -implicitDefEqProofs only [go_sem, Nat.reduceBEq, Nat.reduceAdd, Nat.reduceSub, Nat.reduceMul, Nat.reduceLeDiff, reduceCtorEq, ↓reduceIte, Int.reduceLT, Int.reduceLE, Int.reduceEq, Int.reduceNe]
  refine CallVC.read (rule_fault (g := g) (hx.mono (lk_r _ _))) ?_
  rintro v Γ' ⟨rfl, rfl⟩
  simp -implicitDefEqProofs only [go_sem, Nat.reduceBEq, Nat.reduceAdd, Nat.reduceSub, Nat.reduceMul, Nat.reduceLeDiff, reduceCtorEq, ↓reduceIte, Int.reduceLT, Int.reduceLE, Int.reduceEq, Int.reduceNe]
  refine s_split ?_
  simp -implicitDefEqProofs only [S8_1, S8_2, go_sem, Nat.reduceBEq, Nat.reduceAdd, Nat.reduceSub, Nat.reduceMul, Nat.reduceLeDiff, reduceCtorEq, ↓reduceIte, Int.reduceLT, Int.reduceLE, Int.reduceEq, Int.reduceNe]
  rcases hS3 with ⟨hk, rfl, rfl⟩ | ⟨hk, hn, rfl, rfl⟩ | ⟨hk, rfl, N, rfl, hN, hT⟩
  · refine ⟨fun h => absurd h hk, fun h => absurd h.1 hk, fun _ => Up.here ⟨fun _ => Up.to [] (Ent.nil _) ?_, fun h => absurd h hk⟩⟩
    subst hR
    simp
  · refine ⟨fun _ h => ⟨hk, h⟩, fun _ => Up.here (Up.to [] (Ent.nil _) ?_), fun h => ?_⟩
    · subst hR
      simp
    · rcases h with h | h
      · exact absurd hk h
      · omega
  · refine ⟨fun _ h => ⟨hk, h⟩, fun h => by omega, fun _ => Up.here ⟨fun h => absurd hk h, fun _ => ⟨fun _ => ⟨rfl, ?_⟩, fun h => ?_⟩⟩⟩
    · refine CallVC.read (ref_lens (g := g) (hx.mono (lk_r _ _)) (ckF_ok hk) N (by omega)) ?_
      rintro v Γ' ⟨g5, B5, d5, xs5, rfl, rfl, hs5, hT5⟩
      simp -implicitDefEqProofs only [go_sem, Nat.reduceBEq, Nat.reduceAdd, Nat.reduceSub, Nat.reduceMul, Nat.reduceLeDiff, reduceCtorEq, ↓reduceIte, Int.reduceLT, Int.reduceLE, Int.reduceEq, Int.reduceNe]
      refine CallVC.read (equal_bools (hxs3.mono (lk_sub (by simp))) (hs5.mono (lk_sub (by simp)))) ?_
      rintro v Γ' ⟨rfl, rfl⟩
      rw [tells_same hT hT5]
      simp only [decide_true]
      simp -implicitDefEqProofs only [go_sem, Nat.reduceBEq, Nat.reduceAdd, Nat.reduceSub, Nat.reduceMul, Nat.reduceLeDiff, reduceCtorEq, ↓reduceIte, Int.reduceLT, Int.reduceLE, Int.reduceEq, Int.reduceNe]
      refine Up.to [] (Ent.nil _) ?_
      subst hR
      exact ⟨rfl, rfl⟩
    · simp at h
end Go.Proofs.Ytniobbepliknmaa.V
