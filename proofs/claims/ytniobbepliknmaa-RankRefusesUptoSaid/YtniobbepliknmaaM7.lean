/- Texts put together, in the order in which they build; each says what it proves; no condition. -/
import Derived.Test.YtniobbepliknmaaM4
import Derived.Test.YtniobbepliknmaaM6
import Derived.ChangeKeysEq
import Derived.Test.YtniobbepliknmaaM2
import Derived.Test.YtniobbepliknmaaProg
/- The numbers of nodes of trees: tree.Size; no condition. -/
namespace Go.Proofs.Ytniobbepliknmaa.V
open Go
set_option linter.unusedVariables false
set_option linter.unusedSimpArgs false
attribute [local go_sem] e_seq e_region e_quiet e_join e_loop e_cond e_block e_exit e_ret e_skip e_fin e_kseq e_snrm e_sret e_sex e_bnrm e_bret e_bex e_rnrm e_rret e_res e_condC e_nil e_g e_mv g_mv e_pick g_pick pickC_eq e_ibin g_ibin ibinC_eq e_sbin g_sbin e_beq g_beq beqC_eq e_nilq g_nilq nilqC_sl nilqC_pt nilqC_mp e_un g_un unC_not unC_neg e_conv g_conv convC_eq e_fld g_fld fldC_ref fldC_ptr e_nilCheck g_nilCheck nilCheckC_ref nilCheckC_ptr nilCheckC_fun e_field g_field fieldC_eq e_len g_len lenC_sl lenC_str e_extract g_extract extractC_eq e_mkFunc e_build g_build e_idiv g_idiv idivC_eq e_ishift g_ishift ishiftC_eq e_idx g_idx e_idxA g_idxA e_load g_load e_loadB g_loadB atB_ref atB_v g_mkFunc loadC_ref loadC_ptr loadB_eq e_slc g_slc e_box boxC_loc boxC_esc e_alloc allocC_loc allocC_esc e_buildS e_store storeC_ref storeC_ptr storeB_eq e_append e_appz e_mk mkC_eq e_call callC_eq e_fn g_fn fnC_eq fnV_min' fnV_max' fnV_rune' e_q g_q e_a e_n g_call g_box g_alloc g_buildS g_store g_append g_mk g_a g_n g_dead e_dead e_callK e_drawn e_tree e_finJ e_tk e_tfin e_tno e_nbt_q e_nbt_qn e_nbt_a e_nbt_an e_nbt_fin e_drawnB e_bxb_nil e_bxb e_stB_none e_stB_some boxSt_store bs_mv bs_pick bs_ibin bs_idiv bs_ishift bs_sbin bs_beq bs_nilq bs_un bs_conv bs_box bs_alloc bs_build bs_buildS bs_load bs_fld bs_nilCheck bs_idx bs_idxA bs_field bs_slc bs_len bs_append bs_appz bs_mk bs_call bs_extract bs_mkFunc bs_fn bs_q bs_a bs_n bs_loadB bs_dead isBox_box e_early_nil e_early_t e_early_f e_nob_nil e_nob_none e_nob_some isBox_dead isBox_v isBox_ref e_dnil e_dk e_ek e_finB vcOps_vc1 e_dcons e_tq e_ekt e_tearly e_talt e_dearly look_nil look_c proj_nil proj_c looks_nil looks_c zip_nil zip_c val_tmp val_const val_func slv_v slv_box slv_ref slot_tmp slot_const slot_func slotL_v slotL_box slotL_ref put_some put_none updBox_c boxSet_box gd_eq slotVals_nil slotVals_c slotVals_b boxV_box boxOn_box slotsOn_nil slotsOn_c slotsOn_b resV_one resV_two vals_nil vals_c allOn_nil allOn_c partOn_nil partOn_c partVals_nil partVals_c fits_nil fits_c fillL_nil fillL_c mkv_one mkv_agg cellsV_agg cellsV_int cellsV_bool cellsV_slice cellsV_string cellsV_pointer cellsV_func cellsV_nilf cellsV_map one'_nil one'_c oc_int oc_bool oc_slice oc_string oc_pointer oc_func oc_nilf oc_map setC_eq iv_add iv_sub iv_mul iv_eql iv_neq iv_lss iv_leq iv_gtr iv_geq iok_add iok_sub iok_mul iok_eql iok_neq iok_lss iok_leq iok_gtr iok_geq pickV_bool args0_nil args0_c bnd_none bnd_some imp_bt imp_bf imp_ebt imp_ebf imp_eb1 imp_np imp_pp beq_tt beq_tf beq_ft beq_ff cond_or cond_and e_round e_meet Int.le_refl Int.toNat_zero decide_true decide_false Bool.or_false Bool.false_or Bool.true_or Bool.or_true Bool.and_false Bool.false_and Bool.bne_false Bool.bne_true beq_iff_eq Int.cast_ofNat_Int not_false_eq_true not_true_eq_false false_and and_false false_implies true_implies true_and and_true Bool.true_and Bool.and_true Bool.not_true Bool.not_false forall_const implies_true List.take_zero List.drop_zero List.take_succ_cons List.drop_succ_cons List.take_nil List.drop_nil List.length_cons List.length_nil List.nil_append List.append_nil List.cons_append Int.toNat_natCast decide_eq_true_eq decide_eq_false_iff_not cond_true cond_false and_self List.getElem?_cons_zero List.getElem?_cons_succ List.set_cons_zero List.set_cons_succ Option.some.injEq exists_eq_left' Nat.zero_add Nat.add_zero Nat.mul_one imp_self true_or or_true or_false false_or Bool.or_eq_true Bool.or_eq_false_iff Bool.and_eq_true Bool.and_eq_false_iff Bool.not_eq_true' Bool.not_eq_false'

theorem tree_leaf {Γr : Ctx} (r t : Int) (A : Option Addr) (n c : Nat) :
    Ret Try.prog 139 [.agg #[.int .i64 r, .int .i64 t, .slice A n c]] Γr [] (fun v Γ => Γ = [] ∧ v = .bool (decide (r = -1))) := by
  generalize hR : (fun (v : Value) (Γ : Ctx) => Γ = [] ∧ _) = R
  refine ret_of_vc tr139 (Nat.le_of_ble_eq_true rfl) ?_
  simp -implicitDefEqProofs only [S139, S139_0, go_sem, Nat.reduceBEq, Nat.reduceAdd, Nat.reduceSub, Nat.reduceMul, Nat.reduceLeDiff, reduceCtorEq, ↓reduceIte, Int.reduceLT, Int.reduceLE, Int.reduceEq, Int.reduceNe]
  refine Up.here ?_
  subst hR
  exact ⟨rfl, rfl⟩
theorem tree_size {Γr : Ctx} (x : Tr) : ∀ {A : Option Addr} {c : Nat}, SlOk (lk Γr) A c x.kids → numT x ≤ 1048576 →
    Ret Try.prog 67 [.agg #[.int .i64 x.rule, .int .i64 x.term, .slice A x.kids.length c]] Γr [] (fun v Γ => Γ = [] ∧ v = .int .i64 (szT x)) := by
  refine Tr.ind (p := fun x => ∀ {A : Option Addr} {c : Nat}, SlOk (lk Γr) A c x.kids → numT x ≤ 1048576 → Ret Try.prog 67 [.agg #[.int .i64 x.rule, .int .i64 x.term, .slice A x.kids.length c]] Γr [] (fun v Γ => Γ = [] ∧ v = .int .i64 (szT x))) (fun x ih A c hx hn => ?_) x
  generalize hR : (fun (v : Value) (Γ : Ctx) => Γ = [] ∧ _) = R
  refine ret_of_vc tr67 (Nat.le_of_ble_eq_true rfl) ?_
  simp -implicitDefEqProofs only [S67, S67_0, go_sem, Nat.reduceBEq, Nat.reduceAdd, Nat.reduceSub, Nat.reduceMul, Nat.reduceLeDiff, reduceCtorEq, ↓reduceIte, Int.reduceLT, Int.reduceLE, Int.reduceEq, Int.reduceNe]
  intro b1
  refine CallVC.read (tree_leaf _ _ _ _ _) ?_
  rintro v Γ' ⟨rfl, rfl⟩
  simp -implicitDefEqProofs only [go_sem, Nat.reduceBEq, Nat.reduceAdd, Nat.reduceSub, Nat.reduceMul, Nat.reduceLeDiff, reduceCtorEq, ↓reduceIte, Int.reduceLT, Int.reduceLE, Int.reduceEq, Int.reduceNe]
  refine ⟨fun h => Up.here ?_, fun h => ?_⟩
  · subst hR
    exact ⟨rfl, by rw [szT_eq, if_pos h]; rfl⟩
  have hn1 := numT_eq x
  have hlen := numL_len x.kids
  refine s_loop (fun f vs Γ => Γ = [] ∧ ∃ k : Nat, vs = [.v true (.int .i64 (1 + szL (x.kids.take k) : Nat)), .v true (.int .i64 k)] ∧ k + f = x.kids.length) x.kids.length (Up.here ⟨rfl, 0, rfl, by omega⟩) ?_
  rintro f vs Γ ⟨rfl, k, rfl, hkf⟩
  simp -implicitDefEqProofs only [S67_1, go_sem, Nat.reduceBEq, Nat.reduceAdd, Nat.reduceSub, Nat.reduceMul, Nat.reduceLeDiff, reduceCtorEq, ↓reduceIte, Int.reduceLT, Int.reduceLE, Int.reduceEq, Int.reduceNe]
  refine ⟨fun hlt => ?_, fun hge => ?_⟩
  · have hk : k < x.kids.length := by omega
    obtain ⟨b, o, hA, A', c', hs', hc⟩ := hx.tr hk
    have hm := List.getElem_mem hk
    have hst : szL (x.kids.take (k + 1)) = szL (x.kids.take k) + szT x.kids[k] := by
      rw [List.take_succ_eq_append_getElem hk, szL_append]
      simp [szL]
    have hnk := numL_mem hm
    have hle : numL (x.kids.take k) + numT x.kids[k] ≤ numL x.kids := by
      have h1 : numL (x.kids.take (k + 1)) = numL (x.kids.take k) + numT x.kids[k] := by
        rw [List.take_succ_eq_append_getElem hk, numL_append]
        simp [numL]
      have h2 := numL_append (x.kids.take (k + 1)) (x.kids.drop (k + 1))
      rw [List.take_append_drop] at h2
      omega
    have hs1 : szL (x.kids.take k) ≤ numL (x.kids.take k) := szL_le fun y _ => szT_le y
    have hs2 := szT_le x.kids[k]
    refine s_idx hA (by omega) (by omega) ?_
    simp -implicitDefEqProofs only [go_sem, Nat.reduceBEq, Nat.reduceAdd, Nat.reduceSub, Nat.reduceMul, Nat.reduceLeDiff, reduceCtorEq, ↓reduceIte, Int.reduceLT, Int.reduceLE, Int.reduceEq, Int.reduceNe]
    refine s_ld0 (hc _ (Mem.le.refl _)) (by simp) (by simp) ?_
    simp -implicitDefEqProofs only [go_sem, Nat.reduceBEq, Nat.reduceAdd, Nat.reduceSub, Nat.reduceMul, Nat.reduceLeDiff, reduceCtorEq, ↓reduceIte, Int.reduceLT, Int.reduceLE, Int.reduceEq, Int.reduceNe]
    intro b5
    refine CallVC.read (ih _ hm hs' (by omega)) ?_
    rintro v Γ' ⟨rfl, rfl⟩
    simp -implicitDefEqProofs only [go_sem, Nat.reduceBEq, Nat.reduceAdd, Nat.reduceSub, Nat.reduceMul, Nat.reduceLeDiff, reduceCtorEq, ↓reduceIte, Int.reduceLT, Int.reduceLE, Int.reduceEq, Int.reduceNe]
    simp (disch := omega) only [wrap_id]
    exact ⟨f - 1, by omega, Up.here ⟨rfl, k + 1, by rw [hst]; congr 3; omega, by omega⟩⟩
  · have hk : k = x.kids.length := by omega
    rw [hk, List.take_length]
    refine Up.here ?_
    subst hR
    exact ⟨rfl, by rw [szT_eq, if_neg h]⟩
end Go.Proofs.Ytniobbepliknmaa.V
/- Symbols, rules and lists of them are the same; no condition. -/
namespace Go.Proofs.Ytniobbepliknmaa.V
open Go
set_option linter.unusedVariables false
set_option linter.unusedSimpArgs false
attribute [local go_sem] e_seq e_region e_quiet e_join e_loop e_cond e_block e_exit e_ret e_skip e_fin e_kseq e_snrm e_sret e_sex e_bnrm e_bret e_bex e_rnrm e_rret e_res e_condC e_nil e_g e_mv g_mv e_pick g_pick pickC_eq e_ibin g_ibin ibinC_eq e_sbin g_sbin e_beq g_beq beqC_eq e_nilq g_nilq nilqC_sl nilqC_pt nilqC_mp e_un g_un unC_not unC_neg e_conv g_conv convC_eq e_fld g_fld fldC_ref fldC_ptr e_nilCheck g_nilCheck nilCheckC_ref nilCheckC_ptr nilCheckC_fun e_field g_field fieldC_eq e_len g_len lenC_sl lenC_str e_extract g_extract extractC_eq e_mkFunc e_build g_build e_idiv g_idiv idivC_eq e_ishift g_ishift ishiftC_eq e_idx g_idx e_idxA g_idxA e_load g_load e_loadB g_loadB atB_ref atB_v g_mkFunc loadC_ref loadC_ptr loadB_eq e_slc g_slc e_box boxC_loc boxC_esc e_alloc allocC_loc allocC_esc e_buildS e_store storeC_ref storeC_ptr storeB_eq e_append e_appz e_mk mkC_eq e_call callC_eq e_fn g_fn fnC_eq fnV_min' fnV_max' fnV_rune' e_q g_q e_a e_n g_call g_box g_alloc g_buildS g_store g_append g_mk g_a g_n g_dead e_dead e_callK e_drawn e_tree e_finJ e_tk e_tfin e_tno e_nbt_q e_nbt_qn e_nbt_a e_nbt_an e_nbt_fin e_drawnB e_bxb_nil e_bxb e_stB_none e_stB_some boxSt_store bs_mv bs_pick bs_ibin bs_idiv bs_ishift bs_sbin bs_beq bs_nilq bs_un bs_conv bs_box bs_alloc bs_build bs_buildS bs_load bs_fld bs_nilCheck bs_idx bs_idxA bs_field bs_slc bs_len bs_append bs_appz bs_mk bs_call bs_extract bs_mkFunc bs_fn bs_q bs_a bs_n bs_loadB bs_dead isBox_box e_early_nil e_early_t e_early_f e_nob_nil e_nob_none e_nob_some isBox_dead isBox_v isBox_ref e_dnil e_dk e_ek e_finB vcOps_vc1 e_dcons e_tq e_ekt e_tearly e_talt e_dearly look_nil look_c proj_nil proj_c looks_nil looks_c zip_nil zip_c val_tmp val_const val_func slv_v slv_box slv_ref slot_tmp slot_const slot_func slotL_v slotL_box slotL_ref put_some put_none updBox_c boxSet_box gd_eq slotVals_nil slotVals_c slotVals_b boxV_box boxOn_box slotsOn_nil slotsOn_c slotsOn_b resV_one resV_two vals_nil vals_c allOn_nil allOn_c partOn_nil partOn_c partVals_nil partVals_c fits_nil fits_c fillL_nil fillL_c mkv_one mkv_agg cellsV_agg cellsV_int cellsV_bool cellsV_slice cellsV_string cellsV_pointer cellsV_func cellsV_nilf cellsV_map one'_nil one'_c oc_int oc_bool oc_slice oc_string oc_pointer oc_func oc_nilf oc_map setC_eq iv_add iv_sub iv_mul iv_eql iv_neq iv_lss iv_leq iv_gtr iv_geq iok_add iok_sub iok_mul iok_eql iok_neq iok_lss iok_leq iok_gtr iok_geq pickV_bool args0_nil args0_c bnd_none bnd_some imp_bt imp_bf imp_ebt imp_ebf imp_eb1 imp_np imp_pp beq_tt beq_tf beq_ft beq_ff cond_or cond_and e_round e_meet Int.le_refl Int.toNat_zero decide_true decide_false Bool.or_false Bool.false_or Bool.true_or Bool.or_true Bool.and_false Bool.false_and Bool.bne_false Bool.bne_true beq_iff_eq Int.cast_ofNat_Int not_false_eq_true not_true_eq_false false_and and_false false_implies true_implies true_and and_true Bool.true_and Bool.and_true Bool.not_true Bool.not_false forall_const implies_true List.take_zero List.drop_zero List.take_succ_cons List.drop_succ_cons List.take_nil List.drop_nil List.length_cons List.length_nil List.nil_append List.append_nil List.cons_append Int.toNat_natCast decide_eq_true_eq decide_eq_false_iff_not cond_true cond_false and_self List.getElem?_cons_zero List.getElem?_cons_succ List.set_cons_zero List.set_cons_succ Option.some.injEq exists_eq_left' Nat.zero_add Nat.add_zero Nat.mul_one imp_self true_or or_true or_false false_or Bool.or_eq_true Bool.or_eq_false_iff Bool.and_eq_true Bool.and_eq_false_iff Bool.not_eq_true' Bool.not_eq_false'

def sv (s : Sy) : Value := .agg #[.bool s.t, .int .i64 s.n]
theorem sy_fields : (Try.prog.fieldsOf 39).toList.map (fun f => (f.name != "_", f.type, f.offset)) = [(true, 4, 0), (true, 3, 1)] := by kernel_rfl
theorem two_fields {fs : List Field} {a b : TypeId} {n m : Nat} (h : fs.map (fun f => (f.name != "_", f.type, f.offset)) = [(true, a, n), (true, b, m)]) : ∃ f g, fs = [f, g] ∧ f.name ≠ "_" ∧ g.name ≠ "_" ∧ f.type = a ∧ f.offset = n ∧ g.type = b ∧ g.offset = m := by
  have hl := congrArg List.length h
  simp at hl
  obtain ⟨f, g, rfl⟩ : ∃ f g, fs = [f, g] := by
    cases fs with
    | nil => simp at hl
    | cons f r =>
      cases r with
      | nil => simp at hl
      | cons g r =>
        cases r with
        | nil => exact ⟨f, g, rfl⟩
        | cons _ _ => simp at hl
  simp only [List.map_cons, List.map_nil, List.cons.injEq, Prod.mk.injEq, bne_iff_ne, ne_eq, and_true] at h
  exact ⟨f, g, rfl, h.1.1, h.2.1, h.1.2.1, h.1.2.2, h.2.2.1, h.2.2.2⟩
theorem qr_neqsy (x y : Sy) (Γ : Ctx) (ox oy : Operand) : QR Try.prog (.bin .neq 39 ox oy) [sv x, sv y] Γ (.bool (!decide (x = y))) := by
  intro w _
  obtain ⟨f, g, hf, n1, n2, t1, o1, t2, o2⟩ := two_fields sy_fields
  have h0 : Try.prog.underlying 39 = some (.struct (Try.prog.fieldsOf 39)) := by kernel_rfl
  have h1 : Try.prog.stoodInHeld 39 = false := by kernel_rfl
  have h2 : Try.prog.eqGuardType Try.prog.depth 39 = false := by kernel_rfl
  have h3 : Try.prog.underlying 4 = some .bool := by kernel_rfl
  have h4 : Try.prog.underlying 3 = some (.int .i64) := by kernel_rfl
  have k3 : Try.prog.plainKey 4 = true := by kernel_rfl
  have k4 : Try.prog.plainKey 3 = true := by kernel_rfl
  have p1 : ∀ (t : Bool) (n : Int), (Go.part 4 #[.bool t, .int .i64 n] 0).run Try.prog w = .ok (.bool t) w := fun t n => run_part_plain w k3 (by simp)
  have p2 : ∀ (t : Bool) (n : Int), (Go.part 3 #[.bool t, .int .i64 n] 1).run Try.prog w = .ok (.int .i64 n) w := fun t n => run_part_plain w k4 (by simp)
  simp only [qsem, sv, Sem.run_bind]
  rw [run_eqGuard_agg w .neq 39 ox oy _ _ h2]
  simp only [Result.andThen_ok]
  rw [run_neq_struct, run_equalIn_agg w 9999 39 _ _ h0 h1, hf]
  simp only [Op.eqFields, if_pos n1, if_pos n2, t1, t2, o1, o2, Sem.run_bind, p1, p2, Result.andThen_ok, run_equalIn_bool w 9998 4 _ _ h3, run_equalIn_int w 9998 3 _ _ _ _ h4]
  obtain ⟨xt, xn⟩ := x
  obtain ⟨yt, yn⟩ := y
  by_cases e1 : xt = yt <;> by_cases e2 : xn = yn <;> simp [e1, e2, Op.eqFields, p2, run_equalIn_int w 9998 3 .i64 .i64 _ _ h4]
end Go.Proofs.Ytniobbepliknmaa.V
/- The text of parlance/tree.symbol as a statement (slots: 0 g, 1 t, 2 g, 3 t); no condition. -/
namespace Go.Proofs.Ytniobbepliknmaa.V
open Go
def S180_0 : Stmt :=
 .seq
 (.region
 [.mk (some 2) none (.box true 57 (.tmp 0)),
 .mk (some 3) none (.box true 106 (.tmp 1)),
 .mk (some 4) none (.alloc true 39 (.agg (Array.mk [.bool false,.int .i64 0]))),
 .mk (some 5) none (.mv (.const (.bool false)))]
 [2,3,4])
 (.seq
 (.seq
 (.region
 [.mk (some 6) none (.load true 3 (.tmp 3)),
 .mk (some 7) none (.call (.func 139) [.tmp 6])]
 [2,3,4,7])
 (.cond (.tmp 7)
 (.seq
 (.drawnB
 [(false,.mk (some 8) none (.fld 1 (.tmp 3))),
 (false,.mk (some 9) none (.loadB (some 3) false 1 (.tmp 8))),
 (false,
 .mk (some 10) none
 (.build 39 [.bool false,.int .i64 0]
 [(0,1,.const (.bool true)),(1,1,.tmp 9)])),
 (false,.mk (some 11) none (.fld 1 (.tmp 3))),
 (false,.mk (some 12) none (.loadB (some 3) false 1 (.tmp 11))),
 (false,
 .mk (some 13) none
 (.ibin .geq (.tmp 12) (.const (.int .i64 0)))),
 (false,.mk (some 14) none (.mv (.tmp 13))),
 (false,.mk (some 15) (some (14,true)) (.fld 1 (.tmp 3))),
 (false,.mk (some 16) (some (14,true)) (.loadB (some 3) false 1 (.tmp 15))),
 (false,.mk (some 17) (some (14,true)) (.fld 0 (.tmp 2))),
 (false,.mk (some 18) (some (14,true)) (.loadB (some 2) false 1 (.tmp 17))),
 (false,.mk (some 19) (some (14,true)) (.ibin .lss (.tmp 16) (.tmp 18))),
 (false,
 .mk (some 20) none
 (.pick (.tmp 14) (.tmp 19) (.const (.bool false)))),
 (false,.mk (some 21) none (.mv (.tmp 20))),
 (false,.mk (some 22) (some (21,true)) (.fld 2 (.tmp 3))),
 (false,.mk (some 23) (some (21,true)) (.loadB (some 3) false 1 (.tmp 22))),
 (false,.mk (some 24) (some (21,true)) (.len false (.tmp 23))),
 (false,
 .mk (some 25) (some (21,true))
 (.ibin .eql (.tmp 24) (.const (.int .i64 0)))),
 (false,
 .mk (some 26) none
 (.pick (.tmp 21) (.tmp 25) (.const (.bool false)))),
 (false,.mk none none (.store 2 (.tmp 4) (.tmp 10))),
 (false,.mk (some 5) none (.mv (.tmp 26)))]
 [4,5])
 .ret)
 .skip))
 (.seq
 (.seq
 (.region
 [.mk (some 27) none (.fld 0 (.tmp 3)),
 .mk (some 28) none (.load false 1 (.tmp 27)),
 .mk (some 29) none (.ibin .lss (.tmp 28) (.const (.int .i64 0))),
 .mk (some 30) none (.mv (.tmp 29)),
 .mk (some 31) (some (30,false)) (.fld 0 (.tmp 3)),
 .mk (some 32) (some (30,false)) (.load false 1 (.tmp 31)),
 .mk (some 33) (some (30,false)) (.fld 3 (.tmp 2)),
 .mk (some 34) (some (30,false)) (.load false 1 (.tmp 33)),
 .mk (some 35) (some (30,false)) (.len false (.tmp 34)),
 .mk (some 36) (some (30,false)) (.ibin .geq (.tmp 32) (.tmp 35)),
 .mk (some 37) none (.pick (.tmp 30) (.const (.bool true)) (.tmp 36))]
 [2,3,4,37])
 (.cond (.tmp 37)
 (.seq
 (.region
 [.mk (some 38) none (.build 39 [.bool false,.int .i64 0] []),
 .mk none none (.store 2 (.tmp 4) (.tmp 38)),
 .mk (some 5) none (.mv (.const (.bool false)))]
 [4,5])
 .ret)
 .skip))
 (.seq
 (.drawnB
 [(false,.mk (some 39) none (.fld 3 (.tmp 2))),
 (false,.mk (some 40) none (.loadB (some 2) false 1 (.tmp 39))),
 (false,.mk (some 41) none (.fld 0 (.tmp 3))),
 (false,.mk (some 42) none (.loadB (some 3) false 1 (.tmp 41))),
 (false,.mk (some 43) none (.idx 2 (.tmp 40) (.tmp 42))),
 (false,.mk (some 44) none (.fld 0 (.tmp 43))),
 (false,.mk (some 45) none (.loadB none false 1 (.tmp 44))),
 (false,
 .mk (some 46) none
 (.build 39 [.bool false,.int .i64 0] [(1,1,.tmp 45)])),
 (false,.mk (some 47) none (.fld 1 (.tmp 3))),
 (false,.mk (some 48) none (.loadB (some 3) false 1 (.tmp 47))),
 (false,
 .mk (some 49) none (.ibin .eql (.tmp 48) (.const (.int .i64 0)))),
 (false,.mk none none (.store 2 (.tmp 4) (.tmp 46))),
 (false,.mk (some 5) none (.mv (.tmp 49)))]
 [4,5])
 .ret)))
def S180 : FnS := ⟨50,[(4,some (true,2)),(5,none)],S180_0⟩
theorem tr180 : trFn Try.prog 180 [2,3,4] [[2,3,4],[2,3,4,7],[4,5],[],[],[0,5,0,0,5,0,0,0,5,0,4,0,0,0,0,5,0,0,0,0,0],[0,1,2,3,4,5,6,7,8,9,10,11,12,13,14,15,16,17,18,19,20],[],[],[0],[0,1],[],[3],[3,4],[3,4,5],[3,4,5,6],[3,4,5,6,7],[3,4,5,6],[3,4,5,6,9],[3,4,5,6,7,8,9,10],[3,4,5,6,7,8,9,10,11],[3,4,5,6,7,8,9,10,11,12],[3,4,5,6,7,8,9,10,11,12,13],[3,4,5,6,7,8,9,10,11,12,13,14],[3,4,5,6,7,8,9,10,11,12,13,14,15],[3,4,5,6,7,8,9,10,11,12,13,14,15,16],[3,4,5,6,7,8,9,10,11,12,13,14,15,16,17],[0,1,2,3,4,5,6,7,8,9,10,11,12,13],[0,1,2,3,4,5,6,7,8,9,10,11,12,13,14,15,16,17,18,19],[2,3,4,37],[4,5],[4,5],[],[],[0,4,0,5,0,0,1,0,0,5,0,0,0],[0,1,2,3,4,5,6,7,8,9,10,11,12],[],[],[0],[],[2],[0,1,2,3],[0,1,2,3,4],[0,1,2,3,4,5],[0,1,2,3,4,5,6],[],[8],[8,9],[0,1,2,3,4,5,6,7],[0,1,2,3,4,5,6,7,8,9,10,11]] = some S180 := by kernel_rfl
end Go.Proofs.Ytniobbepliknmaa.V
/- The text of parlance/tree.valid as a statement (slots: 0 g, 1 t, 2 g, 3 t, 5 _, 6 ok, 7 right, 8 i, 9 k, 10 s, 11 ok); no condition. -/
namespace Go.Proofs.Ytniobbepliknmaa.V
open Go
def S140_1 : Stmt :=
 .seq
 (.region [.mk (some 42) none (.ibin .lss (.tmp 41) (.tmp 40))] [2,7,39,40,41,42])
 (.seq (.cond (.tmp 42) .skip (.exit 0))
 (.seq
 (.block 1
 (.seq
 (.region
 [.mk (some 43) none (.mv (.tmp 41)),
 .mk (some 44) none (.idx 3 (.tmp 39) (.tmp 41)),
 .mk (some 45) none (.load true 3 (.tmp 44)),
 .mk (some 9) none
 (.alloc true 106
 (.agg (Array.mk [.int .i64 0,.int .i64 0,.slice none 0 0]))),
 .mk (some 8) none (.mv (.tmp 43)),
 .mk none none (.store 3 (.tmp 9) (.tmp 45))]
 [2,7,8,9,39,40,41])
 (.seq
 (.region
 [.mk (some 47) none (.load true 4 (.tmp 2)),
 .mk (some 48) none (.load true 3 (.tmp 9)),
 .mk (some 49) none (.call (.func 180) [.tmp 47,.tmp 48]),
 .mk (some 46) none (.mv (.tmp 49)),
 .mk (some 50) none (.extract 0 (.tmp 46)),
 .mk (some 51) none (.extract 1 (.tmp 46)),
 .mk (some 10) none
 (.alloc true 39 (.agg (Array.mk [.bool false,.int .i64 0]))),
 .mk none none (.store 2 (.tmp 10) (.tmp 50)),
 .mk (some 11) none (.mv (.tmp 51))]
 [2,7,8,9,10,11,39,40,41])
 (.seq
 (.drawn
 [(false,.mk (some 52) none (.mv (.tmp 11))),
 (false,.mk (some 53) none (.un .not (.tmp 52))),
 (false,.mk (some 54) none (.mv (.tmp 53))),
 (false,.mk (some 55) (some (54,false)) (.load true 2 (.tmp 10))),
 (false,.mk (some 56) (some (54,false)) (.mv (.tmp 7))),
 (false,.mk (some 57) (some (54,false)) (.mv (.tmp 8))),
 (false,.mk (some 58) (some (54,false)) (.idx 2 (.tmp 56) (.tmp 57))),
 (false,.mk (some 59) (some (54,false)) (.load true 2 (.tmp 58))),
 (false,
 .mk (some 60) (some (54,false))
 (.q (Qk.bin .neq 39 (.tmp 55) (.tmp 59)) [.tmp 55,.tmp 59])),
 (false,
 .mk (some 61) none
 (.pick (.tmp 54) (.const (.bool true)) (.tmp 60))),
 (false,.mk (some 62) none (.mv (.tmp 61))),
 (false,.mk (some 63) (some (62,false)) (.load true 4 (.tmp 2))),
 (false,.mk (some 64) (some (62,false)) (.load true 3 (.tmp 9))),
 (false,
 .mk (some 65) (some (62,false))
 (.call (.func 140) [.tmp 63,.tmp 64])),
 (false,.mk (some 66) (some (62,false)) (.un .not (.tmp 65))),
 (false,
 .mk (some 67) none
 (.pick (.tmp 62) (.const (.bool true)) (.tmp 66)))]
 [2,7,39,40,41,67])
 (.cond (.tmp 67)
 (.seq (.region [.mk (some 4) none (.mv (.const (.bool false)))] [4])
 .ret)
 .skip)))))
 (.region
 [.mk (some 68) none (.ibin .add (.tmp 41) (.const (.int .i64 1))),
 .mk (some 41) none (.mv (.tmp 68))]
 [2,7,39,40,41])))
def S140_0 : Stmt :=
 .seq
 (.region
 [.mk (some 2) none (.box true 57 (.tmp 0)),
 .mk (some 3) none (.box true 106 (.tmp 1)),
 .mk (some 4) none (.mv (.const (.bool false)))]
 [2,3])
 (.seq
 (.seq
 (.region
 [.mk (some 13) none (.load true 4 (.tmp 2)),
 .mk (some 14) none (.load true 3 (.tmp 3)),
 .mk (some 15) none (.call (.func 180) [.tmp 13,.tmp 14]),
 .mk (some 12) none (.mv (.tmp 15)),.mk (some 16) none (.extract 0 (.tmp 12)),
 .mk (some 17) none (.extract 1 (.tmp 12)),
 .mk (some 5) none (.alloc true 39 (.agg (Array.mk [.bool false,.int .i64 0]))),
 .mk none none (.store 2 (.tmp 5) (.tmp 16)),
 .mk (some 6) none (.mv (.tmp 17))]
 [2,3,6])
 (.seq
 (.region
 [.mk (some 18) none (.mv (.tmp 6)),.mk (some 19) none (.un .not (.tmp 18)),
 .mk (some 20) none (.mv (.tmp 19)),
 .mk (some 21) (some (20,false)) (.load true 3 (.tmp 3)),
 .mk (some 22) (some (20,false)) (.call (.func 139) [.tmp 21]),
 .mk (some 23) none (.pick (.tmp 20) (.const (.bool true)) (.tmp 22))]
 [2,3,6,23])
 (.cond (.tmp 23)
 (.seq
 (.region
 [.mk (some 24) none (.mv (.tmp 6)),.mk (some 4) none (.mv (.tmp 24))] [4])
 .ret)
 .skip)))
 (.seq
 (.region
 [.mk (some 25) none (.fld 3 (.tmp 2)),
 .mk (some 26) none (.load false 1 (.tmp 25)),
 .mk (some 27) none (.fld 0 (.tmp 3)),
 .mk (some 28) none (.load false 1 (.tmp 27)),
 .mk (some 29) none (.idx 2 (.tmp 26) (.tmp 28)),
 .mk (some 30) none (.fld 1 (.tmp 29)),
 .mk (some 31) none (.load false 1 (.tmp 30)),.mk (some 7) none (.mv (.tmp 31))]
 [2,3,7])
 (.seq
 (.seq
 (.region
 [.mk (some 32) none (.fld 2 (.tmp 3)),
 .mk (some 33) none (.load false 1 (.tmp 32)),
 .mk (some 34) none (.len false (.tmp 33)),
 .mk (some 35) none (.mv (.tmp 7)),
 .mk (some 36) none (.len false (.tmp 35)),
 .mk (some 37) none (.ibin .neq (.tmp 34) (.tmp 36))]
 [2,3,7,37])
 (.cond (.tmp 37)
 (.seq (.region [.mk (some 4) none (.mv (.const (.bool false)))] [4]) .ret)
 .skip))
 (.seq
 (.seq
 (.region
 [.mk (some 38) none (.fld 2 (.tmp 3)),
 .mk (some 39) none (.load false 1 (.tmp 38)),
 .mk (some 40) none (.len false (.tmp 39)),
 .mk (some 41) none (.mv (.const (.int .i64 0)))]
 [2,7,39,40,41])
 (.block 0 (.loop S140_1 [41] [2,7,39,40])))
 (.seq (.region [.mk (some 4) none (.mv (.const (.bool true)))] [4]) .ret)))))
def S140 : FnS := ⟨69,[(4,none)],S140_0⟩
theorem tr140 : trFn Try.prog 140 [2,3,5,9,10] [[2,3],[2,3,6],[2,3,6,23],[4],[2,3,7],[2,3,7,37],[4],[2,7,39,40,41],[41],[2,7,39,40],[2,7,39,40,41,42],[2,7,8,9,39,40,41],[2,7,8,9,10,11,39,40,41],[2,7,39,40,41,67],[0,1,2,3,4,5,6,7,8,9,10,11,12,13,14,15],[],[],[0],[0,1],[0,1,2],[0,1,2],[0,1,2],[0,1,2,4,5],[0,1,2,4,5,6],[0,1,2,3,4,5,6,7],[0,1,2,3,4,5,6,7,8],[0,1,2,3,4,5,6,7,8,9],[0,1,2,3,4,5,6,7,8,9,10],[0,1,2,3,4,5,6,7,8,9,10],[0,1,2,3,4,5,6,7,8,9,10,11,12],[0,1,2,3,4,5,6,7,8,9,10,11,12,13],[0,1,2,3,4,5,6,7,8,9,10,11,12,13,14],[4],[2,7,39,40,41],[4]] = some S140 := by kernel_rfl
end Go.Proofs.Ytniobbepliknmaa.V
/- The text of parlance/tree.Check as a statement (slots: 0 g, 1 t, 2 g, 3 t, 5 e); no condition. -/
namespace Go.Proofs.Ytniobbepliknmaa.V
open Go
def S69_0 : Stmt :=
 .seq
 (.region
 [.mk (some 2) none (.box true 57 (.tmp 0)),
 .mk (some 3) none (.box true 106 (.tmp 1)),
 .mk (some 4) none (.mv (.const (.int .i64 0)))]
 [2,3])
 (.seq
 (.seq
 (.region
 [.mk (some 6) none (.load true 4 (.tmp 2)),
 .mk (some 7) none (.call (.func 112) [.tmp 6]),
 .mk (some 5) none (.mv (.tmp 7))]
 [2,3,5])
 (.seq
 (.region
 [.mk (some 8) none (.mv (.tmp 5)),
 .mk (some 9) none (.ibin .neq (.tmp 8) (.const (.int .i64 0)))]
 [2,3,5,9])
 (.cond (.tmp 9)
 (.seq
 (.region
 [.mk (some 10) none (.mv (.tmp 5)),.mk (some 4) none (.mv (.tmp 10))] [4])
 .ret)
 .skip)))
 (.seq
 (.seq
 (.region
 [.mk (some 11) none (.load true 3 (.tmp 3)),
 .mk (some 12) none (.call (.func 67) [.tmp 11]),
 .mk (some 13) none (.ibin .gtr (.tmp 12) (.const (.int .i64 5000)))]
 [2,3,13])
 (.cond (.tmp 13)
 (.seq (.region [.mk (some 4) none (.mv (.const (.int .i64 2)))] [4])
 .ret)
 .skip))
 (.seq
 (.seq
 (.region
 [.mk (some 14) none (.load true 4 (.tmp 2)),
 .mk (some 15) none (.load true 3 (.tmp 3)),
 .mk (some 16) none (.call (.func 140) [.tmp 14,.tmp 15]),
 .mk (some 17) none (.un .not (.tmp 16))]
 [17])
 (.cond (.tmp 17)
 (.seq (.region [.mk (some 4) none (.mv (.const (.int .i64 3)))] [4])
 .ret)
 .skip))
 (.seq (.region [.mk (some 4) none (.mv (.const (.int .i64 0)))] [4])
 .ret))))
def S69 : FnS := ⟨18,[(4,none)],S69_0⟩
theorem tr69 : trFn Try.prog 69 [2,3] [[2,3],[2,3,5],[2,3,5,9],[4],[2,3,13],[4],[17],[4],[4]] = some S69 := by kernel_rfl
end Go.Proofs.Ytniobbepliknmaa.V
/- Which trees are those of a grammar: tree.symbol, valid, Check; no condition. -/
namespace Go.Proofs.Ytniobbepliknmaa.V
open Go
set_option linter.unusedVariables false
set_option linter.unusedSimpArgs false
attribute [local go_sem] e_seq e_region e_quiet e_join e_loop e_cond e_block e_exit e_ret e_skip e_fin e_kseq e_snrm e_sret e_sex e_bnrm e_bret e_bex e_rnrm e_rret e_res e_condC e_nil e_g e_mv g_mv e_pick g_pick pickC_eq e_ibin g_ibin ibinC_eq e_sbin g_sbin e_beq g_beq beqC_eq e_nilq g_nilq nilqC_sl nilqC_pt nilqC_mp e_un g_un unC_not unC_neg e_conv g_conv convC_eq e_fld g_fld fldC_ref fldC_ptr e_nilCheck g_nilCheck nilCheckC_ref nilCheckC_ptr nilCheckC_fun e_field g_field fieldC_eq e_len g_len lenC_sl lenC_str e_extract g_extract extractC_eq e_mkFunc e_build g_build e_idiv g_idiv idivC_eq e_ishift g_ishift ishiftC_eq e_idx g_idx e_idxA g_idxA e_load g_load e_loadB g_loadB atB_ref atB_v g_mkFunc loadC_ref loadC_ptr loadB_eq e_slc g_slc e_box boxC_loc boxC_esc e_alloc allocC_loc allocC_esc e_buildS e_store storeC_ref storeC_ptr storeB_eq e_append e_appz e_mk mkC_eq e_call callC_eq e_fn g_fn fnC_eq fnV_min' fnV_max' fnV_rune' e_q g_q e_a e_n g_call g_box g_alloc g_buildS g_store g_append g_mk g_a g_n g_dead e_dead e_callK e_drawn e_tree e_finJ e_tk e_tfin e_tno e_nbt_q e_nbt_qn e_nbt_a e_nbt_an e_nbt_fin e_drawnB e_bxb_nil e_bxb e_stB_none e_stB_some boxSt_store bs_mv bs_pick bs_ibin bs_idiv bs_ishift bs_sbin bs_beq bs_nilq bs_un bs_conv bs_box bs_alloc bs_build bs_buildS bs_load bs_fld bs_nilCheck bs_idx bs_idxA bs_field bs_slc bs_len bs_append bs_appz bs_mk bs_call bs_extract bs_mkFunc bs_fn bs_q bs_a bs_n bs_loadB bs_dead isBox_box e_early_nil e_early_t e_early_f e_nob_nil e_nob_none e_nob_some isBox_dead isBox_v isBox_ref e_dnil e_dk e_ek e_finB vcOps_vc1 e_dcons e_tq e_ekt e_tearly e_talt e_dearly look_nil look_c proj_nil proj_c looks_nil looks_c zip_nil zip_c val_tmp val_const val_func slv_v slv_box slv_ref slot_tmp slot_const slot_func slotL_v slotL_box slotL_ref put_some put_none updBox_c boxSet_box gd_eq slotVals_nil slotVals_c slotVals_b boxV_box boxOn_box slotsOn_nil slotsOn_c slotsOn_b resV_one resV_two vals_nil vals_c allOn_nil allOn_c partOn_nil partOn_c partVals_nil partVals_c fits_nil fits_c fillL_nil fillL_c mkv_one mkv_agg cellsV_agg cellsV_int cellsV_bool cellsV_slice cellsV_string cellsV_pointer cellsV_func cellsV_nilf cellsV_map one'_nil one'_c oc_int oc_bool oc_slice oc_string oc_pointer oc_func oc_nilf oc_map setC_eq iv_add iv_sub iv_mul iv_eql iv_neq iv_lss iv_leq iv_gtr iv_geq iok_add iok_sub iok_mul iok_eql iok_neq iok_lss iok_leq iok_gtr iok_geq pickV_bool args0_nil args0_c bnd_none bnd_some imp_bt imp_bf imp_ebt imp_ebf imp_eb1 imp_np imp_pp beq_tt beq_tf beq_ft beq_ff cond_or cond_and e_round e_meet Int.le_refl Int.toNat_zero decide_true decide_false Bool.or_false Bool.false_or Bool.true_or Bool.or_true Bool.and_false Bool.false_and Bool.bne_false Bool.bne_true beq_iff_eq Int.cast_ofNat_Int not_false_eq_true not_true_eq_false false_and and_false false_implies true_implies true_and and_true Bool.true_and Bool.and_true Bool.not_true Bool.not_false forall_const implies_true List.take_zero List.drop_zero List.take_succ_cons List.drop_succ_cons List.take_nil List.drop_nil List.length_cons List.length_nil List.nil_append List.append_nil List.cons_append Int.toNat_natCast decide_eq_true_eq decide_eq_false_iff_not cond_true cond_false and_self List.getElem?_cons_zero List.getElem?_cons_succ List.set_cons_zero List.set_cons_succ Option.some.injEq exists_eq_left' Nat.zero_add Nat.add_zero Nat.mul_one imp_self true_or or_true or_false false_or Bool.or_eq_true Bool.or_eq_false_iff Bool.and_eq_true Bool.and_eq_false_iff Bool.not_eq_true' Bool.not_eq_false'

/-- the symbol of a tree, and whether it exists -/
def symF (g : Gr) (x : Tr) : Sy × Bool :=
  if x.rule = -1 then (⟨true, x.term⟩, decide (0 ≤ x.term ∧ x.term < g.ts ∧ x.kids.length = 0))
  else if x.rule < 0 ∨ (g.rs.length : Int) ≤ x.rule then (⟨false, 0⟩, false)
  else (⟨false, (g.rs.getD x.rule.toNat ⟨0, []⟩).l⟩, decide (x.term = 0))
theorem tree_symbol {Γr : Ctx} {g : Gr} {B : Option Addr} {d : Nat} (hg : SlOk (lk Γr) B d g.rs) (x : Tr) {A : Option Addr} {c : Nat} (hs : x.kids.length ≤ 1048576) :
    Ret Try.prog 180 [.agg #[.int .i64 g.ts, .int .i64 g.ns, .int .i64 g.st, .slice B g.rs.length d], .agg #[.int .i64 x.rule, .int .i64 x.term, .slice A x.kids.length c]] Γr []
      (fun v Γ => Γ = [] ∧ v = .tuple #[sv (symF g x).1, .bool (symF g x).2]) := by
  generalize hR : (fun (v : Value) (Γ : Ctx) => Γ = [] ∧ _) = R
  refine ret_of_vc tr180 (Nat.le_of_ble_eq_true rfl) ?_
  simp -implicitDefEqProofs only [S180, S180_0, go_sem, Nat.reduceBEq, Nat.reduceAdd, Nat.reduceSub, Nat.reduceMul, Nat.reduceLeDiff, reduceCtorEq, ↓reduceIte, Int.reduceLT, Int.reduceLE, Int.reduceEq, Int.reduceNe]
  intro b1 b2 b3
  refine CallVC.read (tree_leaf _ _ _ _ _) ?_
  rintro v Γ' ⟨rfl, rfl⟩
  simp -implicitDefEqProofs only [go_sem, Nat.reduceBEq, Nat.reduceAdd, Nat.reduceSub, Nat.reduceMul, Nat.reduceLeDiff, reduceCtorEq, ↓reduceIte, Int.reduceLT, Int.reduceLE, Int.reduceEq, Int.reduceNe]
  refine ⟨fun h => Up.here ?_, fun h => ⟨fun h2 => Up.here ?_, fun h2 => ?_⟩⟩
  · subst hR
    refine ⟨rfl, ?_⟩
    have e : (decide (0 ≤ x.term) && decide (x.term < g.ts) && decide ((x.kids.length : Int) = 0)) = decide (0 ≤ x.term ∧ x.term < g.ts ∧ x.kids.length = 0) := by
      rw [Bool.eq_iff_iff]
      simp only [Bool.and_eq_true, decide_eq_true_eq]
      omega
    simp only [symF, if_pos h, sv, e]
  · subst hR
    refine ⟨rfl, ?_⟩
    simp only [symF, if_neg h, if_pos h2, sv]
  · have hk : x.rule.toNat < g.rs.length := by omega
    obtain ⟨b, o, hB, A2, c2, hs2, hc2⟩ := hg.ru hk
    refine s_idx hB (by omega) (by omega) ?_
    simp -implicitDefEqProofs only [go_sem, Nat.reduceBEq, Nat.reduceAdd, Nat.reduceSub, Nat.reduceMul, Nat.reduceLeDiff, reduceCtorEq, ↓reduceIte, Int.reduceLT, Int.reduceLE, Int.reduceEq, Int.reduceNe]
    refine s_ld0 (hc2 _ (Mem.le.refl _)) (by simp) (by simp) ?_
    simp -implicitDefEqProofs only [go_sem, Nat.reduceBEq, Nat.reduceAdd, Nat.reduceSub, Nat.reduceMul, Nat.reduceLeDiff, reduceCtorEq, ↓reduceIte, Int.reduceLT, Int.reduceLE, Int.reduceEq, Int.reduceNe]
    refine Up.here ?_
    subst hR
    refine ⟨rfl, ?_⟩
    rw [symF, if_neg h, if_neg (by omega)]
    simp [sv, List.getD, hk]
mutual
/-- a tree of a grammar -/
def validT (g : Gr) : Tr → Bool
  | ⟨r, t, ks⟩ => (symF g ⟨r, t, ks⟩).2 && (decide (r = -1) || validL g ks (g.rs.getD r.toNat ⟨0, []⟩).r)
def validL (g : Gr) : List Tr → List Sy → Bool
  | [], [] => true
  | k :: ks, s :: ss => (symF g k).2 && decide ((symF g k).1 = s) && validT g k && validL g ks ss
  | _, _ => false
end
theorem validT_eq (g : Gr) (x : Tr) : validT g x = ((symF g x).2 && (decide (x.rule = -1) || validL g x.kids (g.rs.getD x.rule.toNat ⟨0, []⟩).r)) := by
  cases x
  simp only [validT, Tr.rule, Tr.kids]
  congr
theorem validL_len {g : Gr} : ∀ {ks : List Tr} {ss : List Sy}, ks.length ≠ ss.length → validL g ks ss = false
  | [], [], h => absurd rfl h
  | [], s :: ss, _ => by simp [validL]
  | k :: ks, [], _ => by simp [validL]
  | k :: ks, s :: ss, h => by
    have := validL_len (g := g) (ks := ks) (ss := ss) (by simpa using h)
    simp [validL, this]
theorem validL_iff {g : Gr} : ∀ {ks : List Tr} {ss : List Sy}, ks.length = ss.length → (validL g ks ss = true ↔ ∀ (i : Nat) (hi : i < ks.length) (hj : i < ss.length), (symF g ks[i]).2 = true ∧ (symF g ks[i]).1 = ss[i] ∧ validT g ks[i] = true)
  | [], [], _ => by simp [validL]
  | k :: ks, s :: ss, h => by
    have ih := validL_iff (g := g) (ks := ks) (ss := ss) (by simpa using h)
    simp only [validL, Bool.and_eq_true, decide_eq_true_eq, ih]
    constructor
    · rintro ⟨⟨⟨h1, h2⟩, h3⟩, h4⟩ i hi hj
      cases i with
      | zero => exact ⟨h1, h2, h3⟩
      | succ i => exact h4 i (by simpa using hi) (by simpa using hj)
    · intro hall
      have h0 := hall 0 (by simp) (by simp)
      exact ⟨⟨⟨h0.1, h0.2.1⟩, h0.2.2⟩, fun i hi hj => hall (i + 1) (by simpa using hi) (by simpa using hj)⟩
theorem tree_valid {Γr : Ctx} {g : Gr} {B : Option Addr} {d : Nat} (hg : SlOk (lk Γr) B d g.rs) (x : Tr) : ∀ {A : Option Addr} {c : Nat}, SlOk (lk Γr) A c x.kids → numT x ≤ 1048576 →
    Ret Try.prog 140 [.agg #[.int .i64 g.ts, .int .i64 g.ns, .int .i64 g.st, .slice B g.rs.length d], .agg #[.int .i64 x.rule, .int .i64 x.term, .slice A x.kids.length c]] Γr [] (fun v Γ => Γ = [] ∧ v = .bool (validT g x)) := by
  refine Tr.ind (p := fun x => ∀ {A : Option Addr} {c : Nat}, SlOk (lk Γr) A c x.kids → numT x ≤ 1048576 → Ret Try.prog 140 [.agg #[.int .i64 g.ts, .int .i64 g.ns, .int .i64 g.st, .slice B g.rs.length d], .agg #[.int .i64 x.rule, .int .i64 x.term, .slice A x.kids.length c]] Γr [] (fun v Γ => Γ = [] ∧ v = .bool (validT g x))) (fun x ih A c hx hn => ?_) x
  generalize hR : (fun (v : Value) (Γ : Ctx) => Γ = [] ∧ _) = R
  refine ret_of_vc tr140 (Nat.le_of_ble_eq_true rfl) ?_
  have hn1 := numT_eq x
  have hlen := numL_len x.kids
  simp -implicitDefEqProofs only [S140, S140_0, go_sem, Nat.reduceBEq, Nat.reduceAdd, Nat.reduceSub, Nat.reduceMul, Nat.reduceLeDiff, reduceCtorEq, ↓reduceIte, Int.reduceLT, Int.reduceLE, Int.reduceEq, Int.reduceNe]
  intro b1 b2
  refine CallVC.read (tree_symbol hg x (by omega)) ?_
  rintro v Γ' ⟨rfl, rfl⟩
  simp -implicitDefEqProofs only [sv, go_sem, Nat.reduceBEq, Nat.reduceAdd, Nat.reduceSub, Nat.reduceMul, Nat.reduceLeDiff, reduceCtorEq, ↓reduceIte, Int.reduceLT, Int.reduceLE, Int.reduceEq, Int.reduceNe]
  cases hsy : (symF g x).2 with
  | false =>
    simp -implicitDefEqProofs only [go_sem, Nat.reduceBEq, Nat.reduceAdd, Nat.reduceSub, Nat.reduceMul, Nat.reduceLeDiff, reduceCtorEq, ↓reduceIte, Int.reduceLT, Int.reduceLE, Int.reduceEq, Int.reduceNe]
    refine ⟨.bool false, ?_⟩
    simp -implicitDefEqProofs only [go_sem, Nat.reduceBEq, Nat.reduceAdd, Nat.reduceSub, Nat.reduceMul, Nat.reduceLeDiff, reduceCtorEq, ↓reduceIte, Int.reduceLT, Int.reduceLE, Int.reduceEq, Int.reduceNe]
    refine Up.here ?_
    subst hR
    refine ⟨rfl, ?_⟩
    rw [validT_eq, hsy]
    rfl
  | true =>
    simp -implicitDefEqProofs only [go_sem, Nat.reduceBEq, Nat.reduceAdd, Nat.reduceSub, Nat.reduceMul, Nat.reduceLeDiff, reduceCtorEq, ↓reduceIte, Int.reduceLT, Int.reduceLE, Int.reduceEq, Int.reduceNe]
    refine CallVC.read (tree_leaf _ _ _ _ _) ?_
    rintro v Γ' ⟨rfl, rfl⟩
    simp -implicitDefEqProofs only [go_sem, Nat.reduceBEq, Nat.reduceAdd, Nat.reduceSub, Nat.reduceMul, Nat.reduceLeDiff, reduceCtorEq, ↓reduceIte, Int.reduceLT, Int.reduceLE, Int.reduceEq, Int.reduceNe]
    refine ⟨fun h => Up.here ?_, fun h => ?_⟩
    · subst hR
      refine ⟨rfl, ?_⟩
      rw [validT_eq, hsy, h]
      rfl
    have hr : 0 ≤ x.rule ∧ x.rule < g.rs.length := by
      rw [symF, if_neg h] at hsy
      split at hsy
      · cases hsy
      · omega
    have hk : x.rule.toNat < g.rs.length := by omega
    have hV : validT g x = validL g x.kids g.rs[x.rule.toNat].r := by
      rw [validT_eq, hsy]
      simp [h, List.getD, hk]
    obtain ⟨b, o, hB, A2, c2, hs2, hc2⟩ := hg.ru hk
    have hsh := hs2.short
    generalize g.rs[x.rule.toNat].r = rr at *
    refine s_idx hB (by omega) (by omega) ?_
    simp -implicitDefEqProofs only [go_sem, Nat.reduceBEq, Nat.reduceAdd, Nat.reduceSub, Nat.reduceMul, Nat.reduceLeDiff, reduceCtorEq, ↓reduceIte, Int.reduceLT, Int.reduceLE, Int.reduceEq, Int.reduceNe]
    refine s_ld (j := 1) (hc2 _ (Mem.le.refl _)) (by simp) (by simp) ?_
    simp -implicitDefEqProofs only [go_sem, Nat.reduceBEq, Nat.reduceAdd, Nat.reduceSub, Nat.reduceMul, Nat.reduceLeDiff, reduceCtorEq, ↓reduceIte, Int.reduceLT, Int.reduceLE, Int.reduceEq, Int.reduceNe]
    refine ⟨fun hne => Up.here ?_, fun heq => ?_⟩
    · subst hR
      exact ⟨rfl, by rw [hV, validL_len (by omega)]⟩
    have hll : x.kids.length = rr.length := by omega
    refine s_loop (fun f vs Γ => Γ = [] ∧ ∃ k : Nat, vs = [.v true (.int .i64 k)] ∧ k + f = x.kids.length ∧ ∀ (i : Nat) (hi : i < x.kids.length) (hj : i < rr.length), i < k → (symF g x.kids[i]).2 = true ∧ (symF g x.kids[i]).1 = rr[i] ∧ validT g x.kids[i] = true) x.kids.length (Up.here ⟨rfl, 0, rfl, by omega, fun i _ _ h => by omega⟩) ?_
    rintro f vs Γ ⟨rfl, k, rfl, hkf, hall⟩
    simp -implicitDefEqProofs only [S140_1, go_sem, Nat.reduceBEq, Nat.reduceAdd, Nat.reduceSub, Nat.reduceMul, Nat.reduceLeDiff, reduceCtorEq, ↓reduceIte, Int.reduceLT, Int.reduceLE, Int.reduceEq, Int.reduceNe]
    refine ⟨fun hlt => ?_, fun hge => ?_⟩
    · have hki : k < x.kids.length := by omega
      have hkj : k < rr.length := by omega
      have hm := List.getElem_mem hki
      have hnk := numL_mem hm
      have hn2 := numT_eq x.kids[k]
      have hl2 := numL_len x.kids[k].kids
      obtain ⟨b5, o5, hA5, A6, c6, hs6, hc6⟩ := hx.tr hki
      obtain ⟨b7, o7, hA7, hc7⟩ := hs2.sy hkj
      refine s_idx hA5 (by omega) (by omega) ?_
      simp -implicitDefEqProofs only [go_sem, Nat.reduceBEq, Nat.reduceAdd, Nat.reduceSub, Nat.reduceMul, Nat.reduceLeDiff, reduceCtorEq, ↓reduceIte, Int.reduceLT, Int.reduceLE, Int.reduceEq, Int.reduceNe]
      refine s_ld0 (hc6 _ (Mem.le.refl _)) (by simp) (by simp) ?_
      simp -implicitDefEqProofs only [go_sem, Nat.reduceBEq, Nat.reduceAdd, Nat.reduceSub, Nat.reduceMul, Nat.reduceLeDiff, reduceCtorEq, ↓reduceIte, Int.reduceLT, Int.reduceLE, Int.reduceEq, Int.reduceNe]
      intro b8
      refine CallVC.read (tree_symbol hg x.kids[k] (by omega)) ?_
      rintro v Γ' ⟨rfl, rfl⟩
      cases hsk : symF g x.kids[k] with
      | mk y ok =>
      have hfail : ¬ (ok = true ∧ y = rr[k] ∧ validT g x.kids[k] = true) → validT g x = false := fun q => by
        cases hv : validL g x.kids rr with
        | false => rw [hV, hv]
        | true =>
          exfalso
          have := (validL_iff hll).1 hv k hki hkj
          rw [hsk] at this
          exact q this
      simp -implicitDefEqProofs only [sv, go_sem, Nat.reduceBEq, Nat.reduceAdd, Nat.reduceSub, Nat.reduceMul, Nat.reduceLeDiff, reduceCtorEq, ↓reduceIte, Int.reduceLT, Int.reduceLE, Int.reduceEq, Int.reduceNe]
      cases ok with
      | false =>
        simp -implicitDefEqProofs only [go_sem, Nat.reduceBEq, Nat.reduceAdd, Nat.reduceSub, Nat.reduceMul, Nat.reduceLeDiff, reduceCtorEq, ↓reduceIte, Int.reduceLT, Int.reduceLE, Int.reduceEq, Int.reduceNe]
        intro b9
        refine s_idxg (b := 0) (o := 0) (by simp) ?_
        simp -implicitDefEqProofs only [go_sem, Nat.reduceBEq, Nat.reduceAdd, Nat.reduceSub, Nat.reduceMul, Nat.reduceLeDiff, reduceCtorEq, ↓reduceIte, Int.reduceLT, Int.reduceLE, Int.reduceEq, Int.reduceNe]
        refine s_ldg0 (cs := [.bool false, .int .i64 0]) (by simp) (by simp) (by simp) (by simp) ?_
        simp -implicitDefEqProofs only [go_sem, Nat.reduceBEq, Nat.reduceAdd, Nat.reduceSub, Nat.reduceMul, Nat.reduceLeDiff, reduceCtorEq, ↓reduceIte, Int.reduceLT, Int.reduceLE, Int.reduceEq, Int.reduceNe]
        refine ⟨.bool false, fun h => absurd h (by simp), ?_⟩
        simp -implicitDefEqProofs only [go_sem, Nat.reduceBEq, Nat.reduceAdd, Nat.reduceSub, Nat.reduceMul, Nat.reduceLeDiff, reduceCtorEq, ↓reduceIte, Int.reduceLT, Int.reduceLE, Int.reduceEq, Int.reduceNe]
        refine ⟨.bool false, ?_⟩
        simp -implicitDefEqProofs only [go_sem, Nat.reduceBEq, Nat.reduceAdd, Nat.reduceSub, Nat.reduceMul, Nat.reduceLeDiff, reduceCtorEq, ↓reduceIte, Int.reduceLT, Int.reduceLE, Int.reduceEq, Int.reduceNe]
        refine Up.here ?_
        subst hR
        exact ⟨rfl, by rw [hfail (by simp)]⟩
      | true =>
        simp -implicitDefEqProofs only [go_sem, Nat.reduceBEq, Nat.reduceAdd, Nat.reduceSub, Nat.reduceMul, Nat.reduceLeDiff, reduceCtorEq, ↓reduceIte, Int.reduceLT, Int.reduceLE, Int.reduceEq, Int.reduceNe]
        intro b9
        refine s_idx hA7 (by omega) (by omega) ?_
        simp -implicitDefEqProofs only [go_sem, Nat.reduceBEq, Nat.reduceAdd, Nat.reduceSub, Nat.reduceMul, Nat.reduceLeDiff, reduceCtorEq, ↓reduceIte, Int.reduceLT, Int.reduceLE, Int.reduceEq, Int.reduceNe]
        refine s_ld0 (hc7 _ (Mem.le.refl _)) (by simp) (by simp) ?_
        simp -implicitDefEqProofs only [go_sem, Nat.reduceBEq, Nat.reduceAdd, Nat.reduceSub, Nat.reduceMul, Nat.reduceLeDiff, reduceCtorEq, ↓reduceIte, Int.reduceLT, Int.reduceLE, Int.reduceEq, Int.reduceNe]
        refine s_q trivial (qr_neqsy y rr[k] _ _ _) ?_
        simp -implicitDefEqProofs only [go_sem, Nat.reduceBEq, Nat.reduceAdd, Nat.reduceSub, Nat.reduceMul, Nat.reduceLeDiff, reduceCtorEq, ↓reduceIte, Int.reduceLT, Int.reduceLE, Int.reduceEq, Int.reduceNe]
        by_cases e : y = rr[k]
        · refine ⟨fun _ => ⟨e, ?_⟩, fun h => by simp [e] at h⟩
          have e1 : decide (y = rr[k]) = true := decide_eq_true e
          simp -implicitDefEqProofs only [e1, go_sem, Nat.reduceBEq, Nat.reduceAdd, Nat.reduceSub, Nat.reduceMul, Nat.reduceLeDiff, reduceCtorEq, ↓reduceIte, Int.reduceLT, Int.reduceLE, Int.reduceEq, Int.reduceNe]
          refine CallVC.read (ih _ hm hs6 (by omega)) ?_
          rintro v Γ' ⟨rfl, rfl⟩
          simp -implicitDefEqProofs only [go_sem, Nat.reduceBEq, Nat.reduceAdd, Nat.reduceSub, Nat.reduceMul, Nat.reduceLeDiff, reduceCtorEq, ↓reduceIte, Int.reduceLT, Int.reduceLE, Int.reduceEq, Int.reduceNe]
          refine ⟨fun hv => Up.here ?_, fun hv => ?_⟩
          · subst hR
            exact ⟨rfl, by rw [hfail (by simp [hv])]⟩
          · simp (disch := omega) only [wrap_id]
            refine ⟨f - 1, by omega, Up.here ⟨rfl, k + 1, rfl, by omega, fun i hi hj hik => ?_⟩⟩
            by_cases ei : i = k
            · subst ei
              rw [hsk]
              exact ⟨rfl, e, hv⟩
            · exact hall i hi hj (by omega)
        · refine ⟨fun h => absurd h e, fun _ => ⟨.bool false, ?_⟩⟩
          have e1 : decide (y = rr[k]) = false := decide_eq_false e
          simp -implicitDefEqProofs only [e1, go_sem, Nat.reduceBEq, Nat.reduceAdd, Nat.reduceSub, Nat.reduceMul, Nat.reduceLeDiff, reduceCtorEq, ↓reduceIte, Int.reduceLT, Int.reduceLE, Int.reduceEq, Int.reduceNe]
          refine Up.here ?_
          subst hR
          exact ⟨rfl, by rw [hfail (by simp [e])]⟩
    · have hk : k = x.kids.length := by omega
      refine Up.here ?_
      subst hR
      refine ⟨rfl, ?_⟩
      rw [hV, (validL_iff hll).2 fun i hi hj => hall i hi hj (by omega)]
/-- the first error of a tree -/
def tcF (g : Gr) (x : Tr) : Int := if ckF g ≠ 0 then ckF g else if 5000 < szT x then 2 else if validT g x then 0 else 3
theorem tree_check {Γr : Ctx} {g : Gr} {B : Option Addr} {d : Nat} (hg : SlOk (lk Γr) B d g.rs) (x : Tr) {A : Option Addr} {c : Nat} (hx : SlOk (lk Γr) A c x.kids) (hn : numT x ≤ 1048576) :
    Ret Try.prog 69 [.agg #[.int .i64 g.ts, .int .i64 g.ns, .int .i64 g.st, .slice B g.rs.length d], .agg #[.int .i64 x.rule, .int .i64 x.term, .slice A x.kids.length c]] Γr [] (fun v Γ => Γ = [] ∧ v = .int .i64 (tcF g x)) := by
  generalize hR : (fun (v : Value) (Γ : Ctx) => Γ = [] ∧ _) = R
  refine ret_of_vc tr69 (Nat.le_of_ble_eq_true rfl) ?_
  simp -implicitDefEqProofs only [S69, S69_0, go_sem, Nat.reduceBEq, Nat.reduceAdd, Nat.reduceSub, Nat.reduceMul, Nat.reduceLeDiff, reduceCtorEq, ↓reduceIte, Int.reduceLT, Int.reduceLE, Int.reduceEq, Int.reduceNe]
  intro b1 b2
  refine CallVC.read (gram_check hg) ?_
  rintro v Γ' ⟨rfl, rfl⟩
  simp -implicitDefEqProofs only [go_sem, Nat.reduceBEq, Nat.reduceAdd, Nat.reduceSub, Nat.reduceMul, Nat.reduceLeDiff, reduceCtorEq, ↓reduceIte, Int.reduceLT, Int.reduceLE, Int.reduceEq, Int.reduceNe]
  refine ⟨fun h => Up.here ?_, fun h => ?_⟩
  · subst hR
    exact ⟨rfl, by rw [tcF, if_pos h]⟩
  refine CallVC.read (tree_size x hx hn) ?_
  rintro v Γ' ⟨rfl, rfl⟩
  simp -implicitDefEqProofs only [go_sem, Nat.reduceBEq, Nat.reduceAdd, Nat.reduceSub, Nat.reduceMul, Nat.reduceLeDiff, reduceCtorEq, ↓reduceIte, Int.reduceLT, Int.reduceLE, Int.reduceEq, Int.reduceNe]
  refine ⟨fun h2 => Up.here ?_, fun h2 => ?_⟩
  · subst hR
    exact ⟨rfl, by rw [tcF, if_neg (by simpa using h), if_pos (by omega)]⟩
  refine CallVC.read (tree_valid hg x hx hn) ?_
  rintro v Γ' ⟨rfl, rfl⟩
  simp -implicitDefEqProofs only [go_sem, Nat.reduceBEq, Nat.reduceAdd, Nat.reduceSub, Nat.reduceMul, Nat.reduceLeDiff, reduceCtorEq, ↓reduceIte, Int.reduceLT, Int.reduceLE, Int.reduceEq, Int.reduceNe]
  refine ⟨fun h3 => Up.here ?_, fun h3 => Up.here ?_⟩
  · subst hR
    exact ⟨rfl, by rw [tcF, if_neg (by simpa using h), if_neg (by omega), if_neg (by simp [h3])]⟩
  · subst hR
    exact ⟨rfl, by rw [tcF, if_neg (by simpa using h), if_neg (by omega), if_pos h3]⟩
end Go.Proofs.Ytniobbepliknmaa.V
/- Trees of a grammar stand in the lists: the plain law; no condition. -/
namespace Go.Proofs.Ytniobbepliknmaa.V
open Go
set_option linter.unusedVariables false
set_option linter.unusedSimpArgs false

mutual
def wdT : Tr → List Int
  | ⟨r, t, ks⟩ => if r = -1 then [t] else wdL ks
def wdL : List Tr → List Int
  | [] => []
  | k :: ks => wdT k ++ wdL ks
end
theorem wdT_eq (x : Tr) : wdT x = if x.rule = -1 then [x.term] else wdL x.kids := by
  cases x
  simp only [wdT, Tr.rule, Tr.term, Tr.kids]
  congr
theorem wdL_append (a b : List Tr) : wdL (a ++ b) = wdL a ++ wdL b := by
  induction a with
  | nil => simp [wdL]
  | cons k a ih => simp only [List.cons_append, wdL, ih, List.append_assoc]
theorem wdL_le {ks : List Tr} (h : ∀ k ∈ ks, (wdT k).length ≤ numT k) : (wdL ks).length ≤ numL ks := by
  induction ks with
  | nil => simp [wdL, numL]
  | cons k ks ih =>
    have := h k (by simp)
    have := ih fun x hx => h x (by simp [hx])
    simp only [wdL, numL, List.length_append]
    omega
theorem wdT_le (x : Tr) : (wdT x).length ≤ numT x := by
  refine Tr.ind (p := fun x => (wdT x).length ≤ numT x) (fun x ih => ?_) x
  rw [wdT_eq, numT_eq]
  split
  · simp
  · have := wdL_le ih
    omega
theorem rowL_mem {L : Int → Nat → List Tr} : ∀ {ks : List Tr} {l : List Sy}, ks.length = l.length → (∀ (i : Nat) k s, ks[i]? = some k → l[i]? = some s → k ∈ symL L s (wdT k).length) → ks ∈ rowL L l (wdL ks).length
  | [], [], _, _ => by simp [rowL, wdL]
  | [], s :: l, h, _ => by simp at h
  | k :: ks, [], h, _ => by simp at h
  | k :: ks, s :: l, h, hm => by
    have h1 := hm 0 k s rfl rfl
    have h2 := rowL_mem (L := L) (ks := ks) (l := l) (by simpa using h) (fun i k' s' q1 q2 => hm (i + 1) k' s' (by simpa using q1) (by simpa using q2))
    rw [rowL, wdL, List.length_append]
    refine List.mem_flatMap.2 ⟨(wdT k).length, List.mem_range.2 (by omega), List.mem_flatMap.2 ⟨k, h1, List.mem_map.2 ⟨ks, ?_, rfl⟩⟩⟩
    rw [show (wdT k).length + (wdL ks).length - (wdT k).length = (wdL ks).length by omega]
    exact h2
theorem valid_leaf {g : Gr} {x : Tr} (h : validT g x = true) (hr : x.rule = -1) : (symF g x).1 = ⟨true, x.term⟩ ∧ x = ⟨-1, x.term, []⟩ := by
  rw [validT_eq] at h
  simp only [Bool.and_eq_true] at h
  have h1 := h.1
  unfold symF at h1 ⊢
  rw [if_pos hr] at h1 ⊢
  simp only [decide_eq_true_eq] at h1
  refine ⟨rfl, Tr.ext hr rfl ?_⟩
  exact List.length_eq_zero_iff.1 h1.2.2
theorem valid_node {g : Gr} {x : Tr} (h : validT g x = true) (hr : x.rule ≠ -1) : ∃ (p : Nat) (hp : p < g.rs.length), x.rule = p ∧ x.term = 0 ∧ (symF g x).1 = ⟨false, g.rs[p].l⟩ ∧ validL g x.kids g.rs[p].r = true := by
  rw [validT_eq] at h
  simp only [Bool.and_eq_true] at h
  obtain ⟨h1, h2⟩ := h
  have h2 : validL g x.kids (g.rs.getD x.rule.toNat ⟨0, []⟩).r = true := by simpa [hr] using h2
  by_cases hb : x.rule < 0 ∨ (g.rs.length : Int) ≤ x.rule
  · unfold symF at h1
    rw [if_neg hr, if_pos hb] at h1
    cases h1
  · have hp : x.rule.toNat < g.rs.length := by omega
    have e : g.rs.getD x.rule.toNat ⟨0, []⟩ = g.rs[x.rule.toNat] := by simp [List.getD_eq_getElem?_getD, hp]
    rw [e] at h2
    refine ⟨x.rule.toNat, hp, by omega, ?_, ?_, h2⟩
    · unfold symF at h1
      rw [if_neg hr, if_neg hb] at h1
      simpa using h1
    · unfold symF
      rw [if_neg hr, if_neg hb, e]
theorem validL_all {g : Gr} {ks : List Tr} {l : List Sy} (h : validL g ks l = true) : ks.length = l.length ∧ ∀ (i : Nat) k s, ks[i]? = some k → l[i]? = some s → validT g k = true ∧ (symF g k).1 = s := by
  have hl : ks.length = l.length := Classical.byContradiction fun e => by
    rw [validL_len e] at h
    cases h
  refine ⟨hl, fun i k s h1 h2 => ?_⟩
  obtain ⟨q1, rfl⟩ := List.getElem?_eq_some_iff.1 h1
  obtain ⟨q2, rfl⟩ := List.getElem?_eq_some_iff.1 h2
  obtain ⟨_, w2, w3⟩ := (validL_iff hl).1 h i q1 q2
  exact ⟨w3, w2⟩
theorem rulL_mem {L : Int → Nat → List Tr} {a : Int} {k : Nat} : ∀ {rs : List Ru} {i p : Nat} {ks : List Tr} (hp : p < rs.length), rs[p].l = a → ks ∈ rowL L rs[p].r k → (⟨((i + p : Nat) : Int), 0, ks⟩ : Tr) ∈ rulL L a k i rs
  | [], i, p, ks, hp, _, _ => by simp at hp
  | r :: rs, i, 0, ks, hp, h1, h2 => by
    have h1 : r.l = a := h1
    rw [rulL, if_pos h1]
    exact List.mem_append.2 (.inl (List.mem_map.2 ⟨ks, h2, rfl⟩))
  | r :: rs, i, p + 1, ks, hp, h1, h2 => by
    rw [rulL]
    have := rulL_mem (L := L) (a := a) (k := k) (rs := rs) (i := i + 1) (p := p) (ks := ks) (by simpa using hp) (by simpa using h1) (by simpa using h2)
    rw [show i + 1 + p = i + (p + 1) by omega] at this
    exact List.mem_append.2 (.inr this)
theorem kids_level {g : Gr} : ∀ {ks : List Tr}, (∀ k ∈ ks, ∃ h, k ∈ symL (lstT g h) (symF g k).1 (wdT k).length) → ∃ h, ∀ k ∈ ks, k ∈ symL (lstT g h) (symF g k).1 (wdT k).length
  | [], _ => ⟨0, by simp⟩
  | x :: ks, hk => by
    obtain ⟨h1, q1⟩ := hk x (by simp)
    obtain ⟨h2, q2⟩ := kids_level (ks := ks) (fun k hk' => hk k (by simp [hk']))
    refine ⟨max h1 h2, fun k hm => ?_⟩
    rcases List.mem_cons.1 hm with e | e
    · subst e
      exact (symL_sub (lstT_sub g (by omega)) _ _).subset q1
    · exact (symL_sub (lstT_sub g (by omega)) _ _).subset (q2 k e)
theorem valid_at {g : Gr} (x : Tr) : validT g x = true → ∃ h, x ∈ symL (lstT g h) (symF g x).1 (wdT x).length := by
  refine Tr.ind (p := fun x => validT g x = true → ∃ h, x ∈ symL (lstT g h) (symF g x).1 (wdT x).length) (fun x ih hv => ?_) x
  by_cases hr : x.rule = -1
  · obtain ⟨h1, h2⟩ := valid_leaf hv hr
    refine ⟨0, ?_⟩
    rw [h1, wdT_eq, if_pos hr]
    unfold symL
    rw [if_pos rfl, if_pos (show [x.term].length = 1 from rfl)]
    exact List.mem_singleton.2 h2
  · obtain ⟨p, hp, e1, e2, e3, e4⟩ := valid_node hv hr
    obtain ⟨hl, hall⟩ := validL_all e4
    obtain ⟨H, hH⟩ := kids_level (g := g) (ks := x.kids) (fun k hk => by
      obtain ⟨i, hi⟩ := List.mem_iff_getElem?.1 hk
      have hil := (List.getElem?_eq_some_iff.1 hi).1
      exact ih k hk (hall i k _ hi (List.getElem?_eq_getElem (by omega))).1)
    refine ⟨H + 1, ?_⟩
    rw [e3, wdT_eq, if_neg hr]
    have hm := rowL_mem (L := lstT g H) hl (fun i k s q1 q2 => by
      rw [← (hall i k s q1 q2).2]
      exact hH k (List.mem_of_getElem? q1))
    have := rulL_mem (i := 0) hp rfl hm
    rw [Nat.zero_add] at this
    have ex : (⟨(p : Int), 0, x.kids⟩ : Tr) = x := Tr.ext e1.symm e2.symm rfl
    rw [ex] at this
    exact this
theorem valid_row {g : Gr} {ks : List Tr} {l : List Sy} (h : validL g ks l = true) : ∃ H, ks ∈ rowL (lstT g H) l (wdL ks).length := by
  obtain ⟨hl, hall⟩ := validL_all h
  obtain ⟨H, hH⟩ := kids_level (g := g) (ks := ks) (fun k hk => by
    obtain ⟨i, hi⟩ := List.mem_iff_getElem?.1 hk
    have hil := (List.getElem?_eq_some_iff.1 hi).1
    exact valid_at k (hall i k _ hi (List.getElem?_eq_getElem (by omega))).1)
  exact ⟨H, rowL_mem hl (fun i k s q1 q2 => by
    rw [← (hall i k s q1 q2).2]
    exact hH k (List.mem_of_getElem? q1))⟩
theorem valid_pos {g : Gr} (V : VG g) {n : Nat} {x : Tr} (h : validT g x = true) (hn : (wdT x).length ≤ n) : 0 < symT (cntT g (mostN g n)) (symF g x).1 (wdT x).length := by
  obtain ⟨H, hH⟩ := valid_at x h
  have hl := symL_len (lstT_len g H) (symF g x).1 (wdT x).length
  have hp : 0 < symT (cntT g H) (symF g x).1 (wdT x).length := by
    rw [← hl]
    exact List.length_pos_of_mem hH
  unfold symT at hp ⊢
  split
  · rename_i e
    rw [if_pos e] at hp
    exact hp
  · rename_i e
    rw [if_neg e] at hp
    exact cnt_pos V _ hn hp
theorem validL_pos {g : Gr} (V : VG g) {n : Nat} {ks : List Tr} {l : List Sy} (h : validL g ks l = true) (hn : (wdL ks).length ≤ n) : 0 < rowT (cntT g (mostN g n)) l (wdL ks).length := by
  obtain ⟨H, hH⟩ := valid_row h
  have hl := rowL_len (lstT_len g H) l (wdL ks).length
  exact row_up (fun a k hk hp => cnt_pos V _ hk hp) l _ hn (by rw [← hl]; exact List.length_pos_of_mem hH)
end Go.Proofs.Ytniobbepliknmaa.V
/- The text of parlance/tree.word as a statement (slots: 0 out, 1 t, 2 out, 3 t, 5 _, 6 k); no condition. -/
namespace Go.Proofs.Ytniobbepliknmaa.V
open Go
def S166_1 : Stmt :=
 .seq
 (.region [.mk (some 18) none (.ibin .lss (.tmp 17) (.tmp 16))] [0,15,16,17,18])
 (.seq (.cond (.tmp 18) .skip (.exit 0))
 (.seq
 (.block 1
 (.seq
 (.region
 [.mk (some 19) none (.idx 3 (.tmp 15) (.tmp 17)),
 .mk (some 20) none (.load true 3 (.tmp 19)),
 .mk (some 6) none
 (.alloc true 106
 (.agg (Array.mk [.int .i64 0,.int .i64 0,.slice none 0 0]))),
 .mk none none (.store 3 (.tmp 6) (.tmp 20))]
 [0,6,15,16,17])
 (.region
 [.mk (some 21) none (.mv (.tmp 0)),
 .mk (some 22) none (.load true 3 (.tmp 6)),
 .mk (some 23) none (.call (.func 166) [.tmp 21,.tmp 22]),
 .mk (some 0) none (.mv (.tmp 23))]
 [0,15,16,17])))
 (.region
 [.mk (some 24) none (.ibin .add (.tmp 17) (.const (.int .i64 1))),
 .mk (some 17) none (.mv (.tmp 24))]
 [0,15,16,17])))
def S166_0 : Stmt :=
 .seq
 (.region
 [.mk (some 3) none (.box true 106 (.tmp 1)),
 .mk (some 4) none (.mv (.const (.slice none 0 0)))]
 [0,3])
 (.seq
 (.seq
 (.region
 [.mk (some 7) none (.load true 3 (.tmp 3)),
 .mk (some 8) none (.call (.func 139) [.tmp 7])]
 [0,3,8])
 (.cond (.tmp 8)
 (.seq
 (.region
 [.mk (some 9) none (.mv (.tmp 0)),.mk (some 10) none (.fld 1 (.tmp 3)),
 .mk (some 11) none (.load false 1 (.tmp 10)),
 .mk (some 12) none (.buildS 3 1 [.int .i64 0] [(0,1,.tmp 11)]),
 .mk (some 13) none (.append 29 3 1 8 (.int .i64 0) (.tmp 9) (.tmp 12)),
 .mk (some 4) none (.mv (.tmp 13))]
 [4])
 .ret)
 .skip))
 (.seq
 (.seq
 (.region
 [.mk (some 14) none (.fld 2 (.tmp 3)),
 .mk (some 15) none (.load false 1 (.tmp 14)),
 .mk (some 16) none (.len false (.tmp 15)),
 .mk (some 17) none (.mv (.const (.int .i64 0)))]
 [0,15,16,17])
 (.block 0 (.loop S166_1 [0,17] [15,16])))
 (.seq
 (.region
 [.mk (some 25) none (.mv (.tmp 0)),.mk (some 4) none (.mv (.tmp 25))] [4])
 .ret)))
def S166 : FnS := ⟨26,[(4,none)],S166_0⟩
theorem tr166 : trFn Try.prog 166 [3,6] [[0,3],[0,3,8],[4],[0,15,16,17],[0,17],[15,16],[0,15,16,17,18],[0,6,15,16,17],[0,15,16,17],[0,15,16,17],[4]] = some S166 := by kernel_rfl
end Go.Proofs.Ytniobbepliknmaa.V
/- The text of parlance/tree.Word as a statement (slots: 0 t, 1 t); no condition. -/
namespace Go.Proofs.Ytniobbepliknmaa.V
open Go
def S100_0 : Stmt :=
 .seq
 (.region
 [.mk (some 1) none (.box true 106 (.tmp 0)),
 .mk (some 2) none (.mv (.const (.slice none 0 0)))]
 [1])
 (.seq
 (.region
 [.mk (some 3) none (.load true 3 (.tmp 1)),
 .mk (some 4) none (.call (.func 166) [.const (.slice none 0 0),.tmp 3]),
 .mk (some 2) none (.mv (.tmp 4))]
 [2])
 .ret)
def S100 : FnS := ⟨5,[(2,none)],S100_0⟩
theorem tr100 : trFn Try.prog 100 [1] [[1],[2]] = some S100 := by kernel_rfl
end Go.Proofs.Ytniobbepliknmaa.V
/- The words of trees: tree.word, tree.Word walked; no condition. -/
namespace Go.Proofs.Ytniobbepliknmaa.V
open Go
set_option linter.unusedVariables false
set_option linter.unusedSimpArgs false
attribute [local go_sem] e_seq e_region e_quiet e_join e_loop e_cond e_block e_exit e_ret e_skip e_fin e_kseq e_snrm e_sret e_sex e_bnrm e_bret e_bex e_rnrm e_rret e_res e_condC e_nil e_g e_mv g_mv e_pick g_pick pickC_eq e_ibin g_ibin ibinC_eq e_sbin g_sbin e_beq g_beq beqC_eq e_nilq g_nilq nilqC_sl nilqC_pt nilqC_mp e_un g_un unC_not unC_neg e_conv g_conv convC_eq e_fld g_fld fldC_ref fldC_ptr e_nilCheck g_nilCheck nilCheckC_ref nilCheckC_ptr nilCheckC_fun e_field g_field fieldC_eq e_len g_len lenC_sl lenC_str e_extract g_extract extractC_eq e_mkFunc e_build g_build e_idiv g_idiv idivC_eq e_ishift g_ishift ishiftC_eq e_idx g_idx e_idxA g_idxA e_load g_load e_loadB g_loadB atB_ref atB_v g_mkFunc loadC_ref loadC_ptr loadB_eq e_slc g_slc e_box boxC_loc boxC_esc e_alloc allocC_loc allocC_esc e_buildS e_store storeC_ref storeC_ptr storeB_eq e_append e_appz e_mk mkC_eq e_call callC_eq e_fn g_fn fnC_eq fnV_min' fnV_max' fnV_rune' e_q g_q e_a e_n g_call g_box g_alloc g_buildS g_store g_append g_mk g_a g_n g_dead e_dead e_callK e_drawn e_tree e_finJ e_tk e_tfin e_tno e_nbt_q e_nbt_qn e_nbt_a e_nbt_an e_nbt_fin e_drawnB e_bxb_nil e_bxb e_stB_none e_stB_some boxSt_store bs_mv bs_pick bs_ibin bs_idiv bs_ishift bs_sbin bs_beq bs_nilq bs_un bs_conv bs_box bs_alloc bs_build bs_buildS bs_load bs_fld bs_nilCheck bs_idx bs_idxA bs_field bs_slc bs_len bs_append bs_appz bs_mk bs_call bs_extract bs_mkFunc bs_fn bs_q bs_a bs_n bs_loadB bs_dead isBox_box e_early_nil e_early_t e_early_f e_nob_nil e_nob_none e_nob_some isBox_dead isBox_v isBox_ref e_dnil e_dk e_ek e_finB vcOps_vc1 e_dcons e_tq e_ekt e_tearly e_talt e_dearly look_nil look_c proj_nil proj_c looks_nil looks_c zip_nil zip_c val_tmp val_const val_func slv_v slv_box slv_ref slot_tmp slot_const slot_func slotL_v slotL_box slotL_ref put_some put_none updBox_c boxSet_box gd_eq slotVals_nil slotVals_c slotVals_b boxV_box boxOn_box slotsOn_nil slotsOn_c slotsOn_b resV_one resV_two vals_nil vals_c allOn_nil allOn_c partOn_nil partOn_c partVals_nil partVals_c fits_nil fits_c fillL_nil fillL_c mkv_one mkv_agg cellsV_agg cellsV_int cellsV_bool cellsV_slice cellsV_string cellsV_pointer cellsV_func cellsV_nilf cellsV_map one'_nil one'_c oc_int oc_bool oc_slice oc_string oc_pointer oc_func oc_nilf oc_map setC_eq iv_add iv_sub iv_mul iv_eql iv_neq iv_lss iv_leq iv_gtr iv_geq iok_add iok_sub iok_mul iok_eql iok_neq iok_lss iok_leq iok_gtr iok_geq pickV_bool args0_nil args0_c bnd_none bnd_some imp_bt imp_bf imp_ebt imp_ebf imp_eb1 imp_np imp_pp beq_tt beq_tf beq_ft beq_ff cond_or cond_and e_round e_meet Int.le_refl Int.toNat_zero decide_true decide_false Bool.or_false Bool.false_or Bool.true_or Bool.or_true Bool.and_false Bool.false_and Bool.bne_false Bool.bne_true beq_iff_eq Int.cast_ofNat_Int not_false_eq_true not_true_eq_false false_and and_false false_implies true_implies true_and and_true Bool.true_and Bool.and_true Bool.not_true Bool.not_false forall_const implies_true List.take_zero List.drop_zero List.take_succ_cons List.drop_succ_cons List.take_nil List.drop_nil List.length_cons List.length_nil List.nil_append List.append_nil List.cons_append Int.toNat_natCast decide_eq_true_eq decide_eq_false_iff_not cond_true cond_false and_self List.getElem?_cons_zero List.getElem?_cons_succ List.set_cons_zero List.set_cons_succ Option.some.injEq exists_eq_left' Nat.zero_add Nat.add_zero Nat.mul_one imp_self true_or or_true or_false false_or Bool.or_eq_true Bool.or_eq_false_iff Bool.and_eq_true Bool.and_eq_false_iff Bool.not_eq_true' Bool.not_eq_false'

/-- an empty heap more is no harm -/
theorem Ret.emp {P : Program} {f : FuncId} {args : List Value} {Γr : Ctx} {R : Value → Ctx → Prop} (h : Ret P f args Γr [V.emp] R) : Ret P f args Γr [] R :=
  ⟨h.fn, fun w hs => (h.calls w ⟨fun g hg k o hk => by
    rcases List.mem_cons.1 hg with e | e
    · subst e; cases hk
    · exact hs.holds g e k o hk, List.pairwise_cons.2 ⟨fun x _ k => .inl rfl, hs.apart⟩⟩).mono fun e w' ⟨v, Γ', he, hR, hd⟩ => ⟨v, Γ', he, hR, ⟨hd.sat, fun g hg k hk => by
    rcases hd.own g hg k hk with q | ⟨x, hx, q⟩
    · exact .inl q
    · simp only [List.mem_singleton] at hx
      subst hx
      exact absurd rfl q, hd.os, hd.tape, hd.output, hd.size, fun k hk _ => hd.same k hk (fun x hx => by
      simp only [List.mem_singleton] at hx
      subst hx
      rfl)⟩⟩⟩
theorem tree_wd {Γr : Ctx} (x : Tr) : ∀ {A : Option Addr} {c : Nat}, SlOk (lk Γr) A c x.kids → numT x ≤ 1048576 → ∀ {go : PH} {v : Value} {xs : List Int}, Bld go (lk []) 3 v xs → xs.length + numT x ≤ 2000000 →
    Ret Try.prog 166 [v, .agg #[.int .i64 x.rule, .int .i64 x.term, .slice A x.kids.length c]] Γr [go] (fun v Γ => ∃ go', Γ = [go'] ∧ Bld go' (lk []) 3 v (xs ++ wdT x)) := by
  refine Tr.ind (p := fun x => ∀ {A : Option Addr} {c : Nat}, SlOk (lk Γr) A c x.kids → numT x ≤ 1048576 → ∀ {go : PH} {v : Value} {xs : List Int}, Bld go (lk []) 3 v xs → xs.length + numT x ≤ 2000000 →
    Ret Try.prog 166 [v, .agg #[.int .i64 x.rule, .int .i64 x.term, .slice A x.kids.length c]] Γr [go] (fun v Γ => ∃ go', Γ = [go'] ∧ Bld go' (lk []) 3 v (xs ++ wdT x))) (fun x ih A c hx hn go v xs hB hb => ?_) x
  generalize hR : (fun (v : Value) (Γ : Ctx) => ∃ go', _) = R
  obtain ⟨A0, c0, rfl⟩ := hB.val
  refine ret_of_vc tr166 (Nat.le_of_ble_eq_true rfl) ?_
  have hn1 := numT_eq x
  have hlen := numL_len x.kids
  simp -implicitDefEqProofs only [S166, S166_0, go_sem, Nat.reduceBEq, Nat.reduceAdd, Nat.reduceSub, Nat.reduceMul, Nat.reduceLeDiff, reduceCtorEq, ↓reduceIte, Int.reduceLT, Int.reduceLE, Int.reduceEq, Int.reduceNe]
  intro b1
  refine CallVC.read (tree_leaf _ _ _ _ _) ?_
  rintro v Γ' ⟨rfl, rfl⟩
  simp -implicitDefEqProofs only [go_sem, Nat.reduceBEq, Nat.reduceAdd, Nat.reduceSub, Nat.reduceMul, Nat.reduceLeDiff, reduceCtorEq, ↓reduceIte, Int.reduceLT, Int.reduceLE, Int.reduceEq, Int.reduceNe]
  refine ⟨fun h => ?_, fun h => ?_⟩
  · intro bk
    refine s_app1S (α := Int) (ix := 1) x.term rfl hB cells_one rfl (by omega) (by unfold maxLen; omega) ?_
    intro v' go' hB' _
    simp -implicitDefEqProofs only [go_sem, Nat.reduceBEq, Nat.reduceAdd, Nat.reduceSub, Nat.reduceMul, Nat.reduceLeDiff, reduceCtorEq, ↓reduceIte, Int.reduceLT, Int.reduceLE, Int.reduceEq, Int.reduceNe]
    refine Up.skip (Up.here ?_)
    subst hR
    rw [wdT_eq, if_pos h]
    exact ⟨go', rfl, hB'⟩
  · refine s_loop (fun f vs Γ => ∃ (go : PH) (v : Value) (k : Nat), vs = [.v true v, .v true (.int .i64 k)] ∧ Γ = [go] ∧ k + f = x.kids.length ∧ Bld go (lk []) 3 v (xs ++ wdL (x.kids.take k))) x.kids.length
      (Up.here ⟨go, _, 0, rfl, rfl, by omega, by simpa [wdL] using hB⟩) ?_
    clear hB
    rintro f vs Γ ⟨go, v, k, rfl, rfl, hkf, hB⟩
    obtain ⟨A0, c0, rfl⟩ := hB.val
    simp -implicitDefEqProofs only [S166_1, go_sem, Nat.reduceBEq, Nat.reduceAdd, Nat.reduceSub, Nat.reduceMul, Nat.reduceLeDiff, reduceCtorEq, ↓reduceIte, Int.reduceLT, Int.reduceLE, Int.reduceEq, Int.reduceNe]
    refine ⟨fun hlt => ?_, fun hge => ?_⟩
    · have hk : k < x.kids.length := by omega
      obtain ⟨b, o, hA, A', c', hs', hc⟩ := hx.tr hk
      have hm := List.getElem_mem hk
      have hst : wdL (x.kids.take (k + 1)) = wdL (x.kids.take k) ++ wdT x.kids[k] := by
        rw [List.take_succ_eq_append_getElem hk, wdL_append]
        simp [wdL]
      have hnk := numL_mem hm
      have hle : numL (x.kids.take k) + numT x.kids[k] ≤ numL x.kids := by
        have h1 : numL (x.kids.take (k + 1)) = numL (x.kids.take k) + numT x.kids[k] := by
          rw [List.take_succ_eq_append_getElem hk, numL_append]
          simp [numL]
        have h2 := numL_append (x.kids.take (k + 1)) (x.kids.drop (k + 1))
        rw [List.take_append_drop] at h2
        omega
      have hs1 : (wdL (x.kids.take k)).length ≤ numL (x.kids.take k) := wdL_le fun y _ => wdT_le y
      refine s_idx hA (by omega) (by omega) ?_
      simp -implicitDefEqProofs only [go_sem, Nat.reduceBEq, Nat.reduceAdd, Nat.reduceSub, Nat.reduceMul, Nat.reduceLeDiff, reduceCtorEq, ↓reduceIte, Int.reduceLT, Int.reduceLE, Int.reduceEq, Int.reduceNe]
      refine s_ld0 (hc _ (lk_r [go] _)) (by simp) (by simp) ?_
      simp -implicitDefEqProofs only [go_sem, Nat.reduceBEq, Nat.reduceAdd, Nat.reduceSub, Nat.reduceMul, Nat.reduceLeDiff, reduceCtorEq, ↓reduceIte, Int.reduceLT, Int.reduceLE, Int.reduceEq, Int.reduceNe]
      intro b5
      refine CallVC.perm (Γm := [go]) (Γf := []) (ih _ hm hs' (by omega) hB (by rw [List.length_append]; omega)) (List.Perm.refl _) (List.Sublist.refl _) ?_
      rintro v Γ' ⟨go', rfl, hB'⟩
      rw [List.append_assoc, ← hst] at hB'
      obtain ⟨A0, c0, rfl⟩ := hB'.val
      simp -implicitDefEqProofs only [go_sem, Nat.reduceBEq, Nat.reduceAdd, Nat.reduceSub, Nat.reduceMul, Nat.reduceLeDiff, reduceCtorEq, ↓reduceIte, Int.reduceLT, Int.reduceLE, Int.reduceEq, Int.reduceNe]
      simp (disch := omega) only [wrap_id]
      exact ⟨f - 1, by omega, Up.here ⟨go', _, k + 1, rfl, rfl, by omega, hB'⟩⟩
    · have hk : k = x.kids.length := by omega
      have he : wdL (x.kids.take k) = wdL x.kids := by rw [hk, List.take_length]
      refine Up.here ?_
      subst hR
      rw [wdT_eq, if_neg h, ← he]
      exact ⟨go, rfl, hB⟩
theorem tree_word {Γr : Ctx} (x : Tr) {A : Option Addr} {c : Nat} (hx : SlOk (lk Γr) A c x.kids) (hn : numT x ≤ 1048576) :
    Ret Try.prog 100 [.agg #[.int .i64 x.rule, .int .i64 x.term, .slice A x.kids.length c]] Γr [] (fun v Γ => ∃ go, Γ = [go] ∧ Bld go (lk []) 3 v (wdT x)) := by
  generalize hR : (fun (v : Value) (Γ : Ctx) => ∃ go, _) = R
  refine ret_of_vc tr100 (Nat.le_of_ble_eq_true rfl) ?_
  simp -implicitDefEqProofs only [S100, S100_0, go_sem, Nat.reduceBEq, Nat.reduceAdd, Nat.reduceSub, Nat.reduceMul, Nat.reduceLeDiff, reduceCtorEq, ↓reduceIte, Int.reduceLT, Int.reduceLE, Int.reduceEq, Int.reduceNe]
  intro b1
  refine CallVC.read (Ret.emp (tree_wd (Γr := [] ++ Γr) x hx hn (Bld.nil V.emp (lk []) 3) (by simp; omega))) ?_
  rintro v Γ' ⟨go, rfl, hB⟩
  rw [List.nil_append] at hB
  obtain ⟨A0, c0, rfl⟩ := hB.val
  simp -implicitDefEqProofs only [go_sem, Nat.reduceBEq, Nat.reduceAdd, Nat.reduceSub, Nat.reduceMul, Nat.reduceLeDiff, reduceCtorEq, ↓reduceIte, Int.reduceLT, Int.reduceLE, Int.reduceEq, Int.reduceNe]
  refine Up.here ?_
  subst hR
  exact ⟨go, rfl, hB⟩
end Go.Proofs.Ytniobbepliknmaa.V
/- The text of (*parlance/rank.book).of as a statement (slots: 0 b, 1 t, 2 n, 3 b, 4 t, 5 n, 7 i, 8 left, 9 k, 10 r); no condition. -/
namespace Go.Proofs.Ytniobbepliknmaa.V
open Go
def S165_1 : Stmt :=
 .block 1
 (.seq
 (.region
 [.mk (some 35) none (.mv (.tmp 33)),
 .mk (some 36) none (.idx 2 (.tmp 31) (.tmp 33)),
 .mk (some 37) none (.load true 2 (.tmp 36)),
 .mk (some 10) none
 (.alloc true 37 (.agg (Array.mk [.int .i64 0,.slice none 0 0]))),
 .mk (some 9) none (.mv (.tmp 35)),
 .mk none none (.store 2 (.tmp 10) (.tmp 37))]
 [0,2,4,7,8,9,10,31,32,33])
 (.seq
 (.region
 [.mk (some 38) none (.fld 0 (.tmp 10)),
 .mk (some 39) none (.load false 1 (.tmp 38)),.mk (some 40) none (.mv (.tmp 8)),
 .mk (some 41) none (.ibin .eql (.tmp 39) (.tmp 40))]
 [0,2,4,7,8,9,31,32,33,41])
 (.cond (.tmp 41)
 (.region
 [.mk (some 42) none (.mv (.tmp 7)),.mk (some 43) none (.mv (.tmp 0)),
 .mk (some 44) none (.mv (.tmp 9)),.mk (some 45) none (.mv (.tmp 2)),
 .mk (some 46) none
 (.call (.func 197)
 [.tmp 43,.tmp 44,.const (.int .i64 0),.tmp 45]),
 .mk (some 47) none (.ibin .add (.tmp 42) (.tmp 46)),
 .mk (some 7) none (.mv (.tmp 47))]
 [0,2,4,7,8,31,32,33])
 .skip)))
def S165_2 : Stmt :=
 .region
 [.mk (some 48) none (.ibin .add (.tmp 33) (.const (.int .i64 1))),
 .mk (some 33) none (.mv (.tmp 48))]
 [0,2,4,7,8,31,32,33]
def S165_3 : Stmt :=
 .seq
 (.region [.mk (some 34) none (.ibin .lss (.tmp 33) (.tmp 32))]
 [0,2,4,7,8,31,32,33,34])
 (.seq (.cond (.tmp 34) .skip (.exit 0)) (.join S165_1 S165_2 [7] [0,2,4,8,31,32,33]))
def S165_0 : Stmt :=
 .seq
 (.region
 [.mk (some 4) none (.box true 106 (.tmp 1)),
 .mk (some 6) none (.mv (.const (.int .i64 0)))]
 [0,2,4])
 (.seq
 (.seq
 (.region
 [.mk (some 11) none (.fld 0 (.tmp 4)),
 .mk (some 12) none (.load false 1 (.tmp 11)),
 .mk (some 13) none (.ibin .lss (.tmp 12) (.const (.int .i64 0)))]
 [0,2,4,13])
 (.cond (.tmp 13)
 (.seq (.region [.mk (some 6) none (.mv (.const (.int .i64 0)))] [6])
 .ret)
 .skip))
 (.seq (.region [.mk (some 7) none (.mv (.const (.int .i64 0)))] [0,2,4,7])
 (.seq
 (.quiet
 [.mk (some 14) none (.mv (.tmp 0)),.mk (some 15) none (.nilCheck (.tmp 14)),
 .mk (some 16) none (.fld 0 (.tmp 15)),.mk (some 17) none (.fld 3 (.tmp 16)),
 .mk (some 18) none (.load false 1 (.tmp 17)),
 .mk (some 19) none (.fld 0 (.tmp 4)),
 .mk (some 20) none (.load false 1 (.tmp 19)),
 .mk (some 21) none (.idx 2 (.tmp 18) (.tmp 20)),
 .mk (some 22) none (.fld 0 (.tmp 21)),
 .mk (some 23) none (.load false 1 (.tmp 22)),
 .mk (some 8) none (.mv (.tmp 23))]
 [0,2,4,7,8])
 (.seq
 (.seq
 (.quiet
 [.mk (some 24) none (.mv (.tmp 0)),
 .mk (some 25) none (.nilCheck (.tmp 24)),
 .mk (some 26) none (.fld 0 (.tmp 25)),
 .mk (some 27) none (.fld 3 (.tmp 26)),
 .mk (some 28) none (.load false 1 (.tmp 27)),
 .mk (some 29) none (.fld 0 (.tmp 4)),
 .mk (some 30) none (.load false 1 (.tmp 29)),
 .mk (some 31) none (.slc 2 (.tmp 28) none (some (.tmp 30)) none),
 .mk (some 32) none (.len false (.tmp 31)),
 .mk (some 33) none (.mv (.const (.int .i64 0)))]
 [0,2,4,7,8,31,32,33])
 (.block 0 (.loop S165_3 [7,33] [0,2,4,8,31,32])))
 (.seq
 (.region
 [.mk (some 49) none (.mv (.tmp 7)),.mk (some 50) none (.mv (.tmp 0)),
 .mk (some 51) none (.fld 0 (.tmp 4)),
 .mk (some 52) none (.load false 1 (.tmp 51)),
 .mk (some 53) none (.fld 2 (.tmp 4)),
 .mk (some 54) none (.load false 1 (.tmp 53)),
 .mk (some 55) none (.mv (.tmp 2)),
 .mk (some 56) none
 (.call (.func 198) [.tmp 50,.tmp 52,.tmp 54,.tmp 55]),
 .mk (some 57) none (.ibin .add (.tmp 49) (.tmp 56)),
 .mk (some 6) none (.mv (.tmp 57))]
 [6])
 .ret)))))
def S165 : FnS := ⟨58,[(6,none)],S165_0⟩
theorem tr165 : trFn Try.prog 165 [4,10] [[0,2,4],[0,2,4,13],[6],[0,2,4,7],[0,2,4,7,8],[0,2,4,7,8,31,32,33],[7,33],[0,2,4,8,31,32],[0,2,4,7,8,31,32,33,34],[7],[0,2,4,8,31,32,33],[0,2,4,7,8,9,10,31,32,33],[0,2,4,7,8,9,31,32,33,41],[0,2,4,7,8,31,32,33],[0,2,4,7,8,31,32,33],[6]] = some S165 := by kernel_rfl
end Go.Proofs.Ytniobbepliknmaa.V
/- The text of (*parlance/rank.book).ofKids as a statement (slots: 0 b, 1 i, 2 kids, 3 n, 4 b, 5 i, 6 kids, 7 n, 9 p, 10 m, 11 x, 12 j); no condition. -/
namespace Go.Proofs.Ytniobbepliknmaa.V
open Go
def S198_1 : Stmt :=
 .seq
 (.region [.mk (some 36) none (.ibin .lss (.tmp 35) (.tmp 34))]
 [0,1,2,3,9,10,11,34,35,36])
 (.seq (.cond (.tmp 36) .skip (.exit 0))
 (.seq
 (.block 1
 (.seq
 (.region
 [.mk (some 37) none (.mv (.tmp 35)),.mk (some 12) none (.mv (.tmp 37))]
 [0,1,2,3,9,10,11,12,34,35])
 (.region
 [.mk (some 38) none (.mv (.tmp 11)),.mk (some 39) none (.mv (.tmp 0)),
 .mk (some 40) none (.mv (.tmp 1)),.mk (some 41) none (.mv (.tmp 9)),
 .mk (some 42) none (.mv (.tmp 12)),.mk (some 43) none (.mv (.tmp 3)),
 .mk (some 44) none
 (.call (.func 211)
 [.tmp 39,.tmp 40,.tmp 41,.tmp 42,.tmp 43]),
 .mk (some 45) none (.ibin .add (.tmp 38) (.tmp 44)),
 .mk (some 11) none (.mv (.tmp 45))]
 [0,1,2,3,9,10,11,34,35])))
 (.region
 [.mk (some 46) none (.ibin .add (.tmp 35) (.const (.int .i64 1))),
 .mk (some 35) none (.mv (.tmp 46))]
 [0,1,2,3,9,10,11,34,35])))
def S198_0 : Stmt :=
 .seq (.region [.mk (some 8) none (.mv (.const (.int .i64 0)))] [0,1,2,3])
 (.seq
 (.seq
 (.region
 [.mk (some 13) none (.mv (.tmp 2)),.mk (some 14) none (.len false (.tmp 13)),
 .mk (some 15) none (.ibin .eql (.tmp 14) (.const (.int .i64 0)))]
 [0,1,2,3,15])
 (.cond (.tmp 15)
 (.seq (.region [.mk (some 8) none (.mv (.const (.int .i64 0)))] [8])
 .ret)
 .skip))
 (.seq
 (.region
 [.mk (some 16) none (.mv (.tmp 0)),.mk (some 17) none (.nilCheck (.tmp 16)),
 .mk (some 18) none (.fld 0 (.tmp 17)),.mk (some 19) none (.fld 3 (.tmp 18)),
 .mk (some 20) none (.load false 1 (.tmp 19)),.mk (some 21) none (.mv (.tmp 1)),
 .mk (some 22) none (.idx 2 (.tmp 20) (.tmp 21)),
 .mk (some 23) none (.fld 1 (.tmp 22)),
 .mk (some 24) none (.load false 1 (.tmp 23)),
 .mk (some 25) none (.len false (.tmp 24)),.mk (some 26) none (.mv (.tmp 2)),
 .mk (some 27) none (.len false (.tmp 26)),
 .mk (some 28) none (.ibin .sub (.tmp 25) (.tmp 27)),
 .mk (some 9) none (.mv (.tmp 28))]
 [0,1,2,3,9])
 (.seq
 (.region
 [.mk (some 29) none (.mv (.tmp 2)),
 .mk (some 30) none (.idx 3 (.tmp 29) (.const (.int .i64 0))),
 .mk (some 31) none (.load true 3 (.tmp 30)),
 .mk (some 32) none (.call (.func 100) [.tmp 31]),
 .mk (some 33) none (.len false (.tmp 32)),.mk (some 10) none (.mv (.tmp 33))]
 [0,1,2,3,9,10])
 (.seq
 (.region [.mk (some 11) none (.mv (.const (.int .i64 0)))]
 [0,1,2,3,9,10,11])
 (.seq
 (.seq
 (.region
 [.mk (some 34) none (.mv (.tmp 10)),
 .mk (some 35) none (.mv (.const (.int .i64 0)))]
 [0,1,2,3,9,10,11,34,35])
 (.block 0 (.loop S198_1 [11,35] [0,1,2,3,9,10,34])))
 (.seq
 (.drawn
 [(false,.mk (some 47) none (.mv (.tmp 11))),
 (false,.mk (some 48) none (.mv (.tmp 0))),
 (false,.mk (some 49) none (.mv (.tmp 2))),
 (false,
 .mk (some 50) none (.idx 3 (.tmp 49) (.const (.int .i64 0)))),
 (false,.mk (some 51) none (.load true 3 (.tmp 50))),
 (false,.mk (some 52) none (.mv (.tmp 10))),
 (false,.mk (some 54) none (.mv (.tmp 0))),
 (false,.mk (some 55) none (.mv (.tmp 1))),
 (false,.mk (some 56) none (.mv (.tmp 9))),
 (false,
 .mk (some 57) none
 (.ibin .add (.tmp 56) (.const (.int .i64 1)))),
 (false,.mk (some 58) none (.mv (.tmp 3))),
 (false,.mk (some 59) none (.mv (.tmp 10))),
 (false,.mk (some 60) none (.ibin .sub (.tmp 58) (.tmp 59))),
 (false,.mk (some 64) none (.mv (.tmp 0))),
 (false,.mk (some 65) none (.mv (.tmp 1))),
 (false,.mk (some 66) none (.mv (.tmp 2))),
 (false,
 .mk (some 67) none
 (.slc 3 (.tmp 66) (some (.const (.int .i64 1))) none none)),
 (false,.mk (some 68) none (.mv (.tmp 3))),
 (false,.mk (some 69) none (.mv (.tmp 10))),
 (false,.mk (some 70) none (.ibin .sub (.tmp 68) (.tmp 69))),
 (false,
 .mk (some 53) none
 (.call (.func 165) [.tmp 48,.tmp 51,.tmp 52])),
 (false,
 .mk (some 61) none
 (.call (.func 197) [.tmp 54,.tmp 55,.tmp 57,.tmp 60])),
 (false,.mk (some 62) none (.ibin .mul (.tmp 53) (.tmp 61))),
 (false,.mk (some 63) none (.ibin .add (.tmp 47) (.tmp 62))),
 (false,
 .mk (some 71) none
 (.call (.func 198) [.tmp 64,.tmp 65,.tmp 67,.tmp 70])),
 (false,.mk (some 72) none (.ibin .add (.tmp 63) (.tmp 71))),
 (false,.mk (some 8) none (.mv (.tmp 72)))]
 [8])
 .ret))))))
def S198 : FnS := ⟨73,[(8,none)],S198_0⟩
theorem tr198 : trFn Try.prog 198 [] [[0,1,2,3],[0,1,2,3,15],[8],[0,1,2,3,9],[0,1,2,3,9,10],[0,1,2,3,9,10,11],[0,1,2,3,9,10,11,34,35],[11,35],[0,1,2,3,9,10,34],[0,1,2,3,9,10,11,34,35,36],[0,1,2,3,9,10,11,12,34,35],[0,1,2,3,9,10,11,34,35],[0,1,2,3,9,10,11,34,35],[8],[0,1,2,3,4,5,7,8,9,10,11,12,13,17,18,19,20,21,22,23,6,14,15,16,24,25,26],[],[],[],[],[2],[2,3],[],[1,2,3,4,5],[],[],[],[9],[],[],[11,12],[1,2,3,4,5,6,7,8,9,10,11,12,13],[1,2,3,4,5,6,7,8,9,10,11,12,13,14],[0,1,2,3,4,5,6,7,8,9,10,11,12,13,14,15],[],[],[],[19],[],[],[21,22],[1,2,3,4,5,6,7,8,9,10,11,12,13,14,17,18,19,20,21,22,23],[0,1,2,3,4,5,6,7,8,9,10,11,12,13,14,15,16,17,18,19,20,21,22,23,24],[0,1,2,3,4,5,6,7,8,9,10,11,12,13,14,15,16,17,18,19,20,21,22,23,24,25]] = some S198 := by kernel_rfl
end Go.Proofs.Ytniobbepliknmaa.V
/- rank: of, ofKids walked; no condition. -/
namespace Go.Proofs.Ytniobbepliknmaa.V
open Go
set_option linter.unusedVariables false
set_option linter.unusedSimpArgs false
attribute [local go_sem] e_seq e_region e_quiet e_join e_loop e_cond e_block e_exit e_ret e_skip e_fin e_kseq e_snrm e_sret e_sex e_bnrm e_bret e_bex e_rnrm e_rret e_res e_condC e_nil e_g e_mv g_mv e_pick g_pick pickC_eq e_ibin g_ibin ibinC_eq e_sbin g_sbin e_beq g_beq beqC_eq e_nilq g_nilq nilqC_sl nilqC_pt nilqC_mp e_un g_un unC_not unC_neg e_conv g_conv convC_eq e_fld g_fld fldC_ref fldC_ptr e_nilCheck g_nilCheck nilCheckC_ref nilCheckC_ptr nilCheckC_fun e_field g_field fieldC_eq e_len g_len lenC_sl lenC_str e_extract g_extract extractC_eq e_mkFunc e_build g_build e_idiv g_idiv idivC_eq e_ishift g_ishift ishiftC_eq e_idx g_idx e_idxA g_idxA e_load g_load e_loadB g_loadB atB_ref atB_v g_mkFunc loadC_ref loadC_ptr loadB_eq e_slc g_slc e_box boxC_loc boxC_esc e_alloc allocC_loc allocC_esc e_buildS e_store storeC_ref storeC_ptr storeB_eq e_append e_appz e_mk mkC_eq e_call callC_eq e_fn g_fn fnC_eq fnV_min' fnV_max' fnV_rune' e_q g_q e_a e_n g_call g_box g_alloc g_buildS g_store g_append g_mk g_a g_n g_dead e_dead e_callK e_drawn e_tree e_finJ e_tk e_tfin e_tno e_nbt_q e_nbt_qn e_nbt_a e_nbt_an e_nbt_fin e_drawnB e_bxb_nil e_bxb e_stB_none e_stB_some boxSt_store bs_mv bs_pick bs_ibin bs_idiv bs_ishift bs_sbin bs_beq bs_nilq bs_un bs_conv bs_box bs_alloc bs_build bs_buildS bs_load bs_fld bs_nilCheck bs_idx bs_idxA bs_field bs_slc bs_len bs_append bs_appz bs_mk bs_call bs_extract bs_mkFunc bs_fn bs_q bs_a bs_n bs_loadB bs_dead isBox_box e_early_nil e_early_t e_early_f e_nob_nil e_nob_none e_nob_some isBox_dead isBox_v isBox_ref e_dnil e_dk e_ek e_finB vcOps_vc1 e_dcons e_tq e_ekt e_tearly e_talt e_dearly look_nil look_c proj_nil proj_c looks_nil looks_c zip_nil zip_c val_tmp val_const val_func slv_v slv_box slv_ref slot_tmp slot_const slot_func slotL_v slotL_box slotL_ref put_some put_none updBox_c boxSet_box gd_eq slotVals_nil slotVals_c slotVals_b boxV_box boxOn_box slotsOn_nil slotsOn_c slotsOn_b resV_one resV_two vals_nil vals_c allOn_nil allOn_c partOn_nil partOn_c partVals_nil partVals_c fits_nil fits_c fillL_nil fillL_c mkv_one mkv_agg cellsV_agg cellsV_int cellsV_bool cellsV_slice cellsV_string cellsV_pointer cellsV_func cellsV_nilf cellsV_map one'_nil one'_c oc_int oc_bool oc_slice oc_string oc_pointer oc_func oc_nilf oc_map setC_eq iv_add iv_sub iv_mul iv_eql iv_neq iv_lss iv_leq iv_gtr iv_geq iok_add iok_sub iok_mul iok_eql iok_neq iok_lss iok_leq iok_gtr iok_geq pickV_bool args0_nil args0_c bnd_none bnd_some imp_bt imp_bf imp_ebt imp_ebf imp_eb1 imp_np imp_pp beq_tt beq_tf beq_ft beq_ff cond_or cond_and e_round e_meet Int.le_refl Int.toNat_zero decide_true decide_false Bool.or_false Bool.false_or Bool.true_or Bool.or_true Bool.and_false Bool.false_and Bool.bne_false Bool.bne_true beq_iff_eq Int.cast_ofNat_Int not_false_eq_true not_true_eq_false false_and and_false false_implies true_implies true_and and_true Bool.true_and Bool.and_true Bool.not_true Bool.not_false forall_const implies_true List.take_zero List.drop_zero List.take_succ_cons List.drop_succ_cons List.take_nil List.drop_nil List.length_cons List.length_nil List.nil_append List.append_nil List.cons_append Int.toNat_natCast decide_eq_true_eq decide_eq_false_iff_not cond_true cond_false and_self List.getElem?_cons_zero List.getElem?_cons_succ List.set_cons_zero List.set_cons_succ Option.some.injEq exists_eq_left' Nat.zero_add Nat.add_zero Nat.mul_one imp_self true_or or_true or_false false_or Bool.or_eq_true Bool.or_eq_false_iff Bool.and_eq_true Bool.and_eq_false_iff Bool.not_eq_true' Bool.not_eq_false'

theorem sumR_take (T : Int → Nat → Nat) (a : Int) (k : Nat) : ∀ (rs : List Ru) (j : Nat), sumR T a k (rs.take j) ≤ sumR T a k rs
  | [], j => by simp
  | r :: rs, 0 => by simp [sumR]
  | r :: rs, j + 1 => by
    rw [List.take_succ_cons, sumR, sumR]
    have := sumR_take T a k rs j
    omega
def OfQ (g : Gr) (n bm : Nat) (P : Nat → Prop) (v : Value) (Γ : Ctx) : Prop := ∃ gm lst i, Γ = [gm] ∧ v = .int .i64 ((i : Nat) : Int) ∧ MapM gm bm intsV (Value.int .i64) (okInts 3) lst ∧ KnW g n lst ∧ P i
def OfC (g : Gr) (n b : Nat) (R : Option Addr) (cR : Nat) (An : Option Addr) (cn bm : Nat) (x : Tr) : Prop := validT g x = true → (wdT x).length ≤ n → ((symF g x).1.t = false → InS g g.st n (symF g x).1.n (wdT x).length) → numT x ≤ 1048576 →
  ∀ {Γr : Ctx} {gm : PH} {lst : List (List Int × Int)} {A : Option Addr} {c : Nat}, BookK (lk Γr) b g n R cR An cn bm → SlOk (lk Γr) A c x.kids → MapM gm bm intsV (Value.int .i64) (okInts 3) lst → KnW g n lst →
  Ret Try.prog 165 [.pointer (some ⟨b, 0, none⟩), .agg #[.int .i64 x.rule, .int .i64 x.term, .slice A x.kids.length c], .int .i64 ((wdT x).length : Int)] Γr [gm] (OfQ g n bm (fun i => (symL (lstT g (mostN g n)) (symF g x).1 (wdT x).length)[i]? = some x))
theorem ofKids_of {g : Gr} {n : Nat} (F : Fine g n) (hn : n ≤ 24) {b : Nat} {R : Option Addr} {cR : Nat} {An : Option Addr} {cn bm i : Nat} (hi : i < g.rs.length) : ∀ (kids : List Tr), (∀ x ∈ kids, OfC g n b R cR An cn bm x) → ∀ (p : Nat), p + kids.length = g.rs[i].r.length → validL g kids (g.rs[i].r.drop p) = true → (wdL kids).length ≤ n → InR g g.st n (g.rs[i].r.drop p) (wdL kids).length → numL kids ≤ 1048576 →
    ∀ {Γr : Ctx} {gm : PH} {lst : List (List Int × Int)} {A : Option Addr} {c : Nat}, BookK (lk Γr) b g n R cR An cn bm → SlOk (lk Γr) A c kids → MapM gm bm intsV (Value.int .i64) (okInts 3) lst → KnW g n lst →
    Ret Try.prog 198 [.pointer (some ⟨b, 0, none⟩), .int .i64 (i : Int), .slice A kids.length c, .int .i64 ((wdL kids).length : Int)] Γr [gm] (OfQ g n bm (fun x => (rowL (lstT g (mostN g n)) (g.rs[i].r.drop p) (wdL kids).length)[x]? = some kids)) := by
  intro kids
  induction kids with
  | nil =>
    intro _ p hp _ _ _ _ Γr gm lst A c hB hA hM hK
    generalize hRR : OfQ g n bm _ = R'
    refine ret_of_vc tr198 (Nat.le_of_ble_eq_true rfl) ?_
    simp -implicitDefEqProofs only [S198, S198_0, go_sem, Nat.reduceBEq, Nat.reduceAdd, Nat.reduceSub, Nat.reduceMul, Nat.reduceLeDiff, reduceCtorEq, ↓reduceIte, Int.reduceLT, Int.reduceLE, Int.reduceEq, Int.reduceNe]
    refine Up.here ?_
    subst hRR
    refine ⟨gm, lst, 0, rfl, rfl, hM, hK, ?_⟩
    have : p = g.rs[i].r.length := by simpa using hp
    rw [this, List.drop_length]
    rfl
  | cons x ks ih =>
    intro hof p hp hv hw hI hnum Γr gm lst A c hB hA hM hK
    have hpl : p < g.rs[i].r.length := by simp at hp; omega
    have hdrop : g.rs[i].r.drop p = g.rs[i].r[p] :: g.rs[i].r.drop (p + 1) := List.drop_eq_getElem_cons hpl
    have V := F.V
    have hpart := fun {Γr : Ctx} {gm : PH} {lst : List (List Int × Int)} (j k : Nat) (hj : j ≤ k) (hk : k ≤ n) (hI : InR g g.st n (g.rs[i].r.drop p) k) => @part_of g n F hn b R cR An cn bm i p hi hpl (ways_all F hn hi (g.rs[i].r.length - (p + 1)) (p + 1) (by omega)) j k hj hk hI Γr gm lst
    have hways := @ways_all g n F hn b R cR An cn bm i hi (g.rs[i].r.length - (p + 1)) (p + 1) (by omega)
    have ih := ih (fun y hy => hof y (by simp [hy])) (p + 1) (by simp at hp ⊢; omega)
    have hr4 := V.right _ (List.getElem_mem hi)
    have hvl := V.len
    have hsh := hB.rs.short
    obtain ⟨b0, o0, h0, A1, c1, hr1, hcr⟩ := hB.rs.ru hi
    rw [hdrop] at hv hI
    simp only [validL, Bool.and_eq_true, decide_eq_true_eq] at hv
    obtain ⟨⟨⟨_, hsx⟩, hvx⟩, hvk⟩ := hv
    have hwl : (wdL (x :: ks)).length = (wdT x).length + (wdL ks).length := by simp [wdL]
    have hnl : numL (x :: ks) = numT x + numL ks := rfl
    rw [hwl] at hw hI
    have hposk := validL_pos V hvk (n := n) (by omega)
    have hposx := valid_pos V hvx (n := n) (by omega)
    rw [hsx] at hposx
    have hIr := hI.rest (M := mostN g n) (j := (wdT x).length) (by omega) hposx
    rw [show (wdT x).length + (wdL ks).length - (wdT x).length = (wdL ks).length by omega] at hIr
    have hIs := fun hs => hI.sym (M := mostN g n) (j := (wdT x).length) (by omega) hs (by rw [show (wdT x).length + (wdL ks).length - (wdT x).length = (wdL ks).length by omega]; exact hposk)
    have ih := fun {Γr gm lst A c} => @ih hvk (by omega) hIr (by omega) Γr gm lst A c
    have hofx := fun {Γr gm lst A c} => @hof x (by simp) hvx (by omega) (by rw [hsx]; exact hIs) (by omega) Γr gm lst A c
    rw [hsx] at hofx
    have hfew := hI.few F (mostN g n)
    have hgetT : ∀ q y, (symL (lstT g (mostN g n)) g.rs[i].r[p] (wdT x).length)[q]? = some x → (rowL (lstT g (mostN g n)) (g.rs[i].r.drop (p + 1)) (wdL ks).length)[y]? = some ks →
        (rowL (lstT g (mostN g n)) (g.rs[i].r[p] :: g.rs[i].r.drop (p + 1)) ((wdT x).length + (wdL ks).length))[sumN (fun j => symT (cntT g (mostN g n)) g.rs[i].r[p] j * rowT (cntT g (mostN g n)) (g.rs[i].r.drop (p + 1)) ((wdT x).length + (wdL ks).length - j)) (wdT x).length + (q * rowT (cntT g (mostN g n)) (g.rs[i].r.drop (p + 1)) (wdL ks).length + y)]? = some (x :: ks) := fun q y q1 q2 => by
      have w1 := (List.getElem?_eq_some_iff.1 q1).1
      have w2 := (List.getElem?_eq_some_iff.1 q2).1
      rw [symL_len (lstT_len g (mostN g n))] at w1
      rw [rowL_len (lstT_len g (mostN g n))] at w2
      have e : (wdT x).length + (wdL ks).length - (wdT x).length = (wdL ks).length := by omega
      have := rowL_get (lstT_len g (mostN g n)) (s := g.rs[i].r[p]) (l := g.rs[i].r.drop (p + 1)) (k := (wdT x).length + (wdL ks).length) (j := (wdT x).length) (by omega) w1 (by rw [e]; exact w2) q1 (by rw [e]; exact q2)
      rw [e] at this
      exact this
    have hlenT := rowL_len (lstT_len g (mostN g n)) (g.rs[i].r[p] :: g.rs[i].r.drop (p + 1)) ((wdT x).length + (wdL ks).length)
    rw [hdrop, hwl]
    rw [hdrop] at hpart
    have hi0 := hI
    generalize hRR : OfQ g n bm _ = R'
    refine ret_of_vc tr198 (Nat.le_of_ble_eq_true rfl) ?_
    simp -implicitDefEqProofs only [S198, S198_0, go_sem, Nat.reduceBEq, Nat.reduceAdd, Nat.reduceSub, Nat.reduceMul, Nat.reduceLeDiff, reduceCtorEq, ↓reduceIte, Int.reduceLT, Int.reduceLE, Int.reduceEq, Int.reduceNe]
    have hlk : (x :: ks).length = ks.length + 1 := rfl
    have hpks : p + (ks.length + 1) = g.rs[i].r.length := hp
    have hpart := fun {Γr : Ctx} {gm : PH} {lst : List (List Int × Int)} (j : Nat) (hj : j ≤ (wdT x).length + (wdL ks).length) => @hpart Γr gm lst j _ hj hw hI
    obtain ⟨b3, o3, h3, A3, c3, hk3, hc3⟩ := hA.tr (i := 0) (by simp)
    simp only [List.getElem_cons_zero] at hk3 hc3
    have hdr := hA.drop (l := 1) (by simp)
    simp only [List.drop_succ_cons, List.drop_zero] at hdr
    have hcap := hA.cap
    have hword := fun Γ => tree_word (Γr := Γ) x (A := A3) (c := c3)
    generalize hmL : (wdT x).length = m at *
    generalize (wdL ks).length = K at *
    generalize hT : cntT g (mostN g n) = T at *
    generalize hlL : g.rs[i].r.drop (p + 1) = l at *
    generalize hsS : g.rs[i].r[p] = s at *
    refine ⟨fun h => absurd h (by omega), fun _ => ?_⟩
    refine s_ld (j := 3) (cells_lk (lk_r [gm] _ _ _ hB.out)) (by simp [bkC]) (by simp) ?_
    simp -implicitDefEqProofs only [bkC, go_sem, Nat.reduceBEq, Nat.reduceAdd, Nat.reduceSub, Nat.reduceMul, Nat.reduceLeDiff, reduceCtorEq, ↓reduceIte, Int.reduceLT, Int.reduceLE, Int.reduceEq, Int.reduceNe]
    refine s_idx h0 (by omega) (by omega) ?_
    simp -implicitDefEqProofs only [go_sem, Nat.reduceBEq, Nat.reduceAdd, Nat.reduceSub, Nat.reduceMul, Nat.reduceLeDiff, reduceCtorEq, ↓reduceIte, Int.reduceLT, Int.reduceLE, Int.reduceEq, Int.reduceNe]
    refine s_ld (j := 1) (by simpa using hcr _ (lk_r [gm] _)) (by simp) (by simp) ?_
    simp -implicitDefEqProofs only [go_sem, Nat.reduceBEq, Nat.reduceAdd, Nat.reduceSub, Nat.reduceMul, Nat.reduceLeDiff, reduceCtorEq, ↓reduceIte, Int.reduceLT, Int.reduceLE, Int.reduceEq, Int.reduceNe]
    have hw1 : IntKind.i64.wrap ((g.rs[i].r.length : Int) - ((ks.length + 1 : Nat) : Int)) = (p : Int) := by rw [wrap_id (by omega) (by omega)]; omega
    rw [hw1]
    refine s_idx h3 (by simp) (by simp) ?_
    simp -implicitDefEqProofs only [go_sem, Nat.reduceBEq, Nat.reduceAdd, Nat.reduceSub, Nat.reduceMul, Nat.reduceLeDiff, reduceCtorEq, ↓reduceIte, Int.reduceLT, Int.reduceLE, Int.reduceEq, Int.reduceNe]
    refine s_ld0 (by simpa using hc3 _ (lk_r [gm] _)) (by simp) (by simp) ?_
    simp -implicitDefEqProofs only [go_sem, Nat.reduceBEq, Nat.reduceAdd, Nat.reduceSub, Nat.reduceMul, Nat.reduceLeDiff, reduceCtorEq, ↓reduceIte, Int.reduceLT, Int.reduceLE, Int.reduceEq, Int.reduceNe]
    refine CallVC.read (hword _ (hk3.mono (lk_r [gm] _)) (by omega)) ?_
    rintro v Γ' ⟨gw, rfl, hBw⟩
    obtain ⟨Aw, cw, rfl⟩ := hBw.val
    rw [hmL]
    simp -implicitDefEqProofs only [go_sem, Nat.reduceBEq, Nat.reduceAdd, Nat.reduceSub, Nat.reduceMul, Nat.reduceLeDiff, reduceCtorEq, ↓reduceIte, Int.reduceLT, Int.reduceLE, Int.reduceEq, Int.reduceNe]
    have hM0 := hM
    have hK0 := hK
    clear hM hK hBw
    refine s_loop (fun f vs Γ => ∃ (gm : PH) (lst : List (List Int × Int)) (j : Nat), vs = [.v true (.int .i64 ((sumN (fun j => symT T s j * rowT T l (m + K - j)) j : Nat) : Int)), .v true (.int .i64 (j : Int))] ∧ Γ = [gm] ∧ j + f = m ∧ MapM gm bm intsV (Value.int .i64) (okInts 3) lst ∧ KnW g n lst) m
      (Up.skip (Up.here ⟨gm, lst, 0, rfl, rfl, by omega, hM0, hK0⟩)) ?_
    clear hM0 hK0
    rintro f vs Γ ⟨gm, lst, j, rfl, rfl, hjf, hM, hK⟩
    simp -implicitDefEqProofs only [S198_1, go_sem, Nat.reduceBEq, Nat.reduceAdd, Nat.reduceSub, Nat.reduceMul, Nat.reduceLeDiff, reduceCtorEq, ↓reduceIte, Int.reduceLT, Int.reduceLE, Int.reduceEq, Int.reduceNe]
    have hrow : rowT T (s :: l) (m + K) = sumN (fun j => symT T s j * rowT T l (m + K - j)) (m + K + 1) := rfl
    refine ⟨fun hlt => ?_, fun hge => ?_⟩
    · have hmo := sumN_mono (fun j => symT T s j * rowT T l (m + K - j)) (show j + 1 ≤ m + K + 1 by omega)
      rw [← hrow, sumN] at hmo
      have hw2 : IntKind.i64.wrap (((sumN (fun j => symT T s j * rowT T l (m + K - j)) j : Nat) : Int) + ((symT T s j * rowT T l (m + K - j) : Nat) : Int)) = ((sumN (fun j => symT T s j * rowT T l (m + K - j)) (j + 1) : Nat) : Int) := by
        rw [← Int.natCast_add, wrap_id (by omega) (by omega)]
        rfl
      refine CallVC.perm (Γm := [gm]) (Γf := []) (hpart j (by omega) (Γr := Γr) hB hM hK) (List.Perm.refl _) (List.Sublist.refl _) ?_
      rintro v Γ' ⟨gm', lst', rfl, rfl, hM', hK'⟩
      simp -implicitDefEqProofs only [hw2, go_sem, Nat.reduceBEq, Nat.reduceAdd, Nat.reduceSub, Nat.reduceMul, Nat.reduceLeDiff, reduceCtorEq, ↓reduceIte, Int.reduceLT, Int.reduceLE, Int.reduceEq, Int.reduceNe]
      simp (disch := omega) only [wrap_id]
      exact ⟨f - 1, by omega, Up.here ⟨gm', lst', j + 1, rfl, rfl, by omega, hM', hK'⟩⟩
    · have hje : j = m := by omega
      subst hje
      have hw3 : IntKind.i64.wrap ((p : Int) + 1) = ((p + 1 : Nat) : Int) := by rw [wrap_id (by omega) (by omega)]; rfl
      have hw4 : IntKind.i64.wrap (((j + K : Nat) : Int) - (j : Int)) = (K : Int) := by rw [wrap_id (by omega) (by omega)]; omega
      refine s_idx h3 (by simp) (by simp) ?_
      simp -implicitDefEqProofs only [go_sem, Nat.reduceBEq, Nat.reduceAdd, Nat.reduceSub, Nat.reduceMul, Nat.reduceLeDiff, reduceCtorEq, ↓reduceIte, Int.reduceLT, Int.reduceLE, Int.reduceEq, Int.reduceNe]
      refine s_ld0 (by simpa using hc3 _ (lk_r [gm] _)) (by simp) (by simp) ?_
      simp -implicitDefEqProofs only [hw3, hw4, go_sem, Nat.reduceBEq, Nat.reduceAdd, Nat.reduceSub, Nat.reduceMul, Nat.reduceLeDiff, reduceCtorEq, ↓reduceIte, Int.reduceLT, Int.reduceLE, Int.reduceEq, Int.reduceNe]
      refine s_lo 1 (by simp -implicitDefEqProofs only [go_sem, Nat.reduceBEq, Nat.reduceAdd, Nat.reduceSub, Nat.reduceMul, Nat.reduceLeDiff, reduceCtorEq, ↓reduceIte, Int.reduceLT, Int.reduceLE, Int.reduceEq, Int.reduceNe]; exact ⟨_, rfl⟩) (by omega) (by omega) ?_
      intro A' hA'
      rw [show Rep.sz Tr = 3 from rfl, ← hA'] at hdr
      rw [show ks.length + 1 - 1 = ks.length by omega]
      simp -implicitDefEqProofs only [hw4, go_sem, Nat.reduceBEq, Nat.reduceAdd, Nat.reduceSub, Nat.reduceMul, Nat.reduceLeDiff, reduceCtorEq, ↓reduceIte, Int.reduceLT, Int.reduceLE, Int.reduceEq, Int.reduceNe]
      refine CallVC.perm (Γm := [gm]) (Γf := []) (hofx (Γr := Γr) hB hk3 hM hK) (List.Perm.refl _) (List.Sublist.refl _) ?_
      rintro v Γ' ⟨gm, lst, q, rfl, rfl, hM, hK, hq⟩
      simp -implicitDefEqProofs only [go_sem, Nat.reduceBEq, Nat.reduceAdd, Nat.reduceSub, Nat.reduceMul, Nat.reduceLeDiff, reduceCtorEq, ↓reduceIte, Int.reduceLT, Int.reduceLE, Int.reduceEq, Int.reduceNe]
      refine CallVC.perm (Γm := [gm]) (Γf := []) (hways (k := K) (by omega) hIr (Γr := Γr) hB hM hK) (List.Perm.refl _) (List.Sublist.refl _) ?_
      rintro v Γ' ⟨gm, lst, rfl, rfl, hM, hK⟩
      rw [hT]
      simp -implicitDefEqProofs only [go_sem, Nat.reduceBEq, Nat.reduceAdd, Nat.reduceSub, Nat.reduceMul, Nat.reduceLeDiff, reduceCtorEq, ↓reduceIte, Int.reduceLT, Int.reduceLE, Int.reduceEq, Int.reduceNe]
      refine CallVC.perm (Γm := [gm]) (Γf := []) (ih (Γr := Γr) hB hdr hM hK) (List.Perm.refl _) (List.Sublist.refl _) ?_
      rintro v Γ' ⟨gm, lst, y, rfl, rfl, hM, hK, hy⟩
      have htot := hgetT q y hq hy
      have hlt := (List.getElem?_eq_some_iff.1 htot).1
      rw [hlenT] at hlt
      have hw5 : IntKind.i64.wrap ((q : Int) * ((rowT T l K : Nat) : Int)) = ((q * rowT T l K : Nat) : Int) := by rw [← Int.natCast_mul, wrap_id (by omega) (by omega)]
      have hw6 : IntKind.i64.wrap (((sumN (fun j_1 => symT T s j_1 * rowT T l (j + K - j_1)) j : Nat) : Int) + ((q * rowT T l K : Nat) : Int)) = ((sumN (fun j_1 => symT T s j_1 * rowT T l (j + K - j_1)) j + q * rowT T l K : Nat) : Int) := by rw [← Int.natCast_add, wrap_id (by omega) (by omega)]
      have hw7 : IntKind.i64.wrap (((sumN (fun j_1 => symT T s j_1 * rowT T l (j + K - j_1)) j + q * rowT T l K : Nat) : Int) + (y : Int)) = ((sumN (fun j_1 => symT T s j_1 * rowT T l (j + K - j_1)) j + (q * rowT T l K + y) : Nat) : Int) := by rw [← Int.natCast_add, wrap_id (by omega) (by omega), Nat.add_assoc]
      simp -implicitDefEqProofs only [hw5, hw6, hw7, go_sem, Nat.reduceBEq, Nat.reduceAdd, Nat.reduceSub, Nat.reduceMul, Nat.reduceLeDiff, reduceCtorEq, ↓reduceIte, Int.reduceLT, Int.reduceLE, Int.reduceEq, Int.reduceNe]
      refine Up.here ?_
      subst hRR
      exact ⟨gm, lst, _, rfl, rfl, hM, hK, htot⟩
theorem book_of {g : Gr} {n : Nat} (F : Fine g n) (hn : n ≤ 24) {b : Nat} {R : Option Addr} {cR : Nat} {An : Option Addr} {cn bm : Nat} (x : Tr) : OfC g n b R cR An cn bm x := by
  refine Tr.ind (p := fun x => OfC g n b R cR An cn bm x) (fun x ihk hv hw hI hnum Γr gm lst A c hB hA hM hK => ?_) x
  generalize hRR : OfQ g n bm _ = R'
  refine ret_of_vc tr165 (Nat.le_of_ble_eq_true rfl) ?_
  by_cases hr : x.rule = -1
  · obtain ⟨h1, h2⟩ := valid_leaf hv hr
    simp -implicitDefEqProofs only [S165, S165_0, go_sem, Nat.reduceBEq, Nat.reduceAdd, Nat.reduceSub, Nat.reduceMul, Nat.reduceLeDiff, reduceCtorEq, ↓reduceIte, Int.reduceLT, Int.reduceLE, Int.reduceEq, Int.reduceNe]
    intro bx
    refine ⟨fun _ => Up.here ?_, fun h => absurd (by omega) h⟩
    subst hRR
    refine ⟨gm, lst, 0, rfl, rfl, hM, hK, ?_⟩
    rw [h1, wdT_eq, if_pos hr]
    unfold symL
    rw [if_pos rfl, if_pos (show [x.term].length = 1 from rfl)]
    exact congrArg some h2.symm
  · obtain ⟨p, hp, hxr, hxt, hsf, hvl⟩ := valid_node hv hr
    have V := F.V
    have hvlen := V.len
    have hr4 := V.right _ (List.getElem_mem hp)
    have hsh := hB.rs.short
    have hwx : wdT x = wdL x.kids := by rw [wdT_eq, if_neg hr]
    have hnx := numT_eq x
    have hI := hI (by rw [hsf])
    rw [hsf] at hI hRR
    have hI : InS g g.st n g.rs[p].l (wdT x).length := hI
    have hfin := hI.fin F hw
    have hfew := hI.few F (mostN g n + 1)
    have hcap := hB.rs.cap
    obtain ⟨b0, o0, h0, A1, c1, hr1, hcr⟩ := hB.rs.ru hp
    simp -implicitDefEqProofs only [S165, S165_0, go_sem, Nat.reduceBEq, Nat.reduceAdd, Nat.reduceSub, Nat.reduceMul, Nat.reduceLeDiff, reduceCtorEq, ↓reduceIte, Int.reduceLT, Int.reduceLE, Int.reduceEq, Int.reduceNe]
    rw [hxr]
    intro bx
    refine ⟨fun h => absurd h (by omega), fun _ => ?_⟩
    have hlst := lstT_eq (g := g) (show mostN g n ≤ mostN g n + 1 by omega) (hfin (mostN g n + 1) (by omega)).symm
    have hrul := fun (y : Nat) (h : (rowL (lstT g (mostN g n)) g.rs[p].r (wdL x.kids).length)[y]? = some x.kids) => rulL_get (L := lstT g (mostN g n)) (T := cntT g (mostN g n)) (lstT_len g (mostN g n)) (a := g.rs[p].l) (k := (wdL x.kids).length) (rs := g.rs) (i := 0) (p := p) (y := y) (ks := x.kids) hp rfl h
    have hsl : symL (lstT g (mostN g n)) ⟨false, g.rs[p].l⟩ (wdT x).length = lstT g (mostN g n) g.rs[p].l (wdT x).length := rfl
    rw [hsl, hlst, hwx] at hRR
    have hlenx := lstT_len g (mostN g n + 1) g.rs[p].l (wdL x.kids).length
    have hKI := hI.rule (List.getElem_mem hp) rfl
    have hways := fun (k : Nat) (hk : k < g.rs.length) => @ways_all g n F hn b R cR An cn bm k hk g.rs[k].r.length 0 (by omega)
    rw [hwx] at hI hw hfew hKI
    rw [hwx]
    have hofk := fun {Γr gm lst A c} => @ofKids_of g n F hn b R cR An cn bm p hp x.kids (fun y hy => ihk y hy) 0 (by have := (validL_all hvl).1; omega) (by rw [List.drop_zero]; exact hvl) hw (by rw [List.drop_zero]; exact hKI) (by omega) Γr gm lst A c
    rw [List.drop_zero] at hofk
    generalize (wdL x.kids).length = K at *
    generalize haA : g.rs[p].l = a at *
    have hcnt : cntT g (mostN g n + 1) a K = sumR (cntT g (mostN g n)) a K g.rs := rfl
    rw [hcnt] at hfew hlenx
    generalize hT : cntT g (mostN g n) = T at *
    refine s_ld (j := 3) (cells_lk (lk_r [gm] _ _ _ hB.out)) (by simp [bkC]) (by simp) ?_
    simp -implicitDefEqProofs only [bkC, go_sem, Nat.reduceBEq, Nat.reduceAdd, Nat.reduceSub, Nat.reduceMul, Nat.reduceLeDiff, reduceCtorEq, ↓reduceIte, Int.reduceLT, Int.reduceLE, Int.reduceEq, Int.reduceNe]
    refine s_idx h0 (by omega) (by omega) ?_
    simp -implicitDefEqProofs only [go_sem, Nat.reduceBEq, Nat.reduceAdd, Nat.reduceSub, Nat.reduceMul, Nat.reduceLeDiff, reduceCtorEq, ↓reduceIte, Int.reduceLT, Int.reduceLE, Int.reduceEq, Int.reduceNe]
    refine s_ld0 (by simpa using hcr _ (lk_r [gm] _)) (by simp) (by simp) ?_
    simp -implicitDefEqProofs only [go_sem, Nat.reduceBEq, Nat.reduceAdd, Nat.reduceSub, Nat.reduceMul, Nat.reduceLeDiff, reduceCtorEq, ↓reduceIte, Int.reduceLT, Int.reduceLE, Int.reduceEq, Int.reduceNe]
    refine s_ld (j := 3) (cells_lk (lk_r [gm] _ _ _ hB.out)) (by simp [bkC]) (by simp) ?_
    simp -implicitDefEqProofs only [bkC, go_sem, Nat.reduceBEq, Nat.reduceAdd, Nat.reduceSub, Nat.reduceMul, Nat.reduceLeDiff, reduceCtorEq, ↓reduceIte, Int.reduceLT, Int.reduceLE, Int.reduceEq, Int.reduceNe]
    refine s_hi p (by simp -implicitDefEqProofs only [go_sem, Nat.reduceBEq, Nat.reduceAdd, Nat.reduceSub, Nat.reduceMul, Nat.reduceLeDiff, reduceCtorEq, ↓reduceIte, Int.reduceLT, Int.reduceLE, Int.reduceEq, Int.reduceNe]; exact ⟨_, rfl⟩) (by omega) ?_
    simp -implicitDefEqProofs only [go_sem, Nat.reduceBEq, Nat.reduceAdd, Nat.reduceSub, Nat.reduceMul, Nat.reduceLeDiff, reduceCtorEq, ↓reduceIte, Int.reduceLT, Int.reduceLE, Int.reduceEq, Int.reduceNe]
    have hM0 := hM
    have hK0 := hK
    clear hM hK
    refine s_loop (fun f vs Γ => ∃ (gm : PH) (lst : List (List Int × Int)) (k : Nat), vs = [.v true (.int .i64 ((sumR T a K (g.rs.take k) : Nat) : Int)), .v true (.int .i64 (k : Int))] ∧ Γ = [gm] ∧ k + f = p ∧ MapM gm bm intsV (Value.int .i64) (okInts 3) lst ∧ KnW g n lst) p
      (Up.here ⟨gm, lst, 0, by rw [List.take_zero]; rfl, rfl, by omega, hM0, hK0⟩) ?_
    clear hM0 hK0
    rintro f vs Γ ⟨gm, lst, k, rfl, rfl, hkf, hM, hK⟩
    simp -implicitDefEqProofs only [S165_3, go_sem, Nat.reduceBEq, Nat.reduceAdd, Nat.reduceSub, Nat.reduceMul, Nat.reduceLeDiff, reduceCtorEq, ↓reduceIte, Int.reduceLT, Int.reduceLE, Int.reduceEq, Int.reduceNe]
    refine ⟨fun hlt => ?_, fun hge => ?_⟩
    · have hk : k < g.rs.length := by omega
      have hmo := sumR_take T a K g.rs (k + 1)
      have htk : g.rs.take (k + 1) = g.rs.take k ++ [g.rs[k]] := List.take_succ_eq_append_getElem hk
      have hsn := sumR_snoc T a K g.rs[k] (g.rs.take k)
      rw [← htk] at hsn
      obtain ⟨b4, o4, h4, A4, c4, hr4', hc4⟩ := hB.rs.ru hk
      refine s_join (fun vs Γ => ∃ (gm : PH) (lst : List (List Int × Int)), vs = [.v true (.int .i64 ((sumR T a K (g.rs.take (k + 1)) : Nat) : Int))] ∧ Γ = [gm] ∧ MapM gm bm intsV (Value.int .i64) (okInts 3) lst ∧ KnW g n lst) ?_ ?_
      · simp -implicitDefEqProofs only [S165_1, go_sem, Nat.reduceBEq, Nat.reduceAdd, Nat.reduceSub, Nat.reduceMul, Nat.reduceLeDiff, reduceCtorEq, ↓reduceIte, Int.reduceLT, Int.reduceLE, Int.reduceEq, Int.reduceNe]
        refine s_idx h4 (by omega) (by omega) ?_
        simp -implicitDefEqProofs only [go_sem, Nat.reduceBEq, Nat.reduceAdd, Nat.reduceSub, Nat.reduceMul, Nat.reduceLeDiff, reduceCtorEq, ↓reduceIte, Int.reduceLT, Int.reduceLE, Int.reduceEq, Int.reduceNe]
        refine s_ld0 (by simpa using hc4 _ (lk_r [gm] _)) (by simp) (by simp) ?_
        simp -implicitDefEqProofs only [go_sem, Nat.reduceBEq, Nat.reduceAdd, Nat.reduceSub, Nat.reduceMul, Nat.reduceLeDiff, reduceCtorEq, ↓reduceIte, Int.reduceLT, Int.reduceLE, Int.reduceEq, Int.reduceNe]
        refine ⟨fun heq => ?_, fun hne => ?_⟩
        · rw [if_pos heq] at hsn
          have hwk := @hways k hk K (by omega) (by rw [List.drop_zero]; exact hI.rule (List.getElem_mem hk) heq) Γr gm lst hB hM hK
          rw [List.drop_zero, hT] at hwk
          refine CallVC.perm (Γm := [gm]) (Γf := []) hwk (List.Perm.refl _) (List.Sublist.refl _) ?_
          rintro v Γ' ⟨gm', lst', rfl, rfl, hM', hK'⟩
          have hw2 : IntKind.i64.wrap (((sumR T a K (g.rs.take k) : Nat) : Int) + ((rowT T g.rs[k].r K : Nat) : Int)) = ((sumR T a K (g.rs.take (k + 1)) : Nat) : Int) := by
            rw [← Int.natCast_add, wrap_id (by omega) (by omega), hsn]
          simp -implicitDefEqProofs only [hw2, go_sem, Nat.reduceBEq, Nat.reduceAdd, Nat.reduceSub, Nat.reduceMul, Nat.reduceLeDiff, reduceCtorEq, ↓reduceIte, Int.reduceLT, Int.reduceLE, Int.reduceEq, Int.reduceNe]
          exact Up.here ⟨gm', lst', by simp, hM', hK'⟩
        · rw [if_neg hne, Nat.add_zero] at hsn
          rw [hsn]
          exact Up.here ⟨gm, lst, rfl, rfl, hM, hK⟩
      · rintro vs Γ' ⟨gm, lst, rfl, rfl, hM, hK⟩
        simp -implicitDefEqProofs only [S165_2, go_sem, Nat.reduceBEq, Nat.reduceAdd, Nat.reduceSub, Nat.reduceMul, Nat.reduceLeDiff, reduceCtorEq, ↓reduceIte, Int.reduceLT, Int.reduceLE, Int.reduceEq, Int.reduceNe]
        simp (disch := omega) only [wrap_id]
        exact ⟨f - 1, by omega, Up.here ⟨gm, lst, k + 1, rfl, rfl, by omega, hM, hK⟩⟩
    · have hkp : k = p := by omega
      subst hkp
      refine CallVC.perm (Γm := [gm]) (Γf := []) (hofk (Γr := Γr) hB hA hM hK) (List.Perm.refl _) (List.Sublist.refl _) ?_
      rintro v Γ' ⟨gm', lst', y, rfl, rfl, hM', hK', hy⟩
      have htot := hrul y hy
      have ex : (⟨((0 + k : Nat) : Int), 0, x.kids⟩ : Tr) = x := Tr.ext (by rw [Nat.zero_add]; exact hxr.symm) hxt.symm rfl
      rw [ex] at htot
      have hlt := (List.getElem?_eq_some_iff.1 htot).1
      have hlx : (rulL (lstT g (mostN g n)) a K 0 g.rs).length = sumR T a K g.rs := hlenx
      rw [hlx] at hlt
      have hw2 : IntKind.i64.wrap (((sumR T a K (g.rs.take k) : Nat) : Int) + (y : Int)) = ((sumR T a K (g.rs.take k) + y : Nat) : Int) := by rw [← Int.natCast_add, wrap_id (by omega) (by omega)]
      simp -implicitDefEqProofs only [hw2, go_sem, Nat.reduceBEq, Nat.reduceAdd, Nat.reduceSub, Nat.reduceMul, Nat.reduceLeDiff, reduceCtorEq, ↓reduceIte, Int.reduceLT, Int.reduceLE, Int.reduceEq, Int.reduceNe]
      refine Up.here ?_
      subst hRR
      exact ⟨gm', lst', _, rfl, rfl, hM', hK', htot⟩
end Go.Proofs.Ytniobbepliknmaa.V
/- The text of parlance/rank.open as a statement (slots: 0 g, 1 n, 2 g, 3 n, 7 l, 8 e, 9 all); no condition. -/
namespace Go.Proofs.Ytniobbepliknmaa.V
open Go
def S164_0 : Stmt :=
 .seq
 (.region
 [.mk (some 2) none (.box true 57 (.tmp 0)),
 .mk (some 4) none (.mv (.const (.pointer none))),
 .mk (some 5) none (.mv (.const (.int .i64 0))),
 .mk (some 6) none (.mv (.const (.int .i64 0)))]
 [1,2])
 (.seq
 (.region
 [.mk (some 11) none (.load true 4 (.tmp 2)),.mk (some 12) none (.mv (.tmp 1)),
 .mk (some 13) none (.call (.func 79) [.tmp 11,.tmp 12]),
 .mk (some 10) none (.mv (.tmp 13)),.mk (some 14) none (.extract 0 (.tmp 10)),
 .mk (some 15) none (.extract 1 (.tmp 10)),.mk (some 7) none (.mv (.tmp 14)),
 .mk (some 8) none (.mv (.tmp 15))]
 [1,2,7,8])
 (.seq
 (.seq
 (.region
 [.mk (some 16) none (.mv (.tmp 8)),
 .mk (some 17) none (.ibin .neq (.tmp 16) (.const (.int .i64 0)))]
 [1,2,7,8,17])
 (.cond (.tmp 17)
 (.seq
 (.region
 [.mk (some 18) none (.mv (.tmp 8)),
 .mk (some 4) none (.mv (.const (.pointer none))),
 .mk (some 5) none (.mv (.const (.int .i64 0))),
 .mk (some 6) none (.mv (.tmp 18))]
 [4,5,6])
 .ret)
 .skip))
 (.seq
 (.region
 [.mk (some 19) none (.mv (.tmp 7)),.mk (some 20) none (.fld 2 (.tmp 2)),
 .mk (some 21) none (.load false 1 (.tmp 20)),
 .mk (some 22) none (.idx 1 (.tmp 19) (.tmp 21)),
 .mk (some 23) none (.load false 1 (.tmp 22)),
 .mk (some 24) none (.mv (.tmp 1)),
 .mk (some 25) none (.idx 1 (.tmp 23) (.tmp 24)),
 .mk (some 26) none (.load false 1 (.tmp 25)),
 .mk (some 9) none (.mv (.tmp 26))]
 [2,7,9])
 (.seq (.region [.mk (some 27) none (.mv (.tmp 9))] [2,7,9,27])
 (.block 0
 (.seq
 (.region
 [.mk (some 35) none
 (.ibin .eql (.tmp 27) (.const (.int .i64 (-1)))),
 .mk (some 34) none (.mv (.tmp 35))]
 [2,7,9,27,34])
 (.cond (.tmp 34)
 (.seq
 (.region
 [.mk (some 4) none (.mv (.const (.pointer none))),
 .mk (some 5) none (.mv (.const (.int .i64 0))),
 .mk (some 6) none (.mv (.const (.int .i64 9)))]
 [4,5,6])
 .ret)
 (.seq
 (.region
 [.mk (some 37) none
 (.ibin .eql (.tmp 27) (.const (.int .i64 1000000000))),
 .mk (some 36) none (.mv (.tmp 37))]
 [2,7,9,36])
 (.cond (.tmp 36)
 (.seq
 (.region
 [.mk (some 4) none (.mv (.const (.pointer none))),
 .mk (some 5) none (.mv (.const (.int .i64 0))),
 .mk (some 6) none (.mv (.const (.int .i64 2)))]
 [4,5,6])
 .ret)
 (.seq
 (.region
 [.mk (some 28) none (.load true 4 (.tmp 2)),
 .mk (some 29) none (.mv (.tmp 7)),
 .mk (some 30) none (.n (Qk.mkmap 266) []),
 .mk (some 31) none
 (.build 268
 [.int .i64 0,.int .i64 0,.int .i64 0,
 .slice none 0 0,.slice none 0 0,.map none]
 [(0,4,.tmp 28),(4,1,.tmp 29),(5,1,.tmp 30)]),
 .mk (some 32) none (.box false 268 (.tmp 31)),
 .mk (some 33) none (.mv (.tmp 9)),
 .mk (some 4) none (.mv (.tmp 32)),
 .mk (some 5) none (.mv (.tmp 33)),
 .mk (some 6) none (.mv (.const (.int .i64 0)))]
 [4,5,6])
 .ret))))))))))
def S164 : FnS := ⟨38,[(4,none),(5,none),(6,none)],S164_0⟩
theorem tr164 : trFn Try.prog 164 [2] [[1,2],[1,2,7,8],[1,2,7,8,17],[4,5,6],[2,7,9],[2,7,9,27],[2,7,9,27,34],[4,5,6],[2,7,9,36],[4,5,6],[4,5,6]] = some S164 := by kernel_rfl
end Go.Proofs.Ytniobbepliknmaa.V
/- The text of parlance/rank.Count as a statement (slots: 0 g, 1 n, 2 g, 3 n, 6 _, 7 all, 8 e); no condition. -/
namespace Go.Proofs.Ytniobbepliknmaa.V
open Go
def S98_0 : Stmt :=
 .seq
 (.region
 [.mk (some 2) none (.box true 57 (.tmp 0)),
 .mk (some 4) none (.mv (.const (.int .i64 0))),
 .mk (some 5) none (.mv (.const (.int .i64 0)))]
 [1,2])
 (.seq
 (.region
 [.mk (some 10) none (.load true 4 (.tmp 2)),.mk (some 11) none (.mv (.tmp 1)),
 .mk (some 12) none (.call (.func 164) [.tmp 10,.tmp 11]),
 .mk (some 9) none (.mv (.tmp 12)),.mk (some 13) none (.extract 0 (.tmp 9)),
 .mk (some 14) none (.extract 1 (.tmp 9)),
 .mk (some 15) none (.extract 2 (.tmp 9)),.mk (some 6) none (.mv (.tmp 13)),
 .mk (some 7) none (.mv (.tmp 14)),.mk (some 8) none (.mv (.tmp 15))]
 [7,8])
 (.seq
 (.region
 [.mk (some 16) none (.mv (.tmp 7)),.mk (some 17) none (.mv (.tmp 8)),
 .mk (some 4) none (.mv (.tmp 16)),.mk (some 5) none (.mv (.tmp 17))]
 [4,5])
 .ret))
def S98 : FnS := ⟨18,[(4,none),(5,none)],S98_0⟩
theorem tr98 : trFn Try.prog 98 [2] [[1,2],[7,8],[4,5]] = some S98 := by kernel_rfl
end Go.Proofs.Ytniobbepliknmaa.V
/- The text of parlance/rank.Of as a statement (slots: 0 g, 1 t, 2 g, 3 t, 7 e, 8 n, 9 b, 10 _, 11 e); no condition. -/
namespace Go.Proofs.Ytniobbepliknmaa.V
open Go
def S99_0 : Stmt :=
 .seq
 (.region
 [.mk (some 2) none (.box true 57 (.tmp 0)),
 .mk (some 3) none (.box true 106 (.tmp 1)),
 .mk (some 4) none (.mv (.const (.int .i64 0))),
 .mk (some 5) none (.mv (.const (.int .i64 0))),
 .mk (some 6) none (.mv (.const (.int .i64 0)))]
 [2,3])
 (.seq
 (.seq
 (.region
 [.mk (some 12) none (.load true 4 (.tmp 2)),
 .mk (some 13) none (.load true 3 (.tmp 3)),
 .mk (some 14) none (.call (.func 69) [.tmp 12,.tmp 13]),
 .mk (some 7) none (.mv (.tmp 14))]
 [2,3,7])
 (.seq
 (.region
 [.mk (some 15) none (.mv (.tmp 7)),
 .mk (some 16) none (.ibin .neq (.tmp 15) (.const (.int .i64 0)))]
 [2,3,7,16])
 (.cond (.tmp 16)
 (.seq
 (.region
 [.mk (some 17) none (.mv (.tmp 7)),
 .mk (some 4) none (.mv (.const (.int .i64 0))),
 .mk (some 5) none (.mv (.const (.int .i64 0))),
 .mk (some 6) none (.mv (.tmp 17))]
 [4,5,6])
 .ret)
 .skip)))
 (.seq
 (.seq
 (.quiet
 [.mk (some 18) none (.fld 0 (.tmp 3)),
 .mk (some 19) none (.load false 1 (.tmp 18)),
 .mk (some 20) none (.ibin .lss (.tmp 19) (.const (.int .i64 0))),
 .mk (some 21) none (.mv (.tmp 20)),
 .mk (some 22) (some (21,false)) (.fld 3 (.tmp 2)),
 .mk (some 23) (some (21,false)) (.load false 1 (.tmp 22)),
 .mk (some 24) (some (21,false)) (.fld 0 (.tmp 3)),
 .mk (some 25) (some (21,false)) (.load false 1 (.tmp 24)),
 .mk (some 26) (some (21,false)) (.idx 2 (.tmp 23) (.tmp 25)),
 .mk (some 27) (some (21,false)) (.fld 0 (.tmp 26)),
 .mk (some 28) (some (21,false)) (.load false 1 (.tmp 27)),
 .mk (some 29) (some (21,false)) (.fld 2 (.tmp 2)),
 .mk (some 30) (some (21,false)) (.load false 1 (.tmp 29)),
 .mk (some 31) (some (21,false)) (.ibin .neq (.tmp 28) (.tmp 30)),
 .mk (some 32) none (.pick (.tmp 21) (.const (.bool true)) (.tmp 31))]
 [2,3,32])
 (.cond (.tmp 32)
 (.seq
 (.region
 [.mk (some 4) none (.mv (.const (.int .i64 0))),
 .mk (some 5) none (.mv (.const (.int .i64 0))),
 .mk (some 6) none (.mv (.const (.int .i64 3)))]
 [4,5,6])
 .ret)
 .skip))
 (.seq
 (.region
 [.mk (some 33) none (.load true 3 (.tmp 3)),
 .mk (some 34) none (.call (.func 100) [.tmp 33]),
 .mk (some 35) none (.len false (.tmp 34)),.mk (some 8) none (.mv (.tmp 35))]
 [2,3,8])
 (.seq
 (.region
 [.mk (some 37) none (.load true 4 (.tmp 2)),
 .mk (some 38) none (.mv (.tmp 8)),
 .mk (some 39) none (.call (.func 164) [.tmp 37,.tmp 38]),
 .mk (some 36) none (.mv (.tmp 39)),
 .mk (some 40) none (.extract 0 (.tmp 36)),
 .mk (some 41) none (.extract 1 (.tmp 36)),
 .mk (some 42) none (.extract 2 (.tmp 36)),
 .mk (some 9) none (.mv (.tmp 40)),.mk (some 10) none (.mv (.tmp 41)),
 .mk (some 11) none (.mv (.tmp 42))]
 [3,8,9,11])
 (.seq
 (.seq
 (.region
 [.mk (some 43) none (.mv (.tmp 11)),
 .mk (some 44) none
 (.ibin .neq (.tmp 43) (.const (.int .i64 0)))]
 [3,8,9,11,44])
 (.cond (.tmp 44)
 (.seq
 (.region
 [.mk (some 45) none (.mv (.tmp 11)),
 .mk (some 4) none (.mv (.const (.int .i64 0))),
 .mk (some 5) none (.mv (.const (.int .i64 0))),
 .mk (some 6) none (.mv (.tmp 45))]
 [4,5,6])
 .ret)
 .skip))
 (.seq
 (.region
 [.mk (some 46) none (.mv (.tmp 8)),.mk (some 47) none (.mv (.tmp 9)),
 .mk (some 48) none (.load true 3 (.tmp 3)),
 .mk (some 49) none (.mv (.tmp 8)),
 .mk (some 50) none
 (.call (.func 165) [.tmp 47,.tmp 48,.tmp 49]),
 .mk (some 4) none (.mv (.tmp 46)),.mk (some 5) none (.mv (.tmp 50)),
 .mk (some 6) none (.mv (.const (.int .i64 0)))]
 [4,5,6])
 .ret))))))
def S99 : FnS := ⟨51,[(4,none),(5,none),(6,none)],S99_0⟩
theorem tr99 : trFn Try.prog 99 [2,3] [[2,3],[2,3,7],[2,3,7,16],[4,5,6],[2,3,32],[4,5,6],[2,3,8],[3,8,9,11],[3,8,9,11,44],[4,5,6],[4,5,6]] = some S99 := by kernel_rfl
end Go.Proofs.Ytniobbepliknmaa.V
/- rank: open, Count, Of walked; no condition. -/
namespace Go.Proofs.Ytniobbepliknmaa.V
open Go
set_option linter.unusedVariables false
set_option linter.unusedSimpArgs false
attribute [local go_sem] e_seq e_region e_quiet e_join e_loop e_cond e_block e_exit e_ret e_skip e_fin e_kseq e_snrm e_sret e_sex e_bnrm e_bret e_bex e_rnrm e_rret e_res e_condC e_nil e_g e_mv g_mv e_pick g_pick pickC_eq e_ibin g_ibin ibinC_eq e_sbin g_sbin e_beq g_beq beqC_eq e_nilq g_nilq nilqC_sl nilqC_pt nilqC_mp e_un g_un unC_not unC_neg e_conv g_conv convC_eq e_fld g_fld fldC_ref fldC_ptr e_nilCheck g_nilCheck nilCheckC_ref nilCheckC_ptr nilCheckC_fun e_field g_field fieldC_eq e_len g_len lenC_sl lenC_str e_extract g_extract extractC_eq e_mkFunc e_build g_build e_idiv g_idiv idivC_eq e_ishift g_ishift ishiftC_eq e_idx g_idx e_idxA g_idxA e_load g_load e_loadB g_loadB atB_ref atB_v g_mkFunc loadC_ref loadC_ptr loadB_eq e_slc g_slc e_box boxC_loc boxC_esc e_alloc allocC_loc allocC_esc e_buildS e_store storeC_ref storeC_ptr storeB_eq e_append e_appz e_mk mkC_eq e_call callC_eq e_fn g_fn fnC_eq fnV_min' fnV_max' fnV_rune' e_q g_q e_a e_n g_call g_box g_alloc g_buildS g_store g_append g_mk g_a g_n g_dead e_dead e_callK e_drawn e_tree e_finJ e_tk e_tfin e_tno e_nbt_q e_nbt_qn e_nbt_a e_nbt_an e_nbt_fin e_drawnB e_bxb_nil e_bxb e_stB_none e_stB_some boxSt_store bs_mv bs_pick bs_ibin bs_idiv bs_ishift bs_sbin bs_beq bs_nilq bs_un bs_conv bs_box bs_alloc bs_build bs_buildS bs_load bs_fld bs_nilCheck bs_idx bs_idxA bs_field bs_slc bs_len bs_append bs_appz bs_mk bs_call bs_extract bs_mkFunc bs_fn bs_q bs_a bs_n bs_loadB bs_dead isBox_box e_early_nil e_early_t e_early_f e_nob_nil e_nob_none e_nob_some isBox_dead isBox_v isBox_ref e_dnil e_dk e_ek e_finB vcOps_vc1 e_dcons e_tq e_ekt e_tearly e_talt e_dearly look_nil look_c proj_nil proj_c looks_nil looks_c zip_nil zip_c val_tmp val_const val_func slv_v slv_box slv_ref slot_tmp slot_const slot_func slotL_v slotL_box slotL_ref put_some put_none updBox_c boxSet_box gd_eq slotVals_nil slotVals_c slotVals_b boxV_box boxOn_box slotsOn_nil slotsOn_c slotsOn_b resV_one resV_two vals_nil vals_c allOn_nil allOn_c partOn_nil partOn_c partVals_nil partVals_c fits_nil fits_c fillL_nil fillL_c mkv_one mkv_agg cellsV_agg cellsV_int cellsV_bool cellsV_slice cellsV_string cellsV_pointer cellsV_func cellsV_nilf cellsV_map one'_nil one'_c oc_int oc_bool oc_slice oc_string oc_pointer oc_func oc_nilf oc_map setC_eq iv_add iv_sub iv_mul iv_eql iv_neq iv_lss iv_leq iv_gtr iv_geq iok_add iok_sub iok_mul iok_eql iok_neq iok_lss iok_leq iok_gtr iok_geq pickV_bool args0_nil args0_c bnd_none bnd_some imp_bt imp_bf imp_ebt imp_ebf imp_eb1 imp_np imp_pp beq_tt beq_tf beq_ft beq_ff cond_or cond_and e_round e_meet Int.le_refl Int.toNat_zero decide_true decide_false Bool.or_false Bool.false_or Bool.true_or Bool.or_true Bool.and_false Bool.false_and Bool.bne_false Bool.bne_true beq_iff_eq Int.cast_ofNat_Int not_false_eq_true not_true_eq_false false_and and_false false_implies true_implies true_and and_true Bool.true_and Bool.and_true Bool.not_true Bool.not_false forall_const implies_true List.take_zero List.drop_zero List.take_succ_cons List.drop_succ_cons List.take_nil List.drop_nil List.length_cons List.length_nil List.nil_append List.append_nil List.cons_append Int.toNat_natCast decide_eq_true_eq decide_eq_false_iff_not cond_true cond_false and_self List.getElem?_cons_zero List.getElem?_cons_succ List.set_cons_zero List.set_cons_succ Option.some.injEq exists_eq_left' Nat.zero_add Nat.add_zero Nat.mul_one imp_self true_or or_true or_false false_or Bool.or_eq_true Bool.or_eq_false_iff Bool.and_eq_true Bool.and_eq_false_iff Bool.not_eq_true' Bool.not_eq_false'

def opE (g : Gr) (n : Int) : Int := if cenE g n ≠ 0 then cenE g n else if cenF g n.toNat g.st.toNat n.toNat = -1 then 9 else if cenF g n.toNat g.st.toNat n.toNat = 1000000000 then 2 else 0
/-- a book that was opened -/
def OpenR (g : Gr) (n : Int) (R : Option Addr) (cR : Nat) (Γr : Ctx) (v : Value) (Γ : Ctx) : Prop := (opE g n ≠ 0 ∧ Γ = [] ∧ v = .tuple #[.pointer none, .int .i64 0, .int .i64 (opE g n)]) ∨
  (opE g n = 0 ∧ ∃ (m : Nat) (gb gm go : PH) (b : Nat) (An : Option Addr) (cn bm : Nat), n = m ∧ m ≤ 24 ∧ Fine g m ∧ Γ = [gb, gm, go] ∧ v = .tuple #[.pointer (some ⟨b, 0, none⟩), .int .i64 ((cntT g (mostN g m) g.st m : Nat) : Int), .int .i64 0] ∧
    BookK (lk ([gb, go] ++ Γr)) b g m R cR An cn bm ∧ MapM gm bm intsV (Value.int .i64) (okInts 3) ([] : List (List Int × Int)))
theorem rank_open {Γr : Ctx} {g : Gr} {R : Option Addr} {cR : Nat} (hx : SlOk (lk Γr) R cR g.rs) {n : Int} (hn : -9223372036854775808 ≤ n ∧ n ≤ 9223372036854775807) :
    Ret Try.prog 164 [.agg #[.int .i64 g.ts, .int .i64 g.ns, .int .i64 g.st, .slice R g.rs.length cR], .int .i64 n] Γr [] (OpenR g n R cR Γr) := by
  generalize hR : OpenR g n R cR Γr = R'
  refine ret_of_vc tr164 (Nat.le_of_ble_eq_true rfl) ?_
  simp -implicitDefEqProofs only [S164, S164_0, go_sem, Nat.reduceBEq, Nat.reduceAdd, Nat.reduceSub, Nat.reduceMul, Nat.reduceLeDiff, reduceCtorEq, ↓reduceIte, Int.reduceLT, Int.reduceLE, Int.reduceEq, Int.reduceNe]
  intro bg
  refine CallVC.read (Γ := []) (census_trees (Γr := [] ++ Γr) hx hn) ?_
  rintro v Γ' (⟨hne, rfl, rfl⟩ | ⟨h0, go, A, c, rfl, rfl, hS⟩)
  · simp -implicitDefEqProofs only [go_sem, Nat.reduceBEq, Nat.reduceAdd, Nat.reduceSub, Nat.reduceMul, Nat.reduceLeDiff, reduceCtorEq, ↓reduceIte, Int.reduceLT, Int.reduceLE, Int.reduceEq, Int.reduceNe]
    refine ⟨fun _ => Up.here ?_, fun h => absurd h hne⟩
    subst hR
    have : opE g n = cenE g n := if_pos hne
    exact .inl ⟨by rw [this]; exact hne, rfl, by rw [this]⟩
  · have hck : ckF g = 0 := by
      unfold cenE at h0
      split at h0
      · rename_i h; exact absurd h0 h
      · rename_i h; exact Classical.not_not.1 h
    have hnb : ¬ (n < 0 ∨ 24 < n) := fun h => by
      unfold cenE at h0
      rw [if_neg (by omega), if_pos h] at h0
      omega
    have V := ckF_ok hck
    have hst := V.st
    have hns := V.ns
    obtain ⟨m, rfl⟩ : ∃ m : Nat, n = m := ⟨n.toNat, by omega⟩
    rw [Int.toNat_natCast] at hS
    obtain ⟨s, hs⟩ : ∃ s : Nat, g.st = s := ⟨g.st.toNat, by omega⟩
    have hcl : (cenRows g m g.ns.toNat).length = g.ns.toNat := by simp [cenRows]
    obtain ⟨b1, o1, h1, A1, c1, hr1, hc1⟩ := hS.list (i := s) (by omega)
    have e1 : (cenRows g m g.ns.toNat)[s]'(by omega) = cenRow g m s (m + 1) := by simp [cenRows]
    rw [e1] at hr1 hc1
    have hrl : (cenRow g m s (m + 1)).length = m + 1 := by simp [cenRow]
    rw [hrl] at hc1
    obtain ⟨b2, o2, h2, hc2⟩ := hr1.int (i := m) (by omega)
    have e2 : (cenRow g m s (m + 1))[m]'(by omega) = cenF g m s m := by simp [cenRow]
    rw [e2] at hc2
    have hop : opE g (m : Int) = if cenF g m s m = -1 then 9 else if cenF g m s m = 1000000000 then 2 else 0 := by
      unfold opE
      rw [if_neg (by omega), Int.toNat_natCast, show g.st.toNat = s by omega]
    have hcl2 : g.ns.toNat = (cenRows g m g.ns.toNat).length := hcl.symm
    simp -implicitDefEqProofs only [go_sem, Nat.reduceBEq, Nat.reduceAdd, Nat.reduceSub, Nat.reduceMul, Nat.reduceLeDiff, reduceCtorEq, ↓reduceIte, Int.reduceLT, Int.reduceLE, Int.reduceEq, Int.reduceNe]
    rw [hs]
    refine s_idx h1 (by omega) (by omega) ?_
    simp -implicitDefEqProofs only [go_sem, Nat.reduceBEq, Nat.reduceAdd, Nat.reduceSub, Nat.reduceMul, Nat.reduceLeDiff, reduceCtorEq, ↓reduceIte, Int.reduceLT, Int.reduceLE, Int.reduceEq, Int.reduceNe]
    refine s_ld0 (hc1 _ (lk_l [go] _)) (by simp) (by simp) ?_
    simp -implicitDefEqProofs only [go_sem, Nat.reduceBEq, Nat.reduceAdd, Nat.reduceSub, Nat.reduceMul, Nat.reduceLeDiff, reduceCtorEq, ↓reduceIte, Int.reduceLT, Int.reduceLE, Int.reduceEq, Int.reduceNe]
    refine s_idx h2 (by omega) (by omega) ?_
    simp -implicitDefEqProofs only [go_sem, Nat.reduceBEq, Nat.reduceAdd, Nat.reduceSub, Nat.reduceMul, Nat.reduceLeDiff, reduceCtorEq, ↓reduceIte, Int.reduceLT, Int.reduceLE, Int.reduceEq, Int.reduceNe]
    refine s_ld0 (hc2 _ (lk_l [go] _)) (by simp) (by simp) ?_
    simp -implicitDefEqProofs only [go_sem, Nat.reduceBEq, Nat.reduceAdd, Nat.reduceSub, Nat.reduceMul, Nat.reduceLeDiff, reduceCtorEq, ↓reduceIte, Int.reduceLT, Int.reduceLE, Int.reduceEq, Int.reduceNe]
    refine ⟨fun e => ?_, fun ne1 => ⟨fun e => ?_, fun ne2 => ?_⟩⟩
    · refine Up.to [] (Ent.nil _) ?_
      subst hR
      have ho : opE g (m : Int) = 9 := by rw [hop, if_pos e]
      exact .inl ⟨by rw [ho]; decide, rfl, by rw [ho]⟩
    · refine Up.to [] (Ent.nil _) ?_
      subst hR
      have ho : opE g (m : Int) = 2 := by rw [hop, if_neg (by omega), if_pos e]
      exact .inl ⟨by rw [ho]; decide, rfl, by rw [ho]⟩
    · obtain ⟨F, hval⟩ := fine_of V hs ne1 ne2
      have ho : opE g (m : Int) = 0 := by rw [hop, if_neg ne1, if_neg ne2]
      refine s_mkmap (fun bm => ?_)
      simp -implicitDefEqProofs only [go_sem, Nat.reduceBEq, Nat.reduceAdd, Nat.reduceSub, Nat.reduceMul, Nat.reduceLeDiff, reduceCtorEq, ↓reduceIte, Int.reduceLT, Int.reduceLE, Int.reduceEq, Int.reduceNe]
      intro b
      refine Up.here ?_
      subst hR
      refine .inr ⟨ho, m, _, _, go, b, A, c, bm, rfl, by omega, F, rfl, by rw [hval], ⟨⟨_, List.mem_cons_self .., ?_⟩, hx.mono (lk_r [_, go] Γr), ?_⟩, MapM.new _ _ _ _⟩
      · rw [bkC, hs]
        exact one_self _ _
      · exact hS.mono (lk_sub fun g hg => by simp at hg; subst hg; simp)
theorem rank_count {Γr : Ctx} {g : Gr} {R : Option Addr} {cR : Nat} (hx : SlOk (lk Γr) R cR g.rs) {n : Int} (hn : -9223372036854775808 ≤ n ∧ n ≤ 9223372036854775807) :
    Ret Try.prog 98 [.agg #[.int .i64 g.ts, .int .i64 g.ns, .int .i64 g.st, .slice R g.rs.length cR], .int .i64 n] Γr [] (fun v Γ => Γ = [] ∧ ((opE g n ≠ 0 ∧ v = .tuple #[.int .i64 0, .int .i64 (opE g n)]) ∨
      (opE g n = 0 ∧ ∃ m : Nat, n = m ∧ m ≤ 24 ∧ Fine g m ∧ v = .tuple #[.int .i64 ((cntT g (mostN g m) g.st m : Nat) : Int), .int .i64 0]))) := by
  generalize hR : (fun (v : Value) (Γ : Ctx) => Γ = [] ∧ _) = R'
  refine ret_of_vc tr98 (Nat.le_of_ble_eq_true rfl) ?_
  simp -implicitDefEqProofs only [S98, S98_0, go_sem, Nat.reduceBEq, Nat.reduceAdd, Nat.reduceSub, Nat.reduceMul, Nat.reduceLeDiff, reduceCtorEq, ↓reduceIte, Int.reduceLT, Int.reduceLE, Int.reduceEq, Int.reduceNe]
  intro bg
  refine CallVC.read (Γ := []) (rank_open (Γr := [] ++ Γr) hx hn) ?_
  rintro v Γ' (⟨hne, rfl, rfl⟩ | ⟨h0, m, gb, gm, go, b, An, cn, bm, rfl, hm, F, rfl, rfl, hB, hM⟩)
  · simp -implicitDefEqProofs only [go_sem, Nat.reduceBEq, Nat.reduceAdd, Nat.reduceSub, Nat.reduceMul, Nat.reduceLeDiff, reduceCtorEq, ↓reduceIte, Int.reduceLT, Int.reduceLE, Int.reduceEq, Int.reduceNe]
    refine Up.here ?_
    subst hR
    exact ⟨rfl, .inl ⟨hne, rfl⟩⟩
  · simp -implicitDefEqProofs only [go_sem, Nat.reduceBEq, Nat.reduceAdd, Nat.reduceSub, Nat.reduceMul, Nat.reduceLeDiff, reduceCtorEq, ↓reduceIte, Int.reduceLT, Int.reduceLE, Int.reduceEq, Int.reduceNe]
    refine Up.to [] (Ent.nil _) ?_
    subst hR
    exact ⟨rfl, .inr ⟨h0, m, rfl, hm, F, rfl⟩⟩
/-- what Of answers -/
def OfR (g : Gr) (x : Tr) (v : Value) : Prop := (tcF g x ≠ 0 ∧ v = .tuple #[.int .i64 0, .int .i64 0, .int .i64 (tcF g x)]) ∨
  (tcF g x = 0 ∧ ((x.rule < 0 ∨ (g.rs.getD x.rule.toNat ⟨0, []⟩).l ≠ g.st) ∧ v = .tuple #[.int .i64 0, .int .i64 0, .int .i64 3] ∨
    ¬ (x.rule < 0 ∨ (g.rs.getD x.rule.toNat ⟨0, []⟩).l ≠ g.st) ∧ ((opE g ((wdT x).length : Int) ≠ 0 ∧ v = .tuple #[.int .i64 0, .int .i64 0, .int .i64 (opE g ((wdT x).length : Int))]) ∨
      (opE g ((wdT x).length : Int) = 0 ∧ ∃ i : Nat, (lstT g (mostN g (wdT x).length) g.st (wdT x).length)[i]? = some x ∧ v = .tuple #[.int .i64 ((wdT x).length : Int), .int .i64 (i : Int), .int .i64 0]))))
theorem rank_of {Γr : Ctx} {g : Gr} {R : Option Addr} {cR : Nat} (hx : SlOk (lk Γr) R cR g.rs) (x : Tr) {A : Option Addr} {c : Nat} (hA : SlOk (lk Γr) A c x.kids) (hnum : numT x ≤ 1048576) :
    Ret Try.prog 99 [.agg #[.int .i64 g.ts, .int .i64 g.ns, .int .i64 g.st, .slice R g.rs.length cR], .agg #[.int .i64 x.rule, .int .i64 x.term, .slice A x.kids.length c]] Γr [] (fun v Γ => Γ = [] ∧ OfR g x v) := by
  generalize hR : (fun (v : Value) (Γ : Ctx) => Γ = [] ∧ _) = R'
  refine ret_of_vc tr99 (Nat.le_of_ble_eq_true rfl) ?_
  simp -implicitDefEqProofs only [S99, S99_0, go_sem, Nat.reduceBEq, Nat.reduceAdd, Nat.reduceSub, Nat.reduceMul, Nat.reduceLeDiff, reduceCtorEq, ↓reduceIte, Int.reduceLT, Int.reduceLE, Int.reduceEq, Int.reduceNe]
  intro bg bx
  refine CallVC.read (Γ := []) (tree_check (Γr := [] ++ Γr) hx x hA hnum) ?_
  rintro v Γ' ⟨rfl, rfl⟩
  simp -implicitDefEqProofs only [go_sem, Nat.reduceBEq, Nat.reduceAdd, Nat.reduceSub, Nat.reduceMul, Nat.reduceLeDiff, reduceCtorEq, ↓reduceIte, Int.reduceLT, Int.reduceLE, Int.reduceEq, Int.reduceNe]
  refine ⟨fun hne => Up.here ?_, fun h0 => ?_⟩
  · subst hR
    exact ⟨rfl, .inl ⟨hne, rfl⟩⟩
  have hck : ckF g = 0 := by
    unfold tcF at h0
    split at h0
    · rename_i h; exact absurd h0 h
    · rename_i h; exact Classical.not_not.1 h
  have hv : validT g x = true := by
    unfold tcF at h0
    rw [if_neg (by omega)] at h0
    split at h0
    · omega
    · split at h0
      · assumption
      · omega
  have V := ckF_ok hck
  have hvl := V.len
  have hsh := hx.short
  by_cases hr : x.rule = -1
  · have hd : decide (x.rule < 0) = true := decide_eq_true (by omega)
    simp only [hd]
    simp -implicitDefEqProofs only [go_sem, Nat.reduceBEq, Nat.reduceAdd, Nat.reduceSub, Nat.reduceMul, Nat.reduceLeDiff, reduceCtorEq, ↓reduceIte, Int.reduceLT, Int.reduceLE, Int.reduceEq, Int.reduceNe]
    refine s_idxg (b := 0) (o := 0) (by simp) ?_
    simp -implicitDefEqProofs only [go_sem, Nat.reduceBEq, Nat.reduceAdd, Nat.reduceSub, Nat.reduceMul, Nat.reduceLeDiff, reduceCtorEq, ↓reduceIte, Int.reduceLT, Int.reduceLE, Int.reduceEq, Int.reduceNe]
    refine s_ldg0 (cs := [.int .i64 0]) (by simp) (by simp) (by simp) (by simp) ?_
    simp -implicitDefEqProofs only [go_sem, Nat.reduceBEq, Nat.reduceAdd, Nat.reduceSub, Nat.reduceMul, Nat.reduceLeDiff, reduceCtorEq, ↓reduceIte, Int.reduceLT, Int.reduceLE, Int.reduceEq, Int.reduceNe]
    refine Up.here ?_
    subst hR
    exact ⟨rfl, .inr ⟨h0, .inl ⟨.inl (by omega), rfl⟩⟩⟩
  · obtain ⟨p, hp, hxr, hxt, hsf, hvk⟩ := valid_node hv hr
    have hd : decide (x.rule < 0) = false := decide_eq_false (by omega)
    have hgd : (g.rs.getD x.rule.toNat ⟨0, []⟩) = g.rs[p] := by rw [hxr, Int.toNat_natCast]; simp [List.getD_eq_getElem?_getD, hp]
    obtain ⟨b0, o0, h0', A1, c1, hr1, hcr⟩ := hx.ru hp
    simp only [hd, hxr]
    refine s_idx h0' (by omega) (by omega) ?_
    simp -implicitDefEqProofs only [go_sem, Nat.reduceBEq, Nat.reduceAdd, Nat.reduceSub, Nat.reduceMul, Nat.reduceLeDiff, reduceCtorEq, ↓reduceIte, Int.reduceLT, Int.reduceLE, Int.reduceEq, Int.reduceNe]
    refine s_ld0 (by simpa using hcr _ (lk_r [] _)) (by simp) (by simp) ?_
    simp -implicitDefEqProofs only [go_sem, Nat.reduceBEq, Nat.reduceAdd, Nat.reduceSub, Nat.reduceMul, Nat.reduceLeDiff, reduceCtorEq, ↓reduceIte, Int.reduceLT, Int.reduceLE, Int.reduceEq, Int.reduceNe]
    refine ⟨fun hne => Up.here ?_, fun heq => ?_⟩
    · subst hR
      exact ⟨rfl, .inr ⟨h0, .inl ⟨.inr (by rw [hgd]; exact hne.resolve_left (by omega)), rfl⟩⟩⟩
    have hns : ¬ (x.rule < 0 ∨ (g.rs.getD x.rule.toNat ⟨0, []⟩).l ≠ g.st) := by
      rw [hgd]
      rintro (q | q)
      · omega
      · exact q heq.2
    rw [← hxr]
    refine CallVC.read (Γ := []) (tree_word (Γr := [] ++ Γr) x hA hnum) ?_
    rintro v Γ' ⟨gw, rfl, hBw⟩
    obtain ⟨Aw, cw, rfl⟩ := hBw.val
    have hwl := wdT_le x
    simp -implicitDefEqProofs only [go_sem, Nat.reduceBEq, Nat.reduceAdd, Nat.reduceSub, Nat.reduceMul, Nat.reduceLeDiff, reduceCtorEq, ↓reduceIte, Int.reduceLT, Int.reduceLE, Int.reduceEq, Int.reduceNe]
    refine CallVC.read (Γ := [gw]) (rank_open (Γr := [gw] ++ Γr) (hx.mono (lk_r [gw] _)) (n := ((wdT x).length : Int)) (by omega)) ?_
    rintro v Γ' (⟨hne, rfl, rfl⟩ | ⟨ho, m, gb, gm, go, b, An, cn, bm, hwm, hm, F, rfl, rfl, hB, hM⟩)
    · simp -implicitDefEqProofs only [go_sem, Nat.reduceBEq, Nat.reduceAdd, Nat.reduceSub, Nat.reduceMul, Nat.reduceLeDiff, reduceCtorEq, ↓reduceIte, Int.reduceLT, Int.reduceLE, Int.reduceEq, Int.reduceNe]
      refine ⟨fun _ => Up.to [] (Ent.nil _) ?_, fun h => absurd h hne⟩
      subst hR
      exact ⟨rfl, .inr ⟨h0, .inr ⟨hns, .inl ⟨hne, rfl⟩⟩⟩⟩
    · have hwm : (wdT x).length = m := by omega
      simp -implicitDefEqProofs only [go_sem, Nat.reduceBEq, Nat.reduceAdd, Nat.reduceSub, Nat.reduceMul, Nat.reduceLeDiff, reduceCtorEq, ↓reduceIte, Int.reduceLT, Int.reduceLE, Int.reduceEq, Int.reduceNe]
      subst hwm
      refine CallVC.perm (Γm := [gm]) (Γf := [gb, go, gw]) (book_of F hm x hv (Nat.le_refl _) (fun _ => by rw [hsf]; show InS g g.st _ g.rs[p].l _; rw [heq.2]; exact InS.self g g.st _) hnum (Γr := [gb, go, gw] ++ Γr) (hB.mono (lk_sub fun g hg => by simp at hg ⊢; rcases hg with rfl | rfl | hg <;> simp [*])) (hA.mono (lk_r [gb, go, gw] _)) hM (fun i p k w r h => by simp [mget] at h)) (List.Perm.swap gm gb _) (List.Sublist.refl _) ?_
      rintro v Γ' ⟨gm', lst', i, rfl, rfl, hM', hK', hi⟩
      simp -implicitDefEqProofs only [go_sem, Nat.reduceBEq, Nat.reduceAdd, Nat.reduceSub, Nat.reduceMul, Nat.reduceLeDiff, reduceCtorEq, ↓reduceIte, Int.reduceLT, Int.reduceLE, Int.reduceEq, Int.reduceNe]
      refine Up.to [] (Ent.nil _) ?_
      subst hR
      refine ⟨rfl, .inr ⟨h0, .inr ⟨hns, .inr ⟨ho, i, ?_, rfl⟩⟩⟩⟩
      rw [hsf] at hi
      have hi : (lstT g (mostN g (wdT x).length) g.rs[p].l (wdT x).length)[i]? = some x := hi
      rw [heq.2] at hi
      exact hi
end Go.Proofs.Ytniobbepliknmaa.V
/- The text of parlance/parllaw5.plain as a statement (slots: ); no condition. -/
namespace Go.Proofs.Ytniobbepliknmaa.V
open Go
def S40_0 : Stmt :=
 .seq
 (.region
 [.mk (some 0) none
 (.alloc true 57
 (.agg
 (Array.mk
 [.int .i64 0,.int .i64 0,.int .i64 0,.slice none 0 0])))]
 [0])
 (.seq
 (.region
 [.mk (some 1) none
 (.build 39 [.bool false,.int .i64 0] [(0,1,.const (.bool true))]),
 .mk (some 2) none (.buildS 39 1 [.bool false,.int .i64 0] [(0,2,.tmp 1)]),
 .mk (some 3) none (.build 37 [.int .i64 0,.slice none 0 0] [(1,1,.tmp 2)]),
 .mk (some 4) none
 (.build 39 [.bool false,.int .i64 0]
 [(0,1,.const (.bool true)),(1,1,.const (.int .i64 1))]),
 .mk (some 5) none (.build 39 [.bool false,.int .i64 0] []),
 .mk (some 6) none
 (.buildS 39 2 [.bool false,.int .i64 0,.bool false,.int .i64 0]
 [(0,2,.tmp 4),(2,2,.tmp 5)]),
 .mk (some 7) none (.build 37 [.int .i64 0,.slice none 0 0] [(1,1,.tmp 6)]),
 .mk (some 8) none
 (.buildS 37 2
 [.int .i64 0,.slice none 0 0,.int .i64 0,.slice none 0 0]
 [(0,2,.tmp 3),(2,2,.tmp 7)]),
 .mk (some 9) none
 (.build 57
 [.int .i64 0,.int .i64 0,.int .i64 0,.slice none 0 0]
 [(0,1,.const (.int .i64 2)),(1,1,.const (.int .i64 1)),
 (3,1,.tmp 8)]),
 .mk none none (.store 4 (.tmp 0) (.tmp 9))]
 [0])
 .ret)
def S40 : FnS := ⟨10,[(0,some (true,4))],S40_0⟩
theorem tr40 : trFn Try.prog 40 [0] [[0],[0]] = some S40 := by kernel_rfl
end Go.Proofs.Ytniobbepliknmaa.V
/- parllaw5.plain and slices.Equal of bools walked; no condition. -/
namespace Go.Proofs.Ytniobbepliknmaa.V
open Go
set_option linter.unusedVariables false
set_option linter.unusedSimpArgs false
attribute [local go_sem] e_seq e_region e_quiet e_join e_loop e_cond e_block e_exit e_ret e_skip e_fin e_kseq e_snrm e_sret e_sex e_bnrm e_bret e_bex e_rnrm e_rret e_res e_condC e_nil e_g e_mv g_mv e_pick g_pick pickC_eq e_ibin g_ibin ibinC_eq e_sbin g_sbin e_beq g_beq beqC_eq e_nilq g_nilq nilqC_sl nilqC_pt nilqC_mp e_un g_un unC_not unC_neg e_conv g_conv convC_eq e_fld g_fld fldC_ref fldC_ptr e_nilCheck g_nilCheck nilCheckC_ref nilCheckC_ptr nilCheckC_fun e_field g_field fieldC_eq e_len g_len lenC_sl lenC_str e_extract g_extract extractC_eq e_mkFunc e_build g_build e_idiv g_idiv idivC_eq e_ishift g_ishift ishiftC_eq e_idx g_idx e_idxA g_idxA e_load g_load e_loadB g_loadB atB_ref atB_v g_mkFunc loadC_ref loadC_ptr loadB_eq e_slc g_slc e_box boxC_loc boxC_esc e_alloc allocC_loc allocC_esc e_buildS e_store storeC_ref storeC_ptr storeB_eq e_append e_appz e_mk mkC_eq e_call callC_eq e_fn g_fn fnC_eq fnV_min' fnV_max' fnV_rune' e_q g_q e_a e_n g_call g_box g_alloc g_buildS g_store g_append g_mk g_a g_n g_dead e_dead e_callK e_drawn e_tree e_finJ e_tk e_tfin e_tno e_nbt_q e_nbt_qn e_nbt_a e_nbt_an e_nbt_fin e_drawnB e_bxb_nil e_bxb e_stB_none e_stB_some boxSt_store bs_mv bs_pick bs_ibin bs_idiv bs_ishift bs_sbin bs_beq bs_nilq bs_un bs_conv bs_box bs_alloc bs_build bs_buildS bs_load bs_fld bs_nilCheck bs_idx bs_idxA bs_field bs_slc bs_len bs_append bs_appz bs_mk bs_call bs_extract bs_mkFunc bs_fn bs_q bs_a bs_n bs_loadB bs_dead isBox_box e_early_nil e_early_t e_early_f e_nob_nil e_nob_none e_nob_some isBox_dead isBox_v isBox_ref e_dnil e_dk e_ek e_finB vcOps_vc1 e_dcons e_tq e_ekt e_tearly e_talt e_dearly look_nil look_c proj_nil proj_c looks_nil looks_c zip_nil zip_c val_tmp val_const val_func slv_v slv_box slv_ref slot_tmp slot_const slot_func slotL_v slotL_box slotL_ref put_some put_none updBox_c boxSet_box gd_eq slotVals_nil slotVals_c slotVals_b boxV_box boxOn_box slotsOn_nil slotsOn_c slotsOn_b resV_one resV_two vals_nil vals_c allOn_nil allOn_c partOn_nil partOn_c partVals_nil partVals_c fits_nil fits_c fillL_nil fillL_c mkv_one mkv_agg cellsV_agg cellsV_int cellsV_bool cellsV_slice cellsV_string cellsV_pointer cellsV_func cellsV_nilf cellsV_map one'_nil one'_c oc_int oc_bool oc_slice oc_string oc_pointer oc_func oc_nilf oc_map setC_eq iv_add iv_sub iv_mul iv_eql iv_neq iv_lss iv_leq iv_gtr iv_geq iok_add iok_sub iok_mul iok_eql iok_neq iok_lss iok_leq iok_gtr iok_geq pickV_bool args0_nil args0_c bnd_none bnd_some imp_bt imp_bf imp_ebt imp_ebf imp_eb1 imp_np imp_pp beq_tt beq_tf beq_ft beq_ff cond_or cond_and e_round e_meet Int.le_refl Int.toNat_zero decide_true decide_false Bool.or_false Bool.false_or Bool.true_or Bool.or_true Bool.and_false Bool.false_and Bool.bne_false Bool.bne_true beq_iff_eq Int.cast_ofNat_Int not_false_eq_true not_true_eq_false false_and and_false false_implies true_implies true_and and_true Bool.true_and Bool.and_true Bool.not_true Bool.not_false forall_const implies_true List.take_zero List.drop_zero List.take_succ_cons List.drop_succ_cons List.take_nil List.drop_nil List.length_cons List.length_nil List.nil_append List.append_nil List.cons_append Int.toNat_natCast decide_eq_true_eq decide_eq_false_iff_not cond_true cond_false and_self List.getElem?_cons_zero List.getElem?_cons_succ List.set_cons_zero List.set_cons_succ Option.some.injEq exists_eq_left' Nat.zero_add Nat.add_zero Nat.mul_one imp_self true_or or_true or_false false_or Bool.or_eq_true Bool.or_eq_false_iff Bool.and_eq_true Bool.and_eq_false_iff Bool.not_eq_true' Bool.not_eq_false'

def plainG : Gr := ⟨2, 1, 0, [⟨0, [⟨true, 0⟩]⟩, ⟨0, [⟨true, 1⟩, ⟨false, 0⟩]⟩]⟩
theorem plain_ {Γr : Ctx} : Ret Try.prog 40 [] Γr [] (fun v Γ => ∃ g A c, Γ = [g] ∧ SlOk (lk [g]) A c plainG.rs ∧ v = .agg #[.int .i64 2, .int .i64 1, .int .i64 0, .slice A 2 c]) := by
  generalize hR : (fun (v : Value) (Γ : Ctx) => ∃ g A c, _) = R
  refine ret_of_vc tr40 (Nat.le_of_ble_eq_true rfl) ?_
  simp -implicitDefEqProofs only [S40, S40_0, go_sem, Nat.reduceBEq, Nat.reduceAdd, Nat.reduceSub, Nat.reduceMul, Nat.reduceLeDiff, reduceCtorEq, ↓reduceIte, Int.reduceLT, Int.reduceLE, Int.reduceEq, Int.reduceNe]
  intro b b1 b2
  refine Up.one fun g hg => ?_
  subst hR
  refine ⟨g, _, 2, rfl, ?_, rfl⟩
  refine lit_rep2 (cs := [.int .i64 0, .slice (some ⟨b, 0, none⟩) 1 1]) (ds := [.int .i64 0, .slice (some ⟨b1, 0, none⟩) 2 2]) _ _ (hg _ _ lk_head) rfl ⟨_, _, rfl, ?_⟩ ⟨_, _, rfl, ?_⟩
  · exact lit_rep1 (cs := [.bool true, .int .i64 0]) (⟨true, 0⟩ : Sy) (hg _ _ (lk_tail (lk_tail lk_head))) rfl
  · exact lit_rep2 (cs := [.bool true, .int .i64 1]) (ds := [.bool false, .int .i64 0]) (⟨true, 1⟩ : Sy) (⟨false, 0⟩ : Sy) (hg _ _ (lk_tail lk_head)) rfl rfl rfl
end Go.Proofs.Ytniobbepliknmaa.V
/- The text of parlance/parllaw5.RankRefuses as a statement (slots: 0 g, 1 t, 2 g, 3 t, 5 x, 6 e, 7 n, 8 i, 9 e, 10 f); no condition. -/
namespace Go.Proofs.Ytniobbepliknmaa.V
open Go
def S18_0 : Stmt :=
 .seq
 (.region
 [.mk (some 2) none (.box true 57 (.tmp 0)),
 .mk (some 3) none (.box true 106 (.tmp 1)),
 .mk (some 4) none (.mv (.const (.bool false)))]
 [2,3])
 (.seq
 (.seq
 (.region
 [.mk (some 12) none (.call (.func 40) []),
 .mk (some 13) none
 (.call (.func 98) [.tmp 12,.const (.int .i64 4)]),
 .mk (some 11) none (.mv (.tmp 13)),.mk (some 14) none (.extract 0 (.tmp 11)),
 .mk (some 15) none (.extract 1 (.tmp 11)),.mk (some 5) none (.mv (.tmp 14)),
 .mk (some 6) none (.mv (.tmp 15))]
 [2,3,5,6])
 (.seq
 (.region
 [.mk (some 16) none (.mv (.tmp 5)),
 .mk (some 17) none (.ibin .neq (.tmp 16) (.const (.int .i64 1))),
 .mk (some 18) none (.mv (.tmp 17)),
 .mk (some 19) (some (18,false)) (.mv (.tmp 6)),
 .mk (some 20) (some (18,false))
 (.ibin .neq (.tmp 19) (.const (.int .i64 0))),
 .mk (some 21) none (.pick (.tmp 18) (.const (.bool true)) (.tmp 20))]
 [2,3,21])
 (.cond (.tmp 21)
 (.seq (.region [.mk (some 4) none (.mv (.const (.bool false)))] [4]) .ret)
 .skip)))
 (.seq
 (.region
 [.mk (some 23) none (.load true 4 (.tmp 2)),
 .mk (some 24) none (.load true 3 (.tmp 3)),
 .mk (some 25) none (.call (.func 99) [.tmp 23,.tmp 24]),
 .mk (some 22) none (.mv (.tmp 25)),.mk (some 26) none (.extract 0 (.tmp 22)),
 .mk (some 27) none (.extract 1 (.tmp 22)),
 .mk (some 28) none (.extract 2 (.tmp 22)),.mk (some 7) none (.mv (.tmp 26)),
 .mk (some 8) none (.mv (.tmp 27)),.mk (some 9) none (.mv (.tmp 28))]
 [2,3,7,8,9])
 (.seq
 (.seq
 (.region
 [.mk (some 29) none (.load true 4 (.tmp 2)),
 .mk (some 30) none (.load true 3 (.tmp 3)),
 .mk (some 31) none (.call (.func 69) [.tmp 29,.tmp 30]),
 .mk (some 10) none (.mv (.tmp 31))]
 [2,3,7,8,9,10])
 (.seq
 (.region
 [.mk (some 32) none (.mv (.tmp 10)),
 .mk (some 33) none (.ibin .neq (.tmp 32) (.const (.int .i64 0)))]
 [2,3,7,8,9,10,33])
 (.cond (.tmp 33)
 (.seq
 (.region
 [.mk (some 34) none (.mv (.tmp 9)),.mk (some 35) none (.mv (.tmp 10)),
 .mk (some 36) none (.ibin .eql (.tmp 34) (.tmp 35)),
 .mk (some 37) none (.mv (.tmp 36)),
 .mk (some 38) (some (37,true)) (.mv (.tmp 7)),
 .mk (some 39) (some (37,true))
 (.ibin .eql (.tmp 38) (.const (.int .i64 0))),
 .mk (some 40) none
 (.pick (.tmp 37) (.tmp 39) (.const (.bool false))),
 .mk (some 41) none (.mv (.tmp 40)),
 .mk (some 42) (some (41,true)) (.mv (.tmp 8)),
 .mk (some 43) (some (41,true))
 (.ibin .eql (.tmp 42) (.const (.int .i64 0))),
 .mk (some 44) none
 (.pick (.tmp 41) (.tmp 43) (.const (.bool false))),
 .mk (some 4) none (.mv (.tmp 44))]
 [4])
 .ret)
 .skip)))
 (.seq
 (.seq
 (.quiet
 [.mk (some 45) none (.fld 0 (.tmp 3)),
 .mk (some 46) none (.load false 1 (.tmp 45)),
 .mk (some 47) none (.ibin .lss (.tmp 46) (.const (.int .i64 0))),
 .mk (some 48) none (.mv (.tmp 47)),
 .mk (some 49) (some (48,false)) (.fld 3 (.tmp 2)),
 .mk (some 50) (some (48,false)) (.load false 1 (.tmp 49)),
 .mk (some 51) (some (48,false)) (.fld 0 (.tmp 3)),
 .mk (some 52) (some (48,false)) (.load false 1 (.tmp 51)),
 .mk (some 53) (some (48,false)) (.idx 2 (.tmp 50) (.tmp 52)),
 .mk (some 54) (some (48,false)) (.fld 0 (.tmp 53)),
 .mk (some 55) (some (48,false)) (.load false 1 (.tmp 54)),
 .mk (some 56) (some (48,false)) (.fld 2 (.tmp 2)),
 .mk (some 57) (some (48,false)) (.load false 1 (.tmp 56)),
 .mk (some 58) (some (48,false)) (.ibin .neq (.tmp 55) (.tmp 57)),
 .mk (some 59) none (.pick (.tmp 48) (.const (.bool true)) (.tmp 58))]
 [3,7,8,9,59])
 (.cond (.tmp 59)
 (.seq
 (.region
 [.mk (some 60) none (.mv (.tmp 9)),
 .mk (some 61) none
 (.ibin .eql (.tmp 60) (.const (.int .i64 3))),
 .mk (some 62) none (.mv (.tmp 61)),
 .mk (some 63) (some (62,true)) (.mv (.tmp 7)),
 .mk (some 64) (some (62,true))
 (.ibin .eql (.tmp 63) (.const (.int .i64 0))),
 .mk (some 65) none
 (.pick (.tmp 62) (.tmp 64) (.const (.bool false))),
 .mk (some 66) none (.mv (.tmp 65)),
 .mk (some 67) (some (66,true)) (.mv (.tmp 8)),
 .mk (some 68) (some (66,true))
 (.ibin .eql (.tmp 67) (.const (.int .i64 0))),
 .mk (some 69) none
 (.pick (.tmp 66) (.tmp 68) (.const (.bool false))),
 .mk (some 4) none (.mv (.tmp 69))]
 [4])
 .ret)
 .skip))
 (.seq
 (.seq
 (.region
 [.mk (some 70) none (.load true 3 (.tmp 3)),
 .mk (some 71) none (.call (.func 100) [.tmp 70]),
 .mk (some 72) none (.len false (.tmp 71)),
 .mk (some 73) none
 (.ibin .gtr (.tmp 72) (.const (.int .i64 24)))]
 [3,7,9,73])
 (.cond (.tmp 73)
 (.seq
 (.region
 [.mk (some 74) none (.mv (.tmp 9)),
 .mk (some 75) none
 (.ibin .eql (.tmp 74) (.const (.int .i64 1))),
 .mk (some 4) none (.mv (.tmp 75))]
 [4])
 .ret)
 .skip))
 (.seq
 (.region
 [.mk (some 76) none (.mv (.tmp 9)),
 .mk (some 77) none
 (.ibin .eql (.tmp 76) (.const (.int .i64 0))),
 .mk (some 78) none (.mv (.tmp 77)),
 .mk (some 79) (some (78,true)) (.mv (.tmp 7)),
 .mk (some 80) (some (78,true)) (.load true 3 (.tmp 3)),
 .mk (some 81) (some (78,true)) (.call (.func 100) [.tmp 80]),
 .mk (some 82) (some (78,true)) (.len false (.tmp 81)),
 .mk (some 83) (some (78,true)) (.ibin .eql (.tmp 79) (.tmp 82)),
 .mk (some 84) none
 (.pick (.tmp 78) (.tmp 83) (.const (.bool false))),
 .mk (some 85) none (.mv (.tmp 84)),
 .mk (some 86) (some (85,false)) (.mv (.tmp 9)),
 .mk (some 87) (some (85,false))
 (.ibin .eql (.tmp 86) (.const (.int .i64 9))),
 .mk (some 88) none
 (.pick (.tmp 85) (.const (.bool true)) (.tmp 87)),
 .mk (some 89) none (.mv (.tmp 88)),
 .mk (some 90) (some (89,false)) (.mv (.tmp 9)),
 .mk (some 91) (some (89,false))
 (.ibin .eql (.tmp 90) (.const (.int .i64 2))),
 .mk (some 92) none
 (.pick (.tmp 89) (.const (.bool true)) (.tmp 91)),
 .mk (some 4) none (.mv (.tmp 92))]
 [4])
 .ret))))))
def S18 : FnS := ⟨93,[(4,none)],S18_0⟩
theorem tr18 : trFn Try.prog 18 [2,3] [[2,3],[2,3,5,6],[2,3,21],[4],[2,3,7,8,9],[2,3,7,8,9,10],[2,3,7,8,9,10,33],[4],[3,7,8,9,59],[4],[3,7,9,73],[4],[4]] = some S18 := by kernel_rfl
end Go.Proofs.Ytniobbepliknmaa.V
/- The law of parllaw5.RankRefuses; no condition. -/
namespace Go.Proofs.Ytniobbepliknmaa.V
open Go
set_option linter.unusedVariables false
set_option linter.unusedSimpArgs false
attribute [local go_sem] e_seq e_region e_quiet e_join e_loop e_cond e_block e_exit e_ret e_skip e_fin e_kseq e_snrm e_sret e_sex e_bnrm e_bret e_bex e_rnrm e_rret e_res e_condC e_nil e_g e_mv g_mv e_pick g_pick pickC_eq e_ibin g_ibin ibinC_eq e_sbin g_sbin e_beq g_beq beqC_eq e_nilq g_nilq nilqC_sl nilqC_pt nilqC_mp e_un g_un unC_not unC_neg e_conv g_conv convC_eq e_fld g_fld fldC_ref fldC_ptr e_nilCheck g_nilCheck nilCheckC_ref nilCheckC_ptr nilCheckC_fun e_field g_field fieldC_eq e_len g_len lenC_sl lenC_str e_extract g_extract extractC_eq e_mkFunc e_build g_build e_idiv g_idiv idivC_eq e_ishift g_ishift ishiftC_eq e_idx g_idx e_idxA g_idxA e_load g_load e_loadB g_loadB atB_ref atB_v g_mkFunc loadC_ref loadC_ptr loadB_eq e_slc g_slc e_box boxC_loc boxC_esc e_alloc allocC_loc allocC_esc e_buildS e_store storeC_ref storeC_ptr storeB_eq e_append e_appz e_mk mkC_eq e_call callC_eq e_fn g_fn fnC_eq fnV_min' fnV_max' fnV_rune' e_q g_q e_a e_n g_call g_box g_alloc g_buildS g_store g_append g_mk g_a g_n g_dead e_dead e_callK e_drawn e_tree e_finJ e_tk e_tfin e_tno e_nbt_q e_nbt_qn e_nbt_a e_nbt_an e_nbt_fin e_drawnB e_bxb_nil e_bxb e_stB_none e_stB_some boxSt_store bs_mv bs_pick bs_ibin bs_idiv bs_ishift bs_sbin bs_beq bs_nilq bs_un bs_conv bs_box bs_alloc bs_build bs_buildS bs_load bs_fld bs_nilCheck bs_idx bs_idxA bs_field bs_slc bs_len bs_append bs_appz bs_mk bs_call bs_extract bs_mkFunc bs_fn bs_q bs_a bs_n bs_loadB bs_dead isBox_box e_early_nil e_early_t e_early_f e_nob_nil e_nob_none e_nob_some isBox_dead isBox_v isBox_ref e_dnil e_dk e_ek e_finB vcOps_vc1 e_dcons e_tq e_ekt e_tearly e_talt e_dearly look_nil look_c proj_nil proj_c looks_nil looks_c zip_nil zip_c val_tmp val_const val_func slv_v slv_box slv_ref slot_tmp slot_const slot_func slotL_v slotL_box slotL_ref put_some put_none updBox_c boxSet_box gd_eq slotVals_nil slotVals_c slotVals_b boxV_box boxOn_box slotsOn_nil slotsOn_c slotsOn_b resV_one resV_two vals_nil vals_c allOn_nil allOn_c partOn_nil partOn_c partVals_nil partVals_c fits_nil fits_c fillL_nil fillL_c mkv_one mkv_agg cellsV_agg cellsV_int cellsV_bool cellsV_slice cellsV_string cellsV_pointer cellsV_func cellsV_nilf cellsV_map one'_nil one'_c oc_int oc_bool oc_slice oc_string oc_pointer oc_func oc_nilf oc_map setC_eq iv_add iv_sub iv_mul iv_eql iv_neq iv_lss iv_leq iv_gtr iv_geq iok_add iok_sub iok_mul iok_eql iok_neq iok_lss iok_leq iok_gtr iok_geq pickV_bool args0_nil args0_c bnd_none bnd_some imp_bt imp_bf imp_ebt imp_ebf imp_eb1 imp_np imp_pp beq_tt beq_tf beq_ft beq_ff cond_or cond_and e_round e_meet Int.le_refl Int.toNat_zero decide_true decide_false Bool.or_false Bool.false_or Bool.true_or Bool.or_true Bool.and_false Bool.false_and Bool.bne_false Bool.bne_true beq_iff_eq Int.cast_ofNat_Int not_false_eq_true not_true_eq_false false_and and_false false_implies true_implies true_and and_true Bool.true_and Bool.and_true Bool.not_true Bool.not_false forall_const implies_true List.take_zero List.drop_zero List.take_succ_cons List.drop_succ_cons List.take_nil List.drop_nil List.length_cons List.length_nil List.nil_append List.append_nil List.cons_append Int.toNat_natCast decide_eq_true_eq decide_eq_false_iff_not cond_true cond_false and_self List.getElem?_cons_zero List.getElem?_cons_succ List.set_cons_zero List.set_cons_succ Option.some.injEq exists_eq_left' Nat.zero_add Nat.add_zero Nat.mul_one imp_self true_or or_true or_false false_or Bool.or_eq_true Bool.or_eq_false_iff Bool.and_eq_true Bool.and_eq_false_iff Bool.not_eq_true' Bool.not_eq_false'

theorem tc_zero {g : Gr} {x : Tr} (h0 : tcF g x = 0) : ckF g = 0 ∧ validT g x = true := by
  have hck : ckF g = 0 := by
    unfold tcF at h0
    split at h0
    · rename_i h; exact absurd h0 h
    · rename_i h; exact Classical.not_not.1 h
  refine ⟨hck, ?_⟩
  unfold tcF at h0
  rw [if_neg (by omega)] at h0
  split at h0
  · omega
  · split at h0
    · assumption
    · omega
theorem opE_big {g : Gr} (h : ckF g = 0) {k : Nat} (hk : 24 < k) : opE g (k : Int) = 1 := by
  have : cenE g (k : Int) = 1 := by unfold cenE; rw [if_neg (by omega), if_pos (by omega)]
  unfold opE
  rw [if_pos (by omega), this]
theorem opE_small {g : Gr} (h : ckF g = 0) {k : Nat} (hk : k ≤ 24) : opE g (k : Int) = 0 ∨ opE g (k : Int) = 9 ∨ opE g (k : Int) = 2 := by
  have : cenE g (k : Int) = 0 := by unfold cenE; rw [if_neg (by omega), if_neg (by omega)]
  unfold opE
  rw [if_neg (by omega)]
  split
  · exact .inr (.inl rfl)
  · split
    · exact .inr (.inr rfl)
    · exact .inl rfl
theorem plain_four : opE plainG 4 = 0 ∧ cntT plainG (mostN plainG 4) plainG.st 4 = 1 := by decide +kernel
theorem law_refuses {Γr : Ctx} {g : Gr} {cs : List Value} (hg : Rep.ok (lk Γr) g cs) {x : Tr} {ct : List Value} (ht : Rep.ok (lk Γr) x ct) (hnum : numT x ≤ 1048576) :
    Ret Try.prog 18 [.agg cs.toArray, .agg ct.toArray] Γr [] (fun v Γ => Γ = [] ∧ v = .bool true) := by
  obtain ⟨A, c, rfl, hx⟩ := ok_gr hg
  obtain ⟨B, d, rfl, hA⟩ := ok_tr.1 ht
  generalize hR : (fun (v : Value) (Γ : Ctx) => Γ = [] ∧ v = Value.bool true) = R
  refine ret_of_vc tr18 (Nat.le_of_ble_eq_true rfl) ?_
  simp -implicitDefEqProofs only [S18, S18_0, go_sem, Nat.reduceBEq, Nat.reduceAdd, Nat.reduceSub, Nat.reduceMul, Nat.reduceLeDiff, reduceCtorEq, ↓reduceIte, Int.reduceLT, Int.reduceLE, Int.reduceEq, Int.reduceNe]
  intro bg bt
  refine CallVC.read (plain_ (Γr := [] ++ Γr)) ?_
  rintro v Γ' ⟨gp, Ap, cp, rfl, hp, rfl⟩
  simp -implicitDefEqProofs only [go_sem, Nat.reduceBEq, Nat.reduceAdd, Nat.reduceSub, Nat.reduceMul, Nat.reduceLeDiff, reduceCtorEq, ↓reduceIte, Int.reduceLT, Int.reduceLE, Int.reduceEq, Int.reduceNe]
  refine CallVC.read (Γ := [gp]) (rank_count (g := plainG) (Γr := [gp] ++ Γr) (n := 4) (hp.mono (lk_l [gp] Γr)) (by omega)) ?_
  rintro v Γ' ⟨rfl, ⟨hne, _⟩ | ⟨_, m, hm, _, F, rfl⟩⟩
  · exact absurd plain_four.1 hne
  obtain rfl : m = 4 := by omega
  rw [plain_four.2]
  simp -implicitDefEqProofs only [go_sem, Nat.reduceBEq, Nat.reduceAdd, Nat.reduceSub, Nat.reduceMul, Nat.reduceLeDiff, reduceCtorEq, ↓reduceIte, Int.reduceLT, Int.reduceLE, Int.reduceEq, Int.reduceNe]
  refine CallVC.read (Γ := [gp]) (rank_of (Γr := [gp] ++ Γr) (hx.mono (lk_r [gp] Γr)) x (hA.mono (lk_r [gp] Γr)) hnum) ?_
  rintro v Γ' ⟨rfl, hof⟩
  have hchk := tree_check (Γr := [gp] ++ Γr) (hx.mono (lk_r [gp] Γr)) x (hA.mono (lk_r [gp] Γr)) hnum
  rcases hof with ⟨hne, rfl⟩ | ⟨h0, ⟨hbad, rfl⟩ | ⟨hgood, hof⟩⟩
  · simp -implicitDefEqProofs only [go_sem, Nat.reduceBEq, Nat.reduceAdd, Nat.reduceSub, Nat.reduceMul, Nat.reduceLeDiff, reduceCtorEq, ↓reduceIte, Int.reduceLT, Int.reduceLE, Int.reduceEq, Int.reduceNe]
    refine CallVC.read (Γ := [gp]) hchk ?_
    rintro v Γ' ⟨rfl, rfl⟩
    simp -implicitDefEqProofs only [decide_true, go_sem, Nat.reduceBEq, Nat.reduceAdd, Nat.reduceSub, Nat.reduceMul, Nat.reduceLeDiff, reduceCtorEq, ↓reduceIte, Int.reduceLT, Int.reduceLE, Int.reduceEq, Int.reduceNe]
    refine ⟨fun _ => Up.to [] (Ent.nil _) ?_, fun h => absurd h hne⟩
    subst hR
    exact ⟨rfl, rfl⟩
  · simp -implicitDefEqProofs only [go_sem, Nat.reduceBEq, Nat.reduceAdd, Nat.reduceSub, Nat.reduceMul, Nat.reduceLeDiff, reduceCtorEq, ↓reduceIte, Int.reduceLT, Int.reduceLE, Int.reduceEq, Int.reduceNe]
    refine CallVC.read (Γ := [gp]) hchk ?_
    rintro v Γ' ⟨rfl, rfl⟩
    rw [h0]
    simp -implicitDefEqProofs only [go_sem, Nat.reduceBEq, Nat.reduceAdd, Nat.reduceSub, Nat.reduceMul, Nat.reduceLeDiff, reduceCtorEq, ↓reduceIte, Int.reduceLT, Int.reduceLE, Int.reduceEq, Int.reduceNe]
    obtain ⟨hck, hv⟩ := tc_zero h0
    have hvl := (ckF_ok hck).len
    have hsh := hx.short
    by_cases hr : x.rule = -1
    · have hd : decide (x.rule < 0) = true := decide_eq_true (by omega)
      simp only [hd]
      refine s_idxg (b := 0) (o := 0) (by simp) ?_
      simp -implicitDefEqProofs only [go_sem, Nat.reduceBEq, Nat.reduceAdd, Nat.reduceSub, Nat.reduceMul, Nat.reduceLeDiff, reduceCtorEq, ↓reduceIte, Int.reduceLT, Int.reduceLE, Int.reduceEq, Int.reduceNe]
      refine s_ldg0 (cs := [.int .i64 0]) (by simp) (by simp) (by simp) (by simp) ?_
      simp -implicitDefEqProofs only [decide_true, go_sem, Nat.reduceBEq, Nat.reduceAdd, Nat.reduceSub, Nat.reduceMul, Nat.reduceLeDiff, reduceCtorEq, ↓reduceIte, Int.reduceLT, Int.reduceLE, Int.reduceEq, Int.reduceNe]
      refine Up.to [] (Ent.nil _) ?_
      subst hR
      exact ⟨rfl, rfl⟩
    · obtain ⟨p, hp, hxr, hxt, hsf, hvk⟩ := valid_node hv hr
      have hd : decide (x.rule < 0) = false := decide_eq_false (by omega)
      have hgd : (g.rs.getD x.rule.toNat ⟨0, []⟩) = g.rs[p] := by rw [hxr, Int.toNat_natCast]; simp [List.getD_eq_getElem?_getD, hp]
      have hbad : g.rs[p].l ≠ g.st := by
        rw [hgd] at hbad
        exact hbad.resolve_left (by omega)
      obtain ⟨b0, o0, h0', A1, c1, hr1, hcr⟩ := hx.ru hp
      simp only [hd, hxr]
      refine s_idx h0' (by omega) (by omega) ?_
      simp -implicitDefEqProofs only [go_sem, Nat.reduceBEq, Nat.reduceAdd, Nat.reduceSub, Nat.reduceMul, Nat.reduceLeDiff, reduceCtorEq, ↓reduceIte, Int.reduceLT, Int.reduceLE, Int.reduceEq, Int.reduceNe]
      refine s_ld0 (by simpa using hcr _ (lk_r [gp] _)) (by simp) (by simp) ?_
      simp -implicitDefEqProofs only [decide_true, go_sem, Nat.reduceBEq, Nat.reduceAdd, Nat.reduceSub, Nat.reduceMul, Nat.reduceLeDiff, reduceCtorEq, ↓reduceIte, Int.reduceLT, Int.reduceLE, Int.reduceEq, Int.reduceNe]
      refine ⟨fun _ => Up.to [] (Ent.nil _) ?_, fun h => absurd h.2 hbad⟩
      subst hR
      exact ⟨rfl, rfl⟩
  · obtain ⟨hck, hv⟩ := tc_zero h0
    have hvl := (ckF_ok hck).len
    have hsh := hx.short
    have hr : x.rule ≠ -1 := fun e => hgood (.inl (by omega))
    obtain ⟨p, hp, hxr, hxt, hsf, hvk⟩ := valid_node hv hr
    have hd : decide (x.rule < 0) = false := decide_eq_false (by omega)
    have hgd : (g.rs.getD x.rule.toNat ⟨0, []⟩) = g.rs[p] := by rw [hxr, Int.toNat_natCast]; simp [List.getD_eq_getElem?_getD, hp]
    have hleft : g.rs[p].l = g.st := by
      rw [hgd] at hgood
      exact Classical.byContradiction fun e => hgood (.inr e)
    obtain ⟨b0, o0, h0', A1, c1, hr1, hcr⟩ := hx.ru hp
    rcases hof with ⟨hne, rfl⟩ | ⟨ho, i, hi, rfl⟩
    · simp -implicitDefEqProofs only [go_sem, Nat.reduceBEq, Nat.reduceAdd, Nat.reduceSub, Nat.reduceMul, Nat.reduceLeDiff, reduceCtorEq, ↓reduceIte, Int.reduceLT, Int.reduceLE, Int.reduceEq, Int.reduceNe]
      refine CallVC.read (Γ := [gp]) hchk ?_
      rintro v Γ' ⟨rfl, rfl⟩
      rw [h0]
      simp -implicitDefEqProofs only [go_sem, Nat.reduceBEq, Nat.reduceAdd, Nat.reduceSub, Nat.reduceMul, Nat.reduceLeDiff, reduceCtorEq, ↓reduceIte, Int.reduceLT, Int.reduceLE, Int.reduceEq, Int.reduceNe]
      simp only [hd]
      refine s_idx h0' (by omega) (by omega) ?_
      simp -implicitDefEqProofs only [go_sem, Nat.reduceBEq, Nat.reduceAdd, Nat.reduceSub, Nat.reduceMul, Nat.reduceLeDiff, reduceCtorEq, ↓reduceIte, Int.reduceLT, Int.reduceLE, Int.reduceEq, Int.reduceNe]
      rw [show x.rule.toNat = p by omega]
      refine s_ld0 (by simpa using hcr _ (lk_r [gp] _)) (by simp) (by simp) ?_
      simp -implicitDefEqProofs only [decide_true, go_sem, Nat.reduceBEq, Nat.reduceAdd, Nat.reduceSub, Nat.reduceMul, Nat.reduceLeDiff, reduceCtorEq, ↓reduceIte, Int.reduceLT, Int.reduceLE, Int.reduceEq, Int.reduceNe]
      refine ⟨fun h => absurd hleft h, fun _ => ?_⟩
      refine CallVC.read (Γ := [gp]) (tree_word (Γr := [gp] ++ Γr) x (hA.mono (lk_r [gp] _)) hnum) ?_
      rintro v Γ' ⟨gw, rfl, hBw⟩
      obtain ⟨Aw, cw, rfl⟩ := hBw.val
      have hwl := wdT_le x
      simp -implicitDefEqProofs only [decide_true, go_sem, Nat.reduceBEq, Nat.reduceAdd, Nat.reduceSub, Nat.reduceMul, Nat.reduceLeDiff, reduceCtorEq, ↓reduceIte, Int.reduceLT, Int.reduceLE, Int.reduceEq, Int.reduceNe]
      refine ⟨fun hbig => Up.to [] (Ent.nil _) ?_, fun hsm => ?_⟩
      · subst hR
        rw [opE_big hck (by omega)]
        exact ⟨rfl, rfl⟩
      · have hos := opE_small hck (show (wdT x).length ≤ 24 by omega)
        have hopd : decide (opE g ((wdT x).length : Int) = 0) = false := decide_eq_false hne
        simp only [hopd]
        refine ⟨fun h => absurd h hne, fun _ => ⟨.slice none 0 0, ?_⟩⟩
        simp -implicitDefEqProofs only [decide_true, go_sem, Nat.reduceBEq, Nat.reduceAdd, Nat.reduceSub, Nat.reduceMul, Nat.reduceLeDiff, reduceCtorEq, ↓reduceIte, Int.reduceLT, Int.reduceLE, Int.reduceEq, Int.reduceNe]
        refine Up.to [] (Ent.nil _) ?_
        subst hR
        rcases hos with q | q | q
        · exact absurd q hne
        · exact ⟨rfl, by rw [q]; rfl⟩
        · exact ⟨rfl, by rw [q]; rfl⟩
    · simp -implicitDefEqProofs only [go_sem, Nat.reduceBEq, Nat.reduceAdd, Nat.reduceSub, Nat.reduceMul, Nat.reduceLeDiff, reduceCtorEq, ↓reduceIte, Int.reduceLT, Int.reduceLE, Int.reduceEq, Int.reduceNe]
      refine CallVC.read (Γ := [gp]) hchk ?_
      rintro v Γ' ⟨rfl, rfl⟩
      rw [h0]
      simp -implicitDefEqProofs only [go_sem, Nat.reduceBEq, Nat.reduceAdd, Nat.reduceSub, Nat.reduceMul, Nat.reduceLeDiff, reduceCtorEq, ↓reduceIte, Int.reduceLT, Int.reduceLE, Int.reduceEq, Int.reduceNe]
      simp only [hd]
      refine s_idx h0' (by omega) (by omega) ?_
      simp -implicitDefEqProofs only [go_sem, Nat.reduceBEq, Nat.reduceAdd, Nat.reduceSub, Nat.reduceMul, Nat.reduceLeDiff, reduceCtorEq, ↓reduceIte, Int.reduceLT, Int.reduceLE, Int.reduceEq, Int.reduceNe]
      rw [show x.rule.toNat = p by omega]
      refine s_ld0 (by simpa using hcr _ (lk_r [gp] _)) (by simp) (by simp) ?_
      simp -implicitDefEqProofs only [decide_true, go_sem, Nat.reduceBEq, Nat.reduceAdd, Nat.reduceSub, Nat.reduceMul, Nat.reduceLeDiff, reduceCtorEq, ↓reduceIte, Int.reduceLT, Int.reduceLE, Int.reduceEq, Int.reduceNe]
      refine ⟨fun h => absurd hleft h, fun _ => ?_⟩
      refine CallVC.read (Γ := [gp]) (tree_word (Γr := [gp] ++ Γr) x (hA.mono (lk_r [gp] _)) hnum) ?_
      rintro v Γ' ⟨gw, rfl, hBw⟩
      obtain ⟨Aw, cw, rfl⟩ := hBw.val
      have hwl := wdT_le x
      simp -implicitDefEqProofs only [decide_true, go_sem, Nat.reduceBEq, Nat.reduceAdd, Nat.reduceSub, Nat.reduceMul, Nat.reduceLeDiff, reduceCtorEq, ↓reduceIte, Int.reduceLT, Int.reduceLE, Int.reduceEq, Int.reduceNe]
      have hk24 : (wdT x).length ≤ 24 := by
        rcases Nat.lt_or_ge 24 (wdT x).length with q | q
        · rw [opE_big hck q] at ho
          omega
        · exact q
      refine ⟨fun hbig => absurd hbig (by omega), fun _ => ?_⟩
      refine CallVC.read (tree_word x (hA.mono (lk_r [gw, gp] _)) hnum) ?_
      rintro v Γ' ⟨gv, rfl, hBv⟩
      obtain ⟨Av, cv, rfl⟩ := hBv.val
      simp -implicitDefEqProofs only [decide_true, go_sem, Nat.reduceBEq, Nat.reduceAdd, Nat.reduceSub, Nat.reduceMul, Nat.reduceLeDiff, reduceCtorEq, ↓reduceIte, Int.reduceLT, Int.reduceLE, Int.reduceEq, Int.reduceNe]
      refine Up.to [] (Ent.nil _) ?_
      subst hR
      exact ⟨rfl, rfl⟩
end Go.Proofs.Ytniobbepliknmaa.V
