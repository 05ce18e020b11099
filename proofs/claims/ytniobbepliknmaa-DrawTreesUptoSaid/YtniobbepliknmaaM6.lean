/- Texts put together, in the order in which they build; each says what it proves; no condition. -/
import Derived.Test.YtniobbepliknmaaM5
import Derived.Test.YtniobbepliknmaaM2
import Derived.Test.YtniobbepliknmaaProg
import Derived.Test.YtniobbepliknmaaM4
namespace Go.Proofs.Ytniobbepliknmaa.V
open Go
set_option linter.unusedVariables false
set_option linter.unusedSimpArgs false
/- census: endless walked; no condition. -/
attribute [local go_sem] e_seq e_region e_quiet e_join e_loop e_cond e_block e_exit e_ret e_skip e_fin e_kseq e_snrm e_sret e_sex e_bnrm e_bret e_bex e_rnrm e_rret e_res e_condC e_nil e_g e_mv g_mv e_pick g_pick pickC_eq e_ibin g_ibin ibinC_eq e_sbin g_sbin e_beq g_beq beqC_eq e_nilq g_nilq nilqC_sl nilqC_pt nilqC_mp e_un g_un unC_not unC_neg e_conv g_conv convC_eq e_fld g_fld fldC_ref fldC_ptr e_nilCheck g_nilCheck nilCheckC_ref nilCheckC_ptr nilCheckC_fun e_field g_field fieldC_eq e_len g_len lenC_sl lenC_str e_extract g_extract extractC_eq e_mkFunc e_build g_build e_idiv g_idiv idivC_eq e_ishift g_ishift ishiftC_eq e_idx g_idx e_idxA g_idxA e_load g_load e_loadB g_loadB atB_ref atB_v g_mkFunc loadC_ref loadC_ptr loadB_eq e_slc g_slc e_box boxC_loc boxC_esc e_alloc allocC_loc allocC_esc e_buildS e_store storeC_ref storeC_ptr storeB_eq e_append e_appz e_mk mkC_eq e_call callC_eq e_fn g_fn fnC_eq fnV_min' fnV_max' fnV_rune' e_q g_q e_a e_n g_call g_box g_alloc g_buildS g_store g_append g_mk g_a g_n g_dead e_dead e_callK e_drawn e_tree e_finJ e_tk e_tfin e_tno e_nbt_q e_nbt_qn e_nbt_a e_nbt_an e_nbt_fin e_drawnB e_bxb_nil e_bxb e_stB_none e_stB_some boxSt_store bs_mv bs_pick bs_ibin bs_idiv bs_ishift bs_sbin bs_beq bs_nilq bs_un bs_conv bs_box bs_alloc bs_build bs_buildS bs_load bs_fld bs_nilCheck bs_idx bs_idxA bs_field bs_slc bs_len bs_append bs_appz bs_mk bs_call bs_extract bs_mkFunc bs_fn bs_q bs_a bs_n bs_loadB bs_dead isBox_box e_early_nil e_early_t e_early_f e_nob_nil e_nob_none e_nob_some isBox_dead isBox_v isBox_ref e_dnil e_dk e_ek e_finB vcOps_vc1 e_dcons e_tq e_ekt e_tearly e_talt e_dearly look_nil look_c proj_nil proj_c looks_nil looks_c zip_nil zip_c val_tmp val_const val_func slv_v slv_box slv_ref slot_tmp slot_const slot_func slotL_v slotL_box slotL_ref put_some put_none updBox_c boxSet_box gd_eq slotVals_nil slotVals_c slotVals_b boxV_box boxOn_box slotsOn_nil slotsOn_c slotsOn_b resV_one resV_two vals_nil vals_c allOn_nil allOn_c partOn_nil partOn_c partVals_nil partVals_c fits_nil fits_c fillL_nil fillL_c mkv_one mkv_agg cellsV_agg cellsV_int cellsV_bool cellsV_slice cellsV_string cellsV_pointer cellsV_func cellsV_nilf cellsV_map one'_nil one'_c oc_int oc_bool oc_slice oc_string oc_pointer oc_func oc_nilf oc_map setC_eq iv_add iv_sub iv_mul iv_eql iv_neq iv_lss iv_leq iv_gtr iv_geq iok_add iok_sub iok_mul iok_eql iok_neq iok_lss iok_leq iok_gtr iok_geq pickV_bool args0_nil args0_c bnd_none bnd_some imp_bt imp_bf imp_ebt imp_ebf imp_eb1 imp_np imp_pp beq_tt beq_tf beq_ft beq_ff cond_or cond_and e_round e_meet Int.le_refl Int.toNat_zero decide_true decide_false Bool.or_false Bool.false_or Bool.true_or Bool.or_true Bool.and_false Bool.false_and Bool.bne_false Bool.bne_true beq_iff_eq Int.cast_ofNat_Int not_false_eq_true not_true_eq_false false_and and_false false_implies true_implies true_and and_true Bool.true_and Bool.and_true Bool.not_true Bool.not_false forall_const implies_true List.take_zero List.drop_zero List.take_succ_cons List.drop_succ_cons List.take_nil List.drop_nil List.length_cons List.length_nil List.nil_append List.append_nil List.cons_append Int.toNat_natCast decide_eq_true_eq decide_eq_false_iff_not cond_true cond_false and_self List.getElem?_cons_zero List.getElem?_cons_succ List.set_cons_zero List.set_cons_succ Option.some.injEq exists_eq_left' Nat.zero_add Nat.add_zero Nat.mul_one imp_self true_or or_true or_false false_or Bool.or_eq_true Bool.or_eq_false_iff Bool.and_eq_true Bool.and_eq_false_iff Bool.not_eq_true' Bool.not_eq_false'

theorem Cube.rd {g : PH} {T e : TypeId} {bs : List Nat} {x3 : List (List (List Bool))} (h : Cube g T e bs x3) {i p b k m : Nat} {rows : List (List Bool)} (hb : bs[i]? = some b) (hi : x3[i]? = some rows) {a : Nat} (hS : Shp a m rows) (hp : p < a) (hk : k < m) :
    ∃ kp, (∀ Γ : Ctx, Mem.le (lk [g]) (lk Γ) → Cells Γ b p [.slice (some ⟨kp, 0, none⟩) m m] ∧ Cells Γ kp k [.bool (mat rows p k)]) := by
  have hl := hS.1
  have hr := hS.at' (i := p) (by omega)
  obtain ⟨kp, h1, h2, _⟩ := h.at' hb hi (p := p) (by omega) (by omega)
  refine ⟨kp, fun Γ hΓ => ⟨by have := h1 Γ hΓ; rwa [hr] at this, ?_⟩⟩
  rw [mat_get (List.getElem?_eq_getElem (show p < rows.length by omega)) (show k < rows[p].length by omega)]
  exact cells_up (h2.bool (i := k) (by omega) (Γ := [g]) (by simp)) hΓ
/-- some tree of the symbols with k terminals has one of them that loops -/
def LessP (H L : List (List Bool)) : List Sy → Nat → Prop
  | [], _ => False
  | s :: l, k => ∃ j, j ≤ k ∧ symB H s j = true ∧ RowH H l (k - j) ∧ ((s.t = false ∧ mat L s.n.toNat j = true) ∨ LessP H L l (k - j))
def StepL (H L : List (List Bool)) (s : Sy) (l : List Sy) (k j : Nat) : Prop := symB H s j = true ∧ RowH H l (k - j) ∧ ((s.t = false ∧ mat L s.n.toNat j = true) ∨ LessP H L l (k - j))
theorem LessP.row {H L : List (List Bool)} : ∀ {l : List Sy} {k : Nat}, LessP H L l k → RowH H l k
  | [], _, h => h.elim
  | s :: l, k, ⟨j, h1, h2, h3, _⟩ => ⟨j, h1, h2, h3⟩
theorem tab_endless {t : Tb} {g : Gr} (V : VG g) {n : Nat} {R : Option Addr} {cR : Nat} {H L : List (List Bool)} (hS : Shp g.ns.toNat (n + 1) H) (hSL : Shp g.ns.toNat (n + 1) L) (hn : n ≤ 24) {E : List (List (List Bool))} {i : Nat} (hi : i < g.rs.length) {rows : List (List Bool)} (hEi : E[i]? = some rows)
    (hSr : Shp (g.rs[i].r.length + 1) (n + 1) rows) (hSo : EndS H g.rs[i].r rows) (hC : EndC H n g.rs[i].r rows 0) : ∀ (d p k : Nat), p + d = g.rs[i].r.length → k ≤ n → ∀ {Γr : Ctx} {ge : PH}, TabK (lk Γr) t g n R cR → SlOk (lk Γr) (some ⟨t.bh, 0, none⟩) g.ns.toNat H → SlOk (lk Γr) (some ⟨t.bl, 0, none⟩) g.ns.toNat L →
    Cube ge 22 4 t.be E → Mem.le (lk [ge]) (lk Γr) →
    Ret Try.prog 188 [.pointer (some ⟨t.b, 0, none⟩), .int .i64 (i : Int), .int .i64 (p : Int), .int .i64 (k : Int)] Γr [] (fun v Γ => Γ = [] ∧ ∃ b : Bool, v = .bool b ∧ (b = true ↔ LessP H L (g.rs[i].r.drop p) k)) := by
  intro d
  induction d with
  | zero =>
    intro p k hp hk Γr ge hT hH hL hE hle
    generalize hR : (fun (v : Value) (Γ : Ctx) => Γ = [] ∧ ∃ b : Bool, _) = R'
    refine ret_of_vc tr188 (Nat.le_of_ble_eq_true rfl) ?_
    simp -implicitDefEqProofs only [S188, S188_0, go_sem, Nat.reduceBEq, Nat.reduceAdd, Nat.reduceSub, Nat.reduceMul, Nat.reduceLeDiff, reduceCtorEq, ↓reduceIte, Int.reduceLT, Int.reduceLE, Int.reduceEq, Int.reduceNe]
    obtain ⟨b0, o0, h0, A1, c1, hr1, hcr⟩ := hT.rs.ru hi
    have hsh := hT.rs.short
    generalize g.rs[i].r = l at *
    refine s_ld (j := 3) (cells_lk hT.out) (by simp [Tb.cells]) (by simp) ?_
    simp -implicitDefEqProofs only [Tb.cells, go_sem, Nat.reduceBEq, Nat.reduceAdd, Nat.reduceSub, Nat.reduceMul, Nat.reduceLeDiff, reduceCtorEq, ↓reduceIte, Int.reduceLT, Int.reduceLE, Int.reduceEq, Int.reduceNe]
    refine s_idx h0 (by omega) (by omega) ?_
    simp -implicitDefEqProofs only [go_sem, Nat.reduceBEq, Nat.reduceAdd, Nat.reduceSub, Nat.reduceMul, Nat.reduceLeDiff, reduceCtorEq, ↓reduceIte, Int.reduceLT, Int.reduceLE, Int.reduceEq, Int.reduceNe]
    refine s_ld (j := 1) (by simpa using hcr _ (lk_r [] _)) (by simp) (by simp) ?_
    simp -implicitDefEqProofs only [go_sem, Nat.reduceBEq, Nat.reduceAdd, Nat.reduceSub, Nat.reduceMul, Nat.reduceLeDiff, reduceCtorEq, ↓reduceIte, Int.reduceLT, Int.reduceLE, Int.reduceEq, Int.reduceNe]
    rw [show (p : Int) = (l.length : Int) by omega]
    simp -implicitDefEqProofs only [decide_true, go_sem, Nat.reduceBEq, Nat.reduceAdd, Nat.reduceSub, Nat.reduceMul, Nat.reduceLeDiff, reduceCtorEq, ↓reduceIte, Int.reduceLT, Int.reduceLE, Int.reduceEq, Int.reduceNe]
    refine s_ldg (j := 8) (cs := t.cells g n R cR g.rs.length g.rs.length) (by simp) (by simp) (by simp [Tb.cells]) (by simp) ?_
    simp -implicitDefEqProofs only [Tb.cells, go_sem, Nat.reduceBEq, Nat.reduceAdd, Nat.reduceSub, Nat.reduceMul, Nat.reduceLeDiff, reduceCtorEq, ↓reduceIte, Int.reduceLT, Int.reduceLE, Int.reduceEq, Int.reduceNe]
    refine s_idxg (b := 0) (o := 0) (by simp) ?_
    simp -implicitDefEqProofs only [go_sem, Nat.reduceBEq, Nat.reduceAdd, Nat.reduceSub, Nat.reduceMul, Nat.reduceLeDiff, reduceCtorEq, ↓reduceIte, Int.reduceLT, Int.reduceLE, Int.reduceEq, Int.reduceNe]
    refine s_ldg0 (cs := [.slice none 0 0]) (by simp) (by simp) (by simp) (by simp) ?_
    simp -implicitDefEqProofs only [go_sem, Nat.reduceBEq, Nat.reduceAdd, Nat.reduceSub, Nat.reduceMul, Nat.reduceLeDiff, reduceCtorEq, ↓reduceIte, Int.reduceLT, Int.reduceLE, Int.reduceEq, Int.reduceNe]
    refine s_idxg (b := 0) (o := 0) (by simp) ?_
    simp -implicitDefEqProofs only [go_sem, Nat.reduceBEq, Nat.reduceAdd, Nat.reduceSub, Nat.reduceMul, Nat.reduceLeDiff, reduceCtorEq, ↓reduceIte, Int.reduceLT, Int.reduceLE, Int.reduceEq, Int.reduceNe]
    refine s_ldg0 (cs := [.slice none 0 0]) (by simp) (by simp) (by simp) (by simp) ?_
    simp -implicitDefEqProofs only [go_sem, Nat.reduceBEq, Nat.reduceAdd, Nat.reduceSub, Nat.reduceMul, Nat.reduceLeDiff, reduceCtorEq, ↓reduceIte, Int.reduceLT, Int.reduceLE, Int.reduceEq, Int.reduceNe]
    refine s_idxg (b := 0) (o := 0) (by simp) ?_
    simp -implicitDefEqProofs only [go_sem, Nat.reduceBEq, Nat.reduceAdd, Nat.reduceSub, Nat.reduceMul, Nat.reduceLeDiff, reduceCtorEq, ↓reduceIte, Int.reduceLT, Int.reduceLE, Int.reduceEq, Int.reduceNe]
    refine s_ldg0 (cs := [.bool false]) (by simp) (by simp) (by simp) (by simp) ?_
    simp -implicitDefEqProofs only [go_sem, Nat.reduceBEq, Nat.reduceAdd, Nat.reduceSub, Nat.reduceMul, Nat.reduceLeDiff, reduceCtorEq, ↓reduceIte, Int.reduceLT, Int.reduceLE, Int.reduceEq, Int.reduceNe]
    refine Up.here ?_
    subst hR
    refine ⟨rfl, false, rfl, ?_⟩
    rw [show p = l.length by omega, List.drop_length]
    exact ⟨fun h => (by cases h), fun h => False.elim h⟩
  | succ d ih =>
    intro p k hp hk Γr ge hT hH hL hE hle
    generalize hR : (fun (v : Value) (Γ : Ctx) => Γ = [] ∧ ∃ b : Bool, _) = R'
    refine ret_of_vc tr188 (Nat.le_of_ble_eq_true rfl) ?_
    simp -implicitDefEqProofs only [S188, S188_0, go_sem, Nat.reduceBEq, Nat.reduceAdd, Nat.reduceSub, Nat.reduceMul, Nat.reduceLeDiff, reduceCtorEq, ↓reduceIte, Int.reduceLT, Int.reduceLE, Int.reduceEq, Int.reduceNe]
    obtain ⟨b0, o0, h0, A1, c1, hr1, hcr⟩ := hT.rs.ru hi
    have hsh := hT.rs.short
    have hr4 := V.right _ (List.getElem_mem hi)
    have hsym := V.sym _ (List.getElem_mem hi)
    have hri := List.getElem?_eq_getElem hi
    obtain ⟨be, hbe⟩ : ∃ be, t.be[i]? = some be := ⟨_, List.getElem?_eq_getElem (by rw [hT.be]; exact hi)⟩
    have hhd := hdG_at hbe hri
    have hdl := hdG_len hT.be
    obtain ⟨b2, o2, h2, hc2⟩ := hT.ends.hd (i := i) (by omega)
    rw [(List.getElem?_eq_some_iff.1 hhd).2] at hc2
    have hEx : ∀ p' k', p' ≤ g.rs[i].r.length → k' ≤ n → (mat rows p' k' = true ↔ RowH H (g.rs[i].r.drop p') k') := fun p' k' h1 h2 => ⟨hSo p' k' h1, hC p' k' (Nat.zero_le _) h1 h2⟩
    generalize g.rs[i].r = l at *
    have hrl : rows.length = l.length + 1 := hSr.1
    have hpl := hSr.at' (i := p) (by omega)
    have hql := hSr.at' (i := p + 1) (by omega)
    have hpd : p < l.length := by omega
    have hdrop : l.drop p = l[p] :: l.drop (p + 1) := List.drop_eq_getElem_cons hpd
    have hs := hsym _ (List.getElem_mem hpd)
    obtain ⟨b3, o3, h3, hc3⟩ := hr1.sy hpd
    generalize l[p] = s at *
    obtain ⟨kp, hrd⟩ := hE.rd hbe hEi hSr (p := p) (k := k) (by omega) (by omega)
    refine s_ld (j := 3) (cells_lk hT.out) (by simp [Tb.cells]) (by simp) ?_
    simp -implicitDefEqProofs only [Tb.cells, go_sem, Nat.reduceBEq, Nat.reduceAdd, Nat.reduceSub, Nat.reduceMul, Nat.reduceLeDiff, reduceCtorEq, ↓reduceIte, Int.reduceLT, Int.reduceLE, Int.reduceEq, Int.reduceNe]
    refine s_idx h0 (by omega) (by omega) ?_
    simp -implicitDefEqProofs only [go_sem, Nat.reduceBEq, Nat.reduceAdd, Nat.reduceSub, Nat.reduceMul, Nat.reduceLeDiff, reduceCtorEq, ↓reduceIte, Int.reduceLT, Int.reduceLE, Int.reduceEq, Int.reduceNe]
    refine s_ld (j := 1) (by simpa using hcr _ (lk_r [] _)) (by simp) (by simp) ?_
    simp -implicitDefEqProofs only [go_sem, Nat.reduceBEq, Nat.reduceAdd, Nat.reduceSub, Nat.reduceMul, Nat.reduceLeDiff, reduceCtorEq, ↓reduceIte, Int.reduceLT, Int.reduceLE, Int.reduceEq, Int.reduceNe]
    rw [show decide ((p : Int) = (l.length : Int)) = false from decide_eq_false (by omega)]
    simp -implicitDefEqProofs only [go_sem, Nat.reduceBEq, Nat.reduceAdd, Nat.reduceSub, Nat.reduceMul, Nat.reduceLeDiff, reduceCtorEq, ↓reduceIte, Int.reduceLT, Int.reduceLE, Int.reduceEq, Int.reduceNe]
    refine s_ld (j := 8) (cells_lk hT.out) (by simp [Tb.cells]) (by simp) ?_
    simp -implicitDefEqProofs only [Tb.cells, go_sem, Nat.reduceBEq, Nat.reduceAdd, Nat.reduceSub, Nat.reduceMul, Nat.reduceLeDiff, reduceCtorEq, ↓reduceIte, Int.reduceLT, Int.reduceLE, Int.reduceEq, Int.reduceNe]
    refine s_idx h2 (by omega) (by omega) ?_
    simp -implicitDefEqProofs only [go_sem, Nat.reduceBEq, Nat.reduceAdd, Nat.reduceSub, Nat.reduceMul, Nat.reduceLeDiff, reduceCtorEq, ↓reduceIte, Int.reduceLT, Int.reduceLE, Int.reduceEq, Int.reduceNe]
    refine s_ld0 (hc2 _ (lk_r [] _)) (by simp) (by simp) ?_
    simp -implicitDefEqProofs only [go_sem, Nat.reduceBEq, Nat.reduceAdd, Nat.reduceSub, Nat.reduceMul, Nat.reduceLeDiff, reduceCtorEq, ↓reduceIte, Int.reduceLT, Int.reduceLE, Int.reduceEq, Int.reduceNe]
    refine s_idx rfl (by omega) (by omega) ?_
    simp -implicitDefEqProofs only [go_sem, Nat.reduceBEq, Nat.reduceAdd, Nat.reduceSub, Nat.reduceMul, Nat.reduceLeDiff, reduceCtorEq, ↓reduceIte, Int.reduceLT, Int.reduceLE, Int.reduceEq, Int.reduceNe]
    refine s_ld0 (by simpa using (hrd Γr hle).1) (by simp) (by simp) ?_
    simp -implicitDefEqProofs only [go_sem, Nat.reduceBEq, Nat.reduceAdd, Nat.reduceSub, Nat.reduceMul, Nat.reduceLeDiff, reduceCtorEq, ↓reduceIte, Int.reduceLT, Int.reduceLE, Int.reduceEq, Int.reduceNe]
    refine s_idx rfl (by omega) (by omega) ?_
    simp -implicitDefEqProofs only [go_sem, Nat.reduceBEq, Nat.reduceAdd, Nat.reduceSub, Nat.reduceMul, Nat.reduceLeDiff, reduceCtorEq, ↓reduceIte, Int.reduceLT, Int.reduceLE, Int.reduceEq, Int.reduceNe]
    refine s_ld0 (by simpa using (hrd Γr hle).2) (by simp) (by simp) ?_
    simp -implicitDefEqProofs only [go_sem, Nat.reduceBEq, Nat.reduceAdd, Nat.reduceSub, Nat.reduceMul, Nat.reduceLeDiff, reduceCtorEq, ↓reduceIte, Int.reduceLT, Int.reduceLE, Int.reduceEq, Int.reduceNe]
    have hex0 := hEx p k (by omega) hk
    generalize mat rows p k = v0 at hex0
    cases v0 with
    | false =>
      simp -implicitDefEqProofs only [go_sem, Nat.reduceBEq, Nat.reduceAdd, Nat.reduceSub, Nat.reduceMul, Nat.reduceLeDiff, reduceCtorEq, ↓reduceIte, Int.reduceLT, Int.reduceLE, Int.reduceEq, Int.reduceNe]
      refine Up.here ?_
      subst hR
      exact ⟨rfl, false, rfl, fun h => (by cases h), fun h => by have := hex0.2 h.row; cases this⟩
    | true =>
      simp -implicitDefEqProofs only [go_sem, Nat.reduceBEq, Nat.reduceAdd, Nat.reduceSub, Nat.reduceMul, Nat.reduceLeDiff, reduceCtorEq, ↓reduceIte, Int.reduceLT, Int.reduceLE, Int.reduceEq, Int.reduceNe]
      simp (disch := omega) only [wrap_id]
      refine s_loop (fun f vs Γ => ∃ j : Nat, vs = [.v true (.int .i64 (j : Int))] ∧ Γ = [] ∧ j + f = k + 1 ∧ ∀ j', j' < j → ¬ StepL H L s (l.drop (p + 1)) k j') (k + 1)
        (Up.here ⟨0, rfl, rfl, by omega, fun j' h => by omega⟩) ?_
      rintro f vs Γ ⟨j, rfl, rfl, hjf, hno⟩
      simp -implicitDefEqProofs only [S188_3, go_sem, Nat.reduceBEq, Nat.reduceAdd, Nat.reduceSub, Nat.reduceMul, Nat.reduceLeDiff, reduceCtorEq, ↓reduceIte, Int.reduceLT, Int.reduceLE, Int.reduceEq, Int.reduceNe]
      refine ⟨fun hlt => ?_, fun hge => ?_⟩
      · have hj : j ≤ k := by omega
        refine s_split ?_
        simp -implicitDefEqProofs only [S188_1, go_sem, Nat.reduceBEq, Nat.reduceAdd, Nat.reduceSub, Nat.reduceMul, Nat.reduceLeDiff, reduceCtorEq, ↓reduceIte, Int.reduceLT, Int.reduceLE, Int.reduceEq, Int.reduceNe]
        refine s_idx h3 (by omega) (by omega) ?_
        simp -implicitDefEqProofs only [go_sem, Nat.reduceBEq, Nat.reduceAdd, Nat.reduceSub, Nat.reduceMul, Nat.reduceLeDiff, reduceCtorEq, ↓reduceIte, Int.reduceLT, Int.reduceLE, Int.reduceEq, Int.reduceNe]
        refine s_ld0 (by simpa using hc3 _ (lk_r [] _)) (by simp) (by simp) ?_
        simp -implicitDefEqProofs only [go_sem, Nat.reduceBEq, Nat.reduceAdd, Nat.reduceSub, Nat.reduceMul, Nat.reduceLeDiff, reduceCtorEq, ↓reduceIte, Int.reduceLT, Int.reduceLE, Int.reduceEq, Int.reduceNe]
        refine CallVC.read (tab_sym (Γr := [] ++ Γr) hT hH hS (fun h => ⟨hs.1, hs.2.2 h⟩) (k := j) (by omega) hn) ?_
        rintro v Γ' ⟨rfl, rfl⟩
        have skip : (symB H s j = true → RowH H (l.drop (p + 1)) (k - j) → (s.t = false ∧ mat L s.n.toNat j = true) ∨ LessP H L (l.drop (p + 1)) (k - j) → False) → ∀ j', j' < j + 1 → ¬ StepL H L s (l.drop (p + 1)) k j' := by
          intro q j' w1 ⟨w2, w3, w4⟩
          rcases Nat.lt_or_ge j' j with e | e
          · exact hno j' e ⟨w2, w3, w4⟩
          · have : j' = j := by omega
            subst this
            exact q w2 w3 w4
        have fin : ∀ (v : Bool), (v = true ↔ LessP H L (l.drop (p + 1)) (k - j)) → symB H s j = true → RowH H (l.drop (p + 1)) (k - j) → (s.t = false → mat L s.n.toNat j = false) →
            (v = true → Up [] (R' (.bool true))) ∧ (v = false → Up [] (fun Γ => ∃ n', n' < f ∧ Up Γ (fun Γ => ∃ j' : Nat, [Sl.v true (.int .i64 ((j : Int) + 1))] = [.v true (.int .i64 (j' : Int))] ∧ Γ = [] ∧ j' + n' = k + 1 ∧ ∀ j2, j2 < j' → ¬ StepL H L s (l.drop (p + 1)) k j2))) := by
          intro v hv h1 h2 h3
          refine ⟨fun q => Up.here ?_, fun q => Up.here ⟨f - 1, by omega, Up.here ⟨j + 1, rfl, rfl, by omega, skip fun _ _ w => ?_⟩⟩⟩
          · subst hR
            refine ⟨rfl, true, rfl, fun _ => ?_, fun _ => rfl⟩
            rw [hdrop]
            exact ⟨j, hj, h1, h2, .inr (hv.1 q)⟩
          · rcases w with ⟨e, w⟩ | w
            · rw [h3 e] at w; cases w
            · rw [hv.2 w] at q; cases q
        revert skip fin
        generalize hsv : symB H s j = sv
        intro skip fin
        cases sv with
        | false =>
          simp -implicitDefEqProofs only [go_sem, Nat.reduceBEq, Nat.reduceAdd, Nat.reduceSub, Nat.reduceMul, Nat.reduceLeDiff, reduceCtorEq, ↓reduceIte, Int.reduceLT, Int.reduceLE, Int.reduceEq, Int.reduceNe]
          refine s_ldg0 (cs := [.slice none 0 0]) (by simp) (by simp) (by simp) (by simp) ?_
          simp -implicitDefEqProofs only [go_sem, Nat.reduceBEq, Nat.reduceAdd, Nat.reduceSub, Nat.reduceMul, Nat.reduceLeDiff, reduceCtorEq, ↓reduceIte, Int.reduceLT, Int.reduceLE, Int.reduceEq, Int.reduceNe]
          refine s_idxg (b := 0) (o := 0) (by simp) ?_
          simp -implicitDefEqProofs only [go_sem, Nat.reduceBEq, Nat.reduceAdd, Nat.reduceSub, Nat.reduceMul, Nat.reduceLeDiff, reduceCtorEq, ↓reduceIte, Int.reduceLT, Int.reduceLE, Int.reduceEq, Int.reduceNe]
          refine s_ldg0 (cs := [.slice none 0 0]) (by simp) (by simp) (by simp) (by simp) ?_
          simp -implicitDefEqProofs only [go_sem, Nat.reduceBEq, Nat.reduceAdd, Nat.reduceSub, Nat.reduceMul, Nat.reduceLeDiff, reduceCtorEq, ↓reduceIte, Int.reduceLT, Int.reduceLE, Int.reduceEq, Int.reduceNe]
          refine s_idxg (b := 0) (o := 0) (by simp) ?_
          simp -implicitDefEqProofs only [go_sem, Nat.reduceBEq, Nat.reduceAdd, Nat.reduceSub, Nat.reduceMul, Nat.reduceLeDiff, reduceCtorEq, ↓reduceIte, Int.reduceLT, Int.reduceLE, Int.reduceEq, Int.reduceNe]
          refine s_ldg0 (cs := [.slice none 0 0]) (by simp) (by simp) (by simp) (by simp) ?_
          simp -implicitDefEqProofs only [go_sem, Nat.reduceBEq, Nat.reduceAdd, Nat.reduceSub, Nat.reduceMul, Nat.reduceLeDiff, reduceCtorEq, ↓reduceIte, Int.reduceLT, Int.reduceLE, Int.reduceEq, Int.reduceNe]
          refine s_idxg (b := 0) (o := 0) (by simp) ?_
          simp -implicitDefEqProofs only [go_sem, Nat.reduceBEq, Nat.reduceAdd, Nat.reduceSub, Nat.reduceMul, Nat.reduceLeDiff, reduceCtorEq, ↓reduceIte, Int.reduceLT, Int.reduceLE, Int.reduceEq, Int.reduceNe]
          refine s_ldg0 (cs := [.bool false]) (by simp) (by simp) (by simp) (by simp) ?_
          simp -implicitDefEqProofs only [go_sem, Nat.reduceBEq, Nat.reduceAdd, Nat.reduceSub, Nat.reduceMul, Nat.reduceLeDiff, reduceCtorEq, ↓reduceIte, Int.reduceLT, Int.reduceLE, Int.reduceEq, Int.reduceNe]
          simp -implicitDefEqProofs only [S188_2, go_sem, Nat.reduceBEq, Nat.reduceAdd, Nat.reduceSub, Nat.reduceMul, Nat.reduceLeDiff, reduceCtorEq, ↓reduceIte, Int.reduceLT, Int.reduceLE, Int.reduceEq, Int.reduceNe]
          simp (disch := omega) only [wrap_id]
          exact Up.here ⟨f - 1, by omega, Up.here ⟨j + 1, rfl, rfl, by omega, skip fun h => (by cases h)⟩⟩
        | true =>
          obtain ⟨kq, hrq⟩ := hE.rd hbe hEi hSr (p := p + 1) (k := k - j) (by omega) (by omega)
          have hex1 := hEx (p + 1) (k - j) (by omega) (by omega)
          simp -implicitDefEqProofs only [go_sem, Nat.reduceBEq, Nat.reduceAdd, Nat.reduceSub, Nat.reduceMul, Nat.reduceLeDiff, reduceCtorEq, ↓reduceIte, Int.reduceLT, Int.reduceLE, Int.reduceEq, Int.reduceNe]
          refine s_ld (j := 8) (cells_lk hT.out) (by simp [Tb.cells]) (by simp) ?_
          simp -implicitDefEqProofs only [Tb.cells, go_sem, Nat.reduceBEq, Nat.reduceAdd, Nat.reduceSub, Nat.reduceMul, Nat.reduceLeDiff, reduceCtorEq, ↓reduceIte, Int.reduceLT, Int.reduceLE, Int.reduceEq, Int.reduceNe]
          refine s_idx h2 (by omega) (by omega) ?_
          simp -implicitDefEqProofs only [go_sem, Nat.reduceBEq, Nat.reduceAdd, Nat.reduceSub, Nat.reduceMul, Nat.reduceLeDiff, reduceCtorEq, ↓reduceIte, Int.reduceLT, Int.reduceLE, Int.reduceEq, Int.reduceNe]
          refine s_ld0 (hc2 _ (lk_r [] _)) (by simp) (by simp) ?_
          simp -implicitDefEqProofs only [go_sem, Nat.reduceBEq, Nat.reduceAdd, Nat.reduceSub, Nat.reduceMul, Nat.reduceLeDiff, reduceCtorEq, ↓reduceIte, Int.reduceLT, Int.reduceLE, Int.reduceEq, Int.reduceNe]
          simp (disch := omega) only [wrap_id]
          refine s_idx rfl (by omega) (by omega) ?_
          simp -implicitDefEqProofs only [go_sem, Nat.reduceBEq, Nat.reduceAdd, Nat.reduceSub, Nat.reduceMul, Nat.reduceLeDiff, reduceCtorEq, ↓reduceIte, Int.reduceLT, Int.reduceLE, Int.reduceEq, Int.reduceNe]
          rw [show ((p : Int) + 1).toNat = p + 1 by omega]
          refine s_ld0 (by simpa using (hrq Γr hle).1) (by simp) (by simp) ?_
          simp -implicitDefEqProofs only [go_sem, Nat.reduceBEq, Nat.reduceAdd, Nat.reduceSub, Nat.reduceMul, Nat.reduceLeDiff, reduceCtorEq, ↓reduceIte, Int.reduceLT, Int.reduceLE, Int.reduceEq, Int.reduceNe]
          simp (disch := omega) only [wrap_id]
          refine s_idx rfl (by omega) (by omega) ?_
          simp -implicitDefEqProofs only [go_sem, Nat.reduceBEq, Nat.reduceAdd, Nat.reduceSub, Nat.reduceMul, Nat.reduceLeDiff, reduceCtorEq, ↓reduceIte, Int.reduceLT, Int.reduceLE, Int.reduceEq, Int.reduceNe]
          rw [show ((k : Int) - (j : Int)).toNat = k - j by omega]
          refine s_ld0 (by simpa using (hrq Γr hle).2) (by simp) (by simp) ?_
          generalize mat rows (p + 1) (k - j) = v1 at hex1
          cases v1 with
          | false =>
            simp -implicitDefEqProofs only [S188_2, go_sem, Nat.reduceBEq, Nat.reduceAdd, Nat.reduceSub, Nat.reduceMul, Nat.reduceLeDiff, reduceCtorEq, ↓reduceIte, Int.reduceLT, Int.reduceLE, Int.reduceEq, Int.reduceNe]
            simp (disch := omega) only [wrap_id]
            exact Up.here ⟨f - 1, by omega, Up.here ⟨j + 1, rfl, rfl, by omega, skip fun _ w => by have := hex1.2 w; cases this⟩⟩
          | true =>
            have hrow := hex1.1 rfl
            simp -implicitDefEqProofs only [go_sem, Nat.reduceBEq, Nat.reduceAdd, Nat.reduceSub, Nat.reduceMul, Nat.reduceLeDiff, reduceCtorEq, ↓reduceIte, Int.reduceLT, Int.reduceLE, Int.reduceEq, Int.reduceNe]
            refine s_idx h3 (by omega) (by omega) ?_
            simp -implicitDefEqProofs only [go_sem, Nat.reduceBEq, Nat.reduceAdd, Nat.reduceSub, Nat.reduceMul, Nat.reduceLeDiff, reduceCtorEq, ↓reduceIte, Int.reduceLT, Int.reduceLE, Int.reduceEq, Int.reduceNe]
            refine s_ld0 (by simpa using hc3 _ (lk_r [] _)) (by simp) (by simp) ?_
            have hih := fun (Γr' : Ctx) (hl' : Mem.le (lk Γr) (lk Γr')) => ih (p + 1) (k - j) (by omega) (by omega) (Γr := Γr') (ge := ge) (hT.mono hl') (hH.mono hl') (hL.mono hl') hE (hle.trans hl')
            obtain ⟨st, sn⟩ := s
            cases st with
            | true =>
              simp -implicitDefEqProofs only [go_sem, Nat.reduceBEq, Nat.reduceAdd, Nat.reduceSub, Nat.reduceMul, Nat.reduceLeDiff, reduceCtorEq, ↓reduceIte, Int.reduceLT, Int.reduceLE, Int.reduceEq, Int.reduceNe]
              refine s_ldg0 (cs := [.slice none 0 0]) (by simp) (by simp) (by simp) (by simp) ?_
              simp -implicitDefEqProofs only [go_sem, Nat.reduceBEq, Nat.reduceAdd, Nat.reduceSub, Nat.reduceMul, Nat.reduceLeDiff, reduceCtorEq, ↓reduceIte, Int.reduceLT, Int.reduceLE, Int.reduceEq, Int.reduceNe]
              refine s_idxg (b := 0) (o := 0) (by simp) ?_
              simp -implicitDefEqProofs only [go_sem, Nat.reduceBEq, Nat.reduceAdd, Nat.reduceSub, Nat.reduceMul, Nat.reduceLeDiff, reduceCtorEq, ↓reduceIte, Int.reduceLT, Int.reduceLE, Int.reduceEq, Int.reduceNe]
              refine s_ldg0 (cs := [.int .i64 0]) (by simp) (by simp) (by simp) (by simp) ?_
              simp -implicitDefEqProofs only [go_sem, Nat.reduceBEq, Nat.reduceAdd, Nat.reduceSub, Nat.reduceMul, Nat.reduceLeDiff, reduceCtorEq, ↓reduceIte, Int.reduceLT, Int.reduceLE, Int.reduceEq, Int.reduceNe]
              refine s_idxg (b := 0) (o := 0) (by simp) ?_
              simp -implicitDefEqProofs only [go_sem, Nat.reduceBEq, Nat.reduceAdd, Nat.reduceSub, Nat.reduceMul, Nat.reduceLeDiff, reduceCtorEq, ↓reduceIte, Int.reduceLT, Int.reduceLE, Int.reduceEq, Int.reduceNe]
              refine s_ldg0 (cs := [.slice none 0 0]) (by simp) (by simp) (by simp) (by simp) ?_
              simp -implicitDefEqProofs only [go_sem, Nat.reduceBEq, Nat.reduceAdd, Nat.reduceSub, Nat.reduceMul, Nat.reduceLeDiff, reduceCtorEq, ↓reduceIte, Int.reduceLT, Int.reduceLE, Int.reduceEq, Int.reduceNe]
              refine s_idxg (b := 0) (o := 0) (by simp) ?_
              simp -implicitDefEqProofs only [go_sem, Nat.reduceBEq, Nat.reduceAdd, Nat.reduceSub, Nat.reduceMul, Nat.reduceLeDiff, reduceCtorEq, ↓reduceIte, Int.reduceLT, Int.reduceLE, Int.reduceEq, Int.reduceNe]
              refine s_ldg0 (cs := [.bool false]) (by simp) (by simp) (by simp) (by simp) ?_
              simp -implicitDefEqProofs only [go_sem, Nat.reduceBEq, Nat.reduceAdd, Nat.reduceSub, Nat.reduceMul, Nat.reduceLeDiff, reduceCtorEq, ↓reduceIte, Int.reduceLT, Int.reduceLE, Int.reduceEq, Int.reduceNe]
              simp (disch := omega) only [wrap_id]
              rw [show ((p : Int) + 1) = ((p + 1 : Nat) : Int) by omega, show ((k : Int) - (j : Int)) = ((k - j : Nat) : Int) by omega]
              refine CallVC.read (hih ([] ++ Γr) (Mem.le.refl _)) ?_
              rintro v Γ' ⟨rfl, b, rfl, hb⟩
              simp -implicitDefEqProofs only [S188_2, go_sem, Nat.reduceBEq, Nat.reduceAdd, Nat.reduceSub, Nat.reduceMul, Nat.reduceLeDiff, reduceCtorEq, ↓reduceIte, Int.reduceLT, Int.reduceLE, Int.reduceEq, Int.reduceNe]
              simp (disch := omega) only [wrap_id]
              exact fin b hb rfl hrow (fun h => (by cases h))
            | false =>
              have hs : 0 ≤ sn ∧ sn < g.ns := ⟨hs.1, hs.2.2 rfl⟩
              obtain ⟨c, rfl⟩ : ∃ c : Nat, sn = c := ⟨sn.toNat, by omega⟩
              have hLl := hSL.1
              have hLr := hSL.at' (i := c) (by omega)
              obtain ⟨b1, o1, h1, A5, c5, hr5, hc5⟩ := hL.list (i := c) (by omega)
              obtain ⟨b6, o6, h6, hc6⟩ := hr5.bool (i := j) (by omega)
              have hgl := mat_get (List.getElem?_eq_getElem (show c < L.length by omega)) (show j < L[c].length by omega)
              simp -implicitDefEqProofs only [go_sem, Nat.reduceBEq, Nat.reduceAdd, Nat.reduceSub, Nat.reduceMul, Nat.reduceLeDiff, reduceCtorEq, ↓reduceIte, Int.reduceLT, Int.reduceLE, Int.reduceEq, Int.reduceNe]
              refine s_ld (j := 6) (cells_lk hT.out) (by simp [Tb.cells]) (by simp) ?_
              simp -implicitDefEqProofs only [Tb.cells, go_sem, Nat.reduceBEq, Nat.reduceAdd, Nat.reduceSub, Nat.reduceMul, Nat.reduceLeDiff, reduceCtorEq, ↓reduceIte, Int.reduceLT, Int.reduceLE, Int.reduceEq, Int.reduceNe]
              refine s_idx h3 (by omega) (by omega) ?_
              simp -implicitDefEqProofs only [go_sem, Nat.reduceBEq, Nat.reduceAdd, Nat.reduceSub, Nat.reduceMul, Nat.reduceLeDiff, reduceCtorEq, ↓reduceIte, Int.reduceLT, Int.reduceLE, Int.reduceEq, Int.reduceNe]
              refine s_ld (j := 1) (by simpa using hc3 _ (lk_r [] _)) (by simp) (by simp) ?_
              simp -implicitDefEqProofs only [go_sem, Nat.reduceBEq, Nat.reduceAdd, Nat.reduceSub, Nat.reduceMul, Nat.reduceLeDiff, reduceCtorEq, ↓reduceIte, Int.reduceLT, Int.reduceLE, Int.reduceEq, Int.reduceNe]
              refine s_idx h1 (by omega) (by omega) ?_
              simp -implicitDefEqProofs only [go_sem, Nat.reduceBEq, Nat.reduceAdd, Nat.reduceSub, Nat.reduceMul, Nat.reduceLeDiff, reduceCtorEq, ↓reduceIte, Int.reduceLT, Int.reduceLE, Int.reduceEq, Int.reduceNe]
              refine s_ld0 (hc5 _ (lk_r [] _)) (by simp) (by simp) ?_
              simp -implicitDefEqProofs only [go_sem, Nat.reduceBEq, Nat.reduceAdd, Nat.reduceSub, Nat.reduceMul, Nat.reduceLeDiff, reduceCtorEq, ↓reduceIte, Int.reduceLT, Int.reduceLE, Int.reduceEq, Int.reduceNe]
              refine s_idx h6 (by omega) (by omega) ?_
              simp -implicitDefEqProofs only [go_sem, Nat.reduceBEq, Nat.reduceAdd, Nat.reduceSub, Nat.reduceMul, Nat.reduceLeDiff, reduceCtorEq, ↓reduceIte, Int.reduceLT, Int.reduceLE, Int.reduceEq, Int.reduceNe]
              refine s_ld0 (hc6 _ (lk_r [] _)) (by simp) (by simp) ?_
              generalize L[c][j] = v2 at hgl
              cases v2 with
              | true =>
                simp -implicitDefEqProofs only [S188_2, go_sem, Nat.reduceBEq, Nat.reduceAdd, Nat.reduceSub, Nat.reduceMul, Nat.reduceLeDiff, reduceCtorEq, ↓reduceIte, Int.reduceLT, Int.reduceLE, Int.reduceEq, Int.reduceNe]
                refine ⟨.bool false, ?_⟩
                simp -implicitDefEqProofs only [go_sem, Nat.reduceBEq, Nat.reduceAdd, Nat.reduceSub, Nat.reduceMul, Nat.reduceLeDiff, reduceCtorEq, ↓reduceIte, Int.reduceLT, Int.reduceLE, Int.reduceEq, Int.reduceNe]
                refine Up.here ?_
                subst hR
                refine ⟨rfl, true, rfl, fun _ => ?_, fun _ => rfl⟩
                rw [hdrop]
                exact ⟨j, hj, hsv, hrow, .inl ⟨rfl, hgl⟩⟩
              | false =>
                simp -implicitDefEqProofs only [go_sem, Nat.reduceBEq, Nat.reduceAdd, Nat.reduceSub, Nat.reduceMul, Nat.reduceLeDiff, reduceCtorEq, ↓reduceIte, Int.reduceLT, Int.reduceLE, Int.reduceEq, Int.reduceNe]
                simp (disch := omega) only [wrap_id]
                rw [show ((p : Int) + 1) = ((p + 1 : Nat) : Int) by omega, show ((k : Int) - (j : Int)) = ((k - j : Nat) : Int) by omega]
                refine CallVC.read (hih ([] ++ Γr) (Mem.le.refl _)) ?_
                rintro v Γ' ⟨rfl, b, rfl, hb⟩
                simp -implicitDefEqProofs only [S188_2, go_sem, Nat.reduceBEq, Nat.reduceAdd, Nat.reduceSub, Nat.reduceMul, Nat.reduceLeDiff, reduceCtorEq, ↓reduceIte, Int.reduceLT, Int.reduceLE, Int.reduceEq, Int.reduceNe]
                simp (disch := omega) only [wrap_id]
                exact fin b hb rfl hrow (fun _ => hgl)
      · have hje : j = k + 1 := by omega
        refine Up.here ?_
        subst hR
        refine ⟨rfl, false, rfl, fun h => (by cases h), fun h => ?_⟩
        rw [hdrop] at h
        obtain ⟨j', q1, q2, q3, q4⟩ := h
        exact (hno j' (by omega) ⟨q2, q3, q4⟩).elim
end Go.Proofs.Ytniobbepliknmaa.V
/- The text of (*parlance/census.table).loops as a statement (slots: 0 t, 1 t, 2 k, 3 way, 4 a, 5 b, 6 c, 7 a, 8 again, 9 i, 10 r, 11 k); no condition. -/
namespace Go.Proofs.Ytniobbepliknmaa.V
open Go
def S149_1 : Stmt :=
 .seq
 (.region [.mk (some 36) none (.ibin .lss (.tmp 35) (.tmp 34))]
 [0,2,3,4,5,16,17,24,25,29,30,34,35,36])
 (.seq (.cond (.tmp 36) .skip (.exit 6))
 (.seq
 (.block 7
 (.seq
 (.region
 [.mk (some 37) none (.mv (.tmp 35)),.mk (some 6) none (.mv (.tmp 37))]
 [0,2,3,4,5,6,16,17,24,25,29,30,34,35])
 (.drawn
 [(false,.mk (some 38) none (.mv (.tmp 3))),
 (false,.mk (some 39) none (.mv (.tmp 5))),
 (false,.mk (some 40) none (.idx 1 (.tmp 38) (.tmp 39))),
 (false,.mk (some 41) none (.load false 1 (.tmp 40))),
 (false,.mk (some 42) none (.mv (.tmp 6))),
 (false,.mk (some 43) none (.mv (.tmp 3))),
 (false,.mk (some 44) none (.mv (.tmp 5))),
 (false,.mk (some 45) none (.idx 1 (.tmp 43) (.tmp 44))),
 (false,.mk (some 46) none (.load false 1 (.tmp 45))),
 (false,.mk (some 47) none (.mv (.tmp 6))),
 (false,.mk (some 48) none (.idx 1 (.tmp 46) (.tmp 47))),
 (false,.mk (some 49) none (.load false 1 (.tmp 48))),
 (false,.mk (some 50) none (.mv (.tmp 49))),
 (false,.mk (some 51) (some (50,false)) (.mv (.tmp 3))),
 (false,.mk (some 52) (some (50,false)) (.mv (.tmp 5))),
 (false,.mk (some 53) (some (50,false)) (.idx 1 (.tmp 51) (.tmp 52))),
 (false,.mk (some 54) (some (50,false)) (.load false 1 (.tmp 53))),
 (false,.mk (some 55) (some (50,false)) (.mv (.tmp 4))),
 (false,.mk (some 56) (some (50,false)) (.idx 1 (.tmp 54) (.tmp 55))),
 (false,.mk (some 57) (some (50,false)) (.load false 1 (.tmp 56))),
 (false,.mk (some 58) (some (50,false)) (.mv (.tmp 57))),
 (false,.mk (some 59) (some (58,true)) (.mv (.tmp 3))),
 (false,.mk (some 60) (some (58,true)) (.mv (.tmp 4))),
 (false,.mk (some 61) (some (58,true)) (.idx 1 (.tmp 59) (.tmp 60))),
 (false,.mk (some 62) (some (58,true)) (.load false 1 (.tmp 61))),
 (false,.mk (some 63) (some (58,true)) (.mv (.tmp 6))),
 (false,.mk (some 64) (some (58,true)) (.idx 1 (.tmp 62) (.tmp 63))),
 (false,.mk (some 65) (some (58,true)) (.load false 1 (.tmp 64))),
 (false,
 .mk (some 66) (some (50,false))
 (.pick (.tmp 58) (.tmp 65) (.const (.bool false)))),
 (false,
 .mk (some 67) none (.pick (.tmp 50) (.const (.bool true)) (.tmp 66))),
 (false,.mk (some 68) none (.idx 1 (.tmp 41) (.tmp 42))),
 (false,.mk none none (.store 1 (.tmp 68) (.tmp 67)))]
 [0,2,3,4,5,16,17,24,25,29,30,34,35])))
 (.region
 [.mk (some 69) none (.ibin .add (.tmp 35) (.const (.int .i64 1))),
 .mk (some 35) none (.mv (.tmp 69))]
 [0,2,3,4,5,16,17,24,25,29,30,34,35])))
def S149_2 : Stmt :=
 .seq
 (.region [.mk (some 31) none (.ibin .lss (.tmp 30) (.tmp 29))]
 [0,2,3,4,16,17,24,25,29,30,31])
 (.seq (.cond (.tmp 31) .skip (.exit 4))
 (.seq
 (.block 5
 (.seq
 (.region
 [.mk (some 32) none (.mv (.tmp 30)),.mk (some 5) none (.mv (.tmp 32))]
 [0,2,3,4,5,16,17,24,25,29,30])
 (.seq
 (.region
 [.mk (some 33) none (.mv (.tmp 3)),
 .mk (some 34) none (.len false (.tmp 33)),
 .mk (some 35) none (.mv (.const (.int .i64 0)))]
 [0,2,3,4,5,16,17,24,25,29,30,34,35])
 (.block 6 (.loop S149_1 [35] [0,2,3,4,5,16,17,24,25,29,30,34])))))
 (.region
 [.mk (some 70) none (.ibin .add (.tmp 30) (.const (.int .i64 1))),
 .mk (some 30) none (.mv (.tmp 70))]
 [0,2,3,4,16,17,24,25,29,30])))
def S149_3 : Stmt :=
 .seq
 (.region [.mk (some 26) none (.ibin .lss (.tmp 25) (.tmp 24))]
 [0,2,3,16,17,24,25,26])
 (.seq (.cond (.tmp 26) .skip (.exit 2))
 (.seq
 (.block 3
 (.seq
 (.region
 [.mk (some 27) none (.mv (.tmp 25)),.mk (some 4) none (.mv (.tmp 27))]
 [0,2,3,4,16,17,24,25])
 (.seq
 (.region
 [.mk (some 28) none (.mv (.tmp 3)),
 .mk (some 29) none (.len false (.tmp 28)),
 .mk (some 30) none (.mv (.const (.int .i64 0)))]
 [0,2,3,4,16,17,24,25,29,30])
 (.block 4 (.loop S149_2 [30] [0,2,3,4,16,17,24,25,29])))))
 (.region
 [.mk (some 71) none (.ibin .add (.tmp 25) (.const (.int .i64 1))),
 .mk (some 25) none (.mv (.tmp 71))]
 [0,2,3,16,17,24,25])))
def S149_4 : Stmt :=
 .seq
 (.region [.mk (some 75) none (.ibin .lss (.tmp 74) (.tmp 73))]
 [0,2,3,16,17,73,74,75])
 (.seq (.cond (.tmp 75) .skip (.exit 8))
 (.seq
 (.block 9
 (.seq
 (.region
 [.mk (some 76) none (.mv (.tmp 74)),.mk (some 7) none (.mv (.tmp 76))]
 [0,2,3,7,16,17,73,74])
 (.drawn
 [(false,.mk (some 77) none (.mv (.tmp 0))),
 (false,.mk (some 78) none (.nilCheck (.tmp 77))),
 (false,.mk (some 79) none (.fld 6 (.tmp 78))),
 (false,.mk (some 80) none (.load false 1 (.tmp 79))),
 (false,.mk (some 81) none (.mv (.tmp 7))),
 (false,.mk (some 82) none (.idx 1 (.tmp 80) (.tmp 81))),
 (false,.mk (some 83) none (.load false 1 (.tmp 82))),
 (false,.mk (some 84) none (.mv (.tmp 2))),
 (false,.mk (some 85) none (.mv (.tmp 3))),
 (false,.mk (some 86) none (.mv (.tmp 7))),
 (false,.mk (some 87) none (.idx 1 (.tmp 85) (.tmp 86))),
 (false,.mk (some 88) none (.load false 1 (.tmp 87))),
 (false,.mk (some 89) none (.mv (.tmp 7))),
 (false,.mk (some 90) none (.idx 1 (.tmp 88) (.tmp 89))),
 (false,.mk (some 91) none (.load false 1 (.tmp 90))),
 (false,.mk (some 92) none (.idx 1 (.tmp 83) (.tmp 84))),
 (false,.mk none none (.store 1 (.tmp 92) (.tmp 91)))]
 [0,2,3,16,17,73,74])))
 (.region
 [.mk (some 93) none (.ibin .add (.tmp 74) (.const (.int .i64 1))),
 .mk (some 74) none (.mv (.tmp 93))]
 [0,2,3,16,17,73,74])))
def S149_5 : Stmt :=
 .seq (.region [.mk (some 18) none (.ibin .lss (.tmp 17) (.tmp 16))] [0,16,17,18])
 (.seq (.cond (.tmp 18) .skip (.exit 0))
 (.seq
 (.block 1
 (.seq
 (.region
 [.mk (some 19) none (.mv (.tmp 17)),.mk (some 2) none (.mv (.tmp 19))]
 [0,2,16,17])
 (.seq
 (.region
 [.mk (some 20) none (.mv (.tmp 0)),.mk (some 21) none (.mv (.tmp 2)),
 .mk (some 22) none (.call (.func 187) [.tmp 20,.tmp 21]),
 .mk (some 3) none (.mv (.tmp 22))]
 [0,2,3,16,17])
 (.seq
 (.seq
 (.region
 [.mk (some 23) none (.mv (.tmp 3)),
 .mk (some 24) none (.len false (.tmp 23)),
 .mk (some 25) none (.mv (.const (.int .i64 0)))]
 [0,2,3,16,17,24,25])
 (.block 2 (.loop S149_3 [25] [0,2,3,16,17,24])))
 (.seq
 (.region
 [.mk (some 72) none (.mv (.tmp 3)),
 .mk (some 73) none (.len false (.tmp 72)),
 .mk (some 74) none (.mv (.const (.int .i64 0)))]
 [0,2,3,16,17,73,74])
 (.block 8 (.loop S149_4 [74] [0,2,3,16,17,73])))))))
 (.region
 [.mk (some 94) none (.ibin .add (.tmp 17) (.const (.int .i64 1))),
 .mk (some 17) none (.mv (.tmp 94))]
 [0,16,17])))
def S149_6 : Stmt :=
 .block 15
 (.seq
 (.region
 [.mk (some 114) none (.mv (.tmp 112)),.mk (some 11) none (.mv (.tmp 114))]
 [0,8,9,10,11,100,101,102,111,112])
 (.seq
 (.drawn
 [(false,.mk (some 115) none (.mv (.tmp 0))),
 (false,.mk (some 116) none (.nilCheck (.tmp 115))),
 (false,.mk (some 117) none (.fld 6 (.tmp 116))),
 (false,.mk (some 118) none (.load false 1 (.tmp 117))),
 (false,.mk (some 119) none (.fld 0 (.tmp 10))),
 (false,.mk (some 120) none (.load false 1 (.tmp 119))),
 (false,.mk (some 121) none (.idx 1 (.tmp 118) (.tmp 120))),
 (false,.mk (some 122) none (.load false 1 (.tmp 121))),
 (false,.mk (some 123) none (.mv (.tmp 11))),
 (false,.mk (some 124) none (.idx 1 (.tmp 122) (.tmp 123))),
 (false,.mk (some 125) none (.load false 1 (.tmp 124))),
 (false,.mk (some 126) none (.un .not (.tmp 125))),
 (false,.mk (some 127) none (.mv (.tmp 126))),
 (false,.mk (some 128) (some (127,true)) (.mv (.tmp 0))),
 (false,.mk (some 129) (some (127,true)) (.mv (.tmp 9))),
 (false,.mk (some 130) (some (127,true)) (.mv (.tmp 11))),
 (false,
 .mk (some 131) (some (127,true))
 (.call (.func 188)
 [.tmp 128,.tmp 129,.const (.int .i64 0),.tmp 130])),
 (false,
 .mk (some 132) none (.pick (.tmp 127) (.tmp 131) (.const (.bool false))))]
 [0,8,9,10,11,100,101,102,111,112,132])
 (.cond (.tmp 132)
 (.drawn
 [(false,.mk (some 133) none (.mv (.tmp 0))),
 (false,.mk (some 134) none (.nilCheck (.tmp 133))),
 (false,.mk (some 135) none (.fld 6 (.tmp 134))),
 (false,.mk (some 136) none (.load false 1 (.tmp 135))),
 (false,.mk (some 137) none (.fld 0 (.tmp 10))),
 (false,.mk (some 138) none (.load false 1 (.tmp 137))),
 (false,.mk (some 139) none (.idx 1 (.tmp 136) (.tmp 138))),
 (false,.mk (some 140) none (.load false 1 (.tmp 139))),
 (false,.mk (some 141) none (.mv (.tmp 11))),
 (false,.mk (some 142) none (.idx 1 (.tmp 140) (.tmp 141))),
 (false,.mk none none (.store 1 (.tmp 142) (.const (.bool true)))),
 (false,.mk (some 8) none (.mv (.const (.bool true))))]
 [0,8,9,10,100,101,102,111,112])
 .skip)))
def S149_7 : Stmt :=
 .region
 [.mk (some 143) none (.ibin .add (.tmp 112) (.const (.int .i64 1))),
 .mk (some 112) none (.mv (.tmp 143))]
 [0,8,9,10,100,101,102,111,112]
def S149_8 : Stmt :=
 .seq
 (.region [.mk (some 113) none (.ibin .lss (.tmp 112) (.tmp 111))]
 [0,8,9,10,100,101,102,111,112,113])
 (.seq (.cond (.tmp 113) .skip (.exit 14))
 (.join S149_6 S149_7 [8] [0,9,10,100,101,102,111,112]))
def S149_9 : Stmt :=
 .seq
 (.region [.mk (some 103) none (.ibin .lss (.tmp 102) (.tmp 101))]
 [0,8,100,101,102,103])
 (.seq (.cond (.tmp 103) .skip (.exit 12))
 (.seq
 (.block 13
 (.seq
 (.region
 [.mk (some 104) none (.mv (.tmp 102)),
 .mk (some 105) none (.idx 2 (.tmp 100) (.tmp 102)),
 .mk (some 106) none (.load true 2 (.tmp 105)),
 .mk (some 10) none
 (.alloc true 37 (.agg (Array.mk [.int .i64 0,.slice none 0 0]))),
 .mk (some 9) none (.mv (.tmp 104)),
 .mk none none (.store 2 (.tmp 10) (.tmp 106))]
 [0,8,9,10,100,101,102])
 (.seq
 (.region
 [.mk (some 107) none (.mv (.tmp 0)),
 .mk (some 108) none (.nilCheck (.tmp 107)),
 .mk (some 109) none (.fld 4 (.tmp 108)),
 .mk (some 110) none (.load false 1 (.tmp 109)),
 .mk (some 111) none
 (.ibin .add (.tmp 110) (.const (.int .i64 1))),
 .mk (some 112) none (.mv (.const (.int .i64 0)))]
 [0,8,9,10,100,101,102,111,112])
 (.block 14 (.loop S149_8 [8,112] [0,9,10,100,101,102,111])))))
 (.region
 [.mk (some 144) none (.ibin .add (.tmp 102) (.const (.int .i64 1))),
 .mk (some 102) none (.mv (.tmp 144))]
 [0,8,100,101,102])))
def S149_10 : Stmt :=
 .seq
 (.seq (.region [.mk (some 95) none (.mv (.tmp 8))] [0,95])
 (.cond (.tmp 95) .skip (.exit 10)))
 (.block 11
 (.seq (.region [.mk (some 8) none (.mv (.const (.bool false)))] [0,8])
 (.seq
 (.region
 [.mk (some 96) none (.mv (.tmp 0)),.mk (some 97) none (.nilCheck (.tmp 96)),
 .mk (some 98) none (.fld 0 (.tmp 97)),.mk (some 99) none (.fld 3 (.tmp 98)),
 .mk (some 100) none (.load false 1 (.tmp 99)),
 .mk (some 101) none (.len false (.tmp 100)),
 .mk (some 102) none (.mv (.const (.int .i64 0)))]
 [0,8,100,101,102])
 (.block 12 (.loop S149_9 [8,102] [0,100,101])))))
def S149_0 : Stmt :=
 .seq
 (.seq
 (.region
 [.mk (some 12) none (.mv (.tmp 0)),.mk (some 13) none (.nilCheck (.tmp 12)),
 .mk (some 14) none (.fld 4 (.tmp 13)),
 .mk (some 15) none (.load false 1 (.tmp 14)),
 .mk (some 16) none (.ibin .add (.tmp 15) (.const (.int .i64 1))),
 .mk (some 17) none (.mv (.const (.int .i64 0)))]
 [0,16,17])
 (.block 0 (.loop S149_5 [17] [0,16])))
 (.seq (.region [.mk (some 8) none (.mv (.const (.bool true)))] [0,8])
 (.block 10 (.loop S149_10 [8] [0])))
def S149 : FnS := ⟨145,[],S149_0⟩
theorem tr149 : trFn Try.prog 149 [10] [[0,16,17],[17],[0,16],[0,16,17,18],[0,2,16,17],[0,2,3,16,17],[0,2,3,16,17,24,25],[25],[0,2,3,16,17,24],[0,2,3,16,17,24,25,26],[0,2,3,4,16,17,24,25],[0,2,3,4,16,17,24,25,29,30],[30],[0,2,3,4,16,17,24,25,29],[0,2,3,4,16,17,24,25,29,30,31],[0,2,3,4,5,16,17,24,25,29,30],[0,2,3,4,5,16,17,24,25,29,30,34,35],[35],[0,2,3,4,5,16,17,24,25,29,30,34],[0,2,3,4,5,16,17,24,25,29,30,34,35,36],[0,2,3,4,5,6,16,17,24,25,29,30,34,35],[0,2,3,4,5,16,17,24,25,29,30,34,35],[0,1,2,3,4,5,6,7,8,9,10,11,12,13,14,15,16,17,18,19,20,21,22,23,24,25,26,27,28,29,30,31],[],[],[],[0,1],[0,1,2],[],[],[],[5,6],[5,6,7],[],[5,6,7,8,9],[5,6,7,8,9,10],[5,6,7,8,9,10,11],[5,6,7,8,9,10,11,12],[5,6,7,8,9,10,11,12],[5,6,7,8,9,10,11,12,13,14],[5,6,7,8,9,10,11,12,13,14,15],[5,6,7,8,9,10,11,12],[5,6,7,8,9,10,11,12,13,14,15,16,17],[5,6,7,8,9,10,11,12,13,14,15,16,17,18],[5,6,7,8,9,10,11,12,13,14,15,16,17,18,19],[5,6,7,8,9,10,11,12,13,14,15,16,17,18,19,20],[5,6,7,8,9,10,11,12,13,14,15,16,17,18,19,20],[5,6,7,8,9,10,11,12,13,14,15,16,17,18,19,20,21,22],[5,6,7,8,9,10,11,12,13,14,15,16,17,18,19,20,21,22,23],[5,6,7,8,9,10,11,12,13,14,15,16,17,18,19,20],[5,6,7,8,9,10,11,12,13,14,15,16,17,18,19,20,21,22,23,24,25],[5,6,7,8,9,10,11,12,13,14,15,16,17,18,19,20,21,22,23,24,25,26],[5,6,7,8,9,10,11,12,13,14,15,16,17,18,19,20,21,22,23,24,25,26,27],[5,6,7,8,9,10,11,12,13,14,15,16,17,18,19,20,21,22,23,24,25,26,27,28],[0,1,2,3,4,5,6,7,8,9,10,11,12,13,14,15,16,17,18,19,20,21,22,23,24,25,26,27,28,29],[0,1,2,3,4,5,6,7,8,9,10,11,12,13,14,15,16,17,18,19,20,21,22,23,24,25,26,27,28,29,30],[0,2,3,4,5,16,17,24,25,29,30,34,35],[0,2,3,4,16,17,24,25,29,30],[0,2,3,16,17,24,25],[0,2,3,16,17,73,74],[74],[0,2,3,16,17,73],[0,2,3,16,17,73,74,75],[0,2,3,7,16,17,73,74],[0,2,3,16,17,73,74],[0,1,2,3,4,5,6,7,8,9,10,11,12,13,14,15,16],[],[],[0],[0,1],[0,1,2],[],[0,1,2,3,4],[0,1,2,3,4,5],[],[],[],[8,9],[8,9,10],[],[8,9,10,11,12],[8,9,10,11,12,13],[0,1,2,3,4,5,6,7,8,9,10,11,12,13,14],[0,1,2,3,4,5,6,7,8,9,10,11,12,13,14,15],[0,2,3,16,17,73,74],[0,16,17],[0,8],[8],[0],[0,95],[0,8],[0,8,100,101,102],[8,102],[0,100,101],[0,8,100,101,102,103],[0,8,9,10,100,101,102],[0,8,9,10,100,101,102,111,112],[8,112],[0,9,10,100,101,102,111],[0,8,9,10,100,101,102,111,112,113],[8],[0,9,10,100,101,102,111,112],[0,8,9,10,11,100,101,102,111,112],[0,8,9,10,11,100,101,102,111,112,132],[0,1,2,3,4,5,6,7,8,9,10,11,12,13,14,15,16,17],[],[],[0],[0,1],[0,1,2],[],[4],[0,1,2,3,4,5],[0,1,2,3,4,5,6],[],[0,1,2,3,4,5,6,7,8],[0,1,2,3,4,5,6,7,8,9],[0,1,2,3,4,5,6,7,8,9,10],[0,1,2,3,4,5,6,7,8,9,10,11],[0,1,2,3,4,5,6,7,8,9,10,11,12],[0,1,2,3,4,5,6,7,8,9,10,11,12],[0,1,2,3,4,5,6,7,8,9,10,11,12],[0,1,2,3,4,5,6,7,8,9,10,11,12,13,14,15],[0,1,2,3,4,5,6,7,8,9,10,11,12,13,14,15,16],[0,8,9,10,100,101,102,111,112],[0,1,2,3,4,5,6,7,8,9,10,11],[],[],[0],[0,1],[0,1,2],[],[4],[0,1,2,3,4,5],[0,1,2,3,4,5,6],[],[0,1,2,3,4,5,6,7,8],[0,1,2,3,4,5,6,7,8,9],[0,1,2,3,4,5,6,7,8,9,10],[0,8,9,10,100,101,102,111,112],[0,8,100,101,102]] = some S149 := by kernel_rfl
end Go.Proofs.Ytniobbepliknmaa.V
namespace Go.Proofs.Ytniobbepliknmaa.V
open Go
set_option linter.unusedVariables false
set_option linter.unusedSimpArgs false
/- census: loops walked; no condition. -/
attribute [local go_sem] e_seq e_region e_quiet e_join e_loop e_cond e_block e_exit e_ret e_skip e_fin e_kseq e_snrm e_sret e_sex e_bnrm e_bret e_bex e_rnrm e_rret e_res e_condC e_nil e_g e_mv g_mv e_pick g_pick pickC_eq e_ibin g_ibin ibinC_eq e_sbin g_sbin e_beq g_beq beqC_eq e_nilq g_nilq nilqC_sl nilqC_pt nilqC_mp e_un g_un unC_not unC_neg e_conv g_conv convC_eq e_fld g_fld fldC_ref fldC_ptr e_nilCheck g_nilCheck nilCheckC_ref nilCheckC_ptr nilCheckC_fun e_field g_field fieldC_eq e_len g_len lenC_sl lenC_str e_extract g_extract extractC_eq e_mkFunc e_build g_build e_idiv g_idiv idivC_eq e_ishift g_ishift ishiftC_eq e_idx g_idx e_idxA g_idxA e_load g_load e_loadB g_loadB atB_ref atB_v g_mkFunc loadC_ref loadC_ptr loadB_eq e_slc g_slc e_box boxC_loc boxC_esc e_alloc allocC_loc allocC_esc e_buildS e_store storeC_ref storeC_ptr storeB_eq e_append e_appz e_mk mkC_eq e_call callC_eq e_fn g_fn fnC_eq fnV_min' fnV_max' fnV_rune' e_q g_q e_a e_n g_call g_box g_alloc g_buildS g_store g_append g_mk g_a g_n g_dead e_dead e_callK e_drawn e_tree e_finJ e_tk e_tfin e_tno e_nbt_q e_nbt_qn e_nbt_a e_nbt_an e_nbt_fin e_drawnB e_bxb_nil e_bxb e_stB_none e_stB_some boxSt_store bs_mv bs_pick bs_ibin bs_idiv bs_ishift bs_sbin bs_beq bs_nilq bs_un bs_conv bs_box bs_alloc bs_build bs_buildS bs_load bs_fld bs_nilCheck bs_idx bs_idxA bs_field bs_slc bs_len bs_append bs_appz bs_mk bs_call bs_extract bs_mkFunc bs_fn bs_q bs_a bs_n bs_loadB bs_dead isBox_box e_early_nil e_early_t e_early_f e_nob_nil e_nob_none e_nob_some isBox_dead isBox_v isBox_ref e_dnil e_dk e_ek e_finB vcOps_vc1 e_dcons e_tq e_ekt e_tearly e_talt e_dearly look_nil look_c proj_nil proj_c looks_nil looks_c zip_nil zip_c val_tmp val_const val_func slv_v slv_box slv_ref slot_tmp slot_const slot_func slotL_v slotL_box slotL_ref put_some put_none updBox_c boxSet_box gd_eq slotVals_nil slotVals_c slotVals_b boxV_box boxOn_box slotsOn_nil slotsOn_c slotsOn_b resV_one resV_two vals_nil vals_c allOn_nil allOn_c partOn_nil partOn_c partVals_nil partVals_c fits_nil fits_c fillL_nil fillL_c mkv_one mkv_agg cellsV_agg cellsV_int cellsV_bool cellsV_slice cellsV_string cellsV_pointer cellsV_func cellsV_nilf cellsV_map one'_nil one'_c oc_int oc_bool oc_slice oc_string oc_pointer oc_func oc_nilf oc_map setC_eq iv_add iv_sub iv_mul iv_eql iv_neq iv_lss iv_leq iv_gtr iv_geq iok_add iok_sub iok_mul iok_eql iok_neq iok_lss iok_leq iok_gtr iok_geq pickV_bool args0_nil args0_c bnd_none bnd_some imp_bt imp_bf imp_ebt imp_ebf imp_eb1 imp_np imp_pp beq_tt beq_tf beq_ft beq_ff cond_or cond_and e_round e_meet Int.le_refl Int.toNat_zero decide_true decide_false Bool.or_false Bool.false_or Bool.true_or Bool.or_true Bool.and_false Bool.false_and Bool.bne_false Bool.bne_true beq_iff_eq Int.cast_ofNat_Int not_false_eq_true not_true_eq_false false_and and_false false_implies true_implies true_and and_true Bool.true_and Bool.and_true Bool.not_true Bool.not_false forall_const implies_true List.take_zero List.drop_zero List.take_succ_cons List.drop_succ_cons List.take_nil List.drop_nil List.length_cons List.length_nil List.nil_append List.append_nil List.cons_append Int.toNat_natCast decide_eq_true_eq decide_eq_false_iff_not cond_true cond_false and_self List.getElem?_cons_zero List.getElem?_cons_succ List.set_cons_zero List.set_cons_succ Option.some.injEq exists_eq_left' Nat.zero_add Nat.add_zero Nat.mul_one imp_self true_or or_true or_false false_or Bool.or_eq_true Bool.or_eq_false_iff Bool.and_eq_true Bool.and_eq_false_iff Bool.not_eq_true' Bool.not_eq_false'

/-- a ring of trees of the same k -/
def CycK (g : Gr) (H : List (List Bool)) (a k : Nat) : Prop := PathK (SameE g H k g.rs.length) g.ns.toNat a a
theorem LessP.mono {H L L' : List (List Bool)} (h : MonoH L L') : ∀ {l : List Sy} {k : Nat}, LessP H L l k → LessP H L' l k
  | [], _, q => q
  | s :: l, k, ⟨j, h1, h2, h3, h4⟩ => ⟨j, h1, h2, h3, h4.elim (fun q => .inl ⟨q.1, h _ _ q.2⟩) fun q => .inr (LessP.mono h q)⟩
/-- what loops: rings, and what has below it what loops -/
structure LoopI (g : Gr) (n : Nat) (H L : List (List Bool)) : Prop where
  cyc : ∀ a k, k ≤ n → CycK g H a k → mat L a k = true
  snd : ∀ a k, mat L a k = true → CycK g H a k ∨ ∃ r ∈ g.rs, r.l = (a : Int) ∧ LessP H L r.r k
def DoneL (g : Gr) (n : Nat) (H L : List (List Bool)) (i0 : Nat) : Prop := ∀ (i : Nat) (r : Ru), i < i0 → g.rs[i]? = some r → ∀ k, k ≤ n → LessP H L r.r k → mat L r.l.toNat k = true
set_option maxHeartbeats 1600000 in
theorem tab_loops {Γr : Ctx} {t : Tb} {g : Gr} (V : VG g) {n : Nat} {R : Option Addr} {cR : Nat} (hT : TabK (lk Γr) t g n R cR) {H : List (List Bool)} (hH : SlOk (lk Γr) (some ⟨t.bh, 0, none⟩) g.ns.toNat H) (hS : Shp g.ns.toNat (n + 1) H) (hn : n ≤ 24)
    {ge : PH} {E : List (List (List Bool))} (hE : Cube ge 22 4 t.be E) (hle : Mem.le (lk [ge]) (lk Γr)) (hEI : EndsI g n H E) (hED : DoneR g n H E g.rs.length) {gl : PH} (hGl : Grid gl t.bl 22 4 (List.replicate g.ns.toNat (List.replicate (n + 1) false))) :
    Ret Try.prog 149 [.pointer (some ⟨t.b, 0, none⟩)] Γr [gl] (fun v Γ => ∃ gl' L, Γ = [gl'] ∧ Grid gl' t.bl 22 4 L ∧ Shp g.ns.toNat (n + 1) L ∧ LoopI g n H L ∧ DoneL g n H L g.rs.length) := by
  generalize hR : (fun (v : Value) (Γ : Ctx) => ∃ gl' L, _) = R'
  refine ret_of_vc tr149 (Nat.le_of_ble_eq_true rfl) ?_
  simp -implicitDefEqProofs only [S149, S149_0, go_sem, Nat.reduceBEq, Nat.reduceAdd, Nat.reduceSub, Nat.reduceMul, Nat.reduceLeDiff, reduceCtorEq, ↓reduceIte, Int.reduceLT, Int.reduceLE, Int.reduceEq, Int.reduceNe]
  have hvl := V.len
  have hsh := hT.rs.short
  have hns := V.ns
  obtain ⟨N, hN⟩ : ∃ N : Nat, g.ns = N := ⟨g.ns.toNat, by omega⟩
  have hN' : g.ns.toNat = N := by omega
  have hsame := fun (Γ' : Ctx) (hl : Mem.le (lk Γr) (lk Γ')) (k : Nat) (hk : k ≤ n) => tab_same (Γr := Γ') V (hT.mono hl) (hH.mono hl) hS hn hk
  rw [hN'] at hR hH hS hGl
  simp only [hN'] at hsame
  refine s_ld (j := 4) (cells_lk (lk_r [gl] _ _ _ hT.out)) (by simp [Tb.cells]) (by simp) ?_
  simp -implicitDefEqProofs only [Tb.cells, go_sem, Nat.reduceBEq, Nat.reduceAdd, Nat.reduceSub, Nat.reduceMul, Nat.reduceLeDiff, reduceCtorEq, ↓reduceIte, Int.reduceLT, Int.reduceLE, Int.reduceEq, Int.reduceNe]
  simp (disch := omega) only [wrap_id]
  refine s_loop (fun f vs Γ => ∃ (k : Nat) (gl : PH) (L : List (List Bool)), vs = [.v true (.int .i64 (k : Int))] ∧ Γ = [gl] ∧ k + f = n + 1 ∧ Grid gl t.bl 22 4 L ∧ Shp N (n + 1) L ∧ (∀ a k', k' < k → (mat L a k' = true ↔ CycK g H a k')) ∧ ∀ a k', k ≤ k' → mat L a k' = false) (n + 1)
    (Up.here ⟨0, gl, _, rfl, rfl, by omega, hGl, ⟨by simp, fun r hr => by simp at hr; rw [hr.2]; simp⟩, fun a k' h => by omega, fun a k' _ => by
      simp only [mat, List.getD_eq_getElem?_getD, List.getElem?_replicate]
      split
      · simp only [Option.getD_some, List.getElem?_replicate]
        split <;> simp
      · simp⟩) ?_
  · clear hGl
    rintro f vs Γ ⟨k, gl, L, rfl, rfl, hkf, hGl, hSL, hcy, hno⟩
    simp -implicitDefEqProofs only [S149_5, go_sem, Nat.reduceBEq, Nat.reduceAdd, Nat.reduceSub, Nat.reduceMul, Nat.reduceLeDiff, reduceCtorEq, ↓reduceIte, Int.reduceLT, Int.reduceLE, Int.reduceEq, Int.reduceNe]
    refine ⟨fun hlt => ?_, fun hge => ?_⟩
    · have hk : k ≤ n := by omega
      refine CallVC.read (hsame ([gl] ++ Γr) (lk_r [gl] _) k hk) ?_
      rintro v Γ' ⟨gW, bW, W, rfl, rfl, hG, hQ, hW⟩
      simp -implicitDefEqProofs only [go_sem, Nat.reduceBEq, Nat.reduceAdd, Nat.reduceSub, Nat.reduceMul, Nat.reduceLeDiff, reduceCtorEq, ↓reduceIte, Int.reduceLT, Int.reduceLE, Int.reduceEq, Int.reduceNe]
      have hS0 := hQ
      refine s_loop (fun f1 vs Γ => ∃ (a : Nat) (gW : PH), vs = [.v true (.int .i64 a)] ∧ Γ = [gW, gl] ∧ a + f1 = N ∧ Grid gW bW 22 4 (wN W N (a * N * N))) N (Up.here ⟨0, _, rfl, rfl, by omega, by simpa [wN] using hG⟩) ?_
      · clear hG
        rintro f1 vs Γ ⟨a, gW, rfl, rfl, haf, hG⟩
        simp -implicitDefEqProofs only [S149_3, go_sem, Nat.reduceBEq, Nat.reduceAdd, Nat.reduceSub, Nat.reduceMul, Nat.reduceLeDiff, reduceCtorEq, ↓reduceIte, Int.reduceLT, Int.reduceLE, Int.reduceEq, Int.reduceNe]
        refine ⟨fun hlt => ?_, fun hge => ?_⟩
        · have ha : a < N := by omega
          refine s_loop (fun f2 vs Γ => ∃ (b : Nat) (gW : PH), vs = [.v true (.int .i64 b)] ∧ Γ = [gW, gl] ∧ b + f2 = N ∧ Grid gW bW 22 4 (wN W N ((a * N + b) * N))) N (Up.here ⟨0, _, rfl, rfl, by omega, by simpa using hG⟩) ?_
          clear hG
          rintro f2 vs Γ ⟨b', gW, rfl, rfl, hbf, hG⟩
          simp -implicitDefEqProofs only [S149_2, go_sem, Nat.reduceBEq, Nat.reduceAdd, Nat.reduceSub, Nat.reduceMul, Nat.reduceLeDiff, reduceCtorEq, ↓reduceIte, Int.reduceLT, Int.reduceLE, Int.reduceEq, Int.reduceNe]
          refine ⟨fun hlt => ?_, fun hge => ?_⟩
          · have hb : b' < N := by omega
            refine s_loop (fun f3 vs Γ => ∃ (c : Nat) (gW : PH), vs = [.v true (.int .i64 c)] ∧ Γ = [gW, gl] ∧ c + f3 = N ∧ Grid gW bW 22 4 (wN W N ((a * N + b') * N + c))) N (Up.here ⟨0, _, rfl, rfl, by omega, by simpa using hG⟩) ?_
            clear hG
            rintro f3 vs Γ ⟨c', gW, rfl, rfl, hcf, hG⟩
            simp -implicitDefEqProofs only [S149_1, go_sem, Nat.reduceBEq, Nat.reduceAdd, Nat.reduceSub, Nat.reduceMul, Nat.reduceLeDiff, reduceCtorEq, ↓reduceIte, Int.reduceLT, Int.reduceLE, Int.reduceEq, Int.reduceNe]
            refine ⟨fun hlt => ?_, fun hge => ?_⟩
            · have hc : c' < N := by omega
              have hnext := wN_step W (a := a) hb hc
              have hsq := wN_sq hS0 ((a * N + b') * N + c')
              generalize wN W N ((a * N + b') * N + c') = Q at *
              have hlQ := hsq.len
              have hrb := hsq.at' (b := b') (by omega)
              have hra := hsq.at' (b := a) (by omega)
              obtain ⟨kb, hcb, hAb, hput⟩ := hG.at' (i := b') (by omega) (by omega)
              obtain ⟨ka, hca, hAa, _⟩ := hG.at' (i := a) (by omega) (by omega)
              have cba : ∀ Γ : Ctx, gW ∈ Γ → Cells Γ kb a [.bool Q[b'][a]] := fun Γ h => hAb.bool (by omega) h
              have cac : ∀ Γ : Ctx, gW ∈ Γ → Cells Γ ka c' [.bool Q[a][c']] := fun Γ h => hAa.bool (by omega) h
              have m1 : mat Q b' c' = Q[b'][c'] := mat_at (by omega) (by omega)
              have m2 : mat Q b' a = Q[b'][a] := mat_at (by omega) (by omega)
              have m3 : mat Q a c' = Q[a][c'] := mat_at (by omega) (by omega)
              refine s_idx rfl (by omega) (by omega) ?_
              simp -implicitDefEqProofs only [go_sem, Nat.reduceBEq, Nat.reduceAdd, Nat.reduceSub, Nat.reduceMul, Nat.reduceLeDiff, reduceCtorEq, ↓reduceIte, Int.reduceLT, Int.reduceLE, Int.reduceEq, Int.reduceNe]
              refine s_ld0 (hcb _ (by simp)) (by simp) (by simp) ?_
              simp -implicitDefEqProofs only [go_sem, Nat.reduceBEq, Nat.reduceAdd, Nat.reduceSub, Nat.reduceMul, Nat.reduceLeDiff, reduceCtorEq, ↓reduceIte, Int.reduceLT, Int.reduceLE, Int.reduceEq, Int.reduceNe]
              refine s_idx rfl (by omega) (by omega) ?_
              simp -implicitDefEqProofs only [go_sem, Nat.reduceBEq, Nat.reduceAdd, Nat.reduceSub, Nat.reduceMul, Nat.reduceLeDiff, reduceCtorEq, ↓reduceIte, Int.reduceLT, Int.reduceLE, Int.reduceEq, Int.reduceNe]
              refine s_ld0 (hcb _ (by simp)) (by simp) (by simp) ?_
              simp -implicitDefEqProofs only [go_sem, Nat.reduceBEq, Nat.reduceAdd, Nat.reduceSub, Nat.reduceMul, Nat.reduceLeDiff, reduceCtorEq, ↓reduceIte, Int.reduceLT, Int.reduceLE, Int.reduceEq, Int.reduceNe]
              refine s_idx rfl (by omega) (by omega) ?_
              simp -implicitDefEqProofs only [go_sem, Nat.reduceBEq, Nat.reduceAdd, Nat.reduceSub, Nat.reduceMul, Nat.reduceLeDiff, reduceCtorEq, ↓reduceIte, Int.reduceLT, Int.reduceLE, Int.reduceEq, Int.reduceNe]
              refine s_ld0 (hAb.bool (i := c') (by omega) (by simp)) (by simp) (by simp) ?_
              simp -implicitDefEqProofs only [go_sem, Nat.reduceBEq, Nat.reduceAdd, Nat.reduceSub, Nat.reduceMul, Nat.reduceLeDiff, reduceCtorEq, ↓reduceIte, Int.reduceLT, Int.reduceLE, Int.reduceEq, Int.reduceNe]
              refine s_idxg (fun he => ⟨by first | exact he | rfl | simp_all, by first | exact he | rfl | simp_all, rfl, by omega, by omega⟩) ?_
              simp -implicitDefEqProofs only [go_sem, Nat.reduceBEq, Nat.reduceAdd, Nat.reduceSub, Nat.reduceMul, Nat.reduceLeDiff, reduceCtorEq, ↓reduceIte, Int.reduceLT, Int.reduceLE, Int.reduceEq, Int.reduceNe]
              refine s_ldg0 (fun he => by first | exact he | rfl | simp_all) (fun _ => hcb _ (by simp)) (by simp) (by simp) ?_
              simp -implicitDefEqProofs only [go_sem, Nat.reduceBEq, Nat.reduceAdd, Nat.reduceSub, Nat.reduceMul, Nat.reduceLeDiff, reduceCtorEq, ↓reduceIte, Int.reduceLT, Int.reduceLE, Int.reduceEq, Int.reduceNe]
              refine s_idxg (fun he => ⟨by first | exact he | rfl | simp_all, by first | exact he | rfl | simp_all, rfl, by omega, by omega⟩) ?_
              simp -implicitDefEqProofs only [go_sem, Nat.reduceBEq, Nat.reduceAdd, Nat.reduceSub, Nat.reduceMul, Nat.reduceLeDiff, reduceCtorEq, ↓reduceIte, Int.reduceLT, Int.reduceLE, Int.reduceEq, Int.reduceNe]
              refine s_ldg0 (fun he => by first | exact he | rfl | simp_all) (fun _ => cba _ (by simp)) (by simp) (by simp) ?_
              simp -implicitDefEqProofs only [go_sem, Nat.reduceBEq, Nat.reduceAdd, Nat.reduceSub, Nat.reduceMul, Nat.reduceLeDiff, reduceCtorEq, ↓reduceIte, Int.reduceLT, Int.reduceLE, Int.reduceEq, Int.reduceNe]
              refine s_idxg (fun he => ⟨by first | exact he | rfl | simp_all, by first | exact he | rfl | simp_all, rfl, by omega, by omega⟩) ?_
              simp -implicitDefEqProofs only [go_sem, Nat.reduceBEq, Nat.reduceAdd, Nat.reduceSub, Nat.reduceMul, Nat.reduceLeDiff, reduceCtorEq, ↓reduceIte, Int.reduceLT, Int.reduceLE, Int.reduceEq, Int.reduceNe]
              refine s_ldg0 (fun he => by first | exact he | rfl | simp_all) (fun _ => hca _ (by simp)) (by simp) (by simp) ?_
              simp -implicitDefEqProofs only [go_sem, Nat.reduceBEq, Nat.reduceAdd, Nat.reduceSub, Nat.reduceMul, Nat.reduceLeDiff, reduceCtorEq, ↓reduceIte, Int.reduceLT, Int.reduceLE, Int.reduceEq, Int.reduceNe]
              refine s_idxg (fun he => ⟨by first | exact he | rfl | simp_all, by first | exact he | rfl | simp_all, rfl, by omega, by omega⟩) ?_
              simp -implicitDefEqProofs only [go_sem, Nat.reduceBEq, Nat.reduceAdd, Nat.reduceSub, Nat.reduceMul, Nat.reduceLeDiff, reduceCtorEq, ↓reduceIte, Int.reduceLT, Int.reduceLE, Int.reduceEq, Int.reduceNe]
              refine s_ldg0 (fun he => by first | exact he | rfl | simp_all) (fun _ => cac _ (by simp)) (by simp) (by simp) ?_
              simp -implicitDefEqProofs only [go_sem, Nat.reduceBEq, Nat.reduceAdd, Nat.reduceSub, Nat.reduceMul, Nat.reduceLeDiff, reduceCtorEq, ↓reduceIte, Int.reduceLT, Int.reduceLE, Int.reduceEq, Int.reduceNe]
              refine ⟨by intros; simp_all, ?_⟩
              refine s_idx rfl (by omega) (by omega) ?_
              simp -implicitDefEqProofs only [go_sem, Nat.reduceBEq, Nat.reduceAdd, Nat.reduceSub, Nat.reduceMul, Nat.reduceLeDiff, reduceCtorEq, ↓reduceIte, Int.reduceLT, Int.reduceLE, Int.reduceEq, Int.reduceNe]
              refine s_storeA (ix := 0) (α := Bool) _ rfl hAb (i := c') (by omega) ?_
              intro g' hA' ho'
              have hG' := hput g' _ hA' (by simp) ho'
              rw [← mset2_eq hsq (by omega), ← m1, ← m2, ← m3] at hG'
              simp -implicitDefEqProofs only [go_sem, Nat.reduceBEq, Nat.reduceAdd, Nat.reduceSub, Nat.reduceMul, Nat.reduceLeDiff, reduceCtorEq, ↓reduceIte, Int.reduceLT, Int.reduceLE, Int.reduceEq, Int.reduceNe]
              simp (disch := omega) only [wrap_id]
              exact ⟨f3 - 1, by omega, Up.here ⟨c' + 1, _, rfl, rfl, by omega, by rw [← Nat.add_assoc, hnext]; exact hG'⟩⟩
            · have hc : c' = N := by omega
              rw [hc] at hG
              simp (disch := omega) only [wrap_id]
              refine ⟨f2 - 1, by omega, Up.here ⟨b' + 1, _, rfl, rfl, by omega, ?_⟩⟩
              rw [show (a * N + (b' + 1)) * N = (a * N + b') * N + N by rw [← Nat.add_assoc, Nat.add_mul _ 1, Nat.one_mul]]
              exact hG
          · have hb : b' = N := by omega
            rw [hb] at hG
            simp (disch := omega) only [wrap_id]
            refine ⟨f1 - 1, by omega, Up.here ⟨a + 1, _, rfl, rfl, by omega, ?_⟩⟩
            rw [show (a + 1) * N * N = (a * N + N) * N by rw [Nat.add_mul a 1, Nat.one_mul]]
            exact hG
        · have ha : a = N := by omega
          rw [ha] at hG
          have hQ := wN_sq hS0 (N * N * N)
          have hQm : ∀ x, mat (wN W N (N * N * N)) x x = true ↔ CycK g H x k := fun x => by
            rw [wN_iff hS0]
            unfold CycK
            rw [hN']
            exact ⟨pathK_cong fun x y => (hW x y).1, pathK_cong fun x y => (hW x y).2⟩
          generalize wN W N (N * N * N) = Q at *
          have hQl := hQ.len
          refine s_loop (fun f1 vs Γ => ∃ (a : Nat) (gl : PH) (L2 : List (List Bool)), vs = [.v true (.int .i64 a)] ∧ Γ = [gW, gl] ∧ a + f1 = N ∧ Grid gl t.bl 22 4 L2 ∧ Shp N (n + 1) L2 ∧ ∀ x y, mat L2 x y = if y = k ∧ x < a then mat Q x x else mat L x y) N
            (Up.here ⟨0, gl, L, rfl, rfl, by omega, hGl, hSL, fun x y => by rw [if_neg (by omega)]⟩) ?_
          clear hGl
          rintro f1 vs Γ ⟨a, gl, L2, rfl, rfl, haf, hGl, hSL2, hm2⟩
          simp -implicitDefEqProofs only [S149_4, go_sem, Nat.reduceBEq, Nat.reduceAdd, Nat.reduceSub, Nat.reduceMul, Nat.reduceLeDiff, reduceCtorEq, ↓reduceIte, Int.reduceLT, Int.reduceLE, Int.reduceEq, Int.reduceNe]
          refine ⟨fun hlt => ?_, fun hge => ?_⟩
          · have ha : a < N := by omega
            have hLl := hSL2.1
            have hLr := hSL2.at' (i := a) (by omega)
            have hQr := hQ.at' (b := a) (by omega)
            obtain ⟨kl, hcl, hAl, hpl⟩ := hGl.at' (i := a) (by omega) (by omega)
            rw [hLr] at hcl
            obtain ⟨kq, hcq, hAq, _⟩ := hG.at' (i := a) (by omega) (by omega)
            rw [hQr] at hcq
            have m1 : mat Q a a = Q[a][a] := mat_at (by omega) (by omega)
            refine s_ld (j := 6) (cells_lk (lk_r [gW, gl] _ _ _ hT.out)) (by simp [Tb.cells]) (by simp) ?_
            simp -implicitDefEqProofs only [Tb.cells, go_sem, Nat.reduceBEq, Nat.reduceAdd, Nat.reduceSub, Nat.reduceMul, Nat.reduceLeDiff, reduceCtorEq, ↓reduceIte, Int.reduceLT, Int.reduceLE, Int.reduceEq, Int.reduceNe]
            rw [hN']
            refine s_idx rfl (by omega) (by omega) ?_
            simp -implicitDefEqProofs only [go_sem, Nat.reduceBEq, Nat.reduceAdd, Nat.reduceSub, Nat.reduceMul, Nat.reduceLeDiff, reduceCtorEq, ↓reduceIte, Int.reduceLT, Int.reduceLE, Int.reduceEq, Int.reduceNe]
            refine s_ld0 (by simpa using hcl _ (by simp)) (by simp) (by simp) ?_
            simp -implicitDefEqProofs only [go_sem, Nat.reduceBEq, Nat.reduceAdd, Nat.reduceSub, Nat.reduceMul, Nat.reduceLeDiff, reduceCtorEq, ↓reduceIte, Int.reduceLT, Int.reduceLE, Int.reduceEq, Int.reduceNe]
            refine s_idx rfl (by omega) (by omega) ?_
            simp -implicitDefEqProofs only [go_sem, Nat.reduceBEq, Nat.reduceAdd, Nat.reduceSub, Nat.reduceMul, Nat.reduceLeDiff, reduceCtorEq, ↓reduceIte, Int.reduceLT, Int.reduceLE, Int.reduceEq, Int.reduceNe]
            refine s_ld0 (by simpa using hcq _ (by simp)) (by simp) (by simp) ?_
            simp -implicitDefEqProofs only [go_sem, Nat.reduceBEq, Nat.reduceAdd, Nat.reduceSub, Nat.reduceMul, Nat.reduceLeDiff, reduceCtorEq, ↓reduceIte, Int.reduceLT, Int.reduceLE, Int.reduceEq, Int.reduceNe]
            refine s_idx rfl (by omega) (by omega) ?_
            simp -implicitDefEqProofs only [go_sem, Nat.reduceBEq, Nat.reduceAdd, Nat.reduceSub, Nat.reduceMul, Nat.reduceLeDiff, reduceCtorEq, ↓reduceIte, Int.reduceLT, Int.reduceLE, Int.reduceEq, Int.reduceNe]
            refine s_ld0 (hAq.bool (i := a) (by omega) (by simp)) (by simp) (by simp) ?_
            simp -implicitDefEqProofs only [go_sem, Nat.reduceBEq, Nat.reduceAdd, Nat.reduceSub, Nat.reduceMul, Nat.reduceLeDiff, reduceCtorEq, ↓reduceIte, Int.reduceLT, Int.reduceLE, Int.reduceEq, Int.reduceNe]
            refine s_idx rfl (by omega) (by omega) ?_
            simp -implicitDefEqProofs only [go_sem, Nat.reduceBEq, Nat.reduceAdd, Nat.reduceSub, Nat.reduceMul, Nat.reduceLeDiff, reduceCtorEq, ↓reduceIte, Int.reduceLT, Int.reduceLE, Int.reduceEq, Int.reduceNe]
            refine s_storeA (ix := 1) (α := Bool) _ rfl hAl (i := k) (by omega) ?_
            intro g2 hA2 ho2
            have hG2 := hpl g2 _ hA2 (by simp) ho2
            have hm3 := mat_setS hSL2 (x := a) (y := k) (by omega) (by omega) Q[a][a]
            rw [show L2.getD a [] = L2[a] by simp [List.getD_eq_getElem?_getD, show a < L2.length by omega]] at hm3
            have hS3 : Shp N (n + 1) (L2.set a (L2[a].set k Q[a][a])) := hSL2.set a (by simp [hLr])
            simp -implicitDefEqProofs only [go_sem, Nat.reduceBEq, Nat.reduceAdd, Nat.reduceSub, Nat.reduceMul, Nat.reduceLeDiff, reduceCtorEq, ↓reduceIte, Int.reduceLT, Int.reduceLE, Int.reduceEq, Int.reduceNe]
            simp (disch := omega) only [wrap_id]
            refine ⟨f1 - 1, by omega, Up.here ⟨a + 1, g2, _, rfl, rfl, by omega, hG2, hS3, fun x y => ?_⟩⟩
            rw [hm3, hm2, ← m1]
            by_cases e1 : x = a ∧ y = k
            · obtain ⟨rfl, rfl⟩ := e1
              rw [if_pos ⟨rfl, rfl⟩, if_pos ⟨rfl, by omega⟩]
            · rw [if_neg e1]
              by_cases e2 : y = k ∧ x < a
              · rw [if_pos e2, if_pos ⟨e2.1, by omega⟩]
              · rw [if_neg e2, if_neg (by omega)]
          · have hae : a = N := by omega
            rw [hae] at hm2
            simp (disch := omega) only [wrap_id]
            refine ⟨f - 1, by omega, Up.skip (Up.here ⟨k + 1, gl, L2, rfl, rfl, by omega, hGl, hSL2, fun x y hy => ?_, fun x y hy => ?_⟩)⟩
            · rw [hm2]
              by_cases e : y = k ∧ x < N
              · rw [if_pos e, e.1]
                exact hQm x
              · rw [if_neg e]
                by_cases e' : y = k
                · subst e'
                  rw [hno x y (Nat.le_refl _)]
                  refine ⟨fun h => (by cases h), fun h => ?_⟩
                  have := (hQm x).2 h
                  have := (mat_lt hQ this).1
                  exact absurd ⟨rfl, this⟩ e
                · exact hcy x y (by omega)
            · rw [hm2, if_neg (by omega)]
              exact hno x y (by omega)
    · have hke : k = n + 1 := by omega
      have hcyc : LoopI g n H L := ⟨fun a k' h1 h2 => (hcy a k' (by omega)).2 h2, fun a k' h => by
        rcases Nat.lt_or_ge k' k with q | q
        · exact .inl ((hcy a k' q).1 h)
        · rw [hno a k' q] at h; cases h⟩
      clear hno hcy hke hge
      have hc0 := cntL_le hSL.2
      rw [hSL.1] at hc0
      refine s_loop (fun f vs Γ => ∃ (gl : PH) (L : List (List Bool)) (ag : Bool), vs = [.v true (.bool ag)] ∧ Γ = [gl] ∧ Grid gl t.bl 22 4 L ∧ Shp N (n + 1) L ∧ LoopI g n H L ∧ f + cntL L = N * (n + 1) + (if ag then 1 else 0) ∧ (ag = false → DoneL g n H L g.rs.length)) (N * (n + 1) - cntL L + 1)
        (Up.here ⟨gl, L, true, rfl, rfl, hGl, hSL, hcyc, by simp; omega, fun h => by cases h⟩) ?_
      clear hGl hSL hcyc hc0 hkf
      rintro f2 vs Γ ⟨gl, L0, ag, rfl, rfl, hGl, hSL, hI, hf, hD⟩
      have hc0 := cntL_le hSL.2
      rw [hSL.1] at hc0
      cases ag with
      | false =>
        simp -implicitDefEqProofs only [S149_10, go_sem, Nat.reduceBEq, Nat.reduceAdd, Nat.reduceSub, Nat.reduceMul, Nat.reduceLeDiff, reduceCtorEq, ↓reduceIte, Int.reduceLT, Int.reduceLE, Int.reduceEq, Int.reduceNe]
        refine Up.here ?_
        subst hR
        exact ⟨gl, L0, rfl, hGl, hSL, hI, hD rfl⟩
      | true =>
        simp -implicitDefEqProofs only [S149_10, go_sem, Nat.reduceBEq, Nat.reduceAdd, Nat.reduceSub, Nat.reduceMul, Nat.reduceLeDiff, reduceCtorEq, ↓reduceIte, Int.reduceLT, Int.reduceLE, Int.reduceEq, Int.reduceNe]
        refine s_ld (j := 3) (cells_lk (lk_r [gl] _ _ _ hT.out)) (by simp [Tb.cells]) (by simp) ?_
        simp -implicitDefEqProofs only [Tb.cells, go_sem, Nat.reduceBEq, Nat.reduceAdd, Nat.reduceSub, Nat.reduceMul, Nat.reduceLeDiff, reduceCtorEq, ↓reduceIte, Int.reduceLT, Int.reduceLE, Int.reduceEq, Int.reduceNe]
        refine s_loop (fun f1 vs Γ => ∃ (gl : PH) (L : List (List Bool)) (ag : Bool) (i : Nat), vs = [.v true (.bool ag), .v true (.int .i64 (i : Int))] ∧ Γ = [gl] ∧ i + f1 = g.rs.length ∧ Grid gl t.bl 22 4 L ∧ Shp N (n + 1) L ∧ LoopI g n H L ∧ cntL L0 + (if ag then 1 else 0) ≤ cntL L ∧ (ag = false → DoneL g n H L i)) g.rs.length
          (Up.here ⟨gl, L0, false, 0, rfl, rfl, by omega, hGl, hSL, hI, by simp, fun _ i _ h => by omega⟩) ?_
        clear hGl hSL hI hD
        rintro f1 vs Γ ⟨gl, L1, ag, i, rfl, rfl, hif, hGl, hSL, hI, hc1, hD1⟩
        have hcc := cntL_le hSL.2
        rw [hSL.1] at hcc
        simp -implicitDefEqProofs only [S149_9, go_sem, Nat.reduceBEq, Nat.reduceAdd, Nat.reduceSub, Nat.reduceMul, Nat.reduceLeDiff, reduceCtorEq, ↓reduceIte, Int.reduceLT, Int.reduceLE, Int.reduceEq, Int.reduceNe]
        refine ⟨fun hlt => ?_, fun hge => ?_⟩
        · have hi : i < g.rs.length := by omega
          obtain ⟨rows, hEi⟩ : ∃ rows, E[i]? = some rows := ⟨_, List.getElem?_eq_getElem (by rw [hEI.1]; exact hi)⟩
          have hri := List.getElem?_eq_getElem hi
          obtain ⟨hSr, hSo⟩ := hEI.2 i _ _ hEi hri
          obtain ⟨hCr, _⟩ := hED i _ _ hi hEi hri
          obtain ⟨b0, o0, h0, A1, c1, hr1, hcr⟩ := hT.rs.ru hi
          have hleft := V.left _ (List.getElem_mem hi)
          have hless := fun (L : List (List Bool)) (hSL : Shp g.ns.toNat (n + 1) L) (k : Nat) (hk : k ≤ n) (Γ' : Ctx) (hl : Mem.le (lk Γr) (lk Γ')) (hL : SlOk (lk Γ') (some ⟨t.bl, 0, none⟩) g.ns.toNat L) => tab_endless V (by rw [hN']; exact hS) hSL hn hi hEi hSr hSo hCr g.rs[i].r.length 0 k (by omega) hk (hT.mono hl) (by rw [hN']; exact hH.mono hl) hL hE (hle.trans hl)
          rw [hN'] at hless
          generalize hrr : g.rs[i] = r at *
          obtain ⟨a, ha⟩ : ∃ a : Nat, r.l = a := ⟨r.l.toNat, by omega⟩
          have hat : r.l.toNat = a := by omega
          refine s_idx h0 (by omega) (by omega) ?_
          simp -implicitDefEqProofs only [go_sem, Nat.reduceBEq, Nat.reduceAdd, Nat.reduceSub, Nat.reduceMul, Nat.reduceLeDiff, reduceCtorEq, ↓reduceIte, Int.reduceLT, Int.reduceLE, Int.reduceEq, Int.reduceNe]
          refine s_ld0 (by simpa using hcr _ (lk_r [gl] _)) (by simp) (by simp) ?_
          simp -implicitDefEqProofs only [go_sem, Nat.reduceBEq, Nat.reduceAdd, Nat.reduceSub, Nat.reduceMul, Nat.reduceLeDiff, reduceCtorEq, ↓reduceIte, Int.reduceLT, Int.reduceLE, Int.reduceEq, Int.reduceNe]
          intro bx
          refine s_ld (j := 4) (cells_lk (lk_r [gl] _ _ _ hT.out)) (by simp [Tb.cells]) (by simp) ?_
          simp -implicitDefEqProofs only [Tb.cells, go_sem, Nat.reduceBEq, Nat.reduceAdd, Nat.reduceSub, Nat.reduceMul, Nat.reduceLeDiff, reduceCtorEq, ↓reduceIte, Int.reduceLT, Int.reduceLE, Int.reduceEq, Int.reduceNe]
          simp (disch := omega) only [wrap_id]
          refine s_loop (fun f3 vs Γ => ∃ (gl : PH) (L : List (List Bool)) (ag : Bool) (k : Nat), vs = [.v true (.bool ag), .v true (.int .i64 (k : Int))] ∧ Γ = [gl] ∧ k + f3 = n + 1 ∧ Grid gl t.bl 22 4 L ∧ Shp N (n + 1) L ∧ LoopI g n H L ∧ cntL L0 + (if ag then 1 else 0) ≤ cntL L ∧ (ag = false → DoneL g n H L i ∧ ∀ k', k' < k → LessP H L r.r k' → mat L a k' = true)) (n + 1)
            (Up.here ⟨gl, L1, ag, 0, rfl, rfl, by omega, hGl, hSL, hI, hc1, fun h => ⟨hD1 h, fun k' h => by omega⟩⟩) ?_
          clear hGl hSL hI hc1 hD1 hcc
          rintro f3 vs Γ ⟨gl, L1, ag, k, rfl, rfl, hkf, hGl, hSL, hI, hc1, hD1⟩
          simp -implicitDefEqProofs only [S149_8, go_sem, Nat.reduceBEq, Nat.reduceAdd, Nat.reduceSub, Nat.reduceMul, Nat.reduceLeDiff, reduceCtorEq, ↓reduceIte, Int.reduceLT, Int.reduceLE, Int.reduceEq, Int.reduceNe]
          refine ⟨fun hlt => ?_, fun hge => ?_⟩
          · have hk : k ≤ n := by omega
            have hLl := hSL.1
            have hLr := hSL.at' (i := a) (by omega)
            obtain ⟨kl, hcl, hAl, hpl⟩ := hGl.at' (i := a) (by omega) (by omega)
            rw [hLr] at hcl
            have hgl := mat_get (List.getElem?_eq_getElem (show a < L1.length by omega)) (show k < L1[a].length by omega)
            have hnext : (LessP H L1 r.r k → mat L1 a k = true) → ag = false → DoneL g n H L1 i ∧ ∀ k', k' < k + 1 → LessP H L1 r.r k' → mat L1 a k' = true := by
              intro q h
              obtain ⟨q1, q2⟩ := hD1 h
              refine ⟨q1, fun k' w1 w2 => ?_⟩
              rcases Nat.lt_or_ge k' k with e | e
              · exact q2 k' e w2
              · have : k' = k := by omega
                subst this
                exact q w2
            refine s_split ?_
            simp -implicitDefEqProofs only [S149_6, go_sem, Nat.reduceBEq, Nat.reduceAdd, Nat.reduceSub, Nat.reduceMul, Nat.reduceLeDiff, reduceCtorEq, ↓reduceIte, Int.reduceLT, Int.reduceLE, Int.reduceEq, Int.reduceNe]
            refine s_ld (j := 6) (cells_lk (lk_r [gl] _ _ _ hT.out)) (by simp [Tb.cells]) (by simp) ?_
            simp -implicitDefEqProofs only [Tb.cells, go_sem, Nat.reduceBEq, Nat.reduceAdd, Nat.reduceSub, Nat.reduceMul, Nat.reduceLeDiff, reduceCtorEq, ↓reduceIte, Int.reduceLT, Int.reduceLE, Int.reduceEq, Int.reduceNe]
            rw [hN', ha]
            refine s_idx rfl (by omega) (by omega) ?_
            simp -implicitDefEqProofs only [go_sem, Nat.reduceBEq, Nat.reduceAdd, Nat.reduceSub, Nat.reduceMul, Nat.reduceLeDiff, reduceCtorEq, ↓reduceIte, Int.reduceLT, Int.reduceLE, Int.reduceEq, Int.reduceNe]
            refine s_ld0 (by simpa using hcl _ (by simp)) (by simp) (by simp) ?_
            simp -implicitDefEqProofs only [go_sem, Nat.reduceBEq, Nat.reduceAdd, Nat.reduceSub, Nat.reduceMul, Nat.reduceLeDiff, reduceCtorEq, ↓reduceIte, Int.reduceLT, Int.reduceLE, Int.reduceEq, Int.reduceNe]
            refine s_idx rfl (by omega) (by omega) ?_
            simp -implicitDefEqProofs only [go_sem, Nat.reduceBEq, Nat.reduceAdd, Nat.reduceSub, Nat.reduceMul, Nat.reduceLeDiff, reduceCtorEq, ↓reduceIte, Int.reduceLT, Int.reduceLE, Int.reduceEq, Int.reduceNe]
            refine s_ld0 (hAl.bool (i := k) (by omega) (by simp)) (by simp) (by simp) ?_
            generalize hv1 : L1[a][k] = v1 at hgl
            cases v1 with
            | true =>
              simp -implicitDefEqProofs only [S149_7, go_sem, Nat.reduceBEq, Nat.reduceAdd, Nat.reduceSub, Nat.reduceMul, Nat.reduceLeDiff, reduceCtorEq, ↓reduceIte, Int.reduceLT, Int.reduceLE, Int.reduceEq, Int.reduceNe]
              refine ⟨.bool false, ?_⟩
              simp -implicitDefEqProofs only [go_sem, Nat.reduceBEq, Nat.reduceAdd, Nat.reduceSub, Nat.reduceMul, Nat.reduceLeDiff, reduceCtorEq, ↓reduceIte, Int.reduceLT, Int.reduceLE, Int.reduceEq, Int.reduceNe]
              simp (disch := omega) only [wrap_id]
              exact Up.here ⟨f3 - 1, by omega, Up.here ⟨gl, L1, ag, k + 1, rfl, rfl, by omega, hGl, hSL, hI, hc1, hnext fun _ => hgl⟩⟩
            | false =>
              simp -implicitDefEqProofs only [go_sem, Nat.reduceBEq, Nat.reduceAdd, Nat.reduceSub, Nat.reduceMul, Nat.reduceLeDiff, reduceCtorEq, ↓reduceIte, Int.reduceLT, Int.reduceLE, Int.reduceEq, Int.reduceNe]
              refine CallVC.read (hless L1 hSL k hk ([gl] ++ Γr) (lk_r [gl] _) (by have := hGl.slok (L := lk ([gl] ++ Γr)) (lk_l [gl] Γr); rwa [hLl] at this)) ?_
              rintro v Γ' ⟨rfl, b, rfl, hb⟩
              cases b with
              | false =>
                simp -implicitDefEqProofs only [S149_7, go_sem, Nat.reduceBEq, Nat.reduceAdd, Nat.reduceSub, Nat.reduceMul, Nat.reduceLeDiff, reduceCtorEq, ↓reduceIte, Int.reduceLT, Int.reduceLE, Int.reduceEq, Int.reduceNe]
                simp (disch := omega) only [wrap_id]
                exact Up.here ⟨f3 - 1, by omega, Up.here ⟨gl, L1, ag, k + 1, rfl, rfl, by omega, hGl, hSL, hI, hc1, hnext fun h => by have := hb.2 h; cases this⟩⟩
              | true =>
                simp -implicitDefEqProofs only [go_sem, Nat.reduceBEq, Nat.reduceAdd, Nat.reduceSub, Nat.reduceMul, Nat.reduceLeDiff, reduceCtorEq, ↓reduceIte, Int.reduceLT, Int.reduceLE, Int.reduceEq, Int.reduceNe]
                refine s_ld (j := 6) (cells_lk (lk_r [gl] _ _ _ hT.out)) (by simp [Tb.cells]) (by simp) ?_
                simp -implicitDefEqProofs only [Tb.cells, go_sem, Nat.reduceBEq, Nat.reduceAdd, Nat.reduceSub, Nat.reduceMul, Nat.reduceLeDiff, reduceCtorEq, ↓reduceIte, Int.reduceLT, Int.reduceLE, Int.reduceEq, Int.reduceNe]
                rw [hN']
                refine s_idx rfl (by omega) (by omega) ?_
                simp -implicitDefEqProofs only [go_sem, Nat.reduceBEq, Nat.reduceAdd, Nat.reduceSub, Nat.reduceMul, Nat.reduceLeDiff, reduceCtorEq, ↓reduceIte, Int.reduceLT, Int.reduceLE, Int.reduceEq, Int.reduceNe]
                refine s_ld0 (by simpa using hcl _ (by simp)) (by simp) (by simp) ?_
                simp -implicitDefEqProofs only [go_sem, Nat.reduceBEq, Nat.reduceAdd, Nat.reduceSub, Nat.reduceMul, Nat.reduceLeDiff, reduceCtorEq, ↓reduceIte, Int.reduceLT, Int.reduceLE, Int.reduceEq, Int.reduceNe]
                refine s_idx rfl (by omega) (by omega) ?_
                simp -implicitDefEqProofs only [go_sem, Nat.reduceBEq, Nat.reduceAdd, Nat.reduceSub, Nat.reduceMul, Nat.reduceLeDiff, reduceCtorEq, ↓reduceIte, Int.reduceLT, Int.reduceLE, Int.reduceEq, Int.reduceNe]
                refine s_storeA (ix := 0) (α := Bool) true rfl hAl (i := k) (by omega) ?_
                intro g2 hA2 ho2
                have hG2 := hpl g2 _ hA2 (by simp) ho2
                have hm2 := mat_setS hSL (x := a) (y := k) (by omega) (by omega) true
                rw [show L1.getD a [] = L1[a] by simp [List.getD_eq_getElem?_getD, show a < L1.length by omega]] at hm2
                have hS2 : Shp N (n + 1) (L1.set a (L1[a].set k true)) := hSL.set a (by simp [hLr])
                have hct : cntL (L1.set a (L1[a].set k true)) = cntL L1 + 1 := cntL_set (by omega) (count_set (by omega) hv1)
                have hmo : MonoH L1 (L1.set a (L1[a].set k true)) := fun x y q => by rw [hm2]; split <;> simp_all
                simp -implicitDefEqProofs only [S149_7, go_sem, Nat.reduceBEq, Nat.reduceAdd, Nat.reduceSub, Nat.reduceMul, Nat.reduceLeDiff, reduceCtorEq, ↓reduceIte, Int.reduceLT, Int.reduceLE, Int.reduceEq, Int.reduceNe]
                simp (disch := omega) only [wrap_id]
                refine Up.here ⟨f3 - 1, by omega, Up.here ⟨g2, _, true, k + 1, rfl, rfl, by omega, hG2, hS2, ⟨fun x y h1 h2 => hmo _ _ (hI.cyc x y h1 h2), fun x y h => ?_⟩, ?_, fun h => by cases h⟩⟩
                · rw [hm2] at h
                  split at h
                  · rename_i e
                    obtain ⟨rfl, rfl⟩ := e
                    refine .inr ⟨r, by rw [← hrr]; exact List.getElem_mem hi, ha, LessP.mono hmo (by simpa using hb.1 rfl)⟩
                  · rcases hI.snd x y h with q | ⟨r', q1, q2, q3⟩
                    · exact .inl q
                    · exact .inr ⟨r', q1, q2, q3.mono hmo⟩
                · rw [hct]
                  have : cntL L0 ≤ cntL L1 := by
                    revert hc1
                    cases ag <;> simp <;> omega
                  simp
                  omega
          · have hke : k = n + 1 := by omega
            subst hke
            simp (disch := omega) only [wrap_id]
            refine ⟨f1 - 1, by omega, Up.here ⟨gl, L1, ag, i + 1, rfl, rfl, by omega, hGl, hSL, hI, hc1, fun h j r' h1 h2 k' h3 h4 => ?_⟩⟩
            obtain ⟨q1, q2⟩ := hD1 h
            by_cases e : j = i
            · subst e
              rw [hri] at h2
              cases h2
              rw [hat]
              exact q2 k' (by omega) h4
            · exact q1 j r' (by omega) h2 k' h3 h4
        · have hie : i = g.rs.length := by omega
          subst hie
          refine ⟨N * (n + 1) + (if ag then 1 else 0) - cntL L1, ?_, Up.here ⟨gl, L1, ag, rfl, rfl, hGl, hSL, hI, ?_, hD1⟩⟩
          · revert hc1 hf
            cases ag <;> simp <;> omega
          · omega
end Go.Proofs.Ytniobbepliknmaa.V
/- The text of (*parlance/census.table).count as a statement (slots: 0 t, 1 a, 2 k, 3 t, 4 a, 5 k, 7 sum, 8 i, 9 r); no condition. -/
namespace Go.Proofs.Ytniobbepliknmaa.V
open Go
def S150_1 : Stmt :=
 .block 2
 (.seq
 (.region
 [.mk (some 63) none (.mv (.tmp 61)),
 .mk (some 64) none (.idx 2 (.tmp 59) (.tmp 61)),
 .mk (some 65) none (.load true 2 (.tmp 64)),
 .mk (some 9) none
 (.alloc true 37 (.agg (Array.mk [.int .i64 0,.slice none 0 0]))),
 .mk (some 8) none (.mv (.tmp 63)),
 .mk none none (.store 2 (.tmp 9) (.tmp 65))]
 [0,1,2,7,8,9,59,60,61])
 (.seq
 (.region
 [.mk (some 66) none (.fld 0 (.tmp 9)),
 .mk (some 67) none (.load false 1 (.tmp 66)),.mk (some 68) none (.mv (.tmp 1)),
 .mk (some 69) none (.ibin .eql (.tmp 67) (.tmp 68))]
 [0,1,2,7,8,59,60,61,69])
 (.cond (.tmp 69)
 (.region
 [.mk (some 70) none (.mv (.tmp 7)),.mk (some 71) none (.mv (.tmp 0)),
 .mk (some 72) none (.mv (.tmp 8)),.mk (some 73) none (.mv (.tmp 2)),
 .mk (some 74) none
 (.call (.func 189)
 [.tmp 71,.tmp 72,.const (.int .i64 0),.tmp 73]),
 .mk (some 75) none (.ibin .add (.tmp 70) (.tmp 74)),
 .mk (some 76) none (.fn Fk.min [.const (.int .i64 1000000000),.tmp 75]),
 .mk (some 7) none (.mv (.tmp 76))]
 [0,1,2,7,59,60,61])
 .skip)))
def S150_2 : Stmt :=
 .region
 [.mk (some 77) none (.ibin .add (.tmp 61) (.const (.int .i64 1))),
 .mk (some 61) none (.mv (.tmp 77))]
 [0,1,2,7,59,60,61]
def S150_3 : Stmt :=
 .seq
 (.region [.mk (some 62) none (.ibin .lss (.tmp 61) (.tmp 60))]
 [0,1,2,7,59,60,61,62])
 (.seq (.cond (.tmp 62) .skip (.exit 1)) (.join S150_1 S150_2 [7] [0,1,2,59,60,61]))
def S150_0 : Stmt :=
 .seq (.region [.mk (some 6) none (.mv (.const (.int .i64 0)))] [0,1,2])
 (.seq
 (.block 0
 (.seq
 (.region
 [.mk (some 11) none (.mv (.tmp 0)),.mk (some 12) none (.nilCheck (.tmp 11)),
 .mk (some 13) none (.fld 5 (.tmp 12)),
 .mk (some 14) none (.load false 1 (.tmp 13)),
 .mk (some 15) none (.mv (.tmp 1)),
 .mk (some 16) none (.idx 1 (.tmp 14) (.tmp 15)),
 .mk (some 17) none (.load false 1 (.tmp 16)),
 .mk (some 18) none (.mv (.tmp 2)),
 .mk (some 19) none (.idx 1 (.tmp 17) (.tmp 18)),
 .mk (some 20) none (.load false 1 (.tmp 19)),
 .mk (some 21) none (.un .not (.tmp 20)),
 .mk (some 10) none (.mv (.tmp 21))]
 [0,1,2,10])
 (.cond (.tmp 10)
 (.seq (.region [.mk (some 6) none (.mv (.const (.int .i64 0)))] [6])
 .ret)
 (.seq
 (.region
 [.mk (some 23) none (.mv (.tmp 0)),
 .mk (some 24) none (.nilCheck (.tmp 23)),
 .mk (some 25) none (.fld 6 (.tmp 24)),
 .mk (some 26) none (.load false 1 (.tmp 25)),
 .mk (some 27) none (.mv (.tmp 1)),
 .mk (some 28) none (.idx 1 (.tmp 26) (.tmp 27)),
 .mk (some 29) none (.load false 1 (.tmp 28)),
 .mk (some 30) none (.mv (.tmp 2)),
 .mk (some 31) none (.idx 1 (.tmp 29) (.tmp 30)),
 .mk (some 32) none (.load false 1 (.tmp 31)),
 .mk (some 22) none (.mv (.tmp 32))]
 [0,1,2,22])
 (.cond (.tmp 22)
 (.seq (.region [.mk (some 6) none (.mv (.const (.int .i64 (-1))))] [6])
 .ret)
 (.seq
 (.region
 [.mk (some 34) none (.mv (.tmp 0)),
 .mk (some 35) none (.nilCheck (.tmp 34)),
 .mk (some 36) none (.fld 7 (.tmp 35)),
 .mk (some 37) none (.load false 1 (.tmp 36)),
 .mk (some 38) none (.mv (.tmp 1)),
 .mk (some 39) none (.idx 1 (.tmp 37) (.tmp 38)),
 .mk (some 40) none (.load false 1 (.tmp 39)),
 .mk (some 41) none (.mv (.tmp 2)),
 .mk (some 42) none (.idx 1 (.tmp 40) (.tmp 41)),
 .mk (some 43) none (.load false 1 (.tmp 42)),
 .mk (some 44) none
 (.ibin .geq (.tmp 43) (.const (.int .i64 0))),
 .mk (some 33) none (.mv (.tmp 44))]
 [0,1,2,33])
 (.cond (.tmp 33)
 (.seq
 (.region
 [.mk (some 45) none (.mv (.tmp 0)),
 .mk (some 46) none (.nilCheck (.tmp 45)),
 .mk (some 47) none (.fld 7 (.tmp 46)),
 .mk (some 48) none (.load false 1 (.tmp 47)),
 .mk (some 49) none (.mv (.tmp 1)),
 .mk (some 50) none (.idx 1 (.tmp 48) (.tmp 49)),
 .mk (some 51) none (.load false 1 (.tmp 50)),
 .mk (some 52) none (.mv (.tmp 2)),
 .mk (some 53) none (.idx 1 (.tmp 51) (.tmp 52)),
 .mk (some 54) none (.load false 1 (.tmp 53)),
 .mk (some 6) none (.mv (.tmp 54))]
 [6])
 .ret)
 .skip)))))))
 (.seq (.region [.mk (some 7) none (.mv (.const (.int .i64 0)))] [0,1,2,7])
 (.seq
 (.seq
 (.region
 [.mk (some 55) none (.mv (.tmp 0)),.mk (some 56) none (.nilCheck (.tmp 55)),
 .mk (some 57) none (.fld 0 (.tmp 56)),
 .mk (some 58) none (.fld 3 (.tmp 57)),
 .mk (some 59) none (.load false 1 (.tmp 58)),
 .mk (some 60) none (.len false (.tmp 59)),
 .mk (some 61) none (.mv (.const (.int .i64 0)))]
 [0,1,2,7,59,60,61])
 (.block 1 (.loop S150_3 [7,61] [0,1,2,59,60])))
 (.seq
 (.region
 [.mk (some 78) none (.mv (.tmp 0)),.mk (some 79) none (.nilCheck (.tmp 78)),
 .mk (some 80) none (.fld 7 (.tmp 79)),
 .mk (some 81) none (.load false 1 (.tmp 80)),
 .mk (some 82) none (.mv (.tmp 1)),
 .mk (some 83) none (.idx 1 (.tmp 81) (.tmp 82)),
 .mk (some 84) none (.load false 1 (.tmp 83)),
 .mk (some 85) none (.mv (.tmp 2)),.mk (some 86) none (.mv (.tmp 7)),
 .mk (some 87) none (.idx 1 (.tmp 84) (.tmp 85)),
 .mk none none (.store 1 (.tmp 87) (.tmp 86))]
 [7])
 (.seq
 (.region
 [.mk (some 88) none (.mv (.tmp 7)),.mk (some 6) none (.mv (.tmp 88))] [6])
 .ret)))))
def S150 : FnS := ⟨89,[(6,none)],S150_0⟩
theorem tr150 : trFn Try.prog 150 [9] [[0,1,2],[0,1,2,10],[6],[0,1,2,22],[6],[0,1,2,33],[6],[0,1,2,7],[0,1,2,7,59,60,61],[7,61],[0,1,2,59,60],[0,1,2,7,59,60,61,62],[7],[0,1,2,59,60,61],[0,1,2,7,8,9,59,60,61],[0,1,2,7,8,59,60,61,69],[0,1,2,7,59,60,61],[0,1,2,7,59,60,61],[7],[6]] = some S150 := by kernel_rfl
end Go.Proofs.Ytniobbepliknmaa.V
/- The text of (*parlance/census.table).way as a statement (slots: 0 t, 1 i, 2 p, 3 k, 4 t, 5 i, 6 p, 7 k, 9 l, 10 sum, 11 j, 12 n); no condition. -/
namespace Go.Proofs.Ytniobbepliknmaa.V
open Go
def S189_1 : Stmt :=
 .seq
 (.region
 [.mk (some 102) none (.mv (.tmp 9)),.mk (some 103) none (.mv (.tmp 2)),
 .mk (some 104) none (.idx 2 (.tmp 102) (.tmp 103)),
 .mk (some 105) none (.fld 0 (.tmp 104)),
 .mk (some 106) none (.load false 1 (.tmp 105)),
 .mk (some 107) none (.un .not (.tmp 106))]
 [0,1,2,3,9,10,11,12,71,72,107])
 (.cond (.tmp 107)
 (.region
 [.mk (some 108) none (.mv (.tmp 0)),.mk (some 109) none (.mv (.tmp 9)),
 .mk (some 110) none (.mv (.tmp 2)),
 .mk (some 111) none (.idx 2 (.tmp 109) (.tmp 110)),
 .mk (some 112) none (.fld 1 (.tmp 111)),
 .mk (some 113) none (.load false 1 (.tmp 112)),
 .mk (some 114) none (.mv (.tmp 11)),
 .mk (some 115) none (.call (.func 150) [.tmp 108,.tmp 113,.tmp 114]),
 .mk (some 12) none (.mv (.tmp 115))]
 [0,1,2,3,9,10,11,12,71,72])
 .skip)
def S189_2 : Stmt :=
 .region
 [.mk (some 116) none (.mv (.tmp 10)),.mk (some 117) none (.mv (.tmp 12)),
 .mk (some 118) none (.mv (.tmp 0)),.mk (some 119) none (.mv (.tmp 1)),
 .mk (some 120) none (.mv (.tmp 2)),
 .mk (some 121) none (.ibin .add (.tmp 120) (.const (.int .i64 1))),
 .mk (some 122) none (.mv (.tmp 3)),.mk (some 123) none (.mv (.tmp 11)),
 .mk (some 124) none (.ibin .sub (.tmp 122) (.tmp 123)),
 .mk (some 125) none
 (.call (.func 189) [.tmp 118,.tmp 119,.tmp 121,.tmp 124]),
 .mk (some 126) none (.ibin .mul (.tmp 117) (.tmp 125)),
 .mk (some 127) none (.fn Fk.min [.const (.int .i64 1000000000),.tmp 126]),
 .mk (some 128) none (.ibin .add (.tmp 116) (.tmp 127)),
 .mk (some 129) none (.fn Fk.min [.const (.int .i64 1000000000),.tmp 128]),
 .mk (some 10) none (.mv (.tmp 129))]
 [0,1,2,3,9,10,71,72]
def S189_3 : Stmt :=
 .block 2
 (.seq
 (.region [.mk (some 74) none (.mv (.tmp 72)),.mk (some 11) none (.mv (.tmp 74))]
 [0,1,2,3,9,10,11,71,72])
 (.seq
 (.seq
 (.region
 [.mk (some 75) none (.mv (.tmp 0)),.mk (some 76) none (.mv (.tmp 9)),
 .mk (some 77) none (.mv (.tmp 2)),
 .mk (some 78) none (.idx 2 (.tmp 76) (.tmp 77)),
 .mk (some 79) none (.load true 2 (.tmp 78)),
 .mk (some 80) none (.mv (.tmp 11)),
 .mk (some 81) none (.call (.func 207) [.tmp 75,.tmp 79,.tmp 80]),
 .mk (some 82) none (.un .not (.tmp 81)),
 .mk (some 83) none (.mv (.tmp 82)),
 .mk (some 84) (some (83,false)) (.mv (.tmp 0)),
 .mk (some 85) (some (83,false)) (.nilCheck (.tmp 84)),
 .mk (some 86) (some (83,false)) (.fld 8 (.tmp 85)),
 .mk (some 87) (some (83,false)) (.load false 1 (.tmp 86)),
 .mk (some 88) (some (83,false)) (.mv (.tmp 1)),
 .mk (some 89) (some (83,false)) (.idx 1 (.tmp 87) (.tmp 88)),
 .mk (some 90) (some (83,false)) (.load false 1 (.tmp 89)),
 .mk (some 91) (some (83,false)) (.mv (.tmp 2)),
 .mk (some 92) (some (83,false))
 (.ibin .add (.tmp 91) (.const (.int .i64 1))),
 .mk (some 93) (some (83,false)) (.idx 1 (.tmp 90) (.tmp 92)),
 .mk (some 94) (some (83,false)) (.load false 1 (.tmp 93)),
 .mk (some 95) (some (83,false)) (.mv (.tmp 3)),
 .mk (some 96) (some (83,false)) (.mv (.tmp 11)),
 .mk (some 97) (some (83,false)) (.ibin .sub (.tmp 95) (.tmp 96)),
 .mk (some 98) (some (83,false)) (.idx 1 (.tmp 94) (.tmp 97)),
 .mk (some 99) (some (83,false)) (.load false 1 (.tmp 98)),
 .mk (some 100) (some (83,false)) (.un .not (.tmp 99)),
 .mk (some 101) none (.pick (.tmp 83) (.const (.bool true)) (.tmp 100))]
 [0,1,2,3,9,10,11,71,72,101])
 (.cond (.tmp 101) (.exit 2) .skip))
 (.seq
 (.region [.mk (some 12) none (.mv (.const (.int .i64 1)))]
 [0,1,2,3,9,10,11,12,71,72])
 (.join S189_1 S189_2 [12] [0,1,2,3,9,10,11,71,72]))))
def S189_4 : Stmt :=
 .region
 [.mk (some 130) none (.ibin .add (.tmp 72) (.const (.int .i64 1))),
 .mk (some 72) none (.mv (.tmp 130))]
 [0,1,2,3,9,10,71,72]
def S189_5 : Stmt :=
 .seq
 (.region [.mk (some 73) none (.ibin .lss (.tmp 72) (.tmp 71))]
 [0,1,2,3,9,10,71,72,73])
 (.seq (.cond (.tmp 73) .skip (.exit 1)) (.join S189_3 S189_4 [10] [0,1,2,3,9,71,72]))
def S189_0 : Stmt :=
 .seq (.region [.mk (some 8) none (.mv (.const (.int .i64 0)))] [0,1,2,3])
 (.seq
 (.region
 [.mk (some 13) none (.mv (.tmp 0)),.mk (some 14) none (.nilCheck (.tmp 13)),
 .mk (some 15) none (.fld 0 (.tmp 14)),.mk (some 16) none (.fld 3 (.tmp 15)),
 .mk (some 17) none (.load false 1 (.tmp 16)),.mk (some 18) none (.mv (.tmp 1)),
 .mk (some 19) none (.idx 2 (.tmp 17) (.tmp 18)),
 .mk (some 20) none (.fld 1 (.tmp 19)),
 .mk (some 21) none (.load false 1 (.tmp 20)),.mk (some 9) none (.mv (.tmp 21))]
 [0,1,2,3,9])
 (.seq
 (.block 0
 (.seq
 (.region
 [.mk (some 23) none (.mv (.tmp 0)),.mk (some 24) none (.nilCheck (.tmp 23)),
 .mk (some 25) none (.fld 8 (.tmp 24)),
 .mk (some 26) none (.load false 1 (.tmp 25)),
 .mk (some 27) none (.mv (.tmp 1)),
 .mk (some 28) none (.idx 1 (.tmp 26) (.tmp 27)),
 .mk (some 29) none (.load false 1 (.tmp 28)),
 .mk (some 30) none (.mv (.tmp 2)),
 .mk (some 31) none (.idx 1 (.tmp 29) (.tmp 30)),
 .mk (some 32) none (.load false 1 (.tmp 31)),
 .mk (some 33) none (.mv (.tmp 3)),
 .mk (some 34) none (.idx 1 (.tmp 32) (.tmp 33)),
 .mk (some 35) none (.load false 1 (.tmp 34)),
 .mk (some 36) none (.un .not (.tmp 35)),
 .mk (some 22) none (.mv (.tmp 36))]
 [0,1,2,3,9,22])
 (.cond (.tmp 22)
 (.seq (.region [.mk (some 8) none (.mv (.const (.int .i64 0)))] [8])
 .ret)
 (.seq
 (.region
 [.mk (some 38) none (.mv (.tmp 2)),.mk (some 39) none (.mv (.tmp 9)),
 .mk (some 40) none (.len false (.tmp 39)),
 .mk (some 41) none (.ibin .eql (.tmp 38) (.tmp 40)),
 .mk (some 37) none (.mv (.tmp 41))]
 [0,1,2,3,9,37])
 (.cond (.tmp 37)
 (.seq (.region [.mk (some 8) none (.mv (.const (.int .i64 1)))] [8])
 .ret)
 (.seq
 (.region
 [.mk (some 43) none (.mv (.tmp 0)),
 .mk (some 44) none (.nilCheck (.tmp 43)),
 .mk (some 45) none (.fld 9 (.tmp 44)),
 .mk (some 46) none (.load false 1 (.tmp 45)),
 .mk (some 47) none (.mv (.tmp 1)),
 .mk (some 48) none (.idx 1 (.tmp 46) (.tmp 47)),
 .mk (some 49) none (.load false 1 (.tmp 48)),
 .mk (some 50) none (.mv (.tmp 2)),
 .mk (some 51) none (.idx 1 (.tmp 49) (.tmp 50)),
 .mk (some 52) none (.load false 1 (.tmp 51)),
 .mk (some 53) none (.mv (.tmp 3)),
 .mk (some 54) none (.idx 1 (.tmp 52) (.tmp 53)),
 .mk (some 55) none (.load false 1 (.tmp 54)),
 .mk (some 56) none
 (.ibin .geq (.tmp 55) (.const (.int .i64 0))),
 .mk (some 42) none (.mv (.tmp 56))]
 [0,1,2,3,9,42])
 (.cond (.tmp 42)
 (.seq
 (.region
 [.mk (some 57) none (.mv (.tmp 0)),
 .mk (some 58) none (.nilCheck (.tmp 57)),
 .mk (some 59) none (.fld 9 (.tmp 58)),
 .mk (some 60) none (.load false 1 (.tmp 59)),
 .mk (some 61) none (.mv (.tmp 1)),
 .mk (some 62) none (.idx 1 (.tmp 60) (.tmp 61)),
 .mk (some 63) none (.load false 1 (.tmp 62)),
 .mk (some 64) none (.mv (.tmp 2)),
 .mk (some 65) none (.idx 1 (.tmp 63) (.tmp 64)),
 .mk (some 66) none (.load false 1 (.tmp 65)),
 .mk (some 67) none (.mv (.tmp 3)),
 .mk (some 68) none (.idx 1 (.tmp 66) (.tmp 67)),
 .mk (some 69) none (.load false 1 (.tmp 68)),
 .mk (some 8) none (.mv (.tmp 69))]
 [8])
 .ret)
 .skip)))))))
 (.seq
 (.region [.mk (some 10) none (.mv (.const (.int .i64 0)))] [0,1,2,3,9,10])
 (.seq
 (.seq
 (.region
 [.mk (some 70) none (.mv (.tmp 3)),
 .mk (some 71) none (.ibin .add (.tmp 70) (.const (.int .i64 1))),
 .mk (some 72) none (.mv (.const (.int .i64 0)))]
 [0,1,2,3,9,10,71,72])
 (.block 1 (.loop S189_5 [10,72] [0,1,2,3,9,71])))
 (.seq
 (.region
 [.mk (some 131) none (.mv (.tmp 0)),
 .mk (some 132) none (.nilCheck (.tmp 131)),
 .mk (some 133) none (.fld 9 (.tmp 132)),
 .mk (some 134) none (.load false 1 (.tmp 133)),
 .mk (some 135) none (.mv (.tmp 1)),
 .mk (some 136) none (.idx 1 (.tmp 134) (.tmp 135)),
 .mk (some 137) none (.load false 1 (.tmp 136)),
 .mk (some 138) none (.mv (.tmp 2)),
 .mk (some 139) none (.idx 1 (.tmp 137) (.tmp 138)),
 .mk (some 140) none (.load false 1 (.tmp 139)),
 .mk (some 141) none (.mv (.tmp 3)),.mk (some 142) none (.mv (.tmp 10)),
 .mk (some 143) none (.idx 1 (.tmp 140) (.tmp 141)),
 .mk none none (.store 1 (.tmp 143) (.tmp 142))]
 [10])
 (.seq
 (.region
 [.mk (some 144) none (.mv (.tmp 10)),.mk (some 8) none (.mv (.tmp 144))]
 [8])
 .ret))))))
def S189 : FnS := ⟨145,[(8,none)],S189_0⟩
theorem tr189 : trFn Try.prog 189 [] [[0,1,2,3],[0,1,2,3,9],[0,1,2,3,9,22],[8],[0,1,2,3,9,37],[8],[0,1,2,3,9,42],[8],[0,1,2,3,9,10],[0,1,2,3,9,10,71,72],[10,72],[0,1,2,3,9,71],[0,1,2,3,9,10,71,72,73],[10],[0,1,2,3,9,71,72],[0,1,2,3,9,10,11,71,72],[0,1,2,3,9,10,11,71,72,101],[0,1,2,3,9,10,11,12,71,72],[12],[0,1,2,3,9,10,11,71,72],[0,1,2,3,9,10,11,12,71,72,107],[0,1,2,3,9,10,11,12,71,72],[0,1,2,3,9,10,71,72],[0,1,2,3,9,10,71,72],[10],[8]] = some S189 := by kernel_rfl
end Go.Proofs.Ytniobbepliknmaa.V
namespace Go.Proofs.Ytniobbepliknmaa.V
open Go
set_option linter.unusedVariables false
set_option linter.unusedSimpArgs false
/- census: count and way walked; no condition. -/
attribute [local go_sem] e_seq e_region e_quiet e_join e_loop e_cond e_block e_exit e_ret e_skip e_fin e_kseq e_snrm e_sret e_sex e_bnrm e_bret e_bex e_rnrm e_rret e_res e_condC e_nil e_g e_mv g_mv e_pick g_pick pickC_eq e_ibin g_ibin ibinC_eq e_sbin g_sbin e_beq g_beq beqC_eq e_nilq g_nilq nilqC_sl nilqC_pt nilqC_mp e_un g_un unC_not unC_neg e_conv g_conv convC_eq e_fld g_fld fldC_ref fldC_ptr e_nilCheck g_nilCheck nilCheckC_ref nilCheckC_ptr nilCheckC_fun e_field g_field fieldC_eq e_len g_len lenC_sl lenC_str e_extract g_extract extractC_eq e_mkFunc e_build g_build e_idiv g_idiv idivC_eq e_ishift g_ishift ishiftC_eq e_idx g_idx e_idxA g_idxA e_load g_load e_loadB g_loadB atB_ref atB_v g_mkFunc loadC_ref loadC_ptr loadB_eq e_slc g_slc e_box boxC_loc boxC_esc e_alloc allocC_loc allocC_esc e_buildS e_store storeC_ref storeC_ptr storeB_eq e_append e_appz e_mk mkC_eq e_call callC_eq e_fn g_fn fnC_eq fnV_min' fnV_max' fnV_rune' e_q g_q e_a e_n g_call g_box g_alloc g_buildS g_store g_append g_mk g_a g_n g_dead e_dead e_callK e_drawn e_tree e_finJ e_tk e_tfin e_tno e_nbt_q e_nbt_qn e_nbt_a e_nbt_an e_nbt_fin e_drawnB e_bxb_nil e_bxb e_stB_none e_stB_some boxSt_store bs_mv bs_pick bs_ibin bs_idiv bs_ishift bs_sbin bs_beq bs_nilq bs_un bs_conv bs_box bs_alloc bs_build bs_buildS bs_load bs_fld bs_nilCheck bs_idx bs_idxA bs_field bs_slc bs_len bs_append bs_appz bs_mk bs_call bs_extract bs_mkFunc bs_fn bs_q bs_a bs_n bs_loadB bs_dead isBox_box e_early_nil e_early_t e_early_f e_nob_nil e_nob_none e_nob_some isBox_dead isBox_v isBox_ref e_dnil e_dk e_ek e_finB vcOps_vc1 e_dcons e_tq e_ekt e_tearly e_talt e_dearly look_nil look_c proj_nil proj_c looks_nil looks_c zip_nil zip_c val_tmp val_const val_func slv_v slv_box slv_ref slot_tmp slot_const slot_func slotL_v slotL_box slotL_ref put_some put_none updBox_c boxSet_box gd_eq slotVals_nil slotVals_c slotVals_b boxV_box boxOn_box slotsOn_nil slotsOn_c slotsOn_b resV_one resV_two vals_nil vals_c allOn_nil allOn_c partOn_nil partOn_c partVals_nil partVals_c fits_nil fits_c fillL_nil fillL_c mkv_one mkv_agg cellsV_agg cellsV_int cellsV_bool cellsV_slice cellsV_string cellsV_pointer cellsV_func cellsV_nilf cellsV_map one'_nil one'_c oc_int oc_bool oc_slice oc_string oc_pointer oc_func oc_nilf oc_map setC_eq iv_add iv_sub iv_mul iv_eql iv_neq iv_lss iv_leq iv_gtr iv_geq iok_add iok_sub iok_mul iok_eql iok_neq iok_lss iok_leq iok_gtr iok_geq pickV_bool args0_nil args0_c bnd_none bnd_some imp_bt imp_bf imp_ebt imp_ebf imp_eb1 imp_np imp_pp beq_tt beq_tf beq_ft beq_ff cond_or cond_and e_round e_meet Int.le_refl Int.toNat_zero decide_true decide_false Bool.or_false Bool.false_or Bool.true_or Bool.or_true Bool.and_false Bool.false_and Bool.bne_false Bool.bne_true beq_iff_eq Int.cast_ofNat_Int not_false_eq_true not_true_eq_false false_and and_false false_implies true_implies true_and and_true Bool.true_and Bool.and_true Bool.not_true Bool.not_false forall_const implies_true List.take_zero List.drop_zero List.take_succ_cons List.drop_succ_cons List.take_nil List.drop_nil List.length_cons List.length_nil List.nil_append List.append_nil List.cons_append Int.toNat_natCast decide_eq_true_eq decide_eq_false_iff_not cond_true cond_false and_self List.getElem?_cons_zero List.getElem?_cons_succ List.set_cons_zero List.set_cons_succ Option.some.injEq exists_eq_left' Nat.zero_add Nat.add_zero Nat.mul_one imp_self true_or or_true or_false false_or Bool.or_eq_true Bool.or_eq_false_iff Bool.and_eq_true Bool.and_eq_false_iff Bool.not_eq_true' Bool.not_eq_false'

theorem Arr.num {g : PH} {b : Nat} {T : TypeId} {xs : List Int} (h : Arr g b T xs) {i : Nat} (hi : i < xs.length) {Γ : Ctx} (hg : g ∈ Γ) : Cells Γ b i [.int .i64 xs[i]] := h.cell hi hg
def capN (x : Nat) : Nat := min x 1000000000
theorem capN_le (x : Nat) : capN x ≤ 1000000000 := Nat.min_le_right _ _
theorem capN_add (x y : Nat) : capN (capN x + capN y) = capN (x + y) := by unfold capN; omega
theorem capN_mul (x y : Nat) : capN (capN x * capN y) = capN (x * y) := by
  unfold capN
  rcases Nat.eq_zero_or_pos x with e | hx
  · subst e; simp
  rcases Nat.eq_zero_or_pos y with e | hy
  · subst e; simp
  rcases Nat.lt_or_ge 1000000000 x with h | h
  · have h1 : min x 1000000000 = 1000000000 := by omega
    have h2 : 1 ≤ min y 1000000000 := by omega
    have h3 : 1000000000 ≤ 1000000000 * min y 1000000000 := Nat.le_mul_of_pos_right _ (by omega)
    have h4 : x ≤ x * y := Nat.le_mul_of_pos_right _ hy
    rw [h1]
    omega
  · have h1 : min x 1000000000 = x := by omega
    rw [h1]
    rcases Nat.lt_or_ge 1000000000 y with h' | h'
    · have h2 : min y 1000000000 = 1000000000 := by omega
      have h3 : 1000000000 ≤ x * 1000000000 := Nat.le_mul_of_pos_left _ hx
      have h4 : y ≤ x * y := Nat.le_mul_of_pos_left _ hx
      rw [h2]
      omega
    · have h2 : min y 1000000000 = y := by omega
      rw [h2]
theorem capZ (x : Nat) : (if (x : Int) < 1000000000 then (x : Int) else 1000000000) = ((capN x : Nat) : Int) := by
  unfold capN
  split <;> omega
theorem capN_mul_le (n w : Nat) : capN n * capN w ≤ 1000000000000000000 := Nat.mul_le_mul (capN_le n) (capN_le w)
theorem way_arith (s n w : Nat) (a : Int) (ha : a = ((capN n : Nat) : Int)) :
    (if IntKind.i64.wrap (((capN s : Nat) : Int) + if IntKind.i64.wrap (a * ((capN w : Nat) : Int)) < 1000000000 then IntKind.i64.wrap (a * ((capN w : Nat) : Int)) else 1000000000) < 1000000000
      then IntKind.i64.wrap (((capN s : Nat) : Int) + if IntKind.i64.wrap (a * ((capN w : Nat) : Int)) < 1000000000 then IntKind.i64.wrap (a * ((capN w : Nat) : Int)) else 1000000000) else 1000000000) = ((capN (s + n * w) : Nat) : Int) := by
  have h1 := capN_mul_le n w
  have h2 := capN_le s
  have e : a * ((capN w : Nat) : Int) = ((capN n * capN w : Nat) : Int) := by rw [ha]; simp
  rw [e, wrap_id (x := ((capN n * capN w : Nat) : Int)) (by omega) (by omega), capZ, capN_mul]
  have h3 := capN_le (n * w)
  have e2 : ((capN s : Nat) : Int) + ((capN (n * w) : Nat) : Int) = ((capN s + capN (n * w) : Nat) : Int) := by simp
  rw [e2, wrap_id (by omega) (by omega), capZ, capN_add]
theorem sum_arith (s w : Nat) : (if IntKind.i64.wrap (((capN s : Nat) : Int) + ((capN w : Nat) : Int)) < 1000000000 then IntKind.i64.wrap (((capN s : Nat) : Int) + ((capN w : Nat) : Int)) else 1000000000) = ((capN (s + w) : Nat) : Int) := by
  have h1 := capN_le s
  have h2 := capN_le w
  have e2 : ((capN s : Nat) : Int) + ((capN w : Nat) : Int) = ((capN s + capN w : Nat) : Int) := by simp
  rw [e2, wrap_id (by omega) (by omega), capZ, capN_add]
def matI (w : List (List Int)) (b c : Nat) : Int := (w.getD b []).getD c (-1)
theorem matI_get {rows : List (List Int)} {p k : Nat} {row : List Int} (hr : rows[p]? = some row) (hk : k < row.length) : matI rows p k = row[k] := by
  simp [matI, List.getD_eq_getElem?_getD, hr, hk]
theorem matI_set {w : List (List Int)} {a b : Nat} (h : Shp a b w) {x y : Nat} (hx : x < a) (hy : y < b) {row : List Int} (hr : w[x]? = some row) (v : Int) (x' y' : Nat) : matI (w.set x (row.set y v)) x' y' = if x' = x ∧ y' = y then v else matI w x' y' := by
  have hl := h.1
  have hrl : row.length = b := h.2 _ (List.mem_of_getElem? hr)
  by_cases e : x' = x
  · subst e
    simp only [matI, List.getD_eq_getElem?_getD, List.getElem?_set_self (show x' < w.length by omega), Option.getD_some, hr]
    simp only [List.getElem?_set]
    by_cases e' : y = y'
    · subst e'
      simp [hrl, hy]
    · have : ¬ y' = y := fun q => e' q.symm
      simp [e', this]
  · have e'' : ¬ x = x' := fun q => e q.symm
    simp [matI, List.getD_eq_getElem?_getD, List.getElem?_set, e, e'']
def LpI (L : List (List Bool)) (a : Int) (k : Nat) : Prop := 0 ≤ a ∧ mat L a.toNat k = true
/-- what a finished table tells -/
structure TabP (g : Gr) (n : Nat) (H L : List (List Bool)) (E : List (List (List Bool))) : Prop where
  V : VG g
  n24 : n ≤ 24
  sh : Shp g.ns.toNat (n + 1) H
  sl : Shp g.ns.toNat (n + 1) L
  ei : EndsI g n H E
  ed : DoneR g n H E g.rs.length
  hx : ∀ (a : Int) k, 0 ≤ a → k ≤ n → (mat H a.toNat k = true ↔ 0 < cntT g (mostN g n) a k)
  lp : LoopS g n (LpI L)
structure TabR (Γr : Ctx) (t : Tb) (g : Gr) (n : Nat) (R : Option Addr) (cR : Nat) (H L : List (List Bool)) (E : List (List (List Bool))) (ge : PH) : Prop where
  k : TabK (lk Γr) t g n R cR
  has : SlOk (lk Γr) (some ⟨t.bh, 0, none⟩) g.ns.toNat H
  loop : SlOk (lk Γr) (some ⟨t.bl, 0, none⟩) g.ns.toNat L
  ends : Cube ge 22 4 t.be E
  le : Mem.le (lk [ge]) (lk Γr)
theorem TabR.mono {Γr Γ' : Ctx} {t : Tb} {g : Gr} {n : Nat} {R : Option Addr} {cR : Nat} {H L : List (List Bool)} {E : List (List (List Bool))} {ge : PH} (h : TabR Γr t g n R cR H L E ge) (hl : Mem.le (lk Γr) (lk Γ')) : TabR Γ' t g n R cR H L E ge :=
  ⟨h.k.mono hl, h.has.mono hl, h.loop.mono hl, h.ends, h.le.trans hl⟩
theorem TabP.sym {g : Gr} {n : Nat} {H L : List (List Bool)} {E : List (List (List Bool))} (P : TabP g n H L E) {s : Sy} (hs : 0 ≤ s.n) {k : Nat} (hk : k ≤ n) : symB H s k = true ↔ 0 < symT (cntT g (mostN g n)) s k := by
  unfold symB symT
  split
  · by_cases e : k = 1 <;> simp [e]
  · exact P.hx _ _ hs hk
theorem TabP.row {g : Gr} {n : Nat} {H L : List (List Bool)} {E : List (List (List Bool))} (P : TabP g n H L E) : ∀ {l : List Sy} {k : Nat}, (∀ s ∈ l, 0 ≤ s.n) → k ≤ n → (RowH H l k ↔ 0 < rowT (cntT g (mostN g n)) l k)
  | [], k, _, _ => by
    show k = 0 ↔ 0 < (if k = 0 then 1 else 0)
    by_cases e : k = 0 <;> simp [e]
  | s :: l, k, h0, hk => by
    rw [row_pos]
    constructor
    · rintro ⟨j, h1, h2, h3⟩
      exact ⟨j, h1, (P.sym (h0 s (by simp)) (by omega)).1 h2, (P.row (fun s hs => h0 s (by simp [hs])) (by omega)).1 h3⟩
    · rintro ⟨j, h1, h2, h3⟩
      exact ⟨j, h1, (P.sym (h0 s (by simp)) (by omega)).2 h2, (P.row (fun s hs => h0 s (by simp [hs])) (by omega)).2 h3⟩
/-- remembered counts -/
def KnI (g : Gr) (n : Nat) (K : List (List Int)) : Prop := Shp g.ns.toNat (n + 1) K ∧ ∀ (a : Int) k, 0 ≤ a → k ≤ n → 0 ≤ matI K a.toNat k → matI K a.toNat k = (capN (cntT g (mostN g n) a k) : Nat)
def WyI (g : Gr) (n : Nat) (W : List (List (List Int))) : Prop := W.length = g.rs.length ∧ ∀ (i : Nat) rows (r : Ru), W[i]? = some rows → g.rs[i]? = some r → Shp (r.r.length + 1) (n + 1) rows ∧
  ∀ p k, p ≤ r.r.length → k ≤ n → 0 ≤ matI rows p k → matI rows p k = (capN (rowT (cntT g (mostN g n)) (r.r.drop p) k) : Nat)
theorem WyI.set {g : Gr} {n : Nat} {W : List (List (List Int))} (h : WyI g n W) {i : Nat} {rows : List (List Int)} {r : Ru} (hi : W[i]? = some rows) (hr : g.rs[i]? = some r) {p k : Nat} (hp : p ≤ r.r.length) (hk : k ≤ n) {row : List Int} (hrow : rows[p]? = some row) :
    WyI g n (W.set i (rows.set p (row.set k ((capN (rowT (cntT g (mostN g n)) (r.r.drop p) k) : Nat) : Int)))) := by
  obtain ⟨h1, h2⟩ := h.2 i rows r hi hr
  have hrl : row.length = n + 1 := h1.2 _ (List.mem_of_getElem? hrow)
  refine ⟨by simp [h.1], fun j rows' r' q1 q2 => ?_⟩
  rw [List.getElem?_set] at q1
  by_cases e : i = j
  · subst e
    rw [if_pos rfl, if_pos (List.getElem?_eq_some_iff.1 hi).1] at q1
    cases q1
    rw [hr] at q2
    cases q2
    refine ⟨h1.set p (by simp [hrl]), fun p' k' w1 w2 w3 => ?_⟩
    rw [matI_set h1 (by omega) (by omega) hrow] at w3 ⊢
    split
    · rename_i e; rw [e.1, e.2]
    · rename_i e
      rw [if_neg e] at w3
      exact h2 p' k' w1 w2 w3
  · rw [if_neg e] at q1
    exact h.2 j rows' r' q1 q2
/-- of rows: nothing below loops or has more than h levels -/
def FinR (g : Gr) (n : Nat) (L : List (List Bool)) (h : Nat) (l : List Sy) (k : Nat) : Prop := ∀ b j, EdR (cntT g (mostN g n)) l k b j → FinT g h b j ∧ ¬ LpI L b j
/-- what is left after a count -/
def CntQ (t : Tb) (g : Gr) (n : Nat) (x : Nat) (v : Value) (Γ : Ctx) : Prop := ∃ gk gw K W, Γ = [gk, gw] ∧ v = .int .i64 (capN x : Nat) ∧ Grid gk t.bk 29 3 K ∧ KnI g n K ∧ Cube gw 29 3 t.bw W ∧ WyI g n W
def CountC (t : Tb) (g : Gr) (n : Nat) (R : Option Addr) (cR : Nat) (H L : List (List Bool)) (E : List (List (List Bool))) (ge : PH) (h : Nat) : Prop :=
  ∀ {Γr : Ctx} {gk gw : PH} {K : List (List Int)} {W : List (List (List Int))}, TabR Γr t g n R cR H L E ge → Grid gk t.bk 29 3 K → KnI g n K → Cube gw 29 3 t.bw W → WyI g n W → ∀ (a k : Nat), (a : Int) < g.ns → k ≤ n → ¬ LpI L a k → FinT g h a k →
    Ret Try.prog 150 [.pointer (some ⟨t.b, 0, none⟩), .int .i64 (a : Int), .int .i64 (k : Int)] Γr [gk, gw] (CntQ t g n (cntT g (mostN g n) a k))
theorem way_of {t : Tb} {g : Gr} {n : Nat} {R : Option Addr} {cR : Nat} {H L : List (List Bool)} {E : List (List (List Bool))} {ge : PH} (P : TabP g n H L E) {h : Nat} (hc : CountC t g n R cR H L E ge h) {i : Nat} (hi : i < g.rs.length) :
    ∀ (d p k : Nat), p + d = g.rs[i].r.length → k ≤ n → FinR g n L h (g.rs[i].r.drop p) k → ∀ {Γr : Ctx} {gk gw : PH} {K : List (List Int)} {W : List (List (List Int))}, TabR Γr t g n R cR H L E ge → Grid gk t.bk 29 3 K → KnI g n K → Cube gw 29 3 t.bw W → WyI g n W →
    Ret Try.prog 189 [.pointer (some ⟨t.b, 0, none⟩), .int .i64 (i : Int), .int .i64 (p : Int), .int .i64 (k : Int)] Γr [gk, gw] (CntQ t g n (rowT (cntT g (mostN g n)) (g.rs[i].r.drop p) k)) := by
  intro d
  induction d with
  | zero =>
    intro p k hp hk hF Γr gk gw K W hR hGk hK hGw hW
    generalize hRR : CntQ t g n _ = R'
    refine ret_of_vc tr189 (Nat.le_of_ble_eq_true rfl) ?_
    simp -implicitDefEqProofs only [S189, S189_0, go_sem, Nat.reduceBEq, Nat.reduceAdd, Nat.reduceSub, Nat.reduceMul, Nat.reduceLeDiff, reduceCtorEq, ↓reduceIte, Int.reduceLT, Int.reduceLE, Int.reduceEq, Int.reduceNe]
    have hT := hR.k
    obtain ⟨b0, o0, h0, A1, c1, hr1, hcr⟩ := hT.rs.ru hi
    have hsh := hT.rs.short
    have V := P.V
    have hn := P.n24
    have hr4 := V.right _ (List.getElem_mem hi)
    have hsym := V.sym _ (List.getElem_mem hi)
    have hri := List.getElem?_eq_getElem hi
    obtain ⟨rows, hEi⟩ : ∃ rows, E[i]? = some rows := ⟨_, List.getElem?_eq_getElem (by rw [P.ei.1]; exact hi)⟩
    obtain ⟨hSr, hSo⟩ := P.ei.2 i _ _ hEi hri
    obtain ⟨hC, _⟩ := P.ed i _ _ hi hEi hri
    obtain ⟨be, hbe⟩ : ∃ be, t.be[i]? = some be := ⟨_, List.getElem?_eq_getElem (by rw [hT.be]; exact hi)⟩
    have hhd := hdG_at hbe hri
    have hdl := hdG_len hT.be
    obtain ⟨b2, o2, h2, hc2⟩ := hT.ends.hd (i := i) (by omega)
    rw [(List.getElem?_eq_some_iff.1 hhd).2] at hc2
    have hEx : ∀ p' k', p' ≤ g.rs[i].r.length → k' ≤ n → (mat rows p' k' = true ↔ 0 < rowT (cntT g (mostN g n)) (g.rs[i].r.drop p') k') := fun p' k' h1 h2 => by
      rw [← P.row (fun s hs => (hsym s (List.mem_of_mem_drop hs)).1) h2]
      exact ⟨hSo p' k' h1, hC p' k' (Nat.zero_le _) h1 h2⟩
    have hle' := hR.le.trans (lk_r [gk, gw] Γr)
    generalize g.rs[i].r = l at *
    have hpl : p = l.length := by omega
    obtain ⟨kp, hrd⟩ := hR.ends.rd hbe hEi hSr (p := p) (k := k) (by omega) (by omega)
    refine s_ld (j := 3) (cells_lk (lk_r [gk, gw] _ _ _ hT.out)) (by simp [Tb.cells]) (by simp) ?_
    simp -implicitDefEqProofs only [Tb.cells, go_sem, Nat.reduceBEq, Nat.reduceAdd, Nat.reduceSub, Nat.reduceMul, Nat.reduceLeDiff, reduceCtorEq, ↓reduceIte, Int.reduceLT, Int.reduceLE, Int.reduceEq, Int.reduceNe]
    refine s_idx h0 (by omega) (by omega) ?_
    simp -implicitDefEqProofs only [go_sem, Nat.reduceBEq, Nat.reduceAdd, Nat.reduceSub, Nat.reduceMul, Nat.reduceLeDiff, reduceCtorEq, ↓reduceIte, Int.reduceLT, Int.reduceLE, Int.reduceEq, Int.reduceNe]
    refine s_ld (j := 1) (by simpa using hcr _ (lk_r [gk, gw] _)) (by simp) (by simp) ?_
    simp -implicitDefEqProofs only [go_sem, Nat.reduceBEq, Nat.reduceAdd, Nat.reduceSub, Nat.reduceMul, Nat.reduceLeDiff, reduceCtorEq, ↓reduceIte, Int.reduceLT, Int.reduceLE, Int.reduceEq, Int.reduceNe]
    refine s_ld (j := 8) (cells_lk (lk_r [gk, gw] _ _ _ hT.out)) (by simp [Tb.cells]) (by simp) ?_
    simp -implicitDefEqProofs only [Tb.cells, go_sem, Nat.reduceBEq, Nat.reduceAdd, Nat.reduceSub, Nat.reduceMul, Nat.reduceLeDiff, reduceCtorEq, ↓reduceIte, Int.reduceLT, Int.reduceLE, Int.reduceEq, Int.reduceNe]
    refine s_idx h2 (by omega) (by omega) ?_
    simp -implicitDefEqProofs only [go_sem, Nat.reduceBEq, Nat.reduceAdd, Nat.reduceSub, Nat.reduceMul, Nat.reduceLeDiff, reduceCtorEq, ↓reduceIte, Int.reduceLT, Int.reduceLE, Int.reduceEq, Int.reduceNe]
    refine s_ld0 (hc2 _ (lk_r [gk, gw] _)) (by simp) (by simp) ?_
    simp -implicitDefEqProofs only [go_sem, Nat.reduceBEq, Nat.reduceAdd, Nat.reduceSub, Nat.reduceMul, Nat.reduceLeDiff, reduceCtorEq, ↓reduceIte, Int.reduceLT, Int.reduceLE, Int.reduceEq, Int.reduceNe]
    refine s_idx rfl (by omega) (by omega) ?_
    simp -implicitDefEqProofs only [go_sem, Nat.reduceBEq, Nat.reduceAdd, Nat.reduceSub, Nat.reduceMul, Nat.reduceLeDiff, reduceCtorEq, ↓reduceIte, Int.reduceLT, Int.reduceLE, Int.reduceEq, Int.reduceNe]
    refine s_ld0 (by simpa using (hrd _ hle').1) (by simp) (by simp) ?_
    simp -implicitDefEqProofs only [go_sem, Nat.reduceBEq, Nat.reduceAdd, Nat.reduceSub, Nat.reduceMul, Nat.reduceLeDiff, reduceCtorEq, ↓reduceIte, Int.reduceLT, Int.reduceLE, Int.reduceEq, Int.reduceNe]
    refine s_idx rfl (by omega) (by omega) ?_
    simp -implicitDefEqProofs only [go_sem, Nat.reduceBEq, Nat.reduceAdd, Nat.reduceSub, Nat.reduceMul, Nat.reduceLeDiff, reduceCtorEq, ↓reduceIte, Int.reduceLT, Int.reduceLE, Int.reduceEq, Int.reduceNe]
    refine s_ld0 (by simpa using (hrd _ hle').2) (by simp) (by simp) ?_
    simp -implicitDefEqProofs only [go_sem, Nat.reduceBEq, Nat.reduceAdd, Nat.reduceSub, Nat.reduceMul, Nat.reduceLeDiff, reduceCtorEq, ↓reduceIte, Int.reduceLT, Int.reduceLE, Int.reduceEq, Int.reduceNe]
    have hex0 := hEx p k (by omega) hk
    generalize mat rows p k = v0 at hex0
    cases v0 with
    | false =>
      simp -implicitDefEqProofs only [go_sem, Nat.reduceBEq, Nat.reduceAdd, Nat.reduceSub, Nat.reduceMul, Nat.reduceLeDiff, reduceCtorEq, ↓reduceIte, Int.reduceLT, Int.reduceLE, Int.reduceEq, Int.reduceNe]
      refine Up.here ?_
      subst hRR
      have hz : rowT (cntT g (mostN g n)) (l.drop p) k = 0 := by
        rcases Nat.eq_zero_or_pos (rowT (cntT g (mostN g n)) (l.drop p) k) with e | e
        · exact e
        · have := hex0.2 e; cases this
      rw [hz]
      exact ⟨gk, gw, K, W, rfl, rfl, hGk, hK, hGw, hW⟩
    | true =>
      simp -implicitDefEqProofs only [go_sem, Nat.reduceBEq, Nat.reduceAdd, Nat.reduceSub, Nat.reduceMul, Nat.reduceLeDiff, reduceCtorEq, ↓reduceIte, Int.reduceLT, Int.reduceLE, Int.reduceEq, Int.reduceNe]
      refine ⟨fun _ => Up.here ?_, fun hne => absurd (by omega) hne⟩
      subst hRR
      have hk0 := hex0.1 rfl
      rw [hpl, List.drop_length] at hk0 ⊢
      have e : rowT (cntT g (mostN g n)) [] k = 1 := by
        simp only [rowT] at hk0 ⊢
        split at hk0
        · rename_i e; rw [if_pos e]
        · omega
      rw [e]
      exact ⟨gk, gw, K, W, rfl, rfl, hGk, hK, hGw, hW⟩
  | succ d ih =>
    intro p k hp hk hF Γr gk gw K W hR hGk hK hGw hW
    generalize hRR : CntQ t g n _ = R'
    refine ret_of_vc tr189 (Nat.le_of_ble_eq_true rfl) ?_
    simp -implicitDefEqProofs only [S189, S189_0, go_sem, Nat.reduceBEq, Nat.reduceAdd, Nat.reduceSub, Nat.reduceMul, Nat.reduceLeDiff, reduceCtorEq, ↓reduceIte, Int.reduceLT, Int.reduceLE, Int.reduceEq, Int.reduceNe]
    have hT := hR.k
    obtain ⟨b0, o0, h0, A1, c1, hr1, hcr⟩ := hT.rs.ru hi
    have hsh := hT.rs.short
    have V := P.V
    have hn := P.n24
    have hr4 := V.right _ (List.getElem_mem hi)
    have hsym := V.sym _ (List.getElem_mem hi)
    have hri := List.getElem?_eq_getElem hi
    obtain ⟨rows, hEi⟩ : ∃ rows, E[i]? = some rows := ⟨_, List.getElem?_eq_getElem (by rw [P.ei.1]; exact hi)⟩
    obtain ⟨hSr, hSo⟩ := P.ei.2 i _ _ hEi hri
    obtain ⟨hC, _⟩ := P.ed i _ _ hi hEi hri
    obtain ⟨be, hbe⟩ : ∃ be, t.be[i]? = some be := ⟨_, List.getElem?_eq_getElem (by rw [hT.be]; exact hi)⟩
    have hhd := hdG_at hbe hri
    have hdl := hdG_len hT.be
    obtain ⟨b2, o2, h2, hc2⟩ := hT.ends.hd (i := i) (by omega)
    rw [(List.getElem?_eq_some_iff.1 hhd).2] at hc2
    have hEx : ∀ p' k', p' ≤ g.rs[i].r.length → k' ≤ n → (mat rows p' k' = true ↔ 0 < rowT (cntT g (mostN g n)) (g.rs[i].r.drop p') k') := fun p' k' h1 h2 => by
      rw [← P.row (fun s hs => (hsym s (List.mem_of_mem_drop hs)).1) h2]
      exact ⟨hSo p' k' h1, hC p' k' (Nat.zero_le _) h1 h2⟩
    have hle' := hR.le.trans (lk_r [gk, gw] Γr)
    have hWl := hW.1
    obtain ⟨wrows, hWi⟩ : ∃ wrows, W[i]? = some wrows := ⟨_, List.getElem?_eq_getElem (by omega)⟩
    obtain ⟨hSw, hWv⟩ := hW.2 i _ _ hWi hri
    obtain ⟨bw, hbw⟩ : ∃ bw, t.bw[i]? = some bw := ⟨_, List.getElem?_eq_getElem (by rw [hT.bw]; exact hi)⟩
    have hhw := hdG_at hbw hri
    have hdw := hdG_len hT.bw
    obtain ⟨b4, o4, h4, hc4⟩ := hT.ways.hd (i := i) (by omega)
    rw [(List.getElem?_eq_some_iff.1 hhw).2] at hc4
    have hpd : p < g.rs[i].r.length := by omega
    have hdrop : g.rs[i].r.drop p = g.rs[i].r[p] :: g.rs[i].r.drop (p + 1) := List.drop_eq_getElem_cons hpd
    generalize hrr : g.rs[i] = r at *
    generalize hll : r.r = l at *
    have hrl : rows.length = l.length + 1 := hSr.1
    have hwrl : wrows.length = l.length + 1 := hSw.1
    have hs := hsym _ (List.getElem_mem hpd)
    obtain ⟨b3, o3, h3, hc3⟩ := hr1.sy hpd
    generalize l[p] = s at *
    obtain ⟨kp, hrd⟩ := hR.ends.rd hbe hEi hSr (p := p) (k := k) (by omega) (by omega)
    refine s_ld (j := 3) (cells_lk (lk_r [gk, gw] _ _ _ hT.out)) (by simp [Tb.cells]) (by simp) ?_
    simp -implicitDefEqProofs only [Tb.cells, go_sem, Nat.reduceBEq, Nat.reduceAdd, Nat.reduceSub, Nat.reduceMul, Nat.reduceLeDiff, reduceCtorEq, ↓reduceIte, Int.reduceLT, Int.reduceLE, Int.reduceEq, Int.reduceNe]
    refine s_idx h0 (by omega) (by omega) ?_
    simp -implicitDefEqProofs only [go_sem, Nat.reduceBEq, Nat.reduceAdd, Nat.reduceSub, Nat.reduceMul, Nat.reduceLeDiff, reduceCtorEq, ↓reduceIte, Int.reduceLT, Int.reduceLE, Int.reduceEq, Int.reduceNe]
    refine s_ld (j := 1) (by simpa using hcr _ (lk_r [gk, gw] _)) (by simp) (by simp) ?_
    simp -implicitDefEqProofs only [go_sem, Nat.reduceBEq, Nat.reduceAdd, Nat.reduceSub, Nat.reduceMul, Nat.reduceLeDiff, reduceCtorEq, ↓reduceIte, Int.reduceLT, Int.reduceLE, Int.reduceEq, Int.reduceNe]
    refine s_ld (j := 8) (cells_lk (lk_r [gk, gw] _ _ _ hT.out)) (by simp [Tb.cells]) (by simp) ?_
    simp -implicitDefEqProofs only [Tb.cells, go_sem, Nat.reduceBEq, Nat.reduceAdd, Nat.reduceSub, Nat.reduceMul, Nat.reduceLeDiff, reduceCtorEq, ↓reduceIte, Int.reduceLT, Int.reduceLE, Int.reduceEq, Int.reduceNe]
    refine s_idx h2 (by omega) (by omega) ?_
    simp -implicitDefEqProofs only [go_sem, Nat.reduceBEq, Nat.reduceAdd, Nat.reduceSub, Nat.reduceMul, Nat.reduceLeDiff, reduceCtorEq, ↓reduceIte, Int.reduceLT, Int.reduceLE, Int.reduceEq, Int.reduceNe]
    refine s_ld0 (hc2 _ (lk_r [gk, gw] _)) (by simp) (by simp) ?_
    simp -implicitDefEqProofs only [go_sem, Nat.reduceBEq, Nat.reduceAdd, Nat.reduceSub, Nat.reduceMul, Nat.reduceLeDiff, reduceCtorEq, ↓reduceIte, Int.reduceLT, Int.reduceLE, Int.reduceEq, Int.reduceNe]
    refine s_idx rfl (by omega) (by omega) ?_
    simp -implicitDefEqProofs only [go_sem, Nat.reduceBEq, Nat.reduceAdd, Nat.reduceSub, Nat.reduceMul, Nat.reduceLeDiff, reduceCtorEq, ↓reduceIte, Int.reduceLT, Int.reduceLE, Int.reduceEq, Int.reduceNe]
    refine s_ld0 (by simpa using (hrd _ hle').1) (by simp) (by simp) ?_
    simp -implicitDefEqProofs only [go_sem, Nat.reduceBEq, Nat.reduceAdd, Nat.reduceSub, Nat.reduceMul, Nat.reduceLeDiff, reduceCtorEq, ↓reduceIte, Int.reduceLT, Int.reduceLE, Int.reduceEq, Int.reduceNe]
    refine s_idx rfl (by omega) (by omega) ?_
    simp -implicitDefEqProofs only [go_sem, Nat.reduceBEq, Nat.reduceAdd, Nat.reduceSub, Nat.reduceMul, Nat.reduceLeDiff, reduceCtorEq, ↓reduceIte, Int.reduceLT, Int.reduceLE, Int.reduceEq, Int.reduceNe]
    refine s_ld0 (by simpa using (hrd _ hle').2) (by simp) (by simp) ?_
    simp -implicitDefEqProofs only [go_sem, Nat.reduceBEq, Nat.reduceAdd, Nat.reduceSub, Nat.reduceMul, Nat.reduceLeDiff, reduceCtorEq, ↓reduceIte, Int.reduceLT, Int.reduceLE, Int.reduceEq, Int.reduceNe]
    have hex0 := hEx p k (by omega) hk
    generalize mat rows p k = v0 at hex0
    cases v0 with
    | false =>
      simp -implicitDefEqProofs only [go_sem, Nat.reduceBEq, Nat.reduceAdd, Nat.reduceSub, Nat.reduceMul, Nat.reduceLeDiff, reduceCtorEq, ↓reduceIte, Int.reduceLT, Int.reduceLE, Int.reduceEq, Int.reduceNe]
      refine Up.here ?_
      subst hRR
      have hz : rowT (cntT g (mostN g n)) (l.drop p) k = 0 := by
        rcases Nat.eq_zero_or_pos (rowT (cntT g (mostN g n)) (l.drop p) k) with e | e
        · exact e
        · have := hex0.2 e; cases this
      rw [hz]
      exact ⟨gk, gw, K, W, rfl, rfl, hGk, hK, hGw, hW⟩
    | true =>
      simp -implicitDefEqProofs only [go_sem, Nat.reduceBEq, Nat.reduceAdd, Nat.reduceSub, Nat.reduceMul, Nat.reduceLeDiff, reduceCtorEq, ↓reduceIte, Int.reduceLT, Int.reduceLE, Int.reduceEq, Int.reduceNe]
      refine ⟨fun h => absurd h (by omega), fun _ => ?_⟩
      obtain ⟨kw, hcw, hAw, _⟩ := hGw.at' hbw hWi (p := p) (by omega) (by rw [hSw.at' (by omega)]; omega)
      have hwl := hSw.at' (i := p) (by omega)
      rw [hwl] at hcw
      have hgw := matI_get (List.getElem?_eq_getElem (show p < wrows.length by omega)) (show k < wrows[p].length by omega)
      refine s_ld (j := 9) (cells_lk (lk_r [gk, gw] _ _ _ hT.out)) (by simp [Tb.cells]) (by simp) ?_
      simp -implicitDefEqProofs only [Tb.cells, go_sem, Nat.reduceBEq, Nat.reduceAdd, Nat.reduceSub, Nat.reduceMul, Nat.reduceLeDiff, reduceCtorEq, ↓reduceIte, Int.reduceLT, Int.reduceLE, Int.reduceEq, Int.reduceNe]
      refine s_idx h4 (by omega) (by omega) ?_
      simp -implicitDefEqProofs only [go_sem, Nat.reduceBEq, Nat.reduceAdd, Nat.reduceSub, Nat.reduceMul, Nat.reduceLeDiff, reduceCtorEq, ↓reduceIte, Int.reduceLT, Int.reduceLE, Int.reduceEq, Int.reduceNe]
      refine s_ld0 (hc4 _ (lk_r [gk, gw] _)) (by simp) (by simp) ?_
      simp -implicitDefEqProofs only [go_sem, Nat.reduceBEq, Nat.reduceAdd, Nat.reduceSub, Nat.reduceMul, Nat.reduceLeDiff, reduceCtorEq, ↓reduceIte, Int.reduceLT, Int.reduceLE, Int.reduceEq, Int.reduceNe]
      refine s_idx rfl (by omega) (by omega) ?_
      simp -implicitDefEqProofs only [go_sem, Nat.reduceBEq, Nat.reduceAdd, Nat.reduceSub, Nat.reduceMul, Nat.reduceLeDiff, reduceCtorEq, ↓reduceIte, Int.reduceLT, Int.reduceLE, Int.reduceEq, Int.reduceNe]
      refine s_ld0 (by simpa using hcw _ (lk_sub (by simp))) (by simp) (by simp) ?_
      simp -implicitDefEqProofs only [go_sem, Nat.reduceBEq, Nat.reduceAdd, Nat.reduceSub, Nat.reduceMul, Nat.reduceLeDiff, reduceCtorEq, ↓reduceIte, Int.reduceLT, Int.reduceLE, Int.reduceEq, Int.reduceNe]
      refine s_idx rfl (by omega) (by omega) ?_
      simp -implicitDefEqProofs only [go_sem, Nat.reduceBEq, Nat.reduceAdd, Nat.reduceSub, Nat.reduceMul, Nat.reduceLeDiff, reduceCtorEq, ↓reduceIte, Int.reduceLT, Int.reduceLE, Int.reduceEq, Int.reduceNe]
      refine s_ld0 (hAw.num (i := k) (by omega) (by simp)) (by simp) (by simp) ?_
      simp -implicitDefEqProofs only [go_sem, Nat.reduceBEq, Nat.reduceAdd, Nat.reduceSub, Nat.reduceMul, Nat.reduceLeDiff, reduceCtorEq, ↓reduceIte, Int.reduceLT, Int.reduceLE, Int.reduceEq, Int.reduceNe]
      refine ⟨fun hge => ?_, fun hlt => ?_⟩
      · refine s_ld (j := 9) (cells_lk (lk_r [gk, gw] _ _ _ hT.out)) (by simp [Tb.cells]) (by simp) ?_
        simp -implicitDefEqProofs only [Tb.cells, go_sem, Nat.reduceBEq, Nat.reduceAdd, Nat.reduceSub, Nat.reduceMul, Nat.reduceLeDiff, reduceCtorEq, ↓reduceIte, Int.reduceLT, Int.reduceLE, Int.reduceEq, Int.reduceNe]
        refine s_idx h4 (by omega) (by omega) ?_
        simp -implicitDefEqProofs only [go_sem, Nat.reduceBEq, Nat.reduceAdd, Nat.reduceSub, Nat.reduceMul, Nat.reduceLeDiff, reduceCtorEq, ↓reduceIte, Int.reduceLT, Int.reduceLE, Int.reduceEq, Int.reduceNe]
        refine s_ld0 (hc4 _ (lk_r [gk, gw] _)) (by simp) (by simp) ?_
        simp -implicitDefEqProofs only [go_sem, Nat.reduceBEq, Nat.reduceAdd, Nat.reduceSub, Nat.reduceMul, Nat.reduceLeDiff, reduceCtorEq, ↓reduceIte, Int.reduceLT, Int.reduceLE, Int.reduceEq, Int.reduceNe]
        refine s_idx rfl (by omega) (by omega) ?_
        simp -implicitDefEqProofs only [go_sem, Nat.reduceBEq, Nat.reduceAdd, Nat.reduceSub, Nat.reduceMul, Nat.reduceLeDiff, reduceCtorEq, ↓reduceIte, Int.reduceLT, Int.reduceLE, Int.reduceEq, Int.reduceNe]
        refine s_ld0 (by simpa using hcw _ (lk_sub (by simp))) (by simp) (by simp) ?_
        simp -implicitDefEqProofs only [go_sem, Nat.reduceBEq, Nat.reduceAdd, Nat.reduceSub, Nat.reduceMul, Nat.reduceLeDiff, reduceCtorEq, ↓reduceIte, Int.reduceLT, Int.reduceLE, Int.reduceEq, Int.reduceNe]
        refine s_idx rfl (by omega) (by omega) ?_
        simp -implicitDefEqProofs only [go_sem, Nat.reduceBEq, Nat.reduceAdd, Nat.reduceSub, Nat.reduceMul, Nat.reduceLeDiff, reduceCtorEq, ↓reduceIte, Int.reduceLT, Int.reduceLE, Int.reduceEq, Int.reduceNe]
        refine s_ld0 (hAw.num (i := k) (by omega) (by simp)) (by simp) (by simp) ?_
        simp -implicitDefEqProofs only [go_sem, Nat.reduceBEq, Nat.reduceAdd, Nat.reduceSub, Nat.reduceMul, Nat.reduceLeDiff, reduceCtorEq, ↓reduceIte, Int.reduceLT, Int.reduceLE, Int.reduceEq, Int.reduceNe]
        refine Up.here ?_
        subst hRR
        refine ⟨gk, gw, K, W, rfl, ?_, hGk, hK, hGw, hW⟩
        rw [← hgw] at hge ⊢
        rw [hWv p k (by omega) hk hge]
      · clear hrd kp hcw hAw hgw hlt
        have hex1 := fun j (hj : j ≤ k) => hEx (p + 1) (k - j) (by omega) (by omega)
        have hFd := hF
        rw [hdrop] at hFd
        simp (disch := omega) only [wrap_id]
        refine s_loop (fun f vs Γ => ∃ (gk gw : PH) (K : List (List Int)) (W : List (List (List Int))) (j : Nat), vs = [.v true (.int .i64 (capN (sumN (fun j' => symT (cntT g (mostN g n)) s j' * rowT (cntT g (mostN g n)) (l.drop (p + 1)) (k - j')) j) : Nat)), .v true (.int .i64 (j : Int))] ∧ Γ = [gk, gw] ∧ j + f = k + 1 ∧ Grid gk t.bk 29 3 K ∧ KnI g n K ∧ Cube gw 29 3 t.bw W ∧ WyI g n W) (k + 1)
          (Up.here ⟨gk, gw, K, W, 0, rfl, rfl, by omega, hGk, hK, hGw, hW⟩) ?_
        clear hGk hK hGw hW hWi hWv hle'
        rintro f vs Γ ⟨gk, gw, K, W, j, rfl, rfl, hjf, hGk, hK, hGw, hW⟩
        have hle' := hR.le.trans (lk_r [gk, gw] Γr)
        simp -implicitDefEqProofs only [S189_5, go_sem, Nat.reduceBEq, Nat.reduceAdd, Nat.reduceSub, Nat.reduceMul, Nat.reduceLeDiff, reduceCtorEq, ↓reduceIte, Int.reduceLT, Int.reduceLE, Int.reduceEq, Int.reduceNe]
        refine ⟨fun hlt => ?_, fun hge => ?_⟩
        · have hj : j ≤ k := by omega
          have hskip : symT (cntT g (mostN g n)) s j * rowT (cntT g (mostN g n)) (l.drop (p + 1)) (k - j) = 0 → sumN (fun j' => symT (cntT g (mostN g n)) s j' * rowT (cntT g (mostN g n)) (l.drop (p + 1)) (k - j')) (j + 1) = sumN (fun j' => symT (cntT g (mostN g n)) s j' * rowT (cntT g (mostN g n)) (l.drop (p + 1)) (k - j')) j := fun e => by
            rw [sumN, e, Nat.add_zero]
          have hsyz := P.sym hs.1 (k := j) (by omega)
          refine s_split ?_
          simp -implicitDefEqProofs only [S189_3, go_sem, Nat.reduceBEq, Nat.reduceAdd, Nat.reduceSub, Nat.reduceMul, Nat.reduceLeDiff, reduceCtorEq, ↓reduceIte, Int.reduceLT, Int.reduceLE, Int.reduceEq, Int.reduceNe]
          refine s_idx h3 (by omega) (by omega) ?_
          simp -implicitDefEqProofs only [go_sem, Nat.reduceBEq, Nat.reduceAdd, Nat.reduceSub, Nat.reduceMul, Nat.reduceLeDiff, reduceCtorEq, ↓reduceIte, Int.reduceLT, Int.reduceLE, Int.reduceEq, Int.reduceNe]
          refine s_ld0 (by simpa using hc3 _ (lk_r [gk, gw] _)) (by simp) (by simp) ?_
          simp -implicitDefEqProofs only [go_sem, Nat.reduceBEq, Nat.reduceAdd, Nat.reduceSub, Nat.reduceMul, Nat.reduceLeDiff, reduceCtorEq, ↓reduceIte, Int.reduceLT, Int.reduceLE, Int.reduceEq, Int.reduceNe]
          refine CallVC.read (tab_sym (Γr := [gk, gw] ++ Γr) (hT.mono (lk_r [gk, gw] _)) (hR.has.mono (lk_r [gk, gw] _)) P.sh (fun h => ⟨hs.1, hs.2.2 h⟩) (k := j) (by omega) hn) ?_
          rintro v Γ' ⟨rfl, rfl⟩
          generalize hsv : symB H s j = sv at hsyz
          cases sv with
          | false =>
            simp -implicitDefEqProofs only [go_sem, Nat.reduceBEq, Nat.reduceAdd, Nat.reduceSub, Nat.reduceMul, Nat.reduceLeDiff, reduceCtorEq, ↓reduceIte, Int.reduceLT, Int.reduceLE, Int.reduceEq, Int.reduceNe]
            refine s_ldg0 (cs := [.slice none 0 0]) (by simp) (by simp) (by simp) (by simp) ?_
            simp -implicitDefEqProofs only [go_sem, Nat.reduceBEq, Nat.reduceAdd, Nat.reduceSub, Nat.reduceMul, Nat.reduceLeDiff, reduceCtorEq, ↓reduceIte, Int.reduceLT, Int.reduceLE, Int.reduceEq, Int.reduceNe]
            refine s_idxg (b := 0) (o := 0) (by simp) ?_
            simp -implicitDefEqProofs only [go_sem, Nat.reduceBEq, Nat.reduceAdd, Nat.reduceSub, Nat.reduceMul, Nat.reduceLeDiff, reduceCtorEq, ↓reduceIte, Int.reduceLT, Int.reduceLE, Int.reduceEq, Int.reduceNe]
            refine s_ldg0 (cs := [.slice none 0 0]) (by simp) (by simp) (by simp) (by simp) ?_
            simp -implicitDefEqProofs only [go_sem, Nat.reduceBEq, Nat.reduceAdd, Nat.reduceSub, Nat.reduceMul, Nat.reduceLeDiff, reduceCtorEq, ↓reduceIte, Int.reduceLT, Int.reduceLE, Int.reduceEq, Int.reduceNe]
            refine s_idxg (b := 0) (o := 0) (by simp) ?_
            simp -implicitDefEqProofs only [go_sem, Nat.reduceBEq, Nat.reduceAdd, Nat.reduceSub, Nat.reduceMul, Nat.reduceLeDiff, reduceCtorEq, ↓reduceIte, Int.reduceLT, Int.reduceLE, Int.reduceEq, Int.reduceNe]
            refine s_ldg0 (cs := [.slice none 0 0]) (by simp) (by simp) (by simp) (by simp) ?_
            simp -implicitDefEqProofs only [go_sem, Nat.reduceBEq, Nat.reduceAdd, Nat.reduceSub, Nat.reduceMul, Nat.reduceLeDiff, reduceCtorEq, ↓reduceIte, Int.reduceLT, Int.reduceLE, Int.reduceEq, Int.reduceNe]
            refine s_idxg (b := 0) (o := 0) (by simp) ?_
            simp -implicitDefEqProofs only [go_sem, Nat.reduceBEq, Nat.reduceAdd, Nat.reduceSub, Nat.reduceMul, Nat.reduceLeDiff, reduceCtorEq, ↓reduceIte, Int.reduceLT, Int.reduceLE, Int.reduceEq, Int.reduceNe]
            refine s_ldg0 (cs := [.bool false]) (by simp) (by simp) (by simp) (by simp) ?_
            simp -implicitDefEqProofs only [go_sem, Nat.reduceBEq, Nat.reduceAdd, Nat.reduceSub, Nat.reduceMul, Nat.reduceLeDiff, reduceCtorEq, ↓reduceIte, Int.reduceLT, Int.reduceLE, Int.reduceEq, Int.reduceNe]
            simp -implicitDefEqProofs only [S189_4, go_sem, Nat.reduceBEq, Nat.reduceAdd, Nat.reduceSub, Nat.reduceMul, Nat.reduceLeDiff, reduceCtorEq, ↓reduceIte, Int.reduceLT, Int.reduceLE, Int.reduceEq, Int.reduceNe]
            simp (disch := omega) only [wrap_id]
            have hz : symT (cntT g (mostN g n)) s j = 0 := by
              rcases Nat.eq_zero_or_pos (symT (cntT g (mostN g n)) s j) with e | e
              · exact e
              · have := hsyz.2 e; cases this
            exact Up.here ⟨f - 1, by omega, Up.here ⟨gk, gw, K, W, j + 1, by rw [hskip (by rw [hz, Nat.zero_mul])]; rfl, rfl, by omega, hGk, hK, hGw, hW⟩⟩
          | true =>
            obtain ⟨kq, hrq⟩ := hR.ends.rd hbe hEi hSr (p := p + 1) (k := k - j) (by omega) (by omega)
            have hex1 := hex1 j hj
            simp -implicitDefEqProofs only [go_sem, Nat.reduceBEq, Nat.reduceAdd, Nat.reduceSub, Nat.reduceMul, Nat.reduceLeDiff, reduceCtorEq, ↓reduceIte, Int.reduceLT, Int.reduceLE, Int.reduceEq, Int.reduceNe]
            refine s_ld (j := 8) (cells_lk (lk_r [gk, gw] _ _ _ hT.out)) (by simp [Tb.cells]) (by simp) ?_
            simp -implicitDefEqProofs only [Tb.cells, go_sem, Nat.reduceBEq, Nat.reduceAdd, Nat.reduceSub, Nat.reduceMul, Nat.reduceLeDiff, reduceCtorEq, ↓reduceIte, Int.reduceLT, Int.reduceLE, Int.reduceEq, Int.reduceNe]
            refine s_idx h2 (by omega) (by omega) ?_
            simp -implicitDefEqProofs only [go_sem, Nat.reduceBEq, Nat.reduceAdd, Nat.reduceSub, Nat.reduceMul, Nat.reduceLeDiff, reduceCtorEq, ↓reduceIte, Int.reduceLT, Int.reduceLE, Int.reduceEq, Int.reduceNe]
            refine s_ld0 (hc2 _ (lk_r [gk, gw] _)) (by simp) (by simp) ?_
            simp -implicitDefEqProofs only [go_sem, Nat.reduceBEq, Nat.reduceAdd, Nat.reduceSub, Nat.reduceMul, Nat.reduceLeDiff, reduceCtorEq, ↓reduceIte, Int.reduceLT, Int.reduceLE, Int.reduceEq, Int.reduceNe]
            simp (disch := omega) only [wrap_id]
            refine s_idx rfl (by omega) (by omega) ?_
            simp -implicitDefEqProofs only [go_sem, Nat.reduceBEq, Nat.reduceAdd, Nat.reduceSub, Nat.reduceMul, Nat.reduceLeDiff, reduceCtorEq, ↓reduceIte, Int.reduceLT, Int.reduceLE, Int.reduceEq, Int.reduceNe]
            rw [show ((p : Int) + 1).toNat = p + 1 by omega]
            refine s_ld0 (by simpa using (hrq _ hle').1) (by simp) (by simp) ?_
            simp -implicitDefEqProofs only [go_sem, Nat.reduceBEq, Nat.reduceAdd, Nat.reduceSub, Nat.reduceMul, Nat.reduceLeDiff, reduceCtorEq, ↓reduceIte, Int.reduceLT, Int.reduceLE, Int.reduceEq, Int.reduceNe]
            simp (disch := omega) only [wrap_id]
            refine s_idx rfl (by omega) (by omega) ?_
            simp -implicitDefEqProofs only [go_sem, Nat.reduceBEq, Nat.reduceAdd, Nat.reduceSub, Nat.reduceMul, Nat.reduceLeDiff, reduceCtorEq, ↓reduceIte, Int.reduceLT, Int.reduceLE, Int.reduceEq, Int.reduceNe]
            rw [show ((k : Int) - (j : Int)).toNat = k - j by omega]
            refine s_ld0 (by simpa using (hrq _ hle').2) (by simp) (by simp) ?_
            generalize mat rows (p + 1) (k - j) = v1 at hex1
            cases v1 with
            | false =>
              simp -implicitDefEqProofs only [S189_4, go_sem, Nat.reduceBEq, Nat.reduceAdd, Nat.reduceSub, Nat.reduceMul, Nat.reduceLeDiff, reduceCtorEq, ↓reduceIte, Int.reduceLT, Int.reduceLE, Int.reduceEq, Int.reduceNe]
              simp (disch := omega) only [wrap_id]
              have hz : rowT (cntT g (mostN g n)) (l.drop (p + 1)) (k - j) = 0 := by
                rcases Nat.eq_zero_or_pos (rowT (cntT g (mostN g n)) (l.drop (p + 1)) (k - j)) with e | e
                · exact e
                · have := hex1.2 e; cases this
              exact Up.here ⟨f - 1, by omega, Up.here ⟨gk, gw, K, W, j + 1, by rw [hskip (by rw [hz, Nat.mul_zero])]; rfl, rfl, by omega, hGk, hK, hGw, hW⟩⟩
            | true =>
              have hsp := hsyz.1 rfl
              have hrp := hex1.1 rfl
              simp -implicitDefEqProofs only [go_sem, Nat.reduceBEq, Nat.reduceAdd, Nat.reduceSub, Nat.reduceMul, Nat.reduceLeDiff, reduceCtorEq, ↓reduceIte, Int.reduceLT, Int.reduceLE, Int.reduceEq, Int.reduceNe]
              refine s_split ?_
              simp -implicitDefEqProofs only [S189_1, go_sem, Nat.reduceBEq, Nat.reduceAdd, Nat.reduceSub, Nat.reduceMul, Nat.reduceLeDiff, reduceCtorEq, ↓reduceIte, Int.reduceLT, Int.reduceLE, Int.reduceEq, Int.reduceNe]
              refine s_idx h3 (by omega) (by omega) ?_
              simp -implicitDefEqProofs only [go_sem, Nat.reduceBEq, Nat.reduceAdd, Nat.reduceSub, Nat.reduceMul, Nat.reduceLeDiff, reduceCtorEq, ↓reduceIte, Int.reduceLT, Int.reduceLE, Int.reduceEq, Int.reduceNe]
              refine s_ld0 (by simpa using hc3 _ (lk_r [gk, gw] _)) (by simp) (by simp) ?_
              obtain ⟨st, sn⟩ := s
              cases st with
              | true =>
                simp -implicitDefEqProofs only [S189_2, go_sem, Nat.reduceBEq, Nat.reduceAdd, Nat.reduceSub, Nat.reduceMul, Nat.reduceLeDiff, reduceCtorEq, ↓reduceIte, Int.reduceLT, Int.reduceLE, Int.reduceEq, Int.reduceNe]
                simp (disch := omega) only [wrap_id]
                rw [show ((p : Int) + 1) = ((p + 1 : Nat) : Int) by omega, show ((k : Int) - (j : Int)) = ((k - j : Nat) : Int) by omega]
                refine Up.here ?_
                refine CallVC.perm (Γm := [gk, gw]) (Γf := []) (ih (p + 1) (k - j) (by omega) (by omega) (fun b j' q => hFd b j' ⟨j, hj, hsp, hrp, .inr q⟩) (Γr := Γr) hR hGk hK hGw hW) (List.Perm.refl _) (List.Sublist.refl _) ?_
                rintro v Γ' ⟨gk, gw, K, W, rfl, rfl, hGk, hK, hGw, hW⟩
                simp -implicitDefEqProofs only [S189_4, go_sem, Nat.reduceBEq, Nat.reduceAdd, Nat.reduceSub, Nat.reduceMul, Nat.reduceLeDiff, reduceCtorEq, ↓reduceIte, Int.reduceLT, Int.reduceLE, Int.reduceEq, Int.reduceNe]
                have hone : symT (cntT g (mostN g n)) ⟨true, sn⟩ j = 1 := by
                  unfold symT at hsp ⊢
                  simp only [if_true] at hsp ⊢
                  split at hsp
                  · rename_i e; rw [if_pos e]
                  · omega
                refine Up.here ⟨f - 1, by omega, Up.here ⟨gk, gw, K, W, j + 1, ?_, rfl, by omega, hGk, hK, hGw, hW⟩⟩
                rw [way_arith _ 1 _ 1 rfl, sumN, hone, wrap_id (by omega) (by omega)]
                rfl
              | false =>
                have hs : 0 ≤ sn ∧ sn < g.ns := ⟨hs.1, hs.2.2 rfl⟩
                obtain ⟨c, rfl⟩ : ∃ c : Nat, sn = c := ⟨sn.toNat, by omega⟩
                obtain ⟨hF1, hF2⟩ := hFd (c : Int) j ⟨j, hj, hsp, hrp, .inl ⟨rfl, rfl, rfl⟩⟩
                simp -implicitDefEqProofs only [go_sem, Nat.reduceBEq, Nat.reduceAdd, Nat.reduceSub, Nat.reduceMul, Nat.reduceLeDiff, reduceCtorEq, ↓reduceIte, Int.reduceLT, Int.reduceLE, Int.reduceEq, Int.reduceNe]
                refine s_idx h3 (by omega) (by omega) ?_
                simp -implicitDefEqProofs only [go_sem, Nat.reduceBEq, Nat.reduceAdd, Nat.reduceSub, Nat.reduceMul, Nat.reduceLeDiff, reduceCtorEq, ↓reduceIte, Int.reduceLT, Int.reduceLE, Int.reduceEq, Int.reduceNe]
                refine s_ld (j := 1) (by simpa using hc3 _ (lk_r [gk, gw] _)) (by simp) (by simp) ?_
                simp -implicitDefEqProofs only [go_sem, Nat.reduceBEq, Nat.reduceAdd, Nat.reduceSub, Nat.reduceMul, Nat.reduceLeDiff, reduceCtorEq, ↓reduceIte, Int.reduceLT, Int.reduceLE, Int.reduceEq, Int.reduceNe]
                refine CallVC.perm (Γm := [gk, gw]) (Γf := []) (hc (Γr := Γr) hR hGk hK hGw hW c j hs.2 (by omega) hF2 hF1) (List.Perm.refl _) (List.Sublist.refl _) ?_
                rintro v Γ' ⟨gk, gw, K, W, rfl, rfl, hGk, hK, hGw, hW⟩
                simp -implicitDefEqProofs only [S189_2, go_sem, Nat.reduceBEq, Nat.reduceAdd, Nat.reduceSub, Nat.reduceMul, Nat.reduceLeDiff, reduceCtorEq, ↓reduceIte, Int.reduceLT, Int.reduceLE, Int.reduceEq, Int.reduceNe]
                simp (disch := omega) only [wrap_id]
                rw [show ((p : Int) + 1) = ((p + 1 : Nat) : Int) by omega, show ((k : Int) - (j : Int)) = ((k - j : Nat) : Int) by omega]
                refine Up.here ?_
                refine CallVC.perm (Γm := [gk, gw]) (Γf := []) (ih (p + 1) (k - j) (by omega) (by omega) (fun b j' q => hFd b j' ⟨j, hj, hsp, hrp, .inr q⟩) (Γr := Γr) hR hGk hK hGw hW) (List.Perm.refl _) (List.Sublist.refl _) ?_
                rintro v Γ' ⟨gk, gw, K, W, rfl, rfl, hGk, hK, hGw, hW⟩
                simp -implicitDefEqProofs only [S189_4, go_sem, Nat.reduceBEq, Nat.reduceAdd, Nat.reduceSub, Nat.reduceMul, Nat.reduceLeDiff, reduceCtorEq, ↓reduceIte, Int.reduceLT, Int.reduceLE, Int.reduceEq, Int.reduceNe]
                refine Up.here ⟨f - 1, by omega, Up.here ⟨gk, gw, K, W, j + 1, ?_, rfl, by omega, hGk, hK, hGw, hW⟩⟩
                rw [way_arith _ (cntT g (mostN g n) c j) _ _ rfl, sumN, wrap_id (by omega) (by omega)]
                rfl
        · have hje : j = k + 1 := by omega
          subst hje
          have hsum : sumN (fun j' => symT (cntT g (mostN g n)) s j' * rowT (cntT g (mostN g n)) (l.drop (p + 1)) (k - j')) (k + 1) = rowT (cntT g (mostN g n)) (l.drop p) k := by rw [hdrop]; rfl
          rw [hsum]
          have hWl := hW.1
          obtain ⟨wrows, hWi⟩ : ∃ wrows, W[i]? = some wrows := ⟨_, List.getElem?_eq_getElem (by omega)⟩
          obtain ⟨hSw, hWv⟩ := hW.2 i _ _ hWi hri
          rw [hll] at hSw hWv
          have hwrl : wrows.length = l.length + 1 := hSw.1
          have hwl := hSw.at' (i := p) (by omega)
          obtain ⟨kw, hcw, hAw, hpw⟩ := hGw.at' hbw hWi (p := p) (by omega) (by omega)
          rw [hwl] at hcw
          refine s_ld (j := 9) (cells_lk (lk_r [gk, gw] _ _ _ hT.out)) (by simp [Tb.cells]) (by simp) ?_
          simp -implicitDefEqProofs only [Tb.cells, go_sem, Nat.reduceBEq, Nat.reduceAdd, Nat.reduceSub, Nat.reduceMul, Nat.reduceLeDiff, reduceCtorEq, ↓reduceIte, Int.reduceLT, Int.reduceLE, Int.reduceEq, Int.reduceNe]
          refine s_idx h4 (by omega) (by omega) ?_
          simp -implicitDefEqProofs only [go_sem, Nat.reduceBEq, Nat.reduceAdd, Nat.reduceSub, Nat.reduceMul, Nat.reduceLeDiff, reduceCtorEq, ↓reduceIte, Int.reduceLT, Int.reduceLE, Int.reduceEq, Int.reduceNe]
          refine s_ld0 (hc4 _ (lk_r [gk, gw] _)) (by simp) (by simp) ?_
          simp -implicitDefEqProofs only [go_sem, Nat.reduceBEq, Nat.reduceAdd, Nat.reduceSub, Nat.reduceMul, Nat.reduceLeDiff, reduceCtorEq, ↓reduceIte, Int.reduceLT, Int.reduceLE, Int.reduceEq, Int.reduceNe]
          refine s_idx rfl (by omega) (by omega) ?_
          simp -implicitDefEqProofs only [go_sem, Nat.reduceBEq, Nat.reduceAdd, Nat.reduceSub, Nat.reduceMul, Nat.reduceLeDiff, reduceCtorEq, ↓reduceIte, Int.reduceLT, Int.reduceLE, Int.reduceEq, Int.reduceNe]
          refine s_ld0 (by simpa using hcw _ (lk_sub (by simp))) (by simp) (by simp) ?_
          simp -implicitDefEqProofs only [go_sem, Nat.reduceBEq, Nat.reduceAdd, Nat.reduceSub, Nat.reduceMul, Nat.reduceLeDiff, reduceCtorEq, ↓reduceIte, Int.reduceLT, Int.reduceLE, Int.reduceEq, Int.reduceNe]
          refine s_idx rfl (by omega) (by omega) ?_
          simp -implicitDefEqProofs only [go_sem, Nat.reduceBEq, Nat.reduceAdd, Nat.reduceSub, Nat.reduceMul, Nat.reduceLeDiff, reduceCtorEq, ↓reduceIte, Int.reduceLT, Int.reduceLE, Int.reduceEq, Int.reduceNe]
          refine s_storeA (ix := 1) (α := Int) ((capN (rowT (cntT g (mostN g n)) (l.drop p) k) : Nat) : Int) rfl hAw (i := k) (by omega) ?_
          intro g2 hA2 ho2
          have hG2 := hpw g2 _ hA2 (by simp) ho2
          simp -implicitDefEqProofs only [go_sem, Nat.reduceBEq, Nat.reduceAdd, Nat.reduceSub, Nat.reduceMul, Nat.reduceLeDiff, reduceCtorEq, ↓reduceIte, Int.reduceLT, Int.reduceLE, Int.reduceEq, Int.reduceNe]
          refine Up.here ?_
          subst hRR
          have := hW.set hWi hri (p := p) (k := k) (by rw [hll]; omega) hk (List.getElem?_eq_getElem (show p < wrows.length by omega))
          rw [hll] at this
          exact ⟨gk, g2, K, _, rfl, rfl, hGk, hK, hG2, this⟩
theorem sumR_snoc (T : Int → Nat → Nat) (a : Int) (k : Nat) (r : Ru) : ∀ rs, sumR T a k (rs ++ [r]) = sumR T a k rs + (if r.l = a then rowT T r.r k else 0)
  | [] => by simp [sumR]
  | x :: rs => by
    rw [List.cons_append, sumR, sumR, sumR_snoc T a k r rs]
    omega
theorem KnI.set {g : Gr} {n : Nat} {K : List (List Int)} (h : KnI g n K) {a k : Nat} (ha : a < g.ns.toNat) (hk : k ≤ n) {row : List Int} (hrow : K[a]? = some row) : KnI g n (K.set a (row.set k ((capN (cntT g (mostN g n) a k) : Nat) : Int))) := by
  obtain ⟨h1, h2⟩ := h
  have hrl : row.length = n + 1 := h1.2 _ (List.mem_of_getElem? hrow)
  refine ⟨h1.set a (by simp [hrl]), fun a' k' w0 w1 w2 => ?_⟩
  rw [matI_set h1 ha (by omega) hrow] at w2 ⊢
  split
  · rename_i e
    rw [e.2, ← e.1, Int.toNat_of_nonneg w0]
  · rename_i e
    rw [if_neg e] at w2
    exact h2 a' k' w0 w1 w2
theorem count_step {t : Tb} {g : Gr} {n : Nat} {R : Option Addr} {cR : Nat} {H L : List (List Bool)} {E : List (List (List Bool))} {ge : PH} (P : TabP g n H L E) {h : Nat} (hprev : ∀ h', h = h' + 1 → CountC t g n R cR H L E ge h') : CountC t g n R cR H L E ge h := by
  intro Γr gk gw K W hR hGk hK hGw hW a k ha hk hL hF
  generalize hRR : CntQ t g n _ = R'
  refine ret_of_vc tr150 (Nat.le_of_ble_eq_true rfl) ?_
  simp -implicitDefEqProofs only [S150, S150_0, go_sem, Nat.reduceBEq, Nat.reduceAdd, Nat.reduceSub, Nat.reduceMul, Nat.reduceLeDiff, reduceCtorEq, ↓reduceIte, Int.reduceLT, Int.reduceLE, Int.reduceEq, Int.reduceNe]
  have hT := hR.k
  have hsh := hT.rs.short
  have V := P.V
  have hn := P.n24
  have hns := V.ns
  obtain ⟨N, hN⟩ : ∃ N : Nat, g.ns = N := ⟨g.ns.toNat, by omega⟩
  have hN' : g.ns.toNat = N := by omega
  have hHl := P.sh.1
  have hHr := P.sh.at' (i := a) (by omega)
  have hLl := P.sl.1
  have hLr := P.sl.at' (i := a) (by omega)
  have hKl := hK.1.1
  have hKr := hK.1.at' (i := a) (by omega)
  have hhas := P.hx (a : Int) k (by omega) hk
  rw [Int.toNat_natCast] at hhas
  obtain ⟨b1, o1, h1, A5, c5, hr5, hc5⟩ := hR.has.list (i := a) (by omega)
  obtain ⟨b6, o6, h6, hc6⟩ := hr5.bool (i := k) (by omega)
  have hgh := mat_get (List.getElem?_eq_getElem (show a < H.length by omega)) (show k < H[a].length by omega)
  refine s_ld (j := 5) (cells_lk (lk_r [gk, gw] _ _ _ hT.out)) (by simp [Tb.cells]) (by simp) ?_
  simp -implicitDefEqProofs only [Tb.cells, go_sem, Nat.reduceBEq, Nat.reduceAdd, Nat.reduceSub, Nat.reduceMul, Nat.reduceLeDiff, reduceCtorEq, ↓reduceIte, Int.reduceLT, Int.reduceLE, Int.reduceEq, Int.reduceNe]
  refine s_idx h1 (by omega) (by omega) ?_
  simp -implicitDefEqProofs only [go_sem, Nat.reduceBEq, Nat.reduceAdd, Nat.reduceSub, Nat.reduceMul, Nat.reduceLeDiff, reduceCtorEq, ↓reduceIte, Int.reduceLT, Int.reduceLE, Int.reduceEq, Int.reduceNe]
  refine s_ld0 (hc5 _ (lk_r [gk, gw] _)) (by simp) (by simp) ?_
  simp -implicitDefEqProofs only [go_sem, Nat.reduceBEq, Nat.reduceAdd, Nat.reduceSub, Nat.reduceMul, Nat.reduceLeDiff, reduceCtorEq, ↓reduceIte, Int.reduceLT, Int.reduceLE, Int.reduceEq, Int.reduceNe]
  refine s_idx h6 (by omega) (by omega) ?_
  simp -implicitDefEqProofs only [go_sem, Nat.reduceBEq, Nat.reduceAdd, Nat.reduceSub, Nat.reduceMul, Nat.reduceLeDiff, reduceCtorEq, ↓reduceIte, Int.reduceLT, Int.reduceLE, Int.reduceEq, Int.reduceNe]
  refine s_ld0 (hc6 _ (lk_r [gk, gw] _)) (by simp) (by simp) ?_
  generalize H[a][k] = v0 at hgh
  cases v0 with
  | false =>
    simp -implicitDefEqProofs only [go_sem, Nat.reduceBEq, Nat.reduceAdd, Nat.reduceSub, Nat.reduceMul, Nat.reduceLeDiff, reduceCtorEq, ↓reduceIte, Int.reduceLT, Int.reduceLE, Int.reduceEq, Int.reduceNe]
    refine Up.here ?_
    subst hRR
    have hz : cntT g (mostN g n) a k = 0 := by
      rcases Nat.eq_zero_or_pos (cntT g (mostN g n) a k) with e | e
      · exact e
      · have := hhas.2 e
        rw [hgh] at this
        cases this
    rw [hz]
    exact ⟨gk, gw, K, W, rfl, rfl, hGk, hK, hGw, hW⟩
  | true =>
    have hpos := hhas.1 hgh
    obtain ⟨h', rfl⟩ : ∃ h', h = h' + 1 := by
      cases h with
      | zero => have := hF.zero (mostN g n); omega
      | succ h' => exact ⟨h', rfl⟩
    have hprev : CountC t g n R cR H L E ge h' := @hprev h' rfl
    obtain ⟨b7, o7, h7, A8, c8, hr8, hc8⟩ := hR.loop.list (i := a) (by omega)
    obtain ⟨b9, o9, h9, hc9⟩ := hr8.bool (i := k) (by omega)
    have hgl := mat_get (List.getElem?_eq_getElem (show a < L.length by omega)) (show k < L[a].length by omega)
    simp -implicitDefEqProofs only [go_sem, Nat.reduceBEq, Nat.reduceAdd, Nat.reduceSub, Nat.reduceMul, Nat.reduceLeDiff, reduceCtorEq, ↓reduceIte, Int.reduceLT, Int.reduceLE, Int.reduceEq, Int.reduceNe]
    refine s_ld (j := 6) (cells_lk (lk_r [gk, gw] _ _ _ hT.out)) (by simp [Tb.cells]) (by simp) ?_
    simp -implicitDefEqProofs only [Tb.cells, go_sem, Nat.reduceBEq, Nat.reduceAdd, Nat.reduceSub, Nat.reduceMul, Nat.reduceLeDiff, reduceCtorEq, ↓reduceIte, Int.reduceLT, Int.reduceLE, Int.reduceEq, Int.reduceNe]
    refine s_idx h7 (by omega) (by omega) ?_
    simp -implicitDefEqProofs only [go_sem, Nat.reduceBEq, Nat.reduceAdd, Nat.reduceSub, Nat.reduceMul, Nat.reduceLeDiff, reduceCtorEq, ↓reduceIte, Int.reduceLT, Int.reduceLE, Int.reduceEq, Int.reduceNe]
    refine s_ld0 (hc8 _ (lk_r [gk, gw] _)) (by simp) (by simp) ?_
    simp -implicitDefEqProofs only [go_sem, Nat.reduceBEq, Nat.reduceAdd, Nat.reduceSub, Nat.reduceMul, Nat.reduceLeDiff, reduceCtorEq, ↓reduceIte, Int.reduceLT, Int.reduceLE, Int.reduceEq, Int.reduceNe]
    refine s_idx h9 (by omega) (by omega) ?_
    simp -implicitDefEqProofs only [go_sem, Nat.reduceBEq, Nat.reduceAdd, Nat.reduceSub, Nat.reduceMul, Nat.reduceLeDiff, reduceCtorEq, ↓reduceIte, Int.reduceLT, Int.reduceLE, Int.reduceEq, Int.reduceNe]
    refine s_ld0 (hc9 _ (lk_r [gk, gw] _)) (by simp) (by simp) ?_
    generalize L[a][k] = v1 at hgl
    cases v1 with
    | true => exact absurd ⟨by omega, by rw [Int.toNat_natCast]; exact hgl⟩ hL
    | false =>
      obtain ⟨kk, hck, hAk, _⟩ := hGk.at' (i := a) (by omega) (by omega)
      rw [hKr] at hck
      have hgk := matI_get (List.getElem?_eq_getElem (show a < K.length by omega)) (show k < K[a].length by omega)
      simp -implicitDefEqProofs only [go_sem, Nat.reduceBEq, Nat.reduceAdd, Nat.reduceSub, Nat.reduceMul, Nat.reduceLeDiff, reduceCtorEq, ↓reduceIte, Int.reduceLT, Int.reduceLE, Int.reduceEq, Int.reduceNe]
      refine s_ld (j := 7) (cells_lk (lk_r [gk, gw] _ _ _ hT.out)) (by simp [Tb.cells]) (by simp) ?_
      simp -implicitDefEqProofs only [Tb.cells, go_sem, Nat.reduceBEq, Nat.reduceAdd, Nat.reduceSub, Nat.reduceMul, Nat.reduceLeDiff, reduceCtorEq, ↓reduceIte, Int.reduceLT, Int.reduceLE, Int.reduceEq, Int.reduceNe]
      refine s_idx rfl (by omega) (by omega) ?_
      simp -implicitDefEqProofs only [go_sem, Nat.reduceBEq, Nat.reduceAdd, Nat.reduceSub, Nat.reduceMul, Nat.reduceLeDiff, reduceCtorEq, ↓reduceIte, Int.reduceLT, Int.reduceLE, Int.reduceEq, Int.reduceNe]
      refine s_ld0 (by simpa using hck _ (by simp)) (by simp) (by simp) ?_
      simp -implicitDefEqProofs only [go_sem, Nat.reduceBEq, Nat.reduceAdd, Nat.reduceSub, Nat.reduceMul, Nat.reduceLeDiff, reduceCtorEq, ↓reduceIte, Int.reduceLT, Int.reduceLE, Int.reduceEq, Int.reduceNe]
      refine s_idx rfl (by omega) (by omega) ?_
      simp -implicitDefEqProofs only [go_sem, Nat.reduceBEq, Nat.reduceAdd, Nat.reduceSub, Nat.reduceMul, Nat.reduceLeDiff, reduceCtorEq, ↓reduceIte, Int.reduceLT, Int.reduceLE, Int.reduceEq, Int.reduceNe]
      refine s_ld0 (hAk.num (i := k) (by omega) (by simp)) (by simp) (by simp) ?_
      simp -implicitDefEqProofs only [go_sem, Nat.reduceBEq, Nat.reduceAdd, Nat.reduceSub, Nat.reduceMul, Nat.reduceLeDiff, reduceCtorEq, ↓reduceIte, Int.reduceLT, Int.reduceLE, Int.reduceEq, Int.reduceNe]
      refine ⟨fun hge => ?_, fun hlt => ?_⟩
      · refine s_ld (j := 7) (cells_lk (lk_r [gk, gw] _ _ _ hT.out)) (by simp [Tb.cells]) (by simp) ?_
        simp -implicitDefEqProofs only [Tb.cells, go_sem, Nat.reduceBEq, Nat.reduceAdd, Nat.reduceSub, Nat.reduceMul, Nat.reduceLeDiff, reduceCtorEq, ↓reduceIte, Int.reduceLT, Int.reduceLE, Int.reduceEq, Int.reduceNe]
        refine s_idx rfl (by omega) (by omega) ?_
        simp -implicitDefEqProofs only [go_sem, Nat.reduceBEq, Nat.reduceAdd, Nat.reduceSub, Nat.reduceMul, Nat.reduceLeDiff, reduceCtorEq, ↓reduceIte, Int.reduceLT, Int.reduceLE, Int.reduceEq, Int.reduceNe]
        refine s_ld0 (by simpa using hck _ (by simp)) (by simp) (by simp) ?_
        simp -implicitDefEqProofs only [go_sem, Nat.reduceBEq, Nat.reduceAdd, Nat.reduceSub, Nat.reduceMul, Nat.reduceLeDiff, reduceCtorEq, ↓reduceIte, Int.reduceLT, Int.reduceLE, Int.reduceEq, Int.reduceNe]
        refine s_idx rfl (by omega) (by omega) ?_
        simp -implicitDefEqProofs only [go_sem, Nat.reduceBEq, Nat.reduceAdd, Nat.reduceSub, Nat.reduceMul, Nat.reduceLeDiff, reduceCtorEq, ↓reduceIte, Int.reduceLT, Int.reduceLE, Int.reduceEq, Int.reduceNe]
        refine s_ld0 (hAk.num (i := k) (by omega) (by simp)) (by simp) (by simp) ?_
        simp -implicitDefEqProofs only [go_sem, Nat.reduceBEq, Nat.reduceAdd, Nat.reduceSub, Nat.reduceMul, Nat.reduceLeDiff, reduceCtorEq, ↓reduceIte, Int.reduceLT, Int.reduceLE, Int.reduceEq, Int.reduceNe]
        refine Up.here ?_
        subst hRR
        refine ⟨gk, gw, K, W, rfl, ?_, hGk, hK, hGw, hW⟩
        rw [← hgk] at hge ⊢
        have := hK.2 (a : Int) k (by omega) hk (by rw [Int.toNat_natCast]; exact hge)
        rw [Int.toNat_natCast] at this
        rw [this]
      · clear hgk hAk hck hlt
        refine s_ld (j := 3) (cells_lk (lk_r [gk, gw] _ _ _ hT.out)) (by simp [Tb.cells]) (by simp) ?_
        simp -implicitDefEqProofs only [Tb.cells, go_sem, Nat.reduceBEq, Nat.reduceAdd, Nat.reduceSub, Nat.reduceMul, Nat.reduceLeDiff, reduceCtorEq, ↓reduceIte, Int.reduceLT, Int.reduceLE, Int.reduceEq, Int.reduceNe]
        refine s_loop (fun f vs Γ => ∃ (gk gw : PH) (K : List (List Int)) (W : List (List (List Int))) (i : Nat), vs = [.v true (.int .i64 (capN (sumR (cntT g (mostN g n)) a k (g.rs.take i)) : Nat)), .v true (.int .i64 (i : Int))] ∧ Γ = [gk, gw] ∧ i + f = g.rs.length ∧ Grid gk t.bk 29 3 K ∧ KnI g n K ∧ Cube gw 29 3 t.bw W ∧ WyI g n W) g.rs.length
          (Up.here ⟨gk, gw, K, W, 0, rfl, rfl, by omega, hGk, hK, hGw, hW⟩) ?_
        clear hGk hK hGw hW
        rintro f vs Γ ⟨gk, gw, K, W, i, rfl, rfl, hif, hGk, hK, hGw, hW⟩
        simp -implicitDefEqProofs only [S150_3, go_sem, Nat.reduceBEq, Nat.reduceAdd, Nat.reduceSub, Nat.reduceMul, Nat.reduceLeDiff, reduceCtorEq, ↓reduceIte, Int.reduceLT, Int.reduceLE, Int.reduceEq, Int.reduceNe]
        refine ⟨fun hlt => ?_, fun hge => ?_⟩
        · have hi : i < g.rs.length := by omega
          have hmem := List.getElem_mem hi
          have hleft := V.left _ hmem
          have htk : g.rs.take (i + 1) = g.rs.take i ++ [g.rs[i]] := List.take_succ_eq_append_getElem hi
          have hsn := sumR_snoc (cntT g (mostN g n)) a k g.rs[i] (g.rs.take i)
          rw [← htk] at hsn
          obtain ⟨b0, o0, h0, A1, c1, hr1, hcr⟩ := hT.rs.ru hi
          have hway := fun (hl : g.rs[i].l = (a : Int)) => way_of P @hprev hi g.rs[i].r.length 0 k (by omega) hk (fun b j q => by
            rw [List.drop_zero] at q
            have he : Ed g (mostN g n) a k b j := ⟨_, hmem, hl, q⟩
            exact ⟨hF.down he, fun q' => hL (P.lp.pre _ _ _ _ hk he q')⟩) (Γr := Γr) hR hGk hK hGw hW
          generalize hrr : g.rs[i] = r at *
          refine s_split ?_
          simp -implicitDefEqProofs only [S150_1, go_sem, Nat.reduceBEq, Nat.reduceAdd, Nat.reduceSub, Nat.reduceMul, Nat.reduceLeDiff, reduceCtorEq, ↓reduceIte, Int.reduceLT, Int.reduceLE, Int.reduceEq, Int.reduceNe]
          refine s_idx h0 (by omega) (by omega) ?_
          simp -implicitDefEqProofs only [go_sem, Nat.reduceBEq, Nat.reduceAdd, Nat.reduceSub, Nat.reduceMul, Nat.reduceLeDiff, reduceCtorEq, ↓reduceIte, Int.reduceLT, Int.reduceLE, Int.reduceEq, Int.reduceNe]
          refine s_ld0 (by simpa using hcr _ (lk_r [gk, gw] _)) (by simp) (by simp) ?_
          simp -implicitDefEqProofs only [go_sem, Nat.reduceBEq, Nat.reduceAdd, Nat.reduceSub, Nat.reduceMul, Nat.reduceLeDiff, reduceCtorEq, ↓reduceIte, Int.reduceLT, Int.reduceLE, Int.reduceEq, Int.reduceNe]
          refine ⟨fun heq => ?_, fun hne => ?_⟩
          · refine CallVC.perm (Γm := [gk, gw]) (Γf := []) (hway heq) (List.Perm.refl _) (List.Sublist.refl _) ?_
            rintro v Γ' ⟨gk, gw, K, W, rfl, rfl, hGk, hK, hGw, hW⟩
            simp -implicitDefEqProofs only [S150_2, go_sem, Nat.reduceBEq, Nat.reduceAdd, Nat.reduceSub, Nat.reduceMul, Nat.reduceLeDiff, reduceCtorEq, ↓reduceIte, Int.reduceLT, Int.reduceLE, Int.reduceEq, Int.reduceNe]
            rw [if_pos heq] at hsn
            refine Up.here ⟨f - 1, by omega, Up.here ⟨gk, gw, K, W, i + 1, ?_, rfl, by omega, hGk, hK, hGw, hW⟩⟩
            rw [sum_arith, hsn, wrap_id (by omega) (by omega)]
            rfl
          · simp -implicitDefEqProofs only [S150_2, go_sem, Nat.reduceBEq, Nat.reduceAdd, Nat.reduceSub, Nat.reduceMul, Nat.reduceLeDiff, reduceCtorEq, ↓reduceIte, Int.reduceLT, Int.reduceLE, Int.reduceEq, Int.reduceNe]
            rw [if_neg hne, Nat.add_zero] at hsn
            refine Up.here ⟨f - 1, by omega, Up.here ⟨gk, gw, K, W, i + 1, ?_, rfl, by omega, hGk, hK, hGw, hW⟩⟩
            rw [hsn, wrap_id (by omega) (by omega)]
            rfl
        · have hie : i = g.rs.length := by omega
          subst hie
          rw [List.take_length]
          have hsum : sumR (cntT g (mostN g n)) a k g.rs = cntT g (mostN g n) a k := P.lp.stays V hk hL (h := mostN g n + 1) (by omega)
          rw [hsum]
          have hKl := hK.1.1
          have hKr := hK.1.at' (i := a) (by omega)
          obtain ⟨kk, hck, hAk, hpk⟩ := hGk.at' (i := a) (by omega) (by omega)
          rw [hKr] at hck
          refine s_ld (j := 7) (cells_lk (lk_r [gk, gw] _ _ _ hT.out)) (by simp [Tb.cells]) (by simp) ?_
          simp -implicitDefEqProofs only [Tb.cells, go_sem, Nat.reduceBEq, Nat.reduceAdd, Nat.reduceSub, Nat.reduceMul, Nat.reduceLeDiff, reduceCtorEq, ↓reduceIte, Int.reduceLT, Int.reduceLE, Int.reduceEq, Int.reduceNe]
          refine s_idx rfl (by omega) (by omega) ?_
          simp -implicitDefEqProofs only [go_sem, Nat.reduceBEq, Nat.reduceAdd, Nat.reduceSub, Nat.reduceMul, Nat.reduceLeDiff, reduceCtorEq, ↓reduceIte, Int.reduceLT, Int.reduceLE, Int.reduceEq, Int.reduceNe]
          refine s_ld0 (by simpa using hck _ (by simp)) (by simp) (by simp) ?_
          simp -implicitDefEqProofs only [go_sem, Nat.reduceBEq, Nat.reduceAdd, Nat.reduceSub, Nat.reduceMul, Nat.reduceLeDiff, reduceCtorEq, ↓reduceIte, Int.reduceLT, Int.reduceLE, Int.reduceEq, Int.reduceNe]
          refine s_idx rfl (by omega) (by omega) ?_
          simp -implicitDefEqProofs only [go_sem, Nat.reduceBEq, Nat.reduceAdd, Nat.reduceSub, Nat.reduceMul, Nat.reduceLeDiff, reduceCtorEq, ↓reduceIte, Int.reduceLT, Int.reduceLE, Int.reduceEq, Int.reduceNe]
          refine s_storeA (ix := 0) (α := Int) ((capN (cntT g (mostN g n) a k) : Nat) : Int) rfl hAk (i := k) (by omega) ?_
          intro g2 hA2 ho2
          have hG2 := hpk g2 _ hA2 (by simp) ho2
          simp -implicitDefEqProofs only [go_sem, Nat.reduceBEq, Nat.reduceAdd, Nat.reduceSub, Nat.reduceMul, Nat.reduceLeDiff, reduceCtorEq, ↓reduceIte, Int.reduceLT, Int.reduceLE, Int.reduceEq, Int.reduceNe]
          refine Up.here ?_
          subst hRR
          exact ⟨g2, gw, _, W, rfl, rfl, hG2, hK.set (by omega) hk (List.getElem?_eq_getElem (by omega)), hGw, hW⟩
theorem count_all {t : Tb} {g : Gr} {n : Nat} {R : Option Addr} {cR : Nat} {H L : List (List Bool)} {E : List (List (List Bool))} {ge : PH} (P : TabP g n H L E) : ∀ h, CountC t g n R cR H L E ge h
  | 0 => count_step P (fun h' e => by omega)
  | h + 1 => count_step P (fun h' e => by
    have : h' = h := by omega
    subst this
    exact @count_all _ _ _ _ _ _ _ _ _ P h')
end Go.Proofs.Ytniobbepliknmaa.V
/- The text of parlance/census.newTable as a statement (slots: 0 g, 1 n, 2 g, 3 n, 5 t, 6 _, 7 r); no condition. -/
namespace Go.Proofs.Ytniobbepliknmaa.V
open Go
def S147_1 : Stmt :=
 .seq
 (.region [.mk (some 31) none (.ibin .lss (.tmp 30) (.tmp 29))] [1,5,28,29,30,31])
 (.seq (.cond (.tmp 31) .skip (.exit 0))
 (.seq
 (.block 1
 (.seq
 (.region
 [.mk (some 32) none (.idx 2 (.tmp 28) (.tmp 30)),
 .mk (some 33) none (.load true 2 (.tmp 32)),
 .mk (some 7) none
 (.alloc true 37 (.agg (Array.mk [.int .i64 0,.slice none 0 0]))),
 .mk none none (.store 2 (.tmp 7) (.tmp 33))]
 [1,5,7,28,29,30])
 (.seq
 (.tree
 (.q (false,.mk (some 34) none (.mv (.tmp 5)))
 (.q (false,.mk (some 35) none (.mv (.tmp 5)))
 (.q (false,.mk (some 39) none (.fld 1 (.tmp 7)))
 (.q (false,.mk (some 43) none (.mv (.tmp 1)))
 (.q (false,.mk (some 36) none (.nilCheck (.tmp 35)))
 (.q (false,.mk (some 40) none (.load false 1 (.tmp 39)))
 (.q
 (false,
 .mk (some 44) none
 (.ibin .add (.tmp 43) (.const (.int .i64 1))))
 (.q (false,.mk (some 37) none (.fld 8 (.tmp 36)))
 (.q (false,.mk (some 41) none (.len false (.tmp 40)))
 (.q
 (false,
 .mk (some 42) none
 (.ibin .add (.tmp 41) (.const (.int .i64 1))))
 (.alt (false,.mk (some 38) none (.load false 1 (.tmp 37)))
 (.alt
 (false,
 .mk (some 45) none
 (.call (.func 184)
 [.tmp 42,.tmp 44,.const (.bool false)]))
 (.alt
 (false,
 .mk (some 46) none
 (.buildS 154 1 [.slice none 0 0] [(0,1,.tmp 45)]))
 (.alt
 (false,
 .mk (some 47) none
 (.append 243 154 1 24 (.slice none 0 0) (.tmp 38)
 (.tmp 46)))
 (.q (false,.mk (some 48) none (.nilCheck (.tmp 34)))
 (.q (false,.mk (some 49) none (.fld 8 (.tmp 48)))
 (.alt
 (false,
 .mk none none (.store 1 (.tmp 49) (.tmp 47)))
 .fin .no)))
 .no)
 .no)
 .no)
 (.alt
 (false,
 .mk (some 45) none
 (.call (.func 184)
 [.tmp 42,.tmp 44,.const (.bool false)]))
 (.alt (false,.mk (some 38) none (.load false 1 (.tmp 37)))
 (.alt
 (false,
 .mk (some 46) none
 (.buildS 154 1 [.slice none 0 0] [(0,1,.tmp 45)]))
 (.alt
 (false,
 .mk (some 47) none
 (.append 243 154 1 24 (.slice none 0 0) (.tmp 38)
 (.tmp 46)))
 (.q (false,.mk (some 48) none (.nilCheck (.tmp 34)))
 (.q (false,.mk (some 49) none (.fld 8 (.tmp 48)))
 (.alt
 (false,
 .mk none none (.store 1 (.tmp 49) (.tmp 47)))
 .fin .no)))
 .no)
 .no)
 (.alt
 (false,
 .mk (some 46) none
 (.buildS 154 1 [.slice none 0 0] [(0,1,.tmp 45)]))
 (.alt (false,.mk (some 38) none (.load false 1 (.tmp 37)))
 (.alt
 (false,
 .mk (some 47) none
 (.append 243 154 1 24 (.slice none 0 0) (.tmp 38)
 (.tmp 46)))
 (.q (false,.mk (some 48) none (.nilCheck (.tmp 34)))
 (.q (false,.mk (some 49) none (.fld 8 (.tmp 48)))
 (.alt
 (false,
 .mk none none
 (.store 1 (.tmp 49) (.tmp 47)))
 .fin .no)))
 .no)
 .no)
 .no))
 .no))))))))))))
 [1,5,7,28,29,30])
 (.tree
 (.q (false,.mk (some 50) none (.mv (.tmp 5)))
 (.q (false,.mk (some 51) none (.mv (.tmp 5)))
 (.q (false,.mk (some 55) none (.fld 1 (.tmp 7)))
 (.q (false,.mk (some 59) none (.mv (.tmp 1)))
 (.q (false,.mk (some 52) none (.nilCheck (.tmp 51)))
 (.q (false,.mk (some 56) none (.load false 1 (.tmp 55)))
 (.q
 (false,
 .mk (some 60) none
 (.ibin .add (.tmp 59) (.const (.int .i64 1))))
 (.q (false,.mk (some 53) none (.fld 9 (.tmp 52)))
 (.q (false,.mk (some 57) none (.len false (.tmp 56)))
 (.q
 (false,
 .mk (some 58) none
 (.ibin .add (.tmp 57) (.const (.int .i64 1))))
 (.alt (false,.mk (some 54) none (.load false 1 (.tmp 53)))
 (.alt
 (false,
 .mk (some 61) none
 (.call (.func 185)
 [.tmp 58,.tmp 60,
 .const (.int .i64 (-1))]))
 (.alt
 (false,
 .mk (some 62) none
 (.buildS 65 1 [.slice none 0 0] [(0,1,.tmp 61)]))
 (.alt
 (false,
 .mk (some 63) none
 (.append 170 65 1 24 (.slice none 0 0) (.tmp 54)
 (.tmp 62)))
 (.q (false,.mk (some 64) none (.nilCheck (.tmp 50)))
 (.q (false,.mk (some 65) none (.fld 9 (.tmp 64)))
 (.alt
 (false,
 .mk none none (.store 1 (.tmp 65) (.tmp 63)))
 .fin .no)))
 .no)
 .no)
 .no)
 (.alt
 (false,
 .mk (some 61) none
 (.call (.func 185)
 [.tmp 58,.tmp 60,
 .const (.int .i64 (-1))]))
 (.alt (false,.mk (some 54) none (.load false 1 (.tmp 53)))
 (.alt
 (false,
 .mk (some 62) none
 (.buildS 65 1 [.slice none 0 0] [(0,1,.tmp 61)]))
 (.alt
 (false,
 .mk (some 63) none
 (.append 170 65 1 24 (.slice none 0 0) (.tmp 54)
 (.tmp 62)))
 (.q (false,.mk (some 64) none (.nilCheck (.tmp 50)))
 (.q (false,.mk (some 65) none (.fld 9 (.tmp 64)))
 (.alt
 (false,
 .mk none none (.store 1 (.tmp 65) (.tmp 63)))
 .fin .no)))
 .no)
 .no)
 (.alt
 (false,
 .mk (some 62) none
 (.buildS 65 1 [.slice none 0 0] [(0,1,.tmp 61)]))
 (.alt (false,.mk (some 54) none (.load false 1 (.tmp 53)))
 (.alt
 (false,
 .mk (some 63) none
 (.append 170 65 1 24 (.slice none 0 0) (.tmp 54)
 (.tmp 62)))
 (.q (false,.mk (some 64) none (.nilCheck (.tmp 50)))
 (.q (false,.mk (some 65) none (.fld 9 (.tmp 64)))
 (.alt
 (false,
 .mk none none
 (.store 1 (.tmp 65) (.tmp 63)))
 .fin .no)))
 .no)
 .no)
 .no))
 .no))))))))))))
 [1,5,28,29,30]))))
 (.region
 [.mk (some 66) none (.ibin .add (.tmp 30) (.const (.int .i64 1))),
 .mk (some 30) none (.mv (.tmp 66))]
 [1,5,28,29,30])))
def S147_0 : Stmt :=
 .seq
 (.region
 [.mk (some 2) none (.box true 57 (.tmp 0)),
 .mk (some 4) none (.mv (.const (.pointer none)))]
 [1,2])
 (.seq
 (.drawn
 [(true,.mk (some 8) none (.load true 4 (.tmp 2))),
 (false,.mk (some 9) none (.mv (.tmp 1))),
 (false,.mk (some 10) none (.fld 1 (.tmp 2))),
 (false,.mk (some 11) none (.load false 1 (.tmp 10))),
 (false,.mk (some 12) none (.mv (.tmp 1))),
 (false,
 .mk (some 13) none (.ibin .add (.tmp 12) (.const (.int .i64 1)))),
 (false,.mk (some 15) none (.fld 1 (.tmp 2))),
 (true,.mk (some 16) none (.load false 1 (.tmp 15))),
 (false,.mk (some 17) none (.mv (.tmp 1))),
 (false,
 .mk (some 18) none (.ibin .add (.tmp 17) (.const (.int .i64 1)))),
 (false,.mk (some 20) none (.fld 1 (.tmp 2))),
 (true,.mk (some 21) none (.load false 1 (.tmp 20))),
 (false,.mk (some 22) none (.mv (.tmp 1))),
 (false,
 .mk (some 23) none (.ibin .add (.tmp 22) (.const (.int .i64 1)))),
 (false,
 .mk (some 14) none
 (.call (.func 184) [.tmp 11,.tmp 13,.const (.bool false)])),
 (false,
 .mk (some 19) none
 (.call (.func 184) [.tmp 16,.tmp 18,.const (.bool false)])),
 (false,
 .mk (some 24) none
 (.call (.func 185) [.tmp 21,.tmp 23,.const (.int .i64 (-1))])),
 (false,
 .mk (some 25) none
 (.build 245
 [.int .i64 0,.int .i64 0,.int .i64 0,.slice none 0 0,
 .int .i64 0,.slice none 0 0,.slice none 0 0,.slice none 0 0,
 .slice none 0 0,.slice none 0 0]
 [(0,4,.tmp 8),(4,1,.tmp 9),(5,1,.tmp 14),(6,1,.tmp 19),
 (7,1,.tmp 24)])),
 (false,.mk (some 26) none (.box false 245 (.tmp 25))),
 (false,.mk (some 5) none (.mv (.tmp 26)))]
 [1,2,5])
 (.seq
 (.seq
 (.region
 [.mk (some 27) none (.fld 3 (.tmp 2)),
 .mk (some 28) none (.load false 1 (.tmp 27)),
 .mk (some 29) none (.len false (.tmp 28)),
 .mk (some 30) none (.mv (.const (.int .i64 0)))]
 [1,5,28,29,30])
 (.block 0 (.loop S147_1 [30] [1,5,28,29])))
 (.seq
 (.region
 [.mk (some 67) none (.mv (.tmp 5)),.mk (some 4) none (.mv (.tmp 67))] [4])
 .ret)))
def S147 : FnS := ⟨68,[(4,none)],S147_0⟩
theorem tr147 : trFn Try.prog 147 [2,7] [[1,2],[1,2,5],[0,1,2,3,4,5,7,8,9,10,12,13,14,15,6,11,16,17,18,19],[0,8,13],[],[],[],[2],[],[4],[2,3,4,5],[],[7],[],[9],[2,3,4,5,6,7,8,9,10],[],[12],[],[14],[2,3,4,5,6,7,8,9,10,11,12,13,14,15],[0,1,2,3,4,5,6,7,8,9,10,11,12,13,14,15,16],[0,1,2,3,4,5,6,7,8,9,10,11,12,13,14,15,16,17],[0,1,2,3,4,5,6,7,8,9,10,11,12,13,14,15,16,17,18],[1,5,28,29,30],[30],[1,5,28,29],[1,5,28,29,30,31],[1,5,7,28,29,30],[1,5,7,28,29,30],[],[2,0,2,1,2,5,2,9,2,2,2,6,2,10,2,3,2,7,2,8,3,4,3,11,3,12,3,13,2,14,2,15,3,16,0,1,1,1,1,3,11,3,4,3,12,3,13,2,14,2,15,3,16,0,1,1,1,3,12,3,4,3,13,2,14,2,15,3,16,0,1,1,1,1,1],[],[],[],[1],[1,2],[1,2,3],[],[5],[5,6],[5,6,7],[],[9],[5,6,7,8,9,10],[5,6,7,8,9,10,11],[1,2,3,4,5,6,7,8,9,10,11,12],[0,1,2,3,4,5,6,7,8,9,10,11,12,13],[0,1,2,3,4,5,6,7,8,9,10,11,12,13,14],[0,1,2,3,4,5,6,7,8,9,10,11,12,13,14,15],[1,5,28,29,30],[],[2,0,2,1,2,5,2,9,2,2,2,6,2,10,2,3,2,7,2,8,3,4,3,11,3,12,3,13,2,14,2,15,3,16,0,1,1,1,1,3,11,3,4,3,12,3,13,2,14,2,15,3,16,0,1,1,1,3,12,3,4,3,13,2,14,2,15,3,16,0,1,1,1,1,1],[],[],[],[1],[1,2],[1,2,3],[],[5],[5,6],[5,6,7],[],[9],[5,6,7,8,9,10],[5,6,7,8,9,10,11],[1,2,3,4,5,6,7,8,9,10,11,12],[0,1,2,3,4,5,6,7,8,9,10,11,12,13],[0,1,2,3,4,5,6,7,8,9,10,11,12,13,14],[0,1,2,3,4,5,6,7,8,9,10,11,12,13,14,15],[1,5,28,29,30],[4]] = some S147 := by kernel_rfl
end Go.Proofs.Ytniobbepliknmaa.V
namespace Go.Proofs.Ytniobbepliknmaa.V
open Go
set_option linter.unusedVariables false
set_option linter.unusedSimpArgs false
/- census: newTable walked; no condition. -/
attribute [local go_sem] e_seq e_region e_quiet e_join e_loop e_cond e_block e_exit e_ret e_skip e_fin e_kseq e_snrm e_sret e_sex e_bnrm e_bret e_bex e_rnrm e_rret e_res e_condC e_nil e_g e_mv g_mv e_pick g_pick pickC_eq e_ibin g_ibin ibinC_eq e_sbin g_sbin e_beq g_beq beqC_eq e_nilq g_nilq nilqC_sl nilqC_pt nilqC_mp e_un g_un unC_not unC_neg e_conv g_conv convC_eq e_fld g_fld fldC_ref fldC_ptr e_nilCheck g_nilCheck nilCheckC_ref nilCheckC_ptr nilCheckC_fun e_field g_field fieldC_eq e_len g_len lenC_sl lenC_str e_extract g_extract extractC_eq e_mkFunc e_build g_build e_idiv g_idiv idivC_eq e_ishift g_ishift ishiftC_eq e_idx g_idx e_idxA g_idxA e_load g_load e_loadB g_loadB atB_ref atB_v g_mkFunc loadC_ref loadC_ptr loadB_eq e_slc g_slc e_box boxC_loc boxC_esc e_alloc allocC_loc allocC_esc e_buildS e_store storeC_ref storeC_ptr storeB_eq e_append e_appz e_mk mkC_eq e_call callC_eq e_fn g_fn fnC_eq fnV_min' fnV_max' fnV_rune' e_q g_q e_a e_n g_call g_box g_alloc g_buildS g_store g_append g_mk g_a g_n g_dead e_dead e_callK e_drawn e_tree e_finJ e_tk e_tfin e_tno e_nbt_q e_nbt_qn e_nbt_a e_nbt_an e_nbt_fin e_drawnB e_bxb_nil e_bxb e_stB_none e_stB_some boxSt_store bs_mv bs_pick bs_ibin bs_idiv bs_ishift bs_sbin bs_beq bs_nilq bs_un bs_conv bs_box bs_alloc bs_build bs_buildS bs_load bs_fld bs_nilCheck bs_idx bs_idxA bs_field bs_slc bs_len bs_append bs_appz bs_mk bs_call bs_extract bs_mkFunc bs_fn bs_q bs_a bs_n bs_loadB bs_dead isBox_box e_early_nil e_early_t e_early_f e_nob_nil e_nob_none e_nob_some isBox_dead isBox_v isBox_ref e_dnil e_dk e_ek e_finB vcOps_vc1 e_dcons e_tq e_ekt e_tearly e_talt e_dearly look_nil look_c proj_nil proj_c looks_nil looks_c zip_nil zip_c val_tmp val_const val_func slv_v slv_box slv_ref slot_tmp slot_const slot_func slotL_v slotL_box slotL_ref put_some put_none updBox_c boxSet_box gd_eq slotVals_nil slotVals_c slotVals_b boxV_box boxOn_box slotsOn_nil slotsOn_c slotsOn_b resV_one resV_two vals_nil vals_c allOn_nil allOn_c partOn_nil partOn_c partVals_nil partVals_c fits_nil fits_c fillL_nil fillL_c mkv_one mkv_agg cellsV_agg cellsV_int cellsV_bool cellsV_slice cellsV_string cellsV_pointer cellsV_func cellsV_nilf cellsV_map one'_nil one'_c oc_int oc_bool oc_slice oc_string oc_pointer oc_func oc_nilf oc_map setC_eq iv_add iv_sub iv_mul iv_eql iv_neq iv_lss iv_leq iv_gtr iv_geq iok_add iok_sub iok_mul iok_eql iok_neq iok_lss iok_leq iok_gtr iok_geq pickV_bool args0_nil args0_c bnd_none bnd_some imp_bt imp_bf imp_ebt imp_ebf imp_eb1 imp_np imp_pp beq_tt beq_tf beq_ft beq_ff cond_or cond_and e_round e_meet Int.le_refl Int.toNat_zero decide_true decide_false Bool.or_false Bool.false_or Bool.true_or Bool.or_true Bool.and_false Bool.false_and Bool.bne_false Bool.bne_true beq_iff_eq Int.cast_ofNat_Int not_false_eq_true not_true_eq_false false_and and_false false_implies true_implies true_and and_true Bool.true_and Bool.and_true Bool.not_true Bool.not_false forall_const implies_true List.take_zero List.drop_zero List.take_succ_cons List.drop_succ_cons List.take_nil List.drop_nil List.length_cons List.length_nil List.nil_append List.append_nil List.cons_append Int.toNat_natCast decide_eq_true_eq decide_eq_false_iff_not cond_true cond_false and_self List.getElem?_cons_zero List.getElem?_cons_succ List.set_cons_zero List.set_cons_succ Option.some.injEq exists_eq_left' Nat.zero_add Nat.add_zero Nat.mul_one imp_self true_or or_true or_false false_or Bool.or_eq_true Bool.or_eq_false_iff Bool.and_eq_true Bool.and_eq_false_iff Bool.not_eq_true' Bool.not_eq_false'

def made3 {α : Type} (rs : List Ru) (n : Nat) (z : α) : List (List (List α)) := rs.map fun r => List.replicate (r.r.length + 1) (List.replicate (n + 1) z)
/-- headers of the grids so far -/
def hdR (bs : List Nat) (rs : List Ru) : List Hd := List.zipWith (fun b (r : Ru) => ⟨some ⟨b, 0, none⟩, r.r.length + 1, r.r.length + 1⟩) bs rs
theorem hdR_snoc {bs : List Nat} {rs : List Ru} (h : bs.length = rs.length) (b : Nat) (r : Ru) : hdR (bs ++ [b]) (rs ++ [r]) = hdR bs rs ++ [⟨some ⟨b, 0, none⟩, r.r.length + 1, r.r.length + 1⟩] := by
  unfold hdR
  rw [List.zipWith_append h]
  rfl
theorem hdR_len {bs : List Nat} {rs : List Ru} (h : bs.length = rs.length) : (hdR bs rs).length = rs.length := by simp [hdR, h]
def ntC (g : Gr) (n : Nat) (R : Option Addr) (cR b1 b2 b3 : Nat) (va vb : Value) : List Value :=
  [.int .i64 g.ts, .int .i64 g.ns, .int .i64 g.st, .slice R g.rs.length cR, .int .i64 (n : Int), .slice (some ⟨b1, 0, none⟩) g.ns.toNat g.ns.toNat, .slice (some ⟨b2, 0, none⟩) g.ns.toNat g.ns.toNat, .slice (some ⟨b3, 0, none⟩) g.ns.toNat g.ns.toNat, va, vb]
theorem new_table {Γr : Ctx} {g : Gr} (V : VG g) {R : Option Addr} {cR : Nat} (hx : SlOk (lk Γr) R cR g.rs) {n : Nat} (hn : n ≤ 24) :
    Ret Try.prog 147 [.agg #[.int .i64 g.ts, .int .i64 g.ns, .int .i64 g.st, .slice R g.rs.length cR], .int .i64 (n : Int)] Γr [] (fun v Γ => ∃ t gt gh gl gk ge gw, Γ = [gt, gh, gl, gk, ge, gw] ∧ v = .pointer (some ⟨t.b, 0, none⟩) ∧ TabK (lk ([gt] ++ Γr)) t g n R cR ∧
      Grid gh t.bh 22 4 (List.replicate g.ns.toNat (List.replicate (n + 1) false)) ∧ Grid gl t.bl 22 4 (List.replicate g.ns.toNat (List.replicate (n + 1) false)) ∧ Grid gk t.bk 29 3 (List.replicate g.ns.toNat (List.replicate (n + 1) (-1 : Int))) ∧ Cube ge 22 4 t.be (made3 g.rs n false) ∧ Cube gw 29 3 t.bw (made3 g.rs n (-1 : Int))) := by
  generalize hR : (fun (v : Value) (Γ : Ctx) => ∃ t gt gh gl gk ge gw, _) = R'
  refine ret_of_vc tr147 (Nat.le_of_ble_eq_true rfl) ?_
  have hvl := V.len
  have hsh := hx.short
  have hns := V.ns
  obtain ⟨N, hN⟩ : ∃ N : Nat, g.ns = N := ⟨g.ns.toNat, by omega⟩
  have hN' : g.ns.toNat = N := by omega
  rw [hN'] at hR
  simp -implicitDefEqProofs only [S147, S147_0, go_sem, Nat.reduceBEq, Nat.reduceAdd, Nat.reduceSub, Nat.reduceMul, Nat.reduceLeDiff, reduceCtorEq, ↓reduceIte, Int.reduceLT, Int.reduceLE, Int.reduceEq, Int.reduceNe]
  intro bg
  refine s_drawn [] [] (Ent.refl _) ?_
  simp -implicitDefEqProofs only [go_sem, Nat.reduceBEq, Nat.reduceAdd, Nat.reduceSub, Nat.reduceMul, Nat.reduceLeDiff, reduceCtorEq, ↓reduceIte, Int.reduceLT, Int.reduceLE, Int.reduceEq, Int.reduceNe]
  simp (disch := omega) only [wrap_id]
  rw [hN, show (n : Int) + 1 = ((n + 1 : Nat) : Int) by omega]
  refine CallVC.read (rows_bool (Γr := [] ++ ([] ++ Γr)) N (n + 1) false (by omega) (by omega)) ?_
  rintro v Γ' ⟨g1, b1, rfl, rfl, hG1⟩
  simp -implicitDefEqProofs only [go_sem, Nat.reduceBEq, Nat.reduceAdd, Nat.reduceSub, Nat.reduceMul, Nat.reduceLeDiff, reduceCtorEq, ↓reduceIte, Int.reduceLT, Int.reduceLE, Int.reduceEq, Int.reduceNe]
  refine CallVC.read (rows_bool (Γr := [g1] ++ Γr) N (n + 1) false (by omega) (by omega)) ?_
  rintro v Γ' ⟨g2, b2, rfl, rfl, hG2⟩
  simp -implicitDefEqProofs only [go_sem, Nat.reduceBEq, Nat.reduceAdd, Nat.reduceSub, Nat.reduceMul, Nat.reduceLeDiff, reduceCtorEq, ↓reduceIte, Int.reduceLT, Int.reduceLE, Int.reduceEq, Int.reduceNe]
  refine CallVC.read (rows_int (Γr := [g2, g1] ++ Γr) N (n + 1) (-1) (by omega) (by omega)) ?_
  rintro v Γ' ⟨g3, b3, rfl, rfl, hG3⟩
  simp -implicitDefEqProofs only [go_sem, Nat.reduceBEq, Nat.reduceAdd, Nat.reduceSub, Nat.reduceMul, Nat.reduceLeDiff, reduceCtorEq, ↓reduceIte, Int.reduceLT, Int.reduceLE, Int.reduceEq, Int.reduceNe]
  intro bt
  rw [show (Value.int IntKind.i64 (N : Int)) = .int .i64 g.ns by rw [hN]]
  have hgt0 : (one bt (.cells #[.int .i64 g.ts, .int .i64 g.ns, .int .i64 g.st, .slice R g.rs.length cR, .int .i64 (n : Int), .slice (some ⟨b1, 0, none⟩) N N, .slice (some ⟨b2, 0, none⟩) N N, .slice (some ⟨b3, 0, none⟩) N N, .slice none 0 0, .slice none 0 0] 245)) bt = some (.cells (ntC g n R cR b1 b2 b3 (.slice none 0 0) (.slice none 0 0)).toArray 245 (0, 0)) := by
    rw [one_self, ntC, hN']
  revert hgt0
  generalize one bt _ = gt
  intro hgt
  refine s_loop (fun f vs Γ => ∃ (i : Nat) (gt ga gb ge gw : PH) (va vb : Value) (be bw : List Nat), vs = [.v true (.int .i64 (i : Int))] ∧ Γ = [gt, ga, gb, ge, gw, g3, g2, g1] ∧ i + f = g.rs.length ∧ gt bt = some (.cells (ntC g n R cR b1 b2 b3 va vb).toArray 245 (0, 0)) ∧ Bld ga (lk []) 154 va (hdR be (g.rs.take i)) ∧ Bld gb (lk []) 65 vb (hdR bw (g.rs.take i)) ∧
    Cube ge 22 4 be (made3 (g.rs.take i) n false) ∧ Cube gw 29 3 bw (made3 (g.rs.take i) n (-1 : Int)) ∧ be.length = i ∧ bw.length = i) g.rs.length
    (Up.to [gt, emp, emp, emp, emp, g3, g2, g1] ((Ent.emps _ 4).trans (Ent.perm (List.perm_middle (l₁ := List.replicate 4 emp)))) ⟨0, gt, emp, emp, emp, emp, _, _, [], [], rfl, rfl, by omega, hgt, Bld.nil _ _ _, Bld.nil _ _ _, Cube.nil _ _ _, Cube.nil _ _ _, rfl, rfl⟩) ?_
  clear hgt
  rintro f vs Γ ⟨i, gt, ga, gb, ge, gw, va, vb, be, bw, rfl, rfl, hif, hgt, hBa, hBb, hCe, hCw, hle, hlw⟩
  have htl : (g.rs.take i).length = i := by simp; omega
  have hla := hdR_len (bs := be) (rs := g.rs.take i) (by omega)
  have hlb := hdR_len (bs := bw) (rs := g.rs.take i) (by omega)
  obtain ⟨Aa, ca, rfl⟩ := hBa.val
  obtain ⟨Ab, cb, rfl⟩ := hBb.val
  simp -implicitDefEqProofs only [S147_1, go_sem, Nat.reduceBEq, Nat.reduceAdd, Nat.reduceSub, Nat.reduceMul, Nat.reduceLeDiff, reduceCtorEq, ↓reduceIte, Int.reduceLT, Int.reduceLE, Int.reduceEq, Int.reduceNe]
  refine ⟨fun hlt => ?_, fun hge => ?_⟩
  · have hi : i < g.rs.length := by omega
    have hr4 := V.right _ (List.getElem_mem hi)
    have htk : g.rs.take (i + 1) = g.rs.take i ++ [g.rs[i]] := List.take_succ_eq_append_getElem hi
    obtain ⟨b0, o0, h0, A1, c1, hr1, hcr⟩ := hx.ru hi
    generalize g.rs[i] = r at *
    have hw1 : IntKind.i64.wrap ((r.r.length : Int) + 1) = ((r.r.length + 1 : Nat) : Int) := by rw [wrap_id (by omega) (by omega)]; rfl
    have hw2 : IntKind.i64.wrap ((n : Int) + 1) = ((n + 1 : Nat) : Int) := by rw [wrap_id (by omega) (by omega)]; rfl
    refine s_idx h0 (by omega) (by omega) ?_
    simp -implicitDefEqProofs only [go_sem, Nat.reduceBEq, Nat.reduceAdd, Nat.reduceSub, Nat.reduceMul, Nat.reduceLeDiff, reduceCtorEq, ↓reduceIte, Int.reduceLT, Int.reduceLE, Int.reduceEq, Int.reduceNe]
    refine s_ld0 (by simpa using hcr _ (lk_r [gt, ga, gb, ge, gw, g3, g2, g1] _)) (by simp) (by simp) ?_
    simp -implicitDefEqProofs only [go_sem, Nat.reduceBEq, Nat.reduceAdd, Nat.reduceSub, Nat.reduceMul, Nat.reduceLeDiff, reduceCtorEq, ↓reduceIte, Int.reduceLT, Int.reduceLE, Int.reduceEq, Int.reduceNe]
    intro bx
    refine ⟨[gt, ga, gb, ge, gw, g3, g2, g1], [], fun ψ Γ' => ∃ (gt' ga' ge' : PH) (va' : Value) (be' : List Nat), ψ = [(1, .v true (.int .i64 (n : Int))), (5, .v true (.pointer (some ⟨bt, 0, none⟩))), (7, .box bx 37 [.int .i64 r.l, .slice A1 r.r.length c1]), (28, .v true (.slice R g.rs.length cR)), (29, .v true (.int .i64 (g.rs.length : Int))), (30, .v true (.int .i64 (i : Int)))] ∧
      Γ' = [gt', ga', gb, ge', gw, g3, g2, g1] ∧ gt' bt = some (.cells (ntC g n R cR b1 b2 b3 va' (.slice Ab (hdR bw (g.rs.take i)).length cb)).toArray 245 (0, 0)) ∧ Bld ga' (lk []) 154 va' (hdR be' (g.rs.take (i + 1))) ∧ Cube ge' 22 4 be' (made3 (g.rs.take (i + 1)) n false) ∧ be'.length = i + 1, Ent.refl _, ?_, ?_⟩
    · simp -implicitDefEqProofs only [hw1, hw2, go_sem, Nat.reduceBEq, Nat.reduceAdd, Nat.reduceSub, Nat.reduceMul, Nat.reduceLeDiff, reduceCtorEq, ↓reduceIte, Int.reduceLT, Int.reduceLE, Int.reduceEq, Int.reduceNe]
      repeat' first
        | with_reducible exact True.intro
        | with_reducible refine And.intro ?_ ?_
        | with_reducible intro bk
        | (refine s_ld (j := 8) (cells_lk ⟨gt, by simp, hgt⟩) (by simp [ntC]) (by simp) ?_)
        | (refine CallVC.read (rows_bool (r.r.length + 1) (n + 1) false (by omega) (by omega)) ?_; rintro v Γ' ⟨gx, kx, rfl, rfl, hGx⟩)
        | (refine s_app1S (α := Hd) (ix := 3) ⟨some ⟨kx, 0, none⟩, r.r.length + 1, r.r.length + 1⟩ rfl hBa cells_one rfl (by omega) (by unfold maxLen; omega) ?_; intro va' ga' hBa' _; obtain ⟨Aa', ca', rfl⟩ := hBa'.val)
        | (refine s_storeF (ix := 2) (o := 8) (n := 1) rfl hgt (by simp [ntC]) ?_)
        | simp -implicitDefEqProofs only [hw1, hw2, ntC, go_sem, Nat.reduceBEq, Nat.reduceAdd, Nat.reduceSub, Nat.reduceMul, Nat.reduceLeDiff, reduceCtorEq, ↓reduceIte, Int.reduceLT, Int.reduceLE, Int.reduceEq, Int.reduceNe]
      all_goals refine Up.sel [[2], [3], [4], [5, 1], [6], [7], [8], [9]] (by decide) fun hd hm => ⟨_, _, _, _, be ++ [kx], rfl, upd_self _ _ _, by rw [htk, hdR_snoc (by omega)]; exact hBa', ?_, by simp [hle]⟩
      all_goals rw [htk, made3, List.map_append]
      all_goals exact hCe.snoc hGx (fun k => ((List.pairwise_cons.1 (List.pairwise_cons.1 hd).2).1 ge (by simp) k).symm) (hm [5, 1] (by simp))
    · rintro ψ Γ' ⟨gt, ga, ge, va, be, rfl, rfl, hgt, hBa, hCe, hle⟩
      obtain ⟨Aa, ca, rfl⟩ := hBa.val
      simp -implicitDefEqProofs only [go_sem, Nat.reduceBEq, Nat.reduceAdd, Nat.reduceSub, Nat.reduceMul, Nat.reduceLeDiff, reduceCtorEq, ↓reduceIte, Int.reduceLT, Int.reduceLE, Int.reduceEq, Int.reduceNe]
      refine ⟨[gt, ga, gb, ge, gw, g3, g2, g1], [], fun ψ Γ' => ∃ (gt' gb' gw' : PH) (vb' : Value) (bw' : List Nat), ψ = [(1, .v true (.int .i64 (n : Int))), (5, .v true (.pointer (some ⟨bt, 0, none⟩))), (28, .v true (.slice R g.rs.length cR)), (29, .v true (.int .i64 (g.rs.length : Int))), (30, .v true (.int .i64 (i : Int)))] ∧
        Γ' = [gt', ga, gb', ge, gw', g3, g2, g1] ∧ gt' bt = some (.cells (ntC g n R cR b1 b2 b3 (.slice Aa (hdR be (g.rs.take (i + 1))).length ca) vb').toArray 245 (0, 0)) ∧ Bld gb' (lk []) 65 vb' (hdR bw' (g.rs.take (i + 1))) ∧ Cube gw' 29 3 bw' (made3 (g.rs.take (i + 1)) n (-1 : Int)) ∧ bw'.length = i + 1, Ent.refl _, ?_, ?_⟩
      · simp -implicitDefEqProofs only [hw1, hw2, go_sem, Nat.reduceBEq, Nat.reduceAdd, Nat.reduceSub, Nat.reduceMul, Nat.reduceLeDiff, reduceCtorEq, ↓reduceIte, Int.reduceLT, Int.reduceLE, Int.reduceEq, Int.reduceNe]
        repeat' first
          | with_reducible exact True.intro
          | with_reducible refine And.intro ?_ ?_
          | with_reducible intro bk
          | (refine s_ld (j := 9) (cells_lk ⟨gt, by simp, hgt⟩) (by simp [ntC]) (by simp) ?_)
          | (refine CallVC.read (rows_int (r.r.length + 1) (n + 1) (-1) (by omega) (by omega)) ?_; rintro v Γ' ⟨gx, kx, rfl, rfl, hGx⟩)
          | (refine s_app1S (α := Hd) (ix := 4) ⟨some ⟨kx, 0, none⟩, r.r.length + 1, r.r.length + 1⟩ rfl hBb cells_one rfl (by omega) (by unfold maxLen; omega) ?_; intro vb' gb' hBb' _; obtain ⟨Ab', cb', rfl⟩ := hBb'.val)
          | (refine s_storeF (ix := 2) (o := 9) (n := 1) rfl hgt (by simp [ntC]) ?_)
          | simp -implicitDefEqProofs only [hw1, hw2, ntC, go_sem, Nat.reduceBEq, Nat.reduceAdd, Nat.reduceSub, Nat.reduceMul, Nat.reduceLeDiff, reduceCtorEq, ↓reduceIte, Int.reduceLT, Int.reduceLE, Int.reduceEq, Int.reduceNe]
        all_goals refine Up.sel [[2], [3], [4], [5], [6, 1], [7], [8], [9]] (by decide) fun hd hm => ⟨_, _, _, _, bw ++ [kx], rfl, upd_self _ _ _, by rw [htk, hdR_snoc (by omega)]; exact hBb', ?_, by simp [hlw]⟩
        all_goals rw [htk, made3, List.map_append]
        all_goals exact hCw.snoc hGx (fun k => ((List.pairwise_cons.1 (List.pairwise_cons.1 hd).2).1 gw (by simp) k).symm) (hm [6, 1] (by simp))
      · rintro ψ Γ' ⟨gt, gb, gw, vb, bw, rfl, rfl, hgt, hBb, hCw, hlw⟩
        simp -implicitDefEqProofs only [go_sem, Nat.reduceBEq, Nat.reduceAdd, Nat.reduceSub, Nat.reduceMul, Nat.reduceLeDiff, reduceCtorEq, ↓reduceIte, Int.reduceLT, Int.reduceLE, Int.reduceEq, Int.reduceNe]
        simp (disch := omega) only [wrap_id]
        exact ⟨f - 1, by omega, Up.here ⟨i + 1, gt, ga, gb, ge, gw, _, vb, be, bw, rfl, rfl, by omega, hgt, hBa, hBb, hCe, hCw, hle, hlw⟩⟩
  · have hie : i = g.rs.length := by omega
    subst hie
    rw [List.take_length] at hBa hBb hCe hCw hla hlb hgt
    rw [hla, hlb] at hgt
    obtain ⟨Ae, ce, ea, hSa⟩ := hBa.slok (L' := lk [ga]) (Mem.le.refl _) (fun b o ⟨x, hx, _⟩ => by cases hx) (by omega)
    obtain ⟨Aw, cw, eb, hSb⟩ := hBb.slok (L' := lk [gb]) (Mem.le.refl _) (fun b o ⟨x, hx, _⟩ => by cases hx) (by omega)
    simp only [Value.slice.injEq, true_and] at ea eb
    obtain ⟨rfl, rfl⟩ := ea
    obtain ⟨rfl, rfl⟩ := eb
    refine Up.sel [[0, 1, 2], [7], [6], [5], [3], [4]] (by decide) fun _ hm => ?_
    have hmg := (hm [0, 1, 2] (by simp)).trans (lk_l _ Γr)
    subst hR
    refine ⟨⟨bt, b1, b2, b3, Aa, ca, be, Ab, cb, bw⟩, _, _, _, _, _, _, rfl, rfl, ⟨?_, hx.mono (lk_r _ _), hSa.mono (Mem.le.trans (lk_sub fun x hx => ?_) hmg), hSb.mono (Mem.le.trans (lk_sub fun x hx => ?_) hmg), hle, hlw⟩, hG1, hG2, hG3, hCe, hCw⟩
    · exact hmg _ _ ⟨gt, by simp [sel], hgt⟩
    · simp at hx; subst hx; simp [sel]
    · simp at hx; subst hx; simp [sel]
/- census: what find and loops leave makes a table that tells the truth; no condition. -/
def HX (g : Gr) (n : Nat) (H : List (List Bool)) : Prop := ∀ (a : Int) k, 0 ≤ a → k ≤ n → (mat H a.toNat k = true ↔ 0 < cntT g (mostN g n) a k)
theorem HX.sym {g : Gr} {n : Nat} {H : List (List Bool)} (hx : HX g n H) {s : Sy} (hs : 0 ≤ s.n) {k : Nat} (hk : k ≤ n) : symB H s k = true ↔ 0 < symT (cntT g (mostN g n)) s k := by
  unfold symB symT
  split
  · by_cases e : k = 1 <;> simp [e]
  · exact hx _ _ hs hk
theorem HX.row {g : Gr} {n : Nat} {H : List (List Bool)} (hx : HX g n H) : ∀ {l : List Sy} {k : Nat}, (∀ s ∈ l, 0 ≤ s.n) → k ≤ n → (RowH H l k ↔ 0 < rowT (cntT g (mostN g n)) l k)
  | [], k, _, _ => by
    show k = 0 ↔ 0 < (if k = 0 then 1 else 0)
    by_cases e : k = 0 <;> simp [e]
  | s :: l, k, h0, hk => by
    rw [row_pos]
    constructor
    · rintro ⟨j, h1, h2, h3⟩
      exact ⟨j, h1, (hx.sym (h0 s (by simp)) (by omega)).1 h2, (hx.row (fun s hs => h0 s (by simp [hs])) (by omega)).1 h3⟩
    · rintro ⟨j, h1, h2, h3⟩
      exact ⟨j, h1, (hx.sym (h0 s (by simp)) (by omega)).2 h2, (hx.row (fun s hs => h0 s (by simp [hs])) (by omega)).2 h3⟩
theorem hx_of {g : Gr} (V : VG g) {n : Nat} {H : List (List Bool)} {E : List (List (List Bool))} (hs : HasS g H) (hE : EndsI g n H E) (hd : DoneR g n H E g.rs.length) : HX g n H := by
  intro a k ha hk
  refine ⟨fun h => ?_, fun h => ?_⟩
  · obtain ⟨x, hx⟩ := hs _ _ h
    rw [Int.toNat_of_nonneg ha] at hx
    exact cnt_pos V x hk hx
  · refine has_complete V (fun r hr => ?_) _ a k hk h
    obtain ⟨i, hi, rfl⟩ := List.getElem_of_mem hr
    exact (hd i _ _ hi (List.getElem?_eq_getElem (by rw [hE.1]; exact hi)) (List.getElem?_eq_getElem hi)).2
theorem row_zero {H : List (List Bool)} : ∀ {l : List Sy}, RowH H l 0 ↔ ∀ s ∈ l, symB H s 0 = true
  | [] => by simp [RowH]
  | s :: l => by
    constructor
    · rintro ⟨j, h1, h2, h3⟩
      have : j = 0 := by omega
      subst this
      intro x hx
      rcases List.mem_cons.1 hx with rfl | hx
      · exact h2
      · exact row_zero.1 h3 x hx
    · intro h
      exact ⟨0, Nat.le_refl _, h s (by simp), row_zero.2 fun x hx => h x (by simp [hx])⟩
theorem less_of_ed {g : Gr} {n : Nat} {H L : List (List Bool)} (hx : HX g n H) {b : Int} {j : Nat} (hL : mat L b.toNat j = true) : ∀ {l : List Sy} {k : Nat}, (∀ s ∈ l, 0 ≤ s.n) → k ≤ n → EdR (cntT g (mostN g n)) l k b j → LessP H L l k
  | [], _, _, _, h => h.elim
  | s :: l, k, h0, hk, ⟨i, h1, h2, h3, h4⟩ => by
    refine ⟨i, h1, (hx.sym (h0 s (by simp)) (by omega)).2 h2, (hx.row (fun s hs => h0 s (by simp [hs])) (by omega)).2 h3, ?_⟩
    rcases h4 with ⟨q1, q2, q3⟩ | h4
    · exact .inl ⟨q1, by rw [q2, q3]; exact hL⟩
    · exact .inr (less_of_ed hx hL (fun s hs => h0 s (by simp [hs])) (by omega) h4)
theorem ed_of_less {g : Gr} {n : Nat} {H L : List (List Bool)} (hx : HX g n H) : ∀ {l : List Sy} {k : Nat}, (∀ s ∈ l, 0 ≤ s.n) → k ≤ n → LessP H L l k → ∃ b j, EdR (cntT g (mostN g n)) l k b j ∧ LpI L b j
  | [], _, _, _, h => h.elim
  | s :: l, k, h0, hk, ⟨i, h1, h2, h3, h4⟩ => by
    have q2 := (hx.sym (h0 s (by simp)) (by omega)).1 h2
    have q3 := (hx.row (fun s hs => h0 s (by simp [hs])) (by omega)).1 h3
    rcases h4 with ⟨w1, w2⟩ | h4
    · exact ⟨s.n, i, ⟨i, h1, q2, q3, .inl ⟨w1, rfl, rfl⟩⟩, h0 s (by simp), w2⟩
    · obtain ⟨b, j, w1, w2⟩ := ed_of_less hx (fun s hs => h0 s (by simp [hs])) (by omega) h4
      exact ⟨b, j, ⟨i, h1, q2, q3, .inr w1⟩, w2⟩
theorem same_of_ed {g : Gr} {n : Nat} {H : List (List Bool)} (hx : HX g n H) {b k : Nat} : ∀ {l : List Sy}, (∀ s ∈ l, 0 ≤ s.n) → k ≤ n → EdR (cntT g (mostN g n)) l k (b : Int) k → SameR H k l l.length b
  | [], _, _, h => h.elim
  | s :: l, h0, hk, ⟨i, h1, h2, h3, h4⟩ => by
    have q2 := (hx.sym (h0 s (by simp)) (by omega)).2 h2
    have q3 := (hx.row (fun s hs => h0 s (by simp [hs])) (by omega)).2 h3
    rcases h4 with ⟨w1, w2, w3⟩ | h4
    · subst w3
      rw [Nat.sub_self] at q3
      have hz := row_zero.1 q3
      refine ⟨0, s, by simp, rfl, w1, w2, ?_, fun j s' hj hne => ?_⟩
      · simp only [symB, w1] at q2
        rw [w2] at q2
        simpa using q2
      · cases j with
        | zero => exact absurd rfl hne
        | succ j => exact hz s' (List.mem_of_getElem? (by simpa using hj))
    · have hle := h4.pos.2.1
      have hi0 : i = 0 := by omega
      subst hi0
      rw [Nat.sub_zero] at h4
      obtain ⟨p, t, e1, e2, e3, e4, e5, e6⟩ := same_of_ed hx (fun s hs => h0 s (by simp [hs])) hk h4
      refine ⟨p + 1, t, by simpa using e1, by simpa using e2, e3, e4, e5, fun j s' hj hne => ?_⟩
      cases j with
      | zero =>
        simp at hj
        subst hj
        exact q2
      | succ j => exact e6 j s' (by simpa using hj) (by omega)
theorem ed_of_same {g : Gr} {n : Nat} {H : List (List Bool)} (hx : HX g n H) {b k : Nat} : ∀ {l : List Sy}, (∀ s ∈ l, 0 ≤ s.n) → k ≤ n → SameR H k l l.length b → EdR (cntT g (mostN g n)) l k (b : Int) k
  | [], _, _, ⟨p, t, e1, e2, _⟩ => by simp at e2
  | s :: l, h0, hk, ⟨p, t, e1, e2, e3, e4, e5, e6⟩ => by
    have hl0 : ∀ s ∈ l, 0 ≤ s.n := fun s hs => h0 s (by simp [hs])
    cases p with
    | zero =>
      simp at e2
      subst e2
      have hz : RowH H l 0 := row_zero.2 fun x hx => by
        obtain ⟨j, hj⟩ := List.getElem?_of_mem hx
        exact e6 (j + 1) x (by simpa using hj) (by omega)
      refine ⟨k, Nat.le_refl _, (hx.sym (h0 s (by simp)) hk).1 (by simp only [symB, e3]; rw [e4]; simpa using e5), by rw [Nat.sub_self]; exact (hx.row hl0 (by omega)).1 hz, .inl ⟨e3, e4, rfl⟩⟩
    | succ p =>
      have ih := ed_of_same hx (l := l) hl0 hk ⟨p, t, by simp at e1; omega, by simpa using e2, e3, e4, e5, fun j s' hj hne => e6 (j + 1) s' (by simpa using hj) (by omega)⟩
      refine ⟨0, Nat.zero_le _, (hx.sym (h0 s (by simp)) (by omega)).1 (e6 0 s rfl (by omega)), by rw [Nat.sub_zero]; exact ih.row, .inr (by rw [Nat.sub_zero]; exact ih)⟩
theorem same_ed {g : Gr} (V : VG g) {n : Nat} {H : List (List Bool)} (hx : HX g n H) {a b k : Nat} (hk : k ≤ n) : SameE g H k g.rs.length a b ↔ Ed g (mostN g n) a k b k := by
  unfold SameE Ed
  rw [List.take_length]
  constructor
  · rintro ⟨r, h1, h2, h3⟩
    exact ⟨r, h1, h2, ed_of_same hx (fun s hs => (V.sym r h1 s hs).1) hk h3⟩
  · rintro ⟨r, h1, h2, h3⟩
    exact ⟨r, h1, h2, same_of_ed hx (fun s hs => (V.sym r h1 s hs).1) hk h3⟩
theorem loop_of {g : Gr} (V : VG g) {n : Nat} {H L : List (List Bool)} (hx : HX g n H) (hI : LoopI g n H L) (hD : DoneL g n H L g.rs.length) : LoopS g n (LpI L) := by
  have hns := V.ns
  have left : ∀ {a : Int} {k : Nat} {b : Int} {j : Nat}, Ed g (mostN g n) a k b j → 0 ≤ a ∧ a < g.ns ∧ 0 ≤ b ∧ b < g.ns := by
    rintro a k b j ⟨r, h1, h2, h3⟩
    obtain ⟨_, _, s, h4, h5, h6⟩ := h3.pos
    have := V.left r h1
    have := V.sym r h1 s h4
    exact ⟨by omega, by omega, by omega, by have := this.2.2 h5; omega⟩
  refine ⟨fun a k hk h => ?_, fun a k hk h => ?_, fun a k b j hk he hb => ?_⟩
  · obtain ⟨h0, h⟩ := h
    obtain ⟨m, rfl⟩ : ∃ m : Nat, a = m := ⟨a.toNat, by omega⟩
    rw [Int.toNat_natCast] at h
    rcases hI.snd m k h with hc | ⟨r, h1, h2, h3⟩
    · have first : ∀ {x y : Nat}, PathK (SameE g H k g.rs.length) g.ns.toNat x y → ∃ b, SameE g H k g.rs.length x b ∧ (b = y ∨ PathK (SameE g H k g.rs.length) g.ns.toNat b y) := by
        intro x y hp
        induction hp with
        | one e => exact ⟨_, e, .inl rfl⟩
        | @trans x m y _ hm hp2 ih1 _ =>
          obtain ⟨b, q1, q2⟩ := ih1
          refine ⟨b, q1, .inr ?_⟩
          rcases q2 with rfl | q2
          · exact hp2
          · exact .trans q2 hm hp2
      obtain ⟨b, q1, q2⟩ := first hc
      have he := (same_ed V hx hk).1 q1
      have hl := left he
      refine ⟨b, k, he, by omega, ?_⟩
      rw [Int.toNat_natCast]
      refine hI.cyc b k hk ?_
      rcases q2 with rfl | q2
      · exact hc
      · exact .trans q2 (by omega) (.one q1)
    · obtain ⟨b, j, q1, q2⟩ := ed_of_less hx (fun s hs => (V.sym r h1 s hs).1) hk h3
      exact ⟨b, j, ⟨r, h1, h2, q1⟩, q2⟩
  · have hle : ∀ {b : Int} {j : Nat}, EdP g (mostN g n) a k b j → j ≤ k ∧ 0 ≤ a ∧ 0 ≤ b ∧ a < g.ns ∧ b < g.ns := by
      intro b j hp
      induction hp with
      | one e => have := e.le; have := left e; omega
      | step _ e ih => have := e.le; have := left e; omega
    have path : ∀ {b : Int} {j : Nat}, EdP g (mostN g n) a k b j → j = k → PathK (SameE g H k g.rs.length) g.ns.toNat a.toNat b.toNat := by
      intro b j hp
      induction hp with
      | @one b j e =>
        intro hj
        subst hj
        have := left e
        refine .one ((same_ed V hx hk).2 ?_)
        rw [Int.toNat_of_nonneg (by omega), Int.toNat_of_nonneg (by omega)]
        exact e
      | @step b j c i hp e ih =>
        intro hj
        subst hj
        have h1 := hle hp
        have h2 := e.le
        have h3 := left e
        have hj : j = i := by omega
        subst hj
        refine .trans (ih rfl) (by omega) (.one ((same_ed V hx hk).2 ?_))
        rw [Int.toNat_of_nonneg (by omega), Int.toNat_of_nonneg (by omega)]
        exact e
    have := hle h
    exact ⟨this.2.1, hI.cyc _ _ hk (path h rfl)⟩
  · have hl := left he
    obtain ⟨r, h1, h2, h3⟩ := he
    have hless := less_of_ed hx hb.2 (fun s hs => (V.sym r h1 s hs).1) hk h3
    obtain ⟨i, hi, rfl⟩ := List.getElem_of_mem h1
    refine ⟨by omega, ?_⟩
    rw [← h2]
    exact hD i _ hi (List.getElem?_eq_getElem hi) k hk hless
theorem tabP_of {g : Gr} (V : VG g) {n : Nat} (hn : n ≤ 24) {H L : List (List Bool)} {E : List (List (List Bool))} (hS : Shp g.ns.toNat (n + 1) H) (hSL : Shp g.ns.toNat (n + 1) L) (hs : HasS g H) (hE : EndsI g n H E) (hd : DoneR g n H E g.rs.length) (hI : LoopI g n H L) (hD : DoneL g n H L g.rs.length) : TabP g n H L E :=
  ⟨V, hn, hS, hSL, hE, hd, hx_of V hs hE hd, loop_of V (hx_of V hs hE hd) hI hD⟩
end Go.Proofs.Ytniobbepliknmaa.V
/- The text of parlance/census.Trees as a statement (slots: 0 g, 1 n, 2 g, 3 n, 6 e, 7 t, 8 out, 9 a, 10 k); no condition. -/
namespace Go.Proofs.Ytniobbepliknmaa.V
open Go
def S79_1 : Stmt :=
 .seq
 (.region [.mk (some 40) none (.ibin .lss (.tmp 39) (.tmp 38))]
 [1,7,8,9,33,34,38,39,40])
 (.seq (.cond (.tmp 40) .skip (.exit 2))
 (.seq
 (.block 3
 (.seq
 (.region
 [.mk (some 41) none (.mv (.tmp 39)),.mk (some 10) none (.mv (.tmp 41))]
 [1,7,8,9,10,33,34,38,39])
 (.tree
 (.q (false,.mk (some 42) none (.mv (.tmp 8)))
 (.q (false,.mk (some 43) none (.mv (.tmp 9)))
 (.q (false,.mk (some 44) none (.mv (.tmp 8)))
 (.q (false,.mk (some 45) none (.mv (.tmp 9)))
 (.q (false,.mk (some 48) none (.mv (.tmp 7)))
 (.q (false,.mk (some 49) none (.mv (.tmp 9)))
 (.q (false,.mk (some 50) none (.mv (.tmp 10)))
 (.q (false,.mk (some 46) none (.idx 1 (.tmp 44) (.tmp 45)))
 (.alt (false,.mk (some 47) none (.load false 1 (.tmp 46)))
 (.alt
 (false,
 .mk (some 51) none
 (.call (.func 150) [.tmp 48,.tmp 49,.tmp 50]))
 (.alt
 (false,
 .mk (some 52) none
 (.buildS 3 1 [.int .i64 0] [(0,1,.tmp 51)]))
 (.alt
 (false,
 .mk (some 53) none
 (.append 29 3 1 8 (.int .i64 0) (.tmp 47)
 (.tmp 52)))
 (.q (false,.mk (some 54) none (.idx 1 (.tmp 42) (.tmp 43)))
 (.alt
 (false,.mk none none (.store 1 (.tmp 54) (.tmp 53)))
 .fin .no))
 .no)
 .no)
 .no)
 (.alt
 (false,
 .mk (some 51) none
 (.call (.func 150) [.tmp 48,.tmp 49,.tmp 50]))
 (.alt (false,.mk (some 47) none (.load false 1 (.tmp 46)))
 (.alt
 (false,
 .mk (some 52) none
 (.buildS 3 1 [.int .i64 0] [(0,1,.tmp 51)]))
 (.alt
 (false,
 .mk (some 53) none
 (.append 29 3 1 8 (.int .i64 0) (.tmp 47)
 (.tmp 52)))
 (.q
 (false,.mk (some 54) none (.idx 1 (.tmp 42) (.tmp 43)))
 (.alt
 (false,.mk none none (.store 1 (.tmp 54) (.tmp 53)))
 .fin .no))
 .no)
 .no)
 (.alt
 (false,
 .mk (some 52) none
 (.buildS 3 1 [.int .i64 0] [(0,1,.tmp 51)]))
 (.alt (false,.mk (some 47) none (.load false 1 (.tmp 46)))
 (.alt
 (false,
 .mk (some 53) none
 (.append 29 3 1 8 (.int .i64 0) (.tmp 47)
 (.tmp 52)))
 (.q
 (false,.mk (some 54) none (.idx 1 (.tmp 42) (.tmp 43)))
 (.alt
 (false,.mk none none (.store 1 (.tmp 54) (.tmp 53)))
 .fin .no))
 .no)
 .no)
 .no))
 .no))))))))))
 [1,7,8,9,33,34,38,39])))
 (.region
 [.mk (some 55) none (.ibin .add (.tmp 39) (.const (.int .i64 1))),
 .mk (some 39) none (.mv (.tmp 55))]
 [1,7,8,9,33,34,38,39])))
def S79_2 : Stmt :=
 .seq
 (.region [.mk (some 35) none (.ibin .lss (.tmp 34) (.tmp 33))] [1,7,8,33,34,35])
 (.seq (.cond (.tmp 35) .skip (.exit 0))
 (.seq
 (.block 1
 (.seq
 (.region
 [.mk (some 36) none (.mv (.tmp 34)),.mk (some 9) none (.mv (.tmp 36))]
 [1,7,8,9,33,34])
 (.seq
 (.region
 [.mk (some 37) none (.mv (.tmp 1)),
 .mk (some 38) none (.ibin .add (.tmp 37) (.const (.int .i64 1))),
 .mk (some 39) none (.mv (.const (.int .i64 0)))]
 [1,7,8,9,33,34,38,39])
 (.block 2 (.loop S79_1 [39] [1,7,8,9,33,34,38])))))
 (.region
 [.mk (some 56) none (.ibin .add (.tmp 34) (.const (.int .i64 1))),
 .mk (some 34) none (.mv (.tmp 56))]
 [1,7,8,33,34])))
def S79_0 : Stmt :=
 .seq
 (.region
 [.mk (some 2) none (.box true 57 (.tmp 0)),
 .mk (some 4) none (.mv (.const (.slice none 0 0))),
 .mk (some 5) none (.mv (.const (.int .i64 0)))]
 [1,2])
 (.seq
 (.seq
 (.region
 [.mk (some 11) none (.load true 4 (.tmp 2)),
 .mk (some 12) none (.call (.func 112) [.tmp 11]),
 .mk (some 6) none (.mv (.tmp 12))]
 [1,2,6])
 (.seq
 (.region
 [.mk (some 13) none (.mv (.tmp 6)),
 .mk (some 14) none (.ibin .neq (.tmp 13) (.const (.int .i64 0)))]
 [1,2,6,14])
 (.cond (.tmp 14)
 (.seq
 (.region
 [.mk (some 15) none (.mv (.tmp 6)),
 .mk (some 4) none (.mv (.const (.slice none 0 0))),
 .mk (some 5) none (.mv (.tmp 15))]
 [4,5])
 .ret)
 .skip)))
 (.seq
 (.seq
 (.region
 [.mk (some 16) none (.mv (.tmp 1)),
 .mk (some 17) none (.ibin .lss (.tmp 16) (.const (.int .i64 0))),
 .mk (some 18) none (.mv (.tmp 17)),
 .mk (some 19) (some (18,false)) (.mv (.tmp 1)),
 .mk (some 20) (some (18,false))
 (.ibin .gtr (.tmp 19) (.const (.int .i64 24))),
 .mk (some 21) none (.pick (.tmp 18) (.const (.bool true)) (.tmp 20))]
 [1,2,21])
 (.cond (.tmp 21)
 (.seq
 (.region
 [.mk (some 4) none (.mv (.const (.slice none 0 0))),
 .mk (some 5) none (.mv (.const (.int .i64 1)))]
 [4,5])
 .ret)
 .skip))
 (.seq
 (.region
 [.mk (some 22) none (.load true 4 (.tmp 2)),.mk (some 23) none (.mv (.tmp 1)),
 .mk (some 24) none (.call (.func 147) [.tmp 22,.tmp 23]),
 .mk (some 7) none (.mv (.tmp 24))]
 [1,2,7])
 (.seq
 (.region
 [.mk (some 25) none (.mv (.tmp 7)),
 .mk (some 26) none (.call (.func 148) [.tmp 25])]
 [1,2,7])
 (.seq
 (.region
 [.mk (some 27) none (.mv (.tmp 7)),
 .mk (some 28) none (.call (.func 149) [.tmp 27])]
 [1,2,7])
 (.seq
 (.region
 [.mk (some 29) none (.fld 1 (.tmp 2)),
 .mk (some 30) none (.load false 1 (.tmp 29)),
 .mk (some 31) none (.mk 29 1 24 (.slice none 0 0) (.tmp 30) (.tmp 30)),
 .mk (some 8) none (.mv (.tmp 31))]
 [1,7,8])
 (.seq
 (.seq
 (.region
 [.mk (some 32) none (.mv (.tmp 8)),
 .mk (some 33) none (.len false (.tmp 32)),
 .mk (some 34) none (.mv (.const (.int .i64 0)))]
 [1,7,8,33,34])
 (.block 0 (.loop S79_2 [34] [1,7,8,33])))
 (.seq
 (.region
 [.mk (some 57) none (.mv (.tmp 8)),.mk (some 4) none (.mv (.tmp 57)),
 .mk (some 5) none (.mv (.const (.int .i64 0)))]
 [4,5])
 .ret))))))))
def S79 : FnS := ⟨58,[(4,none),(5,none)],S79_0⟩
theorem tr79 : trFn Try.prog 79 [2] [[1,2],[1,2,6],[1,2,6,14],[4,5],[1,2,21],[4,5],[1,2,7],[1,2,7],[1,2,7],[1,7,8],[1,7,8,33,34],[34],[1,7,8,33],[1,7,8,33,34,35],[1,7,8,9,33,34],[1,7,8,9,33,34,38,39],[39],[1,7,8,9,33,34,38],[1,7,8,9,33,34,38,39,40],[1,7,8,9,10,33,34,38,39],[1,7,8,9,33,34,38,39],[],[2,0,2,1,2,2,2,3,2,6,2,7,2,8,2,4,3,5,3,9,3,10,3,11,2,12,3,13,0,1,1,1,1,3,9,3,5,3,10,3,11,2,12,3,13,0,1,1,1,3,10,3,5,3,11,2,12,3,13,0,1,1,1,1,1],[],[],[],[],[],[2,3],[2,3,4],[],[],[],[6,7,8],[6,7,8,9],[2,3,4,5,6,7,8,9,10],[0,1,2,3,4,5,6,7,8,9,10,11],[0,1,2,3,4,5,6,7,8,9,10,11,12],[1,7,8,9,33,34,38,39],[1,7,8,33,34],[4,5]] = some S79 := by kernel_rfl
end Go.Proofs.Ytniobbepliknmaa.V
namespace Go.Proofs.Ytniobbepliknmaa.V
open Go
set_option linter.unusedVariables false
set_option linter.unusedSimpArgs false
/- census.Trees walked; no condition. -/
attribute [local go_sem] e_seq e_region e_quiet e_join e_loop e_cond e_block e_exit e_ret e_skip e_fin e_kseq e_snrm e_sret e_sex e_bnrm e_bret e_bex e_rnrm e_rret e_res e_condC e_nil e_g e_mv g_mv e_pick g_pick pickC_eq e_ibin g_ibin ibinC_eq e_sbin g_sbin e_beq g_beq beqC_eq e_nilq g_nilq nilqC_sl nilqC_pt nilqC_mp e_un g_un unC_not unC_neg e_conv g_conv convC_eq e_fld g_fld fldC_ref fldC_ptr e_nilCheck g_nilCheck nilCheckC_ref nilCheckC_ptr nilCheckC_fun e_field g_field fieldC_eq e_len g_len lenC_sl lenC_str e_extract g_extract extractC_eq e_mkFunc e_build g_build e_idiv g_idiv idivC_eq e_ishift g_ishift ishiftC_eq e_idx g_idx e_idxA g_idxA e_load g_load e_loadB g_loadB atB_ref atB_v g_mkFunc loadC_ref loadC_ptr loadB_eq e_slc g_slc e_box boxC_loc boxC_esc e_alloc allocC_loc allocC_esc e_buildS e_store storeC_ref storeC_ptr storeB_eq e_append e_appz e_mk mkC_eq e_call callC_eq e_fn g_fn fnC_eq fnV_min' fnV_max' fnV_rune' e_q g_q e_a e_n g_call g_box g_alloc g_buildS g_store g_append g_mk g_a g_n g_dead e_dead e_callK e_drawn e_tree e_finJ e_tk e_tfin e_tno e_nbt_q e_nbt_qn e_nbt_a e_nbt_an e_nbt_fin e_drawnB e_bxb_nil e_bxb e_stB_none e_stB_some boxSt_store bs_mv bs_pick bs_ibin bs_idiv bs_ishift bs_sbin bs_beq bs_nilq bs_un bs_conv bs_box bs_alloc bs_build bs_buildS bs_load bs_fld bs_nilCheck bs_idx bs_idxA bs_field bs_slc bs_len bs_append bs_appz bs_mk bs_call bs_extract bs_mkFunc bs_fn bs_q bs_a bs_n bs_loadB bs_dead isBox_box e_early_nil e_early_t e_early_f e_nob_nil e_nob_none e_nob_some isBox_dead isBox_v isBox_ref e_dnil e_dk e_ek e_finB vcOps_vc1 e_dcons e_tq e_ekt e_tearly e_talt e_dearly look_nil look_c proj_nil proj_c looks_nil looks_c zip_nil zip_c val_tmp val_const val_func slv_v slv_box slv_ref slot_tmp slot_const slot_func slotL_v slotL_box slotL_ref put_some put_none updBox_c boxSet_box gd_eq slotVals_nil slotVals_c slotVals_b boxV_box boxOn_box slotsOn_nil slotsOn_c slotsOn_b resV_one resV_two vals_nil vals_c allOn_nil allOn_c partOn_nil partOn_c partVals_nil partVals_c fits_nil fits_c fillL_nil fillL_c mkv_one mkv_agg cellsV_agg cellsV_int cellsV_bool cellsV_slice cellsV_string cellsV_pointer cellsV_func cellsV_nilf cellsV_map one'_nil one'_c oc_int oc_bool oc_slice oc_string oc_pointer oc_func oc_nilf oc_map setC_eq iv_add iv_sub iv_mul iv_eql iv_neq iv_lss iv_leq iv_gtr iv_geq iok_add iok_sub iok_mul iok_eql iok_neq iok_lss iok_leq iok_gtr iok_geq pickV_bool args0_nil args0_c bnd_none bnd_some imp_bt imp_bf imp_ebt imp_ebf imp_eb1 imp_np imp_pp beq_tt beq_tf beq_ft beq_ff cond_or cond_and e_round e_meet Int.le_refl Int.toNat_zero decide_true decide_false Bool.or_false Bool.false_or Bool.true_or Bool.or_true Bool.and_false Bool.false_and Bool.bne_false Bool.bne_true beq_iff_eq Int.cast_ofNat_Int not_false_eq_true not_true_eq_false false_and and_false false_implies true_implies true_and and_true Bool.true_and Bool.and_true Bool.not_true Bool.not_false forall_const implies_true List.take_zero List.drop_zero List.take_succ_cons List.drop_succ_cons List.take_nil List.drop_nil List.length_cons List.length_nil List.nil_append List.append_nil List.cons_append Int.toNat_natCast decide_eq_true_eq decide_eq_false_iff_not cond_true cond_false and_self List.getElem?_cons_zero List.getElem?_cons_succ List.set_cons_zero List.set_cons_succ Option.some.injEq exists_eq_left' Nat.zero_add Nat.add_zero Nat.mul_one imp_self true_or or_true or_false false_or Bool.or_eq_true Bool.or_eq_false_iff Bool.and_eq_true Bool.and_eq_false_iff Bool.not_eq_true' Bool.not_eq_false'

/-- the number of trees: -1 if there is no end of them, at most 1000000000 -/
def cenF (g : Gr) (n : Nat) (a k : Nat) : Int := if cntT g (mostN g n) a k < cntT g (2 * mostN g n + 2) a k then -1 else ((capN (cntT g (mostN g n) a k) : Nat) : Int)
def cenRow (g : Gr) (n : Nat) (a m : Nat) : List Int := (List.range m).map fun k => cenF g n a k
def cenRows (g : Gr) (n : Nat) (m : Nat) : List (List Int) := (List.range m).map fun a => cenRow g n a (n + 1)
theorem cenRow_succ (g : Gr) (n a m : Nat) : cenRow g n a (m + 1) = cenRow g n a m ++ [cenF g n a m] := by simp [cenRow, List.range_succ]
theorem cenRows_succ (g : Gr) (n m : Nat) : cenRows g n (m + 1) = cenRows g n m ++ [cenRow g n m (n + 1)] := by simp [cenRows, List.range_succ]
def CntR (t : Tb) (g : Gr) (n : Nat) (x : Int) (v : Value) (Γ : Ctx) : Prop := ∃ gk gw K W, Γ = [gk, gw] ∧ v = .int .i64 x ∧ Grid gk t.bk 29 3 K ∧ KnI g n K ∧ Cube gw 29 3 t.bw W ∧ WyI g n W
theorem count_any {t : Tb} {g : Gr} {n : Nat} {R : Option Addr} {cR : Nat} {H L : List (List Bool)} {E : List (List (List Bool))} {ge : PH} (P : TabP g n H L E) {Γr : Ctx} {gk gw : PH} {K : List (List Int)} {W : List (List (List Int))} (hR : TabR Γr t g n R cR H L E ge)
    (hGk : Grid gk t.bk 29 3 K) (hK : KnI g n K) (hGw : Cube gw 29 3 t.bw W) (hW : WyI g n W) {a k : Nat} (ha : (a : Int) < g.ns) (hk : k ≤ n) :
    Ret Try.prog 150 [.pointer (some ⟨t.b, 0, none⟩), .int .i64 (a : Int), .int .i64 (k : Int)] Γr [gk, gw] (CntR t g n (cenF g n a k)) := by
  have V := P.V
  have hiff := P.lp.iff V (a := (a : Int)) hk
  by_cases hL : LpI L a k
  · have hc : cenF g n a k = -1 := if_pos (hiff.1 hL)
    rw [hc]
    obtain ⟨b, j, he, _⟩ := P.lp.next _ _ hk hL
    have hpos := (he.pos V hk).1
    have hhas := (P.hx (a : Int) k (by omega) hk).2 hpos
    rw [Int.toNat_natCast] at hhas
    have hloop := hL.2
    rw [Int.toNat_natCast] at hloop
    generalize hRR : CntR t g n _ = R'
    refine ret_of_vc tr150 (Nat.le_of_ble_eq_true rfl) ?_
    simp -implicitDefEqProofs only [S150, S150_0, go_sem, Nat.reduceBEq, Nat.reduceAdd, Nat.reduceSub, Nat.reduceMul, Nat.reduceLeDiff, reduceCtorEq, ↓reduceIte, Int.reduceLT, Int.reduceLE, Int.reduceEq, Int.reduceNe]
    have hT := hR.k
    have hHl := P.sh.1
    have hHr := P.sh.at' (i := a) (by omega)
    have hLl := P.sl.1
    have hLr := P.sl.at' (i := a) (by omega)
    obtain ⟨b1, o1, h1, A5, c5, hr5, hc5⟩ := hR.has.list (i := a) (by omega)
    obtain ⟨b6, o6, h6, hc6⟩ := hr5.bool (i := k) (by omega)
    have hgh := mat_get (List.getElem?_eq_getElem (show a < H.length by omega)) (show k < H[a].length by omega)
    obtain ⟨b7, o7, h7, A8, c8, hr8, hc8⟩ := hR.loop.list (i := a) (by omega)
    obtain ⟨b9, o9, h9, hc9⟩ := hr8.bool (i := k) (by omega)
    have hgl := mat_get (List.getElem?_eq_getElem (show a < L.length by omega)) (show k < L[a].length by omega)
    rw [hhas] at hgh
    rw [hloop] at hgl
    rw [← hgh] at hc6
    rw [← hgl] at hc9
    refine s_ld (j := 5) (cells_lk (lk_r [gk, gw] _ _ _ hT.out)) (by simp [Tb.cells]) (by simp) ?_
    simp -implicitDefEqProofs only [Tb.cells, go_sem, Nat.reduceBEq, Nat.reduceAdd, Nat.reduceSub, Nat.reduceMul, Nat.reduceLeDiff, reduceCtorEq, ↓reduceIte, Int.reduceLT, Int.reduceLE, Int.reduceEq, Int.reduceNe]
    refine s_idx h1 (by omega) (by omega) ?_
    simp -implicitDefEqProofs only [go_sem, Nat.reduceBEq, Nat.reduceAdd, Nat.reduceSub, Nat.reduceMul, Nat.reduceLeDiff, reduceCtorEq, ↓reduceIte, Int.reduceLT, Int.reduceLE, Int.reduceEq, Int.reduceNe]
    refine s_ld0 (hc5 _ (lk_r [gk, gw] _)) (by simp) (by simp) ?_
    simp -implicitDefEqProofs only [go_sem, Nat.reduceBEq, Nat.reduceAdd, Nat.reduceSub, Nat.reduceMul, Nat.reduceLeDiff, reduceCtorEq, ↓reduceIte, Int.reduceLT, Int.reduceLE, Int.reduceEq, Int.reduceNe]
    refine s_idx h6 (by omega) (by omega) ?_
    simp -implicitDefEqProofs only [go_sem, Nat.reduceBEq, Nat.reduceAdd, Nat.reduceSub, Nat.reduceMul, Nat.reduceLeDiff, reduceCtorEq, ↓reduceIte, Int.reduceLT, Int.reduceLE, Int.reduceEq, Int.reduceNe]
    refine s_ld0 (hc6 _ (lk_r [gk, gw] _)) (by simp) (by simp) ?_
    simp -implicitDefEqProofs only [go_sem, Nat.reduceBEq, Nat.reduceAdd, Nat.reduceSub, Nat.reduceMul, Nat.reduceLeDiff, reduceCtorEq, ↓reduceIte, Int.reduceLT, Int.reduceLE, Int.reduceEq, Int.reduceNe]
    refine s_ld (j := 6) (cells_lk (lk_r [gk, gw] _ _ _ hT.out)) (by simp [Tb.cells]) (by simp) ?_
    simp -implicitDefEqProofs only [Tb.cells, go_sem, Nat.reduceBEq, Nat.reduceAdd, Nat.reduceSub, Nat.reduceMul, Nat.reduceLeDiff, reduceCtorEq, ↓reduceIte, Int.reduceLT, Int.reduceLE, Int.reduceEq, Int.reduceNe]
    refine s_idx h7 (by omega) (by omega) ?_
    simp -implicitDefEqProofs only [go_sem, Nat.reduceBEq, Nat.reduceAdd, Nat.reduceSub, Nat.reduceMul, Nat.reduceLeDiff, reduceCtorEq, ↓reduceIte, Int.reduceLT, Int.reduceLE, Int.reduceEq, Int.reduceNe]
    refine s_ld0 (hc8 _ (lk_r [gk, gw] _)) (by simp) (by simp) ?_
    simp -implicitDefEqProofs only [go_sem, Nat.reduceBEq, Nat.reduceAdd, Nat.reduceSub, Nat.reduceMul, Nat.reduceLeDiff, reduceCtorEq, ↓reduceIte, Int.reduceLT, Int.reduceLE, Int.reduceEq, Int.reduceNe]
    refine s_idx h9 (by omega) (by omega) ?_
    simp -implicitDefEqProofs only [go_sem, Nat.reduceBEq, Nat.reduceAdd, Nat.reduceSub, Nat.reduceMul, Nat.reduceLeDiff, reduceCtorEq, ↓reduceIte, Int.reduceLT, Int.reduceLE, Int.reduceEq, Int.reduceNe]
    refine s_ld0 (hc9 _ (lk_r [gk, gw] _)) (by simp) (by simp) ?_
    simp -implicitDefEqProofs only [go_sem, Nat.reduceBEq, Nat.reduceAdd, Nat.reduceSub, Nat.reduceMul, Nat.reduceLeDiff, reduceCtorEq, ↓reduceIte, Int.reduceLT, Int.reduceLE, Int.reduceEq, Int.reduceNe]
    refine Up.here ?_
    subst hRR
    exact ⟨gk, gw, K, W, rfl, rfl, hGk, hK, hGw, hW⟩
  · have hc : cenF g n a k = ((capN (cntT g (mostN g n) a k) : Nat) : Int) := if_neg fun h => hL (hiff.2 h)
    rw [hc]
    have hF : FinT g (mostN g n) a k := fun h hh => P.lp.stays V hk hL hh
    exact (@count_all t g n R cR H L E ge P (mostN g n) _ _ _ _ _ hR hGk hK hGw hW a k ha hk hL hF).mono fun v Γ h => h
/-- the error of a census -/
def cenE (g : Gr) (n : Int) : Int := if ckF g ≠ 0 then ckF g else if n < 0 ∨ 24 < n then 1 else 0
theorem rep_mat {α : Type} (a b : Nat) (z d : α) (hd : z = d) (x y : Nat) : ((List.replicate a (List.replicate b z)).getD x []).getD y d = d := by
  subst hd
  simp only [List.getD_eq_getElem?_getD, List.getElem?_replicate]
  split
  · simp only [Option.getD_some, List.getElem?_replicate]
    split <;> simp
  · simp
theorem shp_rep {α : Type} (a b : Nat) (z : α) : Shp a b (List.replicate a (List.replicate b z)) := ⟨by simp, fun r hr => by simp at hr; rw [hr.2]; simp⟩
theorem made3_at {α : Type} {rs : List Ru} {n : Nat} {z : α} {i : Nat} {rows : List (List α)} {r : Ru} (h1 : (made3 rs n z)[i]? = some rows) (h2 : rs[i]? = some r) : rows = List.replicate (r.r.length + 1) (List.replicate (n + 1) z) := by
  rw [made3, List.getElem?_map, h2] at h1
  simpa using h1.symm
theorem census_trees {Γr : Ctx} {g : Gr} {R : Option Addr} {cR : Nat} (hx : SlOk (lk Γr) R cR g.rs) {n : Int} (hn : -9223372036854775808 ≤ n ∧ n ≤ 9223372036854775807) :
    Ret Try.prog 79 [.agg #[.int .i64 g.ts, .int .i64 g.ns, .int .i64 g.st, .slice R g.rs.length cR], .int .i64 n] Γr [] (fun v Γ => (cenE g n ≠ 0 ∧ Γ = [] ∧ v = .tuple #[.slice none 0 0, .int .i64 (cenE g n)]) ∨
      (cenE g n = 0 ∧ ∃ go A c, Γ = [go] ∧ v = .tuple #[.slice A g.ns.toNat c, .int .i64 0] ∧ SlOk (lk [go]) A c (cenRows g n.toNat g.ns.toNat))) := by
  generalize hR : (fun (v : Value) (Γ : Ctx) => _ ∨ _) = R'
  refine ret_of_vc tr79 (Nat.le_of_ble_eq_true rfl) ?_
  simp -implicitDefEqProofs only [S79, S79_0, go_sem, Nat.reduceBEq, Nat.reduceAdd, Nat.reduceSub, Nat.reduceMul, Nat.reduceLeDiff, reduceCtorEq, ↓reduceIte, Int.reduceLT, Int.reduceLE, Int.reduceEq, Int.reduceNe]
  intro bg
  refine CallVC.read (Γ := []) (gram_check (Γr := [] ++ Γr) hx) ?_
  rintro v Γ' ⟨rfl, rfl⟩
  simp -implicitDefEqProofs only [go_sem, Nat.reduceBEq, Nat.reduceAdd, Nat.reduceSub, Nat.reduceMul, Nat.reduceLeDiff, reduceCtorEq, ↓reduceIte, Int.reduceLT, Int.reduceLE, Int.reduceEq, Int.reduceNe]
  refine ⟨fun hne => Up.here ?_, fun h0 => ?_⟩
  · subst hR
    have : cenE g n = ckF g := if_pos hne
    exact .inl ⟨by rw [this]; exact hne, rfl, by rw [this]⟩
  refine ⟨fun hbad => Up.here ?_, fun hgood => ?_⟩
  · subst hR
    have : cenE g n = 1 := by unfold cenE; rw [if_neg (by omega), if_pos hbad]
    exact .inl ⟨by omega, rfl, by rw [this]⟩
  have hce : cenE g n = 0 := by unfold cenE; rw [if_neg (by omega), if_neg (by omega)]
  have V := ckF_ok (show ckF g = 0 by omega)
  obtain ⟨m, rfl⟩ : ∃ m : Nat, n = m := ⟨n.toNat, by omega⟩
  rw [Int.toNat_natCast] at hR
  have hm : m ≤ 24 := by omega
  have hns := V.ns
  obtain ⟨N, hN⟩ : ∃ N : Nat, g.ns = N := ⟨g.ns.toNat, by omega⟩
  have hN' : g.ns.toNat = N := by omega
  rw [hN'] at hR
  refine CallVC.read (Γ := []) (new_table (Γr := [] ++ Γr) V hx hm) ?_
  rintro v Γ' ⟨t, gt, gh, gl, gk, ge, gw, rfl, rfl, hT, hGh, hGl, hGk, hCe, hCw⟩
  have hmf : ∀ a k, mat (List.replicate g.ns.toNat (List.replicate (m + 1) false)) a k = false := fun a k => rep_mat _ _ _ _ rfl a k
  have hma : ∀ (l : List Sy) a k, mat (List.replicate (l.length + 1) (List.replicate (m + 1) false)) a k = false := fun l a k => rep_mat _ _ _ _ rfl a k
  have hE0 : EndsI g m (List.replicate g.ns.toNat (List.replicate (m + 1) false)) (made3 g.rs m false) := ⟨by simp [made3], fun i rows r h1 h2 => by
    rw [made3_at h1 h2]
    exact ⟨shp_rep _ _ _, fun p k _ q => by rw [hma] at q; cases q⟩⟩
  simp -implicitDefEqProofs only [go_sem, Nat.reduceBEq, Nat.reduceAdd, Nat.reduceSub, Nat.reduceMul, Nat.reduceLeDiff, reduceCtorEq, ↓reduceIte, Int.reduceLT, Int.reduceLE, Int.reduceEq, Int.reduceNe]
  refine CallVC.perm (Γm := [gh, ge]) (Γf := [gt, gl, gk, gw]) (tab_find (Γr := [gt, gl, gk, gw] ++ Γr) V (hT.mono (lk_sub fun g hg => by simp at hg ⊢; rcases hg with rfl | hg <;> simp [*])) hm hGh (shp_rep _ _ _) (fun a k q => by rw [hmf] at q; cases q) hCe hE0) ((List.Perm.swap gh gt _).trans (List.Perm.cons gh (List.perm_middle (l₁ := [gt, gl, gk])))) (List.Sublist.refl _) ?_
  clear hGh hCe hE0
  rintro v Γ' ⟨gh, ge, H, E, rfl, hGh, hSH, hHS, hCe, hEI, hED⟩
  simp -implicitDefEqProofs only [go_sem, Nat.reduceBEq, Nat.reduceAdd, Nat.reduceSub, Nat.reduceMul, Nat.reduceLeDiff, reduceCtorEq, ↓reduceIte, Int.reduceLT, Int.reduceLE, Int.reduceEq, Int.reduceNe]
  refine CallVC.perm (Γm := [gl]) (Γf := [gh, ge, gt, gk, gw]) (tab_loops (Γr := [gh, ge, gt, gk, gw] ++ Γr) V (hT.mono (lk_sub fun g hg => by simp at hg ⊢; rcases hg with rfl | hg <;> simp [*])) (by have := hGh.slok (L := lk ([gh, ge, gt, gk, gw] ++ Γr)) (lk_sub (by simp)); rwa [hSH.1] at this) hSH hm hCe (lk_sub (by simp)) hEI hED hGl) (List.perm_middle (l₁ := [gh, ge, gt])) (List.Sublist.refl _) ?_
  clear hGl
  rintro v Γ' ⟨gl, L, rfl, hGl, hSL, hLI, hLD⟩
  have P := tabP_of V hm hSH hSL hHS hEI hED hLI hLD
  have hTR : TabR ([gl, gh, ge, gt] ++ Γr) t g m R cR H L E ge := ⟨hT.mono (lk_sub fun g hg => by simp at hg ⊢; rcases hg with rfl | hg <;> simp [*]), by have := hGh.slok (L := lk ([gl, gh, ge, gt] ++ Γr)) (lk_sub (by simp)); rwa [hSH.1] at this, by have := hGl.slok (L := lk ([gl, gh, ge, gt] ++ Γr)) (lk_sub (by simp)); rwa [hSL.1] at this, hCe, lk_sub (by simp)⟩
  have hKn : KnI g m (List.replicate g.ns.toNat (List.replicate (m + 1) (-1 : Int))) := ⟨shp_rep _ _ _, fun a k _ _ h => by rw [matI, rep_mat _ _ _ _ rfl] at h; omega⟩
  have hWy : WyI g m (made3 g.rs m (-1 : Int)) := ⟨by simp [made3], fun i rows r h1 h2 => by
    rw [made3_at h1 h2]
    exact ⟨shp_rep _ _ _, fun p k _ _ h => by rw [matI, rep_mat _ _ _ _ rfl] at h; omega⟩⟩
  generalize List.replicate g.ns.toNat (List.replicate (m + 1) (-1 : Int)) = K at hGk hKn
  generalize made3 g.rs m (-1 : Int) = W at hCw hWy
  simp -implicitDefEqProofs only [go_sem, Nat.reduceBEq, Nat.reduceAdd, Nat.reduceSub, Nat.reduceMul, Nat.reduceLeDiff, reduceCtorEq, ↓reduceIte, Int.reduceLT, Int.reduceLE, Int.reduceEq, Int.reduceNe]
  rw [hN]
  refine ⟨by omega, by omega, fun bo => ?_⟩
  refine s_loop (fun f vs Γ => ∃ (a : Nat) (gk gw go gd : PH) (K : List (List Int)) (W : List (List (List Int))) (hs : List Hd), vs = [.v true (.int .i64 (a : Int))] ∧ Γ = [gk, gw, go, gd, gl, gh, ge, gt] ∧ a + f = N ∧ Grid gk t.bk 29 3 K ∧ KnI g m K ∧ Cube gw 29 3 t.bw W ∧ WyI g m W ∧ Arr go bo 29 (hs ++ List.replicate (N - a) ⟨none, 0, 0⟩) ∧ hs.length = a ∧ HdsOk (lk [gd]) hs (cenRows g m a)) N
    (Up.emp (Up.sel [[6], [7], [1], [0], [2], [3], [4], [5]] (by decide) fun _ hm => ⟨0, _, _, _, _, K, W, [], rfl, rfl, by omega, hGk, hKn, hCw, hWy, by rw [List.nil_append, Nat.sub_zero]; exact Arr.made (α := Hd) ⟨none, 0, 0⟩ bo 29 N, rfl, ⟨rfl, fun i h xs h1 => by simp at h1⟩⟩)) ?_
  clear hGk hKn hCw hWy
  rintro f vs Γ ⟨a, gk, gw, go, gd, K, W, hs, rfl, rfl, haf, hGk, hKn, hCw, hWy, hAo, hhl, hHd⟩
  simp -implicitDefEqProofs only [S79_2, go_sem, Nat.reduceBEq, Nat.reduceAdd, Nat.reduceSub, Nat.reduceMul, Nat.reduceLeDiff, reduceCtorEq, ↓reduceIte, Int.reduceLT, Int.reduceLE, Int.reduceEq, Int.reduceNe]
  refine ⟨fun hlt => ?_, fun hge => ?_⟩
  · have ha : a < N := by omega
    obtain ⟨d, hd⟩ : ∃ d, N - a = d + 1 := ⟨N - a - 1, by omega⟩
    have hd' : N - (a + 1) = d := by omega
    rw [hd, List.replicate_succ] at hAo
    simp (disch := omega) only [wrap_id]
    refine s_loop (fun f2 vs Γ => ∃ (k : Nat) (gk gw gr go : PH) (K : List (List Int)) (W : List (List (List Int))) (Ar : Option Addr) (cr : Nat), vs = [.v true (.int .i64 (k : Int))] ∧ Γ = [gk, gw, gr, go, gd, gl, gh, ge, gt] ∧ k + f2 = m + 1 ∧ Grid gk t.bk 29 3 K ∧ KnI g m K ∧ Cube gw 29 3 t.bw W ∧ WyI g m W ∧ Arr go bo 29 (hs ++ (⟨Ar, k, cr⟩ : Hd) :: List.replicate d ⟨none, 0, 0⟩) ∧ Bld gr (lk []) 3 (.slice Ar k cr) (cenRow g m a k)) (m + 1)
      (Up.emp (Up.sel [[1], [2], [0], [3], [4], [5], [6], [7], [8]] (by decide) fun _ _ => ⟨0, _, _, _, _, K, W, none, 0, rfl, rfl, by omega, hGk, hKn, hCw, hWy, hAo, Bld.nil _ _ _⟩)) ?_
    clear hGk hKn hCw hWy hAo
    rintro f2 vs Γ ⟨k, gk, gw, gr, go, K, W, Ar, cr, rfl, rfl, hkf, hGk, hKn, hCw, hWy, hAo, hBr⟩
    have hrl : (cenRow g m a k).length = k := by simp [cenRow]
    have hol : (hs ++ (⟨Ar, k, cr⟩ : Hd) :: List.replicate d ⟨none, 0, 0⟩).length = N := by simp; omega
    have hga : (hs ++ (⟨Ar, k, cr⟩ : Hd) :: List.replicate d ⟨none, 0, 0⟩)[a]'(by omega) = ⟨Ar, k, cr⟩ := by subst hhl; simp
    have hcell : ∀ Γ : Ctx, go ∈ Γ → Cells Γ bo a [.slice Ar k cr] := fun Γ hg => by
      have := hAo.cell (i := a) (by omega) hg
      rw [hga] at this
      exact this
    simp -implicitDefEqProofs only [S79_1, go_sem, Nat.reduceBEq, Nat.reduceAdd, Nat.reduceSub, Nat.reduceMul, Nat.reduceLeDiff, reduceCtorEq, ↓reduceIte, Int.reduceLT, Int.reduceLE, Int.reduceEq, Int.reduceNe]
    refine ⟨fun hlt => ?_, fun hge => ?_⟩
    · have hk : k ≤ m := by omega
      have hcall := count_any P (Γr := [gr, go, gd, gl, gh, ge, gt] ++ Γr) (hTR.mono (lk_sub fun g hg => by simp at hg ⊢; rcases hg with rfl | rfl | rfl | rfl | hg <;> simp [*])) hGk hKn hCw hWy (a := a) (by omega) hk
      refine ⟨[gk, gw, gr, go, gd, gl, gh, ge, gt], [], fun ψ Γ' => ∃ (gk' gw' gr' go' : PH) (K : List (List Int)) (W : List (List (List Int))) (Ar : Option Addr) (cr : Nat), ψ = [(1, .v true (.int .i64 (m : Int))), (7, .v true (.pointer (some ⟨t.b, 0, none⟩))), (8, .v true (.slice (some ⟨bo, 0, none⟩) N N)), (9, .v true (.int .i64 (a : Int))), (33, .v true (.int .i64 (N : Int))), (34, .v true (.int .i64 (a : Int))), (38, .v true (.int .i64 ((m : Int) + 1))), (39, .v true (.int .i64 (k : Int)))] ∧
        Γ' = [gk', gw', gr', go', gd, gl, gh, ge, gt] ∧ Grid gk' t.bk 29 3 K ∧ KnI g m K ∧ Cube gw' 29 3 t.bw W ∧ WyI g m W ∧ Arr go' bo 29 (hs ++ (⟨Ar, k + 1, cr⟩ : Hd) :: List.replicate d ⟨none, 0, 0⟩) ∧ Bld gr' (lk []) 3 (.slice Ar (k + 1) cr) (cenRow g m a (k + 1)), Ent.refl _, ?_, ?_⟩
      · simp -implicitDefEqProofs only [go_sem, Nat.reduceBEq, Nat.reduceAdd, Nat.reduceSub, Nat.reduceMul, Nat.reduceLeDiff, reduceCtorEq, ↓reduceIte, Int.reduceLT, Int.reduceLE, Int.reduceEq, Int.reduceNe]
        refine s_idx rfl (by omega) (by omega) ?_
        simp -implicitDefEqProofs only [go_sem, Nat.reduceBEq, Nat.reduceAdd, Nat.reduceSub, Nat.reduceMul, Nat.reduceLeDiff, reduceCtorEq, ↓reduceIte, Int.reduceLT, Int.reduceLE, Int.reduceEq, Int.reduceNe]
        repeat' first
          | with_reducible exact True.intro
          | with_reducible refine And.intro ?_ ?_
          | with_reducible intro bk
          | (refine s_ld0 (by simpa using hcell _ (by simp)) (by simp) (by simp) ?_)
          | (refine CallVC.perm (Γm := [gk, gw]) (Γf := [gr, go, gd, gl, gh, ge, gt]) hcall (List.Perm.refl _) (List.Sublist.refl _) ?_; rintro v Γ' ⟨gk', gw', K', W', rfl, rfl, hGk', hKn', hCw', hWy'⟩)
          | (refine s_app1S (α := Int) (ix := 3) (cenF g m a k) rfl hBr cells_one rfl (by omega) (by unfold maxLen; omega) ?_; intro va' gr' hBr' _; obtain ⟨Ar', cr', rfl⟩ := hBr'.val)
          | (refine s_idx rfl (by omega) (by omega) ?_)
          | (refine s_storeA (ix := 4) (α := Hd) (⟨Ar', _, cr'⟩ : Hd) rfl hAo (i := a) (by omega) ?_; intro go' hAo' _)
          | simp -implicitDefEqProofs only [go_sem, Nat.reduceBEq, Nat.reduceAdd, Nat.reduceSub, Nat.reduceMul, Nat.reduceLeDiff, reduceCtorEq, ↓reduceIte, Int.reduceLT, Int.reduceLE, Int.reduceEq, Int.reduceNe]
        all_goals have e1 : (cenRow g m a k ++ [cenF g m a k]).length = k + 1 := by simp [hrl]
        all_goals rw [e1] at hBr' hAo'
        all_goals rw [← cenRow_succ] at hBr'
        all_goals exact Up.skip (Up.here ⟨gk', gw', gr', go', K', W', Ar', cr', rfl, hGk', hKn', hCw', hWy', by subst hhl; simpa using hAo', hBr'⟩)
      · rintro ψ Γ' ⟨gk, gw, gr, go, K, W, Ar, cr, rfl, rfl, hGk, hKn, hCw, hWy, hAo, hBr⟩
        simp -implicitDefEqProofs only [go_sem, Nat.reduceBEq, Nat.reduceAdd, Nat.reduceSub, Nat.reduceMul, Nat.reduceLeDiff, reduceCtorEq, ↓reduceIte, Int.reduceLT, Int.reduceLE, Int.reduceEq, Int.reduceNe]
        simp (disch := omega) only [wrap_id]
        exact ⟨f2 - 1, by omega, Up.here ⟨k + 1, gk, gw, gr, go, K, W, Ar, cr, rfl, rfl, by omega, hGk, hKn, hCw, hWy, hAo, hBr⟩⟩
    · have hke : k = m + 1 := by omega
      subst hke
      obtain ⟨A', c', ea, hSr⟩ := hBr.slok (L' := lk [gr]) (Mem.le.refl _) (fun b o ⟨x, hx, _⟩ => by cases hx) (by omega)
      rw [hrl] at ea
      simp only [Value.slice.injEq, true_and] at ea
      obtain ⟨rfl, rfl⟩ := ea
      simp (disch := omega) only [wrap_id]
      refine ⟨f - 1, by omega, Up.sel [[0], [1], [3], [4, 2], [5], [6], [7], [8]] (by decide) fun _ hm2 => ⟨a + 1, gk, gw, go, _, K, W, hs ++ [⟨Ar, m + 1, cr⟩], rfl, rfl, by omega, hGk, hKn, hCw, hWy, by rw [hd', List.append_assoc]; exact hAo, by simp [hhl], ?_⟩⟩
      rw [cenRows_succ]
      have hmg := hm2 [4, 2] (by simp)
      exact hHd.snoc (Mem.le.trans (lk_sub (by simp [sel])) hmg) hrl.symm (hSr.mono (Mem.le.trans (lk_sub (by simp [sel])) hmg))
  · have hae : a = N := by omega
    subst hae
    rw [Nat.sub_self, List.replicate_zero, List.append_nil] at hAo
    refine Up.sel [[2, 3]] (by decide) fun _ hm2 => ?_
    have hmg := hm2 [2, 3] (by simp)
    subst hR
    have hSo := Arr.slok (g := go) (b := bo) (T := 29) hAo (Mem.le.refl _) (Nat.le_refl _) (by unfold maxLen; omega) (by omega)
    have := HdsOk.slok hSo hHd (Mem.le.trans (lk_sub (by simp [sel])) hmg) (Mem.le.trans (lk_sub (by simp [sel])) hmg)
    rw [hhl] at this
    exact .inr ⟨hce, _, _, _, rfl, rfl, this⟩
end Go.Proofs.Ytniobbepliknmaa.V
