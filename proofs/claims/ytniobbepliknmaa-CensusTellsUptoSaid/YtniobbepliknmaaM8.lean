/- Texts put together, in the order in which they build; each says what it proves; no condition. -/
import Derived.Test.YtniobbepliknmaaM7
import Derived.Test.YtniobbepliknmaaM4
import Derived.Test.YtniobbepliknmaaM5
import Derived.Test.YtniobbepliknmaaM2
import Derived.Test.YtniobbepliknmaaProg
import Derived.Test.YtniobbepliknmaaM6
/- parlref5.heights: up walked; no condition. -/
namespace Go.Proofs.Ytniobbepliknmaa.V
open Go
set_option linter.unusedVariables false
set_option linter.unusedSimpArgs false
attribute [local go_sem] e_seq e_region e_quiet e_join e_loop e_cond e_block e_exit e_ret e_skip e_fin e_kseq e_snrm e_sret e_sex e_bnrm e_bret e_bex e_rnrm e_rret e_res e_condC e_nil e_g e_mv g_mv e_pick g_pick pickC_eq e_ibin g_ibin ibinC_eq e_sbin g_sbin e_beq g_beq beqC_eq e_nilq g_nilq nilqC_sl nilqC_pt nilqC_mp e_un g_un unC_not unC_neg e_conv g_conv convC_eq e_fld g_fld fldC_ref fldC_ptr e_nilCheck g_nilCheck nilCheckC_ref nilCheckC_ptr nilCheckC_fun e_field g_field fieldC_eq e_len g_len lenC_sl lenC_str e_extract g_extract extractC_eq e_mkFunc e_build g_build e_idiv g_idiv idivC_eq e_ishift g_ishift ishiftC_eq e_idx g_idx e_idxA g_idxA e_load g_load e_loadB g_loadB atB_ref atB_v g_mkFunc loadC_ref loadC_ptr loadB_eq e_slc g_slc e_box boxC_loc boxC_esc e_alloc allocC_loc allocC_esc e_buildS e_store storeC_ref storeC_ptr storeB_eq e_append e_appz e_mk mkC_eq e_call callC_eq e_fn g_fn fnC_eq fnV_min' fnV_max' fnV_rune' e_q g_q e_a e_n g_call g_box g_alloc g_buildS g_store g_append g_mk g_a g_n g_dead e_dead e_callK e_drawn e_tree e_finJ e_tk e_tfin e_tno e_nbt_q e_nbt_qn e_nbt_a e_nbt_an e_nbt_fin e_drawnB e_bxb_nil e_bxb e_stB_none e_stB_some boxSt_store bs_mv bs_pick bs_ibin bs_idiv bs_ishift bs_sbin bs_beq bs_nilq bs_un bs_conv bs_box bs_alloc bs_build bs_buildS bs_load bs_fld bs_nilCheck bs_idx bs_idxA bs_field bs_slc bs_len bs_append bs_appz bs_mk bs_call bs_extract bs_mkFunc bs_fn bs_q bs_a bs_n bs_loadB bs_dead isBox_box e_early_nil e_early_t e_early_f e_nob_nil e_nob_none e_nob_some isBox_dead isBox_v isBox_ref e_dnil e_dk e_ek e_finB vcOps_vc1 e_dcons e_tq e_ekt e_tearly e_talt e_dearly look_nil look_c proj_nil proj_c looks_nil looks_c zip_nil zip_c val_tmp val_const val_func slv_v slv_box slv_ref slot_tmp slot_const slot_func slotL_v slotL_box slotL_ref put_some put_none updBox_c boxSet_box gd_eq slotVals_nil slotVals_c slotVals_b boxV_box boxOn_box slotsOn_nil slotsOn_c slotsOn_b resV_one resV_two vals_nil vals_c allOn_nil allOn_c partOn_nil partOn_c partVals_nil partVals_c fits_nil fits_c fillL_nil fillL_c mkv_one mkv_agg cellsV_agg cellsV_int cellsV_bool cellsV_slice cellsV_string cellsV_pointer cellsV_func cellsV_nilf cellsV_map one'_nil one'_c oc_int oc_bool oc_slice oc_string oc_pointer oc_func oc_nilf oc_map setC_eq iv_add iv_sub iv_mul iv_eql iv_neq iv_lss iv_leq iv_gtr iv_geq iok_add iok_sub iok_mul iok_eql iok_neq iok_lss iok_leq iok_gtr iok_geq pickV_bool args0_nil args0_c bnd_none bnd_some imp_bt imp_bf imp_ebt imp_ebf imp_eb1 imp_np imp_pp beq_tt beq_tf beq_ft beq_ff cond_or cond_and e_round e_meet Int.le_refl Int.toNat_zero decide_true decide_false Bool.or_false Bool.false_or Bool.true_or Bool.or_true Bool.and_false Bool.false_and Bool.bne_false Bool.bne_true beq_iff_eq Int.cast_ofNat_Int not_false_eq_true not_true_eq_false false_and and_false false_implies true_implies true_and and_true Bool.true_and Bool.and_true Bool.not_true Bool.not_false forall_const implies_true List.take_zero List.drop_zero List.take_succ_cons List.drop_succ_cons List.take_nil List.drop_nil List.length_cons List.length_nil List.nil_append List.append_nil List.cons_append Int.toNat_natCast decide_eq_true_eq decide_eq_false_iff_not cond_true cond_false and_self List.getElem?_cons_zero List.getElem?_cons_succ List.set_cons_zero List.set_cons_succ Option.some.injEq exists_eq_left' Nat.zero_add Nat.add_zero Nat.mul_one imp_self true_or or_true or_false false_or Bool.or_eq_true Bool.or_eq_false_iff Bool.and_eq_true Bool.and_eq_false_iff Bool.not_eq_true' Bool.not_eq_false'

theorem Grid.ne {α : Type} [Sc α] {g : PH} {b k : Nat} {T e : TypeId} {rows : List (List α)} (h : Grid g b T e rows) (hTe : T ≠ e) {xs : List α} (hA : Arr g k e xs) : b ≠ k := by
  intro q
  subst q
  obtain ⟨ps, hB, _⟩ := h
  have := hB.out
  rw [Arr] at hA
  rw [hA] at this
  simp at this
  exact hTe this.2.symm
theorem Ent.front {A B : Ctx} (h : Ent A B) : ∀ C : Ctx, Ent (C ++ A) (C ++ B)
  | [] => h
  | c :: C => Ent.cons c (Ent.front h C)
theorem Ent.app {A B : Ctx} (h : Ent A B) (C : Ctx) : Ent (A ++ C) (B ++ C) := (Ent.perm List.perm_append_comm).trans ((h.front C).trans (Ent.perm List.perm_append_comm))
/-- so many rules at places before k, one more -/
def cK (k i k' : Nat) : Nat := if k' < k then i + 1 else i
theorem cK_step (k i k' : Nat) : updC (cK k i) k (i + 1) k' = cK (k + 1) i k' := by
  unfold updC cK
  by_cases e : k' = k
  · rw [if_pos e, if_pos (by omega)]
  · rw [if_neg e]
    by_cases q : k' < k
    · rw [if_pos q, if_pos (by omega)]
    · rw [if_neg q, if_neg (by omega)]
theorem nxtT_congr {g : Gr} {T : Int → Nat → Nat} {c c' : Nat → Nat} {k : Nat} (h : c k = c' k) (a : Nat) : nxtT g T c a k = nxtT g T c' a k := by unfold nxtT; rw [h]
theorem or_lt {a b c d : Nat} (h1 : a ≤ b) (h2 : c ≤ d) : a + c < b + d ↔ a < b ∨ c < d := by omega
theorem nxtT_le {g : Gr} {T T' : Int → Nat → Nat} (h : LeT T' T) (c : Nat → Nat) (a k : Nat) : nxtT g T' c a k ≤ nxtT g T c a k := sumR_le h _ _ _
set_option maxHeartbeats 6400000 in
theorem heights_up {Γr : Ctx} {g : Gr} (V : VG g) {n : Nat} (hn : n ≤ 24) {R : Option Addr} {cR : Nat} (hx : SlOk (lk Γr) R cR g.rs) {gt : PH} {b bm ba bj : Nat} (hb : gt b = some (.cells (htC g n R cR bm ba bj).toArray 193 (0, 0))) {T T' : Int → Nat → Nat} (hle : LeT T' T) {M : List (List Int)} {A J : List (List Bool)}
    (hI : Tri g.ns.toNat n (fun a => T (a : Int)) (fun a => T' (a : Int)) M A J) (hM : SlOk (lk Γr) (some ⟨bm, 0, none⟩) g.ns.toNat M) (hA : SlOk (lk Γr) (some ⟨ba, 0, none⟩) g.ns.toNat A) (hJ : SlOk (lk Γr) (some ⟨bj, 0, none⟩) g.ns.toNat J) :
    Ret Try.prog 152 [.pointer (some ⟨b, 0, none⟩)] Γr [gt] (fun v Γ => ∃ gt' gm ga gj bm' ba' bj' M' A' J', Γ = [gt', gm, ga, gj] ∧ v = .tuple #[] ∧ gt' b = some (.cells (htC g n R cR bm' ba' bj').toArray 193 (0, 0)) ∧
      Grid gm bm' 29 3 M' ∧ Grid ga ba' 22 4 A' ∧ Grid gj bj' 22 4 J' ∧ Tri g.ns.toNat n (nxtT g T (fun _ => g.rs.length)) (nxtT g T' (fun _ => g.rs.length)) M' A' J') := by
  generalize hR : (fun (v : Value) (Γ : Ctx) => ∃ gt' gm ga gj bm' ba' bj' M' A' J', _) = R'
  refine ret_of_vc tr152 (Nat.le_of_ble_eq_true rfl) ?_
  simp -implicitDefEqProofs only [S152, S152_0, go_sem, Nat.reduceBEq, Nat.reduceAdd, Nat.reduceSub, Nat.reduceMul, Nat.reduceLeDiff, reduceCtorEq, ↓reduceIte, Int.reduceLT, Int.reduceLE, Int.reduceEq, Int.reduceNe]
  have hns := V.ns
  have hvl := V.len
  have hsh := hx.short
  obtain ⟨N, hN⟩ : ∃ N : Nat, g.ns = N := ⟨g.ns.toNat, by omega⟩
  have hN' : g.ns.toNat = N := by omega
  have hw : IntKind.i64.wrap ((n : Int) + 1) = ((n + 1 : Nat) : Int) := by rw [wrap_id (by omega) (by omega)]; rfl
  have hbl : ∀ Γ : Ctx, gt ∈ Γ → lk Γ b (.cells (htC g n R cR bm ba bj).toArray 193 (0, 0)) := fun Γ h => ⟨gt, h, hb⟩
  refine s_drawn [] [gt] (Ent.refl _) ?_
  simp -implicitDefEqProofs only [go_sem, Nat.reduceBEq, Nat.reduceAdd, Nat.reduceSub, Nat.reduceMul, Nat.reduceLeDiff, reduceCtorEq, ↓reduceIte, Int.reduceLT, Int.reduceLE, Int.reduceEq, Int.reduceNe]
  refine s_ld (j := 1) (cells_lk (hbl _ (by simp))) (by simp [htC]) (by simp) ?_
  simp -implicitDefEqProofs only [htC, go_sem, Nat.reduceBEq, Nat.reduceAdd, Nat.reduceSub, Nat.reduceMul, Nat.reduceLeDiff, reduceCtorEq, ↓reduceIte, Int.reduceLT, Int.reduceLE, Int.reduceEq, Int.reduceNe]
  refine s_ld (j := 4) (cells_lk (hbl _ (by simp))) (by simp [htC]) (by simp) ?_
  simp -implicitDefEqProofs only [htC, go_sem, Nat.reduceBEq, Nat.reduceAdd, Nat.reduceSub, Nat.reduceMul, Nat.reduceLeDiff, reduceCtorEq, ↓reduceIte, Int.reduceLT, Int.reduceLE, Int.reduceEq, Int.reduceNe]
  refine s_ld (j := 1) (cells_lk (hbl _ (by simp))) (by simp [htC]) (by simp) ?_
  simp -implicitDefEqProofs only [htC, go_sem, Nat.reduceBEq, Nat.reduceAdd, Nat.reduceSub, Nat.reduceMul, Nat.reduceLeDiff, reduceCtorEq, ↓reduceIte, Int.reduceLT, Int.reduceLE, Int.reduceEq, Int.reduceNe]
  refine s_ld (j := 4) (cells_lk (hbl _ (by simp))) (by simp [htC]) (by simp) ?_
  simp -implicitDefEqProofs only [htC, go_sem, Nat.reduceBEq, Nat.reduceAdd, Nat.reduceSub, Nat.reduceMul, Nat.reduceLeDiff, reduceCtorEq, ↓reduceIte, Int.reduceLT, Int.reduceLE, Int.reduceEq, Int.reduceNe]
  refine s_ld (j := 1) (cells_lk (hbl _ (by simp))) (by simp [htC]) (by simp) ?_
  simp -implicitDefEqProofs only [htC, go_sem, Nat.reduceBEq, Nat.reduceAdd, Nat.reduceSub, Nat.reduceMul, Nat.reduceLeDiff, reduceCtorEq, ↓reduceIte, Int.reduceLT, Int.reduceLE, Int.reduceEq, Int.reduceNe]
  refine s_ld (j := 4) (cells_lk (hbl _ (by simp))) (by simp [htC]) (by simp) ?_
  simp -implicitDefEqProofs only [htC, hw, go_sem, Nat.reduceBEq, Nat.reduceAdd, Nat.reduceSub, Nat.reduceMul, Nat.reduceLeDiff, reduceCtorEq, ↓reduceIte, Int.reduceLT, Int.reduceLE, Int.reduceEq, Int.reduceNe]
  rw [hN]
  refine CallVC.read (grid_int N (n + 1) (by omega) (by omega)) ?_
  rintro v Γ' ⟨gm, bm', rfl, rfl, hGm⟩
  simp -implicitDefEqProofs only [go_sem, Nat.reduceBEq, Nat.reduceAdd, Nat.reduceSub, Nat.reduceMul, Nat.reduceLeDiff, reduceCtorEq, ↓reduceIte, Int.reduceLT, Int.reduceLE, Int.reduceEq, Int.reduceNe]
  refine CallVC.read (grid_bool N (n + 1) (by omega) (by omega)) ?_
  rintro v Γ' ⟨ga, ba', rfl, rfl, hGa⟩
  simp -implicitDefEqProofs only [go_sem, Nat.reduceBEq, Nat.reduceAdd, Nat.reduceSub, Nat.reduceMul, Nat.reduceLeDiff, reduceCtorEq, ↓reduceIte, Int.reduceLT, Int.reduceLE, Int.reduceEq, Int.reduceNe]
  refine CallVC.read (grid_bool N (n + 1) (by omega) (by omega)) ?_
  rintro v Γ' ⟨gj, bj', rfl, rfl, hGj⟩
  simp -implicitDefEqProofs only [go_sem, Nat.reduceBEq, Nat.reduceAdd, Nat.reduceSub, Nat.reduceMul, Nat.reduceLeDiff, reduceCtorEq, ↓reduceIte, Int.reduceLT, Int.reduceLE, Int.reduceEq, Int.reduceNe]
  refine s_ld (j := 3) (cells_lk (lk_l [gj, ga, gm, gt] Γr _ _ (hbl _ (by simp)))) (by simp [htC]) (by simp) ?_
  simp -implicitDefEqProofs only [htC, go_sem, Nat.reduceBEq, Nat.reduceAdd, Nat.reduceSub, Nat.reduceMul, Nat.reduceLeDiff, reduceCtorEq, ↓reduceIte, Int.reduceLT, Int.reduceLE, Int.reduceEq, Int.reduceNe]
  have hsh0 : ∀ (T : Int → Nat → Nat) x k, 0 = nxtT g T (fun _ => 0) x k := fun T x k => rfl
  refine s_loop (fun f vs Γ => ∃ (gm ga gj : PH) (M : List (List Int)) (A J : List (List Bool)) (i : Nat), vs = [.v true (.int .i64 (i : Int))] ∧ Γ = [gm, ga, gj, gt] ∧ i + f = g.rs.length ∧ Grid gm bm' 29 3 M ∧ Grid ga ba' 22 4 A ∧ Grid gj bj' 22 4 J ∧ Tri N n (nxtT g T (fun _ => i)) (nxtT g T' (fun _ => i)) M A J) g.rs.length
    (Up.sel [[2], [1], [0], [3]] (by decide) fun _ _ => ⟨gm, ga, gj, _, _, _, 0, rfl, rfl, by omega, hGm, hGa, hGj, (Tri.zero N n).congr (fun x k _ _ => hsh0 T x k) (fun x k _ _ => hsh0 T' x k)⟩) ?_
  clear hGm hGa hGj
  rintro f vs Γ ⟨gm, ga, gj, M2, A2, J2, i, rfl, rfl, hif, hGm, hGa, hGj, hT⟩
  simp -implicitDefEqProofs only [S152_2, go_sem, Nat.reduceBEq, Nat.reduceAdd, Nat.reduceSub, Nat.reduceMul, Nat.reduceLeDiff, reduceCtorEq, ↓reduceIte, Int.reduceLT, Int.reduceLE, Int.reduceEq, Int.reduceNe]
  refine ⟨fun hlt => ?_, fun hge => ?_⟩
  · have hi : i < g.rs.length := by omega
    have hmem := List.getElem_mem hi
    have hleft := V.left _ hmem
    have hr4 := V.right _ hmem
    have hsym := V.sym _ hmem
    obtain ⟨b0, o0, h0, A1, c1, hr1, hcr⟩ := hx.ru hi
    have hupd := fun T c y x hc hx a k => nxtT_upd (T := T) (c := c) (y := y) (x := x) hi hc hx a k
    generalize hrr : g.rs[i] = r at *
    obtain ⟨p, hp⟩ : ∃ p : Nat, r.l = p := ⟨r.l.toNat, by omega⟩
    have hpN : p < N := by omega
    refine s_idx h0 (by omega) (by omega) ?_
    simp -implicitDefEqProofs only [go_sem, Nat.reduceBEq, Nat.reduceAdd, Nat.reduceSub, Nat.reduceMul, Nat.reduceLeDiff, reduceCtorEq, ↓reduceIte, Int.reduceLT, Int.reduceLE, Int.reduceEq, Int.reduceNe]
    refine s_ld0 (by simpa using hcr _ (lk_r [gm, ga, gj, gt] _)) (by simp) (by simp) ?_
    simp -implicitDefEqProofs only [go_sem, Nat.reduceBEq, Nat.reduceAdd, Nat.reduceSub, Nat.reduceMul, Nat.reduceLeDiff, reduceCtorEq, ↓reduceIte, Int.reduceLT, Int.reduceLE, Int.reduceEq, Int.reduceNe]
    intro bx
    have hrow := heights_row (Γr := [gm, ga, gj, gt] ++ Γr) V hn (b := b) (R := R) (cR := cR) (bm := bm) (ba := ba) (bj := bj) (lk_l _ Γr _ _ (hbl _ (by simp))) hle hI (hM.mono (lk_r [gm, ga, gj, gt] _)) (hA.mono (lk_r [gm, ga, gj, gt] _)) (hJ.mono (lk_r [gm, ga, gj, gt] _)) (hr1.mono (lk_r [gm, ga, gj, gt] _)) hr4 (fun s hs h => ⟨(hsym s hs).1, (hsym s hs).2.2 h⟩)
    refine CallVC.read hrow ?_
    rintro v Γ' ⟨h1, h2, h3, b1, b2, b3, m, a, j, rfl, rfl, hm, ha, hj, hRow⟩
    simp -implicitDefEqProofs only [go_sem, Nat.reduceBEq, Nat.reduceAdd, Nat.reduceSub, Nat.reduceMul, Nat.reduceLeDiff, reduceCtorEq, ↓reduceIte, Int.reduceLT, Int.reduceLE, Int.reduceEq, Int.reduceNe]
    refine s_ld (j := 4) (cells_lk (lk_l [h1, h2, h3, gm, ga, gj, gt] Γr _ _ (hbl _ (by simp)))) (by simp [htC]) (by simp) ?_
    simp -implicitDefEqProofs only [htC, hw, go_sem, Nat.reduceBEq, Nat.reduceAdd, Nat.reduceSub, Nat.reduceMul, Nat.reduceLeDiff, reduceCtorEq, ↓reduceIte, Int.reduceLT, Int.reduceLE, Int.reduceEq, Int.reduceNe]
    refine s_loop (fun f2 vs Γ => ∃ (gm ga gj : PH) (M : List (List Int)) (A J : List (List Bool)) (k : Nat), vs = [.v true (.int .i64 (k : Int))] ∧ Γ = [gm, ga, gj, h1, h2, h3, gt] ∧ k + f2 = n + 1 ∧ Grid gm bm' 29 3 M ∧ Grid ga ba' 22 4 A ∧ Grid gj bj' 22 4 J ∧ Tri N n (nxtT g T (cK k i)) (nxtT g T' (cK k i)) M A J) (n + 1)
      (Up.sel [[3], [4], [5], [0], [1], [2], [6]] (by decide) fun _ _ => ⟨gm, ga, gj, _, _, _, 0, rfl, rfl, by omega, hGm, hGa, hGj, hT⟩) ?_
    clear hGm hGa hGj hT
    rintro f2 vs Γ ⟨gm, ga, gj, M2, A2, J2, k, rfl, rfl, hkf, hGm, hGa, hGj, hT⟩
    simp -implicitDefEqProofs only [S152_1, go_sem, Nat.reduceBEq, Nat.reduceAdd, Nat.reduceSub, Nat.reduceMul, Nat.reduceLeDiff, reduceCtorEq, ↓reduceIte, Int.reduceLT, Int.reduceLE, Int.reduceEq, Int.reduceNe]
    refine ⟨fun hlt => ?_, fun hge => ?_⟩
    · have hk : k ≤ n := by omega
      have hM2l := hT.m.1
      have hA2l := hT.a.1
      have hJ2l := hT.j.1
      have hM2r := hT.m.at' (i := p) (by omega)
      have hA2r := hT.a.at' (i := p) (by omega)
      have hJ2r := hT.j.at' (i := p) (by omega)
      obtain ⟨e1, e2, e3⟩ := hRow.get hk (by rw [hRow.ml]; omega) (by rw [hRow.al]; omega) (by rw [hRow.jl]; omega)
      obtain ⟨v1, v2, v3⟩ := hT.at' p k hpN hk
      rw [matI_get (List.getElem?_eq_getElem (show p < M2.length by omega)) (show k < M2[p].length by omega)] at v1
      rw [mat_get (List.getElem?_eq_getElem (show p < A2.length by omega)) (show k < A2[p].length by omega)] at v2
      rw [mat_get (List.getElem?_eq_getElem (show p < J2.length by omega)) (show k < J2[p].length by omega)] at v3
      have hml := hRow.ml
      have hal := hRow.al
      have hjl := hRow.jl
      obtain ⟨km, hcm, hAm, hsm⟩ := hGm.at' (i := p) (by omega) (by omega)
      obtain ⟨ka, hca, hAa, hsa⟩ := hGa.at' (i := p) (by omega) (by omega)
      obtain ⟨kj, hcj, hAj, hsj⟩ := hGj.at' (i := p) (by omega) (by omega)
      rw [hM2r] at hcm
      rw [hA2r] at hca
      rw [hJ2r] at hcj
      have hne := hGm.ne (by decide) hAm
      have hent := (Ent.cut hAm).app [ga, gj, h1, h2, h3, gt]
      have hAo : Arr (one km (.cells (M2[p].map Sc.enc).toArray 3 (0, 0))) km 3 M2[p] := one_self _ _
      have hdm := (hcm [gm] (by simp)).del' hne (Γ := [del gm km, ga, gj, h1, h2, h3, gt] ++ Γr) (by simp)
      revert hent hAo
      generalize one km _ = gp
      intro hent hAo
      refine s_drawn [gp] [del gm km, ga, gj, h1, h2, h3, gt] hent ?_
      simp -implicitDefEqProofs only [go_sem, Nat.reduceBEq, Nat.reduceAdd, Nat.reduceSub, Nat.reduceMul, Nat.reduceLeDiff, reduceCtorEq, ↓reduceIte, Int.reduceLT, Int.reduceLE, Int.reduceEq, Int.reduceNe]
      rw [hp]
      have hX := capN_le (nxtT g T (cK k i) p k)
      have hY := capN_le (rowT T r.r k)
      have hw4 : IntKind.i64.wrap (((capN (nxtT g T (cK k i) p k) : Nat) : Int) + ((capN (rowT T r.r k) : Nat) : Int)) = ((capN (nxtT g T (cK k i) p k) + capN (rowT T r.r k) : Nat) : Int) := by rw [← Int.natCast_add, wrap_id (by omega) (by omega)]
      have hcA : ∀ Γ : Ctx, gp ∈ Γ → Cells Γ km k [.int .i64 ((capN (nxtT g T (cK k i) p k) : Nat) : Int)] := fun Γ hg => by
        have := hAo.num (i := k) (by omega) hg
        rwa [v1] at this
      have hcB : ∀ Γ : Ctx, h1 ∈ Γ → Cells Γ b1 k [.int .i64 ((capN (rowT T r.r k) : Nat) : Int)] := fun Γ hg => by
        have := hm.num (i := k) (by omega) hg
        rwa [e1] at this
      refine s_idx rfl (by omega) (by omega) ?_
      simp -implicitDefEqProofs only [go_sem, Nat.reduceBEq, Nat.reduceAdd, Nat.reduceSub, Nat.reduceMul, Nat.reduceLeDiff, reduceCtorEq, ↓reduceIte, Int.reduceLT, Int.reduceLE, Int.reduceEq, Int.reduceNe]
      refine s_ld0 (by simpa using hdm) (by simp) (by simp) ?_
      simp -implicitDefEqProofs only [go_sem, Nat.reduceBEq, Nat.reduceAdd, Nat.reduceSub, Nat.reduceMul, Nat.reduceLeDiff, reduceCtorEq, ↓reduceIte, Int.reduceLT, Int.reduceLE, Int.reduceEq, Int.reduceNe]
      refine s_idx rfl (by omega) (by omega) ?_
      simp -implicitDefEqProofs only [go_sem, Nat.reduceBEq, Nat.reduceAdd, Nat.reduceSub, Nat.reduceMul, Nat.reduceLeDiff, reduceCtorEq, ↓reduceIte, Int.reduceLT, Int.reduceLE, Int.reduceEq, Int.reduceNe]
      refine s_ld0 (by simpa using (hcm [gm] (by simp)).del' hne (Γ := [gp, del gm km, ga, gj, h1, h2, h3, gt] ++ Γr) (by simp)) (by simp) (by simp) ?_
      simp -implicitDefEqProofs only [go_sem, Nat.reduceBEq, Nat.reduceAdd, Nat.reduceSub, Nat.reduceMul, Nat.reduceLeDiff, reduceCtorEq, ↓reduceIte, Int.reduceLT, Int.reduceLE, Int.reduceEq, Int.reduceNe]
      refine s_idx rfl (by omega) (by omega) ?_
      simp -implicitDefEqProofs only [go_sem, Nat.reduceBEq, Nat.reduceAdd, Nat.reduceSub, Nat.reduceMul, Nat.reduceLeDiff, reduceCtorEq, ↓reduceIte, Int.reduceLT, Int.reduceLE, Int.reduceEq, Int.reduceNe]
      refine s_ld0 (hcA _ (by simp)) (by simp) (by simp) ?_
      simp -implicitDefEqProofs only [go_sem, Nat.reduceBEq, Nat.reduceAdd, Nat.reduceSub, Nat.reduceMul, Nat.reduceLeDiff, reduceCtorEq, ↓reduceIte, Int.reduceLT, Int.reduceLE, Int.reduceEq, Int.reduceNe]
      refine s_idx rfl (by omega) (by omega) ?_
      simp -implicitDefEqProofs only [go_sem, Nat.reduceBEq, Nat.reduceAdd, Nat.reduceSub, Nat.reduceMul, Nat.reduceLeDiff, reduceCtorEq, ↓reduceIte, Int.reduceLT, Int.reduceLE, Int.reduceEq, Int.reduceNe]
      refine s_ld0 (hcB _ (by simp)) (by simp) (by simp) ?_
      simp -implicitDefEqProofs only [hw4, go_sem, Nat.reduceBEq, Nat.reduceAdd, Nat.reduceSub, Nat.reduceMul, Nat.reduceLeDiff, reduceCtorEq, ↓reduceIte, Int.reduceLT, Int.reduceLE, Int.reduceEq, Int.reduceNe]
      refine CallVC.read (ref_capped (capN (nxtT g T (cK k i) p k) + capN (rowT T r.r k)) (by omega)) ?_
      rintro v Γ' ⟨rfl, rfl⟩
      rw [capN_add]
      simp -implicitDefEqProofs only [go_sem, Nat.reduceBEq, Nat.reduceAdd, Nat.reduceSub, Nat.reduceMul, Nat.reduceLeDiff, reduceCtorEq, ↓reduceIte, Int.reduceLT, Int.reduceLE, Int.reduceEq, Int.reduceNe]
      refine s_idx rfl (by omega) (by omega) ?_
      simp -implicitDefEqProofs only [go_sem, Nat.reduceBEq, Nat.reduceAdd, Nat.reduceSub, Nat.reduceMul, Nat.reduceLeDiff, reduceCtorEq, ↓reduceIte, Int.reduceLT, Int.reduceLE, Int.reduceEq, Int.reduceNe]
      refine s_storeA (ix := 0) (α := Int) ((capN (nxtT g T (cK k i) p k + rowT T r.r k) : Nat) : Int) rfl hAo (i := k) (by omega) ?_
      intro gx hAx _
      clear hcA hcB hw4
      simp -implicitDefEqProofs only [go_sem, Nat.reduceBEq, Nat.reduceAdd, Nat.reduceSub, Nat.reduceMul, Nat.reduceLeDiff, reduceCtorEq, ↓reduceIte, Int.reduceLT, Int.reduceLE, Int.reduceEq, Int.reduceNe]
      have hcA2 : ∀ Γ : Ctx, ga ∈ Γ → Cells Γ ka k [.bool A2[p][k]] := fun Γ hg => hAa.bool (by omega) hg
      have hcJ2 : ∀ Γ : Ctx, gj ∈ Γ → Cells Γ kj k [.bool J2[p][k]] := fun Γ hg => hAj.bool (by omega) hg
      have hcA3 : ∀ Γ : Ctx, h2 ∈ Γ → Cells Γ b2 k [.bool a[k]] := fun Γ hg => ha.bool (by omega) hg
      have hcJ3 : ∀ Γ : Ctx, h3 ∈ Γ → Cells Γ b3 k [.bool j[k]] := fun Γ hg => hj.bool (by omega) hg
      have fin : ∀ (ab jb : Bool) (gax gjx : PH), Arr gax ka 4 (A2[p].set k ab) → (∀ x, x ≠ ka → gax x = ga x) → Arr gjx kj 4 (J2[p].set k jb) → (∀ x, x ≠ kj → gjx x = gj x) → (ab = true ↔ A2[p][k] = true ∨ a[k] = true) → (jb = true ↔ J2[p][k] = true ∨ j[k] = true) →
          Up [gx, del gm km, gax, gjx, h1, h2, h3, gt] (fun Γ => ∃ (gm ga gj : PH) (M : List (List Int)) (A J : List (List Bool)) (k1 : Nat), [Sl.v true (.int .i64 ((k : Int) + 1))] = [.v true (.int .i64 (k1 : Int))] ∧ Γ = [gm, ga, gj, h1, h2, h3, gt] ∧ k1 + (f2 - 1) = n + 1 ∧ Grid gm bm' 29 3 M ∧ Grid ga ba' 22 4 A ∧ Grid gj bj' 22 4 J ∧ Tri N n (nxtT g T (cK k1 i)) (nxtT g T' (cK k1 i)) M A J) := by
        intro ab jb gax gjx q1 q2 q3 q4 q5 q6
        have hG1 := hsm (upd gm km (.cells ((M2[p].set k ((capN (nxtT g T (cK k i) p k + rowT T r.r k) : Nat) : Int)).map Sc.enc).toArray 3 (0, 0))) _ (upd_self _ _ _) (by simp) (fun y hy => upd_other hy)
        have hG2 := hsa gax _ q1 (by simp) q2
        have hG3 := hsj gjx _ q3 (by simp) q4
        have hl1 := nxtT_le hle (cK k i) (g := g) p k
        have hl2 := rowT_le hle r.r k
        have hset := hT.set hpN hk (List.getElem?_eq_getElem (show p < M2.length by omega)) (List.getElem?_eq_getElem (show p < A2.length by omega)) (List.getElem?_eq_getElem (show p < J2.length by omega)) (v := nxtT g T (cK k i) p k + rowT T r.r k) (v' := nxtT g T' (cK k i) p k + rowT T' r.r k) rfl
          (b := ab) (d := jb) (by rw [q5, v2, e2]; omega) (by rw [q6, v3, e3, or_lt hl1 hl2])
        refine Up.to (upd gm km (.cells ((M2[p].set k ((capN (nxtT g T (cK k i) p k + rowT T r.r k) : Nat) : Int)).map Sc.enc).toArray 3 (0, 0)) :: [gax, gjx, h1, h2, h3, gt]) ((Ent.mend hAx).app [gax, gjx, h1, h2, h3, gt]) ⟨_, _, _, _, _, _, k + 1, rfl, rfl, by omega, hG1, hG2, hG3, ?_⟩
        have hcc : cK k i k = i := by unfold cK; rw [if_neg (by omega)]
        exact hset.congr (fun x y _ _ => by rw [hupd T _ _ _ hcc hp]; exact nxtT_congr (cK_step k i y) x) (fun x y _ _ => by rw [hupd T' _ _ _ hcc hp]; exact nxtT_congr (cK_step k i y) x)
      generalize A2[p][k] = a0 at *
      generalize J2[p][k] = j0 at *
      generalize a[k] = ax at *
      generalize j[k] = jx at *
      refine s_idx rfl (by omega) (by omega) ?_
      simp -implicitDefEqProofs only [go_sem, Nat.reduceBEq, Nat.reduceAdd, Nat.reduceSub, Nat.reduceMul, Nat.reduceLeDiff, reduceCtorEq, ↓reduceIte, Int.reduceLT, Int.reduceLE, Int.reduceEq, Int.reduceNe]
      refine s_ld0 (by simpa using hca _ (by simp)) (by simp) (by simp) ?_
      simp -implicitDefEqProofs only [go_sem, Nat.reduceBEq, Nat.reduceAdd, Nat.reduceSub, Nat.reduceMul, Nat.reduceLeDiff, reduceCtorEq, ↓reduceIte, Int.reduceLT, Int.reduceLE, Int.reduceEq, Int.reduceNe]
      refine s_idx rfl (by omega) (by omega) ?_
      simp -implicitDefEqProofs only [go_sem, Nat.reduceBEq, Nat.reduceAdd, Nat.reduceSub, Nat.reduceMul, Nat.reduceLeDiff, reduceCtorEq, ↓reduceIte, Int.reduceLT, Int.reduceLE, Int.reduceEq, Int.reduceNe]
      refine s_ld0 (by simpa using hca _ (by simp)) (by simp) (by simp) ?_
      simp -implicitDefEqProofs only [go_sem, Nat.reduceBEq, Nat.reduceAdd, Nat.reduceSub, Nat.reduceMul, Nat.reduceLeDiff, reduceCtorEq, ↓reduceIte, Int.reduceLT, Int.reduceLE, Int.reduceEq, Int.reduceNe]
      refine s_idx rfl (by omega) (by omega) ?_
      simp -implicitDefEqProofs only [go_sem, Nat.reduceBEq, Nat.reduceAdd, Nat.reduceSub, Nat.reduceMul, Nat.reduceLeDiff, reduceCtorEq, ↓reduceIte, Int.reduceLT, Int.reduceLE, Int.reduceEq, Int.reduceNe]
      refine s_ld0 (hcA2 _ (by simp)) (by simp) (by simp) ?_
      cases a0 with
      | true =>
        simp -implicitDefEqProofs only [go_sem, Nat.reduceBEq, Nat.reduceAdd, Nat.reduceSub, Nat.reduceMul, Nat.reduceLeDiff, reduceCtorEq, ↓reduceIte, Int.reduceLT, Int.reduceLE, Int.reduceEq, Int.reduceNe]
        refine s_idxg (b := 0) (o := 0) (by simp) ?_
        simp -implicitDefEqProofs only [go_sem, Nat.reduceBEq, Nat.reduceAdd, Nat.reduceSub, Nat.reduceMul, Nat.reduceLeDiff, reduceCtorEq, ↓reduceIte, Int.reduceLT, Int.reduceLE, Int.reduceEq, Int.reduceNe]
        refine s_ldg0 (cs := [.bool false]) (by simp) (by simp) (by simp) (by simp) ?_
        simp -implicitDefEqProofs only [go_sem, Nat.reduceBEq, Nat.reduceAdd, Nat.reduceSub, Nat.reduceMul, Nat.reduceLeDiff, reduceCtorEq, ↓reduceIte, Int.reduceLT, Int.reduceLE, Int.reduceEq, Int.reduceNe]
        refine s_idx rfl (by omega) (by omega) ?_
        simp -implicitDefEqProofs only [go_sem, Nat.reduceBEq, Nat.reduceAdd, Nat.reduceSub, Nat.reduceMul, Nat.reduceLeDiff, reduceCtorEq, ↓reduceIte, Int.reduceLT, Int.reduceLE, Int.reduceEq, Int.reduceNe]
        refine s_storeA (ix := 2) (α := Bool) true rfl hAa (i := k) (by omega) ?_
        intro gax hAx2 hoa
        simp -implicitDefEqProofs only [go_sem, Nat.reduceBEq, Nat.reduceAdd, Nat.reduceSub, Nat.reduceMul, Nat.reduceLeDiff, reduceCtorEq, ↓reduceIte, Int.reduceLT, Int.reduceLE, Int.reduceEq, Int.reduceNe]
        refine s_idx rfl (by omega) (by omega) ?_
        simp -implicitDefEqProofs only [go_sem, Nat.reduceBEq, Nat.reduceAdd, Nat.reduceSub, Nat.reduceMul, Nat.reduceLeDiff, reduceCtorEq, ↓reduceIte, Int.reduceLT, Int.reduceLE, Int.reduceEq, Int.reduceNe]
        refine s_ld0 (by simpa using hcj _ (by simp)) (by simp) (by simp) ?_
        simp -implicitDefEqProofs only [go_sem, Nat.reduceBEq, Nat.reduceAdd, Nat.reduceSub, Nat.reduceMul, Nat.reduceLeDiff, reduceCtorEq, ↓reduceIte, Int.reduceLT, Int.reduceLE, Int.reduceEq, Int.reduceNe]
        refine s_idx rfl (by omega) (by omega) ?_
        simp -implicitDefEqProofs only [go_sem, Nat.reduceBEq, Nat.reduceAdd, Nat.reduceSub, Nat.reduceMul, Nat.reduceLeDiff, reduceCtorEq, ↓reduceIte, Int.reduceLT, Int.reduceLE, Int.reduceEq, Int.reduceNe]
        refine s_ld0 (by simpa using hcj _ (by simp)) (by simp) (by simp) ?_
        simp -implicitDefEqProofs only [go_sem, Nat.reduceBEq, Nat.reduceAdd, Nat.reduceSub, Nat.reduceMul, Nat.reduceLeDiff, reduceCtorEq, ↓reduceIte, Int.reduceLT, Int.reduceLE, Int.reduceEq, Int.reduceNe]
        refine s_idx rfl (by omega) (by omega) ?_
        simp -implicitDefEqProofs only [go_sem, Nat.reduceBEq, Nat.reduceAdd, Nat.reduceSub, Nat.reduceMul, Nat.reduceLeDiff, reduceCtorEq, ↓reduceIte, Int.reduceLT, Int.reduceLE, Int.reduceEq, Int.reduceNe]
        refine s_ld0 (hcJ2 _ (by simp)) (by simp) (by simp) ?_
        cases j0 with
        | true =>
          simp -implicitDefEqProofs only [go_sem, Nat.reduceBEq, Nat.reduceAdd, Nat.reduceSub, Nat.reduceMul, Nat.reduceLeDiff, reduceCtorEq, ↓reduceIte, Int.reduceLT, Int.reduceLE, Int.reduceEq, Int.reduceNe]
          refine s_idxg (b := 0) (o := 0) (by simp) ?_
          simp -implicitDefEqProofs only [go_sem, Nat.reduceBEq, Nat.reduceAdd, Nat.reduceSub, Nat.reduceMul, Nat.reduceLeDiff, reduceCtorEq, ↓reduceIte, Int.reduceLT, Int.reduceLE, Int.reduceEq, Int.reduceNe]
          refine s_ldg0 (cs := [.bool false]) (by simp) (by simp) (by simp) (by simp) ?_
          simp -implicitDefEqProofs only [go_sem, Nat.reduceBEq, Nat.reduceAdd, Nat.reduceSub, Nat.reduceMul, Nat.reduceLeDiff, reduceCtorEq, ↓reduceIte, Int.reduceLT, Int.reduceLE, Int.reduceEq, Int.reduceNe]
          refine s_idx rfl (by omega) (by omega) ?_
          simp -implicitDefEqProofs only [go_sem, Nat.reduceBEq, Nat.reduceAdd, Nat.reduceSub, Nat.reduceMul, Nat.reduceLeDiff, reduceCtorEq, ↓reduceIte, Int.reduceLT, Int.reduceLE, Int.reduceEq, Int.reduceNe]
          refine s_storeA (ix := 3) (α := Bool) true rfl hAj (i := k) (by omega) ?_
          intro gjx hJx hoj
          simp -implicitDefEqProofs only [go_sem, Nat.reduceBEq, Nat.reduceAdd, Nat.reduceSub, Nat.reduceMul, Nat.reduceLeDiff, reduceCtorEq, ↓reduceIte, Int.reduceLT, Int.reduceLE, Int.reduceEq, Int.reduceNe]
          simp (disch := omega) only [wrap_id]
          exact ⟨f2 - 1, by omega, fin true true gax gjx hAx2 hoa hJx hoj (by simp) (by simp)⟩
        | false =>
          simp -implicitDefEqProofs only [go_sem, Nat.reduceBEq, Nat.reduceAdd, Nat.reduceSub, Nat.reduceMul, Nat.reduceLeDiff, reduceCtorEq, ↓reduceIte, Int.reduceLT, Int.reduceLE, Int.reduceEq, Int.reduceNe]
          refine s_idx rfl (by omega) (by omega) ?_
          simp -implicitDefEqProofs only [go_sem, Nat.reduceBEq, Nat.reduceAdd, Nat.reduceSub, Nat.reduceMul, Nat.reduceLeDiff, reduceCtorEq, ↓reduceIte, Int.reduceLT, Int.reduceLE, Int.reduceEq, Int.reduceNe]
          refine s_ld0 (hcJ3 _ (by simp)) (by simp) (by simp) ?_
          simp -implicitDefEqProofs only [go_sem, Nat.reduceBEq, Nat.reduceAdd, Nat.reduceSub, Nat.reduceMul, Nat.reduceLeDiff, reduceCtorEq, ↓reduceIte, Int.reduceLT, Int.reduceLE, Int.reduceEq, Int.reduceNe]
          refine s_idx rfl (by omega) (by omega) ?_
          simp -implicitDefEqProofs only [go_sem, Nat.reduceBEq, Nat.reduceAdd, Nat.reduceSub, Nat.reduceMul, Nat.reduceLeDiff, reduceCtorEq, ↓reduceIte, Int.reduceLT, Int.reduceLE, Int.reduceEq, Int.reduceNe]
          refine s_storeA (ix := 3) (α := Bool) jx rfl hAj (i := k) (by omega) ?_
          intro gjx hJx hoj
          simp -implicitDefEqProofs only [go_sem, Nat.reduceBEq, Nat.reduceAdd, Nat.reduceSub, Nat.reduceMul, Nat.reduceLeDiff, reduceCtorEq, ↓reduceIte, Int.reduceLT, Int.reduceLE, Int.reduceEq, Int.reduceNe]
          simp (disch := omega) only [wrap_id]
          exact ⟨f2 - 1, by omega, fin true jx gax gjx hAx2 hoa hJx hoj (by simp) (by simp)⟩
      | false =>
        simp -implicitDefEqProofs only [go_sem, Nat.reduceBEq, Nat.reduceAdd, Nat.reduceSub, Nat.reduceMul, Nat.reduceLeDiff, reduceCtorEq, ↓reduceIte, Int.reduceLT, Int.reduceLE, Int.reduceEq, Int.reduceNe]
        refine s_idx rfl (by omega) (by omega) ?_
        simp -implicitDefEqProofs only [go_sem, Nat.reduceBEq, Nat.reduceAdd, Nat.reduceSub, Nat.reduceMul, Nat.reduceLeDiff, reduceCtorEq, ↓reduceIte, Int.reduceLT, Int.reduceLE, Int.reduceEq, Int.reduceNe]
        refine s_ld0 (hcA3 _ (by simp)) (by simp) (by simp) ?_
        simp -implicitDefEqProofs only [go_sem, Nat.reduceBEq, Nat.reduceAdd, Nat.reduceSub, Nat.reduceMul, Nat.reduceLeDiff, reduceCtorEq, ↓reduceIte, Int.reduceLT, Int.reduceLE, Int.reduceEq, Int.reduceNe]
        refine s_idx rfl (by omega) (by omega) ?_
        simp -implicitDefEqProofs only [go_sem, Nat.reduceBEq, Nat.reduceAdd, Nat.reduceSub, Nat.reduceMul, Nat.reduceLeDiff, reduceCtorEq, ↓reduceIte, Int.reduceLT, Int.reduceLE, Int.reduceEq, Int.reduceNe]
        refine s_storeA (ix := 2) (α := Bool) ax rfl hAa (i := k) (by omega) ?_
        intro gax hAx2 hoa
        simp -implicitDefEqProofs only [go_sem, Nat.reduceBEq, Nat.reduceAdd, Nat.reduceSub, Nat.reduceMul, Nat.reduceLeDiff, reduceCtorEq, ↓reduceIte, Int.reduceLT, Int.reduceLE, Int.reduceEq, Int.reduceNe]
        refine s_idx rfl (by omega) (by omega) ?_
        simp -implicitDefEqProofs only [go_sem, Nat.reduceBEq, Nat.reduceAdd, Nat.reduceSub, Nat.reduceMul, Nat.reduceLeDiff, reduceCtorEq, ↓reduceIte, Int.reduceLT, Int.reduceLE, Int.reduceEq, Int.reduceNe]
        refine s_ld0 (by simpa using hcj _ (by simp)) (by simp) (by simp) ?_
        simp -implicitDefEqProofs only [go_sem, Nat.reduceBEq, Nat.reduceAdd, Nat.reduceSub, Nat.reduceMul, Nat.reduceLeDiff, reduceCtorEq, ↓reduceIte, Int.reduceLT, Int.reduceLE, Int.reduceEq, Int.reduceNe]
        refine s_idx rfl (by omega) (by omega) ?_
        simp -implicitDefEqProofs only [go_sem, Nat.reduceBEq, Nat.reduceAdd, Nat.reduceSub, Nat.reduceMul, Nat.reduceLeDiff, reduceCtorEq, ↓reduceIte, Int.reduceLT, Int.reduceLE, Int.reduceEq, Int.reduceNe]
        refine s_ld0 (by simpa using hcj _ (by simp)) (by simp) (by simp) ?_
        simp -implicitDefEqProofs only [go_sem, Nat.reduceBEq, Nat.reduceAdd, Nat.reduceSub, Nat.reduceMul, Nat.reduceLeDiff, reduceCtorEq, ↓reduceIte, Int.reduceLT, Int.reduceLE, Int.reduceEq, Int.reduceNe]
        refine s_idx rfl (by omega) (by omega) ?_
        simp -implicitDefEqProofs only [go_sem, Nat.reduceBEq, Nat.reduceAdd, Nat.reduceSub, Nat.reduceMul, Nat.reduceLeDiff, reduceCtorEq, ↓reduceIte, Int.reduceLT, Int.reduceLE, Int.reduceEq, Int.reduceNe]
        refine s_ld0 (hcJ2 _ (by simp)) (by simp) (by simp) ?_
        cases j0 with
        | true =>
          simp -implicitDefEqProofs only [go_sem, Nat.reduceBEq, Nat.reduceAdd, Nat.reduceSub, Nat.reduceMul, Nat.reduceLeDiff, reduceCtorEq, ↓reduceIte, Int.reduceLT, Int.reduceLE, Int.reduceEq, Int.reduceNe]
          refine s_idxg (b := 0) (o := 0) (by simp) ?_
          simp -implicitDefEqProofs only [go_sem, Nat.reduceBEq, Nat.reduceAdd, Nat.reduceSub, Nat.reduceMul, Nat.reduceLeDiff, reduceCtorEq, ↓reduceIte, Int.reduceLT, Int.reduceLE, Int.reduceEq, Int.reduceNe]
          refine s_ldg0 (cs := [.bool false]) (by simp) (by simp) (by simp) (by simp) ?_
          simp -implicitDefEqProofs only [go_sem, Nat.reduceBEq, Nat.reduceAdd, Nat.reduceSub, Nat.reduceMul, Nat.reduceLeDiff, reduceCtorEq, ↓reduceIte, Int.reduceLT, Int.reduceLE, Int.reduceEq, Int.reduceNe]
          refine s_idx rfl (by omega) (by omega) ?_
          simp -implicitDefEqProofs only [go_sem, Nat.reduceBEq, Nat.reduceAdd, Nat.reduceSub, Nat.reduceMul, Nat.reduceLeDiff, reduceCtorEq, ↓reduceIte, Int.reduceLT, Int.reduceLE, Int.reduceEq, Int.reduceNe]
          refine s_storeA (ix := 3) (α := Bool) true rfl hAj (i := k) (by omega) ?_
          intro gjx hJx hoj
          simp -implicitDefEqProofs only [go_sem, Nat.reduceBEq, Nat.reduceAdd, Nat.reduceSub, Nat.reduceMul, Nat.reduceLeDiff, reduceCtorEq, ↓reduceIte, Int.reduceLT, Int.reduceLE, Int.reduceEq, Int.reduceNe]
          simp (disch := omega) only [wrap_id]
          exact ⟨f2 - 1, by omega, fin ax true gax gjx hAx2 hoa hJx hoj (by simp) (by simp)⟩
        | false =>
          simp -implicitDefEqProofs only [go_sem, Nat.reduceBEq, Nat.reduceAdd, Nat.reduceSub, Nat.reduceMul, Nat.reduceLeDiff, reduceCtorEq, ↓reduceIte, Int.reduceLT, Int.reduceLE, Int.reduceEq, Int.reduceNe]
          refine s_idx rfl (by omega) (by omega) ?_
          simp -implicitDefEqProofs only [go_sem, Nat.reduceBEq, Nat.reduceAdd, Nat.reduceSub, Nat.reduceMul, Nat.reduceLeDiff, reduceCtorEq, ↓reduceIte, Int.reduceLT, Int.reduceLE, Int.reduceEq, Int.reduceNe]
          refine s_ld0 (hcJ3 _ (by simp)) (by simp) (by simp) ?_
          simp -implicitDefEqProofs only [go_sem, Nat.reduceBEq, Nat.reduceAdd, Nat.reduceSub, Nat.reduceMul, Nat.reduceLeDiff, reduceCtorEq, ↓reduceIte, Int.reduceLT, Int.reduceLE, Int.reduceEq, Int.reduceNe]
          refine s_idx rfl (by omega) (by omega) ?_
          simp -implicitDefEqProofs only [go_sem, Nat.reduceBEq, Nat.reduceAdd, Nat.reduceSub, Nat.reduceMul, Nat.reduceLeDiff, reduceCtorEq, ↓reduceIte, Int.reduceLT, Int.reduceLE, Int.reduceEq, Int.reduceNe]
          refine s_storeA (ix := 3) (α := Bool) jx rfl hAj (i := k) (by omega) ?_
          intro gjx hJx hoj
          simp -implicitDefEqProofs only [go_sem, Nat.reduceBEq, Nat.reduceAdd, Nat.reduceSub, Nat.reduceMul, Nat.reduceLeDiff, reduceCtorEq, ↓reduceIte, Int.reduceLT, Int.reduceLE, Int.reduceEq, Int.reduceNe]
          simp (disch := omega) only [wrap_id]
          exact ⟨f2 - 1, by omega, fin ax jx gax gjx hAx2 hoa hJx hoj (by simp) (by simp)⟩
    · have hke : k = n + 1 := by omega
      subst hke
      simp (disch := omega) only [wrap_id]
      refine ⟨f - 1, by omega, Up.sel [[0], [1], [2], [6]] (by decide) fun _ _ => ⟨gm, ga, gj, _, _, _, i + 1, rfl, rfl, by omega, hGm, hGa, hGj, hT.congr (fun x y _ hy => nxtT_congr (by unfold cK; rw [if_pos (by omega)]) x) (fun x y _ hy => nxtT_congr (by unfold cK; rw [if_pos (by omega)]) x)⟩⟩
  · have hie : i = g.rs.length := by omega
    subst hie
    refine s_storeF (ix := 3) (o := 5) (n := 1) rfl hb (by simp [htC]) ?_
    simp -implicitDefEqProofs only [htC, go_sem, Nat.reduceBEq, Nat.reduceAdd, Nat.reduceSub, Nat.reduceMul, Nat.reduceLeDiff, reduceCtorEq, ↓reduceIte, Int.reduceLT, Int.reduceLE, Int.reduceEq, Int.reduceNe]
    refine s_storeF (ix := 3) (o := 6) (n := 1) rfl (upd_self _ _ _) (by simp [setC, htC]) ?_
    simp -implicitDefEqProofs only [htC, go_sem, Nat.reduceBEq, Nat.reduceAdd, Nat.reduceSub, Nat.reduceMul, Nat.reduceLeDiff, reduceCtorEq, ↓reduceIte, Int.reduceLT, Int.reduceLE, Int.reduceEq, Int.reduceNe]
    refine s_storeF (ix := 3) (o := 7) (n := 1) rfl (upd_self _ _ _) (by simp [setC, htC]) ?_
    simp -implicitDefEqProofs only [htC, go_sem, Nat.reduceBEq, Nat.reduceAdd, Nat.reduceSub, Nat.reduceMul, Nat.reduceLeDiff, reduceCtorEq, ↓reduceIte, Int.reduceLT, Int.reduceLE, Int.reduceEq, Int.reduceNe]
    refine Up.sel [[3], [0], [1], [2]] (by decide) fun _ _ => ?_
    subst hR
    refine ⟨_, gm, ga, gj, bm', ba', bj', M2, A2, J2, rfl, rfl, ?_, hGm, hGa, hGj, by rw [hN']; exact hT⟩
    exact (upd_self _ _ _).trans (by rw [htC, hN'])
end Go.Proofs.Ytniobbepliknmaa.V
/- Lists of trees in order, and the numbers of trees in them: the plain law; no condition. -/
namespace Go.Proofs.Ytniobbepliknmaa.V
open Go
set_option linter.unusedVariables false
set_option linter.unusedSimpArgs false

theorem EdP.first {g : Gr} {M : Nat} {a c : Int} {k i : Nat} (q : EdP g M a k c i) : ∃ b j, Ed g M a k b j ∧ ((b = c ∧ j = i) ∨ EdP g M b j c i) := by
  induction q with
  | one q => exact ⟨_, _, q, .inl ⟨rfl, rfl⟩⟩
  | step _ q2 ih =>
    obtain ⟨b, j, h1, h2⟩ := ih
    refine ⟨b, j, h1, .inr ?_⟩
    rcases h2 with ⟨rfl, rfl⟩ | h2
    · exact .one q2
    · exact .step h2 q2
/-! where an element lies -/
end Go.Proofs.Ytniobbepliknmaa.V
/- The text of parlance/parlref5.Census as a statement (slots: 0 g, 1 n, 2 g, 3 n, 6 e, 7 t, 8 _, 9 r, 10 k, 11 _, 12 s, 13 most, 14 endless, 15 out, 16 h, 17 a, 18 k, 19 a, 20 k); no condition. -/
namespace Go.Proofs.Ytniobbepliknmaa.V
open Go
def S80_1 : Stmt :=
 .seq
 (.region
 [.mk (some 65) none (.fld 0 (.tmp 12)),.mk (some 66) none (.load false 1 (.tmp 65)),
 .mk (some 67) none (.un .not (.tmp 66))]
 [1,2,7,9,10,52,53,54,59,60,61,67])
 (.cond (.tmp 67)
 (.region
 [.mk (some 68) none (.mv (.tmp 1)),
 .mk (some 69) none (.ibin .add (.tmp 68) (.const (.int .i64 1))),
 .mk (some 10) none (.mv (.tmp 69))]
 [1,2,7,9,10,52,53,54,59,60,61])
 .skip)
def S80_2 : Stmt :=
 .region
 [.mk (some 70) none (.mv (.tmp 10)),
 .mk (some 71) none (.ibin .add (.tmp 70) (.const (.int .i64 1))),
 .mk (some 10) none (.mv (.tmp 71))]
 [1,2,7,9,10,52,53,54,59,60,61]
def S80_3 : Stmt :=
 .block 3
 (.seq
 (.region
 [.mk (some 63) none (.idx 2 (.tmp 59) (.tmp 61)),
 .mk (some 64) none (.load true 2 (.tmp 63)),
 .mk (some 12) none (.alloc true 39 (.agg (Array.mk [.bool false,.int .i64 0]))),
 .mk none none (.store 2 (.tmp 12) (.tmp 64))]
 [1,2,7,9,10,12,52,53,54,59,60,61])
 (.join S80_1 S80_2 [10] [1,2,7,9,52,53,54,59,60,61]))
def S80_4 : Stmt :=
 .region
 [.mk (some 72) none (.ibin .add (.tmp 61) (.const (.int .i64 1))),
 .mk (some 61) none (.mv (.tmp 72))]
 [1,2,7,9,10,52,53,54,59,60,61]
def S80_5 : Stmt :=
 .seq
 (.region [.mk (some 62) none (.ibin .lss (.tmp 61) (.tmp 60))]
 [1,2,7,9,10,52,53,54,59,60,61,62])
 (.seq (.cond (.tmp 62) .skip (.exit 2))
 (.join S80_3 S80_4 [10] [1,2,7,9,52,53,54,59,60,61]))
def S80_6 : Stmt :=
 .block 1
 (.seq
 (.region
 [.mk (some 56) none (.idx 2 (.tmp 52) (.tmp 54)),
 .mk (some 57) none (.load true 2 (.tmp 56)),
 .mk (some 9) none
 (.alloc true 37 (.agg (Array.mk [.int .i64 0,.slice none 0 0]))),
 .mk none none (.store 2 (.tmp 9) (.tmp 57))]
 [1,2,7,9,52,53,54])
 (.seq
 (.region [.mk (some 10) none (.mv (.const (.int .i64 0)))]
 [1,2,7,9,10,52,53,54])
 (.seq
 (.seq
 (.region
 [.mk (some 58) none (.fld 1 (.tmp 9)),
 .mk (some 59) none (.load false 1 (.tmp 58)),
 .mk (some 60) none (.len false (.tmp 59)),
 .mk (some 61) none (.mv (.const (.int .i64 0)))]
 [1,2,7,9,10,52,53,54,59,60,61])
 (.block 2 (.loop S80_5 [10,61] [1,2,7,9,52,53,54,59,60])))
 (.seq
 (.region
 [.mk (some 73) none (.mv (.tmp 10)),.mk (some 74) none (.mv (.tmp 1)),
 .mk (some 75) none (.ibin .leq (.tmp 73) (.tmp 74))]
 [1,2,7,9,10,52,53,54,75])
 (.cond (.tmp 75)
 (.seq
 (.drawn
 [(false,.mk (some 76) none (.mv (.tmp 7))),
 (false,.mk (some 77) none (.nilCheck (.tmp 76))),
 (false,.mk (some 78) none (.fld 5 (.tmp 77))),
 (false,.mk (some 79) none (.load false 1 (.tmp 78))),
 (false,.mk (some 80) none (.fld 0 (.tmp 9))),
 (false,.mk (some 81) none (.load false 1 (.tmp 80))),
 (false,.mk (some 82) none (.idx 1 (.tmp 79) (.tmp 81))),
 (false,.mk (some 83) none (.load false 1 (.tmp 82))),
 (false,.mk (some 84) none (.mv (.tmp 10))),
 (false,.mk (some 85) none (.idx 1 (.tmp 83) (.tmp 84))),
 (false,.mk (some 86) none (.load false 1 (.tmp 85))),
 (false,
 .mk (some 87) none
 (.ibin .add (.tmp 86) (.const (.int .i64 1)))),
 (false,.mk (some 88) none (.idx 1 (.tmp 83) (.tmp 84))),
 (false,.mk none none (.store 1 (.tmp 88) (.tmp 87)))]
 [1,2,7,9,10,52,53,54])
 (.drawn
 [(false,.mk (some 89) none (.mv (.tmp 7))),
 (false,.mk (some 90) none (.nilCheck (.tmp 89))),
 (false,.mk (some 91) none (.fld 6 (.tmp 90))),
 (false,.mk (some 92) none (.load false 1 (.tmp 91))),
 (false,.mk (some 93) none (.fld 0 (.tmp 9))),
 (false,.mk (some 94) none (.load false 1 (.tmp 93))),
 (false,.mk (some 95) none (.idx 1 (.tmp 92) (.tmp 94))),
 (false,.mk (some 96) none (.load false 1 (.tmp 95))),
 (false,.mk (some 97) none (.mv (.tmp 10))),
 (false,.mk (some 98) none (.mv (.tmp 7))),
 (false,.mk (some 99) none (.nilCheck (.tmp 98))),
 (false,.mk (some 100) none (.fld 7 (.tmp 99))),
 (false,.mk (some 101) none (.load false 1 (.tmp 100))),
 (false,.mk (some 102) none (.fld 0 (.tmp 9))),
 (false,.mk (some 103) none (.load false 1 (.tmp 102))),
 (false,.mk (some 104) none (.idx 1 (.tmp 101) (.tmp 103))),
 (false,.mk (some 105) none (.load false 1 (.tmp 104))),
 (false,.mk (some 106) none (.mv (.tmp 10))),
 (false,.mk (some 107) none (.idx 1 (.tmp 96) (.tmp 97))),
 (false,.mk none none (.store 1 (.tmp 107) (.const (.bool true)))),
 (false,.mk (some 108) none (.idx 1 (.tmp 105) (.tmp 106))),
 (false,.mk none none (.store 1 (.tmp 108) (.const (.bool true))))]
 [1,2,7,52,53,54]))
 .skip)))))
def S80_7 : Stmt :=
 .region
 [.mk (some 109) none (.ibin .add (.tmp 54) (.const (.int .i64 1))),
 .mk (some 54) none (.mv (.tmp 109))]
 [1,2,7,52,53,54]
def S80_8 : Stmt :=
 .seq
 (.region [.mk (some 55) none (.ibin .lss (.tmp 54) (.tmp 53))]
 [1,2,7,52,53,54,55])
 (.seq (.cond (.tmp 55) .skip (.exit 0)) (.join S80_6 S80_7 [] [1,2,7,52,53,54]))
def S80_9 : Stmt :=
 .seq
 (.region
 [.mk (some 130) none (.mv (.tmp 15)),
 .mk (some 131) none (.nilq 0 false (.tmp 130) (.const (.slice none 0 0)))]
 [7,13,14,15,16,131])
 (.cond (.tmp 131)
 (.region
 [.mk (some 132) none (.mv (.tmp 7)),.mk (some 133) none (.nilCheck (.tmp 132)),
 .mk (some 134) none (.fld 5 (.tmp 133)),
 .mk (some 135) none (.load false 1 (.tmp 134)),
 .mk (some 15) none (.mv (.tmp 135))]
 [7,13,14,15,16])
 .skip)
def S80_10 : Stmt :=
 .seq
 (.region [.mk (some 147) none (.ibin .lss (.tmp 146) (.tmp 145))]
 [7,13,14,15,16,17,137,138,145,146,147])
 (.seq (.cond (.tmp 147) .skip (.exit 8))
 (.seq
 (.block 9
 (.seq
 (.region
 [.mk (some 148) none (.mv (.tmp 146)),.mk (some 18) none (.mv (.tmp 148))]
 [7,13,14,15,16,17,18,137,138,145,146])
 (.drawn
 [(false,.mk (some 149) none (.mv (.tmp 14))),
 (false,.mk (some 150) none (.mv (.tmp 17))),
 (false,.mk (some 151) none (.idx 1 (.tmp 149) (.tmp 150))),
 (false,.mk (some 152) none (.load false 1 (.tmp 151))),
 (false,.mk (some 153) none (.mv (.tmp 18))),
 (false,.mk (some 154) none (.mv (.tmp 14))),
 (false,.mk (some 155) none (.mv (.tmp 17))),
 (false,.mk (some 156) none (.idx 1 (.tmp 154) (.tmp 155))),
 (false,.mk (some 157) none (.load false 1 (.tmp 156))),
 (false,.mk (some 158) none (.mv (.tmp 18))),
 (false,.mk (some 159) none (.idx 1 (.tmp 157) (.tmp 158))),
 (false,.mk (some 160) none (.load false 1 (.tmp 159))),
 (false,.mk (some 161) none (.mv (.tmp 160))),
 (false,.mk (some 162) (some (161,false)) (.mv (.tmp 7))),
 (false,.mk (some 163) (some (161,false)) (.nilCheck (.tmp 162))),
 (false,.mk (some 164) (some (161,false)) (.fld 7 (.tmp 163))),
 (false,.mk (some 165) (some (161,false)) (.load false 1 (.tmp 164))),
 (false,.mk (some 166) (some (161,false)) (.mv (.tmp 17))),
 (false,.mk (some 167) (some (161,false)) (.idx 1 (.tmp 165) (.tmp 166))),
 (false,.mk (some 168) (some (161,false)) (.load false 1 (.tmp 167))),
 (false,.mk (some 169) (some (161,false)) (.mv (.tmp 18))),
 (false,.mk (some 170) (some (161,false)) (.idx 1 (.tmp 168) (.tmp 169))),
 (false,.mk (some 171) (some (161,false)) (.load false 1 (.tmp 170))),
 (false,
 .mk (some 172) none
 (.pick (.tmp 161) (.const (.bool true)) (.tmp 171))),
 (false,.mk (some 173) none (.idx 1 (.tmp 152) (.tmp 153))),
 (false,.mk none none (.store 1 (.tmp 173) (.tmp 172)))]
 [7,13,14,15,16,17,137,138,145,146])))
 (.region
 [.mk (some 174) none (.ibin .add (.tmp 146) (.const (.int .i64 1))),
 .mk (some 146) none (.mv (.tmp 174))]
 [7,13,14,15,16,17,137,138,145,146])))
def S80_11 : Stmt :=
 .seq
 (.region [.mk (some 139) none (.ibin .lss (.tmp 138) (.tmp 137))]
 [7,13,14,15,16,137,138,139])
 (.seq (.cond (.tmp 139) .skip (.exit 6))
 (.seq
 (.block 7
 (.seq
 (.region
 [.mk (some 140) none (.mv (.tmp 138)),.mk (some 17) none (.mv (.tmp 140))]
 [7,13,14,15,16,17,137,138])
 (.seq
 (.region
 [.mk (some 141) none (.mv (.tmp 14)),.mk (some 142) none (.mv (.tmp 17)),
 .mk (some 143) none (.idx 1 (.tmp 141) (.tmp 142)),
 .mk (some 144) none (.load false 1 (.tmp 143)),
 .mk (some 145) none (.len false (.tmp 144)),
 .mk (some 146) none (.mv (.const (.int .i64 0)))]
 [7,13,14,15,16,17,137,138,145,146])
 (.block 8 (.loop S80_10 [146] [7,13,14,15,16,17,137,138,145])))))
 (.region
 [.mk (some 175) none (.ibin .add (.tmp 138) (.const (.int .i64 1))),
 .mk (some 138) none (.mv (.tmp 175))]
 [7,13,14,15,16,137,138])))
def S80_12 : Stmt :=
 .seq
 (.region
 [.mk (some 136) none (.mv (.tmp 14)),.mk (some 137) none (.len false (.tmp 136)),
 .mk (some 138) none (.mv (.const (.int .i64 0)))]
 [7,13,14,15,16,137,138])
 (.block 6 (.loop S80_11 [138] [7,13,14,15,16,137]))
def S80_13 : Stmt :=
 .seq
 (.region
 [.mk (some 127) none (.mv (.tmp 16)),.mk (some 128) none (.mv (.tmp 13)),
 .mk (some 129) none (.ibin .gtr (.tmp 127) (.tmp 128))]
 [7,13,14,15,16,129])
 (.cond (.tmp 129) (.join S80_9 S80_12 [15] [7,13,14,16]) .skip)
def S80_14 : Stmt :=
 .region
 [.mk (some 176) none (.mv (.tmp 7)),
 .mk (some 177) none (.call (.func 152) [.tmp 176])]
 [7,13,14,15,16]
def S80_15 : Stmt :=
 .block 5 (.join S80_13 S80_14 [15] [7,13,14,16])
def S80_16 : Stmt :=
 .region
 [.mk (some 125) none (.mv (.tmp 16)),
 .mk (some 126) none (.ibin .add (.tmp 125) (.const (.int .i64 1))),
 .mk (some 16) none (.mv (.tmp 126))]
 [7,13,14,15,16]
def S80_17 : Stmt :=
 .seq
 (.seq
 (.region
 [.mk (some 120) none (.mv (.tmp 16)),.mk (some 121) none (.mv (.tmp 13)),
 .mk (some 122) none (.ibin .mul (.const (.int .i64 2)) (.tmp 121)),
 .mk (some 123) none (.ibin .add (.tmp 122) (.const (.int .i64 2))),
 .mk (some 124) none (.ibin .leq (.tmp 120) (.tmp 123))]
 [7,13,14,15,16,124])
 (.cond (.tmp 124) .skip (.exit 4)))
 (.join S80_15 S80_16 [15] [7,13,14,16])
def S80_18 : Stmt :=
 .block 13
 (.seq
 (.region
 [.mk (some 190) none (.mv (.tmp 188)),.mk (some 20) none (.mv (.tmp 190))]
 [14,15,19,20,179,180,187,188])
 (.seq
 (.region
 [.mk (some 191) none (.mv (.tmp 14)),.mk (some 192) none (.mv (.tmp 19)),
 .mk (some 193) none (.idx 1 (.tmp 191) (.tmp 192)),
 .mk (some 194) none (.load false 1 (.tmp 193)),
 .mk (some 195) none (.mv (.tmp 20)),
 .mk (some 196) none (.idx 1 (.tmp 194) (.tmp 195)),
 .mk (some 197) none (.load false 1 (.tmp 196))]
 [14,15,19,20,179,180,187,188,197])
 (.cond (.tmp 197)
 (.region
 [.mk (some 198) none (.mv (.tmp 15)),.mk (some 199) none (.mv (.tmp 19)),
 .mk (some 200) none (.idx 1 (.tmp 198) (.tmp 199)),
 .mk (some 201) none (.load false 1 (.tmp 200)),
 .mk (some 202) none (.mv (.tmp 20)),
 .mk (some 203) none (.idx 1 (.tmp 201) (.tmp 202)),
 .mk none none (.store 1 (.tmp 203) (.const (.int .i64 (-1))))]
 [14,15,19,179,180,187,188])
 .skip)))
def S80_19 : Stmt :=
 .region
 [.mk (some 204) none (.ibin .add (.tmp 188) (.const (.int .i64 1))),
 .mk (some 188) none (.mv (.tmp 204))]
 [14,15,19,179,180,187,188]
def S80_20 : Stmt :=
 .seq
 (.region [.mk (some 189) none (.ibin .lss (.tmp 188) (.tmp 187))]
 [14,15,19,179,180,187,188,189])
 (.seq (.cond (.tmp 189) .skip (.exit 12))
 (.join S80_18 S80_19 [] [14,15,19,179,180,187,188]))
def S80_21 : Stmt :=
 .seq
 (.region [.mk (some 181) none (.ibin .lss (.tmp 180) (.tmp 179))]
 [14,15,179,180,181])
 (.seq (.cond (.tmp 181) .skip (.exit 10))
 (.seq
 (.block 11
 (.seq
 (.region
 [.mk (some 182) none (.mv (.tmp 180)),.mk (some 19) none (.mv (.tmp 182))]
 [14,15,19,179,180])
 (.seq
 (.region
 [.mk (some 183) none (.mv (.tmp 15)),.mk (some 184) none (.mv (.tmp 19)),
 .mk (some 185) none (.idx 1 (.tmp 183) (.tmp 184)),
 .mk (some 186) none (.load false 1 (.tmp 185)),
 .mk (some 187) none (.len false (.tmp 186)),
 .mk (some 188) none (.mv (.const (.int .i64 0)))]
 [14,15,19,179,180,187,188])
 (.block 12 (.loop S80_20 [188] [14,15,19,179,180,187])))))
 (.region
 [.mk (some 205) none (.ibin .add (.tmp 180) (.const (.int .i64 1))),
 .mk (some 180) none (.mv (.tmp 205))]
 [14,15,179,180])))
def S80_0 : Stmt :=
 .seq
 (.region
 [.mk (some 2) none (.box true 57 (.tmp 0)),
 .mk (some 4) none (.mv (.const (.slice none 0 0))),
 .mk (some 5) none (.mv (.const (.int .i64 0)))]
 [1,2])
 (.seq
 (.seq
 (.region
 [.mk (some 21) none (.load true 4 (.tmp 2)),
 .mk (some 22) none (.call (.func 42) [.tmp 21]),
 .mk (some 6) none (.mv (.tmp 22))]
 [1,2,6])
 (.seq
 (.region
 [.mk (some 23) none (.mv (.tmp 6)),
 .mk (some 24) none (.ibin .neq (.tmp 23) (.const (.int .i64 0)))]
 [1,2,6,24])
 (.cond (.tmp 24)
 (.seq
 (.region
 [.mk (some 25) none (.mv (.tmp 6)),
 .mk (some 4) none (.mv (.const (.slice none 0 0))),
 .mk (some 5) none (.mv (.tmp 25))]
 [4,5])
 .ret)
 .skip)))
 (.seq
 (.seq
 (.region
 [.mk (some 26) none (.mv (.tmp 1)),
 .mk (some 27) none (.ibin .lss (.tmp 26) (.const (.int .i64 0))),
 .mk (some 28) none (.mv (.tmp 27)),
 .mk (some 29) (some (28,false)) (.mv (.tmp 1)),
 .mk (some 30) (some (28,false))
 (.ibin .gtr (.tmp 29) (.const (.int .i64 24))),
 .mk (some 31) none (.pick (.tmp 28) (.const (.bool true)) (.tmp 30))]
 [1,2,31])
 (.cond (.tmp 31)
 (.seq
 (.region
 [.mk (some 4) none (.mv (.const (.slice none 0 0))),
 .mk (some 5) none (.mv (.const (.int .i64 1)))]
 [4,5])
 .ret)
 .skip))
 (.seq
 (.drawn
 [(true,.mk (some 32) none (.load true 4 (.tmp 2))),
 (false,.mk (some 33) none (.mv (.tmp 1))),
 (false,.mk (some 34) none (.fld 1 (.tmp 2))),
 (false,.mk (some 35) none (.load false 1 (.tmp 34))),
 (false,.mk (some 36) none (.mv (.tmp 1))),
 (false,
 .mk (some 37) none (.ibin .add (.tmp 36) (.const (.int .i64 1)))),
 (false,.mk (some 39) none (.fld 1 (.tmp 2))),
 (true,.mk (some 40) none (.load false 1 (.tmp 39))),
 (false,.mk (some 41) none (.mv (.tmp 1))),
 (false,
 .mk (some 42) none (.ibin .add (.tmp 41) (.const (.int .i64 1)))),
 (false,.mk (some 44) none (.fld 1 (.tmp 2))),
 (true,.mk (some 45) none (.load false 1 (.tmp 44))),
 (false,.mk (some 46) none (.mv (.tmp 1))),
 (false,
 .mk (some 47) none (.ibin .add (.tmp 46) (.const (.int .i64 1)))),
 (false,.mk (some 38) none (.call (.func 120) [.tmp 35,.tmp 37])),
 (false,.mk (some 43) none (.call (.func 151) [.tmp 40,.tmp 42])),
 (false,.mk (some 48) none (.call (.func 151) [.tmp 45,.tmp 47])),
 (false,
 .mk (some 49) none
 (.build 193
 [.int .i64 0,.int .i64 0,.int .i64 0,.slice none 0 0,
 .int .i64 0,.slice none 0 0,.slice none 0 0,.slice none 0 0]
 [(0,4,.tmp 32),(4,1,.tmp 33),(5,1,.tmp 38),(6,1,.tmp 43),
 (7,1,.tmp 48)])),
 (false,.mk (some 50) none (.box false 193 (.tmp 49))),
 (false,.mk (some 7) none (.mv (.tmp 50)))]
 [1,2,7])
 (.seq
 (.seq
 (.region
 [.mk (some 51) none (.fld 3 (.tmp 2)),
 .mk (some 52) none (.load false 1 (.tmp 51)),
 .mk (some 53) none (.len false (.tmp 52)),
 .mk (some 54) none (.mv (.const (.int .i64 0)))]
 [1,2,7,52,53,54])
 (.block 0 (.loop S80_8 [54] [1,2,7,52,53])))
 (.seq
 (.region
 [.mk (some 110) none (.fld 1 (.tmp 2)),
 .mk (some 111) none (.load false 1 (.tmp 110)),
 .mk (some 112) none (.mv (.tmp 1)),
 .mk (some 113) none
 (.ibin .add (.tmp 112) (.const (.int .i64 1))),
 .mk (some 114) none (.ibin .mul (.tmp 111) (.tmp 113)),
 .mk (some 13) none (.mv (.tmp 114))]
 [1,2,7,13])
 (.seq
 (.region
 [.mk (some 115) none (.fld 1 (.tmp 2)),
 .mk (some 116) none (.load false 1 (.tmp 115)),
 .mk (some 117) none (.mv (.tmp 1)),
 .mk (some 118) none
 (.ibin .add (.tmp 117) (.const (.int .i64 1))),
 .mk (some 119) none (.call (.func 151) [.tmp 116,.tmp 118]),
 .mk (some 14) none (.mv (.tmp 119))]
 [7,13,14])
 (.seq
 (.region [.mk (some 15) none (.mv (.const (.slice none 0 0)))] [7,13,14,15])
 (.seq
 (.seq
 (.region [.mk (some 16) none (.mv (.const (.int .i64 1)))]
 [7,13,14,15,16])
 (.block 4 (.loop S80_17 [15,16] [7,13,14])))
 (.seq
 (.seq
 (.region
 [.mk (some 178) none (.mv (.tmp 15)),
 .mk (some 179) none (.len false (.tmp 178)),
 .mk (some 180) none (.mv (.const (.int .i64 0)))]
 [14,15,179,180])
 (.block 10 (.loop S80_21 [180] [14,15,179])))
 (.seq
 (.region
 [.mk (some 206) none (.mv (.tmp 15)),
 .mk (some 4) none (.mv (.tmp 206)),
 .mk (some 5) none (.mv (.const (.int .i64 0)))]
 [4,5])
 .ret))))))))))
def S80 : FnS := ⟨207,[(4,none),(5,none)],S80_0⟩
theorem tr80 : trFn Try.prog 80 [2,9,12] [[1,2],[1,2,6],[1,2,6,24],[4,5],[1,2,31],[4,5],[1,2,7],[0,1,2,3,4,5,7,8,9,10,12,13,14,15,6,11,16,17,18,19],[0,8,13],[],[],[],[2],[],[4],[2,3,4,5],[],[7],[],[9],[2,3,4,5,6,7,8,9,10],[],[12],[],[14],[2,3,4,5,6,7,8,9,10,11,12,13,14,15],[0,1,2,3,4,5,6,7,8,9,10,11,12,13,14,15,16],[0,1,2,3,4,5,6,7,8,9,10,11,12,13,14,15,16,17],[0,1,2,3,4,5,6,7,8,9,10,11,12,13,14,15,16,17,18],[1,2,7,52,53,54],[54],[1,2,7,52,53],[1,2,7,52,53,54,55],[],[1,2,7,52,53,54],[1,2,7,9,52,53,54],[1,2,7,9,10,52,53,54],[1,2,7,9,10,52,53,54,59,60,61],[10,61],[1,2,7,9,52,53,54,59,60],[1,2,7,9,10,52,53,54,59,60,61,62],[10],[1,2,7,9,52,53,54,59,60,61],[1,2,7,9,10,12,52,53,54,59,60,61],[10],[1,2,7,9,52,53,54,59,60,61],[1,2,7,9,10,52,53,54,59,60,61,67],[1,2,7,9,10,52,53,54,59,60,61],[1,2,7,9,10,52,53,54,59,60,61],[1,2,7,9,10,52,53,54,59,60,61],[1,2,7,9,10,52,53,54,75],[1,2,7,9,10,52,53,54],[0,1,2,3,4,5,6,7,8,9,10,11,12,13],[],[],[0],[0,1],[0,1,2],[],[4],[0,1,2,3,4,5],[0,1,2,3,4,5,6],[],[0,1,2,3,4,5,6,7,8],[0,1,2,3,4,5,6,7,8,9],[0,1,2,3,4,5,6,7,8,9,10],[0,1,2,3,4,5,6,7,8,9,10,11],[0,1,2,3,4,5,6,7,8,9,10,11,12],[1,2,7,52,53,54],[0,1,2,3,4,5,6,7,8,9,10,11,12,13,14,15,16,17,18,19,20,21],[],[],[0],[0,1],[0,1,2],[],[4],[0,1,2,3,4,5],[0,1,2,3,4,5,6],[],[],[9],[9,10],[9,10,11],[],[13],[9,10,11,12,13,14],[9,10,11,12,13,14,15],[],[0,1,2,3,4,5,6,7,8,9,10,11,12,13,14,15,16],[0,1,2,3,4,5,6,7,8,9,10,11,12,13,14,15,16,18],[0,1,2,3,4,5,6,7,8,9,10,11,12,13,14,15,16,17,18,19],[0,1,2,3,4,5,6,7,8,9,10,11,12,13,14,15,16,17,18,19,20],[1,2,7,52,53,54],[1,2,7,13],[7,13,14],[7,13,14,15],[7,13,14,15,16],[15,16],[7,13,14],[7,13,14,15,16,124],[15],[7,13,14,16],[15],[7,13,14,16],[7,13,14,15,16,129],[15],[7,13,14,16],[7,13,14,15,16,131],[7,13,14,15,16],[7,13,14,15,16,137,138],[138],[7,13,14,15,16,137],[7,13,14,15,16,137,138,139],[7,13,14,15,16,17,137,138],[7,13,14,15,16,17,137,138,145,146],[146],[7,13,14,15,16,17,137,138,145],[7,13,14,15,16,17,137,138,145,146,147],[7,13,14,15,16,17,18,137,138,145,146],[7,13,14,15,16,17,137,138,145,146],[0,1,2,3,4,5,6,7,8,9,10,11,12,13,14,15,16,17,18,19,20,21,22,23,24,25],[],[],[],[0,1],[0,1,2],[],[],[],[5,6],[5,6,7],[],[5,6,7,8,9],[5,6,7,8,9,10],[5,6,7,8,9,10,11],[5,6,7,8,9,10,11,12],[5,6,7,8,9,10,11,12,13],[5,6,7,8,9,10,11,12,13,14],[5,6,7,8,9,10,11,12,13,14,15],[5,6,7,8,9,10,11,12],[5,6,7,8,9,10,11,12,13,14,15,16,17],[5,6,7,8,9,10,11,12,13,14,15,16,17,18],[5,6,7,8,9,10,11,12],[5,6,7,8,9,10,11,12,13,14,15,16,17,18,19,20],[5,6,7,8,9,10,11,12,13,14,15,16,17,18,19,20,21],[5,6,7,8,9,10,11,12,13,14,15,16,17,18,19,20,21,22],[0,1,2,3,4,5,6,7,8,9,10,11,12,13,14,15,16,17,18,19,20,21,22,23],[0,1,2,3,4,5,6,7,8,9,10,11,12,13,14,15,16,17,18,19,20,21,22,23,24],[7,13,14,15,16,17,137,138,145,146],[7,13,14,15,16,137,138],[7,13,14,15,16],[7,13,14,15,16],[14,15,179,180],[180],[14,15,179],[14,15,179,180,181],[14,15,19,179,180],[14,15,19,179,180,187,188],[188],[14,15,19,179,180,187],[14,15,19,179,180,187,188,189],[],[14,15,19,179,180,187,188],[14,15,19,20,179,180,187,188],[14,15,19,20,179,180,187,188,197],[14,15,19,179,180,187,188],[14,15,19,179,180,187,188],[14,15,179,180],[4,5]] = some S80 := by kernel_rfl
end Go.Proofs.Ytniobbepliknmaa.V
/- parlref5.Census walked; no condition. -/
namespace Go.Proofs.Ytniobbepliknmaa.V
open Go
set_option linter.unusedVariables false
set_option linter.unusedSimpArgs false
attribute [local go_sem] e_seq e_region e_quiet e_join e_loop e_cond e_block e_exit e_ret e_skip e_fin e_kseq e_snrm e_sret e_sex e_bnrm e_bret e_bex e_rnrm e_rret e_res e_condC e_nil e_g e_mv g_mv e_pick g_pick pickC_eq e_ibin g_ibin ibinC_eq e_sbin g_sbin e_beq g_beq beqC_eq e_nilq g_nilq nilqC_sl nilqC_pt nilqC_mp e_un g_un unC_not unC_neg e_conv g_conv convC_eq e_fld g_fld fldC_ref fldC_ptr e_nilCheck g_nilCheck nilCheckC_ref nilCheckC_ptr nilCheckC_fun e_field g_field fieldC_eq e_len g_len lenC_sl lenC_str e_extract g_extract extractC_eq e_mkFunc e_build g_build e_idiv g_idiv idivC_eq e_ishift g_ishift ishiftC_eq e_idx g_idx e_idxA g_idxA e_load g_load e_loadB g_loadB atB_ref atB_v g_mkFunc loadC_ref loadC_ptr loadB_eq e_slc g_slc e_box boxC_loc boxC_esc e_alloc allocC_loc allocC_esc e_buildS e_store storeC_ref storeC_ptr storeB_eq e_append e_appz e_mk mkC_eq e_call callC_eq e_fn g_fn fnC_eq fnV_min' fnV_max' fnV_rune' e_q g_q e_a e_n g_call g_box g_alloc g_buildS g_store g_append g_mk g_a g_n g_dead e_dead e_callK e_drawn e_tree e_finJ e_tk e_tfin e_tno e_nbt_q e_nbt_qn e_nbt_a e_nbt_an e_nbt_fin e_drawnB e_bxb_nil e_bxb e_stB_none e_stB_some boxSt_store bs_mv bs_pick bs_ibin bs_idiv bs_ishift bs_sbin bs_beq bs_nilq bs_un bs_conv bs_box bs_alloc bs_build bs_buildS bs_load bs_fld bs_nilCheck bs_idx bs_idxA bs_field bs_slc bs_len bs_append bs_appz bs_mk bs_call bs_extract bs_mkFunc bs_fn bs_q bs_a bs_n bs_loadB bs_dead isBox_box e_early_nil e_early_t e_early_f e_nob_nil e_nob_none e_nob_some isBox_dead isBox_v isBox_ref e_dnil e_dk e_ek e_finB vcOps_vc1 e_dcons e_tq e_ekt e_tearly e_talt e_dearly look_nil look_c proj_nil proj_c looks_nil looks_c zip_nil zip_c val_tmp val_const val_func slv_v slv_box slv_ref slot_tmp slot_const slot_func slotL_v slotL_box slotL_ref put_some put_none updBox_c boxSet_box gd_eq slotVals_nil slotVals_c slotVals_b boxV_box boxOn_box slotsOn_nil slotsOn_c slotsOn_b resV_one resV_two vals_nil vals_c allOn_nil allOn_c partOn_nil partOn_c partVals_nil partVals_c fits_nil fits_c fillL_nil fillL_c mkv_one mkv_agg cellsV_agg cellsV_int cellsV_bool cellsV_slice cellsV_string cellsV_pointer cellsV_func cellsV_nilf cellsV_map one'_nil one'_c oc_int oc_bool oc_slice oc_string oc_pointer oc_func oc_nilf oc_map setC_eq iv_add iv_sub iv_mul iv_eql iv_neq iv_lss iv_leq iv_gtr iv_geq iok_add iok_sub iok_mul iok_eql iok_neq iok_lss iok_leq iok_gtr iok_geq pickV_bool args0_nil args0_c bnd_none bnd_some imp_bt imp_bf imp_ebt imp_ebf imp_eb1 imp_np imp_pp beq_tt beq_tf beq_ft beq_ff cond_or cond_and e_round e_meet Int.le_refl Int.toNat_zero decide_true decide_false Bool.or_false Bool.false_or Bool.true_or Bool.or_true Bool.and_false Bool.false_and Bool.bne_false Bool.bne_true beq_iff_eq Int.cast_ofNat_Int not_false_eq_true not_true_eq_false false_and and_false false_implies true_implies true_and and_true Bool.true_and Bool.and_true Bool.not_true Bool.not_false forall_const implies_true List.take_zero List.drop_zero List.take_succ_cons List.drop_succ_cons List.take_nil List.drop_nil List.length_cons List.length_nil List.nil_append List.append_nil List.cons_append Int.toNat_natCast decide_eq_true_eq decide_eq_false_iff_not cond_true cond_false and_self List.getElem?_cons_zero List.getElem?_cons_succ List.set_cons_zero List.set_cons_succ Option.some.injEq exists_eq_left' Nat.zero_add Nat.add_zero Nat.mul_one imp_self true_or or_true or_false false_or Bool.or_eq_true Bool.or_eq_false_iff Bool.and_eq_true Bool.and_eq_false_iff Bool.not_eq_true' Bool.not_eq_false'

theorem capN_small {x : Nat} (h : x ≤ 1000) : capN x = x := Nat.min_eq_left (Nat.le_trans h (by decide))
def OutV (g : Gr) (m N : Nat) (Om : List (List Int)) : Prop := Shp N (m + 1) Om ∧ ∀ a k, a < N → k ≤ m → matI Om a k = (capN (cntT g (mostN g m + 1) (a : Int) k) : Nat)
/-- where there are more trees than at mostN levels, up to lev levels -/
def EndW (g : Gr) (m N : Nat) (lev : Nat → Nat → Nat) (E : List (List Bool)) : Prop := Shp N (m + 1) E ∧ ∀ a k, a < N → k ≤ m → (mat E a k = true ↔ cntT g (mostN g m) (a : Int) k < cntT g (max (mostN g m) (lev a k)) (a : Int) k)
theorem EndW.congr {g : Gr} {m N : Nat} {lev lev' : Nat → Nat → Nat} {E : List (List Bool)} (h : EndW g m N lev E) (e : ∀ a k, a < N → k ≤ m → max (mostN g m) (lev a k) = max (mostN g m) (lev' a k)) : EndW g m N lev' E :=
  ⟨h.1, fun a k q1 q2 => by rw [← e a k q1 q2]; exact h.2 a k q1 q2⟩
def levA (a0 k0 h a k : Nat) : Nat := if a < a0 ∨ (a = a0 ∧ k < k0) then h else h - 1
def OutS (g : Gr) (m N h : Nat) (go : PH) (ov : Value) : Prop := (h ≤ mostN g m + 1 ∧ ov = .slice none 0 0) ∨ (mostN g m + 1 < h ∧ ∃ bo Om, ov = .slice (some ⟨bo, 0, none⟩) N N ∧ Grid go bo 29 3 Om ∧ OutV g m N Om)
def OutM (g : Gr) (m N h : Nat) (gm go : PH) (ov : Value) : Prop := (h ≤ mostN g m ∧ ov = .slice none 0 0) ∨ (mostN g m < h ∧ ∃ bo Om, ov = .slice (some ⟨bo, 0, none⟩) N N ∧ (Grid gm bo 29 3 Om ∨ Grid go bo 29 3 Om) ∧ OutV g m N Om)
def StC (g : Gr) (m : Nat) (R : Option Addr) (cR N h bt : Nat) (gt gm ga gj : PH) : Prop := ∃ bm ba bj M A J, gt bt = some (.cells (htC g m R cR bm ba bj).toArray 193 (0, 0)) ∧ Grid gm bm 29 3 M ∧ Grid ga ba 22 4 A ∧ Grid gj bj 22 4 J ∧ Tri N m (fun a => cntT g h (a : Int)) (fun a => cntT g (h - 1) (a : Int)) M A J
theorem rows_eq {g : Gr} {m N : Nat} {Om : List (List Int)} (h1 : Shp N (m + 1) Om) (h2 : ∀ a k, a < N → k ≤ m → matI Om a k = cenF g m a k) : Om = cenRows g m N := by
  have hl := h1.1
  refine List.ext_getElem (by simp [cenRows, hl]) fun a q1 q2 => ?_
  have hr := h1.at' (i := a) q1
  have e : (cenRows g m N)[a] = cenRow g m a (m + 1) := by simp [cenRows]
  rw [e]
  refine List.ext_getElem (by simp [cenRow, hr]) fun k w1 w2 => ?_
  have := h2 a k (by omega) (by omega)
  rw [matI_get (List.getElem?_eq_getElem q1) w1] at this
  rw [this]
  simp [cenRow]
set_option maxHeartbeats 6400000 in
theorem ref_census {Γr : Ctx} {g : Gr} {R : Option Addr} {cR : Nat} (hx : SlOk (lk Γr) R cR g.rs) {n : Int} (hn0 : -9223372036854775808 ≤ n ∧ n ≤ 9223372036854775807) :
    Ret Try.prog 80 [.agg #[.int .i64 g.ts, .int .i64 g.ns, .int .i64 g.st, .slice R g.rs.length cR], .int .i64 n] Γr [] (CenR g n) := by
  generalize hR : CenR g n = R'
  refine ret_of_vc tr80 (Nat.le_of_ble_eq_true rfl) ?_
  simp -implicitDefEqProofs only [S80, S80_0, go_sem, Nat.reduceBEq, Nat.reduceAdd, Nat.reduceSub, Nat.reduceMul, Nat.reduceLeDiff, reduceCtorEq, ↓reduceIte, Int.reduceLT, Int.reduceLE, Int.reduceEq, Int.reduceNe]
  intro bg
  refine CallVC.read (Γ := []) (rule_fault (Γr := [] ++ Γr) hx) ?_
  rintro v Γ' ⟨rfl, rfl⟩
  simp -implicitDefEqProofs only [go_sem, Nat.reduceBEq, Nat.reduceAdd, Nat.reduceSub, Nat.reduceMul, Nat.reduceLeDiff, reduceCtorEq, ↓reduceIte, Int.reduceLT, Int.reduceLE, Int.reduceEq, Int.reduceNe]
  refine ⟨fun hne => Up.here ?_, fun h0 => ?_⟩
  · subst hR
    have : cenE g n = ckF g := if_pos hne
    exact .inl ⟨by rw [this]; exact hne, rfl, by rw [this]⟩
  refine ⟨fun hbad => Up.here ?_, fun hgood => ?_⟩
  · subst hR
    have : cenE g n = 1 := by unfold cenE; rw [if_neg (by omega), if_pos hbad]
    exact .inl ⟨by omega, rfl, by rw [this]⟩
  have hce : cenE g n = 0 := by unfold cenE; rw [if_neg (by omega), if_neg (by omega)]
  have V := ckF_ok (show ckF g = 0 by omega)
  obtain ⟨m, rfl⟩ : ∃ m : Nat, n = m := ⟨n.toNat, by omega⟩
  have hm : m ≤ 24 := by omega
  have hns := V.ns
  have hvl := V.len
  have hsh := hx.short
  obtain ⟨N, hN⟩ : ∃ N : Nat, g.ns = N := ⟨g.ns.toNat, by omega⟩
  have hN' : g.ns.toNat = N := by omega
  have hw : IntKind.i64.wrap ((m : Int) + 1) = ((m + 1 : Nat) : Int) := by rw [wrap_id (by omega) (by omega)]; rfl
  refine s_drawn [] [] (Ent.refl _) ?_
  simp -implicitDefEqProofs only [hw, go_sem, Nat.reduceBEq, Nat.reduceAdd, Nat.reduceSub, Nat.reduceMul, Nat.reduceLeDiff, reduceCtorEq, ↓reduceIte, Int.reduceLT, Int.reduceLE, Int.reduceEq, Int.reduceNe]
  rw [hN]
  refine CallVC.read (grid_int N (m + 1) (by omega) (by omega)) ?_
  rintro v Γ' ⟨gm, bm, rfl, rfl, hGm⟩
  simp -implicitDefEqProofs only [go_sem, Nat.reduceBEq, Nat.reduceAdd, Nat.reduceSub, Nat.reduceMul, Nat.reduceLeDiff, reduceCtorEq, ↓reduceIte, Int.reduceLT, Int.reduceLE, Int.reduceEq, Int.reduceNe]
  refine CallVC.read (grid_bool N (m + 1) (by omega) (by omega)) ?_
  rintro v Γ' ⟨ga, ba, rfl, rfl, hGa⟩
  simp -implicitDefEqProofs only [go_sem, Nat.reduceBEq, Nat.reduceAdd, Nat.reduceSub, Nat.reduceMul, Nat.reduceLeDiff, reduceCtorEq, ↓reduceIte, Int.reduceLT, Int.reduceLE, Int.reduceEq, Int.reduceNe]
  refine CallVC.read (grid_bool N (m + 1) (by omega) (by omega)) ?_
  rintro v Γ' ⟨gj, bj, rfl, rfl, hGj⟩
  simp -implicitDefEqProofs only [go_sem, Nat.reduceBEq, Nat.reduceAdd, Nat.reduceSub, Nat.reduceMul, Nat.reduceLeDiff, reduceCtorEq, ↓reduceIte, Int.reduceLT, Int.reduceLE, Int.reduceEq, Int.reduceNe]
  intro bt
  have hgt0 : one bt (.cells (htC g m R cR bm ba bj).toArray 193 (0, 0)) bt = some (.cells (htC g m R cR bm ba bj).toArray 193 (0, 0)) := one_self _ _
  have hcells : #[Value.int .i64 g.ts, .int .i64 (N : Int), .int .i64 g.st, .slice R g.rs.length cR, .int .i64 (m : Int), .slice (some ⟨bm, 0, none⟩) N N, .slice (some ⟨ba, 0, none⟩) N N, .slice (some ⟨bj, 0, none⟩) N N] = (htC g m R cR bm ba bj).toArray := by rw [htC, hN', hN]
  rw [hcells]
  revert hgt0
  generalize one bt (.cells (htC g m R cR bm ba bj).toArray 193 (0, 0)) = gt
  intro hgt0
  refine s_loop (fun f vs Γ => ∃ (gm ga gj : PH) (M : List (List Int)) (A J : List (List Bool)) (i : Nat), vs = [.v true (.int .i64 (i : Int))] ∧ Γ = [gt, gm, ga, gj] ∧ i + f = g.rs.length ∧ Grid gm bm 29 3 M ∧ Grid ga ba 22 4 A ∧ Grid gj bj 22 4 J ∧ Tri N m (firT g i) (fun _ _ => 0) M A J) g.rs.length
    (Up.sel [[0], [3], [2], [1]] (by decide) fun _ _ => ⟨gm, ga, gj, _, _, _, 0, rfl, rfl, by omega, hGm, hGa, hGj, (Tri.zero N m).congr (fun x k _ _ => rfl) (fun x k _ _ => rfl)⟩) ?_
  · clear hGm hGa hGj
    rintro f vs Γ ⟨gm, ga, gj, M, A, J, i, rfl, rfl, hif, hGm, hGa, hGj, hT⟩
    simp -implicitDefEqProofs only [S80_8, go_sem, Nat.reduceBEq, Nat.reduceAdd, Nat.reduceSub, Nat.reduceMul, Nat.reduceLeDiff, reduceCtorEq, ↓reduceIte, Int.reduceLT, Int.reduceLE, Int.reduceEq, Int.reduceNe]
    refine ⟨fun hlt => ?_, fun hge => ?_⟩
    · have hi : i < g.rs.length := by omega
      have hmem := List.getElem_mem hi
      have hleft := V.left _ hmem
      have hr4 := V.right _ hmem
      have hsym := V.sym _ hmem
      obtain ⟨b0, o0, h0', A1, c1, hr1, hcr⟩ := hx.ru hi
      have hfs := fun a k => firT_succ hi a k
      have hfle := fun a k => firT_le (g := g) a k i (by omega)
      generalize g.rs[i] = r at *
      obtain ⟨p, hp⟩ : ∃ p : Nat, r.l = p := ⟨r.l.toNat, by omega⟩
      have hpN : p < N := by omega
      refine s_join (fun vs Γ => vs = [] ∧ ∃ (gm ga gj : PH) (M : List (List Int)) (A J : List (List Bool)), Γ = [gt, gm, ga, gj] ∧ Grid gm bm 29 3 M ∧ Grid ga ba 22 4 A ∧ Grid gj bj 22 4 J ∧ Tri N m (firT g (i + 1)) (fun _ _ => 0) M A J) ?_ ?_
      · simp -implicitDefEqProofs only [S80_6, go_sem, Nat.reduceBEq, Nat.reduceAdd, Nat.reduceSub, Nat.reduceMul, Nat.reduceLeDiff, reduceCtorEq, ↓reduceIte, Int.reduceLT, Int.reduceLE, Int.reduceEq, Int.reduceNe]
        refine s_idx h0' (by omega) (by omega) ?_
        simp -implicitDefEqProofs only [go_sem, Nat.reduceBEq, Nat.reduceAdd, Nat.reduceSub, Nat.reduceMul, Nat.reduceLeDiff, reduceCtorEq, ↓reduceIte, Int.reduceLT, Int.reduceLE, Int.reduceEq, Int.reduceNe]
        refine s_ld0 (by simpa using hcr _ (lk_r [gt, gm, ga, gj] _)) (by simp) (by simp) ?_
        simp -implicitDefEqProofs only [go_sem, Nat.reduceBEq, Nat.reduceAdd, Nat.reduceSub, Nat.reduceMul, Nat.reduceLeDiff, reduceCtorEq, ↓reduceIte, Int.reduceLT, Int.reduceLE, Int.reduceEq, Int.reduceNe]
        intro bx
        refine s_loop (fun f2 vs Γ => Γ = [gt, gm, ga, gj] ∧ ∃ (kv : Int) (q : Nat), vs = [.v true (.int .i64 kv), .v true (.int .i64 (q : Int))] ∧ q + f2 = r.r.length ∧ (((∀ s ∈ r.r.take q, s.t = true) ∧ kv = q) ∨ ((¬ ∀ s ∈ r.r.take q, s.t = true) ∧ (m : Int) + 2 ≤ kv ∧ kv ≤ m + 2 + q))) r.r.length
          (Up.here ⟨rfl, 0, 0, rfl, by omega, .inl ⟨by simp, rfl⟩⟩) ?_
        rintro f2 vs Γ ⟨rfl, kv, q, rfl, hqf, hkv⟩
        simp -implicitDefEqProofs only [S80_5, go_sem, Nat.reduceBEq, Nat.reduceAdd, Nat.reduceSub, Nat.reduceMul, Nat.reduceLeDiff, reduceCtorEq, ↓reduceIte, Int.reduceLT, Int.reduceLE, Int.reduceEq, Int.reduceNe]
        refine ⟨fun hlt => ?_, fun hge => ?_⟩
        · have hq : q < r.r.length := by omega
          obtain ⟨b3, o3, h3, hc3⟩ := hr1.sy hq
          have htk : r.r.take (q + 1) = r.r.take q ++ [r.r[q]] := List.take_succ_eq_append_getElem hq
          have hall : (∀ s ∈ r.r.take (q + 1), s.t = true) ↔ (∀ s ∈ r.r.take q, s.t = true) ∧ r.r[q].t = true := by
            rw [htk]
            constructor
            · intro h
              exact ⟨fun s hs => h s (List.mem_append.2 (.inl hs)), h _ (List.mem_append.2 (.inr (List.mem_singleton.2 rfl)))⟩
            · rintro ⟨h1, h2⟩ s hs
              rcases List.mem_append.1 hs with e | e
              · exact h1 s e
              · simp at e; rw [e]; exact h2
          generalize r.r[q] = s at *
          have hw6 : ∀ x : Int, -2 ≤ x → x ≤ 1000 → IntKind.i64.wrap (x + 1) = x + 1 := fun x q1 q2 => wrap_id (by omega) (by omega)
          refine s_split ?_
          simp -implicitDefEqProofs only [S80_3, go_sem, Nat.reduceBEq, Nat.reduceAdd, Nat.reduceSub, Nat.reduceMul, Nat.reduceLeDiff, reduceCtorEq, ↓reduceIte, Int.reduceLT, Int.reduceLE, Int.reduceEq, Int.reduceNe]
          refine s_idx h3 (by omega) (by omega) ?_
          simp -implicitDefEqProofs only [go_sem, Nat.reduceBEq, Nat.reduceAdd, Nat.reduceSub, Nat.reduceMul, Nat.reduceLeDiff, reduceCtorEq, ↓reduceIte, Int.reduceLT, Int.reduceLE, Int.reduceEq, Int.reduceNe]
          refine s_ld0 (by simpa using hc3 _ (lk_r [gt, gm, ga, gj] _)) (by simp) (by simp) ?_
          simp -implicitDefEqProofs only [go_sem, Nat.reduceBEq, Nat.reduceAdd, Nat.reduceSub, Nat.reduceMul, Nat.reduceLeDiff, reduceCtorEq, ↓reduceIte, Int.reduceLT, Int.reduceLE, Int.reduceEq, Int.reduceNe]
          intro bs
          refine s_split ?_
          obtain ⟨st, sn⟩ := s
          cases st with
          | true =>
            simp -implicitDefEqProofs only [S80_1, go_sem, Nat.reduceBEq, Nat.reduceAdd, Nat.reduceSub, Nat.reduceMul, Nat.reduceLeDiff, reduceCtorEq, ↓reduceIte, Int.reduceLT, Int.reduceLE, Int.reduceEq, Int.reduceNe]
            refine Up.here ?_
            simp -implicitDefEqProofs only [S80_2, go_sem, Nat.reduceBEq, Nat.reduceAdd, Nat.reduceSub, Nat.reduceMul, Nat.reduceLeDiff, reduceCtorEq, ↓reduceIte, Int.reduceLT, Int.reduceLE, Int.reduceEq, Int.reduceNe]
            refine Up.here ?_
            simp -implicitDefEqProofs only [S80_4, go_sem, Nat.reduceBEq, Nat.reduceAdd, Nat.reduceSub, Nat.reduceMul, Nat.reduceLeDiff, reduceCtorEq, ↓reduceIte, Int.reduceLT, Int.reduceLE, Int.reduceEq, Int.reduceNe]
            rw [hw6 kv (by omega) (by omega), hw6 q (by omega) (by omega)]
            refine ⟨f2 - 1, by omega, Up.here ⟨rfl, kv + 1, q + 1, rfl, by omega, ?_⟩⟩
            rw [hall]
            rcases hkv with ⟨q1, q2⟩ | ⟨q1, q2, q3⟩
            · exact .inl ⟨⟨q1, rfl⟩, by omega⟩
            · exact .inr ⟨fun h => q1 h.1, by omega, by omega⟩
          | false =>
            simp -implicitDefEqProofs only [S80_1, go_sem, Nat.reduceBEq, Nat.reduceAdd, Nat.reduceSub, Nat.reduceMul, Nat.reduceLeDiff, reduceCtorEq, ↓reduceIte, Int.reduceLT, Int.reduceLE, Int.reduceEq, Int.reduceNe]
            refine Up.here ?_
            simp -implicitDefEqProofs only [S80_2, go_sem, Nat.reduceBEq, Nat.reduceAdd, Nat.reduceSub, Nat.reduceMul, Nat.reduceLeDiff, reduceCtorEq, ↓reduceIte, Int.reduceLT, Int.reduceLE, Int.reduceEq, Int.reduceNe]
            refine Up.here ?_
            simp -implicitDefEqProofs only [S80_4, go_sem, Nat.reduceBEq, Nat.reduceAdd, Nat.reduceSub, Nat.reduceMul, Nat.reduceLeDiff, reduceCtorEq, ↓reduceIte, Int.reduceLT, Int.reduceLE, Int.reduceEq, Int.reduceNe]
            rw [hw6 m (by omega) (by omega), hw6 ((m : Int) + 1) (by omega) (by omega), hw6 q (by omega) (by omega)]
            refine ⟨f2 - 1, by omega, Up.here ⟨rfl, _, q + 1, rfl, by omega, .inr ⟨fun h => ?_, by omega, by omega⟩⟩⟩
            have := (hall.1 h).2
            cases this
        · have hqe : q = r.r.length := by omega
          subst hqe
          rw [List.take_length] at hkv
          refine ⟨fun hle => ?_, fun hgt => ?_⟩
          · obtain ⟨hall, rfl⟩ : (∀ s ∈ r.r, s.t = true) ∧ kv = r.r.length := by
              rcases hkv with h | ⟨_, h, _⟩
              · exact h
              · omega
            have hlm : r.r.length ≤ m := by omega
            generalize hlL : r.r.length = L at *
            have hMl := hT.m.1
            have hAl := hT.a.1
            have hJl := hT.j.1
            have hMr := hT.m.at' (i := p) (by omega)
            have hAr := hT.a.at' (i := p) (by omega)
            have hJr := hT.j.at' (i := p) (by omega)
            have hfl := hfle p L
            obtain ⟨v1, v2, v3⟩ := hT.at' p L hpN hlm
            rw [matI_get (List.getElem?_eq_getElem (show p < M.length by omega)) (show L < M[p].length by omega), show capN (firT g i p L) = firT g i p L by unfold capN; omega] at v1
            obtain ⟨km, hcm, hAm, hsm⟩ := hGm.at' (i := p) (by omega) (by omega)
            obtain ⟨ka, hca, hAa, hsa⟩ := hGa.at' (i := p) (by omega) (by omega)
            obtain ⟨kj, hcj, hAj, hsj⟩ := hGj.at' (i := p) (by omega) (by omega)
            rw [hMr] at hcm
            rw [hAr] at hca
            rw [hJr] at hcj
            have hcM : ∀ Γ : Ctx, gm ∈ Γ → Cells Γ km L [.int .i64 ((firT g i p L : Nat) : Int)] := fun Γ hg => by
              have := hAm.num (i := L) (by omega) hg
              rwa [v1] at this
            have hw7 : IntKind.i64.wrap (((firT g i p L : Nat) : Int) + 1) = ((firT g i p L + 1 : Nat) : Int) := by rw [wrap_id (by omega) (by omega)]; rfl
            refine s_ld (j := 5) (cells_lk (lk_l [gt, gm, ga, gj] Γr _ _ ⟨gt, by simp, hgt0⟩)) (by simp [htC]) (by simp) ?_
            simp -implicitDefEqProofs only [htC, go_sem, Nat.reduceBEq, Nat.reduceAdd, Nat.reduceSub, Nat.reduceMul, Nat.reduceLeDiff, reduceCtorEq, ↓reduceIte, Int.reduceLT, Int.reduceLE, Int.reduceEq, Int.reduceNe]
            rw [hp, hN']
            refine s_idx rfl (by omega) (by omega) ?_
            simp -implicitDefEqProofs only [go_sem, Nat.reduceBEq, Nat.reduceAdd, Nat.reduceSub, Nat.reduceMul, Nat.reduceLeDiff, reduceCtorEq, ↓reduceIte, Int.reduceLT, Int.reduceLE, Int.reduceEq, Int.reduceNe]
            refine s_ld0 (by simpa using hcm _ (by simp)) (by simp) (by simp) ?_
            simp -implicitDefEqProofs only [go_sem, Nat.reduceBEq, Nat.reduceAdd, Nat.reduceSub, Nat.reduceMul, Nat.reduceLeDiff, reduceCtorEq, ↓reduceIte, Int.reduceLT, Int.reduceLE, Int.reduceEq, Int.reduceNe]
            refine s_idx rfl (by omega) (by omega) ?_
            simp -implicitDefEqProofs only [go_sem, Nat.reduceBEq, Nat.reduceAdd, Nat.reduceSub, Nat.reduceMul, Nat.reduceLeDiff, reduceCtorEq, ↓reduceIte, Int.reduceLT, Int.reduceLE, Int.reduceEq, Int.reduceNe]
            refine s_ld0 (hcM _ (by simp)) (by simp) (by simp) ?_
            simp -implicitDefEqProofs only [hw7, go_sem, Nat.reduceBEq, Nat.reduceAdd, Nat.reduceSub, Nat.reduceMul, Nat.reduceLeDiff, reduceCtorEq, ↓reduceIte, Int.reduceLT, Int.reduceLE, Int.reduceEq, Int.reduceNe]
            refine s_idx rfl (by omega) (by omega) ?_
            simp -implicitDefEqProofs only [go_sem, Nat.reduceBEq, Nat.reduceAdd, Nat.reduceSub, Nat.reduceMul, Nat.reduceLeDiff, reduceCtorEq, ↓reduceIte, Int.reduceLT, Int.reduceLE, Int.reduceEq, Int.reduceNe]
            refine s_storeA (ix := 1) (α := Int) ((firT g i p L + 1 : Nat) : Int) rfl hAm (i := L) (by omega) ?_
            intro gmx hMx hom
            simp -implicitDefEqProofs only [go_sem, Nat.reduceBEq, Nat.reduceAdd, Nat.reduceSub, Nat.reduceMul, Nat.reduceLeDiff, reduceCtorEq, ↓reduceIte, Int.reduceLT, Int.reduceLE, Int.reduceEq, Int.reduceNe]
            refine s_ld (j := 6) (cells_lk (lk_l [gt, gmx, ga, gj] Γr _ _ ⟨gt, by simp, hgt0⟩)) (by simp [htC]) (by simp) ?_
            simp -implicitDefEqProofs only [htC, go_sem, Nat.reduceBEq, Nat.reduceAdd, Nat.reduceSub, Nat.reduceMul, Nat.reduceLeDiff, reduceCtorEq, ↓reduceIte, Int.reduceLT, Int.reduceLE, Int.reduceEq, Int.reduceNe]
            rw [hN']
            refine s_idx rfl (by omega) (by omega) ?_
            simp -implicitDefEqProofs only [go_sem, Nat.reduceBEq, Nat.reduceAdd, Nat.reduceSub, Nat.reduceMul, Nat.reduceLeDiff, reduceCtorEq, ↓reduceIte, Int.reduceLT, Int.reduceLE, Int.reduceEq, Int.reduceNe]
            refine s_ld0 (by simpa using hca _ (by simp)) (by simp) (by simp) ?_
            simp -implicitDefEqProofs only [go_sem, Nat.reduceBEq, Nat.reduceAdd, Nat.reduceSub, Nat.reduceMul, Nat.reduceLeDiff, reduceCtorEq, ↓reduceIte, Int.reduceLT, Int.reduceLE, Int.reduceEq, Int.reduceNe]
            refine s_ld (j := 7) (cells_lk (lk_l [gt, gmx, ga, gj] Γr _ _ ⟨gt, by simp, hgt0⟩)) (by simp [htC]) (by simp) ?_
            simp -implicitDefEqProofs only [htC, go_sem, Nat.reduceBEq, Nat.reduceAdd, Nat.reduceSub, Nat.reduceMul, Nat.reduceLeDiff, reduceCtorEq, ↓reduceIte, Int.reduceLT, Int.reduceLE, Int.reduceEq, Int.reduceNe]
            rw [hN']
            refine s_idx rfl (by omega) (by omega) ?_
            simp -implicitDefEqProofs only [go_sem, Nat.reduceBEq, Nat.reduceAdd, Nat.reduceSub, Nat.reduceMul, Nat.reduceLeDiff, reduceCtorEq, ↓reduceIte, Int.reduceLT, Int.reduceLE, Int.reduceEq, Int.reduceNe]
            refine s_ld0 (by simpa using hcj _ (by simp)) (by simp) (by simp) ?_
            simp -implicitDefEqProofs only [go_sem, Nat.reduceBEq, Nat.reduceAdd, Nat.reduceSub, Nat.reduceMul, Nat.reduceLeDiff, reduceCtorEq, ↓reduceIte, Int.reduceLT, Int.reduceLE, Int.reduceEq, Int.reduceNe]
            refine s_idx rfl (by omega) (by omega) ?_
            simp -implicitDefEqProofs only [go_sem, Nat.reduceBEq, Nat.reduceAdd, Nat.reduceSub, Nat.reduceMul, Nat.reduceLeDiff, reduceCtorEq, ↓reduceIte, Int.reduceLT, Int.reduceLE, Int.reduceEq, Int.reduceNe]
            refine s_storeA (ix := 2) (α := Bool) true rfl hAa (i := L) (by omega) ?_
            intro gax hAx hoa
            simp -implicitDefEqProofs only [go_sem, Nat.reduceBEq, Nat.reduceAdd, Nat.reduceSub, Nat.reduceMul, Nat.reduceLeDiff, reduceCtorEq, ↓reduceIte, Int.reduceLT, Int.reduceLE, Int.reduceEq, Int.reduceNe]
            refine s_idx rfl (by omega) (by omega) ?_
            simp -implicitDefEqProofs only [go_sem, Nat.reduceBEq, Nat.reduceAdd, Nat.reduceSub, Nat.reduceMul, Nat.reduceLeDiff, reduceCtorEq, ↓reduceIte, Int.reduceLT, Int.reduceLE, Int.reduceEq, Int.reduceNe]
            refine s_storeA (ix := 3) (α := Bool) true rfl hAj (i := L) (by omega) ?_
            intro gjx hJx hoj
            simp -implicitDefEqProofs only [go_sem, Nat.reduceBEq, Nat.reduceAdd, Nat.reduceSub, Nat.reduceMul, Nat.reduceLeDiff, reduceCtorEq, ↓reduceIte, Int.reduceLT, Int.reduceLE, Int.reduceEq, Int.reduceNe]
            have hset := hT.set hpN hlm (List.getElem?_eq_getElem (show p < M.length by omega)) (List.getElem?_eq_getElem (show p < A.length by omega)) (List.getElem?_eq_getElem (show p < J.length by omega)) (v := firT g i p L + 1) (v' := 0) (c := ((firT g i p L + 1 : Nat) : Int))
              (b := true) (d := true) (by rw [capN_small (show firT g i p L + 1 ≤ 1000 by omega)]) ⟨fun _ => Nat.succ_pos _, fun _ => rfl⟩ ⟨fun _ => Nat.succ_pos _, fun _ => rfl⟩
            refine Up.here ⟨gmx, gax, gjx, _, _, _, rfl, hsm gmx _ hMx (by simp) hom, hsa gax _ hAx (by simp) hoa, hsj gjx _ hJx (by simp) hoj, hset.congr (fun a k _ hk => ?_) (fun a k _ _ => by unfold updF; split <;> rfl)⟩
            rw [hfs]
            unfold updF oneR
            by_cases e1 : a = p
            · subst e1
              rw [if_pos hp]
              by_cases e2 : k = L
              · subst e2
                rw [if_pos ⟨rfl, rfl⟩, if_pos ⟨hall, hlL.symm⟩]
              · rw [if_neg (fun q => e2 q.2), if_neg (fun q => e2 (q.2.trans hlL))]
                omega
            · rw [if_neg (fun q => e1 q.1), if_neg (fun q => e1 (by omega))]
              omega
          · refine Up.here ⟨gm, ga, gj, M, A, J, rfl, hGm, hGa, hGj, hT.congr (fun a k _ hk => ?_) (fun _ _ _ _ => rfl)⟩
            rw [hfs]
            unfold oneR
            have : ¬ ((∀ s ∈ r.r, s.t = true) ∧ k = r.r.length) := by
              rintro ⟨q1, q2⟩
              rcases hkv with ⟨_, q3⟩ | ⟨q3, _⟩
              · omega
              · exact q3 q1
            rw [if_neg this]
            split <;> omega
      · rintro vs Γ' ⟨rfl, gm, ga, gj, M, A, J, rfl, hGm, hGa, hGj, hT⟩
        simp -implicitDefEqProofs only [S80_7, go_sem, Nat.reduceBEq, Nat.reduceAdd, Nat.reduceSub, Nat.reduceMul, Nat.reduceLeDiff, reduceCtorEq, ↓reduceIte, Int.reduceLT, Int.reduceLE, Int.reduceEq, Int.reduceNe]
        simp (disch := omega) only [wrap_id]
        exact ⟨f - 1, by omega, Up.here ⟨gm, ga, gj, M, A, J, i + 1, rfl, rfl, by omega, hGm, hGa, hGj, hT⟩⟩
    · have hie : i = g.rs.length := by omega
      subst hie
      obtain ⟨mo, hmo⟩ : ∃ mo, mostN g m = mo := ⟨_, rfl⟩
      have hmoN : N * (m + 1) = mo := by rw [← hmo, mostN, hN']
      have hmo1 : mo ≤ 250 := by
        have h1 : N * (m + 1) ≤ 10 * (m + 1) := Nat.mul_le_mul_right _ (by omega)
        omega
      have hw9 : IntKind.i64.wrap ((N : Int) * ((m + 1 : Nat) : Int)) = (mo : Int) := by rw [← Int.natCast_mul, hmoN, wrap_id (by omega) (by omega)]
      rw [hw, hw9]
      refine CallVC.read (grid_bool N (m + 1) (by omega) (by omega)) ?_
      rintro v Γ' ⟨ge, be, rfl, rfl, hGe⟩
      have hSt1 : StC g m R cR N 1 bt gt gm ga gj := ⟨bm, ba, bj, M, A, J, hgt0, hGm, hGa, hGj, hT.congr (fun a k _ _ => firT_all g a k) (fun _ _ _ _ => rfl)⟩
      have hE1 : EndW g m N (fun _ _ => 0) (List.replicate N (List.replicate (m + 1) false)) := ⟨shpR _ _ _, fun a k _ _ => by
        rw [show mat (List.replicate N (List.replicate (m + 1) false)) a k = false from rep_mat _ _ _ _ rfl a k, Nat.max_eq_left (Nat.zero_le _)]
        simp⟩
      clear hGm hGa hGj hT hgt0 hcells
      generalize List.replicate N (List.replicate (m + 1) false) = E at hGe hE1
      simp -implicitDefEqProofs only [go_sem, Nat.reduceBEq, Nat.reduceAdd, Nat.reduceSub, Nat.reduceMul, Nat.reduceLeDiff, reduceCtorEq, ↓reduceIte, Int.reduceLT, Int.reduceLE, Int.reduceEq, Int.reduceNe]
      refine s_loop (fun f vs Γ => ∃ (gt gm ga gj ge go : PH) (ov : Value) (h : Nat) (E : List (List Bool)), vs = [.v true ov, .v true (.int .i64 (h : Int))] ∧ Γ = [gt, gm, ga, gj, ge, go] ∧ h + f = 2 * mo + 3 ∧ 1 ≤ h ∧ StC g m R cR N h bt gt gm ga gj ∧ Grid ge be 22 4 E ∧ EndW g m N (fun _ _ => h - 1) E ∧ OutS g m N h go ov) (2 * mo + 2)
        (Up.emp (Up.sel [[2], [3], [4], [5], [1], [0]] (by decide) fun _ _ => ⟨gt, gm, ga, gj, ge, _, _, 1, E, rfl, rfl, by omega, by omega, hSt1, hGe, hE1, .inl ⟨by omega, rfl⟩⟩)) ?_
      clear hSt1 hGe hE1
      rintro f vs Γ ⟨gt, gm, ga, gj, ge, go, ov, h, E, rfl, rfl, hhf, hh1, hSt, hGe, hE, hO⟩
      have hw10 : IntKind.i64.wrap (2 * (mo : Int)) = ((2 * mo : Nat) : Int) := by rw [wrap_id (by omega) (by omega)]; omega
      have hw11 : IntKind.i64.wrap (((2 * mo : Nat) : Int) + 2) = ((2 * mo + 2 : Nat) : Int) := by rw [wrap_id (by omega) (by omega)]; omega
      simp -implicitDefEqProofs only [S80_17, hw10, hw11, go_sem, Nat.reduceBEq, Nat.reduceAdd, Nat.reduceSub, Nat.reduceMul, Nat.reduceLeDiff, reduceCtorEq, ↓reduceIte, Int.reduceLT, Int.reduceLE, Int.reduceEq, Int.reduceNe]
      refine ⟨fun hlt => ?_, fun hge => ?_⟩
      · refine s_join (fun vs Γ => ∃ (gt gm ga gj ge go : PH) (ov : Value) (E : List (List Bool)), vs = [.v true ov] ∧ Γ = [gt, gm, ga, gj, ge, go] ∧ StC g m R cR N (h + 1) bt gt gm ga gj ∧ Grid ge be 22 4 E ∧ EndW g m N (fun _ _ => h) E ∧ OutS g m N (h + 1) go ov) ?_ ?_
        · simp -implicitDefEqProofs only [S80_15, go_sem, Nat.reduceBEq, Nat.reduceAdd, Nat.reduceSub, Nat.reduceMul, Nat.reduceLeDiff, reduceCtorEq, ↓reduceIte, Int.reduceLT, Int.reduceLE, Int.reduceEq, Int.reduceNe]
          refine s_join (fun vs Γ => ∃ (ge : PH) (ov : Value) (E : List (List Bool)), vs = [.v true ov] ∧ Γ = [gt, gm, ga, gj, ge, go] ∧ Grid ge be 22 4 E ∧ EndW g m N (fun _ _ => h) E ∧ OutM g m N h gm go ov) ?_ ?_
          · simp -implicitDefEqProofs only [S80_13, go_sem, Nat.reduceBEq, Nat.reduceAdd, Nat.reduceSub, Nat.reduceMul, Nat.reduceLeDiff, reduceCtorEq, ↓reduceIte, Int.reduceLT, Int.reduceLE, Int.reduceEq, Int.reduceNe]
            refine ⟨fun hgt => ?_, fun hle => ?_⟩
            · refine s_join (fun vs Γ => ∃ ov, vs = [.v true ov] ∧ Γ = [gt, gm, ga, gj, ge, go] ∧ OutM g m N h gm go ov) ?_ ?_
              · rcases hO with ⟨q1, rfl⟩ | ⟨q1, bo, Om, rfl, q2, q3⟩
                · obtain ⟨bm, ba, bj, M, A, J, hgt0, hGm, hGa, hGj, hT⟩ := hSt
                  simp -implicitDefEqProofs only [S80_9, go_sem, Nat.reduceBEq, Nat.reduceAdd, Nat.reduceSub, Nat.reduceMul, Nat.reduceLeDiff, reduceCtorEq, ↓reduceIte, Int.reduceLT, Int.reduceLE, Int.reduceEq, Int.reduceNe]
                  refine ⟨fun _ => ?_, fun hc => (by cases hc)⟩
                  refine s_ld (j := 5) (cells_lk (lk_l [gt, gm, ga, gj, ge, go] Γr _ _ ⟨gt, by simp, hgt0⟩)) (by simp [htC]) (by simp) ?_
                  simp -implicitDefEqProofs only [htC, go_sem, Nat.reduceBEq, Nat.reduceAdd, Nat.reduceSub, Nat.reduceMul, Nat.reduceLeDiff, reduceCtorEq, ↓reduceIte, Int.reduceLT, Int.reduceLE, Int.reduceEq, Int.reduceNe]
                  rw [hN']
                  refine Up.here ⟨_, rfl, rfl, .inr ⟨by omega, bm, M, rfl, .inl hGm, hT.m, fun a k w1 w2 => ?_⟩⟩
                  have he : h = mostN g m + 1 := by omega
                  rw [← he]
                  exact (hT.at' a k w1 w2).1
                · simp -implicitDefEqProofs only [S80_9, go_sem, Nat.reduceBEq, Nat.reduceAdd, Nat.reduceSub, Nat.reduceMul, Nat.reduceLeDiff, reduceCtorEq, ↓reduceIte, Int.reduceLT, Int.reduceLE, Int.reduceEq, Int.reduceNe]
                  exact ⟨fun hc => (by cases hc), fun _ => Up.here ⟨_, rfl, rfl, .inr ⟨by omega, bo, Om, rfl, .inr q2, q3⟩⟩⟩
              · rintro vs Γ' ⟨ov, rfl, rfl, hO⟩
                simp -implicitDefEqProofs only [S80_12, go_sem, Nat.reduceBEq, Nat.reduceAdd, Nat.reduceSub, Nat.reduceMul, Nat.reduceLeDiff, reduceCtorEq, ↓reduceIte, Int.reduceLT, Int.reduceLE, Int.reduceEq, Int.reduceNe]
                obtain ⟨bm, ba, bj, M, A, J, hgt0, hGm, hGa, hGj, hT⟩ := hSt
                refine s_loop (fun f1 vs Γ => ∃ (ge : PH) (E : List (List Bool)) (a : Nat), vs = [.v true (.int .i64 (a : Int))] ∧ Γ = [gt, gm, ga, gj, ge, go] ∧ a + f1 = N ∧ Grid ge be 22 4 E ∧ EndW g m N (levA a 0 h) E) N
                  (Up.here ⟨ge, E, 0, rfl, rfl, by omega, hGe, hE.congr (fun a k _ _ => by unfold levA; rw [if_neg (by omega)])⟩) ?_
                clear hGe hE
                rintro f1 vs Γ ⟨ge, E, a, rfl, rfl, haf, hGe, hE⟩
                simp -implicitDefEqProofs only [S80_11, go_sem, Nat.reduceBEq, Nat.reduceAdd, Nat.reduceSub, Nat.reduceMul, Nat.reduceLeDiff, reduceCtorEq, ↓reduceIte, Int.reduceLT, Int.reduceLE, Int.reduceEq, Int.reduceNe]
                refine ⟨fun hlt => ?_, fun hge => ?_⟩
                · have ha : a < N := by omega
                  have hEl := hE.1.1
                  have hEr := hE.1.at' (i := a) (by omega)
                  obtain ⟨ke, hce, hAe, hse⟩ := hGe.at' (i := a) (by omega) (by omega)
                  rw [hEr] at hce
                  refine s_idx rfl (by omega) (by omega) ?_
                  simp -implicitDefEqProofs only [go_sem, Nat.reduceBEq, Nat.reduceAdd, Nat.reduceSub, Nat.reduceMul, Nat.reduceLeDiff, reduceCtorEq, ↓reduceIte, Int.reduceLT, Int.reduceLE, Int.reduceEq, Int.reduceNe]
                  refine s_ld0 (by simpa using hce _ (by simp)) (by simp) (by simp) ?_
                  simp -implicitDefEqProofs only [go_sem, Nat.reduceBEq, Nat.reduceAdd, Nat.reduceSub, Nat.reduceMul, Nat.reduceLeDiff, reduceCtorEq, ↓reduceIte, Int.reduceLT, Int.reduceLE, Int.reduceEq, Int.reduceNe]
                  clear hse hAe hce ke
                  refine s_loop (fun f2 vs Γ => ∃ (ge : PH) (E : List (List Bool)) (k : Nat), vs = [.v true (.int .i64 (k : Int))] ∧ Γ = [gt, gm, ga, gj, ge, go] ∧ k + f2 = m + 1 ∧ Grid ge be 22 4 E ∧ EndW g m N (levA a k h) E) (m + 1)
                    (Up.here ⟨ge, E, 0, rfl, rfl, by omega, hGe, hE⟩) ?_
                  clear hGe hE hEl hEr
                  rintro f2 vs Γ ⟨ge, E, k, rfl, rfl, hkf, hGe, hE⟩
                  simp -implicitDefEqProofs only [S80_10, go_sem, Nat.reduceBEq, Nat.reduceAdd, Nat.reduceSub, Nat.reduceMul, Nat.reduceLeDiff, reduceCtorEq, ↓reduceIte, Int.reduceLT, Int.reduceLE, Int.reduceEq, Int.reduceNe]
                  refine ⟨fun hlt => ?_, fun hge => ?_⟩
                  · have hk : k ≤ m := by omega
                    have hEl := hE.1.1
                    have hEr := hE.1.at' (i := a) (by omega)
                    have hJl := hT.j.1
                    have hJr := hT.j.at' (i := a) (by omega)
                    have v3 := (hT.at' a k ha hk).2.2
                    have v4 := hE.2 a k ha hk
                    rw [mat_get (List.getElem?_eq_getElem (show a < J.length by omega)) (show k < J[a].length by omega)] at v3
                    rw [mat_get (List.getElem?_eq_getElem (show a < E.length by omega)) (show k < E[a].length by omega)] at v4
                    rw [show levA a k h a k = h - 1 by unfold levA; rw [if_neg (by omega)]] at v4
                    obtain ⟨ke, hce, hAe, hse⟩ := hGe.at' (i := a) (by omega) (by omega)
                    obtain ⟨kj, hcj, hAj, hsj⟩ := hGj.at' (i := a) (by omega) (by omega)
                    rw [hEr] at hce
                    rw [hJr] at hcj
                    have hcE : ∀ Γ : Ctx, ge ∈ Γ → Cells Γ ke k [.bool E[a][k]] := fun Γ hg => hAe.bool (by omega) hg
                    have hcJ : ∀ Γ : Ctx, gj ∈ Γ → Cells Γ kj k [.bool J[a][k]] := fun Γ hg => hAj.bool (by omega) hg
                    have fin : ∀ (v : Bool) (gex : PH), Arr gex ke 4 (E[a].set k v) → (∀ x, x ≠ ke → gex x = ge x) → (v = true ↔ E[a][k] = true ∨ J[a][k] = true) →
                        Up [gt, gm, ga, gj, gex, go] (fun Γ => ∃ (ge : PH) (E : List (List Bool)) (k1 : Nat), [Sl.v true (.int .i64 ((k : Int) + 1))] = [.v true (.int .i64 (k1 : Int))] ∧ Γ = [gt, gm, ga, gj, ge, go] ∧ k1 + (f2 - 1) = m + 1 ∧ Grid ge be 22 4 E ∧ EndW g m N (levA a k1 h) E) := by
                      intro v gex w1 w2 w3
                      refine Up.here ⟨gex, _, k + 1, rfl, rfl, by omega, hse gex _ w1 (by simp) w2, hE.1.set a (by simp [hEr]), fun a' k' u1 u2 => ?_⟩
                      rw [mat_setR hE.1 ha (by omega) (List.getElem?_eq_getElem (show a < E.length by omega))]
                      by_cases e : a' = a ∧ k' = k
                      · obtain ⟨rfl, rfl⟩ := e
                        rw [if_pos ⟨rfl, rfl⟩, show levA a' (k' + 1) h a' k' = h by unfold levA; rw [if_pos (by omega)], w3, v4, v3]
                        have m1 := cntT_le g (show mostN g m ≤ max (mostN g m) (h - 1) by omega) (a' : Int) k'
                        have m2 := cntT_le g (show h - 1 ≤ h by omega) (a' : Int) k'
                        rw [show max (mostN g m) (h - 1) = h - 1 by omega] at m1 ⊢
                        rw [show max (mostN g m) h = h by omega]
                        omega
                      · rw [if_neg e, hE.2 a' k' u1 u2, show levA a (k + 1) h a' k' = levA a k h a' k' by
                          unfold levA
                          by_cases c : a' < a ∨ (a' = a ∧ k' < k)
                          · rw [if_pos c, if_pos (by omega)]
                          · rw [if_neg c, if_neg (by omega)]]
                    generalize E[a][k] = e0 at *
                    generalize J[a][k] = j0 at *
                    refine s_idx rfl (by omega) (by omega) ?_
                    simp -implicitDefEqProofs only [go_sem, Nat.reduceBEq, Nat.reduceAdd, Nat.reduceSub, Nat.reduceMul, Nat.reduceLeDiff, reduceCtorEq, ↓reduceIte, Int.reduceLT, Int.reduceLE, Int.reduceEq, Int.reduceNe]
                    refine s_ld0 (by simpa using hce _ (by simp)) (by simp) (by simp) ?_
                    simp -implicitDefEqProofs only [go_sem, Nat.reduceBEq, Nat.reduceAdd, Nat.reduceSub, Nat.reduceMul, Nat.reduceLeDiff, reduceCtorEq, ↓reduceIte, Int.reduceLT, Int.reduceLE, Int.reduceEq, Int.reduceNe]
                    refine s_idx rfl (by omega) (by omega) ?_
                    simp -implicitDefEqProofs only [go_sem, Nat.reduceBEq, Nat.reduceAdd, Nat.reduceSub, Nat.reduceMul, Nat.reduceLeDiff, reduceCtorEq, ↓reduceIte, Int.reduceLT, Int.reduceLE, Int.reduceEq, Int.reduceNe]
                    refine s_ld0 (by simpa using hce _ (by simp)) (by simp) (by simp) ?_
                    simp -implicitDefEqProofs only [go_sem, Nat.reduceBEq, Nat.reduceAdd, Nat.reduceSub, Nat.reduceMul, Nat.reduceLeDiff, reduceCtorEq, ↓reduceIte, Int.reduceLT, Int.reduceLE, Int.reduceEq, Int.reduceNe]
                    refine s_idx rfl (by omega) (by omega) ?_
                    simp -implicitDefEqProofs only [go_sem, Nat.reduceBEq, Nat.reduceAdd, Nat.reduceSub, Nat.reduceMul, Nat.reduceLeDiff, reduceCtorEq, ↓reduceIte, Int.reduceLT, Int.reduceLE, Int.reduceEq, Int.reduceNe]
                    refine s_ld0 (hcE _ (by simp)) (by simp) (by simp) ?_
                    cases e0 with
                    | true =>
                      simp -implicitDefEqProofs only [go_sem, Nat.reduceBEq, Nat.reduceAdd, Nat.reduceSub, Nat.reduceMul, Nat.reduceLeDiff, reduceCtorEq, ↓reduceIte, Int.reduceLT, Int.reduceLE, Int.reduceEq, Int.reduceNe]
                      refine s_ldg0 (cs := [.slice none 0 0]) (by simp) (by simp) (by simp) (by simp) ?_
                      simp -implicitDefEqProofs only [go_sem, Nat.reduceBEq, Nat.reduceAdd, Nat.reduceSub, Nat.reduceMul, Nat.reduceLeDiff, reduceCtorEq, ↓reduceIte, Int.reduceLT, Int.reduceLE, Int.reduceEq, Int.reduceNe]
                      refine s_idxg (b := 0) (o := 0) (by simp) ?_
                      simp -implicitDefEqProofs only [go_sem, Nat.reduceBEq, Nat.reduceAdd, Nat.reduceSub, Nat.reduceMul, Nat.reduceLeDiff, reduceCtorEq, ↓reduceIte, Int.reduceLT, Int.reduceLE, Int.reduceEq, Int.reduceNe]
                      refine s_ldg0 (cs := [.slice none 0 0]) (by simp) (by simp) (by simp) (by simp) ?_
                      simp -implicitDefEqProofs only [go_sem, Nat.reduceBEq, Nat.reduceAdd, Nat.reduceSub, Nat.reduceMul, Nat.reduceLeDiff, reduceCtorEq, ↓reduceIte, Int.reduceLT, Int.reduceLE, Int.reduceEq, Int.reduceNe]
                      refine s_idxg (b := 0) (o := 0) (by simp) ?_
                      simp -implicitDefEqProofs only [go_sem, Nat.reduceBEq, Nat.reduceAdd, Nat.reduceSub, Nat.reduceMul, Nat.reduceLeDiff, reduceCtorEq, ↓reduceIte, Int.reduceLT, Int.reduceLE, Int.reduceEq, Int.reduceNe]
                      refine s_ldg0 (cs := [.bool false]) (by simp) (by simp) (by simp) (by simp) ?_
                      simp -implicitDefEqProofs only [go_sem, Nat.reduceBEq, Nat.reduceAdd, Nat.reduceSub, Nat.reduceMul, Nat.reduceLeDiff, reduceCtorEq, ↓reduceIte, Int.reduceLT, Int.reduceLE, Int.reduceEq, Int.reduceNe]
                      refine s_idx rfl (by omega) (by omega) ?_
                      simp -implicitDefEqProofs only [go_sem, Nat.reduceBEq, Nat.reduceAdd, Nat.reduceSub, Nat.reduceMul, Nat.reduceLeDiff, reduceCtorEq, ↓reduceIte, Int.reduceLT, Int.reduceLE, Int.reduceEq, Int.reduceNe]
                      refine s_storeA (ix := 4) (α := Bool) true rfl hAe (i := k) (by omega) ?_
                      intro gex hEx hoe
                      simp -implicitDefEqProofs only [go_sem, Nat.reduceBEq, Nat.reduceAdd, Nat.reduceSub, Nat.reduceMul, Nat.reduceLeDiff, reduceCtorEq, ↓reduceIte, Int.reduceLT, Int.reduceLE, Int.reduceEq, Int.reduceNe]
                      simp (disch := omega) only [wrap_id]
                      exact ⟨f2 - 1, by omega, fin true gex hEx hoe (by simp)⟩
                    | false =>
                      simp -implicitDefEqProofs only [go_sem, Nat.reduceBEq, Nat.reduceAdd, Nat.reduceSub, Nat.reduceMul, Nat.reduceLeDiff, reduceCtorEq, ↓reduceIte, Int.reduceLT, Int.reduceLE, Int.reduceEq, Int.reduceNe]
                      refine s_ld (j := 7) (cells_lk (lk_l [gt, gm, ga, gj, ge, go] Γr _ _ ⟨gt, by simp, hgt0⟩)) (by simp [htC]) (by simp) ?_
                      simp -implicitDefEqProofs only [htC, go_sem, Nat.reduceBEq, Nat.reduceAdd, Nat.reduceSub, Nat.reduceMul, Nat.reduceLeDiff, reduceCtorEq, ↓reduceIte, Int.reduceLT, Int.reduceLE, Int.reduceEq, Int.reduceNe]
                      rw [hN']
                      refine s_idx rfl (by omega) (by omega) ?_
                      simp -implicitDefEqProofs only [go_sem, Nat.reduceBEq, Nat.reduceAdd, Nat.reduceSub, Nat.reduceMul, Nat.reduceLeDiff, reduceCtorEq, ↓reduceIte, Int.reduceLT, Int.reduceLE, Int.reduceEq, Int.reduceNe]
                      refine s_ld0 (by simpa using hcj _ (by simp)) (by simp) (by simp) ?_
                      simp -implicitDefEqProofs only [go_sem, Nat.reduceBEq, Nat.reduceAdd, Nat.reduceSub, Nat.reduceMul, Nat.reduceLeDiff, reduceCtorEq, ↓reduceIte, Int.reduceLT, Int.reduceLE, Int.reduceEq, Int.reduceNe]
                      refine s_idx rfl (by omega) (by omega) ?_
                      simp -implicitDefEqProofs only [go_sem, Nat.reduceBEq, Nat.reduceAdd, Nat.reduceSub, Nat.reduceMul, Nat.reduceLeDiff, reduceCtorEq, ↓reduceIte, Int.reduceLT, Int.reduceLE, Int.reduceEq, Int.reduceNe]
                      refine s_ld0 (hcJ _ (by simp)) (by simp) (by simp) ?_
                      simp -implicitDefEqProofs only [go_sem, Nat.reduceBEq, Nat.reduceAdd, Nat.reduceSub, Nat.reduceMul, Nat.reduceLeDiff, reduceCtorEq, ↓reduceIte, Int.reduceLT, Int.reduceLE, Int.reduceEq, Int.reduceNe]
                      refine s_idx rfl (by omega) (by omega) ?_
                      simp -implicitDefEqProofs only [go_sem, Nat.reduceBEq, Nat.reduceAdd, Nat.reduceSub, Nat.reduceMul, Nat.reduceLeDiff, reduceCtorEq, ↓reduceIte, Int.reduceLT, Int.reduceLE, Int.reduceEq, Int.reduceNe]
                      refine s_storeA (ix := 4) (α := Bool) j0 rfl hAe (i := k) (by omega) ?_
                      intro gex hEx hoe
                      simp -implicitDefEqProofs only [go_sem, Nat.reduceBEq, Nat.reduceAdd, Nat.reduceSub, Nat.reduceMul, Nat.reduceLeDiff, reduceCtorEq, ↓reduceIte, Int.reduceLT, Int.reduceLE, Int.reduceEq, Int.reduceNe]
                      simp (disch := omega) only [wrap_id]
                      exact ⟨f2 - 1, by omega, fin j0 gex hEx hoe (by simp)⟩
                  · have hke : k = m + 1 := by omega
                    subst hke
                    simp (disch := omega) only [wrap_id]
                    refine ⟨f1 - 1, by omega, Up.here ⟨ge, E, a + 1, rfl, rfl, by omega, hGe, hE.congr (fun a' k' _ _ => ?_)⟩⟩
                    rw [show levA a (m + 1) h a' k' = levA (a + 1) 0 h a' k' by
                      unfold levA
                      by_cases c : a' < a + 1
                      · rw [if_pos (by omega), if_pos (by omega)]
                      · rw [if_neg (by omega), if_neg (by omega)]]
                · have hae : a = N := by omega
                  subst hae
                  exact Up.here ⟨ge, ov, E, rfl, rfl, hGe, hE.congr (fun a' k' q _ => by unfold levA; rw [if_pos (by omega)]), hO⟩
            · refine Up.here ⟨ge, ov, E, rfl, rfl, hGe, hE.congr (fun a k _ _ => by omega), ?_⟩
              rcases hO with ⟨q1, q2⟩ | ⟨q1, _⟩
              · exact .inl ⟨by omega, q2⟩
              · omega
          · rintro vs Γ' ⟨ge, ov, E, rfl, rfl, hGe, hE, hO⟩
            simp -implicitDefEqProofs only [S80_14, go_sem, Nat.reduceBEq, Nat.reduceAdd, Nat.reduceSub, Nat.reduceMul, Nat.reduceLeDiff, reduceCtorEq, ↓reduceIte, Int.reduceLT, Int.reduceLE, Int.reduceEq, Int.reduceNe]
            obtain ⟨bm, ba, bj, M, A, J, hgt0, hGm, hGa, hGj, hT⟩ := hSt
            have hsm := hGm.slok (L := lk ([gm, ga, gj, ge, go] ++ Γr)) (lk_sub (by simp))
            have hsa := hGa.slok (L := lk ([gm, ga, gj, ge, go] ++ Γr)) (lk_sub (by simp))
            have hsj := hGj.slok (L := lk ([gm, ga, gj, ge, go] ++ Γr)) (lk_sub (by simp))
            rw [hT.m.1, ← hN'] at hsm
            rw [hT.a.1, ← hN'] at hsa
            rw [hT.j.1, ← hN'] at hsj
            refine CallVC.perm (Γm := [gt]) (Γf := [gm, ga, gj, ge, go]) (heights_up (Γr := [gm, ga, gj, ge, go] ++ Γr) V hm (hx.mono (lk_r [gm, ga, gj, ge, go] Γr)) hgt0 (cntT_le g (show h - 1 ≤ h by omega)) (by rw [hN']; exact hT) hsm hsa hsj) (List.Perm.refl _) (List.Sublist.refl _) ?_
            rintro v Γ' ⟨gt', gm', ga', gj', bm', ba', bj', M', A', J', rfl, rfl, hgt1, hGm', hGa', hGj', hT'⟩
            simp -implicitDefEqProofs only [go_sem, Nat.reduceBEq, Nat.reduceAdd, Nat.reduceSub, Nat.reduceMul, Nat.reduceLeDiff, reduceCtorEq, ↓reduceIte, Int.reduceLT, Int.reduceLE, Int.reduceEq, Int.reduceNe]
            have hSt' : StC g m R cR N (h + 1) bt gt' gm' ga' gj' := ⟨bm', ba', bj', M', A', J', hgt1, hGm', hGa', hGj', by
              rw [hN'] at hT'
              refine hT'.congr (fun a k _ hk => nxtT_all g h (n := m) (fun _ _ => rfl) a k hk) (fun a k _ hk => ?_)
              have := nxtT_all g (h - 1) (c := fun _ => g.rs.length) (n := m) (fun _ _ => rfl) a k hk
              rw [this, show h - 1 + 1 = h + 1 - 1 by omega]⟩
            rcases hO with ⟨q1, rfl⟩ | ⟨q1, bo, Om, rfl, q2 | q2, q3⟩
            · exact Up.sel [[0], [1], [2], [3], [7], [8]] (by decide) fun _ _ => ⟨gt', gm', ga', gj', ge, go, _, E, rfl, rfl, hSt', hGe, hE, .inl ⟨by omega, rfl⟩⟩
            · exact Up.sel [[0], [1], [2], [3], [7], [4]] (by decide) fun _ _ => ⟨gt', gm', ga', gj', ge, gm, _, E, rfl, rfl, hSt', hGe, hE, .inr ⟨by omega, bo, Om, rfl, q2, q3⟩⟩
            · exact Up.sel [[0], [1], [2], [3], [7], [8]] (by decide) fun _ _ => ⟨gt', gm', ga', gj', ge, go, _, E, rfl, rfl, hSt', hGe, hE, .inr ⟨by omega, bo, Om, rfl, q2, q3⟩⟩
        · rintro vs Γ' ⟨gt, gm, ga, gj, ge, go, ov, E, rfl, rfl, hSt, hGe, hE, hO⟩
          simp -implicitDefEqProofs only [S80_16, go_sem, Nat.reduceBEq, Nat.reduceAdd, Nat.reduceSub, Nat.reduceMul, Nat.reduceLeDiff, reduceCtorEq, ↓reduceIte, Int.reduceLT, Int.reduceLE, Int.reduceEq, Int.reduceNe]
          simp (disch := omega) only [wrap_id]
          exact ⟨f - 1, by omega, Up.here ⟨gt, gm, ga, gj, ge, go, ov, h + 1, E, rfl, rfl, by omega, by omega, hSt, hGe, hE, hO⟩⟩
      · have hhe : h = 2 * mo + 3 := by omega
        rcases hO with ⟨q1, _⟩ | ⟨q1, bo, Om, rfl, hGo, hOv⟩
        · omega
        have hEv := hE.2
        rw [show h - 1 = 2 * mo + 2 by omega] at hEv
        have hEs := hE.1
        clear hSt hE
        simp -implicitDefEqProofs only [go_sem, Nat.reduceBEq, Nat.reduceAdd, Nat.reduceSub, Nat.reduceMul, Nat.reduceLeDiff, reduceCtorEq, ↓reduceIte, Int.reduceLT, Int.reduceLE, Int.reduceEq, Int.reduceNe]
        refine s_loop (fun f vs Γ => ∃ (go : PH) (Om : List (List Int)) (a : Nat), vs = [.v true (.int .i64 (a : Int))] ∧ Γ = [go, ge] ∧ a + f = N ∧ Grid go bo 29 3 Om ∧ Shp N (m + 1) Om ∧ ∀ a' k', a' < N → k' ≤ m → matI Om a' k' = if a' < a then cenF g m a' k' else ((capN (cntT g (mostN g m + 1) (a' : Int) k') : Nat) : Int)) N
          (Up.sel [[5], [4]] (by decide) fun _ _ => ⟨go, Om, 0, rfl, rfl, by omega, hGo, hOv.1, fun a' k' w1 w2 => by rw [if_neg (by omega)]; exact hOv.2 a' k' w1 w2⟩) ?_
        clear hGo hOv
        rintro f1 vs Γ ⟨go, Om, a, rfl, rfl, haf, hGo, hOs, hOv⟩
        simp -implicitDefEqProofs only [S80_21, go_sem, Nat.reduceBEq, Nat.reduceAdd, Nat.reduceSub, Nat.reduceMul, Nat.reduceLeDiff, reduceCtorEq, ↓reduceIte, Int.reduceLT, Int.reduceLE, Int.reduceEq, Int.reduceNe]
        refine ⟨fun hlt => ?_, fun hge => ?_⟩
        · have ha : a < N := by omega
          have hOl := hOs.1
          have hOr := hOs.at' (i := a) (by omega)
          obtain ⟨ko, hco, hAo, hso⟩ := hGo.at' (i := a) (by omega) (by omega)
          rw [hOr] at hco
          refine s_idx rfl (by omega) (by omega) ?_
          simp -implicitDefEqProofs only [go_sem, Nat.reduceBEq, Nat.reduceAdd, Nat.reduceSub, Nat.reduceMul, Nat.reduceLeDiff, reduceCtorEq, ↓reduceIte, Int.reduceLT, Int.reduceLE, Int.reduceEq, Int.reduceNe]
          refine s_ld0 (by simpa using hco _ (by simp)) (by simp) (by simp) ?_
          simp -implicitDefEqProofs only [go_sem, Nat.reduceBEq, Nat.reduceAdd, Nat.reduceSub, Nat.reduceMul, Nat.reduceLeDiff, reduceCtorEq, ↓reduceIte, Int.reduceLT, Int.reduceLE, Int.reduceEq, Int.reduceNe]
          clear hco hAo hso ko
          refine s_loop (fun f2 vs Γ => ∃ (go : PH) (Om : List (List Int)) (k : Nat), vs = [.v true (.int .i64 (k : Int))] ∧ Γ = [go, ge] ∧ k + f2 = m + 1 ∧ Grid go bo 29 3 Om ∧ Shp N (m + 1) Om ∧ ∀ a' k', a' < N → k' ≤ m → matI Om a' k' = if a' < a ∨ (a' = a ∧ k' < k) then cenF g m a' k' else ((capN (cntT g (mostN g m + 1) (a' : Int) k') : Nat) : Int)) (m + 1)
            (Up.here ⟨go, Om, 0, rfl, rfl, by omega, hGo, hOs, fun a' k' w1 w2 => by
              rw [hOv a' k' w1 w2]
              by_cases c : a' < a
              · rw [if_pos c, if_pos (by omega)]
              · rw [if_neg c, if_neg (by omega)]⟩) ?_
          clear hGo hOs hOv hOl hOr
          rintro f2 vs Γ ⟨go, Om, k, rfl, rfl, hkf, hGo, hOs, hOv⟩
          simp -implicitDefEqProofs only [S80_20, go_sem, Nat.reduceBEq, Nat.reduceAdd, Nat.reduceSub, Nat.reduceMul, Nat.reduceLeDiff, reduceCtorEq, ↓reduceIte, Int.reduceLT, Int.reduceLE, Int.reduceEq, Int.reduceNe]
          refine ⟨fun hlt => ?_, fun hge => ?_⟩
          · have hk : k ≤ m := by omega
            have hOl := hOs.1
            have hOr := hOs.at' (i := a) (by omega)
            have hEl := hEs.1
            have hEr := hEs.at' (i := a) (by omega)
            obtain ⟨ko, hco, hAo, hso⟩ := hGo.at' (i := a) (by omega) (by omega)
            obtain ⟨ke, hce, hAe, _⟩ := hGe.at' (i := a) (by omega) (by omega)
            rw [hOr] at hco
            rw [hEr] at hce
            have v4 := hEv a k ha hk
            rw [mat_get (List.getElem?_eq_getElem (show a < E.length by omega)) (show k < E[a].length by omega), show max (mostN g m) (2 * mo + 2) = 2 * mostN g m + 2 by omega] at v4
            have hcE : ∀ Γ : Ctx, ge ∈ Γ → Cells Γ ke k [.bool E[a][k]] := fun Γ hg => hAe.bool (by omega) hg
            generalize E[a][k] = e0 at *
            refine s_join (fun vs Γ => vs = [] ∧ ∃ (go : PH) (Om : List (List Int)), Γ = [go, ge] ∧ Grid go bo 29 3 Om ∧ Shp N (m + 1) Om ∧ ∀ a' k', a' < N → k' ≤ m → matI Om a' k' = if a' < a ∨ (a' = a ∧ k' < k + 1) then cenF g m a' k' else ((capN (cntT g (mostN g m + 1) (a' : Int) k') : Nat) : Int)) ?_ ?_
            · simp -implicitDefEqProofs only [S80_18, go_sem, Nat.reduceBEq, Nat.reduceAdd, Nat.reduceSub, Nat.reduceMul, Nat.reduceLeDiff, reduceCtorEq, ↓reduceIte, Int.reduceLT, Int.reduceLE, Int.reduceEq, Int.reduceNe]
              refine s_idx rfl (by omega) (by omega) ?_
              simp -implicitDefEqProofs only [go_sem, Nat.reduceBEq, Nat.reduceAdd, Nat.reduceSub, Nat.reduceMul, Nat.reduceLeDiff, reduceCtorEq, ↓reduceIte, Int.reduceLT, Int.reduceLE, Int.reduceEq, Int.reduceNe]
              refine s_ld0 (by simpa using hce _ (by simp)) (by simp) (by simp) ?_
              simp -implicitDefEqProofs only [go_sem, Nat.reduceBEq, Nat.reduceAdd, Nat.reduceSub, Nat.reduceMul, Nat.reduceLeDiff, reduceCtorEq, ↓reduceIte, Int.reduceLT, Int.reduceLE, Int.reduceEq, Int.reduceNe]
              refine s_idx rfl (by omega) (by omega) ?_
              simp -implicitDefEqProofs only [go_sem, Nat.reduceBEq, Nat.reduceAdd, Nat.reduceSub, Nat.reduceMul, Nat.reduceLeDiff, reduceCtorEq, ↓reduceIte, Int.reduceLT, Int.reduceLE, Int.reduceEq, Int.reduceNe]
              refine s_ld0 (hcE _ (by simp)) (by simp) (by simp) ?_
              cases e0 with
              | true =>
                simp -implicitDefEqProofs only [go_sem, Nat.reduceBEq, Nat.reduceAdd, Nat.reduceSub, Nat.reduceMul, Nat.reduceLeDiff, reduceCtorEq, ↓reduceIte, Int.reduceLT, Int.reduceLE, Int.reduceEq, Int.reduceNe]
                refine s_idx rfl (by omega) (by omega) ?_
                simp -implicitDefEqProofs only [go_sem, Nat.reduceBEq, Nat.reduceAdd, Nat.reduceSub, Nat.reduceMul, Nat.reduceLeDiff, reduceCtorEq, ↓reduceIte, Int.reduceLT, Int.reduceLE, Int.reduceEq, Int.reduceNe]
                refine s_ld0 (by simpa using hco _ (by simp)) (by simp) (by simp) ?_
                simp -implicitDefEqProofs only [go_sem, Nat.reduceBEq, Nat.reduceAdd, Nat.reduceSub, Nat.reduceMul, Nat.reduceLeDiff, reduceCtorEq, ↓reduceIte, Int.reduceLT, Int.reduceLE, Int.reduceEq, Int.reduceNe]
                refine s_idx rfl (by omega) (by omega) ?_
                simp -implicitDefEqProofs only [go_sem, Nat.reduceBEq, Nat.reduceAdd, Nat.reduceSub, Nat.reduceMul, Nat.reduceLeDiff, reduceCtorEq, ↓reduceIte, Int.reduceLT, Int.reduceLE, Int.reduceEq, Int.reduceNe]
                refine s_storeA (ix := 0) (α := Int) (-1) rfl hAo (i := k) (by omega) ?_
                intro gox hOx hoo
                simp -implicitDefEqProofs only [go_sem, Nat.reduceBEq, Nat.reduceAdd, Nat.reduceSub, Nat.reduceMul, Nat.reduceLeDiff, reduceCtorEq, ↓reduceIte, Int.reduceLT, Int.reduceLE, Int.reduceEq, Int.reduceNe]
                refine Up.here ⟨gox, _, rfl, hso gox _ hOx (by simp) hoo, hOs.set a (by simp [hOr]), fun a' k' w1 w2 => ?_⟩
                rw [matI_set hOs ha (by omega) (List.getElem?_eq_getElem (show a < Om.length by omega))]
                by_cases c : a' = a ∧ k' = k
                · obtain ⟨rfl, rfl⟩ := c
                  rw [if_pos ⟨rfl, rfl⟩, if_pos (by omega)]
                  exact (if_pos (v4.1 rfl)).symm
                · rw [if_neg c, hOv a' k' w1 w2]
                  by_cases d : a' < a ∨ (a' = a ∧ k' < k)
                  · rw [if_pos d, if_pos (by omega)]
                  · rw [if_neg d, if_neg (by omega)]
              | false =>
                simp -implicitDefEqProofs only [go_sem, Nat.reduceBEq, Nat.reduceAdd, Nat.reduceSub, Nat.reduceMul, Nat.reduceLeDiff, reduceCtorEq, ↓reduceIte, Int.reduceLT, Int.reduceLE, Int.reduceEq, Int.reduceNe]
                refine Up.here ⟨go, Om, rfl, hGo, hOs, fun a' k' w1 w2 => ?_⟩
                rw [hOv a' k' w1 w2]
                by_cases c : a' = a ∧ k' = k
                · obtain ⟨rfl, rfl⟩ := c
                  rw [if_neg (by omega), if_pos (by omega)]
                  have hnl : ¬ cntT g (mostN g m) (a' : Int) k' < cntT g (2 * mostN g m + 2) (a' : Int) k' := fun q => by have := v4.2 q; cases this
                  have m1 := cntT_le g (show mostN g m ≤ mostN g m + 1 by omega) (a' : Int) k'
                  have m2 := cntT_le g (show mostN g m + 1 ≤ 2 * mostN g m + 2 by omega) (a' : Int) k'
                  unfold cenF
                  rw [if_neg hnl, show cntT g (mostN g m + 1) (a' : Int) k' = cntT g (mostN g m) (a' : Int) k' by omega]
                · by_cases d : a' < a ∨ (a' = a ∧ k' < k)
                  · rw [if_pos d, if_pos (by omega)]
                  · rw [if_neg d, if_neg (by omega)]
            · rintro vs Γ' ⟨rfl, go, Om, rfl, hGo, hOs, hOv⟩
              simp -implicitDefEqProofs only [S80_19, go_sem, Nat.reduceBEq, Nat.reduceAdd, Nat.reduceSub, Nat.reduceMul, Nat.reduceLeDiff, reduceCtorEq, ↓reduceIte, Int.reduceLT, Int.reduceLE, Int.reduceEq, Int.reduceNe]
              simp (disch := omega) only [wrap_id]
              exact ⟨f2 - 1, by omega, Up.here ⟨go, Om, k + 1, rfl, rfl, by omega, hGo, hOs, hOv⟩⟩
          · have hke : k = m + 1 := by omega
            subst hke
            simp (disch := omega) only [wrap_id]
            refine ⟨f1 - 1, by omega, Up.here ⟨go, Om, a + 1, rfl, rfl, by omega, hGo, hOs, fun a' k' w1 w2 => ?_⟩⟩
            rw [hOv a' k' w1 w2]
            by_cases c : a' < a + 1
            · rw [if_pos (by omega), if_pos c]
            · rw [if_neg (by omega), if_neg c]
        · have hae : a = N := by omega
          subst hae
          have he := rows_eq hOs (fun a' k' w1 w2 => by rw [hOv a' k' w1 w2, if_pos w1])
          refine Up.sel [[0]] (by decide) fun _ _ => ?_
          subst hR
          refine .inr ⟨hce, go, _, _, rfl, by rw [hN'], ?_⟩
          rw [Int.toNat_natCast, hN', ← he]
          have := hGo.slok (L := lk [go]) (lk_sub (by simp))
          rw [hOs.1] at this
          exact this
end Go.Proofs.Ytniobbepliknmaa.V
