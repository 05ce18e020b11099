/- Lengths of words: lens.Set walked; no condition. -/
import Derived.Test.YtniobbepliknmaaDlens
namespace Go.Proofs.Ytniobbepliknmaa.V
open Go
set_option linter.unusedVariables false
set_option linter.unusedSimpArgs false
attribute [local go_sem] e_seq e_region e_quiet e_join e_loop e_cond e_block e_exit e_ret e_skip e_fin e_kseq e_snrm e_sret e_sex e_bnrm e_bret e_bex e_rnrm e_rret e_res e_condC e_nil e_g e_mv g_mv e_pick g_pick pickC_eq e_ibin g_ibin ibinC_eq e_sbin g_sbin e_beq g_beq beqC_eq e_nilq g_nilq nilqC_sl nilqC_pt nilqC_mp e_un g_un unC_not unC_neg e_conv g_conv convC_eq e_fld g_fld fldC_ref fldC_ptr e_nilCheck g_nilCheck nilCheckC_ref nilCheckC_ptr nilCheckC_fun e_field g_field fieldC_eq e_len g_len lenC_sl lenC_str e_extract g_extract extractC_eq e_mkFunc e_build g_build e_idiv g_idiv idivC_eq e_ishift g_ishift ishiftC_eq e_idx g_idx e_idxA g_idxA e_load g_load loadC_ref loadC_ptr loadB_eq e_slc g_slc e_box boxC_loc boxC_esc e_alloc allocC_loc allocC_esc e_buildS e_store storeC_ref storeC_ptr storeB_eq e_append e_appz e_mk mkC_eq e_call callC_eq e_fn g_fn fnC_eq fnV_min' fnV_max' fnV_rune' e_q g_q e_a e_n g_call g_box g_alloc g_buildS g_store g_append g_mk g_a g_n g_dead e_dead e_callK e_drawn e_tree e_finJ e_tk e_tfin e_tno e_nbt_q e_nbt_qn e_nbt_a e_nbt_an e_nbt_fin e_early_nil e_early_t e_early_f e_nob_nil e_nob_none e_nob_some isBox_dead isBox_v isBox_ref e_dnil e_dk e_ek e_finB vcOps_vc1 e_dcons e_tq e_ekt e_tearly e_talt e_dearly look_nil look_c proj_nil proj_c looks_nil looks_c zip_nil zip_c val_tmp val_const val_func slv_v slv_box slv_ref slot_tmp slot_const slot_func slotL_v slotL_box slotL_ref put_some put_none updBox_c boxSet_box gd_eq slotVals_nil slotVals_c slotVals_b boxV_box boxOn_box slotsOn_nil slotsOn_c slotsOn_b resV_one resV_two vals_nil vals_c allOn_nil allOn_c partOn_nil partOn_c partVals_nil partVals_c fits_nil fits_c fillL_nil fillL_c mkv_one mkv_agg cellsV_agg cellsV_int cellsV_bool cellsV_slice cellsV_string cellsV_pointer cellsV_func cellsV_nilf cellsV_map one'_nil one'_c oc_int oc_bool oc_slice oc_string oc_pointer oc_func oc_nilf oc_map setC_eq iv_add iv_sub iv_mul iv_eql iv_neq iv_lss iv_leq iv_gtr iv_geq iok_add iok_sub iok_mul iok_eql iok_neq iok_lss iok_leq iok_gtr iok_geq pickV_bool args0_nil args0_c bnd_none bnd_some imp_bt imp_bf imp_ebt imp_ebf imp_eb1 imp_np imp_pp beq_tt beq_tf beq_ft beq_ff cond_or cond_and e_round e_meet Int.le_refl Int.toNat_zero decide_true decide_false Bool.or_false Bool.false_or Bool.true_or Bool.or_true Bool.and_false Bool.false_and Bool.bne_false Bool.bne_true beq_iff_eq Int.cast_ofNat_Int not_false_eq_true not_true_eq_false false_and and_false false_implies true_implies true_and and_true Bool.true_and Bool.and_true Bool.not_true Bool.not_false forall_const implies_true List.take_zero List.drop_zero List.take_succ_cons List.drop_succ_cons List.take_nil List.drop_nil List.length_cons List.length_nil List.nil_append List.append_nil List.cons_append Int.toNat_natCast decide_eq_true_eq decide_eq_false_iff_not cond_true cond_false and_self List.getElem?_cons_zero List.getElem?_cons_succ List.set_cons_zero List.set_cons_succ Option.some.injEq exists_eq_left' Nat.zero_add Nat.add_zero Nat.mul_one imp_self true_or or_true or_false false_or Bool.or_eq_true Bool.or_eq_false_iff Bool.and_eq_true Bool.and_eq_false_iff Bool.not_eq_true' Bool.not_eq_false'

/-- what lens.Set answers -/
def SetR (g : Gr) (n : Int) (xs : List Bool) (e : Int) : Prop :=
  (ckF g ≠ 0 ∧ e = ckF g ∧ xs = []) ∨ (ckF g = 0 ∧ (n < 0 ∨ 200 < n) ∧ e = 1 ∧ xs = []) ∨ (ckF g = 0 ∧ e = 0 ∧ ∃ N : Nat, n = N ∧ N ≤ 200 ∧ Tells N xs (HasD g g.st))

theorem lens_set {Γr : Ctx} {g : Gr} {A : Option Addr} {c : Nat} (hx : SlOk (lk Γr) A c g.rs) (n : Int) :
    Ret Try.prog 39 [.agg #[.int .i64 g.ts, .int .i64 g.ns, .int .i64 g.st, .slice A g.rs.length c], .int .i64 n] Γr [] (fun v Γ => ∃ g' B d xs e, Γ = [g'] ∧ SlOk (lk [g']) B d xs ∧ v = .tuple #[.slice B xs.length d, .int .i64 e] ∧ SetR g n xs e) := by
  generalize hR : (fun (v : Value) (Γ : Ctx) => ∃ g' B d xs e, _) = R
  refine ret_of_vc tr39 (Nat.le_of_ble_eq_true rfl) ?_
  simp -implicitDefEqProofs only [S39, S39_0, go_sem, Nat.reduceBEq, Nat.reduceAdd, Nat.reduceSub, Nat.reduceMul, Nat.reduceLeDiff, reduceCtorEq, ↓reduceIte, Int.reduceLT, Int.reduceLE, Int.reduceEq, Int.reduceNe]
  intro b
  refine CallVC.read (gram_check hx) ?_
  rintro v Γ' ⟨rfl, rfl⟩
  simp -implicitDefEqProofs only [go_sem, Nat.reduceBEq, Nat.reduceAdd, Nat.reduceSub, Nat.reduceMul, Nat.reduceLeDiff, reduceCtorEq, ↓reduceIte, Int.reduceLT, Int.reduceLE, Int.reduceEq, Int.reduceNe]
  refine ⟨fun h => Up.one fun g' _ => ?_, fun h0 => ⟨fun h => Up.one fun g' _ => ?_, fun hn => ?_⟩⟩
  · subst hR
    exact ⟨g', none, 0, [], _, rfl, SlOk.nil, rfl, .inl ⟨h, rfl, rfl⟩⟩
  · subst hR
    exact ⟨g', none, 0, [], _, rfl, SlOk.nil, rfl, .inr (.inl ⟨h0, h, rfl, rfl⟩)⟩
  obtain ⟨N, rfl⟩ : ∃ m : Nat, n = m := ⟨n.toNat, by omega⟩
  have hN : N ≤ 200 := by omega
  have V := ckF_ok h0
  have hns := V.ns
  obtain ⟨a, ha⟩ : ∃ a : Nat, g.ns = a := ⟨g.ns.toNat, by omega⟩
  have ha10 : a ≤ 10 := by omega
  rw [ha]
  refine ⟨by omega, by omega, fun b1 => ?_⟩
  rw [Int.toNat_natCast]
  refine s_loop (fun f vs Γ => ∃ g, Γ = [g] ∧ ∃ k : Nat, vs = [.v true (.int .i64 k)] ∧ k + f = a ∧ Grid g b1 22 4 (part false a (N + 1) k)) a
    (Up.here ⟨_, rfl, 0, rfl, by omega, by have := Grid.made (α := Bool) b1 22 4 (m := a) (by omega); simpa [part] using this⟩) ?_
  rintro f vs Γ ⟨gg, rfl, k, rfl, hkf, hG⟩
  simp -implicitDefEqProofs only [S39_1, go_sem, Nat.reduceBEq, Nat.reduceAdd, Nat.reduceSub, Nat.reduceMul, Nat.reduceLeDiff, reduceCtorEq, ↓reduceIte, Int.reduceLT, Int.reduceLE, Int.reduceEq, Int.reduceNe]
  refine ⟨fun hlt => ?_, fun hge => ?_⟩
  · have hk : k < a := by omega
    simp (disch := omega) only [wrap_id]
    refine ⟨by omega, by omega, fun b2 => ?_⟩
    rw [show ((N : Int) + 1).toNat = N + 1 by omega]
    refine s_idx rfl (by omega) (by omega) ?_
    simp -implicitDefEqProofs only [go_sem, Nat.reduceBEq, Nat.reduceAdd, Nat.reduceSub, Nat.reduceMul, Nat.reduceLeDiff, reduceCtorEq, ↓reduceIte, Int.reduceLT, Int.reduceLE, Int.reduceEq, Int.reduceNe]
    refine s_storeG (ix := 1) (k := b2) (List.replicate (N + 1) false) (by simp) rfl hG (by rw [part_len _ (by omega)]; omega) (by simp; omega) ?_
    intro g' hput
    simp -implicitDefEqProofs only [go_sem, Nat.reduceBEq, Nat.reduceAdd, Nat.reduceSub, Nat.reduceMul, Nat.reduceLeDiff, reduceCtorEq, ↓reduceIte, Int.reduceLT, Int.reduceLE, Int.reduceEq, Int.reduceNe]
    simp (disch := omega) only [wrap_id]
    refine ⟨f - 1, by omega, Up.apart fun hd => Up.one fun G hG' => ⟨_, rfl, k + 1, rfl, by omega, ?_⟩⟩
    rw [← part_set _ hk]
    exact hput _ _ (Arr.made false b2 4 (N + 1)) ((List.pairwise_cons.1 hd).1 g' (by simp)) hG'
  have hk : k = a := by omega
  subst hk
  have hG0 : Grid gg b1 22 4 (List.replicate k (List.replicate (N + 1) false)) := by simpa [part] using hG
  have hcl : ∀ rows : List (List Bool), rows.length = k → (∀ x ∈ rows, x.length = N + 1) → cntL rows ≤ 10 * (N + 1) := fun rows h1 h2 => by
    have := cntL_le h2
    rw [h1] at this
    exact Nat.le_trans this (Nat.mul_le_mul_right _ ha10)
  refine s_loop (fun f vs Γ => ∃ gg, Γ = [gg] ∧ ∃ (ag : Bool) (rows : List (List Bool)), vs = [.v true (.bool ag)] ∧ f + cntL rows = 10 * (N + 1) + (if ag then 1 else 0) ∧ rows.length = k ∧ (∀ x ∈ rows, x.length = N + 1) ∧ Grid gg b1 22 4 rows ∧ SoundL g rows ∧ (ag = false → ClosedL g N rows)) (10 * (N + 1) + 1)
    (Up.here ⟨_, rfl, true, _, rfl, by rw [cntL_zero]; rfl, by simp, fun x hx => by rw [List.eq_of_mem_replicate hx]; simp, hG0, rep_false g _ _, by simp⟩) ?_
  rintro f vs Γ ⟨gg, rfl, ag, rows, rfl, hf, hrl, hrow, hG, hS, hC⟩
  simp -implicitDefEqProofs only [S39_6, go_sem, Nat.reduceBEq, Nat.reduceAdd, Nat.reduceSub, Nat.reduceMul, Nat.reduceLeDiff, reduceCtorEq, ↓reduceIte, Int.reduceLT, Int.reduceLE, Int.reduceEq, Int.reduceNe]
  refine ⟨fun hag => ?_, fun hag => ?_⟩
  · subst hag
    refine s_loop (fun f' vs Γ => ∃ gg, Γ = [gg] ∧ ∃ (ag' : Bool) (i : Nat) (rows' : List (List Bool)), vs = [.v true (.bool ag'), .v true (.int .i64 i)] ∧ i + f' = g.rs.length ∧ rows'.length = k ∧ (∀ x ∈ rows', x.length = N + 1) ∧ Grid gg b1 22 4 rows' ∧ SoundL g rows' ∧
      cntL rows ≤ cntL rows' ∧ (ag' = true → cntL rows < cntL rows') ∧ (ag' = false → ∀ (j : Nat) (hj : j < g.rs.length), j < i → ∀ m, m ≤ N → SumP rows' g.rs[j].r m → (rows'.getD g.rs[j].l.toNat []).getD m false = true)) g.rs.length
      (Up.here ⟨_, rfl, false, 0, rows, rfl, by omega, hrl, hrow, hG, hS, Nat.le_refl _, by simp, by intro _ j _ h; omega⟩) ?_
    rintro f' vs Γ ⟨gg, rfl, ag', i, rows', rfl, hif, hrl', hrow', hG', hS', hle, hag1, hag0⟩
    simp -implicitDefEqProofs only [S39_5, go_sem, Nat.reduceBEq, Nat.reduceAdd, Nat.reduceSub, Nat.reduceMul, Nat.reduceLeDiff, reduceCtorEq, ↓reduceIte, Int.reduceLT, Int.reduceLE, Int.reduceEq, Int.reduceNe]
    refine ⟨fun hlt => ?_, fun hge => ?_⟩
    · have hi : i < g.rs.length := by omega
      have hmem : g.rs[i] ∈ g.rs := List.getElem_mem hi
      obtain ⟨b2, o2, hA2, A3, c3, hr3, hc2⟩ := hx.ru hi
      refine s_idx hA2 (by omega) (by omega) ?_
      simp -implicitDefEqProofs only [go_sem, Nat.reduceBEq, Nat.reduceAdd, Nat.reduceSub, Nat.reduceMul, Nat.reduceLeDiff, reduceCtorEq, ↓reduceIte, Int.reduceLT, Int.reduceLE, Int.reduceEq, Int.reduceNe]
      refine s_ld0 (hc2 _ (lk_r _ _)) (by simp) (by simp) ?_
      simp -implicitDefEqProofs only [go_sem, Nat.reduceBEq, Nat.reduceAdd, Nat.reduceSub, Nat.reduceMul, Nat.reduceLeDiff, reduceCtorEq, ↓reduceIte, Int.reduceLT, Int.reduceLE, Int.reduceEq, Int.reduceNe]
      intro b4
      have hV := V.sym _ hmem
      have hL := V.left _ hmem
      obtain ⟨al, hal⟩ : ∃ al : Nat, g.rs[i].l = al := ⟨g.rs[i].l.toNat, by omega⟩
      have halk : al < k := by omega
      have hsl := (hG'.slok (L := lk ([gg] ++ Γr)) (lk_l _ _))
      rw [hrl'] at hsl
      have hsum := lens_sums (Γr := [gg] ++ Γr) N (by omega) (hr3.r (Γ := [gg])) (by rw [← hrl'] at hsl; exact hsl) hrow' (fun s hs ht => by have := hV s hs; have := this.2.2 ht; omega)
      rw [hrl'] at hsum
      refine CallVC.read hsum ?_
      rintro v Γ' ⟨g5, b5, xs, rfl, rfl, hA5, hT5⟩
      have hxl := hT5.1
      simp -implicitDefEqProofs only [go_sem, Nat.reduceBEq, Nat.reduceAdd, Nat.reduceSub, Nat.reduceMul, Nat.reduceLeDiff, reduceCtorEq, ↓reduceIte, Int.reduceLT, Int.reduceLE, Int.reduceEq, Int.reduceNe]
      refine s_loop (fun f2 vs Γ => ∃ g5 gg, Γ = [g5, gg] ∧ Arr g5 b5 4 xs ∧ ∃ (ag2 : Bool) (q : Nat) (rows2 : List (List Bool)), vs = [.v true (.bool ag2), .v true (.int .i64 q)] ∧ q + f2 = N + 1 ∧ rows2.length = k ∧ (∀ x ∈ rows2, x.length = N + 1) ∧ Grid gg b1 22 4 rows2 ∧ SoundL g rows2 ∧
        cntL rows ≤ cntL rows2 ∧ (ag2 = true → cntL rows < cntL rows2) ∧ (ag2 = false → ag' = false ∧ rows2 = rows' ∧ ∀ m, m < q → SumP rows' g.rs[i].r m → (rows'.getD al []).getD m false = true)) (N + 1)
        (Up.here ⟨_, _, rfl, hA5, ag', 0, rows', rfl, by omega, hrl', hrow', hG', hS', hle, hag1, fun h => ⟨h, rfl, by intro m hm; omega⟩⟩) ?_
      rintro f2 vs Γ ⟨g5, gg, rfl, hA5, ag2, q, rows2, rfl, hqf, hrl2, hrow2, hG2, hS2, hle2, hag21, hag20⟩
      simp -implicitDefEqProofs only [S39_4, go_sem, Nat.reduceBEq, Nat.reduceAdd, Nat.reduceSub, Nat.reduceMul, Nat.reduceLeDiff, reduceCtorEq, ↓reduceIte, Int.reduceLT, Int.reduceLE, Int.reduceEq, Int.reduceNe]
      refine ⟨fun hlt => ?_, fun hge => ?_⟩
      · have hq : q < xs.length := by omega
        refine s_split ?_
        simp -implicitDefEqProofs only [S39_2, S39_3, go_sem, Nat.reduceBEq, Nat.reduceAdd, Nat.reduceSub, Nat.reduceMul, Nat.reduceLeDiff, reduceCtorEq, ↓reduceIte, Int.reduceLT, Int.reduceLE, Int.reduceEq, Int.reduceNe]
        refine s_idx rfl (by omega) (by omega) ?_
        simp -implicitDefEqProofs only [go_sem, Nat.reduceBEq, Nat.reduceAdd, Nat.reduceSub, Nat.reduceMul, Nat.reduceLeDiff, reduceCtorEq, ↓reduceIte, Int.reduceLT, Int.reduceLE, Int.reduceEq, Int.reduceNe]
        refine s_ld0 (hA5.bool hq (by simp)) (by simp) (by simp) ?_
        have hal2 : al < rows2.length := by omega
        have hal2' : rows2[al].length = N + 1 := hrow2 _ (List.getElem_mem hal2)
        have hxq := hT5.2 q hq
        generalize xs[q] = o at hxq ⊢
        cases o
        · simp -implicitDefEqProofs only [go_sem, Nat.reduceBEq, Nat.reduceAdd, Nat.reduceSub, Nat.reduceMul, Nat.reduceLeDiff, reduceCtorEq, ↓reduceIte, Int.reduceLT, Int.reduceLE, Int.reduceEq, Int.reduceNe]
          refine s_idxg (b := 0) (o := 0) (by simp) ?_
          simp -implicitDefEqProofs only [go_sem, Nat.reduceBEq, Nat.reduceAdd, Nat.reduceSub, Nat.reduceMul, Nat.reduceLeDiff, reduceCtorEq, ↓reduceIte, Int.reduceLT, Int.reduceLE, Int.reduceEq, Int.reduceNe]
          refine s_ldg0 (cs := [.slice none 0 0]) (by simp) (by simp) (by simp) (by simp) ?_
          simp -implicitDefEqProofs only [go_sem, Nat.reduceBEq, Nat.reduceAdd, Nat.reduceSub, Nat.reduceMul, Nat.reduceLeDiff, reduceCtorEq, ↓reduceIte, Int.reduceLT, Int.reduceLE, Int.reduceEq, Int.reduceNe]
          refine s_idxg (b := 0) (o := 0) (by simp) ?_
          simp -implicitDefEqProofs only [go_sem, Nat.reduceBEq, Nat.reduceAdd, Nat.reduceSub, Nat.reduceMul, Nat.reduceLeDiff, reduceCtorEq, ↓reduceIte, Int.reduceLT, Int.reduceLE, Int.reduceEq, Int.reduceNe]
          refine s_ldg0 (cs := [.bool false]) (by simp) (by simp) (by simp) (by simp) ?_
          simp -implicitDefEqProofs only [go_sem, Nat.reduceBEq, Nat.reduceAdd, Nat.reduceSub, Nat.reduceMul, Nat.reduceLeDiff, reduceCtorEq, ↓reduceIte, Int.reduceLT, Int.reduceLE, Int.reduceEq, Int.reduceNe]
          simp (disch := omega) only [wrap_id]
          refine Up.here ⟨f2 - 1, by omega, Up.here ⟨_, _, rfl, hA5, ag2, q + 1, rows2, rfl, by omega, hrl2, hrow2, hG2, hS2, hle2, hag21, fun h => ?_⟩⟩
          obtain ⟨h1, h2, h3⟩ := hag20 h
          refine ⟨h1, h2, fun m hm hs => ?_⟩
          by_cases e : m = q
          · subst e; have := hxq.2 hs; cases this
          · exact h3 m (by omega) hs
        · rw [hal]
          simp -implicitDefEqProofs only [go_sem, Nat.reduceBEq, Nat.reduceAdd, Nat.reduceSub, Nat.reduceMul, Nat.reduceLeDiff, reduceCtorEq, ↓reduceIte, Int.reduceLT, Int.reduceLE, Int.reduceEq, Int.reduceNe]
          obtain ⟨kb, hcell, hArr, hput⟩ := hG2.at' hal2 (by omega)
          refine s_idx rfl (by omega) (by omega) ?_
          simp -implicitDefEqProofs only [go_sem, Nat.reduceBEq, Nat.reduceAdd, Nat.reduceSub, Nat.reduceMul, Nat.reduceLeDiff, reduceCtorEq, ↓reduceIte, Int.reduceLT, Int.reduceLE, Int.reduceEq, Int.reduceNe]
          refine s_ld0 (hcell _ (by simp)) (by simp) (by simp) ?_
          simp -implicitDefEqProofs only [go_sem, Nat.reduceBEq, Nat.reduceAdd, Nat.reduceSub, Nat.reduceMul, Nat.reduceLeDiff, reduceCtorEq, ↓reduceIte, Int.reduceLT, Int.reduceLE, Int.reduceEq, Int.reduceNe]
          refine s_idx rfl (by omega) (by omega) ?_
          simp -implicitDefEqProofs only [go_sem, Nat.reduceBEq, Nat.reduceAdd, Nat.reduceSub, Nat.reduceMul, Nat.reduceLeDiff, reduceCtorEq, ↓reduceIte, Int.reduceLT, Int.reduceLE, Int.reduceEq, Int.reduceNe]
          have hqr : q < rows2[al].length := by omega
          refine s_ld0 (hArr.bool hqr (by simp)) (by simp) (by simp) ?_
          simp -implicitDefEqProofs only [go_sem, Nat.reduceBEq, Nat.reduceAdd, Nat.reduceSub, Nat.reduceMul, Nat.reduceLeDiff, reduceCtorEq, ↓reduceIte, Int.reduceLT, Int.reduceLE, Int.reduceEq, Int.reduceNe]
          refine ⟨fun hnew => ?_, fun hold => ?_⟩
          · refine s_idx rfl (by omega) (by omega) ?_
            simp -implicitDefEqProofs only [go_sem, Nat.reduceBEq, Nat.reduceAdd, Nat.reduceSub, Nat.reduceMul, Nat.reduceLeDiff, reduceCtorEq, ↓reduceIte, Int.reduceLT, Int.reduceLE, Int.reduceEq, Int.reduceNe]
            refine s_ld0 (hcell _ (by simp)) (by simp) (by simp) ?_
            simp -implicitDefEqProofs only [go_sem, Nat.reduceBEq, Nat.reduceAdd, Nat.reduceSub, Nat.reduceMul, Nat.reduceLeDiff, reduceCtorEq, ↓reduceIte, Int.reduceLT, Int.reduceLE, Int.reduceEq, Int.reduceNe]
            refine s_idx rfl (by omega) (by omega) ?_
            simp -implicitDefEqProofs only [go_sem, Nat.reduceBEq, Nat.reduceAdd, Nat.reduceSub, Nat.reduceMul, Nat.reduceLeDiff, reduceCtorEq, ↓reduceIte, Int.reduceLT, Int.reduceLE, Int.reduceEq, Int.reduceNe]
            refine s_storeA (ix := 1) true rfl hArr hqr ?_
            intro g9 hA9 ho9
            have hG9 := hput g9 _ hA9 (by simp) ho9
            have hcnt := cntL_set hal2 (y := rows2[al].set q true) (count_set hqr hnew)
            have hS9 := sound_set hS2 hal2 (k := q) ⟨g.rs[i], hmem, by rw [hal], sum_sound hS' (fun s hs => (hV s hs).1) (hxq.1 rfl)⟩
            simp -implicitDefEqProofs only [go_sem, Nat.reduceBEq, Nat.reduceAdd, Nat.reduceSub, Nat.reduceMul, Nat.reduceLeDiff, reduceCtorEq, ↓reduceIte, Int.reduceLT, Int.reduceLE, Int.reduceEq, Int.reduceNe]
            simp (disch := omega) only [wrap_id]
            refine Up.here ⟨f2 - 1, by omega, Up.here ⟨_, _, rfl, hA5, true, q + 1, _, rfl, by omega, by simpa using hrl2, fun x hx => ?_, hG9, hS9, by omega, fun _ => by omega, by simp⟩⟩
            rcases List.mem_or_eq_of_mem_set hx with h | h
            · exact hrow2 x h
            · rw [h]; simpa using hal2'
          · simp (disch := omega) only [wrap_id]
            refine Up.here ⟨f2 - 1, by omega, Up.here ⟨_, _, rfl, hA5, ag2, q + 1, rows2, rfl, by omega, hrl2, hrow2, hG2, hS2, hle2, hag21, fun h => ?_⟩⟩
            obtain ⟨h1, h2, h3⟩ := hag20 h
            refine ⟨h1, h2, fun m hm hs => ?_⟩
            by_cases e : m = q
            · subst e
              rw [← h2]
              simp [hal2, hqr, hold]
            · exact h3 m (by omega) hs
      · have hq : q = N + 1 := by omega
        subst hq
        have hvl := V.len
        simp (disch := omega) only [wrap_id]
        refine ⟨f' - 1, by omega, Up.sel [[1]] (by decide) fun _ _ => ⟨_, rfl, ag2, i + 1, rows2, rfl, by omega, hrl2, hrow2, hG2, hS2, hle2, hag21, fun h j hj hji m hm hs => ?_⟩⟩
        obtain ⟨h1, rfl, h3⟩ := hag20 h
        by_cases e : j = i
        · subst e
          rw [hal]
          exact h3 m (by omega) hs
        · exact hag0 h1 j hj (by omega) m hm hs
    · have hi : i = g.rs.length := by omega
      subst hi
      have hcb := hcl rows' hrl' hrow'
      refine ⟨10 * (N + 1) + (if ag' then 1 else 0) - cntL rows', ?_, Up.here ⟨_, rfl, ag', rows', rfl, ?_, hrl', hrow', hG', hS', fun h r hr m hm hs => ?_⟩⟩
      · cases ag'
        · simp at hf ⊢; omega
        · have := hag1 rfl; simp at hf ⊢; omega
      · cases ag' <;> simp <;> omega
      · obtain ⟨j, hj, rfl⟩ := List.getElem_of_mem hr
        exact hag0 h j hj hj m hm hs
  · subst hag
    have hC := hC rfl
    have hst := V.st
    obtain ⟨S, hSt⟩ : ∃ S : Nat, g.st = S := ⟨g.st.toNat, by omega⟩
    rw [hSt]
    have hSk : S < rows.length := by omega
    have hrS : rows[S].length = N + 1 := hrow _ (List.getElem_mem hSk)
    obtain ⟨b5, o5, hA5, A6, c6, hs6, hc6⟩ := (hG.slok (Mem.le.refl _)).list hSk
    refine s_idx hA5 (by omega) (by omega) ?_
    simp -implicitDefEqProofs only [go_sem, Nat.reduceBEq, Nat.reduceAdd, Nat.reduceSub, Nat.reduceMul, Nat.reduceLeDiff, reduceCtorEq, ↓reduceIte, Int.reduceLT, Int.reduceLE, Int.reduceEq, Int.reduceNe]
    refine s_ld0 (hc6 _ (lk_l _ _)) (by simp) (by simp) ?_
    simp -implicitDefEqProofs only [go_sem, Nat.reduceBEq, Nat.reduceAdd, Nat.reduceSub, Nat.reduceMul, Nat.reduceLeDiff, reduceCtorEq, ↓reduceIte, Int.reduceLT, Int.reduceLE, Int.reduceEq, Int.reduceNe]
    refine Up.here ?_
    subst hR
    refine ⟨gg, A6, c6, rows[S], 0, rfl, hs6, rfl, .inr (.inr ⟨h0, rfl, N, rfl, hN, hrS, fun m hm => ?_⟩)⟩
    rw [hSt, ← told_iff hS hC (a := S) (k := m) (by omega)]
    simp [hSk, hm]
end Go.Proofs.Ytniobbepliknmaa.V
