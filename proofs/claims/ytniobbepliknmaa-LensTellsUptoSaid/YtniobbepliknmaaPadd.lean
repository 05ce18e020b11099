/- Items that are added: parlref5.lengthsOf's inner function walked; no condition. -/
import Derived.Test.YtniobbepliknmaaVo
import Derived.Test.YtniobbepliknmaaS173
namespace Go.Proofs.Ytniobbepliknmaa.V
open Go
set_option linter.unusedVariables false
set_option linter.unusedSimpArgs false
attribute [local go_sem] e_seq e_region e_quiet e_join e_loop e_cond e_block e_exit e_ret e_skip e_fin e_kseq e_snrm e_sret e_sex e_bnrm e_bret e_bex e_rnrm e_rret e_res e_condC e_nil e_g e_mv g_mv e_pick g_pick pickC_eq e_ibin g_ibin ibinC_eq e_sbin g_sbin e_beq g_beq beqC_eq e_nilq g_nilq nilqC_sl nilqC_pt nilqC_mp e_un g_un unC_not unC_neg e_conv g_conv convC_eq e_fld g_fld fldC_ref fldC_ptr e_nilCheck g_nilCheck nilCheckC_ref nilCheckC_ptr nilCheckC_fun e_field g_field fieldC_eq e_len g_len lenC_sl lenC_str e_extract g_extract extractC_eq e_mkFunc e_build g_build e_idiv g_idiv idivC_eq e_ishift g_ishift ishiftC_eq e_idx g_idx e_idxA g_idxA e_load g_load loadC_ref loadC_ptr loadB_eq e_slc g_slc e_box boxC_loc boxC_esc e_alloc allocC_loc allocC_esc e_buildS e_store storeC_ref storeC_ptr storeB_eq e_append e_appz e_mk mkC_eq e_call callC_eq e_fn g_fn fnC_eq fnV_min' fnV_max' fnV_rune' e_q g_q e_a e_n g_call g_box g_alloc g_buildS g_store g_append g_mk g_a g_n g_dead e_dead e_callK e_drawn e_tree e_finJ e_tk e_tfin e_tno e_nbt_q e_nbt_qn e_nbt_a e_nbt_an e_nbt_fin e_early_nil e_early_t e_early_f e_nob_nil e_nob_none e_nob_some isBox_dead isBox_v isBox_ref e_dnil e_dk e_ek e_finB vcOps_vc1 e_dcons e_tq e_ekt e_tearly e_talt e_dearly look_nil look_c proj_nil proj_c looks_nil looks_c zip_nil zip_c val_tmp val_const val_func slv_v slv_box slv_ref slot_tmp slot_const slot_func slotL_v slotL_box slotL_ref put_some put_none updBox_c boxSet_box gd_eq slotVals_nil slotVals_c slotVals_b boxV_box boxOn_box slotsOn_nil slotsOn_c slotsOn_b resV_one resV_two vals_nil vals_c allOn_nil allOn_c partOn_nil partOn_c partVals_nil partVals_c fits_nil fits_c fillL_nil fillL_c mkv_one mkv_agg cellsV_agg cellsV_int cellsV_bool cellsV_slice cellsV_string cellsV_pointer cellsV_func cellsV_nilf cellsV_map one'_nil one'_c oc_int oc_bool oc_slice oc_string oc_pointer oc_func oc_nilf oc_map setC_eq iv_add iv_sub iv_mul iv_eql iv_neq iv_lss iv_leq iv_gtr iv_geq iok_add iok_sub iok_mul iok_eql iok_neq iok_lss iok_leq iok_gtr iok_geq pickV_bool args0_nil args0_c bnd_none bnd_some imp_bt imp_bf imp_ebt imp_ebf imp_eb1 imp_np imp_pp beq_tt beq_tf beq_ft beq_ff cond_or cond_and e_round e_meet Int.le_refl Int.toNat_zero decide_true decide_false Bool.or_false Bool.false_or Bool.true_or Bool.or_true Bool.and_false Bool.false_and Bool.bne_false Bool.bne_true beq_iff_eq Int.cast_ofNat_Int not_false_eq_true not_true_eq_false false_and and_false false_implies true_implies true_and and_true Bool.true_and Bool.and_true Bool.not_true Bool.not_false forall_const implies_true List.take_zero List.drop_zero List.take_succ_cons List.drop_succ_cons List.take_nil List.drop_nil List.length_cons List.length_nil List.nil_append List.append_nil List.cons_append Int.toNat_natCast decide_eq_true_eq decide_eq_false_iff_not cond_true cond_false and_self List.getElem?_cons_zero List.getElem?_cons_succ List.set_cons_zero List.set_cons_succ Option.some.injEq exists_eq_left' Nat.zero_add Nat.add_zero Nat.mul_one imp_self true_or or_true or_false false_or Bool.or_eq_true Bool.or_eq_false_iff Bool.and_eq_true Bool.and_eq_false_iff Bool.not_eq_true' Bool.not_eq_false'

theorem KT.comp {P : Program} {k : TypeId} {α γ : Type} {eK : α → Value} {good : α → Prop} (T : KT P k eK good) (f : γ → α) (hf : ∀ a b, f a = f b → a = b) : KT P k (fun x => eK (f x)) (fun x => good (f x)) where
  inj a b h := hf a b (T.inj _ _ h)
  check w em a h := T.check w em _ h
  find w a h es he := T.find w _ h es fun e hm => let ⟨b, q1, q2⟩ := he e hm; ⟨f b, q1, q2⟩
  stays w a h := T.stays w _ h
/-- an item: a rule, a dot, a length -/
structure It where
  r : Int
  d : Int
  n : Int
  deriving DecidableEq
instance : Rep It where
  sz := 3
  ok _ x cs := cs = [.int .i64 x.r, .int .i64 x.d, .int .i64 x.n]
  len h := by subst h; rfl
  one h := by subst h; simp [one', Value.oneCell']
  mono h _ := h
def itK (x : It) : Value := intsV [x.r, x.d, x.n]
def okIt (x : It) : Prop := okInts 3 [x.r, x.d, x.n]
theorem kt_it : KT Try.prog 223 itK okIt :=
  (kt_ints (P := Try.prog) (k := 223) (e := 3) (n := 3) (by kernel_rfl) (of_decide_eq_true (by kernel_rfl)) (of_decide_eq_true (by kernel_rfl)) (by kernel_rfl) (by kernel_rfl) (by kernel_rfl) (by kernel_rfl) (by kernel_rfl) (by kernel_rfl)).comp (fun x : It => [x.r, x.d, x.n]) fun a b h => by
    cases a; cases b; simp at h ⊢; exact h

theorem cells_two {b : Nat} {T : TypeId} {cs : List Value} {g : PH} {Γ : Ctx} : Cells (g :: one b (.cells cs.toArray T) :: Γ) b 0 cs := cells_lk (lk_tail lk_head)
theorem lens_add {Γr : Ctx} (x : It) (hx : okIt x) {pn pm pa pr bm : Nat} {n : Int} {all row : List It} {va0 vr : Value} {hm ca ra0 cr rr : PH} (hn : lk Γr pn (.cells [.int .i64 n].toArray 3 (0, 0))) (hpm : lk Γr pm (.cells [.map (some bm)].toArray 220 (0, 0)))
    (hM : MapM hm bm itK Value.bool okIt (mset id all)) (hca : ca pa = some (.cells [va0].toArray 221 (0, 0))) (hra : Bld ra0 (lk []) 223 va0 all) (hcr : cr pr = some (.cells [vr].toArray 221 (0, 0))) (hrr : Bld rr (lk []) 223 vr row) (hal : all.length ≤ 1000000) (hrl : row.length ≤ 1000000) :
    Ret Try.prog 173 [.agg #[.int .i64 x.r, .int .i64 x.d, .int .i64 x.n], .pointer (some ⟨pn, 0, none⟩), .pointer (some ⟨pm, 0, none⟩), .pointer (some ⟨pa, 0, none⟩), .pointer (some ⟨pr, 0, none⟩)] Γr [hm, ca, ra0, cr, rr]
      (fun v Γ => ∃ hm ca ra cr rr va vr, Γ = [hm, ca, ra, cr, rr] ∧ MapM hm bm itK Value.bool okIt (mset id (if x.n ≤ n ∧ x ∉ all then all ++ [x] else all)) ∧ ca pa = some (.cells [va].toArray 221 (0, 0)) ∧ Bld ra (lk []) 223 va (if x.n ≤ n ∧ x ∉ all then all ++ [x] else all) ∧
        cr pr = some (.cells [vr].toArray 221 (0, 0)) ∧ Bld rr (lk []) 223 vr (if x.n ≤ n ∧ x ∉ all then row ++ [x] else row) ∧
        ∀ v0 xs0, Snap ra0 (lk []) 223 v0 va0 xs0 all → Snap ra (lk []) 223 v0 va xs0 (if x.n ≤ n ∧ x ∉ all then all ++ [x] else all)) := by
  generalize hR : (fun (v : Value) (Γ : Ctx) => ∃ hm ca ra cr rr va vr, _) = R
  refine ret_of_vc tr173 (Nat.le_of_ble_eq_true rfl) ?_
  obtain ⟨A1, c1, rfl⟩ := hra.val
  obtain ⟨A2, c2, rfl⟩ := hrr.val
  simp -implicitDefEqProofs only [S173, S173_0, go_sem, Nat.reduceBEq, Nat.reduceAdd, Nat.reduceSub, Nat.reduceMul, Nat.reduceLeDiff, reduceCtorEq, ↓reduceIte, Int.reduceLT, Int.reduceLE, Int.reduceEq, Int.reduceNe]
  intro b
  refine s_ld0 (cells_lk (lk_r _ _ _ _ hn)) (by simp) (by simp) ?_
  simp -implicitDefEqProofs only [go_sem, Nat.reduceBEq, Nat.reduceAdd, Nat.reduceSub, Nat.reduceMul, Nat.reduceLeDiff, reduceCtorEq, ↓reduceIte, Int.reduceLT, Int.reduceLE, Int.reduceEq, Int.reduceNe]
  by_cases hle : x.n ≤ n
  · have hd : decide (x.n ≤ n) = true := by simpa using hle
    simp only [hd]
    simp -implicitDefEqProofs only [go_sem, Nat.reduceBEq, Nat.reduceAdd, Nat.reduceSub, Nat.reduceMul, Nat.reduceLeDiff, reduceCtorEq, ↓reduceIte, Int.reduceLT, Int.reduceLE, Int.reduceEq, Int.reduceNe]
    refine s_ld0 (cells_lk (lk_r _ _ _ _ hpm)) (by simp) (by simp) ?_
    simp -implicitDefEqProofs only [go_sem, Nat.reduceBEq, Nat.reduceAdd, Nat.reduceSub, Nat.reduceMul, Nat.reduceLeDiff, reduceCtorEq, ↓reduceIte, Int.reduceLT, Int.reduceLE, Int.reduceEq, Int.reduceNe]
    rw [show Value.agg #[Value.int IntKind.i64 x.r, Value.int IntKind.i64 x.d, Value.int IntKind.i64 x.n] = itK x from rfl]
    refine s_q trivial (qr_look kt_it (et := 4) (z := .bool false) (by kernel_rfl) (zero_run (by kernel_rfl)) false (hM.l (by simp)) hx) ?_
    have hget : mget (mset id all) x = if x ∈ all then some true else none := by rw [mget_set]; simp
    rw [hget]
    by_cases hin : x ∈ all
    · rw [if_pos hin]
      simp only [Option.elim_some]
      simp -implicitDefEqProofs only [go_sem, Nat.reduceBEq, Nat.reduceAdd, Nat.reduceSub, Nat.reduceMul, Nat.reduceLeDiff, reduceCtorEq, ↓reduceIte, Int.reduceLT, Int.reduceLE, Int.reduceEq, Int.reduceNe]
      refine Up.here ?_
      subst hR
      rw [if_neg (by simp [hin]), if_neg (by simp [hin])]
      exact ⟨hm, ca, ra0, cr, rr, _, _, rfl, hM, hca, hra, hcr, hrr, fun _ _ h => h⟩
    · rw [if_neg hin]
      simp only [Option.elim_none]
      simp -implicitDefEqProofs only [go_sem, Nat.reduceBEq, Nat.reduceAdd, Nat.reduceSub, Nat.reduceMul, Nat.reduceLeDiff, reduceCtorEq, ↓reduceIte, Int.reduceLT, Int.reduceLE, Int.reduceEq, Int.reduceNe]
      refine s_ld0 (cells_lk (lk_r _ _ _ _ hpm)) (by simp) (by simp) ?_
      simp -implicitDefEqProofs only [go_sem, Nat.reduceBEq, Nat.reduceAdd, Nat.reduceSub, Nat.reduceMul, Nat.reduceLeDiff, reduceCtorEq, ↓reduceIte, Int.reduceLT, Int.reduceLE, Int.reduceEq, Int.reduceNe]
      rw [show Value.agg #[Value.int IntKind.i64 x.r, Value.int IntKind.i64 x.d, Value.int IntKind.i64 x.n] = itK x from rfl]
      refine s_upd kt_it (et := 4) (ix := 0) (eV := Value.bool) (by kernel_rfl) rfl hM true hx ?_
      intro hm' hM' _
      rw [show mput (mset id all) x true = mset id (all ++ [x]) from mput_set id all x (by simpa using hin)] at hM'
      simp -implicitDefEqProofs only [go_sem, Nat.reduceBEq, Nat.reduceAdd, Nat.reduceSub, Nat.reduceMul, Nat.reduceLeDiff, reduceCtorEq, ↓reduceIte, Int.reduceLT, Int.reduceLE, Int.reduceEq, Int.reduceNe]
      refine ⟨[hm', ca, ra0, cr, rr], [], fun ψ Γ' => ψ = [] ∧ ∃ hm ca ra cr rr va vr, Γ' = [hm, ca, ra, cr, rr] ∧ MapM hm bm itK Value.bool okIt (mset id (all ++ [x])) ∧ ca pa = some (.cells [va].toArray 221 (0, 0)) ∧ Bld ra (lk []) 223 va (all ++ [x]) ∧
        cr pr = some (.cells [vr].toArray 221 (0, 0)) ∧ Bld rr (lk []) 223 vr (row ++ [x]) ∧ (∀ v0 xs0, Snap ra0 (lk []) 223 v0 (.slice A1 all.length c1) xs0 all → Snap ra (lk []) 223 v0 va xs0 (all ++ [x])), Ent.refl _, ?_, ?_⟩
      · simp -implicitDefEqProofs only [go_sem, Nat.reduceBEq, Nat.reduceAdd, Nat.reduceSub, Nat.reduceMul, Nat.reduceLeDiff, reduceCtorEq, ↓reduceIte, Int.reduceLT, Int.reduceLE, Int.reduceEq, Int.reduceNe]
        refine s_ld0 (cells_lk ⟨ca, by simp, hca⟩) (by simp) (by simp) ?_
        simp -implicitDefEqProofs only [go_sem, Nat.reduceBEq, Nat.reduceAdd, Nat.reduceSub, Nat.reduceMul, Nat.reduceLeDiff, reduceCtorEq, ↓reduceIte, Int.reduceLT, Int.reduceLE, Int.reduceEq, Int.reduceNe]
        repeat' first
          | with_reducible exact True.intro
          | with_reducible refine And.intro ?_ ?_
          | with_reducible intro bk
          | (refine s_ld0 (cells_lk ⟨cr, by simp, hcr⟩) (by simp) (by simp) ?_)
          | (refine s_app1K (ix := 3) (x := x) rfl hra (Mem.le.refl _) rfl cells_one rfl (by omega) (by unfold maxLen; omega) ?_; intro av ag ah ao ak; obtain ⟨aA, ac, rfl⟩ := ah.val)
          | (refine s_app1K (ix := 3) (x := x) rfl hra (Mem.le.refl _) rfl cells_two rfl (by omega) (by unfold maxLen; omega) ?_; intro av ag ah ao ak; obtain ⟨aA, ac, rfl⟩ := ah.val)
          | (refine s_app1K (ix := 4) (x := x) rfl hra (Mem.le.refl _) rfl cells_one rfl (by omega) (by unfold maxLen; omega) ?_; intro av ag ah ao ak; obtain ⟨aA, ac, rfl⟩ := ah.val)
          | (refine s_app1K (ix := 4) (x := x) rfl hra (Mem.le.refl _) rfl cells_two rfl (by omega) (by unfold maxLen; omega) ?_; intro av ag ah ao ak; obtain ⟨aA, ac, rfl⟩ := ah.val)
          | (refine s_app1 (ix := 6) (x := x) rfl hrr (Mem.le.refl _) rfl cells_one rfl (by omega) (by unfold maxLen; omega) ?_; intro rv rg rh rk; obtain ⟨rA, rc, rfl⟩ := rh.val)
          | (refine s_app1 (ix := 6) (x := x) rfl hrr (Mem.le.refl _) rfl cells_two rfl (by omega) (by unfold maxLen; omega) ?_; intro rv rg rh rk; obtain ⟨rA, rc, rfl⟩ := rh.val)
          | (refine s_storeV (ix := 3) rfl hca rfl rfl ?_)
          | (refine s_storeV (ix := 5) rfl hcr rfl rfl ?_)
          | simp -implicitDefEqProofs only [go_sem, Nat.reduceBEq, Nat.reduceAdd, Nat.reduceSub, Nat.reduceMul, Nat.reduceLeDiff, reduceCtorEq, ↓reduceIte, Int.reduceLT, Int.reduceLE, Int.reduceEq, Int.reduceNe]
        all_goals refine Up.sel [[2], [3], [4], [5], [6]] (by decide) fun _ _ => ⟨_, _, _, _, _, _, _, rfl, hM', ?_, ah, ?_, rh, fun v0 xs0 q => q.app hra ao ah ak⟩
        all_goals exact upd_self _ _ _
      · rintro ψ Γ' ⟨rfl, hm, ca, ra, cr, rr, va, vr, rfl, h1, h2, h3, h4, h5, h6⟩
        simp -implicitDefEqProofs only [go_sem, Nat.reduceBEq, Nat.reduceAdd, Nat.reduceSub, Nat.reduceMul, Nat.reduceLeDiff, reduceCtorEq, ↓reduceIte, Int.reduceLT, Int.reduceLE, Int.reduceEq, Int.reduceNe]
        refine Up.here ?_
        subst hR
        rw [if_pos ⟨hle, hin⟩, if_pos ⟨hle, hin⟩]
        exact ⟨hm, ca, ra, cr, rr, va, vr, rfl, h1, h2, h3, h4, h5, h6⟩
  · have hd : decide (x.n ≤ n) = false := by simpa using hle
    simp only [hd]
    simp -implicitDefEqProofs only [go_sem, Nat.reduceBEq, Nat.reduceAdd, Nat.reduceSub, Nat.reduceMul, Nat.reduceLeDiff, reduceCtorEq, ↓reduceIte, Int.reduceLT, Int.reduceLE, Int.reduceEq, Int.reduceNe]
    refine s_ldg0 (cs := [.map none]) (by simp) (by simp) (by simp) (by simp) ?_
    simp -implicitDefEqProofs only [go_sem, Nat.reduceBEq, Nat.reduceAdd, Nat.reduceSub, Nat.reduceMul, Nat.reduceLeDiff, reduceCtorEq, ↓reduceIte, Int.reduceLT, Int.reduceLE, Int.reduceEq, Int.reduceNe]
    refine ⟨.bool false, by simp, ?_⟩
    simp -implicitDefEqProofs only [go_sem, Nat.reduceBEq, Nat.reduceAdd, Nat.reduceSub, Nat.reduceMul, Nat.reduceLeDiff, reduceCtorEq, ↓reduceIte, Int.reduceLT, Int.reduceLE, Int.reduceEq, Int.reduceNe]
    refine Up.here ?_
    subst hR
    rw [if_neg (by simp [hle]), if_neg (by simp [hle])]
    exact ⟨hm, ca, ra0, cr, rr, _, _, rfl, hM, hca, hra, hcr, hrr, fun _ _ h => h⟩
end Go.Proofs.Ytniobbepliknmaa.V
