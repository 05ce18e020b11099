/- Texts put together, in the order in which they build; each says what it proves; no condition. -/
import Derived.Test.YtniobbepliknmaaM5
import Derived.Test.YtniobbepliknmaaM2
import Derived.Test.YtniobbepliknmaaProg
import Derived.Test.YtniobbepliknmaaM4
/- The tree that is left: shrink.Tree; no condition. -/
namespace Go.Proofs.Ytniobbepliknmaa.V
open Go
set_option linter.unusedVariables false
set_option linter.unusedSimpArgs false
attribute [local go_sem] e_seq e_region e_quiet e_join e_loop e_cond e_block e_exit e_ret e_skip e_fin e_kseq e_snrm e_sret e_sex e_bnrm e_bret e_bex e_rnrm e_rret e_res e_condC e_nil e_g e_mv g_mv e_pick g_pick pickC_eq e_ibin g_ibin ibinC_eq e_sbin g_sbin e_beq g_beq beqC_eq e_nilq g_nilq nilqC_sl nilqC_pt nilqC_mp e_un g_un unC_not unC_neg e_conv g_conv convC_eq e_fld g_fld fldC_ref fldC_ptr e_nilCheck g_nilCheck nilCheckC_ref nilCheckC_ptr nilCheckC_fun e_field g_field fieldC_eq e_len g_len lenC_sl lenC_str e_extract g_extract extractC_eq e_mkFunc e_build g_build e_idiv g_idiv idivC_eq e_ishift g_ishift ishiftC_eq e_idx g_idx e_idxA g_idxA e_load g_load e_loadB g_loadB atB_ref atB_v g_mkFunc loadC_ref loadC_ptr loadB_eq e_slc g_slc e_box boxC_loc boxC_esc e_alloc allocC_loc allocC_esc e_buildS e_store storeC_ref storeC_ptr storeB_eq e_append e_appz e_mk mkC_eq e_call callC_eq e_fn g_fn fnC_eq fnV_min' fnV_max' fnV_rune' e_q g_q e_a e_n g_call g_box g_alloc g_buildS g_store g_append g_mk g_a g_n g_dead e_dead e_callK e_drawn e_tree e_finJ e_tk e_tfin e_tno e_nbt_q e_nbt_qn e_nbt_a e_nbt_an e_nbt_fin e_drawnB e_bxb_nil e_bxb e_stB_none e_stB_some boxSt_store bs_mv bs_pick bs_ibin bs_idiv bs_ishift bs_sbin bs_beq bs_nilq bs_un bs_conv bs_box bs_alloc bs_build bs_buildS bs_load bs_fld bs_nilCheck bs_idx bs_idxA bs_field bs_slc bs_len bs_append bs_appz bs_mk bs_call bs_extract bs_mkFunc bs_fn bs_q bs_a bs_n bs_loadB bs_dead isBox_box e_early_nil e_early_t e_early_f e_nob_nil e_nob_none e_nob_some isBox_dead isBox_v isBox_ref e_dnil e_dk e_ek e_finB vcOps_vc1 e_dcons e_tq e_ekt e_tearly e_talt e_dearly look_nil look_c proj_nil proj_c looks_nil looks_c zip_nil zip_c val_tmp val_const val_func slv_v slv_box slv_ref slot_tmp slot_const slot_func slotL_v slotL_box slotL_ref put_some put_none updBox_c boxSet_box gd_eq slotVals_nil slotVals_c slotVals_b boxV_box boxOn_box slotsOn_nil slotsOn_c slotsOn_b resV_one resV_two vals_nil vals_c allOn_nil allOn_c partOn_nil partOn_c partVals_nil partVals_c fits_nil fits_c fillL_nil fillL_c mkv_one mkv_agg cellsV_agg cellsV_int cellsV_bool cellsV_slice cellsV_string cellsV_pointer cellsV_func cellsV_nilf cellsV_map one'_nil one'_c oc_int oc_bool oc_slice oc_string oc_pointer oc_func oc_nilf oc_map setC_eq iv_add iv_sub iv_mul iv_eql iv_neq iv_lss iv_leq iv_gtr iv_geq iok_add iok_sub iok_mul iok_eql iok_neq iok_lss iok_leq iok_gtr iok_geq pickV_bool args0_nil args0_c bnd_none bnd_some imp_bt imp_bf imp_ebt imp_ebf imp_eb1 imp_np imp_pp beq_tt beq_tf beq_ft beq_ff cond_or cond_and e_round e_meet Int.le_refl Int.toNat_zero decide_true decide_false Bool.or_false Bool.false_or Bool.true_or Bool.or_true Bool.and_false Bool.false_and Bool.bne_false Bool.bne_true beq_iff_eq Int.cast_ofNat_Int not_false_eq_true not_true_eq_false false_and and_false false_implies true_implies true_and and_true Bool.true_and Bool.and_true Bool.not_true Bool.not_false forall_const implies_true List.take_zero List.drop_zero List.take_succ_cons List.drop_succ_cons List.take_nil List.drop_nil List.length_cons List.length_nil List.nil_append List.append_nil List.cons_append Int.toNat_natCast decide_eq_true_eq decide_eq_false_iff_not cond_true cond_false and_self List.getElem?_cons_zero List.getElem?_cons_succ List.set_cons_zero List.set_cons_succ Option.some.injEq exists_eq_left' Nat.zero_add Nat.add_zero Nat.mul_one imp_self true_or or_true or_false false_or Bool.or_eq_true Bool.or_eq_false_iff Bool.and_eq_true Bool.and_eq_false_iff Bool.not_eq_true' Bool.not_eq_false'

/-- the first error, and the tree that is left -/
def stF (g : Gr) (p : Tr → Bool) (x : Tr) : Int := if tcF g x ≠ 0 then tcF g x else if 60 < szT x then 2 else if p x then 0 else 7
def StS (g : Gr) (p : Tr → Bool) (x : Tr) (v : Value) (Γ : Ctx) : Prop :=
  (stF g p x ≠ 0 ∧ Γ = [] ∧ v = .tuple #[.agg #[.int .i64 0, .int .i64 0, .slice none 0 0], .int .i64 (stF g p x)]) ∨
  (stF g p x = 0 ∧ ∃ gg A c, Γ = [gg] ∧ SlOk (lk [gg]) A c (leastF g p x).kids ∧ v = .tuple #[.agg #[.int .i64 (leastF g p x).rule, .int .i64 (leastF g p x).term, .slice A (leastF g p x).kids.length c], .int .i64 0])
theorem shrink_tree {Γr : Ctx} {g : Gr} {p : Tr → Bool} {B : Option Addr} {d : Nat} {fv : Value} (hg : SlOk (lk Γr) B d g.rs) (hp : PredT Γr fv p) (x : Tr) {A : Option Addr} {c : Nat} (hx : SlOk (lk Γr) A c x.kids) (hn : numT x ≤ 1048576) :
    Ret Try.prog 68 [.agg #[.int .i64 g.ts, .int .i64 g.ns, .int .i64 g.st, .slice B g.rs.length d], .agg #[.int .i64 x.rule, .int .i64 x.term, .slice A x.kids.length c], fv] Γr [] (StS g p x) := by
  generalize hR : StS g p x = R
  refine ret_of_vc tr68 (Nat.le_of_ble_eq_true rfl) ?_
  obtain ⟨f, k1, k2, rfl, hp⟩ := hp
  simp -implicitDefEqProofs only [S68, S68_0, go_sem, Nat.reduceBEq, Nat.reduceAdd, Nat.reduceSub, Nat.reduceMul, Nat.reduceLeDiff, reduceCtorEq, ↓reduceIte, Int.reduceLT, Int.reduceLE, Int.reduceEq, Int.reduceNe]
  intro b1 b2 b3
  refine CallVC.read (tree_check hg x hx hn) ?_
  rintro v Γ' ⟨rfl, rfl⟩
  simp -implicitDefEqProofs only [go_sem, Nat.reduceBEq, Nat.reduceAdd, Nat.reduceSub, Nat.reduceMul, Nat.reduceLeDiff, reduceCtorEq, ↓reduceIte, Int.reduceLT, Int.reduceLE, Int.reduceEq, Int.reduceNe]
  refine ⟨fun h => Up.here ?_, fun h => ?_⟩
  · subst hR
    have e : stF g p x = tcF g x := by rw [stF, if_pos h]
    exact .inl ⟨by rw [e]; exact h, rfl, by rw [e]⟩
  refine CallVC.read (tree_size x hx hn) ?_
  rintro v Γ' ⟨rfl, rfl⟩
  simp -implicitDefEqProofs only [go_sem, Nat.reduceBEq, Nat.reduceAdd, Nat.reduceSub, Nat.reduceMul, Nat.reduceLeDiff, reduceCtorEq, ↓reduceIte, Int.reduceLT, Int.reduceLE, Int.reduceEq, Int.reduceNe]
  refine ⟨fun h2 => Up.here ?_, fun h2 => ?_⟩
  · subst hR
    have e : stF g p x = 2 := by rw [stF, if_neg (by simpa using h), if_pos (by omega)]
    exact .inl ⟨by rw [e]; decide, rfl, by rw [e]⟩
  have hv : validT g x = true := by
    unfold tcF at h
    split at h
    · omega
    · split at h
      · cases h
      · split at h
        · assumption
        · cases h
  have hck : ckF g = 0 := by
    unfold tcF at h
    split at h
    · rename_i q; exact absurd h q
    · rename_i q; simpa using q
  refine CallVC.read (tree_clone x hx hn) ?_
  rintro v Γ1 hO
  obtain ⟨A1, c1, rfl, hs1⟩ := hO.ok hn
  clear hO
  simp -implicitDefEqProofs only [go_sem, Nat.reduceBEq, Nat.reduceAdd, Nat.reduceSub, Nat.reduceMul, Nat.reduceLeDiff, reduceCtorEq, ↓reduceIte, Int.reduceLT, Int.reduceLE, Int.reduceEq, Int.reduceNe]
  refine CallVC.read (hp _ _ _ x (lk_r _ _) (hs1.mono (lk_sub fun y hy => by simp [hy])) hn) ?_
  rintro v Γ' ⟨rfl, rfl⟩
  simp -implicitDefEqProofs only [go_sem, Nat.reduceBEq, Nat.reduceAdd, Nat.reduceSub, Nat.reduceMul, Nat.reduceLeDiff, reduceCtorEq, ↓reduceIte, Int.reduceLT, Int.reduceLE, Int.reduceEq, Int.reduceNe]
  refine ⟨fun h3 => Up.to [] (Ent.nil _) ?_, fun h3 => ?_⟩
  · subst hR
    have e : stF g p x = 7 := by rw [stF, if_neg (by simpa using h), if_neg (by omega), if_neg (by simp [h3])]
    exact .inl ⟨by rw [e]; decide, rfl, by rw [e]⟩
  have hst : stF g p x = 0 := by rw [stF, if_neg (by simpa using h), if_neg (by omega), if_pos h3]
  clear hs1
  refine CallVC.read (tree_clone x (hx.mono (lk_r _ _)) hn) ?_
  rintro v Γ2 hO
  obtain ⟨A2, c2, rfl, hs2⟩ := hO.ok hn
  clear hO
  simp -implicitDefEqProofs only [go_sem, Nat.reduceBEq, Nat.reduceAdd, Nat.reduceSub, Nat.reduceMul, Nat.reduceLeDiff, reduceCtorEq, ↓reduceIte, Int.reduceLT, Int.reduceLE, Int.reduceEq, Int.reduceNe]
  refine s_loop (fun f vs Γ => ∃ gg y A c again, Γ = [gg] ∧ vs = [.box b2 106 [.int .i64 (Tr.rule y), .int .i64 (Tr.term y), .slice A (Tr.kids y).length c], .v true (.bool again)] ∧ f = 2 * numT y + (if again then 1 else 0) ∧ SlOk (lk [gg]) A c y.kids ∧ validT g y = true ∧ szT y ≤ 60 ∧ leastF g p y = leastF g p x ∧ (again = false → y = leastF g p x)) (2 * numT x + 1)
    (Up.one fun gg hgg => ⟨gg, x, A2, c2, true, rfl, rfl, rfl, hs2.mono ((lk_sub fun y hy => by simp [hy]).trans hgg), hv, by omega, rfl, fun q => by cases q⟩) ?_
  clear hs2
  rintro f vs Γ ⟨gg, y, A3, c3, again, rfl, rfl, hf, hs3, hyv, hys, hyl, hya⟩
  simp -implicitDefEqProofs only [S68_2, go_sem, Nat.reduceBEq, Nat.reduceAdd, Nat.reduceSub, Nat.reduceMul, Nat.reduceLeDiff, reduceCtorEq, ↓reduceIte, Int.reduceLT, Int.reduceLE, Int.reduceEq, Int.reduceNe]
  cases again with
  | false =>
    simp -implicitDefEqProofs only [go_sem, Nat.reduceBEq, Nat.reduceAdd, Nat.reduceSub, Nat.reduceMul, Nat.reduceLeDiff, reduceCtorEq, ↓reduceIte, Int.reduceLT, Int.reduceLE, Int.reduceEq, Int.reduceNe]
    refine Up.here ?_
    subst hR
    obtain rfl := hya rfl
    exact .inr ⟨hst, gg, A3, c3, rfl, hs3, rfl⟩
  | true =>
    simp -implicitDefEqProofs only [go_sem, Nat.reduceBEq, Nat.reduceAdd, Nat.reduceSub, Nat.reduceMul, Nat.reduceLeDiff, reduceCtorEq, ↓reduceIte, Int.reduceLT, Int.reduceLE, Int.reduceEq, Int.reduceNe]
    have hyn := num_valid y hyv
    refine CallVC.read (shrink_smaller (hg.mono (lk_r _ _)) y (hs3.mono (lk_sub fun y hy => by simp at hy; simp [hy])) (by omega)) ?_
    rintro v Γ4 ⟨go, gl, rfl, hB⟩
    have hsl := smT_len (g := g) y
    have hmul : numT y * numT y ≤ 60 * 60 := Nat.mul_le_mul (by omega) (by omega)
    have hfit : ∀ w ∈ smT g y, validT g w = true ∧ szT w ≤ 60 ∧ numT w < numT y := fun w hw => sm_fit hyv hys hw
    have hlf := leastF_eq g p y
    generalize smT g y = ws at *
    obtain ⟨A4, c4, rfl, hs4⟩ := hB.slok (L' := lk [go, gl]) (lk_sub (by simp)) (lk_sub (by simp)) (by omega)
    simp -implicitDefEqProofs only [go_sem, Nat.reduceBEq, Nat.reduceAdd, Nat.reduceSub, Nat.reduceMul, Nat.reduceLeDiff, reduceCtorEq, ↓reduceIte, Int.reduceLT, Int.reduceLE, Int.reduceEq, Int.reduceNe]
    refine s_loop (fun f vs Γ => ∃ gg gl, Γ = [gg, gl] ∧ SlOk (lk [gg]) A3 c3 y.kids ∧ SlOk (lk [gl]) A4 c4 ws ∧ ∃ k : Nat, vs = [.box b2 106 [.int .i64 y.rule, .int .i64 y.term, .slice A3 y.kids.length c3], .v true (.bool false), .v true (.int .i64 k)] ∧ k + f = ws.length ∧ ∀ z ∈ ws.take k, p z = false) ws.length
      (Up.sel [[2], [0, 1]] (by decide) fun _ hle => ⟨_, _, rfl, hs3, hs4.mono (hle [0, 1] (by simp)), 0, rfl, by omega, by simp⟩) ?_
    clear hs3 hs4 hB
    rintro f3 vs Γ ⟨gg, gl, rfl, hs3, hs4, k, rfl, hkf, hall⟩
    simp -implicitDefEqProofs only [S68_1, go_sem, Nat.reduceBEq, Nat.reduceAdd, Nat.reduceSub, Nat.reduceMul, Nat.reduceLeDiff, reduceCtorEq, ↓reduceIte, Int.reduceLT, Int.reduceLE, Int.reduceEq, Int.reduceNe]
    refine ⟨fun hlt => ?_, fun hge => ?_⟩
    · have hk : k < ws.length := by omega
      have hm := List.getElem_mem hk
      obtain ⟨hf1, hf2, hf3⟩ := hfit _ hm
      have htk : ws.take (k + 1) = ws.take k ++ [ws[k]] := List.take_succ_eq_append_getElem hk
      have hfind := fun h => find_take hk hall h
      obtain ⟨b5, o5, hA5, A6, c6, hs6, hc6⟩ := hs4.tr hk
      generalize ws[k] = w at *
      refine s_idx hA5 (by omega) (by omega) ?_
      simp -implicitDefEqProofs only [go_sem, Nat.reduceBEq, Nat.reduceAdd, Nat.reduceSub, Nat.reduceMul, Nat.reduceLeDiff, reduceCtorEq, ↓reduceIte, Int.reduceLT, Int.reduceLE, Int.reduceEq, Int.reduceNe]
      refine s_ld0 (hc6 _ (lk_sub (by simp))) (by simp) (by simp) ?_
      simp -implicitDefEqProofs only [go_sem, Nat.reduceBEq, Nat.reduceAdd, Nat.reduceSub, Nat.reduceMul, Nat.reduceLeDiff, reduceCtorEq, ↓reduceIte, Int.reduceLT, Int.reduceLE, Int.reduceEq, Int.reduceNe]
      intro b6
      refine CallVC.read (tree_clone w (hs6.mono (lk_sub fun y hy => by simp at hy; simp [hy])) (by omega)) ?_
      rintro v Γ5 hO
      obtain ⟨A7, c7, rfl, hs7⟩ := hO.ok (by omega)
      obtain ⟨gr, gk, _, rfl, _, _⟩ := hO
      simp -implicitDefEqProofs only [go_sem, Nat.reduceBEq, Nat.reduceAdd, Nat.reduceSub, Nat.reduceMul, Nat.reduceLeDiff, reduceCtorEq, ↓reduceIte, Int.reduceLT, Int.reduceLE, Int.reduceEq, Int.reduceNe]
      refine CallVC.read (hp _ _ _ w (lk_r _ _) (hs7.mono (lk_sub fun y hy => by simp at hy; rcases hy with h | h <;> simp [h])) (by omega)) ?_
      rintro v Γ' ⟨rfl, rfl⟩
      simp -implicitDefEqProofs only [go_sem, Nat.reduceBEq, Nat.reduceAdd, Nat.reduceSub, Nat.reduceMul, Nat.reduceLeDiff, reduceCtorEq, ↓reduceIte, Int.reduceLT, Int.reduceLE, Int.reduceEq, Int.reduceNe]
      refine ⟨fun ht => ?_, fun hff => ?_⟩
      · exact ⟨2 * numT w + 1, by rw [hf]; simp only [if_true]; omega, Up.sel [[3]] (by decide) fun _ _ => ⟨_, w, A6, c6, true, rfl, rfl, rfl, hs6, hf1, hf2, by rw [← hyl, hlf, hfind ht], fun q => by cases q⟩⟩
      · simp (disch := omega) only [wrap_id]
        exact ⟨f3 - 1, by omega, Up.sel [[2], [3]] (by decide) fun _ _ => ⟨_, _, rfl, hs3, hs4, k + 1, rfl, by omega, fun z hz => by
          rw [htk] at hz
          rcases List.mem_append.1 hz with hz | hz
          · exact hall z hz
          · simp at hz; subst hz; exact hff⟩⟩
    · have hk : k = ws.length := by omega
      rw [hk, List.take_length] at hall
      have hfn : ws.find? p = none := List.find?_eq_none.2 fun y hy => by simp [hall y hy]
      exact ⟨2 * numT y, by rw [hf]; simp only [if_true]; omega, Up.sel [[0]] (by decide) fun _ _ => ⟨_, y, A3, c3, false, rfl, rfl, rfl, hs3, hyv, hys, hyl, fun _ => by rw [← hyl, hlf, hfn]⟩⟩
end Go.Proofs.Ytniobbepliknmaa.V
/- The text of slices.EqualFunc[[]parlance/api.Tree,[]parlance/api.Tree,parlance/api.Tree,parlance/api.Tree] as a statement (slots: 0 s1, 1 s2, 2 eq, 3 s1, 4 s2, 5 eq, 7 i, 8 v1, 9 v2); no condition. -/
namespace Go.Proofs.Ytniobbepliknmaa.V
open Go
def S70_1 : Stmt :=
  Stmt.seq
  (Stmt.region [SOper.mk (some 18) none (SOp.ibin BinOp.lss (Operand.tmp 17) (Operand.tmp 16))] [1, 2, 15, 16, 17, 18])
  (Stmt.seq (Stmt.cond (Operand.tmp 18) Stmt.skip (Stmt.exit 0))
    (Stmt.seq
      (Stmt.block 1
        (Stmt.seq
          (Stmt.region
            [SOper.mk (some 19) none (SOp.mv (Operand.tmp 17)),
              SOper.mk (some 20) none (SOp.idx 3 (Operand.tmp 15) (Operand.tmp 17)),
              SOper.mk (some 21) none (SOp.load true 3 (Operand.tmp 20)),
              SOper.mk (some 8) none
                (SOp.alloc true 106
                  (Value.agg (Array.mk [Value.int IntKind.i64 0, Value.int IntKind.i64 0, Value.slice none 0 0]))),
              SOper.mk (some 7) none (SOp.mv (Operand.tmp 19)),
              SOper.mk none none (SOp.store 3 (Operand.tmp 8) (Operand.tmp 21))]
            [1, 2, 7, 8, 15, 16, 17])
          (Stmt.seq
            (Stmt.region
              [SOper.mk (some 22) none (SOp.mv (Operand.tmp 1)), SOper.mk (some 23) none (SOp.mv (Operand.tmp 7)),
                SOper.mk (some 24) none (SOp.idx 3 (Operand.tmp 22) (Operand.tmp 23)),
                SOper.mk (some 25) none (SOp.load true 3 (Operand.tmp 24)),
                SOper.mk (some 9) none
                  (SOp.alloc true 106
                    (Value.agg (Array.mk [Value.int IntKind.i64 0, Value.int IntKind.i64 0, Value.slice none 0 0]))),
                SOper.mk none none (SOp.store 3 (Operand.tmp 9) (Operand.tmp 25))]
              [1, 2, 8, 9, 15, 16, 17])
            (Stmt.seq
              (Stmt.region
                [SOper.mk (some 26) none (SOp.mv (Operand.tmp 2)),
                  SOper.mk (some 27) none (SOp.load true 3 (Operand.tmp 8)),
                  SOper.mk (some 28) none (SOp.load true 3 (Operand.tmp 9)),
                  SOper.mk (some 29) none (SOp.call (Operand.tmp 26) [Operand.tmp 27, Operand.tmp 28]),
                  SOper.mk (some 30) none (SOp.un UnOp.not (Operand.tmp 29))]
                [1, 2, 15, 16, 17, 30])
              (Stmt.cond (Operand.tmp 30)
                (Stmt.seq (Stmt.region [SOper.mk (some 6) none (SOp.mv (Operand.const (Value.bool false)))] [6])
                  Stmt.ret)
                Stmt.skip)))))
      (Stmt.region
        [SOper.mk (some 31) none (SOp.ibin BinOp.add (Operand.tmp 17) (Operand.const (Value.int IntKind.i64 1))),
          SOper.mk (some 17) none (SOp.mv (Operand.tmp 31))]
        [1, 2, 15, 16, 17])))
def S70_0 : Stmt :=
  Stmt.seq (Stmt.region [SOper.mk (some 6) none (SOp.mv (Operand.const (Value.bool false)))] [0, 1, 2])
  (Stmt.seq
    (Stmt.seq
      (Stmt.region
        [SOper.mk (some 10) none (SOp.mv (Operand.tmp 0)), SOper.mk (some 11) none (SOp.len false (Operand.tmp 10)),
          SOper.mk (some 12) none (SOp.mv (Operand.tmp 1)), SOper.mk (some 13) none (SOp.len false (Operand.tmp 12)),
          SOper.mk (some 14) none (SOp.ibin BinOp.neq (Operand.tmp 11) (Operand.tmp 13))]
        [0, 1, 2, 14])
      (Stmt.cond (Operand.tmp 14)
        (Stmt.seq (Stmt.region [SOper.mk (some 6) none (SOp.mv (Operand.const (Value.bool false)))] [6]) Stmt.ret)
        Stmt.skip))
    (Stmt.seq
      (Stmt.seq
        (Stmt.region
          [SOper.mk (some 15) none (SOp.mv (Operand.tmp 0)), SOper.mk (some 16) none (SOp.len false (Operand.tmp 15)),
            SOper.mk (some 17) none (SOp.mv (Operand.const (Value.int IntKind.i64 0)))]
          [1, 2, 15, 16, 17])
        (Stmt.block 0 (Stmt.loop S70_1 [17] [1, 2, 15, 16])))
      (Stmt.seq (Stmt.region [SOper.mk (some 6) none (SOp.mv (Operand.const (Value.bool true)))] [6]) Stmt.ret)))
def S70 : FnS := ⟨32, [(6, none)], S70_0⟩
theorem tr70 : trFn Try.prog 70 [8, 9] [[0, 1, 2], [0, 1, 2, 14], [6], [1, 2, 15, 16, 17], [17], [1, 2, 15, 16], [1, 2, 15, 16, 17, 18], [1, 2, 7, 8, 15, 16, 17], [1, 2, 8, 9, 15, 16, 17], [1, 2, 15, 16, 17, 30], [6], [1, 2, 15, 16, 17], [6]] = some S70 := by kernel_rfl
end Go.Proofs.Ytniobbepliknmaa.V
/- The text of parlance/parllaw5.same as a statement (slots: 0 a, 1 b, 2 a, 3 b); no condition. -/
namespace Go.Proofs.Ytniobbepliknmaa.V
open Go
def S72_0 : Stmt :=
  Stmt.seq
  (Stmt.region
    [SOper.mk (some 2) none (SOp.box true 106 (Operand.tmp 0)),
      SOper.mk (some 3) none (SOp.box true 106 (Operand.tmp 1)),
      SOper.mk (some 4) none (SOp.mv (Operand.const (Value.bool false)))]
    [2, 3])
  (Stmt.seq
    (Stmt.region
      [SOper.mk (some 5) none (SOp.fld 0 (Operand.tmp 2)), SOper.mk (some 6) none (SOp.load false 1 (Operand.tmp 5)),
        SOper.mk (some 7) none (SOp.fld 0 (Operand.tmp 3)), SOper.mk (some 8) none (SOp.load false 1 (Operand.tmp 7)),
        SOper.mk (some 9) none (SOp.ibin BinOp.eql (Operand.tmp 6) (Operand.tmp 8)),
        SOper.mk (some 10) none (SOp.mv (Operand.tmp 9)),
        SOper.mk (some 11) (some (10, true)) (SOp.fld 1 (Operand.tmp 2)),
        SOper.mk (some 12) (some (10, true)) (SOp.load false 1 (Operand.tmp 11)),
        SOper.mk (some 13) (some (10, true)) (SOp.fld 1 (Operand.tmp 3)),
        SOper.mk (some 14) (some (10, true)) (SOp.load false 1 (Operand.tmp 13)),
        SOper.mk (some 15) (some (10, true)) (SOp.ibin BinOp.eql (Operand.tmp 12) (Operand.tmp 14)),
        SOper.mk (some 16) none (SOp.pick (Operand.tmp 10) (Operand.tmp 15) (Operand.const (Value.bool false))),
        SOper.mk (some 17) none (SOp.mv (Operand.tmp 16)),
        SOper.mk (some 18) (some (17, true)) (SOp.fld 2 (Operand.tmp 2)),
        SOper.mk (some 19) (some (17, true)) (SOp.load false 1 (Operand.tmp 18)),
        SOper.mk (some 20) (some (17, true)) (SOp.fld 2 (Operand.tmp 3)),
        SOper.mk (some 21) (some (17, true)) (SOp.load false 1 (Operand.tmp 20)),
        SOper.mk (some 22) (some (17, true))
          (SOp.call (Operand.func 70) [Operand.tmp 19, Operand.tmp 21, Operand.func 72]),
        SOper.mk (some 23) none (SOp.pick (Operand.tmp 17) (Operand.tmp 22) (Operand.const (Value.bool false))),
        SOper.mk (some 4) none (SOp.mv (Operand.tmp 23))]
      [4])
    Stmt.ret)
def S72 : FnS := ⟨24, [(4, none)], S72_0⟩
theorem tr72 : trFn Try.prog 72 [2, 3] [[2, 3], [4]] = some S72 := by kernel_rfl
end Go.Proofs.Ytniobbepliknmaa.V
/- Trees are the same: parllaw5.same; no condition. -/
namespace Go.Proofs.Ytniobbepliknmaa.V
open Go
set_option linter.unusedVariables false
set_option linter.unusedSimpArgs false
attribute [local go_sem] e_seq e_region e_quiet e_join e_loop e_cond e_block e_exit e_ret e_skip e_fin e_kseq e_snrm e_sret e_sex e_bnrm e_bret e_bex e_rnrm e_rret e_res e_condC e_nil e_g e_mv g_mv e_pick g_pick pickC_eq e_ibin g_ibin ibinC_eq e_sbin g_sbin e_beq g_beq beqC_eq e_nilq g_nilq nilqC_sl nilqC_pt nilqC_mp e_un g_un unC_not unC_neg e_conv g_conv convC_eq e_fld g_fld fldC_ref fldC_ptr e_nilCheck g_nilCheck nilCheckC_ref nilCheckC_ptr nilCheckC_fun e_field g_field fieldC_eq e_len g_len lenC_sl lenC_str e_extract g_extract extractC_eq e_mkFunc e_build g_build e_idiv g_idiv idivC_eq e_ishift g_ishift ishiftC_eq e_idx g_idx e_idxA g_idxA e_load g_load e_loadB g_loadB atB_ref atB_v g_mkFunc loadC_ref loadC_ptr loadB_eq e_slc g_slc e_box boxC_loc boxC_esc e_alloc allocC_loc allocC_esc e_buildS e_store storeC_ref storeC_ptr storeB_eq e_append e_appz e_mk mkC_eq e_call callC_eq e_fn g_fn fnC_eq fnV_min' fnV_max' fnV_rune' e_q g_q e_a e_n g_call g_box g_alloc g_buildS g_store g_append g_mk g_a g_n g_dead e_dead e_callK e_drawn e_tree e_finJ e_tk e_tfin e_tno e_nbt_q e_nbt_qn e_nbt_a e_nbt_an e_nbt_fin e_drawnB e_bxb_nil e_bxb e_stB_none e_stB_some boxSt_store bs_mv bs_pick bs_ibin bs_idiv bs_ishift bs_sbin bs_beq bs_nilq bs_un bs_conv bs_box bs_alloc bs_build bs_buildS bs_load bs_fld bs_nilCheck bs_idx bs_idxA bs_field bs_slc bs_len bs_append bs_appz bs_mk bs_call bs_extract bs_mkFunc bs_fn bs_q bs_a bs_n bs_loadB bs_dead isBox_box e_early_nil e_early_t e_early_f e_nob_nil e_nob_none e_nob_some isBox_dead isBox_v isBox_ref e_dnil e_dk e_ek e_finB vcOps_vc1 e_dcons e_tq e_ekt e_tearly e_talt e_dearly look_nil look_c proj_nil proj_c looks_nil looks_c zip_nil zip_c val_tmp val_const val_func slv_v slv_box slv_ref slot_tmp slot_const slot_func slotL_v slotL_box slotL_ref put_some put_none updBox_c boxSet_box gd_eq slotVals_nil slotVals_c slotVals_b boxV_box boxOn_box slotsOn_nil slotsOn_c slotsOn_b resV_one resV_two vals_nil vals_c allOn_nil allOn_c partOn_nil partOn_c partVals_nil partVals_c fits_nil fits_c fillL_nil fillL_c mkv_one mkv_agg cellsV_agg cellsV_int cellsV_bool cellsV_slice cellsV_string cellsV_pointer cellsV_func cellsV_nilf cellsV_map one'_nil one'_c oc_int oc_bool oc_slice oc_string oc_pointer oc_func oc_nilf oc_map setC_eq iv_add iv_sub iv_mul iv_eql iv_neq iv_lss iv_leq iv_gtr iv_geq iok_add iok_sub iok_mul iok_eql iok_neq iok_lss iok_leq iok_gtr iok_geq pickV_bool args0_nil args0_c bnd_none bnd_some imp_bt imp_bf imp_ebt imp_ebf imp_eb1 imp_np imp_pp beq_tt beq_tf beq_ft beq_ff cond_or cond_and e_round e_meet Int.le_refl Int.toNat_zero decide_true decide_false Bool.or_false Bool.false_or Bool.true_or Bool.or_true Bool.and_false Bool.false_and Bool.bne_false Bool.bne_true beq_iff_eq Int.cast_ofNat_Int not_false_eq_true not_true_eq_false false_and and_false false_implies true_implies true_and and_true Bool.true_and Bool.and_true Bool.not_true Bool.not_false forall_const implies_true List.take_zero List.drop_zero List.take_succ_cons List.drop_succ_cons List.take_nil List.drop_nil List.length_cons List.length_nil List.nil_append List.append_nil List.cons_append Int.toNat_natCast decide_eq_true_eq decide_eq_false_iff_not cond_true cond_false and_self List.getElem?_cons_zero List.getElem?_cons_succ List.set_cons_zero List.set_cons_succ Option.some.injEq exists_eq_left' Nat.zero_add Nat.add_zero Nat.mul_one imp_self true_or or_true or_false false_or Bool.or_eq_true Bool.or_eq_false_iff Bool.and_eq_true Bool.and_eq_false_iff Bool.not_eq_true' Bool.not_eq_false'

theorem tr_eq {x y : Tr} : x = y ↔ x.rule = y.rule ∧ x.term = y.term ∧ x.kids = y.kids := by
  constructor
  · rintro rfl; exact ⟨rfl, rfl, rfl⟩
  · rintro ⟨h1, h2, h3⟩; exact Tr.ext h1 h2 h3
def SameOk (Γr : Ctx) (x : Tr) : Prop := ∀ (z : Tr) (A B : Option Addr) (c d : Nat), SlOk (lk Γr) A c x.kids → SlOk (lk Γr) B d z.kids →
  Ret Try.prog 72 [.agg #[.int .i64 x.rule, .int .i64 x.term, .slice A x.kids.length c], .agg #[.int .i64 z.rule, .int .i64 z.term, .slice B z.kids.length d]] Γr [] (fun v Γ => Γ = [] ∧ v = .bool (decide (x = z)))
theorem equalFunc_tr {Γr : Ctx} {A B : Option Addr} {c d : Nat} {xs ys : List Tr} (hx : SlOk (lk Γr) A c xs) (hy : SlOk (lk Γr) B d ys) (hs : ∀ x ∈ xs, SameOk Γr x) :
    Ret Try.prog 70 [.slice A xs.length c, .slice B ys.length d, .func (.func 72) #[] #[]] Γr [] (fun v Γ => Γ = [] ∧ v = .bool (decide (xs = ys))) := by
  generalize hR : (fun v Γ => Γ = [] ∧ v = _) = R
  refine ret_of_vc tr70 (Nat.le_of_ble_eq_true rfl) ?_
  have h1 := hx.short
  have h2 := hy.short
  simp -implicitDefEqProofs only [S70, S70_0, go_sem, Nat.reduceBEq, Nat.reduceAdd, Nat.reduceSub, Nat.reduceMul, Nat.reduceLeDiff, reduceCtorEq, ↓reduceIte, Int.reduceLT, Int.reduceLE, Int.reduceEq, Int.reduceNe]
  refine ⟨fun hne => Up.here ?_, fun heq => ?_⟩
  · subst hR
    refine ⟨rfl, ?_⟩
    have : xs ≠ ys := fun e => by subst e; exact hne rfl
    simp [this]
  have hl : xs.length = ys.length := by omega
  refine s_loop (fun f vs Γ => Γ = [] ∧ ∃ k : Nat, vs = [.v true (.int .i64 k)] ∧ k + f = xs.length ∧ xs.take k = ys.take k) xs.length (Up.here ⟨rfl, 0, rfl, by omega, by simp⟩) ?_
  rintro f vs Γ ⟨rfl, k, rfl, hkf, htk⟩
  simp -implicitDefEqProofs only [S70_1, go_sem, Nat.reduceBEq, Nat.reduceAdd, Nat.reduceSub, Nat.reduceMul, Nat.reduceLeDiff, reduceCtorEq, ↓reduceIte, Int.reduceLT, Int.reduceLE, Int.reduceEq, Int.reduceNe]
  refine ⟨fun hlt => ?_, fun hge => ?_⟩
  · have hk : k < xs.length := by omega
    have hk' : k < ys.length := by omega
    obtain ⟨b, o, hA, A1, c1, hs1, hc1⟩ := hx.tr hk
    obtain ⟨b', o', hB, A2, c2, hs2, hc2⟩ := hy.tr hk'
    refine s_idx hA (by omega) (by omega) ?_
    simp -implicitDefEqProofs only [go_sem, Nat.reduceBEq, Nat.reduceAdd, Nat.reduceSub, Nat.reduceMul, Nat.reduceLeDiff, reduceCtorEq, ↓reduceIte, Int.reduceLT, Int.reduceLE, Int.reduceEq, Int.reduceNe]
    refine s_ld0 (hc1 _ (Mem.le.refl _)) (by simp) (by simp) ?_
    simp -implicitDefEqProofs only [go_sem, Nat.reduceBEq, Nat.reduceAdd, Nat.reduceSub, Nat.reduceMul, Nat.reduceLeDiff, reduceCtorEq, ↓reduceIte, Int.reduceLT, Int.reduceLE, Int.reduceEq, Int.reduceNe]
    intro b3
    refine s_idx hB (by omega) (by omega) ?_
    simp -implicitDefEqProofs only [go_sem, Nat.reduceBEq, Nat.reduceAdd, Nat.reduceSub, Nat.reduceMul, Nat.reduceLeDiff, reduceCtorEq, ↓reduceIte, Int.reduceLT, Int.reduceLE, Int.reduceEq, Int.reduceNe]
    refine s_ld0 (hc2 _ (Mem.le.refl _)) (by simp) (by simp) ?_
    simp -implicitDefEqProofs only [go_sem, Nat.reduceBEq, Nat.reduceAdd, Nat.reduceSub, Nat.reduceMul, Nat.reduceLeDiff, reduceCtorEq, ↓reduceIte, Int.reduceLT, Int.reduceLE, Int.reduceEq, Int.reduceNe]
    intro b4
    refine CallVC.read (hs _ (List.getElem_mem hk) ys[k] _ _ _ _ hs1 hs2) ?_
    rintro v Γ' ⟨rfl, rfl⟩
    simp -implicitDefEqProofs only [go_sem, Nat.reduceBEq, Nat.reduceAdd, Nat.reduceSub, Nat.reduceMul, Nat.reduceLeDiff, reduceCtorEq, ↓reduceIte, Int.reduceLT, Int.reduceLE, Int.reduceEq, Int.reduceNe]
    refine ⟨fun hne => Up.here ?_, fun heq => ?_⟩
    · subst hR
      refine ⟨rfl, ?_⟩
      have : xs ≠ ys := fun e => by subst e; simp at hne
      simp [this]
    · simp (disch := omega) only [wrap_id]
      exact ⟨f - 1, by omega, Up.here ⟨rfl, k + 1, rfl, by omega, take_eq_succ hk hk' htk (by simpa using heq)⟩⟩
  · have hk : k = xs.length := by omega
    refine Up.here ?_
    subst hR
    refine ⟨rfl, ?_⟩
    have : xs = ys := by
      have := htk
      rw [hk, List.take_length] at this
      rw [this, hl, List.take_length]
    simp [this]
theorem law_same {Γr : Ctx} (x : Tr) : SameOk Γr x := by
  refine Tr.ind (p := fun x => SameOk Γr x) (fun x ih => ?_) x
  intro z A B c d hx hz
  generalize hR : (fun v Γ => Γ = [] ∧ v = _) = R
  refine ret_of_vc tr72 (Nat.le_of_ble_eq_true rfl) ?_
  simp -implicitDefEqProofs only [S72, S72_0, go_sem, Nat.reduceBEq, Nat.reduceAdd, Nat.reduceSub, Nat.reduceMul, Nat.reduceLeDiff, reduceCtorEq, ↓reduceIte, Int.reduceLT, Int.reduceLE, Int.reduceEq, Int.reduceNe]
  intro b1 b2
  by_cases e : x.rule = z.rule ∧ x.term = z.term
  · refine ⟨fun _ => ⟨e, ?_⟩, fun h => by simp [e] at h⟩
    have e1 : decide (x.rule = z.rule) = true := decide_eq_true e.1
    have e2 : decide (x.term = z.term) = true := decide_eq_true e.2
    simp -implicitDefEqProofs only [e1, e2, go_sem, Nat.reduceBEq, Nat.reduceAdd, Nat.reduceSub, Nat.reduceMul, Nat.reduceLeDiff, reduceCtorEq, ↓reduceIte, Int.reduceLT, Int.reduceLE, Int.reduceEq, Int.reduceNe]
    refine CallVC.read (equalFunc_tr hx hz ih) ?_
    rintro v Γ' ⟨rfl, rfl⟩
    simp -implicitDefEqProofs only [go_sem, Nat.reduceBEq, Nat.reduceAdd, Nat.reduceSub, Nat.reduceMul, Nat.reduceLeDiff, reduceCtorEq, ↓reduceIte, Int.reduceLT, Int.reduceLE, Int.reduceEq, Int.reduceNe]
    refine Up.here ?_
    subst hR
    refine ⟨rfl, ?_⟩
    by_cases e3 : x.kids = z.kids <;> simp [tr_eq, e, e3, pickV]
  · refine ⟨fun h => absurd h e, fun _ => ⟨.bool false, fun h => e h, Up.here ?_⟩⟩
    subst hR
    refine ⟨rfl, ?_⟩
    have e1 : ¬ x = z := fun h => e ⟨by rw [h], by rw [h]⟩
    have e2 : (decide (x.rule = z.rule) && decide (x.term = z.term)) = false := by
      rw [← Bool.not_eq_true]
      simpa using e
    simp [e1, e2, pickV]
end Go.Proofs.Ytniobbepliknmaa.V
/- The text of slices.Equal[[]bool,bool] as a statement (slots: 0 s1, 1 s2, 2 s1, 3 s2, 5 i); no condition. -/
namespace Go.Proofs.Ytniobbepliknmaa.V
open Go
def S41_1 : Stmt :=
  Stmt.seq
  (Stmt.region [SOper.mk (some 14) none (SOp.ibin BinOp.lss (Operand.tmp 13) (Operand.tmp 12))] [0, 1, 12, 13, 14])
  (Stmt.seq (Stmt.cond (Operand.tmp 14) Stmt.skip (Stmt.exit 0))
    (Stmt.seq
      (Stmt.block 1
        (Stmt.seq
          (Stmt.region
            [SOper.mk (some 15) none (SOp.mv (Operand.tmp 13)), SOper.mk (some 5) none (SOp.mv (Operand.tmp 15))]
            [0, 1, 5, 12, 13])
          (Stmt.seq
            (Stmt.quiet
              [SOper.mk (some 16) none (SOp.mv (Operand.tmp 0)), SOper.mk (some 17) none (SOp.mv (Operand.tmp 5)),
                SOper.mk (some 18) none (SOp.idx 1 (Operand.tmp 16) (Operand.tmp 17)),
                SOper.mk (some 19) none (SOp.load false 1 (Operand.tmp 18)),
                SOper.mk (some 20) none (SOp.mv (Operand.tmp 1)), SOper.mk (some 21) none (SOp.mv (Operand.tmp 5)),
                SOper.mk (some 22) none (SOp.idx 1 (Operand.tmp 20) (Operand.tmp 21)),
                SOper.mk (some 23) none (SOp.load false 1 (Operand.tmp 22)),
                SOper.mk (some 24) none (SOp.beq true (Operand.tmp 19) (Operand.tmp 23))]
              [0, 1, 12, 13, 24])
            (Stmt.cond (Operand.tmp 24)
              (Stmt.seq (Stmt.region [SOper.mk (some 4) none (SOp.mv (Operand.const (Value.bool false)))] [4]) Stmt.ret)
              Stmt.skip))))
      (Stmt.region
        [SOper.mk (some 25) none (SOp.ibin BinOp.add (Operand.tmp 13) (Operand.const (Value.int IntKind.i64 1))),
          SOper.mk (some 13) none (SOp.mv (Operand.tmp 25))]
        [0, 1, 12, 13])))
def S41_0 : Stmt :=
  Stmt.seq (Stmt.region [SOper.mk (some 4) none (SOp.mv (Operand.const (Value.bool false)))] [0, 1])
  (Stmt.seq
    (Stmt.seq
      (Stmt.region
        [SOper.mk (some 6) none (SOp.mv (Operand.tmp 0)), SOper.mk (some 7) none (SOp.len false (Operand.tmp 6)),
          SOper.mk (some 8) none (SOp.mv (Operand.tmp 1)), SOper.mk (some 9) none (SOp.len false (Operand.tmp 8)),
          SOper.mk (some 10) none (SOp.ibin BinOp.neq (Operand.tmp 7) (Operand.tmp 9))]
        [0, 1, 10])
      (Stmt.cond (Operand.tmp 10)
        (Stmt.seq (Stmt.region [SOper.mk (some 4) none (SOp.mv (Operand.const (Value.bool false)))] [4]) Stmt.ret)
        Stmt.skip))
    (Stmt.seq
      (Stmt.seq
        (Stmt.region
          [SOper.mk (some 11) none (SOp.mv (Operand.tmp 0)), SOper.mk (some 12) none (SOp.len false (Operand.tmp 11)),
            SOper.mk (some 13) none (SOp.mv (Operand.const (Value.int IntKind.i64 0)))]
          [0, 1, 12, 13])
        (Stmt.block 0 (Stmt.loop S41_1 [13] [0, 1, 12])))
      (Stmt.seq (Stmt.region [SOper.mk (some 4) none (SOp.mv (Operand.const (Value.bool true)))] [4]) Stmt.ret)))
def S41 : FnS := ⟨26, [(4, none)], S41_0⟩
theorem tr41 : trFn Try.prog 41 [] [[0, 1], [0, 1, 10], [4], [0, 1, 12, 13], [13], [0, 1, 12], [0, 1, 12, 13, 14], [0, 1, 5, 12, 13], [0, 1, 12, 13, 24], [4], [0, 1, 12, 13], [4]] = some S41 := by kernel_rfl
end Go.Proofs.Ytniobbepliknmaa.V
/- The text of parlance/parllaw5.plain as a statement (slots: ); no condition. -/
namespace Go.Proofs.Ytniobbepliknmaa.V
open Go
def S40_0 : Stmt :=
  Stmt.seq
  (Stmt.region
    [SOper.mk (some 0) none
        (SOp.alloc true 57
          (Value.agg
            (Array.mk
              [Value.int IntKind.i64 0, Value.int IntKind.i64 0, Value.int IntKind.i64 0, Value.slice none 0 0])))]
    [0])
  (Stmt.seq
    (Stmt.region
      [SOper.mk (some 1) none
          (SOp.build 39 [Value.bool false, Value.int IntKind.i64 0] [(0, 1, Operand.const (Value.bool true))]),
        SOper.mk (some 2) none (SOp.buildS 39 1 [Value.bool false, Value.int IntKind.i64 0] [(0, 2, Operand.tmp 1)]),
        SOper.mk (some 3) none (SOp.build 37 [Value.int IntKind.i64 0, Value.slice none 0 0] [(1, 1, Operand.tmp 2)]),
        SOper.mk (some 4) none
          (SOp.build 39 [Value.bool false, Value.int IntKind.i64 0]
            [(0, 1, Operand.const (Value.bool true)), (1, 1, Operand.const (Value.int IntKind.i64 1))]),
        SOper.mk (some 5) none (SOp.build 39 [Value.bool false, Value.int IntKind.i64 0] []),
        SOper.mk (some 6) none
          (SOp.buildS 39 2 [Value.bool false, Value.int IntKind.i64 0, Value.bool false, Value.int IntKind.i64 0]
            [(0, 2, Operand.tmp 4), (2, 2, Operand.tmp 5)]),
        SOper.mk (some 7) none (SOp.build 37 [Value.int IntKind.i64 0, Value.slice none 0 0] [(1, 1, Operand.tmp 6)]),
        SOper.mk (some 8) none
          (SOp.buildS 37 2
            [Value.int IntKind.i64 0, Value.slice none 0 0, Value.int IntKind.i64 0, Value.slice none 0 0]
            [(0, 2, Operand.tmp 3), (2, 2, Operand.tmp 7)]),
        SOper.mk (some 9) none
          (SOp.build 57
            [Value.int IntKind.i64 0, Value.int IntKind.i64 0, Value.int IntKind.i64 0, Value.slice none 0 0]
            [(0, 1, Operand.const (Value.int IntKind.i64 2)), (1, 1, Operand.const (Value.int IntKind.i64 1)),
              (3, 1, Operand.tmp 8)]),
        SOper.mk none none (SOp.store 4 (Operand.tmp 0) (Operand.tmp 9))]
      [0])
    Stmt.ret)
def S40 : FnS := ⟨10, [(0, some (true, 4))], S40_0⟩
theorem tr40 : trFn Try.prog 40 [0] [[0], [0]] = some S40 := by kernel_rfl
end Go.Proofs.Ytniobbepliknmaa.V
/- parllaw5.plain and slices.Equal of bools walked; no condition. -/
namespace Go.Proofs.Ytniobbepliknmaa.V
open Go
set_option linter.unusedVariables false
set_option linter.unusedSimpArgs false
attribute [local go_sem] e_seq e_region e_quiet e_join e_loop e_cond e_block e_exit e_ret e_skip e_fin e_kseq e_snrm e_sret e_sex e_bnrm e_bret e_bex e_rnrm e_rret e_res e_condC e_nil e_g e_mv g_mv e_pick g_pick pickC_eq e_ibin g_ibin ibinC_eq e_sbin g_sbin e_beq g_beq beqC_eq e_nilq g_nilq nilqC_sl nilqC_pt nilqC_mp e_un g_un unC_not unC_neg e_conv g_conv convC_eq e_fld g_fld fldC_ref fldC_ptr e_nilCheck g_nilCheck nilCheckC_ref nilCheckC_ptr nilCheckC_fun e_field g_field fieldC_eq e_len g_len lenC_sl lenC_str e_extract g_extract extractC_eq e_mkFunc e_build g_build e_idiv g_idiv idivC_eq e_ishift g_ishift ishiftC_eq e_idx g_idx e_idxA g_idxA e_load g_load loadC_ref loadC_ptr loadB_eq e_slc g_slc e_box boxC_loc boxC_esc e_alloc allocC_loc allocC_esc e_buildS e_store storeC_ref storeC_ptr storeB_eq e_append e_appz e_mk mkC_eq e_call callC_eq e_fn g_fn fnC_eq fnV_min' fnV_max' fnV_rune' e_q g_q e_a e_n g_call g_box g_alloc g_buildS g_store g_append g_mk g_a g_n g_dead e_dead e_callK e_drawn e_tree e_finJ e_tk e_tfin e_tno e_nbt_q e_nbt_qn e_nbt_a e_nbt_an e_nbt_fin e_early_nil e_early_t e_early_f e_nob_nil e_nob_none e_nob_some isBox_dead isBox_v isBox_ref e_dnil e_dk e_ek e_finB vcOps_vc1 e_dcons e_tq e_ekt e_tearly e_talt e_dearly look_nil look_c proj_nil proj_c looks_nil looks_c zip_nil zip_c val_tmp val_const val_func slv_v slv_box slv_ref slot_tmp slot_const slot_func slotL_v slotL_box slotL_ref put_some put_none updBox_c boxSet_box gd_eq slotVals_nil slotVals_c slotVals_b boxV_box boxOn_box slotsOn_nil slotsOn_c slotsOn_b resV_one resV_two vals_nil vals_c allOn_nil allOn_c partOn_nil partOn_c partVals_nil partVals_c fits_nil fits_c fillL_nil fillL_c mkv_one mkv_agg cellsV_agg cellsV_int cellsV_bool cellsV_slice cellsV_string cellsV_pointer cellsV_func cellsV_nilf cellsV_map one'_nil one'_c oc_int oc_bool oc_slice oc_string oc_pointer oc_func oc_nilf oc_map setC_eq iv_add iv_sub iv_mul iv_eql iv_neq iv_lss iv_leq iv_gtr iv_geq iok_add iok_sub iok_mul iok_eql iok_neq iok_lss iok_leq iok_gtr iok_geq pickV_bool args0_nil args0_c bnd_none bnd_some imp_bt imp_bf imp_ebt imp_ebf imp_eb1 imp_np imp_pp beq_tt beq_tf beq_ft beq_ff cond_or cond_and e_round e_meet Int.le_refl Int.toNat_zero decide_true decide_false Bool.or_false Bool.false_or Bool.true_or Bool.or_true Bool.and_false Bool.false_and Bool.bne_false Bool.bne_true beq_iff_eq Int.cast_ofNat_Int not_false_eq_true not_true_eq_false false_and and_false false_implies true_implies true_and and_true Bool.true_and Bool.and_true Bool.not_true Bool.not_false forall_const implies_true List.take_zero List.drop_zero List.take_succ_cons List.drop_succ_cons List.take_nil List.drop_nil List.length_cons List.length_nil List.nil_append List.append_nil List.cons_append Int.toNat_natCast decide_eq_true_eq decide_eq_false_iff_not cond_true cond_false and_self List.getElem?_cons_zero List.getElem?_cons_succ List.set_cons_zero List.set_cons_succ Option.some.injEq exists_eq_left' Nat.zero_add Nat.add_zero Nat.mul_one imp_self true_or or_true or_false false_or Bool.or_eq_true Bool.or_eq_false_iff Bool.and_eq_true Bool.and_eq_false_iff Bool.not_eq_true' Bool.not_eq_false'

theorem equal_bools {Γr : Ctx} {A B : Option Addr} {c d : Nat} {xs ys : List Bool} (hx : SlOk (lk Γr) A c xs) (hy : SlOk (lk Γr) B d ys) :
    Ret Try.prog 41 [.slice A xs.length c, .slice B ys.length d] Γr [] (fun v Γ => Γ = [] ∧ v = .bool (decide (xs = ys))) := by
  generalize hR : (fun v Γ => Γ = [] ∧ v = _) = R
  refine ret_of_vc tr41 (Nat.le_of_ble_eq_true rfl) ?_
  have h1 := hx.short
  have h2 := hy.short
  simp -implicitDefEqProofs only [S41, S41_0, go_sem, Nat.reduceBEq, Nat.reduceAdd, Nat.reduceSub, Nat.reduceMul, Nat.reduceLeDiff, reduceCtorEq, ↓reduceIte, Int.reduceLT, Int.reduceLE, Int.reduceEq, Int.reduceNe]
  refine ⟨fun hne => Up.here ?_, fun heq => ?_⟩
  · subst hR
    refine ⟨rfl, ?_⟩
    have : xs ≠ ys := fun e => by subst e; exact hne rfl
    simp [this]
  have hl : xs.length = ys.length := by omega
  refine s_loop (fun f vs Γ => Γ = [] ∧ ∃ k : Nat, vs = [.v true (.int .i64 k)] ∧ k + f = xs.length ∧ xs.take k = ys.take k) xs.length (Up.here ⟨rfl, 0, rfl, by omega, by simp⟩) ?_
  rintro f vs Γ ⟨rfl, k, rfl, hkf, htk⟩
  simp -implicitDefEqProofs only [S41_1, go_sem, Nat.reduceBEq, Nat.reduceAdd, Nat.reduceSub, Nat.reduceMul, Nat.reduceLeDiff, reduceCtorEq, ↓reduceIte, Int.reduceLT, Int.reduceLE, Int.reduceEq, Int.reduceNe]
  refine ⟨fun hlt => ?_, fun hge => ?_⟩
  · have hk : k < xs.length := by omega
    have hk' : k < ys.length := by omega
    obtain ⟨b, o, hA, hc1⟩ := hx.bool hk
    obtain ⟨b', o', hB, hc2⟩ := hy.bool hk'
    refine s_idx hA (by omega) (by omega) ?_
    simp -implicitDefEqProofs only [go_sem, Nat.reduceBEq, Nat.reduceAdd, Nat.reduceSub, Nat.reduceMul, Nat.reduceLeDiff, reduceCtorEq, ↓reduceIte, Int.reduceLT, Int.reduceLE, Int.reduceEq, Int.reduceNe]
    refine s_ld0 (hc1 _ (Mem.le.refl _)) (by simp) (by simp) ?_
    simp -implicitDefEqProofs only [go_sem, Nat.reduceBEq, Nat.reduceAdd, Nat.reduceSub, Nat.reduceMul, Nat.reduceLeDiff, reduceCtorEq, ↓reduceIte, Int.reduceLT, Int.reduceLE, Int.reduceEq, Int.reduceNe]
    refine s_idx hB (by omega) (by omega) ?_
    simp -implicitDefEqProofs only [go_sem, Nat.reduceBEq, Nat.reduceAdd, Nat.reduceSub, Nat.reduceMul, Nat.reduceLeDiff, reduceCtorEq, ↓reduceIte, Int.reduceLT, Int.reduceLE, Int.reduceEq, Int.reduceNe]
    refine s_ld0 (hc2 _ (Mem.le.refl _)) (by simp) (by simp) ?_
    simp -implicitDefEqProofs only [go_sem, Nat.reduceBEq, Nat.reduceAdd, Nat.reduceSub, Nat.reduceMul, Nat.reduceLeDiff, reduceCtorEq, ↓reduceIte, Int.reduceLT, Int.reduceLE, Int.reduceEq, Int.reduceNe]
    refine ⟨fun hne => Up.here ?_, fun heq => ?_⟩
    · subst hR
      refine ⟨rfl, ?_⟩
      have : xs ≠ ys := fun e => by subst e; simp at hne
      simp [this]
    · simp (disch := omega) only [wrap_id]
      exact ⟨f - 1, by omega, Up.here ⟨rfl, k + 1, rfl, by omega, take_eq_succ hk hk' htk heq⟩⟩
  · have hk : k = xs.length := by omega
    refine Up.here ?_
    subst hR
    refine ⟨rfl, ?_⟩
    have : xs = ys := by
      rw [hk, List.take_length, hl, List.take_length] at htk
      exact htk
    simp [this]
def plainG : Gr := ⟨2, 1, 0, [⟨0, [⟨true, 0⟩]⟩, ⟨0, [⟨true, 1⟩, ⟨false, 0⟩]⟩]⟩
theorem plain_ {Γr : Ctx} : Ret Try.prog 40 [] Γr [] (fun v Γ => ∃ g A c, Γ = [g] ∧ SlOk (lk [g]) A c plainG.rs ∧ v = .agg #[.int .i64 2, .int .i64 1, .int .i64 0, .slice A 2 c]) := by
  generalize hR : (fun (v : Value) (Γ : Ctx) => ∃ g A c, _) = R
  refine ret_of_vc tr40 (Nat.le_of_ble_eq_true rfl) ?_
  simp -implicitDefEqProofs only [S40, S40_0, go_sem, Nat.reduceBEq, Nat.reduceAdd, Nat.reduceSub, Nat.reduceMul, Nat.reduceLeDiff, reduceCtorEq, ↓reduceIte, Int.reduceLT, Int.reduceLE, Int.reduceEq, Int.reduceNe]
  intro b b1 b2
  refine Up.one fun g hg => ?_
  subst hR
  refine ⟨g, _, 2, rfl, ?_, rfl⟩
  refine lit_rep2 (cs := [.int .i64 0, .slice (some ⟨b, 0, none⟩) 1 1]) (ds := [.int .i64 0, .slice (some ⟨b1, 0, none⟩) 2 2]) _ _ (hg _ _ lk_head) rfl ⟨_, _, rfl, ?_⟩ ⟨_, _, rfl, ?_⟩
  · exact lit_rep1 (cs := [.bool true, .int .i64 0]) (⟨true, 0⟩ : Sy) (hg _ _ (lk_tail (lk_tail lk_head))) rfl
  · exact lit_rep2 (cs := [.bool true, .int .i64 1]) (ds := [.bool false, .int .i64 0]) (⟨true, 1⟩ : Sy) (⟨false, 0⟩ : Sy) (hg _ _ (lk_tail lk_head)) rfl rfl rfl
end Go.Proofs.Ytniobbepliknmaa.V
/- The text of parlance/parllaw5.ShrinkTrees as a statement (slots: 0 g, 1 t, 2 a, 3 g, 4 t, 5 a, 7 l, 8 fails, 9 x, 10 e, 11 l, 12 f); no condition. -/
namespace Go.Proofs.Ytniobbepliknmaa.V
open Go
def S13_1 : Stmt :=
  Stmt.seq
  (Stmt.region
    [SOper.mk (some 38) none (SOp.mv (Operand.tmp 12)),
      SOper.mk (some 39) none (SOp.ibin BinOp.eql (Operand.tmp 38) (Operand.const (Value.int IntKind.i64 0))),
      SOper.mk (some 40) none (SOp.mv (Operand.tmp 39)),
      SOper.mk (some 41) (some (40, true)) (SOp.load true 3 (Operand.tmp 4)),
      SOper.mk (some 42) (some (40, true)) (SOp.call (Operand.func 67) [Operand.tmp 41]),
      SOper.mk (some 43) (some (40, true))
        (SOp.ibin BinOp.gtr (Operand.tmp 42) (Operand.const (Value.int IntKind.i64 60))),
      SOper.mk (some 44) none (SOp.pick (Operand.tmp 40) (Operand.tmp 43) (Operand.const (Value.bool false)))]
    [3, 4, 8, 9, 10, 11, 12, 44])
  (Stmt.cond (Operand.tmp 44)
    (Stmt.region [SOper.mk (some 12) none (SOp.mv (Operand.const (Value.int IntKind.i64 2)))] [3, 4, 8, 9, 10, 11, 12])
    Stmt.skip)
def S13_2 : Stmt :=
  Stmt.seq
  (Stmt.seq
    (Stmt.region
      [SOper.mk (some 45) none (SOp.mv (Operand.tmp 12)),
        SOper.mk (some 46) none (SOp.ibin BinOp.neq (Operand.tmp 45) (Operand.const (Value.int IntKind.i64 0)))]
      [3, 4, 8, 9, 10, 11, 12, 46])
    (Stmt.cond (Operand.tmp 46)
      (Stmt.seq
        (Stmt.region
          [SOper.mk (some 47) none (SOp.mv (Operand.tmp 10)), SOper.mk (some 48) none (SOp.mv (Operand.tmp 12)),
            SOper.mk (some 49) none (SOp.ibin BinOp.eql (Operand.tmp 47) (Operand.tmp 48)),
            SOper.mk (some 50) none (SOp.mv (Operand.tmp 49)),
            SOper.mk (some 51) (some (50, true)) (SOp.mv (Operand.tmp 11)),
            SOper.mk (some 52) (some (50, true)) (SOp.len false (Operand.tmp 51)),
            SOper.mk (some 53) (some (50, true))
              (SOp.ibin BinOp.eql (Operand.tmp 52) (Operand.const (Value.int IntKind.i64 0))),
            SOper.mk (some 54) none (SOp.pick (Operand.tmp 50) (Operand.tmp 53) (Operand.const (Value.bool false))),
            SOper.mk (some 6) none (SOp.mv (Operand.tmp 54))]
          [6])
        Stmt.ret)
      Stmt.skip))
  (Stmt.seq
    (Stmt.seq
      (Stmt.region
        [SOper.mk (some 55) none (SOp.mv (Operand.tmp 11)), SOper.mk (some 56) none (SOp.load true 4 (Operand.tmp 3)),
          SOper.mk (some 57) none (SOp.load true 3 (Operand.tmp 4)),
          SOper.mk (some 58) none (SOp.call (Operand.func 71) [Operand.tmp 56, Operand.tmp 57]),
          SOper.mk (some 59) none (SOp.call (Operand.func 70) [Operand.tmp 55, Operand.tmp 58, Operand.func 72]),
          SOper.mk (some 60) none (SOp.un UnOp.not (Operand.tmp 59))]
        [3, 4, 8, 9, 10, 60])
      (Stmt.cond (Operand.tmp 60)
        (Stmt.seq (Stmt.region [SOper.mk (some 6) none (SOp.mv (Operand.const (Value.bool false)))] [6]) Stmt.ret)
        Stmt.skip))
    (Stmt.seq
      (Stmt.seq
        (Stmt.region
          [SOper.mk (some 61) none (SOp.mv (Operand.tmp 8)), SOper.mk (some 62) none (SOp.load true 3 (Operand.tmp 4)),
            SOper.mk (some 63) none (SOp.call (Operand.tmp 61) [Operand.tmp 62]),
            SOper.mk (some 64) none (SOp.un UnOp.not (Operand.tmp 63))]
          [3, 4, 8, 9, 10, 64])
        (Stmt.cond (Operand.tmp 64)
          (Stmt.seq
            (Stmt.region
              [SOper.mk (some 65) none (SOp.mv (Operand.tmp 10)),
                SOper.mk (some 66) none (SOp.ibin BinOp.eql (Operand.tmp 65) (Operand.const (Value.int IntKind.i64 7))),
                SOper.mk (some 6) none (SOp.mv (Operand.tmp 66))]
              [6])
            Stmt.ret)
          Stmt.skip))
      (Stmt.seq
        (Stmt.drawn
          [(false, SOper.mk (some 67) none (SOp.mv (Operand.tmp 10))),
            (false,
              SOper.mk (some 68) none (SOp.ibin BinOp.eql (Operand.tmp 67) (Operand.const (Value.int IntKind.i64 0)))),
            (false, SOper.mk (some 69) none (SOp.mv (Operand.tmp 68))),
            (true, SOper.mk (some 70) (some (69, true)) (SOp.load true 3 (Operand.tmp 9))),
            (false, SOper.mk (some 71) (some (69, true)) (SOp.load true 4 (Operand.tmp 3))),
            (false, SOper.mk (some 72) (some (69, true)) (SOp.load true 3 (Operand.tmp 4))),
            (false, SOper.mk (some 73) (some (69, true)) (SOp.mv (Operand.tmp 8))),
            (false,
              SOper.mk (some 74) (some (69, true))
                (SOp.call (Operand.func 73) [Operand.tmp 71, Operand.tmp 72, Operand.tmp 73])),
            (false, SOper.mk (some 75) (some (69, true)) (SOp.call (Operand.func 72) [Operand.tmp 70, Operand.tmp 74])),
            (false,
              SOper.mk (some 76) none (SOp.pick (Operand.tmp 69) (Operand.tmp 75) (Operand.const (Value.bool false)))),
            (false, SOper.mk (some 6) none (SOp.mv (Operand.tmp 76)))]
          [6])
        Stmt.ret)))
def S13_0 : Stmt :=
  Stmt.seq
  (Stmt.region
    [SOper.mk (some 3) none (SOp.box true 57 (Operand.tmp 0)),
      SOper.mk (some 4) none (SOp.box true 106 (Operand.tmp 1)),
      SOper.mk (some 5) none (SOp.box false 3 (Operand.tmp 2)),
      SOper.mk (some 6) none (SOp.mv (Operand.const (Value.bool false)))]
    [3, 4, 5])
  (Stmt.seq
    (Stmt.seq
      (Stmt.region
        [SOper.mk (some 13) none (SOp.call (Operand.func 40) []),
          SOper.mk (some 14) none
            (SOp.build 106 [Value.int IntKind.i64 0, Value.int IntKind.i64 0, Value.slice none 0 0]
              [(0, 1, Operand.const (Value.int IntKind.i64 (-1))), (1, 1, Operand.const (Value.int IntKind.i64 1))]),
          SOper.mk (some 15) none
            (SOp.build 106 [Value.int IntKind.i64 0, Value.int IntKind.i64 0, Value.slice none 0 0]
              [(0, 1, Operand.const (Value.int IntKind.i64 (-1)))]),
          SOper.mk (some 16) none
            (SOp.buildS 106 1 [Value.int IntKind.i64 0, Value.int IntKind.i64 0, Value.slice none 0 0]
              [(0, 3, Operand.tmp 15)]),
          SOper.mk (some 17) none
            (SOp.build 106 [Value.int IntKind.i64 0, Value.int IntKind.i64 0, Value.slice none 0 0]
              [(2, 1, Operand.tmp 16)]),
          SOper.mk (some 18) none
            (SOp.buildS 106 2
              [Value.int IntKind.i64 0, Value.int IntKind.i64 0, Value.slice none 0 0, Value.int IntKind.i64 0,
                Value.int IntKind.i64 0, Value.slice none 0 0]
              [(0, 3, Operand.tmp 14), (3, 3, Operand.tmp 17)]),
          SOper.mk (some 19) none
            (SOp.build 106 [Value.int IntKind.i64 0, Value.int IntKind.i64 0, Value.slice none 0 0]
              [(0, 1, Operand.const (Value.int IntKind.i64 1)), (2, 1, Operand.tmp 18)]),
          SOper.mk (some 20) none (SOp.call (Operand.func 65) [Operand.tmp 13, Operand.tmp 19]),
          SOper.mk (some 7) none (SOp.mv (Operand.tmp 20))]
        [3, 4, 5, 7])
      (Stmt.seq
        (Stmt.region
          [SOper.mk (some 21) none (SOp.mv (Operand.tmp 7)), SOper.mk (some 22) none (SOp.len false (Operand.tmp 21)),
            SOper.mk (some 23) none (SOp.ibin BinOp.neq (Operand.tmp 22) (Operand.const (Value.int IntKind.i64 1)))]
          [3, 4, 5, 23])
        (Stmt.cond (Operand.tmp 23)
          (Stmt.seq (Stmt.region [SOper.mk (some 6) none (SOp.mv (Operand.const (Value.bool false)))] [6]) Stmt.ret)
          Stmt.skip)))
    (Stmt.seq
      (Stmt.region
        [SOper.mk (some 24) none (SOp.mkFunc 66 [Operand.tmp 5]), SOper.mk (some 8) none (SOp.mv (Operand.tmp 24))]
        [3, 4, 8])
      (Stmt.seq
        (Stmt.region
          [SOper.mk (some 26) none (SOp.load true 4 (Operand.tmp 3)),
            SOper.mk (some 27) none (SOp.load true 3 (Operand.tmp 4)), SOper.mk (some 28) none (SOp.mv (Operand.tmp 8)),
            SOper.mk (some 29) none (SOp.call (Operand.func 68) [Operand.tmp 26, Operand.tmp 27, Operand.tmp 28]),
            SOper.mk (some 25) none (SOp.mv (Operand.tmp 29)), SOper.mk (some 30) none (SOp.extract 0 (Operand.tmp 25)),
            SOper.mk (some 31) none (SOp.extract 1 (Operand.tmp 25)),
            SOper.mk (some 9) none
              (SOp.alloc true 106
                (Value.agg (Array.mk [Value.int IntKind.i64 0, Value.int IntKind.i64 0, Value.slice none 0 0]))),
            SOper.mk none none (SOp.store 3 (Operand.tmp 9) (Operand.tmp 30)),
            SOper.mk (some 10) none (SOp.mv (Operand.tmp 31))]
          [3, 4, 8, 9, 10])
        (Stmt.seq
          (Stmt.region
            [SOper.mk (some 32) none (SOp.load true 4 (Operand.tmp 3)),
              SOper.mk (some 33) none (SOp.load true 3 (Operand.tmp 4)),
              SOper.mk (some 34) none (SOp.call (Operand.func 65) [Operand.tmp 32, Operand.tmp 33]),
              SOper.mk (some 11) none (SOp.mv (Operand.tmp 34))]
            [3, 4, 8, 9, 10, 11])
          (Stmt.seq
            (Stmt.region
              [SOper.mk (some 35) none (SOp.load true 4 (Operand.tmp 3)),
                SOper.mk (some 36) none (SOp.load true 3 (Operand.tmp 4)),
                SOper.mk (some 37) none (SOp.call (Operand.func 69) [Operand.tmp 35, Operand.tmp 36]),
                SOper.mk (some 12) none (SOp.mv (Operand.tmp 37))]
              [3, 4, 8, 9, 10, 11, 12])
            (Stmt.join S13_1 S13_2 [12] [3, 4, 8, 9, 10, 11]))))))
def S13 : FnS := ⟨77, [(6, none)], S13_0⟩
theorem tr13 : trFn Try.prog 13 [3, 4, 9] [[3, 4, 5], [3, 4, 5, 7], [3, 4, 5, 23], [6], [3, 4, 8], [3, 4, 8, 9, 10], [3, 4, 8, 9, 10, 11], [3, 4, 8, 9, 10, 11, 12], [12], [3, 4, 8, 9, 10, 11], [3, 4, 8, 9, 10, 11, 12, 44], [3, 4, 8, 9, 10, 11, 12], [3, 4, 8, 9, 10, 11, 12, 46], [6], [3, 4, 8, 9, 10, 60], [6], [3, 4, 8, 9, 10, 64], [6], [6], [0, 1, 2, 3, 4, 5, 6, 7, 8, 9, 10], [3], [], [0], [0, 1], [0, 1, 2], [0, 1, 2], [0, 1, 2], [0, 1, 2], [0, 1, 2, 4, 5, 6], [0, 1, 2, 3, 4, 5, 6, 7], [0, 1, 2, 3, 4, 5, 6, 7, 8], [0, 1, 2, 3, 4, 5, 6, 7, 8, 9]] = some S13 := by kernel_rfl
end Go.Proofs.Ytniobbepliknmaa.V
/- The text of parlance/parllaw5.ShrinkTrees$1 as a statement (slots: 0 x, 2 x); no condition. -/
namespace Go.Proofs.Ytniobbepliknmaa.V
open Go
def S66_0 : Stmt :=
  Stmt.seq
  (Stmt.region
    [SOper.mk (some 2) none (SOp.box true 106 (Operand.tmp 0)),
      SOper.mk (some 3) none (SOp.mv (Operand.const (Value.bool false)))]
    [1, 2])
  (Stmt.seq
    (Stmt.drawn
      [(false, SOper.mk (some 4) none (SOp.load true 3 (Operand.tmp 2))),
        (true, SOper.mk (some 7) none (SOp.load false 1 (Operand.tmp 1))),
        (false, SOper.mk (some 8) none (SOp.idiv BinOp.rem (Operand.tmp 7) (Operand.const (Value.int IntKind.i64 3)))),
        (false, SOper.mk (some 9) none (SOp.ibin BinOp.add (Operand.tmp 8) (Operand.const (Value.int IntKind.i64 3)))),
        (false, SOper.mk (some 10) none (SOp.idiv BinOp.rem (Operand.tmp 9) (Operand.const (Value.int IntKind.i64 3)))),
        (false, SOper.mk (some 5) none (SOp.call (Operand.func 67) [Operand.tmp 4])),
        (false, SOper.mk (some 6) none (SOp.idiv BinOp.rem (Operand.tmp 5) (Operand.const (Value.int IntKind.i64 3)))),
        (false, SOper.mk (some 11) none (SOp.ibin BinOp.eql (Operand.tmp 6) (Operand.tmp 10))),
        (false, SOper.mk (some 3) none (SOp.mv (Operand.tmp 11)))]
      [3])
    Stmt.ret)
def S66 : FnS := ⟨12, [(3, none)], S66_0⟩
theorem tr66 : trFn Try.prog 66 [2] [[1, 2], [3], [0, 3, 4, 5, 6, 1, 2, 7, 8], [3], [], [0], [0, 1], [], [3], [3, 4], [3, 4, 5], [0, 1, 2, 3, 4, 5, 6], [0, 1, 2, 3, 4, 5, 6, 7]] = some S66 := by kernel_rfl
end Go.Proofs.Ytniobbepliknmaa.V
/- The law parllaw5.ShrinkTrees; no condition. -/
namespace Go.Proofs.Ytniobbepliknmaa.V
open Go
set_option linter.unusedVariables false
set_option linter.unusedSimpArgs false
attribute [local go_sem] e_seq e_region e_quiet e_join e_loop e_cond e_block e_exit e_ret e_skip e_fin e_kseq e_snrm e_sret e_sex e_bnrm e_bret e_bex e_rnrm e_rret e_res e_condC e_nil e_g e_mv g_mv e_pick g_pick pickC_eq e_ibin g_ibin ibinC_eq e_sbin g_sbin e_beq g_beq beqC_eq e_nilq g_nilq nilqC_sl nilqC_pt nilqC_mp e_un g_un unC_not unC_neg e_conv g_conv convC_eq e_fld g_fld fldC_ref fldC_ptr e_nilCheck g_nilCheck nilCheckC_ref nilCheckC_ptr nilCheckC_fun e_field g_field fieldC_eq e_len g_len lenC_sl lenC_str e_extract g_extract extractC_eq e_mkFunc e_build g_build e_idiv g_idiv idivC_eq e_ishift g_ishift ishiftC_eq e_idx g_idx e_idxA g_idxA e_load g_load e_loadB g_loadB atB_ref atB_v g_mkFunc loadC_ref loadC_ptr loadB_eq e_slc g_slc e_box boxC_loc boxC_esc e_alloc allocC_loc allocC_esc e_buildS e_store storeC_ref storeC_ptr storeB_eq e_append e_appz e_mk mkC_eq e_call callC_eq e_fn g_fn fnC_eq fnV_min' fnV_max' fnV_rune' e_q g_q e_a e_n g_call g_box g_alloc g_buildS g_store g_append g_mk g_a g_n g_dead e_dead e_callK e_drawn e_tree e_finJ e_tk e_tfin e_tno e_nbt_q e_nbt_qn e_nbt_a e_nbt_an e_nbt_fin e_drawnB e_bxb_nil e_bxb e_stB_none e_stB_some boxSt_store bs_mv bs_pick bs_ibin bs_idiv bs_ishift bs_sbin bs_beq bs_nilq bs_un bs_conv bs_box bs_alloc bs_build bs_buildS bs_load bs_fld bs_nilCheck bs_idx bs_idxA bs_field bs_slc bs_len bs_append bs_appz bs_mk bs_call bs_extract bs_mkFunc bs_fn bs_q bs_a bs_n bs_loadB bs_dead isBox_box e_early_nil e_early_t e_early_f e_nob_nil e_nob_none e_nob_some isBox_dead isBox_v isBox_ref e_dnil e_dk e_ek e_finB vcOps_vc1 e_dcons e_tq e_ekt e_tearly e_talt e_dearly look_nil look_c proj_nil proj_c looks_nil looks_c zip_nil zip_c val_tmp val_const val_func slv_v slv_box slv_ref slot_tmp slot_const slot_func slotL_v slotL_box slotL_ref put_some put_none updBox_c boxSet_box gd_eq slotVals_nil slotVals_c slotVals_b boxV_box boxOn_box slotsOn_nil slotsOn_c slotsOn_b resV_one resV_two vals_nil vals_c allOn_nil allOn_c partOn_nil partOn_c partVals_nil partVals_c fits_nil fits_c fillL_nil fillL_c mkv_one mkv_agg cellsV_agg cellsV_int cellsV_bool cellsV_slice cellsV_string cellsV_pointer cellsV_func cellsV_nilf cellsV_map one'_nil one'_c oc_int oc_bool oc_slice oc_string oc_pointer oc_func oc_nilf oc_map setC_eq iv_add iv_sub iv_mul iv_eql iv_neq iv_lss iv_leq iv_gtr iv_geq iok_add iok_sub iok_mul iok_eql iok_neq iok_lss iok_leq iok_gtr iok_geq pickV_bool args0_nil args0_c bnd_none bnd_some imp_bt imp_bf imp_ebt imp_ebf imp_eb1 imp_np imp_pp beq_tt beq_tf beq_ft beq_ff cond_or cond_and e_round e_meet Int.le_refl Int.toNat_zero decide_true decide_false Bool.or_false Bool.false_or Bool.true_or Bool.or_true Bool.and_false Bool.false_and Bool.bne_false Bool.bne_true beq_iff_eq Int.cast_ofNat_Int not_false_eq_true not_true_eq_false false_and and_false false_implies true_implies true_and and_true Bool.true_and Bool.and_true Bool.not_true Bool.not_false forall_const implies_true List.take_zero List.drop_zero List.take_succ_cons List.drop_succ_cons List.take_nil List.drop_nil List.length_cons List.length_nil List.nil_append List.append_nil List.cons_append Int.toNat_natCast decide_eq_true_eq decide_eq_false_iff_not cond_true cond_false and_self List.getElem?_cons_zero List.getElem?_cons_succ List.set_cons_zero List.set_cons_succ Option.some.injEq exists_eq_left' Nat.zero_add Nat.add_zero Nat.mul_one imp_self true_or or_true or_false false_or Bool.or_eq_true Bool.or_eq_false_iff Bool.and_eq_true Bool.and_eq_false_iff Bool.not_eq_true' Bool.not_eq_false'

def failsF (a : Int) (x : Tr) : Bool := decide (((szT x : Nat) : Int).tmod 3 = ((a.tmod 3) + 3).tmod 3)
theorem hrem (z : Int) : idivV .rem .i64 z 3 = .int .i64 (z.tmod 3) := rfl
theorem st_form {g : Gr} {p : Tr → Bool} {x : Tr} {v : Value} {Γ : Ctx} (h : StS g p x v Γ) : ∃ (y : Tr) (A : Option Addr) (c : Nat), v = .tuple #[.agg #[.int .i64 y.rule, .int .i64 y.term, .slice A y.kids.length c], .int .i64 (stF g p x)] ∧ SlOk (lk Γ) A c y.kids ∧ (stF g p x = 0 → y = leastF g p x) := by
  rcases h with ⟨h1, rfl, rfl⟩ | ⟨h1, gg, A, c, rfl, h2, rfl⟩
  · exact ⟨⟨0, 0, []⟩, none, 0, rfl, SlOk.nil, fun q => absurd q h1⟩
  · exact ⟨_, A, c, by rw [h1], h2, fun _ => rfl⟩
theorem fails_pred {Γr : Ctx} {b : Nat} {T : TypeId} {a : Int} (hb : lk Γr b (.cells [Value.int .i64 a].toArray T (0, 0))) :
    PredT Γr (.func (.func 66) #[] #[.pointer (some ⟨b, 0, none⟩)]) (failsF a) := by
  refine ⟨66, #[], #[.pointer (some ⟨b, 0, none⟩)], rfl, fun Γ A c x hΓ hx hn => ?_⟩
  generalize hR : (fun (v : Value) (Γ : Ctx) => Γ = [] ∧ _) = R
  refine ret_of_vc tr66 (Nat.le_of_ble_eq_true rfl) ?_
  have hsz := szT_le x
  simp -implicitDefEqProofs only [S66, S66_0, List.toList_toArray, go_sem, Nat.reduceBEq, Nat.reduceAdd, Nat.reduceSub, Nat.reduceMul, Nat.reduceLeDiff, reduceCtorEq, ↓reduceIte, Int.reduceLT, Int.reduceLE, Int.reduceEq, Int.reduceNe]
  intro b1
  refine s_drawn [] [] (Ent.refl _) ?_
  simp -implicitDefEqProofs only [go_sem, Nat.reduceBEq, Nat.reduceAdd, Nat.reduceSub, Nat.reduceMul, Nat.reduceLeDiff, reduceCtorEq, ↓reduceIte, Int.reduceLT, Int.reduceLE, Int.reduceEq, Int.reduceNe]
  refine s_ld (o := 0) (j := 0) (cells_lk (hΓ _ _ hb)) (by simp) (by simp) ?_
  simp -implicitDefEqProofs only [hrem, go_sem, Nat.reduceBEq, Nat.reduceAdd, Nat.reduceSub, Nat.reduceMul, Nat.reduceLeDiff, reduceCtorEq, ↓reduceIte, Int.reduceLT, Int.reduceLE, Int.reduceEq, Int.reduceNe]
  have t1 := Int.tmod_lt_of_pos a (show (0 : Int) < 3 by decide)
  have t2 := Int.lt_tmod_of_pos a (show (0 : Int) < 3 by decide)
  simp (disch := omega) only [wrap_id]
  refine CallVC.read (tree_size x hx hn) ?_
  rintro v Γ' ⟨rfl, rfl⟩
  simp -implicitDefEqProofs only [hrem, go_sem, Nat.reduceBEq, Nat.reduceAdd, Nat.reduceSub, Nat.reduceMul, Nat.reduceLeDiff, reduceCtorEq, ↓reduceIte, Int.reduceLT, Int.reduceLE, Int.reduceEq, Int.reduceNe]
  refine Up.here ?_
  subst hR
  exact ⟨rfl, rfl⟩
theorem fails_ret {Γr : Ctx} {b : Nat} {T : TypeId} {a : Int} {x : Tr} {A : Option Addr} {c : Nat} (hb : lk Γr b (.cells [Value.int .i64 a].toArray T (0, 0))) (hx : SlOk (lk Γr) A c x.kids) (hn : numT x ≤ 1048576) :
    Ret Try.prog 66 [.agg #[.int .i64 x.rule, .int .i64 x.term, .slice A x.kids.length c], .pointer (some ⟨b, 0, none⟩)] Γr [] (fun r Γ => Γ = [] ∧ r = .bool (failsF a x)) := by
  obtain ⟨f, k1, k2, he, h⟩ := fails_pred hb
  simp only [Value.func.injEq, Fn.func.injEq] at he
  obtain ⟨rfl, rfl, rfl⟩ := he
  exact h Γr A c x (Mem.le.refl _) hx hn
theorem law_shrinkTrees {Γr : Ctx} {g : Gr} {B : Option Addr} {d : Nat} (hg : SlOk (lk Γr) B d g.rs) {x : Tr} {A : Option Addr} {c : Nat} (hx : SlOk (lk Γr) A c x.kids) (hn : numT x ≤ 1048576) (a : Int) :
    Ret Try.prog 13 [.agg #[.int .i64 g.ts, .int .i64 g.ns, .int .i64 g.st, .slice B g.rs.length d], .agg #[.int .i64 x.rule, .int .i64 x.term, .slice A x.kids.length c], .int .i64 a] Γr [] (fun v Γ => Γ = [] ∧ v = .bool true) := by
  generalize hR : (fun (v : Value) (Γ : Ctx) => Γ = [] ∧ _) = R
  refine ret_of_vc tr13 (Nat.le_of_ble_eq_true rfl) ?_
  simp -implicitDefEqProofs only [S13, S13_0, go_sem, Nat.reduceBEq, Nat.reduceAdd, Nat.reduceSub, Nat.reduceMul, Nat.reduceLeDiff, reduceCtorEq, ↓reduceIte, Int.reduceLT, Int.reduceLE, Int.reduceEq, Int.reduceNe]
  intro b1 b2 b3
  refine CallVC.pure (Γr1 := []) plain_ (by simp) ?_
  rintro v Γ1 ⟨gp, Ap, cp, rfl, hsp, rfl⟩
  simp -implicitDefEqProofs only [go_sem, Nat.reduceBEq, Nat.reduceAdd, Nat.reduceSub, Nat.reduceMul, Nat.reduceLeDiff, reduceCtorEq, ↓reduceIte, Int.reduceLT, Int.reduceLE, Int.reduceEq, Int.reduceNe]
  intro b4 b5
  have t0 : SlOk (α := Tr) (lk [one b4 (.cells [Value.int .i64 (-1), .int .i64 0, .slice none 0 0].toArray 106)]) (some ⟨b4, 0, none⟩) 1 [⟨-1, 0, []⟩] :=
    lit_rep1 (cs := [Value.int .i64 (-1), .int .i64 0, .slice none 0 0]) _ lk_head (ok_tr.2 ⟨none, 0, rfl, SlOk.nil⟩)
  have t1 : ∀ L, Mem.le (lk [one b5 (.cells [Value.int .i64 (-1), .int .i64 1, .slice none 0 0, .int .i64 0, .int .i64 0, .slice (some ⟨b4, 0, none⟩) 1 1].toArray 106), one b4 (.cells [Value.int .i64 (-1), .int .i64 0, .slice none 0 0].toArray 106)]) L → SlOk (α := Tr) L (some ⟨b5, 0, none⟩) 2 [⟨-1, 1, []⟩, ⟨0, 0, [⟨-1, 0, []⟩]⟩] := fun L hL =>
    lit_rep2 (cs := [Value.int .i64 (-1), .int .i64 1, .slice none 0 0]) (ds := [Value.int .i64 0, .int .i64 0, .slice (some ⟨b4, 0, none⟩) 1 1]) _ _ (hL _ _ lk_head) rfl (ok_tr.2 ⟨none, 0, rfl, SlOk.nil⟩) (ok_tr.2 ⟨_, 1, rfl, t0.mono ((lk_sub (by simp)).trans hL)⟩)
  refine CallVC.read (shrink_smaller (g := plainG) (hsp.mono (lk_sub fun y hy => by simp at hy ⊢; simp [hy])) ⟨1, 0, [⟨-1, 1, []⟩, ⟨0, 0, [⟨-1, 0, []⟩]⟩]⟩ (t1 _ (lk_sub fun y hy => by simp at hy ⊢; rcases hy with h | h <;> simp [h])) (by decide)) ?_
  rintro v Γ2 ⟨go, gl, rfl, hB⟩
  have hone : (smT plainG ⟨1, 0, [⟨-1, 1, []⟩, ⟨0, 0, [⟨-1, 0, []⟩]⟩]⟩).length = 1 := by decide
  obtain ⟨A9, c9, rfl⟩ := hB.val
  rw [hone]
  clear hB t0 t1 hsp
  simp -implicitDefEqProofs only [go_sem, Nat.reduceBEq, Nat.reduceAdd, Nat.reduceSub, Nat.reduceMul, Nat.reduceLeDiff, reduceCtorEq, ↓reduceIte, Int.reduceLT, Int.reduceLE, Int.reduceEq, Int.reduceNe]
  have hfp : ∀ Γ : Ctx, lk Γ b3 (.cells [Value.int .i64 a].toArray 3 (0, 0)) → PredT Γ (.func (.func 66) #[] #[.pointer (some ⟨b3, 0, none⟩)]) (failsF a) := fun Γ h => fails_pred h
  have hb3 : lk [one b3 (.cells [Value.int .i64 a].toArray 3)] b3 (.cells [Value.int .i64 a].toArray 3 (0, 0)) := lk_head
  simp only [List.toArray] at hb3
  refine CallVC.read (shrink_tree (hg.mono (lk_r _ _)) (hfp _ (lk_sub (Γ := [one b3 (.cells [Value.int .i64 a].toArray 3)]) (fun y hy => by simp at hy ⊢; simp [hy]) _ _ lk_head)) x (hx.mono (lk_r _ _)) hn) ?_
  rintro v Γ3 hS
  obtain ⟨y, A5, c5, rfl, hs5, hy5⟩ := st_form hS
  clear hS
  simp -implicitDefEqProofs only [go_sem, Nat.reduceBEq, Nat.reduceAdd, Nat.reduceSub, Nat.reduceMul, Nat.reduceLeDiff, reduceCtorEq, ↓reduceIte, Int.reduceLT, Int.reduceLE, Int.reduceEq, Int.reduceNe]
  intro b6
  refine CallVC.read (shrink_smaller (hg.mono (lk_r _ _)) x (hx.mono (lk_r _ _)) hn) ?_
  rintro v Γ4 ⟨go2, gl2, rfl, hB2⟩
  have hsl := smT_len (g := g) x
  have hmul : numT x * numT x ≤ 1048576 * 1048576 := Nat.mul_le_mul hn hn
  obtain ⟨A6, c6, rfl, hs6⟩ := hB2.slok (L' := lk [go2, gl2]) (lk_sub (by simp)) (lk_sub (by simp)) (by omega)
  simp -implicitDefEqProofs only [go_sem, Nat.reduceBEq, Nat.reduceAdd, Nat.reduceSub, Nat.reduceMul, Nat.reduceLeDiff, reduceCtorEq, ↓reduceIte, Int.reduceLT, Int.reduceLE, Int.reduceEq, Int.reduceNe]
  refine CallVC.read (tree_check (hg.mono (lk_r _ _)) x (hx.mono (lk_r _ _)) hn) ?_
  rintro v Γ5 ⟨rfl, rfl⟩
  simp -implicitDefEqProofs only [go_sem, Nat.reduceBEq, Nat.reduceAdd, Nat.reduceSub, Nat.reduceMul, Nat.reduceLeDiff, reduceCtorEq, ↓reduceIte, Int.reduceLT, Int.reduceLE, Int.reduceEq, Int.reduceNe]
  obtain ⟨f1, hf1⟩ : ∃ f1 : Int, f1 = if tcF g x ≠ 0 then tcF g x else if 60 < szT x then 2 else 0 := ⟨_, rfl⟩
  refine s_join (fun vs Γ => ∃ gq, Γ = [gq] ∧ Mem.le (lk (go2 :: gl2 :: Γ3)) (lk [gq]) ∧ lk [gq] b3 (.cells [Value.int .i64 a].toArray 3 (0, 0)) ∧ vs = [.v true (.int .i64 f1)]) ?_ ?_
  · have hfin : ∀ {Γ}, (∀ y ∈ go2 :: gl2 :: Γ3, y ∈ Γ) → (one b3 (.cells [Value.int .i64 a].toArray 3) ∈ Γ) → ∀ f, f1 = f → Up Γ (fun Γ => ∃ gq, Γ = [gq] ∧ Mem.le (lk (go2 :: gl2 :: Γ3)) (lk [gq]) ∧ lk [gq] b3 (.cells [Value.int .i64 a].toArray 3 (0, 0)) ∧ [Sl.v true (Value.int IntKind.i64 f)] = [.v true (.int .i64 f1)]) := fun hs h3 f hf => Up.one fun gq hq => ⟨gq, rfl, (lk_sub hs).trans hq, hq _ _ ⟨_, h3, one_self _ _⟩, by rw [hf]⟩
    simp -implicitDefEqProofs only [S13_1, go_sem, Nat.reduceBEq, Nat.reduceAdd, Nat.reduceSub, Nat.reduceMul, Nat.reduceLeDiff, reduceCtorEq, ↓reduceIte, Int.reduceLT, Int.reduceLE, Int.reduceEq, Int.reduceNe]
    by_cases e : tcF g x = 0
    · have e1 : decide (tcF g x = 0) = true := decide_eq_true e
      refine ⟨fun _ => ⟨e, ?_⟩, fun h => by simp [e] at h⟩
      simp -implicitDefEqProofs only [e1, go_sem, Nat.reduceBEq, Nat.reduceAdd, Nat.reduceSub, Nat.reduceMul, Nat.reduceLeDiff, reduceCtorEq, ↓reduceIte, Int.reduceLT, Int.reduceLE, Int.reduceEq, Int.reduceNe]
      refine CallVC.read (tree_size x (hx.mono (lk_r _ _)) hn) ?_
      rintro v Γ5 ⟨rfl, rfl⟩
      simp -implicitDefEqProofs only [go_sem, Nat.reduceBEq, Nat.reduceAdd, Nat.reduceSub, Nat.reduceMul, Nat.reduceLeDiff, reduceCtorEq, ↓reduceIte, Int.reduceLT, Int.reduceLE, Int.reduceEq, Int.reduceNe]
      exact ⟨fun h => hfin (fun y hy => by simp at hy ⊢; rcases hy with h | h | h <;> simp [h]) (by simp) _ (by rw [hf1, if_neg (by simpa using e), if_pos (by omega)]), fun h => hfin (fun y hy => by simp at hy ⊢; rcases hy with h | h | h <;> simp [h]) (by simp) _ (by rw [hf1, if_neg (by simpa using e), if_neg (by omega), e])⟩
    · have e1 : decide (tcF g x = 0) = false := decide_eq_false e
      refine ⟨fun h => absurd h e, fun _ => ⟨.int .i64 0, ?_⟩⟩
      simp -implicitDefEqProofs only [e1, go_sem, Nat.reduceBEq, Nat.reduceAdd, Nat.reduceSub, Nat.reduceMul, Nat.reduceLeDiff, reduceCtorEq, ↓reduceIte, Int.reduceLT, Int.reduceLE, Int.reduceEq, Int.reduceNe]
      exact hfin (fun y hy => by simp at hy ⊢; rcases hy with h | h | h <;> simp [h]) (by simp) _ (by rw [hf1, if_pos e])
  rintro vs Γ ⟨gq, rfl, hgq, hb3q, rfl⟩
  simp -implicitDefEqProofs only [S13_2, go_sem, Nat.reduceBEq, Nat.reduceAdd, Nat.reduceSub, Nat.reduceMul, Nat.reduceLeDiff, reduceCtorEq, ↓reduceIte, Int.reduceLT, Int.reduceLE, Int.reduceEq, Int.reduceNe]
  refine ⟨fun hne => Up.to [] (Ent.nil _) ?_, fun h0 => ?_⟩
  · subst hR
    have e1 : stF g (failsF a) x = f1 ∧ smT g x = [] := by
      rw [hf1] at hne ⊢
      by_cases e : tcF g x = 0
      · rw [if_neg (by simpa using e)] at hne ⊢
        split at hne
        · rename_i h60
          rw [stF, if_neg (by simpa using e), if_pos h60, if_pos h60, smT_eq, if_pos (by omega)]
          exact ⟨rfl, rfl⟩
        · exact absurd rfl hne
      · rw [if_pos e, stF, if_pos e, smT_eq, if_pos (by omega)]
        exact ⟨rfl, rfl⟩
    rw [e1.1, e1.2]
    simp
  have htc : tcF g x = 0 := by
    by_cases e : tcF g x = 0
    · exact e
    · rw [if_pos e] at hf1; omega
  have h60 : szT x ≤ 60 := by
    rw [if_neg (by simpa using htc)] at hf1
    split at hf1 <;> omega
  have hv : validT g x = true := by
    unfold tcF at htc
    split at htc
    · omega
    · split at htc
      · cases htc
      · split at htc
        · assumption
        · cases htc
  have hck : ckF g = 0 := by
    unfold tcF at htc
    split at htc
    · rename_i q; exact absurd htc q
    · rename_i q; simpa using q
  refine CallVC.pure (ref_smaller hg x hx hn hv) (List.sublist_append_right [gq] Γr) ?_
  rintro v Γ5 ⟨go5, gl5, rfl, hB5⟩
  rw [rs_eq hck x hv h60] at hB5
  obtain ⟨A7, c7, rfl, hs7⟩ := hB5.slok (L' := lk ([go5, gl5, gq] ++ Γr)) (lk_sub (by simp)) (lk_sub fun y hy => by simp at hy ⊢; rcases hy with h | h <;> simp [h]) (by omega)
  simp -implicitDefEqProofs only [go_sem, Nat.reduceBEq, Nat.reduceAdd, Nat.reduceSub, Nat.reduceMul, Nat.reduceLeDiff, reduceCtorEq, ↓reduceIte, Int.reduceLT, Int.reduceLE, Int.reduceEq, Int.reduceNe]
  refine CallVC.read (equalFunc_tr (hs6.mono ((lk_sub (Γ' := go2 :: gl2 :: Γ3) fun y hy => by simp at hy ⊢; rcases hy with h | h <;> simp [h]).trans (hgq.trans (lk_sub fun y hy => by simp at hy; simp [hy])))) hs7 fun y _ => law_same y) ?_
  rintro v Γ6 ⟨rfl, rfl⟩
  simp -implicitDefEqProofs only [go_sem, Nat.reduceBEq, Nat.reduceAdd, Nat.reduceSub, Nat.reduceMul, Nat.reduceLeDiff, reduceCtorEq, ↓reduceIte, Int.reduceLT, Int.reduceLE, Int.reduceEq, Int.reduceNe]
  refine CallVC.read (fails_ret (T := 3) (lk_sub (Γ := [gq]) (fun y hy => by simp at hy; simp [hy]) _ _ hb3q) (hx.mono (lk_r _ _)) hn) ?_
  rintro v Γ6 ⟨rfl, rfl⟩
  simp -implicitDefEqProofs only [go_sem, Nat.reduceBEq, Nat.reduceAdd, Nat.reduceSub, Nat.reduceMul, Nat.reduceLeDiff, reduceCtorEq, ↓reduceIte, Int.reduceLT, Int.reduceLE, Int.reduceEq, Int.reduceNe]
  refine ⟨fun hp => Up.to [] (Ent.nil _) ?_, fun hp => ?_⟩
  · subst hR
    have : stF g (failsF a) x = 7 := by rw [stF, if_neg (by simpa using htc), if_neg (by omega), if_neg (by simp [hp])]
    exact ⟨rfl, by rw [this]; rfl⟩
  have hst : stF g (failsF a) x = 0 := by rw [stF, if_neg (by simpa using htc), if_neg (by omega), if_pos hp]
  rw [hst]
  obtain rfl := hy5 hst
  refine s_drawn [go5, gl5, gq] [] (Ent.refl _) ?_
  simp -implicitDefEqProofs only [go_sem, Nat.reduceBEq, Nat.reduceAdd, Nat.reduceSub, Nat.reduceMul, Nat.reduceLeDiff, reduceCtorEq, ↓reduceIte, Int.reduceLT, Int.reduceLE, Int.reduceEq, Int.reduceNe]
  refine CallVC.read (ref_least hck (numT x) x (Nat.le_refl _) (hg.mono (lk_r _ _)) (hfp _ (lk_sub (Γ := [gq]) (fun y hy => by simp at hy; simp [hy]) _ _ hb3q)) (hx.mono (lk_r _ _)) hv h60) ?_
  rintro v Γ7 ⟨gg, A8, c8, rfl, rfl, hs8⟩
  simp -implicitDefEqProofs only [go_sem, Nat.reduceBEq, Nat.reduceAdd, Nat.reduceSub, Nat.reduceMul, Nat.reduceLeDiff, reduceCtorEq, ↓reduceIte, Int.reduceLT, Int.reduceLE, Int.reduceEq, Int.reduceNe]
  refine CallVC.read (law_same (leastF g (failsF a) x) (leastF g (failsF a) x) _ _ _ _ (hs5.mono ((lk_sub (Γ' := go2 :: gl2 :: Γ3) fun y hy => by simp [hy]).trans (hgq.trans (lk_sub fun y hy => by simp at hy; simp [hy])))) (hs8.mono (lk_sub fun y hy => by simp at hy ⊢; rcases hy with h | h | h | h | h <;> simp [h]))) ?_
  rintro v Γ8 ⟨rfl, rfl⟩
  simp -implicitDefEqProofs only [go_sem, Nat.reduceBEq, Nat.reduceAdd, Nat.reduceSub, Nat.reduceMul, Nat.reduceLeDiff, reduceCtorEq, ↓reduceIte, Int.reduceLT, Int.reduceLE, Int.reduceEq, Int.reduceNe]
  refine Up.to [] (Ent.nil _) ?_
  subst hR
  exact ⟨rfl, by simp⟩
theorem law_shrinkTreesR {Γr : Ctx} {g : Gr} {x : Tr} {cs ds : List Value} (hg : Rep.ok (lk Γr) g cs) (hx : Rep.ok (lk Γr) x ds) (hn : numT x ≤ 1048576) (a : Int) :
    Ret Try.prog 13 [.agg cs.toArray, .agg ds.toArray, .int .i64 a] Γr [] (fun v Γ => Γ = [] ∧ v = .bool true) := by
  obtain ⟨A, c, rfl, hg2⟩ := ok_gr hg
  obtain ⟨B, d, rfl, hx2⟩ := ok_tr.1 hx
  exact law_shrinkTrees hg2 hx2 hn a
end Go.Proofs.Ytniobbepliknmaa.V
