/- Texts put together, in the order in which they build; each says what it proves; no condition. -/
import Derived.Test.YtniobbepliknmaaM2
import Derived.Test.YtniobbepliknmaaProg
import Derived.Test.YtniobbepliknmaaM4
import Derived.Test.YtniobbepliknmaaM3
/- The text of parlance/compare.next as a statement (slots: 0 w, 1 terms, 2 w, 3 terms, 5 i); no condition. -/
namespace Go.Proofs.Ytniobbepliknmaa.V
open Go
def S145_1 : Stmt :=
  Stmt.seq
  (Stmt.seq
    (Stmt.region
      [SOper.mk (some 9) none (SOp.mv (Operand.tmp 5)),
        SOper.mk (some 10) none (SOp.ibin BinOp.geq (Operand.tmp 9) (Operand.const (Value.int IntKind.i64 0)))]
      [0, 1, 5, 10])
    (Stmt.cond (Operand.tmp 10) Stmt.skip (Stmt.exit 0)))
  (Stmt.seq
    (Stmt.block 1
      (Stmt.seq
        (Stmt.seq
          (Stmt.region
            [SOper.mk (some 13) none (SOp.mv (Operand.tmp 0)), SOper.mk (some 14) none (SOp.mv (Operand.tmp 5)),
              SOper.mk (some 15) none (SOp.idx 1 (Operand.tmp 13) (Operand.tmp 14)),
              SOper.mk (some 16) none (SOp.load false 1 (Operand.tmp 15)),
              SOper.mk (some 17) none (SOp.ibin BinOp.add (Operand.tmp 16) (Operand.const (Value.int IntKind.i64 1))),
              SOper.mk (some 18) none (SOp.mv (Operand.tmp 1)),
              SOper.mk (some 19) none (SOp.ibin BinOp.lss (Operand.tmp 17) (Operand.tmp 18))]
            [0, 1, 5, 19])
          (Stmt.cond (Operand.tmp 19)
            (Stmt.seq
              (Stmt.region
                [SOper.mk (some 20) none (SOp.mv (Operand.tmp 0)), SOper.mk (some 21) none (SOp.mv (Operand.tmp 5)),
                  SOper.mk (some 22) none (SOp.idx 1 (Operand.tmp 20) (Operand.tmp 21)),
                  SOper.mk (some 23) none (SOp.load false 1 (Operand.tmp 22)),
                  SOper.mk (some 24) none
                    (SOp.ibin BinOp.add (Operand.tmp 23) (Operand.const (Value.int IntKind.i64 1))),
                  SOper.mk (some 25) none (SOp.idx 1 (Operand.tmp 20) (Operand.tmp 21)),
                  SOper.mk none none (SOp.store 1 (Operand.tmp 25) (Operand.tmp 24))]
                [])
              (Stmt.seq (Stmt.region [SOper.mk (some 4) none (SOp.mv (Operand.const (Value.bool true)))] [4]) Stmt.ret))
            Stmt.skip))
        (Stmt.region
          [SOper.mk (some 26) none (SOp.mv (Operand.tmp 0)), SOper.mk (some 27) none (SOp.mv (Operand.tmp 5)),
            SOper.mk (some 28) none (SOp.idx 1 (Operand.tmp 26) (Operand.tmp 27)),
            SOper.mk none none (SOp.store 1 (Operand.tmp 28) (Operand.const (Value.int IntKind.i64 0)))]
          [0, 1, 5])))
    (Stmt.region
      [SOper.mk (some 11) none (SOp.mv (Operand.tmp 5)),
        SOper.mk (some 12) none (SOp.ibin BinOp.sub (Operand.tmp 11) (Operand.const (Value.int IntKind.i64 1))),
        SOper.mk (some 5) none (SOp.mv (Operand.tmp 12))]
      [0, 1, 5]))
def S145_0 : Stmt :=
  Stmt.seq (Stmt.region [SOper.mk (some 4) none (SOp.mv (Operand.const (Value.bool false)))] [0, 1])
  (Stmt.seq
    (Stmt.seq
      (Stmt.region
        [SOper.mk (some 6) none (SOp.mv (Operand.tmp 0)), SOper.mk (some 7) none (SOp.len false (Operand.tmp 6)),
          SOper.mk (some 8) none (SOp.ibin BinOp.sub (Operand.tmp 7) (Operand.const (Value.int IntKind.i64 1))),
          SOper.mk (some 5) none (SOp.mv (Operand.tmp 8))]
        [0, 1, 5])
      (Stmt.block 0 (Stmt.loop S145_1 [5] [0, 1])))
    (Stmt.seq (Stmt.region [SOper.mk (some 4) none (SOp.mv (Operand.const (Value.bool false)))] [4]) Stmt.ret))
def S145 : FnS := ⟨29, [(4, none)], S145_0⟩
theorem tr145 : trFn Try.prog 145 [] [[0, 1], [0, 1, 5], [5], [0, 1], [0, 1, 5, 10], [0, 1, 5, 19], [], [4], [0, 1, 5], [0, 1, 5], [4]] = some S145 := by kernel_rfl
end Go.Proofs.Ytniobbepliknmaa.V
/- How many words there are, and the next word: compare.words, compare.next; no condition. -/
namespace Go.Proofs.Ytniobbepliknmaa.V
open Go
set_option linter.unusedVariables false
set_option linter.unusedSimpArgs false
attribute [local go_sem] e_seq e_region e_quiet e_join e_loop e_cond e_block e_exit e_ret e_skip e_fin e_kseq e_snrm e_sret e_sex e_bnrm e_bret e_bex e_rnrm e_rret e_res e_condC e_nil e_g e_mv g_mv e_pick g_pick pickC_eq e_ibin g_ibin ibinC_eq e_sbin g_sbin e_beq g_beq beqC_eq e_nilq g_nilq nilqC_sl nilqC_pt nilqC_mp e_un g_un unC_not unC_neg e_conv g_conv convC_eq e_fld g_fld fldC_ref fldC_ptr e_nilCheck g_nilCheck nilCheckC_ref nilCheckC_ptr nilCheckC_fun e_field g_field fieldC_eq e_len g_len lenC_sl lenC_str e_extract g_extract extractC_eq e_mkFunc e_build g_build e_idiv g_idiv idivC_eq e_ishift g_ishift ishiftC_eq e_idx g_idx e_idxA g_idxA e_load g_load loadC_ref loadC_ptr loadB_eq e_slc g_slc e_box boxC_loc boxC_esc e_alloc allocC_loc allocC_esc e_buildS e_store storeC_ref storeC_ptr storeB_eq e_append e_appz e_mk mkC_eq e_call callC_eq e_fn g_fn fnC_eq fnV_min' fnV_max' fnV_rune' e_q g_q e_a e_n g_call g_box g_alloc g_buildS g_store g_append g_mk g_a g_n g_dead e_dead e_callK e_drawn e_tree e_finJ e_tk e_tfin e_tno e_nbt_q e_nbt_qn e_nbt_a e_nbt_an e_nbt_fin e_early_nil e_early_t e_early_f e_nob_nil e_nob_none e_nob_some isBox_dead isBox_v isBox_ref e_dnil e_dk e_ek e_finB vcOps_vc1 e_dcons e_tq e_ekt e_tearly e_talt e_dearly look_nil look_c proj_nil proj_c looks_nil looks_c zip_nil zip_c val_tmp val_const val_func slv_v slv_box slv_ref slot_tmp slot_const slot_func slotL_v slotL_box slotL_ref put_some put_none updBox_c boxSet_box gd_eq slotVals_nil slotVals_c slotVals_b boxV_box boxOn_box slotsOn_nil slotsOn_c slotsOn_b resV_one resV_two vals_nil vals_c allOn_nil allOn_c partOn_nil partOn_c partVals_nil partVals_c fits_nil fits_c fillL_nil fillL_c mkv_one mkv_agg cellsV_agg cellsV_int cellsV_bool cellsV_slice cellsV_string cellsV_pointer cellsV_func cellsV_nilf cellsV_map one'_nil one'_c oc_int oc_bool oc_slice oc_string oc_pointer oc_func oc_nilf oc_map setC_eq iv_add iv_sub iv_mul iv_eql iv_neq iv_lss iv_leq iv_gtr iv_geq iok_add iok_sub iok_mul iok_eql iok_neq iok_lss iok_leq iok_gtr iok_geq pickV_bool args0_nil args0_c bnd_none bnd_some imp_bt imp_bf imp_ebt imp_ebf imp_eb1 imp_np imp_pp beq_tt beq_tf beq_ft beq_ff cond_or cond_and e_round e_meet Int.le_refl Int.toNat_zero decide_true decide_false Bool.or_false Bool.false_or Bool.true_or Bool.or_true Bool.and_false Bool.false_and Bool.bne_false Bool.bne_true beq_iff_eq Int.cast_ofNat_Int not_false_eq_true not_true_eq_false false_and and_false false_implies true_implies true_and and_true Bool.true_and Bool.and_true Bool.not_true Bool.not_false forall_const implies_true List.take_zero List.drop_zero List.take_succ_cons List.drop_succ_cons List.take_nil List.drop_nil List.length_cons List.length_nil List.nil_append List.append_nil List.cons_append Int.toNat_natCast decide_eq_true_eq decide_eq_false_iff_not cond_true cond_false and_self List.getElem?_cons_zero List.getElem?_cons_succ List.set_cons_zero List.set_cons_succ Option.some.injEq exists_eq_left' Nat.zero_add Nat.add_zero Nat.mul_one imp_self true_or or_true or_false false_or Bool.or_eq_true Bool.or_eq_false_iff Bool.and_eq_true Bool.and_eq_false_iff Bool.not_eq_true' Bool.not_eq_false'

theorem min_mul (p t : Nat) (ht : 1 ≤ t) : min 501 (min 501 p * t) = min 501 (p * t) := by
  rcases Nat.le_total p 501 with h | h
  · rw [Nat.min_eq_right h]
  · rw [Nat.min_eq_left h]
    have h1 : 501 * 1 ≤ 501 * t := Nat.mul_le_mul_left _ ht
    have h2 : p * 1 ≤ p * t := Nat.mul_le_mul_left _ ht
    omega
theorem cmp_words {Γr : Ctx} (t n : Nat) (ht : 1 ≤ t ∧ t ≤ 8) (hn : n ≤ 100) :
    Ret Try.prog 143 [.int .i64 t, .int .i64 n] Γr [] (fun v Γ => Γ = [] ∧ v = .int .i64 (min 501 (lvs t (n + 1)).length : Nat)) := by
  generalize hR : (fun (v : Value) (Γ : Ctx) => Γ = [] ∧ v = _) = R
  refine ret_of_vc tr143 (Nat.le_of_ble_eq_true rfl) ?_
  simp -implicitDefEqProofs only [S143, S143_0, go_sem, Nat.reduceBEq, Nat.reduceAdd, Nat.reduceSub, Nat.reduceMul, Nat.reduceLeDiff, reduceCtorEq, ↓reduceIte, Int.reduceLT, Int.reduceLE, Int.reduceEq, Int.reduceNe]
  simp (disch := omega) only [wrap_id]
  refine s_loop (fun f vs Γ => Γ = [] ∧ ∃ k a b : Nat, vs = [.v true (.int .i64 a), .v true (.int .i64 b), .v true (.int .i64 k)] ∧ k + f = n + 1 ∧ a = min 501 (lvs t k).length ∧ b = min 501 (t ^ k)) (n + 1) (Up.here ⟨rfl, 0, 0, 1, rfl, by omega, by simp [lvs_zero], by simp⟩) ?_
  rintro f vs Γ ⟨rfl, k, a, b, rfl, hkf, ha, hb⟩
  have ha5 : a ≤ 501 := by omega
  have hb5 : b ≤ 501 := by omega
  have hm : (b : Int) * t = ((b * t : Nat) : Int) := by simp
  have hm5 : b * t ≤ 501 * 8 := Nat.mul_le_mul hb5 ht.2
  simp -implicitDefEqProofs only [S143_1, hm, fnV_min', fnC_eq, go_sem, Nat.reduceBEq, Nat.reduceAdd, Nat.reduceSub, Nat.reduceMul, Nat.reduceLeDiff, reduceCtorEq, ↓reduceIte, Int.reduceLT, Int.reduceLE, Int.reduceEq, Int.reduceNe]
  simp (disch := omega) only [wrap_id]
  have e1 : (if ((a : Int) + b) < 501 then ((a : Int) + b) else 501) = ((min 501 (a + b) : Nat) : Int) := by split <;> omega
  have e2 : (if ((b * t : Nat) : Int) < 501 then ((b * t : Nat) : Int) else 501) = ((min 501 (b * t) : Nat) : Int) := by split <;> omega
  refine ⟨fun hlt => ?_, fun hge => Up.here ?_⟩
  · rw [e1, e2]
    refine ⟨f - 1, by omega, Up.here ⟨rfl, k + 1, _, _, rfl, by omega, ?_, ?_⟩⟩
    · rw [lvs_len_succ]; omega
    · rw [hb, min_mul _ _ ht.1, Nat.pow_succ]
  · subst hR
    have hk : k = n + 1 := by omega
    subst hk
    exact ⟨rfl, by rw [ha]⟩
/-- what the word is while its end is put back to zeros -/
theorem cmp_next {Γr : Ctx} {g : PH} {b : Nat} (t k P : Nat) (ht : 1 ≤ t ∧ t ≤ 1000) (hk : k ≤ 100000) (hP : P < t ^ k) (hA : Arr g b 3 (dg t k P)) :
    Ret Try.prog 145 [.slice (some ⟨b, 0, none⟩) k k, .int .i64 t] Γr [g] (fun v Γ => ∃ g', Γ = [g'] ∧ ((P + 1 < t ^ k ∧ v = .bool true ∧ Arr g' b 3 (dg t k (P + 1))) ∨ (P + 1 = t ^ k ∧ v = .bool false ∧ ∃ xs : List Int, Arr g' b 3 xs))) := by
  generalize hR : (fun (v : Value) (Γ : Ctx) => ∃ g', _) = R
  refine ret_of_vc tr145 (Nat.le_of_ble_eq_true rfl) ?_
  have ht0 : 0 < t := by omega
  simp -implicitDefEqProofs only [S145, S145_0, go_sem, Nat.reduceBEq, Nat.reduceAdd, Nat.reduceSub, Nat.reduceMul, Nat.reduceLeDiff, reduceCtorEq, ↓reduceIte, Int.reduceLT, Int.reduceLE, Int.reduceEq, Int.reduceNe]
  simp (disch := omega) only [wrap_id]
  refine s_loop (fun f vs Γ => ∃ (g : PH) (p m : Nat), vs = [.v true (.int .i64 ((f : Int) - 1))] ∧ Γ = [g] ∧ f + m = k ∧ P + 1 = (p + 1) * t ^ m ∧ Arr g b 3 (dg t f p ++ List.replicate m (0 : Int))) k
    (Up.here ⟨g, P, 0, rfl, rfl, by omega, by simp, by simpa using hA⟩) ?_
  rintro f vs Γ ⟨g1, p, m, rfl, rfl, hfm, hp, hA1⟩
  simp -implicitDefEqProofs only [S145_1, go_sem, Nat.reduceBEq, Nat.reduceAdd, Nat.reduceSub, Nat.reduceMul, Nat.reduceLeDiff, reduceCtorEq, ↓reduceIte, Int.reduceLT, Int.reduceLE, Int.reduceEq, Int.reduceNe]
  refine ⟨fun hge => ?_, fun hlt => Up.here ?_⟩
  · obtain ⟨f, rfl⟩ : ∃ f', f = f' + 1 := ⟨f - 1, by omega⟩
    have hlen : (dg t (f + 1) p ++ List.replicate m (0 : Int)).length = k := by rw [List.length_append, dg_len, List.length_replicate]; omega
    have hfl : f < (dg t (f + 1) p ++ List.replicate m (0 : Int)).length := by omega
    have hel : (dg t (f + 1) p ++ List.replicate m (0 : Int))[f] = ((p % t : Nat) : Int) := by
      rw [List.getElem_append_left (by rw [dg_len]; omega)]
      simp only [dg]
      rw [List.getElem_append_right (by rw [dg_len]; omega)]
      simp [dg_len]
    have hset : ∀ x : Int, (dg t (f + 1) p ++ List.replicate m (0 : Int)).set f x = (dg t f (p / t) ++ [x]) ++ List.replicate m (0 : Int) := by
      intro x
      rw [List.set_append_left _ _ (by rw [dg_len]; omega)]
      simp only [dg]
      rw [List.set_append_right _ _ (by rw [dg_len]; omega)]
      simp [dg_len]
    have hmt := Nat.mod_lt p ht0
    have hdm := Nat.div_add_mod p t
    have e0 : (((f + 1 : Nat) : Int) - 1) = (f : Int) := by omega
    rw [e0]
    refine s_idx rfl (by omega) (by omega) ?_
    simp -implicitDefEqProofs only [go_sem, Nat.reduceBEq, Nat.reduceAdd, Nat.reduceSub, Nat.reduceMul, Nat.reduceLeDiff, reduceCtorEq, ↓reduceIte, Int.reduceLT, Int.reduceLE, Int.reduceEq, Int.reduceNe]
    refine s_ld0 (hA1.cell hfl (by simp)) (by simp) (by simp) ?_
    rw [hel]
    simp -implicitDefEqProofs only [Sc.enc, go_sem, Nat.reduceBEq, Nat.reduceAdd, Nat.reduceSub, Nat.reduceMul, Nat.reduceLeDiff, reduceCtorEq, ↓reduceIte, Int.reduceLT, Int.reduceLE, Int.reduceEq, Int.reduceNe]
    simp (disch := omega) only [wrap_id]
    refine ⟨fun hl => ?_, fun hl => ?_⟩
    · refine s_idx rfl (by omega) (by omega) ?_
      simp -implicitDefEqProofs only [go_sem, Nat.reduceBEq, Nat.reduceAdd, Nat.reduceSub, Nat.reduceMul, Nat.reduceLeDiff, reduceCtorEq, ↓reduceIte, Int.reduceLT, Int.reduceLE, Int.reduceEq, Int.reduceNe]
      refine s_ld0 (hA1.cell hfl (by simp)) (by simp) (by simp) ?_
      rw [hel]
      simp -implicitDefEqProofs only [Sc.enc, go_sem, Nat.reduceBEq, Nat.reduceAdd, Nat.reduceSub, Nat.reduceMul, Nat.reduceLeDiff, reduceCtorEq, ↓reduceIte, Int.reduceLT, Int.reduceLE, Int.reduceEq, Int.reduceNe]
      refine s_idx rfl (by omega) (by omega) ?_
      simp -implicitDefEqProofs only [go_sem, Nat.reduceBEq, Nat.reduceAdd, Nat.reduceSub, Nat.reduceMul, Nat.reduceLeDiff, reduceCtorEq, ↓reduceIte, Int.reduceLT, Int.reduceLE, Int.reduceEq, Int.reduceNe]
      simp (disch := omega) only [wrap_id]
      refine s_storeA (ix := 0) (α := Int) ((p % t : Nat) + 1 : Int) rfl hA1 hfl ?_
      intro g' hA' _
      simp -implicitDefEqProofs only [go_sem, Nat.reduceBEq, Nat.reduceAdd, Nat.reduceSub, Nat.reduceMul, Nat.reduceLeDiff, reduceCtorEq, ↓reduceIte, Int.reduceLT, Int.reduceLE, Int.reduceEq, Int.reduceNe]
      refine Up.here ?_
      rw [hset] at hA'
      have h1 : dg t (f + 1) (p + 1) = dg t f (p / t) ++ [((p % t : Nat) : Int) + 1] := by
        have := dg_snoc (t := t) f (p / t) (p % t + 1) (by omega)
        rw [show p / t * t + (p % t + 1) = p + 1 by rw [Nat.mul_comm]; omega] at this
        rw [this]
        rfl
      rw [← h1, ← dg_zeros ht0, ← hp, hfm] at hA'
      have hlt2 : P + 1 < t ^ k := by
        have h2 : p + 1 < t * (p / t + 1) := by rw [Nat.mul_add]; omega
        have h3 : p / t + 1 ≤ t ^ f := by
          have : p / t < t ^ f := by
            apply Nat.lt_of_not_le
            intro q
            have h4 : t * t ^ f ≤ t * (p / t) := Nat.mul_le_mul_left _ q
            have h5 : t ^ (f + 1) * t ^ m ≤ p * t ^ m := Nat.mul_le_mul_right _ (by rw [Nat.pow_succ, Nat.mul_comm]; omega)
            rw [← Nat.pow_add, hfm] at h5
            have h6 : p * t ^ m + 1 ≤ (p + 1) * t ^ m := by
              rw [Nat.add_mul, Nat.one_mul]
              have := Nat.pow_pos (n := m) ht0
              omega
            omega
          omega
        have h7 : p + 1 < t ^ (f + 1) := by
          have : t * (p / t + 1) ≤ t * t ^ f := Nat.mul_le_mul_left _ h3
          rw [Nat.pow_succ, Nat.mul_comm (t ^ f)]
          omega
        rw [hp, ← hfm, Nat.pow_add]
        exact Nat.mul_lt_mul_of_pos_right h7 (Nat.pow_pos ht0)
      subst hR
      exact ⟨g', rfl, .inl ⟨hlt2, rfl, hA'⟩⟩
    · refine s_idx rfl (by omega) (by omega) ?_
      simp -implicitDefEqProofs only [go_sem, Nat.reduceBEq, Nat.reduceAdd, Nat.reduceSub, Nat.reduceMul, Nat.reduceLeDiff, reduceCtorEq, ↓reduceIte, Int.reduceLT, Int.reduceLE, Int.reduceEq, Int.reduceNe]
      refine s_storeA (ix := 0) (α := Int) (0 : Int) rfl hA1 hfl ?_
      intro g' hA' _
      simp -implicitDefEqProofs only [go_sem, Nat.reduceBEq, Nat.reduceAdd, Nat.reduceSub, Nat.reduceMul, Nat.reduceLeDiff, reduceCtorEq, ↓reduceIte, Int.reduceLT, Int.reduceLE, Int.reduceEq, Int.reduceNe]
      simp (disch := omega) only [wrap_id]
      rw [hset] at hA'
      refine ⟨f, by omega, Up.here ⟨g', p / t, m + 1, rfl, rfl, by omega, ?_, ?_⟩⟩
      · have : p + 1 = (p / t + 1) * t := by rw [Nat.add_mul, Nat.mul_comm]; omega
        rw [hp, this, Nat.pow_succ, Nat.mul_assoc, Nat.mul_comm t]
      · rw [List.append_assoc] at hA'
        exact hA'
  · have hf : f = 0 := by omega
    subst hf
    subst hR
    refine ⟨g1, rfl, .inr ⟨?_, rfl, _, hA1⟩⟩
    have hmk : m = k := by omega
    subst hmk
    have : t ^ m ≤ (p + 1) * t ^ m := Nat.le_mul_of_pos_left _ (by omega)
    omega
end Go.Proofs.Ytniobbepliknmaa.V
/- Small numbers as sets of bits; no condition. -/
namespace Go.Proofs.Ytniobbepliknmaa.V
open Go
set_option linter.unusedVariables false
set_option linter.unusedSimpArgs false

def Uns (k : IntKind) : Prop := k = .u32 ∨ k = .u64
theorem wrapU {k : IntKind} (hk : Uns k) {n : Nat} (h : n < 4294967296) : k.wrap (n : Int) = (n : Int) := by
  rcases hk with rfl | rfl
  · rw [IntKind.wrap_u32]; omega
  · rw [IntKind.wrap_u64]; omega
theorem ofIntU {k : IntKind} (hk : Uns k) {n : Nat} (h : n < 4294967296) : (BitVec.ofInt k.bits (n : Int)).toNat = n := by
  rw [BitVec.ofInt_natCast, BitVec.toNat_ofNat]
  apply Nat.mod_eq_of_lt
  rcases hk with rfl | rfl <;> simp [IntKind.bits] <;> omega
theorem lt_of_bits {z m : Nat} (h : ∀ i, m ≤ i → z.testBit i = false) : z < 2 ^ m := by
  apply Nat.lt_pow_two_of_testBit
  exact h
theorem bit_and {k : IntKind} (hk : Uns k) {x y : Nat} (hx : x < 4294967296) (hy : y < 4294967296) : fnV (.bits .and) [.int k x, .int k y] = some (.int k ((x &&& y : Nat) : Int)) := by
  have hb : (k == k) = true := by cases k <;> rfl
  simp only [fnV, hb, cond_true]
  rw [BitVec.toNat_and, ofIntU hk hx, ofIntU hk hy, wrapU hk]
  exact Nat.lt_of_le_of_lt Nat.and_le_left hx
theorem bit_or {k : IntKind} (hk : Uns k) {x y : Nat} (hx : x < 4294967296) (hy : y < 4294967296) : fnV (.bits .or) [.int k x, .int k y] = some (.int k ((x ||| y : Nat) : Int)) := by
  have hb : (k == k) = true := by cases k <;> rfl
  simp only [fnV, hb, cond_true]
  rw [BitVec.toNat_or, ofIntU hk hx, ofIntU hk hy, wrapU hk]
  exact Nat.or_lt_two_pow (n := 32) hx hy
def bdiff (x y : Nat) : Nat := x &&& (4294967295 - y)
theorem bdiff_test {x y : Nat} (hx : x < 4294967296) (hy : y < 4294967296) (i : Nat) : (bdiff x y).testBit i = (x.testBit i && !y.testBit i) := by
  unfold bdiff
  rw [Nat.testBit_and]
  have h := Nat.testBit_two_pow_sub_succ (n := 32) (x := y) hy i
  rw [show (2 ^ 32 : Nat) - (y + 1) = 4294967295 - y by omega] at h
  rw [h]
  by_cases hi : i < 32
  · simp [hi]
  · have : x.testBit i = false := Nat.testBit_lt_two_pow (Nat.lt_of_lt_of_le hx (Nat.pow_le_pow_right (n := 2) (i := 32) (by omega) (by omega)))
    simp [this]
theorem bit_diff {k : IntKind} (hk : Uns k) {x y : Nat} (hx : x < 4294967296) (hy : y < 4294967296) : fnV (.bits .andNot) [.int k x, .int k y] = some (.int k ((bdiff x y : Nat) : Int)) := by
  have hb : (k == k) = true := by cases k <;> rfl
  simp only [fnV, hb, cond_true]
  have : (BitVec.ofInt k.bits (x : Int) &&& ~~~(BitVec.ofInt k.bits (y : Int))).toNat = bdiff x y := by
    apply Nat.eq_of_testBit_eq
    intro i
    rw [bdiff_test hx hy, BitVec.toNat_and, Nat.testBit_and, ofIntU hk hx]
    by_cases e : x.testBit i = true
    · have hi : i < 32 := by
        apply Classical.byContradiction
        intro q
        have : x.testBit i = false := Nat.testBit_lt_two_pow (Nat.lt_of_lt_of_le hx (Nat.pow_le_pow_right (n := 2) (i := 32) (by omega) (by omega)))
        rw [this] at e
        cases e
      rw [BitVec.testBit_toNat, BitVec.getLsbD_not, ← BitVec.testBit_toNat, ofIntU hk hy]
      have : i < k.bits := by rcases hk with rfl | rfl <;> simp [IntKind.bits] <;> omega
      simp [this]
    · have e : x.testBit i = false := by simpa using e
      simp [e]
  rw [this, wrapU hk]
  exact Nat.lt_of_le_of_lt Nat.and_le_left hx
theorem bit_shl {k : IntKind} (hk : Uns k) {i : Nat} (hi : i < 32) : ishiftV .shl k 1 (i : Int) = .int k ((2 ^ i : Nat) : Int) := by
  have h1 : min i k.bits = i := by rcases hk with rfl | rfl <;> simp [IntKind.bits] <;> omega
  simp only [ishiftV, Int.toNat_natCast, h1, Int.one_mul]
  have : (2 : Int) ^ i = ((2 ^ i : Nat) : Int) := by simp
  rw [this, wrapU hk]
  exact Nat.pow_lt_pow_right (a := 2) (n := 32) (by omega) hi
theorem bit_shr {k : IntKind} (hk : Uns k) {x i : Nat} (hx : x < 4294967296) : ishiftV .shr k (x : Int) (i : Int) = .int k ((x >>> i : Nat) : Int) := by
  simp only [ishiftV, Int.toNat_natCast]
  congr 1
  have hc : (2 : Int) ^ min i k.bits = ((2 ^ min i k.bits : Nat) : Int) := by simp
  rw [hc, Int.fdiv_eq_ediv_of_nonneg _ (Int.natCast_nonneg _), Nat.shiftRight_eq_div_pow]
  rcases Nat.le_total i k.bits with h | h
  · rw [Nat.min_eq_left h]; rfl
  · rw [Nat.min_eq_right h]
    have hb : 32 ≤ k.bits := by rcases hk with rfl | rfl <;> simp [IntKind.bits]
    have h1 : x / 2 ^ k.bits = 0 := Nat.div_eq_of_lt (Nat.lt_of_lt_of_le hx (Nat.pow_le_pow_right (n := 2) (i := 32) (by omega) hb))
    have h2 : x / 2 ^ i = 0 := Nat.div_eq_of_lt (Nat.lt_of_lt_of_le hx (Nat.pow_le_pow_right (n := 2) (i := 32) (by omega) (by omega)))
    rw [h2, ← Int.natCast_ediv, h1]
theorem shr_and (x i : Nat) : (x >>> i) &&& 1 = (x.testBit i).toNat := by
  unfold Nat.testBit
  rw [Nat.and_comm, Nat.one_and_eq_mod_two]
  rcases Nat.mod_two_eq_zero_or_one (x >>> i) with h | h <;> simp [h]
/-- x >> i & 1 -/
theorem bit_get {k : IntKind} (hk : Uns k) {x i : Nat} (hx : x < 4294967296) : fnV (.bits .and) [.int k ((x >>> i : Nat) : Int), .int k 1] = some (.int k (((x.testBit i).toNat : Nat) : Int)) := by
  have := bit_and hk (x := x >>> i) (y := 1) (by
    rw [Nat.shiftRight_eq_div_pow]
    exact Nat.lt_of_le_of_lt (Nat.div_le_self _ _) hx) (by omega)
  rw [shr_and] at this
  exact this
theorem bit_zero {x : Nat} : x = 0 ↔ ∀ i, x.testBit i = false := by
  constructor
  · rintro rfl i; simp
  · intro h; apply Nat.eq_of_testBit_eq; intro i; rw [h]; simp
theorem bdiff_zero {x y : Nat} (hx : x < 4294967296) (hy : y < 4294967296) : bdiff x y = 0 ↔ ∀ i, x.testBit i = true → y.testBit i = true := by
  rw [bit_zero]
  constructor
  · intro h i hi
    have := h i
    rw [bdiff_test hx hy, hi] at this
    simpa using this
  · intro h i
    rw [bdiff_test hx hy]
    cases e : x.testBit i
    · rfl
    · simp [h i e]
/-- words of 32 bits -/
structure U32 where
  n : Nat
structure U64 where
  n : Nat
instance : Sc U32 := ⟨fun x => .int .u32 x.n, fun _ => rfl, fun _ => rfl⟩
instance : Sc U64 := ⟨fun x => .int .u64 x.n, fun _ => rfl, fun _ => rfl⟩
end Go.Proofs.Ytniobbepliknmaa.V
/- Grids: rows of rows that are made and changed; no condition. -/
namespace Go.Proofs.Ytniobbepliknmaa.V
open Go
set_option linter.unusedVariables false
set_option linter.unusedSimpArgs false
set_option linter.unusedSectionVars false
attribute [local go_sem] e_seq e_region e_quiet e_join e_loop e_cond e_block e_exit e_ret e_skip e_fin e_kseq e_snrm e_sret e_sex e_bnrm e_bret e_bex e_rnrm e_rret e_res e_condC e_nil e_g e_mv g_mv e_pick g_pick pickC_eq e_ibin g_ibin ibinC_eq e_sbin g_sbin e_beq g_beq beqC_eq e_nilq g_nilq nilqC_sl nilqC_pt nilqC_mp e_un g_un unC_not unC_neg e_conv g_conv convC_eq e_fld g_fld fldC_ref fldC_ptr e_nilCheck g_nilCheck nilCheckC_ref nilCheckC_ptr nilCheckC_fun e_field g_field fieldC_eq e_len g_len lenC_sl lenC_str e_extract g_extract extractC_eq e_mkFunc e_build g_build e_idiv g_idiv idivC_eq e_ishift g_ishift ishiftC_eq e_idx g_idx e_idxA g_idxA e_load g_load loadC_ref loadC_ptr loadB_eq e_slc g_slc e_box boxC_loc boxC_esc e_alloc allocC_loc allocC_esc e_buildS e_store storeC_ref storeC_ptr storeB_eq e_append e_appz e_mk mkC_eq e_call callC_eq e_fn g_fn fnC_eq fnV_min' fnV_max' fnV_rune' e_q g_q e_a e_n g_call g_box g_alloc g_buildS g_store g_append g_mk g_a g_n g_dead e_dead e_callK e_drawn e_tree e_finJ e_tk e_tfin e_tno e_nbt_q e_nbt_qn e_nbt_a e_nbt_an e_nbt_fin e_early_nil e_early_t e_early_f e_nob_nil e_nob_none e_nob_some isBox_dead isBox_v isBox_ref e_dnil e_dk e_ek e_finB vcOps_vc1 e_dcons e_tq e_ekt e_tearly e_talt e_dearly look_nil look_c proj_nil proj_c looks_nil looks_c zip_nil zip_c val_tmp val_const val_func slv_v slv_box slv_ref slot_tmp slot_const slot_func slotL_v slotL_box slotL_ref put_some put_none updBox_c boxSet_box gd_eq slotVals_nil slotVals_c slotVals_b boxV_box boxOn_box slotsOn_nil slotsOn_c slotsOn_b resV_one resV_two vals_nil vals_c allOn_nil allOn_c partOn_nil partOn_c partVals_nil partVals_c fits_nil fits_c fillL_nil fillL_c mkv_one mkv_agg cellsV_agg cellsV_int cellsV_bool cellsV_slice cellsV_string cellsV_pointer cellsV_func cellsV_nilf cellsV_map one'_nil one'_c oc_int oc_bool oc_slice oc_string oc_pointer oc_func oc_nilf oc_map setC_eq iv_add iv_sub iv_mul iv_eql iv_neq iv_lss iv_leq iv_gtr iv_geq iok_add iok_sub iok_mul iok_eql iok_neq iok_lss iok_leq iok_gtr iok_geq pickV_bool args0_nil args0_c bnd_none bnd_some imp_bt imp_bf imp_ebt imp_ebf imp_eb1 imp_np imp_pp beq_tt beq_tf beq_ft beq_ff cond_or cond_and e_round e_meet Int.le_refl Int.toNat_zero decide_true decide_false Bool.or_false Bool.false_or Bool.true_or Bool.or_true Bool.and_false Bool.false_and Bool.bne_false Bool.bne_true beq_iff_eq Int.cast_ofNat_Int not_false_eq_true not_true_eq_false false_and and_false false_implies true_implies true_and and_true Bool.true_and Bool.and_true Bool.not_true Bool.not_false forall_const implies_true List.take_zero List.drop_zero List.take_succ_cons List.drop_succ_cons List.take_nil List.drop_nil List.length_cons List.length_nil List.nil_append List.append_nil List.cons_append Int.toNat_natCast decide_eq_true_eq decide_eq_false_iff_not cond_true cond_false and_self List.getElem?_cons_zero List.getElem?_cons_succ List.set_cons_zero List.set_cons_succ Option.some.injEq exists_eq_left' Nat.zero_add Nat.add_zero Nat.mul_one imp_self true_or or_true or_false false_or Bool.or_eq_true Bool.or_eq_false_iff Bool.and_eq_true Bool.and_eq_false_iff Bool.not_eq_true' Bool.not_eq_false'

section
variable {α : Type} [Sc α]
def gcell (p : Option Nat × List α) : Value := match p.1 with
  | none => .slice none 0 0
  | some k => .slice (some ⟨k, 0, none⟩) p.2.length p.2.length
structure GridB (g : PH) (b : Nat) (T e : TypeId) (ps : List (Option Nat × List α)) : Prop where
  out : g b = some (.cells (ps.map gcell).toArray T (0, 0))
  row : ∀ (i k : Nat) xs, ps[i]? = some (some k, xs) → k ≠ b ∧ g k = some (.cells (xs.map Sc.enc).toArray e (0, 0)) ∧ xs.length ≤ 1000000
  nil : ∀ (i : Nat) xs, ps[i]? = some (none, xs) → xs = []
  apart : ∀ (i j k : Nat) xs ys, ps[i]? = some (some k, xs) → ps[j]? = some (some k, ys) → i = j
  short : ps.length ≤ 1000000
/-- the rows of a grid whose outer array is b -/
def Grid (g : PH) (b : Nat) (T e : TypeId) (rows : List (List α)) : Prop := ∃ ps, GridB g b T e ps ∧ rows = ps.map (·.2)

theorem Grid.made (b : Nat) (T e : TypeId) {m : Nat} (hm : m ≤ 1000000) : Grid (one b (.cells (zerosL [Value.slice none 0 0] m).toArray T)) b T e (List.replicate m ([] : List α)) := by
  refine ⟨List.replicate m (none, []), ⟨?_, ?_, ?_, ?_, by simpa using hm⟩, by simp⟩
  · rw [one_self]
    congr 3
    induction m with
    | zero => rfl
    | succ m ih => simp [zerosL, List.replicate_succ, gcell, ih (by omega)]
  · intro i k xs h
    rw [List.getElem?_replicate] at h
    split at h <;> simp at h
  · intro i xs h
    rw [List.getElem?_replicate] at h
    split at h <;> simp at h
    exact h
  · intro i j k xs ys h
    rw [List.getElem?_replicate] at h
    split at h <;> simp at h
theorem Grid.mono {g g' : PH} {b : Nat} {T e : TypeId} {rows : List (List α)} (h : Grid g b T e rows) (hl : Mem.le (lk [g]) (lk [g'])) : Grid g' b T e rows := by
  obtain ⟨ps, h, rfl⟩ := h
  have up : ∀ k o, g k = some o → g' k = some o := fun k o q => lk_one.1 (hl _ _ (lk_one.2 q))
  exact ⟨ps, ⟨up _ _ h.out, fun i k xs q => let ⟨a, b, c⟩ := h.row i k xs q; ⟨a, up _ _ b, c⟩, h.nil, h.apart, h.short⟩, rfl⟩
theorem Grid.short {g : PH} {b : Nat} {T e : TypeId} {rows : List (List α)} (h : Grid g b T e rows) : rows.length ≤ 1000000 := by
  obtain ⟨ps, h, rfl⟩ := h
  simpa using h.short
theorem Grid.slok {g : PH} {b : Nat} {T e : TypeId} {rows : List (List α)} {L : Mem} (h : Grid g b T e rows) (hL : Mem.le (lk [g]) L) : SlOk L (some ⟨b, 0, none⟩) rows.length rows := by
  have hs := h.short
  obtain ⟨ps, h, rfl⟩ := h
  refine ⟨Nat.le_refl _, by unfold maxLen; omega, by omega, .inr ⟨b, 0, _, T, _, rfl, hL _ _ (lk_one.2 h.out), fun i x hi => ?_⟩⟩
  rw [List.getElem?_map] at hi
  cases hp : ps[i]? with
  | none => rw [hp] at hi; simp at hi
  | some p =>
    obtain ⟨o, xs⟩ := p
    rw [hp] at hi
    simp only [Option.map_some, Option.some.injEq] at hi
    subst hi
    refine ⟨[gcell (o, xs)], ?_, fun j hj => ?_⟩
    · cases o with
      | none =>
        have := h.nil i xs hp
        subst this
        exact ⟨none, 0, rfl, SlOk.nil⟩
      | some k =>
        obtain ⟨h1, h2, h3⟩ := h.row i k xs hp
        exact ⟨_, _, rfl, Arr.slok (g := g) (b := k) (T := e) h2 hL (Nat.le_refl _) (by unfold maxLen; show xs.length ≤ _; omega) (by omega)⟩
    · have : j = 0 := by simp [Rep.sz] at hj; exact hj
      subst this
      simp [Rep.sz, hp]
/-- rows[i] is to be changed -/
theorem Grid.at' {g : PH} {b : Nat} {T e : TypeId} {rows : List (List α)} (h : Grid g b T e rows) {i : Nat} (hi : i < rows.length) (hpos : 0 < rows[i].length) :
    ∃ k, (∀ Γ : Ctx, g ∈ Γ → Cells Γ b i [.slice (some ⟨k, 0, none⟩) rows[i].length rows[i].length]) ∧ Arr g k e rows[i] ∧
      ∀ g' (xs : List α), Arr g' k e xs → xs.length = rows[i].length → (∀ x, x ≠ k → g' x = g x) → Grid g' b T e (rows.set i xs) := by
  obtain ⟨ps, h, rfl⟩ := h
  have hi' : i < ps.length := by simpa using hi
  obtain ⟨o, xs, hp⟩ : ∃ o xs, ps[i]? = some (o, xs) := ⟨_, _, List.getElem?_eq_getElem hi'⟩
  have hx : (ps.map (·.2))[i] = xs := by
    have := (List.getElem?_eq_some_iff.1 hp).2
    simp [this]
  simp only [hx] at hpos ⊢
  cases o with
  | none => have := h.nil i xs hp; subst this; simp at hpos
  | some k =>
    obtain ⟨h1, h2, h3⟩ := h.row i k xs hp
    refine ⟨k, fun Γ hg => ⟨g, hg, _, T, _, h.out, fun j hj => ?_⟩, h2, fun g' ys hA hl ho => ?_⟩
    · have : j = 0 := by simp at hj; exact hj
      subst this
      simp [hp, gcell]
    · have hset : ∀ j, (ps.set i (some k, ys))[j]? = if i = j then some (some k, ys) else ps[j]? := fun j => by
        rw [List.getElem?_set]
        by_cases e : i = j
        · subst e; simp [hi']
        · simp [e]
      refine ⟨ps.set i (some k, ys), ⟨?_, ?_, ?_, ?_, by simpa using h.short⟩, by simp [List.map_set]⟩
      · rw [ho b (fun q => h1 q.symm), h.out]
        congr 3
        apply List.ext_getElem?
        intro j
        rw [List.getElem?_map, List.getElem?_map, hset]
        by_cases e : i = j
        · subst e
          simp [hp, gcell, hl]
        · simp [e]
      · intro j m zs hj
        rw [hset] at hj
        by_cases e : i = j
        · subst e
          simp only [if_true, Option.some.injEq, Prod.mk.injEq] at hj
          obtain ⟨rfl, rfl⟩ := hj
          exact ⟨h1, hA, by omega⟩
        · rw [if_neg e] at hj
          obtain ⟨q1, q2, q3⟩ := h.row j m zs hj
          have hm : m ≠ k := fun q => by subst q; exact e (h.apart i j m xs zs hp hj)
          exact ⟨q1, by rw [ho m hm]; exact q2, q3⟩
      · intro j zs hj
        rw [hset] at hj
        by_cases e : i = j
        · subst e; simp at hj
        · rw [if_neg e] at hj; exact h.nil j zs hj
      · intro j j' m zs zs' hj hj'
        rw [hset] at hj hj'
        by_cases e : i = j
        · subst e
          simp only [if_true, Option.some.injEq, Prod.mk.injEq] at hj
          obtain ⟨rfl, rfl⟩ := hj
          by_cases e' : i = j'
          · exact e'
          · rw [if_neg e'] at hj'
            exact h.apart i j' k xs zs' hp hj'
        · rw [if_neg e] at hj
          by_cases e' : i = j'
          · subst e'
            simp only [if_true, Option.some.injEq, Prod.mk.injEq] at hj'
            obtain ⟨rfl, rfl⟩ := hj'
            exact h.apart j i k zs xs hj hp
          · rw [if_neg e'] at hj'
            exact h.apart j j' m zs zs' hj hj'
/-- a new row, whose array lies elsewhere, is put in -/
theorem Grid.put {g : PH} {b : Nat} {T e : TypeId} {rows : List (List α)} (h : Grid g b T e rows) {i : Nat} (hi : i < rows.length) (k : Nat) (xs : List α) (hl : xs.length ≤ 1000000) {cs : List Value} (hc : g b = some (.cells cs.toArray T (0, 0)))
    {x2 G : PH} (hA : Arr x2 k e xs) (hd : Disj x2 (upd g b (.cells (setC cs i 1 (.slice (some ⟨k, 0, none⟩) xs.length xs.length)).toArray T))) (hG : Mem.le (lk [x2, upd g b (.cells (setC cs i 1 (.slice (some ⟨k, 0, none⟩) xs.length xs.length)).toArray T)]) (lk [G])) :
    Grid G b T e (rows.set i xs) := by
  obtain ⟨ps, h, rfl⟩ := h
  have hi' : i < ps.length := by simpa using hi
  have hcs : cs = ps.map gcell := by
    have := h.out
    rw [hc] at this
    simpa using this
  subst hcs
  have up1 : ∀ j o, x2 j = some o → G j = some o := fun j o q => lk_one.1 (hG _ _ ⟨x2, by simp, q⟩)
  have up2 : ∀ j o, upd g b (.cells (setC (ps.map gcell) i 1 (.slice (some ⟨k, 0, none⟩) xs.length xs.length)).toArray T) j = some o → G j = some o := fun j o q => lk_one.1 (hG _ _ ⟨_, by simp, q⟩)
  have hkg : ∀ j, j = b ∨ g j ≠ none → j ≠ k := fun j hj q => by
    subst q
    rcases hd j with q | q
    · rw [Arr] at hA; rw [hA] at q; cases q
    · rcases hj with rfl | hj
      · rw [upd_self] at q; cases q
      · by_cases e : j = b
        · subst e; rw [upd_self] at q; cases q
        · rw [upd_other e] at q; exact hj q
  have hset : ∀ j, (ps.set i (some k, xs))[j]? = if i = j then some (some k, xs) else ps[j]? := fun j => by
    rw [List.getElem?_set]
    by_cases e : i = j
    · subst e; simp [hi']
    · simp [e]
  refine ⟨ps.set i (some k, xs), ⟨?_, ?_, ?_, ?_, by simpa using h.short⟩, by simp [List.map_set]⟩
  · rw [up2 b _ (upd_self _ _ _)]
    congr 3
    rw [List.map_set, List.set_eq_take_append_cons_drop, if_pos (by simpa using hi')]
    simp [setC, cellsV, gcell, Value.cells]
  · intro j m zs hj
    rw [hset] at hj
    by_cases e : i = j
    · subst e
      simp only [if_true, Option.some.injEq, Prod.mk.injEq] at hj
      obtain ⟨rfl, rfl⟩ := hj
      exact ⟨fun q => hkg b (.inl rfl) q.symm, up1 _ _ hA, hl⟩
    · rw [if_neg e] at hj
      obtain ⟨q1, q2, q3⟩ := h.row j m zs hj
      exact ⟨q1, up2 _ _ (by rw [upd_other q1]; exact q2), q3⟩
  · intro j zs hj
    rw [hset] at hj
    by_cases e : i = j
    · subst e; simp at hj
    · rw [if_neg e] at hj; exact h.nil j zs hj
  · intro j j' m zs zs' hj hj'
    rw [hset] at hj hj'
    by_cases e : i = j
    · subst e
      simp only [if_true, Option.some.injEq, Prod.mk.injEq] at hj
      obtain ⟨rfl, rfl⟩ := hj
      by_cases e' : i = j'
      · exact e'
      · rw [if_neg e'] at hj'
        have := (h.row j' k zs' hj').2.1
        exact absurd rfl (hkg k (.inr (by rw [this]; simp)))
    · rw [if_neg e] at hj
      by_cases e' : i = j'
      · subst e'
        simp only [if_true, Option.some.injEq, Prod.mk.injEq] at hj'
        obtain ⟨rfl, rfl⟩ := hj'
        have := (h.row j k zs hj).2.1
        exact absurd rfl (hkg k (.inr (by rw [this]; simp)))
      · rw [if_neg e'] at hj'
        exact h.apart j j' m zs zs' hj hj'
end
section
variable {P : Program} {Γr : Ctx} {d : Option Nat} {r : List SOper} {φ : Fr} {Γ : Ctx} {K : Fr → Ctx → Prop}
/-- rows[i] = make(..) -/
theorem s_storeG {α : Type} [Sc α] {g : PH} {b i ix k n : Nat} {T e : TypeId} {rows : List (List α)} (xs : List α) (hn : n = xs.length) (hg : Γ[ix]? = some g) (h : Grid g b T e rows) (hi : i < rows.length) (hl : xs.length ≤ 1000000)
    (hk : ∀ g', (∀ x2 G, Arr x2 k e xs → Disj x2 g' → Mem.le (lk [x2, g']) (lk [G]) → Grid G b T e (rows.set i xs)) → vcOps P Γr r φ (Γ.set ix g') K) : storeP P Γr r φ Γ K 1 b i (.slice (some ⟨k, 0, none⟩) n n) := by
  subst hn
  obtain ⟨ps, hB, hr⟩ := id h
  refine ⟨ix, g, _, T, hg, hB.out, by subst hr; simp at hi ⊢; omega, ?_⟩
  exact hk _ fun x2 G hA hd hG => h.put hi k xs hl hB.out hA hd hG
end
end Go.Proofs.Ytniobbepliknmaa.V
/- The text of (*parlance/mean.ends).after as a statement (slots: 0 e, 1 y, 2 from, 3 e, 4 y, 5 from, 7 out, 8 i); no condition. -/
namespace Go.Proofs.Ytniobbepliknmaa.V
open Go
def S206_1 : Stmt :=
  Stmt.block 1
  (Stmt.seq
    (Stmt.seq
      (Stmt.region
        [SOper.mk (some 18) none (SOp.mv (Operand.tmp 2)), SOper.mk (some 19) none (SOp.mv (Operand.tmp 8)),
          SOper.mk (some 20) none (SOp.ishift BinOp.shr (Operand.tmp 18) (Operand.tmp 19)),
          SOper.mk (some 21) none
            (SOp.fn (Fk.bits BinOp.and) [Operand.tmp 20, Operand.const (Value.int IntKind.u32 1)]),
          SOper.mk (some 22) none (SOp.ibin BinOp.eql (Operand.tmp 21) (Operand.const (Value.int IntKind.u32 0)))]
        [0, 2, 4, 7, 8, 22])
      (Stmt.cond (Operand.tmp 22) (Stmt.exit 1) Stmt.skip))
    (Stmt.block 2
      (Stmt.seq
        (Stmt.region
          [SOper.mk (some 24) none (SOp.fld 0 (Operand.tmp 4)),
            SOper.mk (some 25) none (SOp.load false 1 (Operand.tmp 24)),
            SOper.mk (some 26) none (SOp.un UnOp.not (Operand.tmp 25)),
            SOper.mk (some 23) none (SOp.mv (Operand.tmp 26))]
          [0, 2, 4, 7, 8, 23])
        (Stmt.cond (Operand.tmp 23)
          (Stmt.quiet
            [SOper.mk (some 27) none (SOp.mv (Operand.tmp 7)), SOper.mk (some 28) none (SOp.mv (Operand.tmp 0)),
              SOper.mk (some 29) none (SOp.nilCheck (Operand.tmp 28)),
              SOper.mk (some 30) none (SOp.fld 5 (Operand.tmp 29)),
              SOper.mk (some 31) none (SOp.load false 1 (Operand.tmp 30)),
              SOper.mk (some 32) none (SOp.fld 1 (Operand.tmp 4)),
              SOper.mk (some 33) none (SOp.load false 1 (Operand.tmp 32)),
              SOper.mk (some 34) none (SOp.idx 1 (Operand.tmp 31) (Operand.tmp 33)),
              SOper.mk (some 35) none (SOp.load false 1 (Operand.tmp 34)),
              SOper.mk (some 36) none (SOp.mv (Operand.tmp 8)),
              SOper.mk (some 37) none (SOp.idx 1 (Operand.tmp 35) (Operand.tmp 36)),
              SOper.mk (some 38) none (SOp.load false 1 (Operand.tmp 37)),
              SOper.mk (some 39) none (SOp.fn (Fk.bits BinOp.or) [Operand.tmp 27, Operand.tmp 38]),
              SOper.mk (some 7) none (SOp.mv (Operand.tmp 39))]
            [0, 2, 4, 7, 8])
          (Stmt.seq
            (Stmt.quiet
              [SOper.mk (some 41) none (SOp.mv (Operand.tmp 8)), SOper.mk (some 42) none (SOp.mv (Operand.tmp 0)),
                SOper.mk (some 43) none (SOp.nilCheck (Operand.tmp 42)),
                SOper.mk (some 44) none (SOp.fld 4 (Operand.tmp 43)),
                SOper.mk (some 45) none (SOp.load false 1 (Operand.tmp 44)),
                SOper.mk (some 46) none (SOp.len false (Operand.tmp 45)),
                SOper.mk (some 47) none (SOp.ibin BinOp.lss (Operand.tmp 41) (Operand.tmp 46)),
                SOper.mk (some 48) none (SOp.mv (Operand.tmp 47)),
                SOper.mk (some 49) (some (48, true)) (SOp.mv (Operand.tmp 0)),
                SOper.mk (some 50) (some (48, true)) (SOp.nilCheck (Operand.tmp 49)),
                SOper.mk (some 51) (some (48, true)) (SOp.fld 4 (Operand.tmp 50)),
                SOper.mk (some 52) (some (48, true)) (SOp.load false 1 (Operand.tmp 51)),
                SOper.mk (some 53) (some (48, true)) (SOp.mv (Operand.tmp 8)),
                SOper.mk (some 54) (some (48, true)) (SOp.idx 1 (Operand.tmp 52) (Operand.tmp 53)),
                SOper.mk (some 55) (some (48, true)) (SOp.load false 1 (Operand.tmp 54)),
                SOper.mk (some 56) (some (48, true)) (SOp.fld 1 (Operand.tmp 4)),
                SOper.mk (some 57) (some (48, true)) (SOp.load false 1 (Operand.tmp 56)),
                SOper.mk (some 58) (some (48, true)) (SOp.ibin BinOp.eql (Operand.tmp 55) (Operand.tmp 57)),
                SOper.mk (some 59) none (SOp.pick (Operand.tmp 48) (Operand.tmp 58) (Operand.const (Value.bool false))),
                SOper.mk (some 40) none (SOp.mv (Operand.tmp 59))]
              [0, 2, 4, 7, 8, 40])
            (Stmt.cond (Operand.tmp 40)
              (Stmt.region
                [SOper.mk (some 60) none (SOp.mv (Operand.tmp 7)), SOper.mk (some 61) none (SOp.mv (Operand.tmp 8)),
                  SOper.mk (some 62) none
                    (SOp.ibin BinOp.add (Operand.tmp 61) (Operand.const (Value.int IntKind.i64 1))),
                  SOper.mk (some 63) none
                    (SOp.ishift BinOp.shl (Operand.const (Value.int IntKind.u32 1)) (Operand.tmp 62)),
                  SOper.mk (some 64) none (SOp.fn (Fk.bits BinOp.or) [Operand.tmp 60, Operand.tmp 63]),
                  SOper.mk (some 7) none (SOp.mv (Operand.tmp 64))]
                [0, 2, 4, 7, 8])
              Stmt.skip))))))
def S206_2 : Stmt :=
  Stmt.region
  [SOper.mk (some 16) none (SOp.mv (Operand.tmp 8)),
    SOper.mk (some 17) none (SOp.ibin BinOp.add (Operand.tmp 16) (Operand.const (Value.int IntKind.i64 1))),
    SOper.mk (some 8) none (SOp.mv (Operand.tmp 17))]
  [0, 2, 4, 7, 8]
def S206_3 : Stmt :=
  Stmt.seq
  (Stmt.seq
    (Stmt.region
      [SOper.mk (some 9) none (SOp.mv (Operand.tmp 8)), SOper.mk (some 10) none (SOp.mv (Operand.tmp 0)),
        SOper.mk (some 11) none (SOp.nilCheck (Operand.tmp 10)), SOper.mk (some 12) none (SOp.fld 4 (Operand.tmp 11)),
        SOper.mk (some 13) none (SOp.load false 1 (Operand.tmp 12)),
        SOper.mk (some 14) none (SOp.len false (Operand.tmp 13)),
        SOper.mk (some 15) none (SOp.ibin BinOp.leq (Operand.tmp 9) (Operand.tmp 14))]
      [0, 2, 4, 7, 8, 15])
    (Stmt.cond (Operand.tmp 15) Stmt.skip (Stmt.exit 0)))
  (Stmt.join S206_1 S206_2 [7] [0, 2, 4, 8])
def S206_0 : Stmt :=
  Stmt.seq
  (Stmt.region
    [SOper.mk (some 4) none (SOp.box true 39 (Operand.tmp 1)),
      SOper.mk (some 6) none (SOp.mv (Operand.const (Value.int IntKind.u32 0)))]
    [0, 2, 4])
  (Stmt.seq (Stmt.region [SOper.mk (some 7) none (SOp.mv (Operand.const (Value.int IntKind.u32 0)))] [0, 2, 4, 7])
    (Stmt.seq
      (Stmt.seq
        (Stmt.region [SOper.mk (some 8) none (SOp.mv (Operand.const (Value.int IntKind.i64 0)))] [0, 2, 4, 7, 8])
        (Stmt.block 0 (Stmt.loop S206_3 [7, 8] [0, 2, 4])))
      (Stmt.seq
        (Stmt.region
          [SOper.mk (some 65) none (SOp.mv (Operand.tmp 7)), SOper.mk (some 6) none (SOp.mv (Operand.tmp 65))] [6])
        Stmt.ret)))
def S206 : FnS := ⟨66, [(6, none)], S206_0⟩
theorem tr206 : trFn Try.prog 206 [4] [[0, 2, 4], [0, 2, 4, 7], [0, 2, 4, 7, 8], [7, 8], [0, 2, 4], [0, 2, 4, 7, 8, 15], [7], [0, 2, 4, 8], [0, 2, 4, 7, 8, 22], [0, 2, 4, 7, 8, 23], [0, 2, 4, 7, 8], [0, 2, 4, 7, 8, 40], [0, 2, 4, 7, 8], [0, 2, 4, 7, 8], [6]] = some S206 := by kernel_rfl
end Go.Proofs.Ytniobbepliknmaa.V
/- The text of (*parlance/mean.ends).is as a statement (slots: 0 e, 1 y, 2 i, 3 j, 4 e, 5 y, 6 i, 7 j); no condition. -/
namespace Go.Proofs.Ytniobbepliknmaa.V
open Go
def S183_0 : Stmt :=
  Stmt.seq
  (Stmt.region
    [SOper.mk (some 5) none (SOp.box true 39 (Operand.tmp 1)),
      SOper.mk (some 8) none (SOp.mv (Operand.const (Value.bool false)))]
    [0, 2, 3, 5])
  (Stmt.seq
    (Stmt.drawn
      [(false, SOper.mk (some 9) none (SOp.mv (Operand.tmp 0))),
        (false, SOper.mk (some 10) none (SOp.load true 2 (Operand.tmp 5))),
        (false, SOper.mk (some 11) none (SOp.mv (Operand.tmp 2))),
        (false,
          SOper.mk (some 12) none (SOp.ishift BinOp.shl (Operand.const (Value.int IntKind.u32 1)) (Operand.tmp 11))),
        (false, SOper.mk (some 14) none (SOp.mv (Operand.tmp 3))),
        (false, SOper.mk (some 13) none (SOp.call (Operand.func 206) [Operand.tmp 9, Operand.tmp 10, Operand.tmp 12])),
        (false, SOper.mk (some 15) none (SOp.ishift BinOp.shr (Operand.tmp 13) (Operand.tmp 14))),
        (false,
          SOper.mk (some 16) none
            (SOp.fn (Fk.bits BinOp.and) [Operand.tmp 15, Operand.const (Value.int IntKind.u32 1)])),
        (false,
          SOper.mk (some 17) none (SOp.ibin BinOp.eql (Operand.tmp 16) (Operand.const (Value.int IntKind.u32 1)))),
        (false, SOper.mk (some 8) none (SOp.mv (Operand.tmp 17)))]
      [8])
    Stmt.ret)
def S183 : FnS := ⟨18, [(8, none)], S183_0⟩
theorem tr183 : trFn Try.prog 183 [5] [[0, 2, 3, 5], [8], [0, 1, 2, 3, 5, 4, 6, 7, 8, 9], [], [], [], [], [2], [0, 1, 2, 3], [], [0, 1, 2, 3, 4, 5], [0, 1, 2, 3, 4, 5, 6], [0, 1, 2, 3, 4, 5, 6, 7], [0, 1, 2, 3, 4, 5, 6, 7, 8]] = some S183 := by kernel_rfl
end Go.Proofs.Ytniobbepliknmaa.V
/- The ends of symbols in a word: mean's after and is; no condition. -/
namespace Go.Proofs.Ytniobbepliknmaa.V
open Go
set_option linter.unusedVariables false
set_option linter.unusedSimpArgs false
attribute [local go_sem] e_seq e_region e_quiet e_join e_loop e_cond e_block e_exit e_ret e_skip e_fin e_kseq e_snrm e_sret e_sex e_bnrm e_bret e_bex e_rnrm e_rret e_res e_condC e_nil e_g e_mv g_mv e_pick g_pick pickC_eq e_ibin g_ibin ibinC_eq e_sbin g_sbin e_beq g_beq beqC_eq e_nilq g_nilq nilqC_sl nilqC_pt nilqC_mp e_un g_un unC_not unC_neg e_conv g_conv convC_eq e_fld g_fld fldC_ref fldC_ptr e_nilCheck g_nilCheck nilCheckC_ref nilCheckC_ptr nilCheckC_fun e_field g_field fieldC_eq e_len g_len lenC_sl lenC_str e_extract g_extract extractC_eq e_mkFunc e_build g_build e_idiv g_idiv idivC_eq e_ishift g_ishift ishiftC_eq e_idx g_idx e_idxA g_idxA e_load g_load loadC_ref loadC_ptr loadB_eq e_slc g_slc e_box boxC_loc boxC_esc e_alloc allocC_loc allocC_esc e_buildS e_store storeC_ref storeC_ptr storeB_eq e_append e_appz e_mk mkC_eq e_call callC_eq e_fn g_fn fnC_eq fnV_min' fnV_max' fnV_rune' e_q g_q e_a e_n g_call g_box g_alloc g_buildS g_store g_append g_mk g_a g_n g_dead e_dead e_callK e_drawn e_tree e_finJ e_tk e_tfin e_tno e_nbt_q e_nbt_qn e_nbt_a e_nbt_an e_nbt_fin e_early_nil e_early_t e_early_f e_nob_nil e_nob_none e_nob_some isBox_dead isBox_v isBox_ref e_dnil e_dk e_ek e_finB vcOps_vc1 e_dcons e_tq e_ekt e_tearly e_talt e_dearly look_nil look_c proj_nil proj_c looks_nil looks_c zip_nil zip_c val_tmp val_const val_func slv_v slv_box slv_ref slot_tmp slot_const slot_func slotL_v slotL_box slotL_ref put_some put_none updBox_c boxSet_box gd_eq slotVals_nil slotVals_c slotVals_b boxV_box boxOn_box slotsOn_nil slotsOn_c slotsOn_b resV_one resV_two vals_nil vals_c allOn_nil allOn_c partOn_nil partOn_c partVals_nil partVals_c fits_nil fits_c fillL_nil fillL_c mkv_one mkv_agg cellsV_agg cellsV_int cellsV_bool cellsV_slice cellsV_string cellsV_pointer cellsV_func cellsV_nilf cellsV_map one'_nil one'_c oc_int oc_bool oc_slice oc_string oc_pointer oc_func oc_nilf oc_map setC_eq iv_add iv_sub iv_mul iv_eql iv_neq iv_lss iv_leq iv_gtr iv_geq iok_add iok_sub iok_mul iok_eql iok_neq iok_lss iok_leq iok_gtr iok_geq pickV_bool args0_nil args0_c bnd_none bnd_some imp_bt imp_bf imp_ebt imp_ebf imp_eb1 imp_np imp_pp beq_tt beq_tf beq_ft beq_ff cond_or cond_and e_round e_meet Int.le_refl Int.toNat_zero decide_true decide_false Bool.or_false Bool.false_or Bool.true_or Bool.or_true Bool.and_false Bool.false_and Bool.bne_false Bool.bne_true beq_iff_eq Int.cast_ofNat_Int not_false_eq_true not_true_eq_false false_and and_false false_implies true_implies true_and and_true Bool.true_and Bool.and_true Bool.not_true Bool.not_false forall_const implies_true List.take_zero List.drop_zero List.take_succ_cons List.drop_succ_cons List.take_nil List.drop_nil List.length_cons List.length_nil List.nil_append List.append_nil List.cons_append Int.toNat_natCast decide_eq_true_eq decide_eq_false_iff_not cond_true cond_false and_self List.getElem?_cons_zero List.getElem?_cons_succ List.set_cons_zero List.set_cons_succ Option.some.injEq exists_eq_left' Nat.zero_add Nat.add_zero Nat.mul_one imp_self true_or or_true or_false false_or Bool.or_eq_true Bool.or_eq_false_iff Bool.and_eq_true Bool.and_eq_false_iff Bool.not_eq_true' Bool.not_eq_false'

/-- the bits of a table -/
def Eb (rows : List (List U32)) (a : Int) (i j : Nat) : Prop := 0 ≤ a ∧ ∃ row x, rows[a.toNat]? = some row ∧ row[i]? = some x ∧ x.n.testBit j = true
structure TabOk (rows : List (List U32)) (n m : Nat) : Prop where
  len : rows.length = n
  row : ∀ r ∈ rows, r.length = m
  small : ∀ r ∈ rows, ∀ x ∈ r, x.n < 4294967296
theorem TabOk.at' {rows : List (List U32)} {n m : Nat} (h : TabOk rows n m) {a : Nat} (ha : a < rows.length) : rows[a].length = m := h.row _ (List.getElem_mem ha)
theorem SlOk.u32 {h : Mem} {A : Option Addr} {c : Nat} {xs : List U32} (q : SlOk h A c xs) {i : Nat} (hi : i < xs.length) :
    ∃ b o, A = some ⟨b, o, none⟩ ∧ ∀ Γ : Ctx, Mem.le h (lk Γ) → Cells Γ b (o + i) [.int .u32 xs[i].n] := by
  obtain ⟨b, o, hA, cs, h1, h2⟩ := q.get hi
  obtain rfl := ok_sc h1
  exact ⟨b, o, hA, fun Γ h => by simpa [Rep.sz, Sc.enc] using h2 Γ h⟩
/-- a record of ends -/
def endsV (g : Gr) (A : Option Addr) (c : Nat) (W : Option Addr) (d : Nat) (w : List Int) (O : Option Addr) (n e : Nat) : List Value := [.int .i64 g.ts, .int .i64 g.ns, .int .i64 g.st, .slice A g.rs.length c, .slice W w.length d, .slice O n e]
theorem SlOk.rowU {h : Mem} {A : Option Addr} {c : Nat} {xs : List (List U32)} (q : SlOk h A c xs) {i : Nat} (hi : i < xs.length) :
    ∃ b o, A = some ⟨b, o, none⟩ ∧ ∃ A' c', SlOk h A' c' xs[i] ∧ ∀ Γ : Ctx, Mem.le h (lk Γ) → Cells Γ b (o + i) [.slice A' xs[i].length c'] := q.list hi
theorem uns32 : Uns .u32 := .inl rfl
theorem uns64 : Uns .u64 := .inr rfl
theorem mean_after {Γr : Ctx} {b : Nat} {T : TypeId} {g : Gr} {A W O : Option Addr} {c d e : Nat} {w : List Int} {rows : List (List U32)} (hb : lk Γr b (.cells (endsV g A c W d w O rows.length e).toArray T (0, 0)))
    (hw : SlOk (lk Γr) W d w) (ho : SlOk (lk Γr) O e rows) {n : Nat} (hT : TabOk rows n (w.length + 1)) (hl : w.length ≤ 30) (y : Sy) (hy : y.t = false → 0 ≤ y.n ∧ y.n < n) (at_ : Nat) (hat : at_ < 4294967296) :
    Ret Try.prog 206 [.pointer (some ⟨b, 0, none⟩), .agg #[.bool y.t, .int .i64 y.n], .int .u32 at_] Γr [] (fun v Γ => Γ = [] ∧ ∃ z : Nat, v = .int .u32 z ∧ z < 4294967296 ∧ ∀ j, z.testBit j = true ↔ ∃ i, i ≤ w.length ∧ at_.testBit i = true ∧ Stp (Eb rows) w y i j) := by
  generalize hR : (fun (v : Value) (Γ : Ctx) => Γ = [] ∧ _) = R
  refine ret_of_vc tr206 (Nat.le_of_ble_eq_true rfl) ?_
  simp -implicitDefEqProofs only [S206, S206_0, go_sem, Nat.reduceBEq, Nat.reduceAdd, Nat.reduceSub, Nat.reduceMul, Nat.reduceLeDiff, reduceCtorEq, ↓reduceIte, Int.reduceLT, Int.reduceLE, Int.reduceEq, Int.reduceNe]
  intro b0
  refine s_loop (fun f vs Γ => Γ = [] ∧ ∃ (i z : Nat), vs = [.v true (.int .u32 z), .v true (.int .i64 i)] ∧ i + f = w.length + 1 ∧ z < 4294967296 ∧ ∀ j, z.testBit j = true ↔ ∃ i', i' < i ∧ at_.testBit i' = true ∧ Stp (Eb rows) w y i' j) (w.length + 1)
    (Up.here ⟨rfl, 0, 0, rfl, by omega, by omega, by simp⟩) ?_
  rintro f vs Γ ⟨rfl, i, z, rfl, hif, hz, hzj⟩
  simp -implicitDefEqProofs only [S206_3, go_sem, Nat.reduceBEq, Nat.reduceAdd, Nat.reduceSub, Nat.reduceMul, Nat.reduceLeDiff, reduceCtorEq, ↓reduceIte, Int.reduceLT, Int.reduceLE, Int.reduceEq, Int.reduceNe]
  refine s_ld (o := 0) (j := 4) (cells_lk (lk_r _ _ _ _ hb)) (by simp [endsV]) (by simp) ?_
  simp -implicitDefEqProofs only [endsV, go_sem, Nat.reduceBEq, Nat.reduceAdd, Nat.reduceSub, Nat.reduceMul, Nat.reduceLeDiff, reduceCtorEq, ↓reduceIte, Int.reduceLT, Int.reduceLE, Int.reduceEq, Int.reduceNe]
  refine ⟨fun hle => ?_, fun hgt => ?_⟩
  · have hi : i ≤ w.length := by omega
    refine s_split ?_
    simp -implicitDefEqProofs only [S206_1, S206_2, bit_shr uns32 hat, bit_get uns32 hat, fnC_eq, go_sem, Nat.reduceBEq, Nat.reduceAdd, Nat.reduceSub, Nat.reduceMul, Nat.reduceLeDiff, reduceCtorEq, ↓reduceIte, Int.reduceLT, Int.reduceLE, Int.reduceEq, Int.reduceNe]
    have fin : ∀ z' : Nat, z' < 4294967296 → (∀ j, z'.testBit j = true ↔ z.testBit j = true ∨ (at_.testBit i = true ∧ Stp (Eb rows) w y i j)) → ∃ n', n' < f ∧ Up [] fun Γ => Γ = [] ∧ ∃ (i_1 z_1 : Nat), [Sl.v true (Value.int IntKind.u32 (z' : Int)), Sl.v true (Value.int IntKind.i64 ((i : Int) + 1))] = [Sl.v true (Value.int IntKind.u32 (z_1 : Int)), Sl.v true (Value.int IntKind.i64 (i_1 : Int))] ∧ i_1 + n' = w.length + 1 ∧ z_1 < 4294967296 ∧ ∀ (j : Nat), z_1.testBit j = true ↔ ∃ i', i' < i_1 ∧ at_.testBit i' = true ∧ Stp (Eb rows) w y i' j := by
      intro z' h1 h2
      refine ⟨f - 1, by omega, Up.here ⟨rfl, i + 1, z', rfl, by omega, h1, fun j => ?_⟩⟩
      rw [h2, hzj]
      constructor
      · rintro (⟨i', q1, q2⟩ | q)
        · exact ⟨i', by omega, q2⟩
        · exact ⟨i, by omega, q⟩
      · rintro ⟨i', q1, q2⟩
        by_cases e : i' = i
        · subst e; exact .inr q2
        · exact .inl ⟨i', by omega, q2⟩
    simp (disch := omega) only [wrap_id]
    refine ⟨by omega, fun h0 => Up.here ?_, fun h0 => ⟨fun ht => ?_, fun ht => ?_⟩⟩
    · have h0 : at_.testBit i = false := by cases e : at_.testBit i <;> simp_all
      exact fin z hz fun j => by rw [h0]; simp
    · have h0 : at_.testBit i = true := by cases e : at_.testBit i <;> simp_all
      obtain ⟨hy0, hy1⟩ := hy ht
      have hyl : y.n.toNat < rows.length := by rw [hT.len]; omega
      have hrl := hT.at' hyl
      have hrs := hT.small _ (List.getElem_mem hyl)
      refine s_ld (o := 0) (j := 5) (cells_lk (lk_r _ _ _ _ hb)) (by simp [endsV]) (by simp) ?_
      simp -implicitDefEqProofs only [endsV, go_sem, Nat.reduceBEq, Nat.reduceAdd, Nat.reduceSub, Nat.reduceMul, Nat.reduceLeDiff, reduceCtorEq, ↓reduceIte, Int.reduceLT, Int.reduceLE, Int.reduceEq, Int.reduceNe]
      obtain ⟨b1, o1, hA1, A2, c2, hs2, hc1⟩ := ho.rowU hyl
      refine s_idx hA1 hy0 (by omega) ?_
      simp -implicitDefEqProofs only [go_sem, Nat.reduceBEq, Nat.reduceAdd, Nat.reduceSub, Nat.reduceMul, Nat.reduceLeDiff, reduceCtorEq, ↓reduceIte, Int.reduceLT, Int.reduceLE, Int.reduceEq, Int.reduceNe]
      refine s_ld0 (hc1 _ (lk_r _ _)) (by simp) (by simp) ?_
      simp -implicitDefEqProofs only [go_sem, Nat.reduceBEq, Nat.reduceAdd, Nat.reduceSub, Nat.reduceMul, Nat.reduceLeDiff, reduceCtorEq, ↓reduceIte, Int.reduceLT, Int.reduceLE, Int.reduceEq, Int.reduceNe]
      obtain ⟨b2, o2, hA2, hc2⟩ := hs2.u32 (i := i) (by omega)
      refine s_idx hA2 (by omega) (by omega) ?_
      simp -implicitDefEqProofs only [go_sem, Nat.reduceBEq, Nat.reduceAdd, Nat.reduceSub, Nat.reduceMul, Nat.reduceLeDiff, reduceCtorEq, ↓reduceIte, Int.reduceLT, Int.reduceLE, Int.reduceEq, Int.reduceNe]
      refine s_ld0 (hc2 _ (lk_r _ _)) (by simp) (by simp) ?_
      have hx := hrs _ (List.getElem_mem (show i < rows[y.n.toNat].length by omega))
      simp -implicitDefEqProofs only [bit_or uns32 hz hx, fnC_eq, go_sem, Nat.reduceBEq, Nat.reduceAdd, Nat.reduceSub, Nat.reduceMul, Nat.reduceLeDiff, reduceCtorEq, ↓reduceIte, Int.reduceLT, Int.reduceLE, Int.reduceEq, Int.reduceNe]
      simp (disch := omega) only [wrap_id]
      refine Up.here (fin _ (Nat.or_lt_two_pow (n := 32) hz hx) fun j => ?_)
      rw [Nat.testBit_or, Bool.or_eq_true]
      refine or_congr_right ⟨fun h => ⟨h0, ?_⟩, fun h => ?_⟩
      · simp only [Stp, ht]
        exact ⟨hy0, _, _, List.getElem?_eq_getElem hyl, List.getElem?_eq_getElem (by omega), h⟩
      · simp only [Stp, ht] at h
        obtain ⟨_, _, row, x, h1, h2, h3⟩ := h
        rw [List.getElem?_eq_getElem hyl] at h1
        simp only [Option.some.injEq] at h1
        subst h1
        rw [List.getElem?_eq_getElem (by omega)] at h2
        simp only [Option.some.injEq] at h2
        subst h2
        exact h3
    · have h0 : at_.testBit i = true := by cases e : at_.testBit i <;> simp_all
      refine s_ld (o := 0) (j := 4) (cells_lk (lk_r _ _ _ _ hb)) (by simp [endsV]) (by simp) ?_
      by_cases hil : i < w.length
      · have e1 : decide ((i : Int) < (w.length : Int)) = true := by simpa using hil
        simp -implicitDefEqProofs only [endsV, e1, go_sem, Nat.reduceBEq, Nat.reduceAdd, Nat.reduceSub, Nat.reduceMul, Nat.reduceLeDiff, reduceCtorEq, ↓reduceIte, Int.reduceLT, Int.reduceLE, Int.reduceEq, Int.reduceNe]
        refine s_ld (o := 0) (j := 4) (cells_lk (lk_r _ _ _ _ hb)) (by simp [endsV]) (by simp) ?_
        simp -implicitDefEqProofs only [endsV, go_sem, Nat.reduceBEq, Nat.reduceAdd, Nat.reduceSub, Nat.reduceMul, Nat.reduceLeDiff, reduceCtorEq, ↓reduceIte, Int.reduceLT, Int.reduceLE, Int.reduceEq, Int.reduceNe]
        obtain ⟨b1, o1, hA1, hc1⟩ := hw.int hil
        refine s_idx hA1 (by omega) (by omega) ?_
        simp -implicitDefEqProofs only [go_sem, Nat.reduceBEq, Nat.reduceAdd, Nat.reduceSub, Nat.reduceMul, Nat.reduceLeDiff, reduceCtorEq, ↓reduceIte, Int.reduceLT, Int.reduceLE, Int.reduceEq, Int.reduceNe]
        refine s_ld0 (hc1 _ (lk_r _ _)) (by simp) (by simp) ?_
        have hp : 2 ^ (i + 1) < 4294967296 := Nat.pow_lt_pow_right (a := 2) (n := 32) (by omega) (by omega)
        have hsh : ishiftV .shl .u32 1 ((i : Int) + 1) = .int .u32 ((2 ^ (i + 1) : Nat) : Int) := bit_shl uns32 (i := i + 1) (by omega)
        simp -implicitDefEqProofs only [go_sem, Nat.reduceBEq, Nat.reduceAdd, Nat.reduceSub, Nat.reduceMul, Nat.reduceLeDiff, reduceCtorEq, ↓reduceIte, Int.reduceLT, Int.reduceLE, Int.reduceEq, Int.reduceNe]
        simp (disch := omega) only [wrap_id]
        refine ⟨fun heq => ?_, fun hne => Up.here ?_⟩
        · simp -implicitDefEqProofs only [hsh, bit_or uns32 hz hp, fnC_eq, go_sem, Nat.reduceBEq, Nat.reduceAdd, Nat.reduceSub, Nat.reduceMul, Nat.reduceLeDiff, reduceCtorEq, ↓reduceIte, Int.reduceLT, Int.reduceLE, Int.reduceEq, Int.reduceNe]
          simp (disch := omega) only [wrap_id]
          refine ⟨by omega, Up.here (fin _ (Nat.or_lt_two_pow (n := 32) hz hp) fun j => ?_)⟩
          rw [Nat.testBit_or, Bool.or_eq_true, Nat.testBit_two_pow]
          refine or_congr_right ?_
          simp only [Stp, ht, if_true, h0, true_and, List.getElem?_eq_getElem hil, heq, decide_eq_true_eq]
          exact ⟨fun h => h.symm, fun h => h.symm⟩
        · refine fin z hz fun j => ?_
          simp [Stp, ht, List.getElem?_eq_getElem hil, hne]
      · have e1 : decide ((i : Int) < (w.length : Int)) = false := by simpa using hil
        simp -implicitDefEqProofs only [endsV, e1, go_sem, Nat.reduceBEq, Nat.reduceAdd, Nat.reduceSub, Nat.reduceMul, Nat.reduceLeDiff, reduceCtorEq, ↓reduceIte, Int.reduceLT, Int.reduceLE, Int.reduceEq, Int.reduceNe]
        refine s_ldg0 (cs := [.slice none 0 0]) (by simp) (by simp) (by simp) (by simp) ?_
        simp -implicitDefEqProofs only [go_sem, Nat.reduceBEq, Nat.reduceAdd, Nat.reduceSub, Nat.reduceMul, Nat.reduceLeDiff, reduceCtorEq, ↓reduceIte, Int.reduceLT, Int.reduceLE, Int.reduceEq, Int.reduceNe]
        refine s_idxg (b := 0) (o := 0) (by simp) ?_
        simp -implicitDefEqProofs only [go_sem, Nat.reduceBEq, Nat.reduceAdd, Nat.reduceSub, Nat.reduceMul, Nat.reduceLeDiff, reduceCtorEq, ↓reduceIte, Int.reduceLT, Int.reduceLE, Int.reduceEq, Int.reduceNe]
        refine s_ldg0 (cs := [.int .i64 0]) (by simp) (by simp) (by simp) (by simp) ?_
        simp -implicitDefEqProofs only [go_sem, Nat.reduceBEq, Nat.reduceAdd, Nat.reduceSub, Nat.reduceMul, Nat.reduceLeDiff, reduceCtorEq, ↓reduceIte, Int.reduceLT, Int.reduceLE, Int.reduceEq, Int.reduceNe]
        simp (disch := omega) only [wrap_id]
        refine Up.here (fin z hz fun j => ?_)
        simp [Stp, ht, List.getElem?_eq_none (show w.length ≤ i by omega)]
  · have hi : i = w.length + 1 := by omega
    subst hR
    subst hi
    refine Up.here ⟨rfl, z, rfl, hz, fun j => ?_⟩
    rw [hzj]
    simp only [Nat.lt_succ_iff]
theorem mean_is {Γr : Ctx} {b : Nat} {T : TypeId} {g : Gr} {A W O : Option Addr} {c d e : Nat} {w : List Int} {rows : List (List U32)} (hb : lk Γr b (.cells (endsV g A c W d w O rows.length e).toArray T (0, 0)))
    (hw : SlOk (lk Γr) W d w) (ho : SlOk (lk Γr) O e rows) {n : Nat} (hT : TabOk rows n (w.length + 1)) (hl : w.length ≤ 30) (y : Sy) (hy : y.t = false → 0 ≤ y.n ∧ y.n < n) (i j : Nat) (hi : i ≤ w.length) :
    Ret Try.prog 183 [.pointer (some ⟨b, 0, none⟩), .agg #[.bool y.t, .int .i64 y.n], .int .i64 i, .int .i64 j] Γr [] (fun v Γ => Γ = [] ∧ ∃ q : Bool, v = .bool q ∧ (q = true ↔ Stp (Eb rows) w y i j)) := by
  generalize hR : (fun (v : Value) (Γ : Ctx) => Γ = [] ∧ _) = R
  refine ret_of_vc tr183 (Nat.le_of_ble_eq_true rfl) ?_
  have hp : 2 ^ i < 4294967296 := Nat.pow_lt_pow_right (a := 2) (n := 32) (by omega) (by omega)
  simp -implicitDefEqProofs only [S183, S183_0, bit_shl uns32 (show i < 32 by omega), go_sem, Nat.reduceBEq, Nat.reduceAdd, Nat.reduceSub, Nat.reduceMul, Nat.reduceLeDiff, reduceCtorEq, ↓reduceIte, Int.reduceLT, Int.reduceLE, Int.reduceEq, Int.reduceNe]
  intro b0
  refine ⟨by omega, ?_⟩
  refine CallVC.read (mean_after (lk_r _ _ _ _ hb) (hw.mono (lk_r _ _)) (ho.mono (lk_r _ _)) hT hl y hy (2 ^ i) hp) ?_
  rintro v Γ' ⟨rfl, z, rfl, hz, hzj⟩
  simp -implicitDefEqProofs only [bit_shr uns32 hz, bit_get uns32 hz, fnC_eq, go_sem, Nat.reduceBEq, Nat.reduceAdd, Nat.reduceSub, Nat.reduceMul, Nat.reduceLeDiff, reduceCtorEq, ↓reduceIte, Int.reduceLT, Int.reduceLE, Int.reduceEq, Int.reduceNe]
  refine ⟨by omega, Up.here ?_⟩
  subst hR
  refine ⟨rfl, _, rfl, ?_⟩
  have h1 : (decide ((((z.testBit j).toNat : Nat) : Int) = 1) = true) ↔ z.testBit j = true := by cases z.testBit j <;> simp
  rw [h1, hzj]
  constructor
  · rintro ⟨i', _, h2, h3⟩
    rw [Nat.testBit_two_pow] at h2
    simp only [decide_eq_true_eq] at h2
    subst h2
    exact h3
  · intro h
    exact ⟨i, hi, by rw [Nat.testBit_two_pow]; simp, h⟩
end Go.Proofs.Ytniobbepliknmaa.V
/- The text of parlance/parlref5.grid[bool] as a statement (slots: 0 a, 1 b, 2 a, 3 b, 5 out, 6 i); no condition. -/
namespace Go.Proofs.Ytniobbepliknmaa.V
open Go
def S151_1 : Stmt :=
  Stmt.seq
  (Stmt.region [SOper.mk (some 12) none (SOp.ibin BinOp.lss (Operand.tmp 11) (Operand.tmp 10))] [1, 5, 10, 11, 12])
  (Stmt.seq (Stmt.cond (Operand.tmp 12) Stmt.skip (Stmt.exit 0))
    (Stmt.seq
      (Stmt.block 1
        (Stmt.seq
          (Stmt.region
            [SOper.mk (some 13) none (SOp.mv (Operand.tmp 11)), SOper.mk (some 6) none (SOp.mv (Operand.tmp 13))]
            [1, 5, 6, 10, 11])
          (Stmt.region
            [SOper.mk (some 14) none (SOp.mv (Operand.tmp 5)), SOper.mk (some 15) none (SOp.mv (Operand.tmp 6)),
              SOper.mk (some 16) none (SOp.mv (Operand.tmp 1)),
              SOper.mk (some 17) none (SOp.mk 4 1 1 (Value.bool false) (Operand.tmp 16) (Operand.tmp 16)),
              SOper.mk (some 18) none (SOp.idx 1 (Operand.tmp 14) (Operand.tmp 15)),
              SOper.mk none none (SOp.store 1 (Operand.tmp 18) (Operand.tmp 17))]
            [1, 5, 10, 11])))
      (Stmt.region
        [SOper.mk (some 19) none (SOp.ibin BinOp.add (Operand.tmp 11) (Operand.const (Value.int IntKind.i64 1))),
          SOper.mk (some 11) none (SOp.mv (Operand.tmp 19))]
        [1, 5, 10, 11])))
def S151_0 : Stmt :=
  Stmt.seq (Stmt.region [SOper.mk (some 4) none (SOp.mv (Operand.const (Value.slice none 0 0)))] [0, 1])
  (Stmt.seq
    (Stmt.region
      [SOper.mk (some 7) none (SOp.mv (Operand.tmp 0)),
        SOper.mk (some 8) none (SOp.mk 22 1 24 (Value.slice none 0 0) (Operand.tmp 7) (Operand.tmp 7)),
        SOper.mk (some 5) none (SOp.mv (Operand.tmp 8))]
      [1, 5])
    (Stmt.seq
      (Stmt.seq
        (Stmt.region
          [SOper.mk (some 9) none (SOp.mv (Operand.tmp 5)), SOper.mk (some 10) none (SOp.len false (Operand.tmp 9)),
            SOper.mk (some 11) none (SOp.mv (Operand.const (Value.int IntKind.i64 0)))]
          [1, 5, 10, 11])
        (Stmt.block 0 (Stmt.loop S151_1 [11] [1, 5, 10])))
      (Stmt.seq
        (Stmt.region
          [SOper.mk (some 20) none (SOp.mv (Operand.tmp 5)), SOper.mk (some 4) none (SOp.mv (Operand.tmp 20))] [4])
        Stmt.ret)))
def S151 : FnS := ⟨21, [(4, none)], S151_0⟩
theorem tr151 : trFn Try.prog 151 [] [[0, 1], [1, 5], [1, 5, 10, 11], [11], [1, 5, 10], [1, 5, 10, 11, 12], [1, 5, 6, 10, 11], [1, 5, 10, 11], [1, 5, 10, 11], [4]] = some S151 := by kernel_rfl
end Go.Proofs.Ytniobbepliknmaa.V
/- Grids that are made: parlref5.grid walked; no condition. -/
namespace Go.Proofs.Ytniobbepliknmaa.V
open Go
set_option linter.unusedVariables false
set_option linter.unusedSimpArgs false
attribute [local go_sem] e_seq e_region e_quiet e_join e_loop e_cond e_block e_exit e_ret e_skip e_fin e_kseq e_snrm e_sret e_sex e_bnrm e_bret e_bex e_rnrm e_rret e_res e_condC e_nil e_g e_mv g_mv e_pick g_pick pickC_eq e_ibin g_ibin ibinC_eq e_sbin g_sbin e_beq g_beq beqC_eq e_nilq g_nilq nilqC_sl nilqC_pt nilqC_mp e_un g_un unC_not unC_neg e_conv g_conv convC_eq e_fld g_fld fldC_ref fldC_ptr e_nilCheck g_nilCheck nilCheckC_ref nilCheckC_ptr nilCheckC_fun e_field g_field fieldC_eq e_len g_len lenC_sl lenC_str e_extract g_extract extractC_eq e_mkFunc e_build g_build e_idiv g_idiv idivC_eq e_ishift g_ishift ishiftC_eq e_idx g_idx e_idxA g_idxA e_load g_load loadC_ref loadC_ptr loadB_eq e_slc g_slc e_box boxC_loc boxC_esc e_alloc allocC_loc allocC_esc e_buildS e_store storeC_ref storeC_ptr storeB_eq e_append e_appz e_mk mkC_eq e_call callC_eq e_fn g_fn fnC_eq fnV_min' fnV_max' fnV_rune' e_q g_q e_a e_n g_call g_box g_alloc g_buildS g_store g_append g_mk g_a g_n g_dead e_dead e_callK e_drawn e_tree e_finJ e_tk e_tfin e_tno e_nbt_q e_nbt_qn e_nbt_a e_nbt_an e_nbt_fin e_early_nil e_early_t e_early_f e_nob_nil e_nob_none e_nob_some isBox_dead isBox_v isBox_ref e_dnil e_dk e_ek e_finB vcOps_vc1 e_dcons e_tq e_ekt e_tearly e_talt e_dearly look_nil look_c proj_nil proj_c looks_nil looks_c zip_nil zip_c val_tmp val_const val_func slv_v slv_box slv_ref slot_tmp slot_const slot_func slotL_v slotL_box slotL_ref put_some put_none updBox_c boxSet_box gd_eq slotVals_nil slotVals_c slotVals_b boxV_box boxOn_box slotsOn_nil slotsOn_c slotsOn_b resV_one resV_two vals_nil vals_c allOn_nil allOn_c partOn_nil partOn_c partVals_nil partVals_c fits_nil fits_c fillL_nil fillL_c mkv_one mkv_agg cellsV_agg cellsV_int cellsV_bool cellsV_slice cellsV_string cellsV_pointer cellsV_func cellsV_nilf cellsV_map one'_nil one'_c oc_int oc_bool oc_slice oc_string oc_pointer oc_func oc_nilf oc_map setC_eq iv_add iv_sub iv_mul iv_eql iv_neq iv_lss iv_leq iv_gtr iv_geq iok_add iok_sub iok_mul iok_eql iok_neq iok_lss iok_leq iok_gtr iok_geq pickV_bool args0_nil args0_c bnd_none bnd_some imp_bt imp_bf imp_ebt imp_ebf imp_eb1 imp_np imp_pp beq_tt beq_tf beq_ft beq_ff cond_or cond_and e_round e_meet Int.le_refl Int.toNat_zero decide_true decide_false Bool.or_false Bool.false_or Bool.true_or Bool.or_true Bool.and_false Bool.false_and Bool.bne_false Bool.bne_true beq_iff_eq Int.cast_ofNat_Int not_false_eq_true not_true_eq_false false_and and_false false_implies true_implies true_and and_true Bool.true_and Bool.and_true Bool.not_true Bool.not_false forall_const implies_true List.take_zero List.drop_zero List.take_succ_cons List.drop_succ_cons List.take_nil List.drop_nil List.length_cons List.length_nil List.nil_append List.append_nil List.cons_append Int.toNat_natCast decide_eq_true_eq decide_eq_false_iff_not cond_true cond_false and_self List.getElem?_cons_zero List.getElem?_cons_succ List.set_cons_zero List.set_cons_succ Option.some.injEq exists_eq_left' Nat.zero_add Nat.add_zero Nat.mul_one imp_self true_or or_true or_false false_or Bool.or_eq_true Bool.or_eq_false_iff Bool.and_eq_true Bool.and_eq_false_iff Bool.not_eq_true' Bool.not_eq_false'

/-- m rows of n noughts, of which k are made -/
def part {α : Type} (z : α) (m n k : Nat) : List (List α) := List.replicate k (List.replicate n z) ++ List.replicate (m - k) []
theorem part_len {α : Type} (z : α) {m n k : Nat} (h : k ≤ m) : (part z m n k).length = m := by simp [part]; omega
theorem part_set {α : Type} (z : α) {m n k : Nat} (h : k < m) : (part z m n k).set k (List.replicate n z) = part z m n (k + 1) := by
  unfold part
  obtain ⟨d, hd⟩ : ∃ d, m - k = d + 1 := ⟨m - k - 1, by omega⟩
  rw [hd, show m - (k + 1) = d by omega, List.replicate_succ, List.set_append_right _ _ (by simp), List.replicate_succ']
  simp

theorem grid_bool {Γr : Ctx} (a n : Nat) (ha : a ≤ 1000) (hn : n ≤ 100000) :
    Ret Try.prog 151 [.int .i64 a, .int .i64 n] Γr [] (fun v Γ => ∃ g b, Γ = [g] ∧ v = .slice (some ⟨b, 0, none⟩) a a ∧ Grid g b 22 4 (List.replicate a (List.replicate n false))) := by
  generalize hR : (fun (v : Value) (Γ : Ctx) => ∃ g b, _) = R
  refine ret_of_vc tr151 (Nat.le_of_ble_eq_true rfl) ?_
  simp -implicitDefEqProofs only [S151, S151_0, go_sem, Nat.reduceBEq, Nat.reduceAdd, Nat.reduceSub, Nat.reduceMul, Nat.reduceLeDiff, reduceCtorEq, ↓reduceIte, Int.reduceLT, Int.reduceLE, Int.reduceEq, Int.reduceNe]
  refine ⟨by omega, by omega, fun b => ?_⟩
  refine s_loop (fun f vs Γ => ∃ g, Γ = [g] ∧ ∃ k : Nat, vs = [.v true (.int .i64 k)] ∧ k + f = a ∧ Grid g b 22 4 (part false a n k)) a
    (Up.here ⟨_, rfl, 0, rfl, by omega, by have := Grid.made (α := Bool) b 22 4 (m := a) (by omega); simpa [part] using this⟩) ?_
  rintro f vs Γ ⟨g, rfl, k, rfl, hkf, hG⟩
  simp -implicitDefEqProofs only [S151_1, go_sem, Nat.reduceBEq, Nat.reduceAdd, Nat.reduceSub, Nat.reduceMul, Nat.reduceLeDiff, reduceCtorEq, ↓reduceIte, Int.reduceLT, Int.reduceLE, Int.reduceEq, Int.reduceNe]
  refine ⟨fun hlt => ?_, fun hge => ?_⟩
  · have hk : k < a := by omega
    refine ⟨by omega, by omega, fun b2 => ?_⟩
    refine s_idx rfl (by omega) (by omega) ?_
    simp -implicitDefEqProofs only [go_sem, Nat.reduceBEq, Nat.reduceAdd, Nat.reduceSub, Nat.reduceMul, Nat.reduceLeDiff, reduceCtorEq, ↓reduceIte, Int.reduceLT, Int.reduceLE, Int.reduceEq, Int.reduceNe]
    refine s_storeG (ix := 1) (k := b2) (List.replicate n false) (by simp) rfl hG (by rw [part_len _ (by omega)]; omega) (by simp; omega) ?_
    intro g' hput
    simp -implicitDefEqProofs only [go_sem, Nat.reduceBEq, Nat.reduceAdd, Nat.reduceSub, Nat.reduceMul, Nat.reduceLeDiff, reduceCtorEq, ↓reduceIte, Int.reduceLT, Int.reduceLE, Int.reduceEq, Int.reduceNe]
    simp (disch := omega) only [wrap_id]
    refine ⟨f - 1, by omega, Up.apart fun hd => Up.one fun G hG' => ⟨_, rfl, k + 1, rfl, by omega, ?_⟩⟩
    rw [← part_set _ hk]
    exact hput _ _ (Arr.made false b2 4 n) ((List.pairwise_cons.1 hd).1 g' (by simp)) hG'
  · have hk : k = a := by omega
    subst hk
    refine Up.here ?_
    subst hR
    exact ⟨_, b, rfl, rfl, by simpa [part] using hG⟩
end Go.Proofs.Ytniobbepliknmaa.V
/- The text of parlance/lens.sums as a statement (slots: 0 l, 1 has, 2 n, 3 l, 4 has, 5 n, 7 at, 8 _, 9 s, 10 next, 11 k, 12 ok, 13 j); no condition. -/
namespace Go.Proofs.Ytniobbepliknmaa.V
open Go
def S113_1 : Stmt :=
  Stmt.seq
  (Stmt.region [SOper.mk (some 42) none (SOp.ibin BinOp.lss (Operand.tmp 41) (Operand.tmp 40))]
    [1, 2, 9, 10, 11, 19, 20, 21, 28, 29, 30, 40, 41, 42])
  (Stmt.seq (Stmt.cond (Operand.tmp 42) Stmt.skip (Stmt.exit 4))
    (Stmt.seq
      (Stmt.block 5
        (Stmt.seq
          (Stmt.region
            [SOper.mk (some 43) none (SOp.mv (Operand.tmp 41)), SOper.mk (some 13) none (SOp.mv (Operand.tmp 43))]
            [1, 2, 9, 10, 11, 13, 19, 20, 21, 28, 29, 30, 40, 41])
          (Stmt.region
            [SOper.mk (some 44) none (SOp.mv (Operand.tmp 10)), SOper.mk (some 45) none (SOp.mv (Operand.tmp 11)),
              SOper.mk (some 46) none (SOp.mv (Operand.tmp 13)),
              SOper.mk (some 47) none (SOp.ibin BinOp.add (Operand.tmp 45) (Operand.tmp 46)),
              SOper.mk (some 48) none (SOp.mv (Operand.tmp 10)), SOper.mk (some 49) none (SOp.mv (Operand.tmp 11)),
              SOper.mk (some 50) none (SOp.mv (Operand.tmp 13)),
              SOper.mk (some 51) none (SOp.ibin BinOp.add (Operand.tmp 49) (Operand.tmp 50)),
              SOper.mk (some 52) none (SOp.idx 1 (Operand.tmp 48) (Operand.tmp 51)),
              SOper.mk (some 53) none (SOp.load false 1 (Operand.tmp 52)),
              SOper.mk (some 54) none (SOp.mv (Operand.tmp 53)),
              SOper.mk (some 55) (some (54, false)) (SOp.fld 0 (Operand.tmp 9)),
              SOper.mk (some 56) (some (54, false)) (SOp.load false 1 (Operand.tmp 55)),
              SOper.mk (some 57) (some (54, false)) (SOp.mv (Operand.tmp 56)),
              SOper.mk (some 58) (some (57, true)) (SOp.mv (Operand.tmp 13)),
              SOper.mk (some 59) (some (57, true))
                (SOp.ibin BinOp.eql (Operand.tmp 58) (Operand.const (Value.int IntKind.i64 1))),
              SOper.mk (some 60) (some (54, false))
                (SOp.pick (Operand.tmp 57) (Operand.tmp 59) (Operand.const (Value.bool false))),
              SOper.mk (some 61) none (SOp.pick (Operand.tmp 54) (Operand.const (Value.bool true)) (Operand.tmp 60)),
              SOper.mk (some 62) none (SOp.mv (Operand.tmp 61)),
              SOper.mk (some 63) (some (62, false)) (SOp.fld 0 (Operand.tmp 9)),
              SOper.mk (some 64) (some (62, false)) (SOp.load false 1 (Operand.tmp 63)),
              SOper.mk (some 65) (some (62, false)) (SOp.un UnOp.not (Operand.tmp 64)),
              SOper.mk (some 66) (some (62, false)) (SOp.mv (Operand.tmp 65)),
              SOper.mk (some 67) (some (66, true)) (SOp.mv (Operand.tmp 1)),
              SOper.mk (some 68) (some (66, true)) (SOp.fld 1 (Operand.tmp 9)),
              SOper.mk (some 69) (some (66, true)) (SOp.load false 1 (Operand.tmp 68)),
              SOper.mk (some 70) (some (66, true)) (SOp.idx 1 (Operand.tmp 67) (Operand.tmp 69)),
              SOper.mk (some 71) (some (66, true)) (SOp.load false 1 (Operand.tmp 70)),
              SOper.mk (some 72) (some (66, true)) (SOp.mv (Operand.tmp 13)),
              SOper.mk (some 73) (some (66, true)) (SOp.idx 1 (Operand.tmp 71) (Operand.tmp 72)),
              SOper.mk (some 74) (some (66, true)) (SOp.load false 1 (Operand.tmp 73)),
              SOper.mk (some 75) (some (62, false))
                (SOp.pick (Operand.tmp 66) (Operand.tmp 74) (Operand.const (Value.bool false))),
              SOper.mk (some 76) none (SOp.pick (Operand.tmp 62) (Operand.const (Value.bool true)) (Operand.tmp 75)),
              SOper.mk (some 77) none (SOp.idx 1 (Operand.tmp 44) (Operand.tmp 47)),
              SOper.mk none none (SOp.store 1 (Operand.tmp 77) (Operand.tmp 76))]
            [1, 2, 9, 10, 11, 19, 20, 21, 28, 29, 30, 40, 41])))
      (Stmt.region
        [SOper.mk (some 78) none (SOp.ibin BinOp.add (Operand.tmp 41) (Operand.const (Value.int IntKind.i64 1))),
          SOper.mk (some 41) none (SOp.mv (Operand.tmp 78))]
        [1, 2, 9, 10, 11, 19, 20, 21, 28, 29, 30, 40, 41])))
def S113_2 : Stmt :=
  Stmt.block 3
  (Stmt.seq
    (Stmt.region
      [SOper.mk (some 32) none (SOp.mv (Operand.tmp 30)),
        SOper.mk (some 33) none (SOp.idx 1 (Operand.tmp 28) (Operand.tmp 30)),
        SOper.mk (some 34) none (SOp.load false 1 (Operand.tmp 33)), SOper.mk (some 11) none (SOp.mv (Operand.tmp 32)),
        SOper.mk (some 12) none (SOp.mv (Operand.tmp 34))]
      [1, 2, 9, 10, 11, 12, 19, 20, 21, 28, 29, 30])
    (Stmt.seq
      (Stmt.seq
        (Stmt.region
          [SOper.mk (some 35) none (SOp.mv (Operand.tmp 12)),
            SOper.mk (some 36) none (SOp.un UnOp.not (Operand.tmp 35))]
          [1, 2, 9, 10, 11, 19, 20, 21, 28, 29, 30, 36])
        (Stmt.cond (Operand.tmp 36) (Stmt.exit 3) Stmt.skip))
      (Stmt.seq
        (Stmt.region
          [SOper.mk (some 37) none (SOp.mv (Operand.tmp 2)),
            SOper.mk (some 38) none (SOp.ibin BinOp.add (Operand.tmp 37) (Operand.const (Value.int IntKind.i64 1))),
            SOper.mk (some 39) none (SOp.mv (Operand.tmp 11)),
            SOper.mk (some 40) none (SOp.ibin BinOp.sub (Operand.tmp 38) (Operand.tmp 39)),
            SOper.mk (some 41) none (SOp.mv (Operand.const (Value.int IntKind.i64 0)))]
          [1, 2, 9, 10, 11, 19, 20, 21, 28, 29, 30, 40, 41])
        (Stmt.block 4 (Stmt.loop S113_1 [41] [1, 2, 9, 10, 11, 19, 20, 21, 28, 29, 30, 40])))))
def S113_3 : Stmt :=
  Stmt.region
  [SOper.mk (some 79) none (SOp.ibin BinOp.add (Operand.tmp 30) (Operand.const (Value.int IntKind.i64 1))),
    SOper.mk (some 30) none (SOp.mv (Operand.tmp 79))]
  [1, 2, 9, 10, 19, 20, 21, 28, 29, 30]
def S113_4 : Stmt :=
  Stmt.seq
  (Stmt.region [SOper.mk (some 31) none (SOp.ibin BinOp.lss (Operand.tmp 30) (Operand.tmp 29))]
    [1, 2, 9, 10, 19, 20, 21, 28, 29, 30, 31])
  (Stmt.seq (Stmt.cond (Operand.tmp 31) Stmt.skip (Stmt.exit 2))
    (Stmt.join S113_2 S113_3 [] [1, 2, 9, 10, 19, 20, 21, 28, 29, 30]))
def S113_5 : Stmt :=
  Stmt.seq
  (Stmt.region [SOper.mk (some 22) none (SOp.ibin BinOp.lss (Operand.tmp 21) (Operand.tmp 20))]
    [1, 2, 7, 19, 20, 21, 22])
  (Stmt.seq (Stmt.cond (Operand.tmp 22) Stmt.skip (Stmt.exit 0))
    (Stmt.seq
      (Stmt.block 1
        (Stmt.seq
          (Stmt.region
            [SOper.mk (some 23) none (SOp.idx 2 (Operand.tmp 19) (Operand.tmp 21)),
              SOper.mk (some 24) none (SOp.load true 2 (Operand.tmp 23)),
              SOper.mk (some 9) none
                (SOp.alloc true 39 (Value.agg (Array.mk [Value.bool false, Value.int IntKind.i64 0]))),
              SOper.mk none none (SOp.store 2 (Operand.tmp 9) (Operand.tmp 24))]
            [1, 2, 7, 9, 19, 20, 21])
          (Stmt.seq
            (Stmt.region
              [SOper.mk (some 25) none (SOp.mv (Operand.tmp 2)),
                SOper.mk (some 26) none (SOp.ibin BinOp.add (Operand.tmp 25) (Operand.const (Value.int IntKind.i64 1))),
                SOper.mk (some 27) none (SOp.mk 4 1 1 (Value.bool false) (Operand.tmp 26) (Operand.tmp 26)),
                SOper.mk (some 10) none (SOp.mv (Operand.tmp 27))]
              [1, 2, 7, 9, 10, 19, 20, 21])
            (Stmt.seq
              (Stmt.seq
                (Stmt.region
                  [SOper.mk (some 28) none (SOp.mv (Operand.tmp 7)),
                    SOper.mk (some 29) none (SOp.len false (Operand.tmp 28)),
                    SOper.mk (some 30) none (SOp.mv (Operand.const (Value.int IntKind.i64 0)))]
                  [1, 2, 9, 10, 19, 20, 21, 28, 29, 30])
                (Stmt.block 2 (Stmt.loop S113_4 [30] [1, 2, 9, 10, 19, 20, 21, 28, 29])))
              (Stmt.region
                [SOper.mk (some 80) none (SOp.mv (Operand.tmp 10)), SOper.mk (some 7) none (SOp.mv (Operand.tmp 80))]
                [1, 2, 7, 19, 20, 21])))))
      (Stmt.region
        [SOper.mk (some 81) none (SOp.ibin BinOp.add (Operand.tmp 21) (Operand.const (Value.int IntKind.i64 1))),
          SOper.mk (some 21) none (SOp.mv (Operand.tmp 81))]
        [1, 2, 7, 19, 20, 21])))
def S113_0 : Stmt :=
  Stmt.seq (Stmt.region [SOper.mk (some 6) none (SOp.mv (Operand.const (Value.slice none 0 0)))] [0, 1, 2])
  (Stmt.seq
    (Stmt.region
      [SOper.mk (some 14) none (SOp.mv (Operand.tmp 2)),
        SOper.mk (some 15) none (SOp.ibin BinOp.add (Operand.tmp 14) (Operand.const (Value.int IntKind.i64 1))),
        SOper.mk (some 16) none (SOp.mk 4 1 1 (Value.bool false) (Operand.tmp 15) (Operand.tmp 15)),
        SOper.mk (some 7) none (SOp.mv (Operand.tmp 16))]
      [0, 1, 2, 7])
    (Stmt.seq
      (Stmt.region
        [SOper.mk (some 17) none (SOp.mv (Operand.tmp 7)),
          SOper.mk (some 18) none (SOp.idx 1 (Operand.tmp 17) (Operand.const (Value.int IntKind.i64 0))),
          SOper.mk none none (SOp.store 1 (Operand.tmp 18) (Operand.const (Value.bool true)))]
        [0, 1, 2, 7])
      (Stmt.seq
        (Stmt.seq
          (Stmt.region
            [SOper.mk (some 19) none (SOp.mv (Operand.tmp 0)), SOper.mk (some 20) none (SOp.len false (Operand.tmp 19)),
              SOper.mk (some 21) none (SOp.mv (Operand.const (Value.int IntKind.i64 0)))]
            [1, 2, 7, 19, 20, 21])
          (Stmt.block 0 (Stmt.loop S113_5 [7, 21] [1, 2, 19, 20])))
        (Stmt.seq
          (Stmt.region
            [SOper.mk (some 82) none (SOp.mv (Operand.tmp 7)), SOper.mk (some 6) none (SOp.mv (Operand.tmp 82))] [6])
          Stmt.ret))))
def S113 : FnS := ⟨83, [(6, none)], S113_0⟩
theorem tr113 : trFn Try.prog 113 [9] [[0, 1, 2], [0, 1, 2, 7], [0, 1, 2, 7], [1, 2, 7, 19, 20, 21], [7, 21], [1, 2, 19, 20], [1, 2, 7, 19, 20, 21, 22], [1, 2, 7, 9, 19, 20, 21], [1, 2, 7, 9, 10, 19, 20, 21], [1, 2, 9, 10, 19, 20, 21, 28, 29, 30], [30], [1, 2, 9, 10, 19, 20, 21, 28, 29], [1, 2, 9, 10, 19, 20, 21, 28, 29, 30, 31], [], [1, 2, 9, 10, 19, 20, 21, 28, 29, 30], [1, 2, 9, 10, 11, 12, 19, 20, 21, 28, 29, 30], [1, 2, 9, 10, 11, 19, 20, 21, 28, 29, 30, 36], [1, 2, 9, 10, 11, 19, 20, 21, 28, 29, 30, 40, 41], [41], [1, 2, 9, 10, 11, 19, 20, 21, 28, 29, 30, 40], [1, 2, 9, 10, 11, 19, 20, 21, 28, 29, 30, 40, 41, 42], [1, 2, 9, 10, 11, 13, 19, 20, 21, 28, 29, 30, 40, 41], [1, 2, 9, 10, 11, 19, 20, 21, 28, 29, 30, 40, 41], [1, 2, 9, 10, 11, 19, 20, 21, 28, 29, 30, 40, 41], [1, 2, 9, 10, 19, 20, 21, 28, 29, 30], [1, 2, 7, 19, 20, 21], [1, 2, 7, 19, 20, 21], [6]] = some S113 := by kernel_rfl
end Go.Proofs.Ytniobbepliknmaa.V
/- The text of parlance/lens.Set as a statement (slots: 0 g, 1 n, 2 g, 3 n, 6 e, 7 has, 8 a, 9 again, 10 _, 11 r, 12 k, 13 ok); no condition. -/
namespace Go.Proofs.Ytniobbepliknmaa.V
open Go
def S39_1 : Stmt :=
  Stmt.seq
  (Stmt.region [SOper.mk (some 31) none (SOp.ibin BinOp.lss (Operand.tmp 30) (Operand.tmp 29))] [1, 2, 7, 29, 30, 31])
  (Stmt.seq (Stmt.cond (Operand.tmp 31) Stmt.skip (Stmt.exit 0))
    (Stmt.seq
      (Stmt.block 1
        (Stmt.seq
          (Stmt.region
            [SOper.mk (some 32) none (SOp.mv (Operand.tmp 30)), SOper.mk (some 8) none (SOp.mv (Operand.tmp 32))]
            [1, 2, 7, 8, 29, 30])
          (Stmt.region
            [SOper.mk (some 33) none (SOp.mv (Operand.tmp 7)), SOper.mk (some 34) none (SOp.mv (Operand.tmp 8)),
              SOper.mk (some 35) none (SOp.mv (Operand.tmp 1)),
              SOper.mk (some 36) none (SOp.ibin BinOp.add (Operand.tmp 35) (Operand.const (Value.int IntKind.i64 1))),
              SOper.mk (some 37) none (SOp.mk 4 1 1 (Value.bool false) (Operand.tmp 36) (Operand.tmp 36)),
              SOper.mk (some 38) none (SOp.idx 1 (Operand.tmp 33) (Operand.tmp 34)),
              SOper.mk none none (SOp.store 1 (Operand.tmp 38) (Operand.tmp 37))]
            [1, 2, 7, 29, 30])))
      (Stmt.region
        [SOper.mk (some 39) none (SOp.ibin BinOp.add (Operand.tmp 30) (Operand.const (Value.int IntKind.i64 1))),
          SOper.mk (some 30) none (SOp.mv (Operand.tmp 39))]
        [1, 2, 7, 29, 30])))
def S39_2 : Stmt :=
  Stmt.block 7
  (Stmt.seq
    (Stmt.region
      [SOper.mk (some 56) none (SOp.mv (Operand.tmp 54)),
        SOper.mk (some 57) none (SOp.idx 1 (Operand.tmp 52) (Operand.tmp 54)),
        SOper.mk (some 58) none (SOp.load false 1 (Operand.tmp 57)), SOper.mk (some 12) none (SOp.mv (Operand.tmp 56)),
        SOper.mk (some 13) none (SOp.mv (Operand.tmp 58))]
      [1, 2, 7, 9, 11, 12, 13, 42, 43, 44, 52, 53, 54])
    (Stmt.seq
      (Stmt.region
        [SOper.mk (some 59) none (SOp.mv (Operand.tmp 13)), SOper.mk (some 60) none (SOp.mv (Operand.tmp 59)),
          SOper.mk (some 61) (some (60, true)) (SOp.mv (Operand.tmp 7)),
          SOper.mk (some 62) (some (60, true)) (SOp.fld 0 (Operand.tmp 11)),
          SOper.mk (some 63) (some (60, true)) (SOp.load false 1 (Operand.tmp 62)),
          SOper.mk (some 64) (some (60, true)) (SOp.idx 1 (Operand.tmp 61) (Operand.tmp 63)),
          SOper.mk (some 65) (some (60, true)) (SOp.load false 1 (Operand.tmp 64)),
          SOper.mk (some 66) (some (60, true)) (SOp.mv (Operand.tmp 12)),
          SOper.mk (some 67) (some (60, true)) (SOp.idx 1 (Operand.tmp 65) (Operand.tmp 66)),
          SOper.mk (some 68) (some (60, true)) (SOp.load false 1 (Operand.tmp 67)),
          SOper.mk (some 69) (some (60, true)) (SOp.un UnOp.not (Operand.tmp 68)),
          SOper.mk (some 70) none (SOp.pick (Operand.tmp 60) (Operand.tmp 69) (Operand.const (Value.bool false)))]
        [1, 2, 7, 9, 11, 12, 42, 43, 44, 52, 53, 54, 70])
      (Stmt.cond (Operand.tmp 70)
        (Stmt.region
          [SOper.mk (some 71) none (SOp.mv (Operand.tmp 7)), SOper.mk (some 72) none (SOp.fld 0 (Operand.tmp 11)),
            SOper.mk (some 73) none (SOp.load false 1 (Operand.tmp 72)),
            SOper.mk (some 74) none (SOp.idx 1 (Operand.tmp 71) (Operand.tmp 73)),
            SOper.mk (some 75) none (SOp.load false 1 (Operand.tmp 74)),
            SOper.mk (some 76) none (SOp.mv (Operand.tmp 12)),
            SOper.mk (some 77) none (SOp.idx 1 (Operand.tmp 75) (Operand.tmp 76)),
            SOper.mk none none (SOp.store 1 (Operand.tmp 77) (Operand.const (Value.bool true))),
            SOper.mk (some 9) none (SOp.mv (Operand.const (Value.bool true)))]
          [1, 2, 7, 9, 11, 42, 43, 44, 52, 53, 54])
        Stmt.skip)))
def S39_3 : Stmt :=
  Stmt.region
  [SOper.mk (some 78) none (SOp.ibin BinOp.add (Operand.tmp 54) (Operand.const (Value.int IntKind.i64 1))),
    SOper.mk (some 54) none (SOp.mv (Operand.tmp 78))]
  [1, 2, 7, 9, 11, 42, 43, 44, 52, 53, 54]
def S39_4 : Stmt :=
  Stmt.seq
  (Stmt.region [SOper.mk (some 55) none (SOp.ibin BinOp.lss (Operand.tmp 54) (Operand.tmp 53))]
    [1, 2, 7, 9, 11, 42, 43, 44, 52, 53, 54, 55])
  (Stmt.seq (Stmt.cond (Operand.tmp 55) Stmt.skip (Stmt.exit 6))
    (Stmt.join S39_2 S39_3 [9] [1, 2, 7, 11, 42, 43, 44, 52, 53, 54]))
def S39_5 : Stmt :=
  Stmt.seq
  (Stmt.region [SOper.mk (some 45) none (SOp.ibin BinOp.lss (Operand.tmp 44) (Operand.tmp 43))]
    [1, 2, 7, 9, 42, 43, 44, 45])
  (Stmt.seq (Stmt.cond (Operand.tmp 45) Stmt.skip (Stmt.exit 4))
    (Stmt.seq
      (Stmt.block 5
        (Stmt.seq
          (Stmt.region
            [SOper.mk (some 46) none (SOp.idx 2 (Operand.tmp 42) (Operand.tmp 44)),
              SOper.mk (some 47) none (SOp.load true 2 (Operand.tmp 46)),
              SOper.mk (some 11) none
                (SOp.alloc true 37 (Value.agg (Array.mk [Value.int IntKind.i64 0, Value.slice none 0 0]))),
              SOper.mk none none (SOp.store 2 (Operand.tmp 11) (Operand.tmp 47))]
            [1, 2, 7, 9, 11, 42, 43, 44])
          (Stmt.seq
            (Stmt.region
              [SOper.mk (some 48) none (SOp.fld 1 (Operand.tmp 11)),
                SOper.mk (some 49) none (SOp.load false 1 (Operand.tmp 48)),
                SOper.mk (some 50) none (SOp.mv (Operand.tmp 7)), SOper.mk (some 51) none (SOp.mv (Operand.tmp 1)),
                SOper.mk (some 52) none (SOp.call (Operand.func 113) [Operand.tmp 49, Operand.tmp 50, Operand.tmp 51]),
                SOper.mk (some 53) none (SOp.len false (Operand.tmp 52)),
                SOper.mk (some 54) none (SOp.mv (Operand.const (Value.int IntKind.i64 0)))]
              [1, 2, 7, 9, 11, 42, 43, 44, 52, 53, 54])
            (Stmt.block 6 (Stmt.loop S39_4 [9, 54] [1, 2, 7, 11, 42, 43, 44, 52, 53])))))
      (Stmt.region
        [SOper.mk (some 79) none (SOp.ibin BinOp.add (Operand.tmp 44) (Operand.const (Value.int IntKind.i64 1))),
          SOper.mk (some 44) none (SOp.mv (Operand.tmp 79))]
        [1, 2, 7, 9, 42, 43, 44])))
def S39_6 : Stmt :=
  Stmt.seq
  (Stmt.seq (Stmt.region [SOper.mk (some 40) none (SOp.mv (Operand.tmp 9))] [1, 2, 7, 40])
    (Stmt.cond (Operand.tmp 40) Stmt.skip (Stmt.exit 2)))
  (Stmt.block 3
    (Stmt.seq (Stmt.region [SOper.mk (some 9) none (SOp.mv (Operand.const (Value.bool false)))] [1, 2, 7, 9])
      (Stmt.seq
        (Stmt.region
          [SOper.mk (some 41) none (SOp.fld 3 (Operand.tmp 2)),
            SOper.mk (some 42) none (SOp.load false 1 (Operand.tmp 41)),
            SOper.mk (some 43) none (SOp.len false (Operand.tmp 42)),
            SOper.mk (some 44) none (SOp.mv (Operand.const (Value.int IntKind.i64 0)))]
          [1, 2, 7, 9, 42, 43, 44])
        (Stmt.block 4 (Stmt.loop S39_5 [9, 44] [1, 2, 7, 42, 43])))))
def S39_0 : Stmt :=
  Stmt.seq
  (Stmt.region
    [SOper.mk (some 2) none (SOp.box true 57 (Operand.tmp 0)),
      SOper.mk (some 4) none (SOp.mv (Operand.const (Value.slice none 0 0))),
      SOper.mk (some 5) none (SOp.mv (Operand.const (Value.int IntKind.i64 0)))]
    [1, 2])
  (Stmt.seq
    (Stmt.seq
      (Stmt.region
        [SOper.mk (some 14) none (SOp.load true 4 (Operand.tmp 2)),
          SOper.mk (some 15) none (SOp.call (Operand.func 112) [Operand.tmp 14]),
          SOper.mk (some 6) none (SOp.mv (Operand.tmp 15))]
        [1, 2, 6])
      (Stmt.seq
        (Stmt.region
          [SOper.mk (some 16) none (SOp.mv (Operand.tmp 6)),
            SOper.mk (some 17) none (SOp.ibin BinOp.neq (Operand.tmp 16) (Operand.const (Value.int IntKind.i64 0)))]
          [1, 2, 6, 17])
        (Stmt.cond (Operand.tmp 17)
          (Stmt.seq
            (Stmt.region
              [SOper.mk (some 18) none (SOp.mv (Operand.tmp 6)),
                SOper.mk (some 4) none (SOp.mv (Operand.const (Value.slice none 0 0))),
                SOper.mk (some 5) none (SOp.mv (Operand.tmp 18))]
              [4, 5])
            Stmt.ret)
          Stmt.skip)))
    (Stmt.seq
      (Stmt.seq
        (Stmt.region
          [SOper.mk (some 19) none (SOp.mv (Operand.tmp 1)),
            SOper.mk (some 20) none (SOp.ibin BinOp.lss (Operand.tmp 19) (Operand.const (Value.int IntKind.i64 0))),
            SOper.mk (some 21) none (SOp.mv (Operand.tmp 20)),
            SOper.mk (some 22) (some (21, false)) (SOp.mv (Operand.tmp 1)),
            SOper.mk (some 23) (some (21, false))
              (SOp.ibin BinOp.gtr (Operand.tmp 22) (Operand.const (Value.int IntKind.i64 200))),
            SOper.mk (some 24) none (SOp.pick (Operand.tmp 21) (Operand.const (Value.bool true)) (Operand.tmp 23))]
          [1, 2, 24])
        (Stmt.cond (Operand.tmp 24)
          (Stmt.seq
            (Stmt.region
              [SOper.mk (some 4) none (SOp.mv (Operand.const (Value.slice none 0 0))),
                SOper.mk (some 5) none (SOp.mv (Operand.const (Value.int IntKind.i64 1)))]
              [4, 5])
            Stmt.ret)
          Stmt.skip))
      (Stmt.seq
        (Stmt.region
          [SOper.mk (some 25) none (SOp.fld 1 (Operand.tmp 2)),
            SOper.mk (some 26) none (SOp.load false 1 (Operand.tmp 25)),
            SOper.mk (some 27) none (SOp.mk 22 1 24 (Value.slice none 0 0) (Operand.tmp 26) (Operand.tmp 26)),
            SOper.mk (some 7) none (SOp.mv (Operand.tmp 27))]
          [1, 2, 7])
        (Stmt.seq
          (Stmt.seq
            (Stmt.region
              [SOper.mk (some 28) none (SOp.mv (Operand.tmp 7)),
                SOper.mk (some 29) none (SOp.len false (Operand.tmp 28)),
                SOper.mk (some 30) none (SOp.mv (Operand.const (Value.int IntKind.i64 0)))]
              [1, 2, 7, 29, 30])
            (Stmt.block 0 (Stmt.loop S39_1 [30] [1, 2, 7, 29])))
          (Stmt.seq
            (Stmt.seq (Stmt.region [SOper.mk (some 9) none (SOp.mv (Operand.const (Value.bool true)))] [1, 2, 7, 9])
              (Stmt.block 2 (Stmt.loop S39_6 [9] [1, 2, 7])))
            (Stmt.seq
              (Stmt.region
                [SOper.mk (some 80) none (SOp.mv (Operand.tmp 7)), SOper.mk (some 81) none (SOp.fld 2 (Operand.tmp 2)),
                  SOper.mk (some 82) none (SOp.load false 1 (Operand.tmp 81)),
                  SOper.mk (some 83) none (SOp.idx 1 (Operand.tmp 80) (Operand.tmp 82)),
                  SOper.mk (some 84) none (SOp.load false 1 (Operand.tmp 83)),
                  SOper.mk (some 4) none (SOp.mv (Operand.tmp 84)),
                  SOper.mk (some 5) none (SOp.mv (Operand.const (Value.int IntKind.i64 0)))]
                [4, 5])
              Stmt.ret))))))
def S39 : FnS := ⟨85, [(4, none), (5, none)], S39_0⟩
theorem tr39 : trFn Try.prog 39 [2, 11] [[1, 2], [1, 2, 6], [1, 2, 6, 17], [4, 5], [1, 2, 24], [4, 5], [1, 2, 7], [1, 2, 7, 29, 30], [30], [1, 2, 7, 29], [1, 2, 7, 29, 30, 31], [1, 2, 7, 8, 29, 30], [1, 2, 7, 29, 30], [1, 2, 7, 29, 30], [1, 2, 7, 9], [9], [1, 2, 7], [1, 2, 7, 40], [1, 2, 7, 9], [1, 2, 7, 9, 42, 43, 44], [9, 44], [1, 2, 7, 42, 43], [1, 2, 7, 9, 42, 43, 44, 45], [1, 2, 7, 9, 11, 42, 43, 44], [1, 2, 7, 9, 11, 42, 43, 44, 52, 53, 54], [9, 54], [1, 2, 7, 11, 42, 43, 44, 52, 53], [1, 2, 7, 9, 11, 42, 43, 44, 52, 53, 54, 55], [9], [1, 2, 7, 11, 42, 43, 44, 52, 53, 54], [1, 2, 7, 9, 11, 12, 13, 42, 43, 44, 52, 53, 54], [1, 2, 7, 9, 11, 12, 42, 43, 44, 52, 53, 54, 70], [1, 2, 7, 9, 11, 42, 43, 44, 52, 53, 54], [1, 2, 7, 9, 11, 42, 43, 44, 52, 53, 54], [1, 2, 7, 9, 42, 43, 44], [4, 5]] = some S39 := by kernel_rfl
end Go.Proofs.Ytniobbepliknmaa.V
/- Lengths of words: lens.sums walked; no condition. -/
namespace Go.Proofs.Ytniobbepliknmaa.V
open Go
set_option linter.unusedVariables false
set_option linter.unusedSimpArgs false
attribute [local go_sem] e_seq e_region e_quiet e_join e_loop e_cond e_block e_exit e_ret e_skip e_fin e_kseq e_snrm e_sret e_sex e_bnrm e_bret e_bex e_rnrm e_rret e_res e_condC e_nil e_g e_mv g_mv e_pick g_pick pickC_eq e_ibin g_ibin ibinC_eq e_sbin g_sbin e_beq g_beq beqC_eq e_nilq g_nilq nilqC_sl nilqC_pt nilqC_mp e_un g_un unC_not unC_neg e_conv g_conv convC_eq e_fld g_fld fldC_ref fldC_ptr e_nilCheck g_nilCheck nilCheckC_ref nilCheckC_ptr nilCheckC_fun e_field g_field fieldC_eq e_len g_len lenC_sl lenC_str e_extract g_extract extractC_eq e_mkFunc e_build g_build e_idiv g_idiv idivC_eq e_ishift g_ishift ishiftC_eq e_idx g_idx e_idxA g_idxA e_load g_load loadC_ref loadC_ptr loadB_eq e_slc g_slc e_box boxC_loc boxC_esc e_alloc allocC_loc allocC_esc e_buildS e_store storeC_ref storeC_ptr storeB_eq e_append e_appz e_mk mkC_eq e_call callC_eq e_fn g_fn fnC_eq fnV_min' fnV_max' fnV_rune' e_q g_q e_a e_n g_call g_box g_alloc g_buildS g_store g_append g_mk g_a g_n g_dead e_dead e_callK e_drawn e_tree e_finJ e_tk e_tfin e_tno e_nbt_q e_nbt_qn e_nbt_a e_nbt_an e_nbt_fin e_early_nil e_early_t e_early_f e_nob_nil e_nob_none e_nob_some isBox_dead isBox_v isBox_ref e_dnil e_dk e_ek e_finB vcOps_vc1 e_dcons e_tq e_ekt e_tearly e_talt e_dearly look_nil look_c proj_nil proj_c looks_nil looks_c zip_nil zip_c val_tmp val_const val_func slv_v slv_box slv_ref slot_tmp slot_const slot_func slotL_v slotL_box slotL_ref put_some put_none updBox_c boxSet_box gd_eq slotVals_nil slotVals_c slotVals_b boxV_box boxOn_box slotsOn_nil slotsOn_c slotsOn_b resV_one resV_two vals_nil vals_c allOn_nil allOn_c partOn_nil partOn_c partVals_nil partVals_c fits_nil fits_c fillL_nil fillL_c mkv_one mkv_agg cellsV_agg cellsV_int cellsV_bool cellsV_slice cellsV_string cellsV_pointer cellsV_func cellsV_nilf cellsV_map one'_nil one'_c oc_int oc_bool oc_slice oc_string oc_pointer oc_func oc_nilf oc_map setC_eq iv_add iv_sub iv_mul iv_eql iv_neq iv_lss iv_leq iv_gtr iv_geq iok_add iok_sub iok_mul iok_eql iok_neq iok_lss iok_leq iok_gtr iok_geq pickV_bool args0_nil args0_c bnd_none bnd_some imp_bt imp_bf imp_ebt imp_ebf imp_eb1 imp_np imp_pp beq_tt beq_tf beq_ft beq_ff cond_or cond_and e_round e_meet Int.le_refl Int.toNat_zero decide_true decide_false Bool.or_false Bool.false_or Bool.true_or Bool.or_true Bool.and_false Bool.false_and Bool.bne_false Bool.bne_true beq_iff_eq Int.cast_ofNat_Int not_false_eq_true not_true_eq_false false_and and_false false_implies true_implies true_and and_true Bool.true_and Bool.and_true Bool.not_true Bool.not_false forall_const implies_true List.take_zero List.drop_zero List.take_succ_cons List.drop_succ_cons List.take_nil List.drop_nil List.length_cons List.length_nil List.nil_append List.append_nil List.cons_append Int.toNat_natCast decide_eq_true_eq decide_eq_false_iff_not cond_true cond_false and_self List.getElem?_cons_zero List.getElem?_cons_succ List.set_cons_zero List.set_cons_succ Option.some.injEq exists_eq_left' Nat.zero_add Nat.add_zero Nat.mul_one imp_self true_or or_true or_false false_or Bool.or_eq_true Bool.or_eq_false_iff Bool.and_eq_true Bool.and_eq_false_iff Bool.not_eq_true' Bool.not_eq_false'

/-- the lengths of one symbol -/
def oneL (rows : List (List Bool)) (s : Sy) (j : Nat) : Bool := if s.t then decide (j = 1) else (rows.getD s.n.toNat []).getD j false
/-- the lengths that symbols have together -/
def SumP (rows : List (List Bool)) : List Sy → Nat → Prop
  | [], m => m = 0
  | s :: l, m => ∃ j, j ≤ m ∧ oneL rows s j = true ∧ SumP rows l (m - j)
theorem SumP_snoc {rows : List (List Bool)} {s : Sy} : ∀ {l : List Sy} {m : Nat}, SumP rows (l ++ [s]) m ↔ ∃ k, k ≤ m ∧ SumP rows l k ∧ oneL rows s (m - k) = true
  | [], m => by
    simp only [List.nil_append, SumP]
    constructor
    · rintro ⟨j, h1, h2, h3⟩
      exact ⟨0, by omega, rfl, by rw [show m - 0 = j by omega]; exact h2⟩
    · rintro ⟨k, h1, rfl, h3⟩
      exact ⟨m, by omega, by simpa using h3, by omega⟩
  | t :: l, m => by
    simp only [List.cons_append, SumP]
    constructor
    · rintro ⟨j, h1, h2, h3⟩
      obtain ⟨k, q1, q2, q3⟩ := SumP_snoc.1 h3
      exact ⟨j + k, by omega, ⟨j, by omega, h2, by rw [show j + k - j = k by omega]; exact q2⟩, by rw [show m - (j + k) = m - j - k by omega]; exact q3⟩
    · rintro ⟨k, h1, ⟨j, q1, q2, q3⟩, q4⟩
      exact ⟨j, by omega, q2, SumP_snoc.2 ⟨k - j, by omega, q3, by rw [show m - j - (k - j) = m - k by omega]; exact q4⟩⟩

/-- what is found after rounds k and j -/
def QP (rows : List (List Bool)) (s : Sy) (at' : List Bool) (k j m : Nat) : Prop := ∃ k', k' ≤ m ∧ (k' < k ∨ k' = k ∧ m - k' < j) ∧ at'.getD k' false = true ∧ oneL rows s (m - k') = true
/-- a row that tells which -/
def Tells (n : Nat) (xs : List Bool) (p : Nat → Prop) : Prop := xs.length = n + 1 ∧ ∀ m (h : m < xs.length), xs[m] = true ↔ p m
theorem Tells.congr {n : Nat} {xs : List Bool} {p q : Nat → Prop} (h : Tells n xs p) (hq : ∀ m, m ≤ n → (p m ↔ q m)) : Tells n xs q := ⟨h.1, fun m hm => (h.2 m hm).trans (hq m (by have := h.1; omega))⟩
theorem Tells.set {n : Nat} {xs : List Bool} {p q : Nat → Prop} (h : Tells n xs p) {i : Nat} (hi : i < xs.length) {x : Bool} (hx : x = true ↔ q i) (hq : ∀ m, m ≠ i → (p m ↔ q m)) : Tells n (xs.set i x) q := by
  refine ⟨by simpa using h.1, fun m hm => ?_⟩
  rw [List.getElem_set]
  split
  · rename_i e; subst e; exact hx
  · rename_i e; exact (h.2 m (by simpa using hm)).trans (hq m fun q => e q.symm)

theorem Arr.mono {α : Type} [Sc α] {g g' : PH} {b : Nat} {T : TypeId} {xs : List α} (h : Arr g b T xs) (hl : Mem.le (lk [g]) (lk [g'])) : Arr g' b T xs := lk_one.1 (hl _ _ (lk_one.2 h))
theorem Arr.bool {g : PH} {b : Nat} {T : TypeId} {xs : List Bool} (h : Arr g b T xs) {i : Nat} (hi : i < xs.length) {Γ : Ctx} (hg : g ∈ Γ) : Cells Γ b i [.bool xs[i]] := h.cell hi hg
theorem QP_skip {rows : List (List Bool)} {s : Sy} {at' : List Bool} {i m : Nat} (h : at'.getD i false = false) : QP rows s at' i 0 m ↔ QP rows s at' (i + 1) 0 m := by
  constructor
  · rintro ⟨k', h1, h2, h3, h4⟩
    exact ⟨k', h1, .inl (by omega), h3, h4⟩
  · rintro ⟨k', h1, h2, h3, h4⟩
    refine ⟨k', h1, .inl ?_, h3, h4⟩
    by_cases e : k' = i
    · subst e; rw [h] at h3; cases h3
    · omega
theorem QP_end {rows : List (List Bool)} {s : Sy} {at' : List Bool} {i m n : Nat} (hm : m ≤ n) (hi : i ≤ n) : QP rows s at' i (n + 1 - i) m ↔ QP rows s at' (i + 1) 0 m := by
  constructor
  · rintro ⟨k', h1, h2, h3, h4⟩
    exact ⟨k', h1, .inl (by omega), h3, h4⟩
  · rintro ⟨k', h1, h2, h3, h4⟩
    refine ⟨k', h1, ?_, h3, h4⟩
    omega
theorem QP_step {rows : List (List Bool)} {s : Sy} {at' : List Bool} {i j m : Nat} (h : at'.getD i false = true) : QP rows s at' i (j + 1) m ↔ QP rows s at' i j m ∨ m = i + j ∧ oneL rows s j = true := by
  constructor
  · rintro ⟨k', h1, h2, h3, h4⟩
    by_cases e : k' = i ∧ m - k' = j
    · exact .inr ⟨by omega, by rw [← e.2]; exact h4⟩
    · exact .inl ⟨k', h1, by omega, h3, h4⟩
  · rintro (⟨k', h1, h2, h3, h4⟩ | ⟨h1, h2⟩)
    · exact ⟨k', h1, by omega, h3, h4⟩
    · exact ⟨i, by omega, .inr ⟨rfl, by omega⟩, h, by rw [show m - i = j by omega]; exact h2⟩
theorem QP_all {rows : List (List Bool)} {s : Sy} {at' : List Bool} {n m : Nat} (hm : m ≤ n) {p : Nat → Prop} (hT : Tells n at' p) : QP rows s at' (n + 1) 0 m ↔ ∃ k, k ≤ m ∧ p k ∧ oneL rows s (m - k) = true := by
  have hp : ∀ k, k ≤ n → (at'.getD k false = true ↔ p k) := fun k hk => by
    have hk' : k < at'.length := by have := hT.1; omega
    rw [← hT.2 k hk']
    simp [hk']
  constructor
  · rintro ⟨k', h1, h2, h3, h4⟩
    exact ⟨k', h1, (hp k' (by omega)).1 h3, h4⟩
  · rintro ⟨k', h1, h3, h4⟩
    exact ⟨k', h1, .inl (by omega), (hp k' (by omega)).2 h3, h4⟩
theorem lens_sums {Γr : Ctx} {A B : Option Addr} {c d : Nat} {l : List Sy} {rows : List (List Bool)} (n : Nat) (hn : n ≤ 1000) (hl : SlOk (lk Γr) A c l) (hr : SlOk (lk Γr) B d rows) (hrow : ∀ x ∈ rows, x.length = n + 1) (hin : ∀ s ∈ l, s.t = false → 0 ≤ s.n ∧ s.n.toNat < rows.length) :
    Ret Try.prog 113 [.slice A l.length c, .slice B rows.length d, .int .i64 n] Γr [] (fun v Γ => ∃ g b xs, Γ = [g] ∧ v = .slice (some ⟨b, 0, none⟩) (n + 1) (n + 1) ∧ Arr g b 4 xs ∧ Tells n xs (SumP rows l)) := by
  generalize hR : (fun (v : Value) (Γ : Ctx) => ∃ g b xs, _) = R
  refine ret_of_vc tr113 (Nat.le_of_ble_eq_true rfl) ?_
  have hls := hl.short
  have hrs := hr.short
  simp -implicitDefEqProofs only [S113, S113_0, go_sem, Nat.reduceBEq, Nat.reduceAdd, Nat.reduceSub, Nat.reduceMul, Nat.reduceLeDiff, reduceCtorEq, ↓reduceIte, Int.reduceLT, Int.reduceLE, Int.reduceEq, Int.reduceNe]
  simp (disch := omega) only [wrap_id]
  refine ⟨by omega, by omega, fun b => ?_⟩
  rw [show ((n : Int) + 1).toNat = n + 1 by omega]
  refine s_idx rfl (by omega) (by omega) ?_
  simp -implicitDefEqProofs only [go_sem, Nat.reduceBEq, Nat.reduceAdd, Nat.reduceSub, Nat.reduceMul, Nat.reduceLeDiff, reduceCtorEq, ↓reduceIte, Int.reduceLT, Int.reduceLE, Int.reduceEq, Int.reduceNe]
  refine s_storeA (ix := 0) true rfl (Arr.made false b 4 (n + 1)) (by simp) ?_
  intro g hA _
  simp -implicitDefEqProofs only [go_sem, Nat.reduceBEq, Nat.reduceAdd, Nat.reduceSub, Nat.reduceMul, Nat.reduceLeDiff, reduceCtorEq, ↓reduceIte, Int.reduceLT, Int.reduceLE, Int.reduceEq, Int.reduceNe]
  refine s_loop (fun f vs Γ => ∃ g, Γ = [g] ∧ ∃ (k b : Nat) (xs : List Bool), vs = [.v true (.slice (some ⟨b, 0, none⟩) (n + 1) (n + 1)), .v true (.int .i64 k)] ∧ k + f = l.length ∧ Arr g b 4 xs ∧ Tells n xs (SumP rows (l.take k))) l.length
    (Up.here ⟨_, rfl, 0, b, _, rfl, by omega, hA, Tells.set (p := fun _ => False) ⟨by simp, fun m hm => by simp⟩ (by simp) (by simp [SumP]) (fun m hm => by simpa [SumP] using hm)⟩) ?_
  rintro f vs Γ ⟨g, rfl, k, b, at', rfl, hkf, hA, hT⟩
  simp -implicitDefEqProofs only [S113_5, go_sem, Nat.reduceBEq, Nat.reduceAdd, Nat.reduceSub, Nat.reduceMul, Nat.reduceLeDiff, reduceCtorEq, ↓reduceIte, Int.reduceLT, Int.reduceLE, Int.reduceEq, Int.reduceNe]
  refine ⟨fun hlt => ?_, fun hge => ?_⟩
  · have hk : k < l.length := by omega
    obtain ⟨b1, o1, hA1, hc1⟩ := hl.sy hk
    refine s_idx hA1 (by omega) (by omega) ?_
    simp -implicitDefEqProofs only [go_sem, Nat.reduceBEq, Nat.reduceAdd, Nat.reduceSub, Nat.reduceMul, Nat.reduceLeDiff, reduceCtorEq, ↓reduceIte, Int.reduceLT, Int.reduceLE, Int.reduceEq, Int.reduceNe]
    refine s_ld0 (hc1 _ (lk_r _ _)) (by simp) (by simp) ?_
    simp -implicitDefEqProofs only [go_sem, Nat.reduceBEq, Nat.reduceAdd, Nat.reduceSub, Nat.reduceMul, Nat.reduceLeDiff, reduceCtorEq, ↓reduceIte, Int.reduceLT, Int.reduceLE, Int.reduceEq, Int.reduceNe]
    simp (disch := omega) only [wrap_id]
    intro b2
    refine ⟨by omega, by omega, fun b3 => ?_⟩
    rw [show ((n : Int) + 1).toNat = n + 1 by omega]
    have hal := hT.1
    refine s_loop (fun f' vs Γ => ∃ gx g, Γ = [gx, g] ∧ Arr g b 4 at' ∧ ∃ (i : Nat) (xs : List Bool), vs = [.v true (.int .i64 i)] ∧ i + f' = n + 1 ∧ Arr gx b3 4 xs ∧ Tells n xs (QP rows l[k] at' i 0)) (n + 1)
      (Up.here ⟨_, _, rfl, hA, 0, _, rfl, by omega, Arr.made false b3 4 (n + 1), ⟨by simp, fun m hm => by simp [QP]⟩⟩) ?_
    rintro f' vs Γ ⟨gx, g, rfl, hA, i, xs, rfl, hif, hX, hTx⟩
    have hxl := hTx.1
    simp -implicitDefEqProofs only [S113_4, go_sem, Nat.reduceBEq, Nat.reduceAdd, Nat.reduceSub, Nat.reduceMul, Nat.reduceLeDiff, reduceCtorEq, ↓reduceIte, Int.reduceLT, Int.reduceLE, Int.reduceEq, Int.reduceNe]
    refine ⟨fun hlt => ?_, fun hge => ?_⟩
    · have hi : i < at'.length := by omega
      refine s_split ?_
      simp -implicitDefEqProofs only [S113_2, S113_3, go_sem, Nat.reduceBEq, Nat.reduceAdd, Nat.reduceSub, Nat.reduceMul, Nat.reduceLeDiff, reduceCtorEq, ↓reduceIte, Int.reduceLT, Int.reduceLE, Int.reduceEq, Int.reduceNe]
      refine s_idx rfl (by omega) (by omega) ?_
      simp -implicitDefEqProofs only [go_sem, Nat.reduceBEq, Nat.reduceAdd, Nat.reduceSub, Nat.reduceMul, Nat.reduceLeDiff, reduceCtorEq, ↓reduceIte, Int.reduceLT, Int.reduceLE, Int.reduceEq, Int.reduceNe]
      refine s_ld0 (hA.bool hi (by simp)) (by simp) (by simp) ?_
      simp -implicitDefEqProofs only [go_sem, Nat.reduceBEq, Nat.reduceAdd, Nat.reduceSub, Nat.reduceMul, Nat.reduceLeDiff, reduceCtorEq, ↓reduceIte, Int.reduceLT, Int.reduceLE, Int.reduceEq, Int.reduceNe]
      have hgd : at'.getD i false = at'[i] := by simp [hi]
      refine ⟨fun hf => ?_, fun ht => ?_⟩
      · simp (disch := omega) only [wrap_id]
        exact Up.here ⟨f' - 1, by omega, Up.here ⟨_, _, rfl, hA, i + 1, _, rfl, by omega, hX, hTx.congr fun m _ => QP_skip (by rw [hgd, hf])⟩⟩
      · simp (disch := omega) only [wrap_id]
        refine s_loop (fun f2 vs Γ => ∃ gx g, Γ = [gx, g] ∧ Arr g b 4 at' ∧ ∃ (j : Nat) (xs : List Bool), vs = [.v true (.int .i64 j)] ∧ j + f2 = n + 1 - i ∧ Arr gx b3 4 xs ∧ Tells n xs (QP rows l[k] at' i j)) (n + 1 - i)
          (Up.here ⟨_, _, rfl, hA, 0, _, rfl, by omega, hX, hTx⟩) ?_
        rintro f2 vs Γ ⟨gx, g, rfl, hA, j, xs, rfl, hjf, hX, hTx⟩
        have hxl := hTx.1
        simp -implicitDefEqProofs only [S113_1, go_sem, Nat.reduceBEq, Nat.reduceAdd, Nat.reduceSub, Nat.reduceMul, Nat.reduceLeDiff, reduceCtorEq, ↓reduceIte, Int.reduceLT, Int.reduceLE, Int.reduceEq, Int.reduceNe]
        refine ⟨fun hlt => ?_, fun hge => ?_⟩
        · have hij : i + j < xs.length := by omega
          simp (disch := omega) only [wrap_id]
          refine s_idx rfl (by omega) (by omega) ?_
          simp -implicitDefEqProofs only [go_sem, Nat.reduceBEq, Nat.reduceAdd, Nat.reduceSub, Nat.reduceMul, Nat.reduceLeDiff, reduceCtorEq, ↓reduceIte, Int.reduceLT, Int.reduceLE, Int.reduceEq, Int.reduceNe]
          rw [show ((i : Int) + (j : Int)).toNat = i + j by omega]
          refine s_ld0 (hX.bool hij (by simp)) (by simp) (by simp) ?_
          have hstep : ∀ x : Bool, (x = true ↔ xs[i + j] = true ∨ oneL rows l[k] j = true) → Tells n (xs.set (i + j) x) (QP rows l[k] at' i (j + 1)) := fun x hx => by
            refine hTx.set hij ?_ fun m hm => ?_
            · rw [QP_step (by rw [hgd, ht]), hx, hTx.2 _ hij]
              simp
            · rw [QP_step (by rw [hgd, ht])]
              exact ⟨.inl, fun q => q.resolve_right fun q => hm q.1⟩
          generalize hxo : xs[i + j] = o at hstep ⊢
          have hlk : l[k] ∈ l := List.getElem_mem hk
          generalize hls' : l[k] = s at *
          obtain ⟨t, sn⟩ := s
          cases o <;> cases t
          all_goals
            simp -implicitDefEqProofs only [go_sem, Nat.reduceBEq, Nat.reduceAdd, Nat.reduceSub, Nat.reduceMul, Nat.reduceLeDiff, reduceCtorEq, ↓reduceIte, Int.reduceLT, Int.reduceLE, Int.reduceEq, Int.reduceNe]
          · have hsn := hin _ hlk rfl
            simp only at hsn
            have hsn2 : sn.toNat < rows.length := hsn.2
            have hrl : rows[sn.toNat].length = n + 1 := hrow _ (List.getElem_mem hsn2)
            obtain ⟨b5, o5, hA5, A6, c6, hs6, hc6⟩ := hr.list hsn2
            refine s_idx hA5 (by omega) (by omega) ?_
            simp -implicitDefEqProofs only [go_sem, Nat.reduceBEq, Nat.reduceAdd, Nat.reduceSub, Nat.reduceMul, Nat.reduceLeDiff, reduceCtorEq, ↓reduceIte, Int.reduceLT, Int.reduceLE, Int.reduceEq, Int.reduceNe]
            refine s_ld0 (hc6 _ (lk_r _ _)) (by simp) (by simp) ?_
            simp -implicitDefEqProofs only [go_sem, Nat.reduceBEq, Nat.reduceAdd, Nat.reduceSub, Nat.reduceMul, Nat.reduceLeDiff, reduceCtorEq, ↓reduceIte, Int.reduceLT, Int.reduceLE, Int.reduceEq, Int.reduceNe]
            obtain ⟨b7, o7, hA7, hc7⟩ := hs6.bool (i := j) (by omega)
            refine s_idx hA7 (by omega) (by omega) ?_
            simp -implicitDefEqProofs only [go_sem, Nat.reduceBEq, Nat.reduceAdd, Nat.reduceSub, Nat.reduceMul, Nat.reduceLeDiff, reduceCtorEq, ↓reduceIte, Int.reduceLT, Int.reduceLE, Int.reduceEq, Int.reduceNe]
            refine s_ld0 (hc7 _ (lk_r _ _)) (by simp) (by simp) ?_
            simp -implicitDefEqProofs only [go_sem, Nat.reduceBEq, Nat.reduceAdd, Nat.reduceSub, Nat.reduceMul, Nat.reduceLeDiff, reduceCtorEq, ↓reduceIte, Int.reduceLT, Int.reduceLE, Int.reduceEq, Int.reduceNe]
            refine s_idx rfl (by omega) (by omega) ?_
            simp -implicitDefEqProofs only [go_sem, Nat.reduceBEq, Nat.reduceAdd, Nat.reduceSub, Nat.reduceMul, Nat.reduceLeDiff, reduceCtorEq, ↓reduceIte, Int.reduceLT, Int.reduceLE, Int.reduceEq, Int.reduceNe]
            rw [show ((i : Int) + (j : Int)).toNat = i + j by omega]
            refine s_storeA (ix := 0) (rows[sn.toNat][j]) rfl hX hij ?_
            intro gx' hX' _
            simp -implicitDefEqProofs only [go_sem, Nat.reduceBEq, Nat.reduceAdd, Nat.reduceSub, Nat.reduceMul, Nat.reduceLeDiff, reduceCtorEq, ↓reduceIte, Int.reduceLT, Int.reduceLE, Int.reduceEq, Int.reduceNe]
            simp (disch := omega) only [wrap_id]
            exact ⟨f2 - 1, by omega, Up.here ⟨_, _, rfl, hA, j + 1, _, rfl, by omega, hX', hstep _ (by simp [oneL, hsn2, show j < rows[sn.toNat].length by omega])⟩⟩
          · refine s_idxg (b := 0) (o := 0) (by simp) ?_
            simp -implicitDefEqProofs only [go_sem, Nat.reduceBEq, Nat.reduceAdd, Nat.reduceSub, Nat.reduceMul, Nat.reduceLeDiff, reduceCtorEq, ↓reduceIte, Int.reduceLT, Int.reduceLE, Int.reduceEq, Int.reduceNe]
            refine s_ldg0 (cs := [.slice none 0 0]) (by simp) (by simp) (by simp) (by simp) ?_
            simp -implicitDefEqProofs only [go_sem, Nat.reduceBEq, Nat.reduceAdd, Nat.reduceSub, Nat.reduceMul, Nat.reduceLeDiff, reduceCtorEq, ↓reduceIte, Int.reduceLT, Int.reduceLE, Int.reduceEq, Int.reduceNe]
            refine s_idxg (b := 0) (o := 0) (by simp) ?_
            simp -implicitDefEqProofs only [go_sem, Nat.reduceBEq, Nat.reduceAdd, Nat.reduceSub, Nat.reduceMul, Nat.reduceLeDiff, reduceCtorEq, ↓reduceIte, Int.reduceLT, Int.reduceLE, Int.reduceEq, Int.reduceNe]
            refine s_ldg0 (cs := [.bool false]) (by simp) (by simp) (by simp) (by simp) ?_
            simp -implicitDefEqProofs only [go_sem, Nat.reduceBEq, Nat.reduceAdd, Nat.reduceSub, Nat.reduceMul, Nat.reduceLeDiff, reduceCtorEq, ↓reduceIte, Int.reduceLT, Int.reduceLE, Int.reduceEq, Int.reduceNe]
            refine s_idx rfl (by omega) (by omega) ?_
            simp -implicitDefEqProofs only [go_sem, Nat.reduceBEq, Nat.reduceAdd, Nat.reduceSub, Nat.reduceMul, Nat.reduceLeDiff, reduceCtorEq, ↓reduceIte, Int.reduceLT, Int.reduceLE, Int.reduceEq, Int.reduceNe]
            rw [show ((i : Int) + (j : Int)).toNat = i + j by omega]
            refine s_storeA (ix := 0) (decide ((j : Int) = 1)) rfl hX hij ?_
            intro gx' hX' _
            simp -implicitDefEqProofs only [go_sem, Nat.reduceBEq, Nat.reduceAdd, Nat.reduceSub, Nat.reduceMul, Nat.reduceLeDiff, reduceCtorEq, ↓reduceIte, Int.reduceLT, Int.reduceLE, Int.reduceEq, Int.reduceNe]
            simp (disch := omega) only [wrap_id]
            exact ⟨f2 - 1, by omega, Up.here ⟨_, _, rfl, hA, j + 1, _, rfl, by omega, hX', hstep _ (by simp [oneL]; omega)⟩⟩
          · refine s_idxg (b := 0) (o := 0) (by simp) ?_
            simp -implicitDefEqProofs only [go_sem, Nat.reduceBEq, Nat.reduceAdd, Nat.reduceSub, Nat.reduceMul, Nat.reduceLeDiff, reduceCtorEq, ↓reduceIte, Int.reduceLT, Int.reduceLE, Int.reduceEq, Int.reduceNe]
            refine s_ldg0 (cs := [.slice none 0 0]) (by simp) (by simp) (by simp) (by simp) ?_
            simp -implicitDefEqProofs only [go_sem, Nat.reduceBEq, Nat.reduceAdd, Nat.reduceSub, Nat.reduceMul, Nat.reduceLeDiff, reduceCtorEq, ↓reduceIte, Int.reduceLT, Int.reduceLE, Int.reduceEq, Int.reduceNe]
            refine s_idxg (b := 0) (o := 0) (by simp) ?_
            simp -implicitDefEqProofs only [go_sem, Nat.reduceBEq, Nat.reduceAdd, Nat.reduceSub, Nat.reduceMul, Nat.reduceLeDiff, reduceCtorEq, ↓reduceIte, Int.reduceLT, Int.reduceLE, Int.reduceEq, Int.reduceNe]
            refine s_ldg0 (cs := [.bool false]) (by simp) (by simp) (by simp) (by simp) ?_
            simp -implicitDefEqProofs only [go_sem, Nat.reduceBEq, Nat.reduceAdd, Nat.reduceSub, Nat.reduceMul, Nat.reduceLeDiff, reduceCtorEq, ↓reduceIte, Int.reduceLT, Int.reduceLE, Int.reduceEq, Int.reduceNe]
            refine s_idx rfl (by omega) (by omega) ?_
            simp -implicitDefEqProofs only [go_sem, Nat.reduceBEq, Nat.reduceAdd, Nat.reduceSub, Nat.reduceMul, Nat.reduceLeDiff, reduceCtorEq, ↓reduceIte, Int.reduceLT, Int.reduceLE, Int.reduceEq, Int.reduceNe]
            rw [show ((i : Int) + (j : Int)).toNat = i + j by omega]
            refine s_storeA (ix := 0) (true) rfl hX hij ?_
            intro gx' hX' _
            simp -implicitDefEqProofs only [go_sem, Nat.reduceBEq, Nat.reduceAdd, Nat.reduceSub, Nat.reduceMul, Nat.reduceLeDiff, reduceCtorEq, ↓reduceIte, Int.reduceLT, Int.reduceLE, Int.reduceEq, Int.reduceNe]
            simp (disch := omega) only [wrap_id]
            exact ⟨f2 - 1, by omega, Up.here ⟨_, _, rfl, hA, j + 1, _, rfl, by omega, hX', hstep _ (by simp)⟩⟩
          · refine s_idxg (b := 0) (o := 0) (by simp) ?_
            simp -implicitDefEqProofs only [go_sem, Nat.reduceBEq, Nat.reduceAdd, Nat.reduceSub, Nat.reduceMul, Nat.reduceLeDiff, reduceCtorEq, ↓reduceIte, Int.reduceLT, Int.reduceLE, Int.reduceEq, Int.reduceNe]
            refine s_ldg0 (cs := [.slice none 0 0]) (by simp) (by simp) (by simp) (by simp) ?_
            simp -implicitDefEqProofs only [go_sem, Nat.reduceBEq, Nat.reduceAdd, Nat.reduceSub, Nat.reduceMul, Nat.reduceLeDiff, reduceCtorEq, ↓reduceIte, Int.reduceLT, Int.reduceLE, Int.reduceEq, Int.reduceNe]
            refine s_idxg (b := 0) (o := 0) (by simp) ?_
            simp -implicitDefEqProofs only [go_sem, Nat.reduceBEq, Nat.reduceAdd, Nat.reduceSub, Nat.reduceMul, Nat.reduceLeDiff, reduceCtorEq, ↓reduceIte, Int.reduceLT, Int.reduceLE, Int.reduceEq, Int.reduceNe]
            refine s_ldg0 (cs := [.bool false]) (by simp) (by simp) (by simp) (by simp) ?_
            simp -implicitDefEqProofs only [go_sem, Nat.reduceBEq, Nat.reduceAdd, Nat.reduceSub, Nat.reduceMul, Nat.reduceLeDiff, reduceCtorEq, ↓reduceIte, Int.reduceLT, Int.reduceLE, Int.reduceEq, Int.reduceNe]
            refine s_idx rfl (by omega) (by omega) ?_
            simp -implicitDefEqProofs only [go_sem, Nat.reduceBEq, Nat.reduceAdd, Nat.reduceSub, Nat.reduceMul, Nat.reduceLeDiff, reduceCtorEq, ↓reduceIte, Int.reduceLT, Int.reduceLE, Int.reduceEq, Int.reduceNe]
            rw [show ((i : Int) + (j : Int)).toNat = i + j by omega]
            refine s_storeA (ix := 0) (true) rfl hX hij ?_
            intro gx' hX' _
            simp -implicitDefEqProofs only [go_sem, Nat.reduceBEq, Nat.reduceAdd, Nat.reduceSub, Nat.reduceMul, Nat.reduceLeDiff, reduceCtorEq, ↓reduceIte, Int.reduceLT, Int.reduceLE, Int.reduceEq, Int.reduceNe]
            simp (disch := omega) only [wrap_id]
            exact ⟨f2 - 1, by omega, Up.here ⟨_, _, rfl, hA, j + 1, _, rfl, by omega, hX', hstep _ (by simp)⟩⟩
        · have hj : j = n + 1 - i := by omega
          subst hj
          exact Up.here ⟨f' - 1, by omega, Up.here ⟨_, _, rfl, hA, i + 1, _, rfl, by omega, hX, hTx.congr fun m hm => QP_end hm (by omega)⟩⟩
    · have hi : i = n + 1 := by omega
      subst hi
      simp (disch := omega) only [wrap_id]
      refine ⟨f - 1, by omega, Up.sel [[0]] (by decide) fun _ _ => ⟨_, rfl, k + 1, b3, xs, rfl, by omega, hX, hTx.congr fun m hm => ?_⟩⟩
      rw [QP_all hm hT, List.take_succ_eq_append_getElem hk, SumP_snoc]
  · have hk : k = l.length := by omega
    rw [hk, List.take_length] at hT
    refine Up.here ?_
    subst hR
    exact ⟨_, _, _, rfl, rfl, hA, hT⟩
end Go.Proofs.Ytniobbepliknmaa.V
/- Lengths of words: the plain law; no condition. -/
namespace Go.Proofs.Ytniobbepliknmaa.V
open Go
set_option linter.unusedVariables false
set_option linter.unusedSimpArgs false

/-- a grammar that is accepted -/
structure VG (g : Gr) : Prop where
  ts : 1 ≤ g.ts ∧ g.ts ≤ 8
  ns : 1 ≤ g.ns ∧ g.ns ≤ 10
  st : 0 ≤ g.st ∧ g.st < g.ns
  len : g.rs.length ≤ 32
  left : ∀ r ∈ g.rs, 0 ≤ r.l ∧ r.l < g.ns
  right : ∀ r ∈ g.rs, r.r.length ≤ 4
  sym : ∀ r ∈ g.rs, ∀ s ∈ r.r, 0 ≤ s.n ∧ (s.t = true → s.n < g.ts) ∧ (s.t = false → s.n < g.ns)
theorem ckF_ok {g : Gr} (h : ckF g = 0) : VG g := by
  unfold ckF at h
  split at h
  · cases h
  rename_i hb
  split at h
  · cases h
  rename_i h32
  unfold badHead at hb
  have hf : ∀ k (hk : k < g.rs.length), faultAt g k g.rs[k] = 0 := by
    intro k hk
    have h0 : ∀ m, m ≤ g.rs.length → ckR g m = 0 := by
      intro m hm
      apply Classical.byContradiction
      intro hn
      exact hn (by rw [← ckR_stays hn hm, h])
    rw [← ckR_step hk (h0 k (by omega))]
    exact h0 (k + 1) hk
  have hr : ∀ r ∈ g.rs, (0 ≤ r.l ∧ r.l < g.ns) ∧ r.r.length ≤ 4 ∧ ∀ s ∈ r.r, badSy g.ts g.ns s = false := by
    intro r hr
    obtain ⟨k, hk, rfl⟩ := List.getElem_of_mem hr
    have h1 := hf k hk
    unfold faultAt at h1
    split at h1
    · cases h1
    split at h1
    · cases h1
    split at h1
    · cases h1
    rename_i q1 q2 q3
    refine ⟨by omega, by omega, fun s hs => ?_⟩
    cases hb : badSy g.ts g.ns s with
    | false => rfl
    | true => exact absurd (List.any_eq_true.2 ⟨s, hs, hb⟩) q3
  refine ⟨by omega, by omega, by omega, by omega, fun r h => (hr r h).1, fun r h => (hr r h).2.1, fun r h s hs => ?_⟩
  have := (hr r h).2.2 s hs
  simp only [badSy, Bool.or_eq_false_iff, Bool.and_eq_false_iff, decide_eq_false_iff_not, Bool.not_eq_false'] at this
  obtain ⟨⟨h1, h2⟩, h3⟩ := this
  refine ⟨by omega, fun ht => ?_, fun ht => ?_⟩
  · rw [ht] at h2; simp at h2; exact h2
  · rw [ht] at h3; simp at h3; exact h3

/-- the lengths of words -/
inductive LenD (g : Gr) : List Sy → Nat → Prop
  | nil : LenD g [] 0
  | term {n : Int} {l : List Sy} {k : Nat} : LenD g l k → LenD g (⟨true, n⟩ :: l) (1 + k)
  | non {a : Int} {l : List Sy} {r : Ru} {j k : Nat} : r ∈ g.rs → r.l = a → LenD g r.r j → LenD g l k → LenD g (⟨false, a⟩ :: l) (j + k)
def HasD (g : Gr) (a : Int) (k : Nat) : Prop := ∃ r ∈ g.rs, r.l = a ∧ LenD g r.r k
/-- what is told is so -/
def SoundL (g : Gr) (rows : List (List Bool)) : Prop := ∀ (a k : Nat), (rows.getD a []).getD k false = true → HasD g a k
theorem sum_sound {g : Gr} {rows : List (List Bool)} (h : SoundL g rows) : ∀ {l : List Sy} {m : Nat}, (∀ s ∈ l, 0 ≤ s.n) → SumP rows l m → LenD g l m
  | [], m, _, h => by simp only [SumP] at h; subst h; exact .nil
  | ⟨t, a⟩ :: l, m, h0, hs => by
    obtain ⟨j, h1, h2, h3⟩ := hs
    have ih := sum_sound h (fun s hs => h0 s (by simp [hs])) h3
    cases t with
    | true =>
      simp [oneL] at h2
      subst h2
      rw [show m = 1 + (m - 1) by omega]
      exact .term ih
    | false =>
      simp only [oneL, Bool.false_eq_true, if_false] at h2
      obtain ⟨r, hr, hl, hd⟩ := h _ _ h2
      have ha := h0 ⟨false, a⟩ (by simp)
      rw [show m = j + (m - j) by omega]
      exact .non hr (by rw [hl]; simp only at ha; omega) hd ih
/-- all that follows is told -/
def ClosedL (g : Gr) (n : Nat) (rows : List (List Bool)) : Prop := ∀ r ∈ g.rs, ∀ k, k ≤ n → SumP rows r.r k → (rows.getD r.l.toNat []).getD k false = true
theorem len_told {g : Gr} {n : Nat} {rows : List (List Bool)} (h : ClosedL g n rows) {l : List Sy} {m : Nat} (hd : LenD g l m) : m ≤ n → SumP rows l m := by
  induction hd with
  | nil => intro _; rfl
  | @term n' l k _ ih => intro hm; exact ⟨1, by omega, by simp [oneL], by rw [show 1 + k - 1 = k by omega]; exact ih (by omega)⟩
  | @non a l r j k hr ha _ _ ih1 ih2 =>
    intro hm
    refine ⟨j, by omega, ?_, by rw [show j + k - j = k by omega]; exact ih2 (by omega)⟩
    have := h r hr j (by omega) (ih1 (by omega))
    simp only [oneL, Bool.false_eq_true, if_false]
    rw [← ha]
    exact this
theorem told_iff {g : Gr} {n : Nat} {rows : List (List Bool)} (hs : SoundL g rows) (hc : ClosedL g n rows) {a : Nat} {k : Nat} (hk : k ≤ n) : (rows.getD a []).getD k false = true ↔ HasD g a k := by
  refine ⟨hs a k, ?_⟩
  rintro ⟨r, hr, ha, hd⟩
  have := hc r hr k hk (len_told hc hd hk)
  rw [ha] at this
  simpa using this
/-- how much is told -/
def cntL (rows : List (List Bool)) : Nat := (rows.map (List.count true)).sum
theorem cntL_le : ∀ {rows : List (List Bool)} {m : Nat}, (∀ x ∈ rows, x.length = m) → cntL rows ≤ rows.length * m
  | [], m, _ => by simp [cntL]
  | x :: l, m, h => by
    have h1 := cntL_le (rows := l) (m := m) fun y hy => h y (by simp [hy])
    have h2 : x.count true ≤ m := by rw [← h x (by simp)]; exact List.count_le_length
    simp only [cntL, List.map_cons, List.sum_cons, List.length_cons, Nat.add_mul, Nat.one_mul] at h1 ⊢
    omega
theorem count_set : ∀ {x : List Bool} {k : Nat} (hk : k < x.length), x[k] = false → (x.set k true).count true = x.count true + 1
  | a :: x, 0, _, h => by simp at h; subst h; simp
  | a :: x, k + 1, hk, h => by
    have := count_set (x := x) (k := k) (by simpa using hk) (by simpa using h)
    simp only [List.set_cons_succ, List.count_cons, this]
    omega
theorem cntL_set : ∀ {rows : List (List Bool)} {a : Nat} (ha : a < rows.length) {y : List Bool}, y.count true = rows[a].count true + 1 → cntL (rows.set a y) = cntL rows + 1
  | x :: l, 0, _, y, h => by simp [cntL] at h ⊢; omega
  | x :: l, a + 1, ha, y, h => by
    have := cntL_set (rows := l) (a := a) (by simpa using ha) (by simpa using h)
    simp [cntL] at this ⊢
    omega
theorem sound_set {g : Gr} {rows : List (List Bool)} (h : SoundL g rows) {a k : Nat} (ha : a < rows.length) (hd : HasD g a k) : SoundL g (rows.set a (rows[a].set k true)) := by
  intro b j hb
  by_cases e : b = a
  · subst e
    by_cases e' : j = k
    · subst e'; exact hd
    · refine h b j ?_
      have e'' : ¬ k = j := fun q => e' q.symm
      simpa [List.getD_eq_getElem?_getD, ha, List.getElem?_set, e''] using hb
  · refine h b j ?_
    have e'' : ¬ a = b := fun q => e q.symm
    simpa [List.getD_eq_getElem?_getD, List.getElem?_set, e''] using hb
theorem rep_false (g : Gr) (a n : Nat) : SoundL g (List.replicate a (List.replicate n false)) := by
  intro b k h
  simp only [List.getD_eq_getElem?_getD, List.getElem?_replicate] at h
  split at h
  · simp only [Option.getD_some, List.getElem?_replicate] at h
    split at h <;> simp at h
  · simp at h
theorem cntL_zero (a n : Nat) : cntL (List.replicate a (List.replicate n false)) = 0 := by
  simp [cntL, List.map_replicate, List.count_replicate]
end Go.Proofs.Ytniobbepliknmaa.V
/- The text of parlance/mean.derived as a statement (slots: 0 g, 1 w, 2 g, 3 w, 5 e, 6 n, 7 more, 8 _, 9 r, 10 i, 11 at, 12 _, 13 y); no condition. -/
namespace Go.Proofs.Ytniobbepliknmaa.V
open Go
def S182_1 : Stmt :=
  Stmt.seq
  (Stmt.region [SOper.mk (some 27) none (SOp.ibin BinOp.lss (Operand.tmp 26) (Operand.tmp 25))] [1, 2, 5, 25, 26, 27])
  (Stmt.seq (Stmt.cond (Operand.tmp 27) Stmt.skip (Stmt.exit 0))
    (Stmt.seq
      (Stmt.block 1
        (Stmt.seq
          (Stmt.region
            [SOper.mk (some 28) none (SOp.mv (Operand.tmp 26)), SOper.mk (some 6) none (SOp.mv (Operand.tmp 28))]
            [1, 2, 5, 6, 25, 26])
          (Stmt.drawn
            [(false, SOper.mk (some 29) none (SOp.mv (Operand.tmp 5))),
              (false, SOper.mk (some 30) none (SOp.nilCheck (Operand.tmp 29))),
              (false, SOper.mk (some 31) none (SOp.fld 5 (Operand.tmp 30))),
              (false, SOper.mk (some 32) none (SOp.load false 1 (Operand.tmp 31))),
              (false, SOper.mk (some 33) none (SOp.mv (Operand.tmp 6))),
              (false, SOper.mk (some 34) none (SOp.mv (Operand.tmp 1))),
              (false, SOper.mk (some 35) none (SOp.len false (Operand.tmp 34))),
              (false,
                SOper.mk (some 36) none
                  (SOp.ibin BinOp.add (Operand.tmp 35) (Operand.const (Value.int IntKind.i64 1)))),
              (false,
                SOper.mk (some 37) none (SOp.mk 285 1 4 (Value.int IntKind.u32 0) (Operand.tmp 36) (Operand.tmp 36))),
              (false, SOper.mk (some 38) none (SOp.idx 1 (Operand.tmp 32) (Operand.tmp 33))),
              (false, SOper.mk none none (SOp.store 1 (Operand.tmp 38) (Operand.tmp 37)))]
            [1, 2, 5, 25, 26])))
      (Stmt.region
        [SOper.mk (some 39) none (SOp.ibin BinOp.add (Operand.tmp 26) (Operand.const (Value.int IntKind.i64 1))),
          SOper.mk (some 26) none (SOp.mv (Operand.tmp 39))]
        [1, 2, 5, 25, 26])))
def S182_2 : Stmt :=
  Stmt.seq
  (Stmt.region [SOper.mk (some 66) none (SOp.ibin BinOp.lss (Operand.tmp 65) (Operand.tmp 64))]
    [2, 5, 7, 9, 10, 11, 42, 43, 44, 56, 57, 63, 64, 65, 66])
  (Stmt.seq (Stmt.cond (Operand.tmp 66) Stmt.skip (Stmt.exit 8))
    (Stmt.seq
      (Stmt.block 9
        (Stmt.seq
          (Stmt.region
            [SOper.mk (some 67) none (SOp.idx 2 (Operand.tmp 63) (Operand.tmp 65)),
              SOper.mk (some 68) none (SOp.load true 2 (Operand.tmp 67)),
              SOper.mk (some 13) none
                (SOp.alloc true 39 (Value.agg (Array.mk [Value.bool false, Value.int IntKind.i64 0]))),
              SOper.mk none none (SOp.store 2 (Operand.tmp 13) (Operand.tmp 68))]
            [2, 5, 7, 9, 10, 11, 13, 42, 43, 44, 56, 57, 63, 64, 65])
          (Stmt.region
            [SOper.mk (some 69) none (SOp.mv (Operand.tmp 5)),
              SOper.mk (some 70) none (SOp.load true 2 (Operand.tmp 13)),
              SOper.mk (some 71) none (SOp.mv (Operand.tmp 11)),
              SOper.mk (some 72) none (SOp.call (Operand.func 206) [Operand.tmp 69, Operand.tmp 70, Operand.tmp 71]),
              SOper.mk (some 11) none (SOp.mv (Operand.tmp 72))]
            [2, 5, 7, 9, 10, 11, 42, 43, 44, 56, 57, 63, 64, 65])))
      (Stmt.region
        [SOper.mk (some 73) none (SOp.ibin BinOp.add (Operand.tmp 65) (Operand.const (Value.int IntKind.i64 1))),
          SOper.mk (some 65) none (SOp.mv (Operand.tmp 73))]
        [2, 5, 7, 9, 10, 11, 42, 43, 44, 56, 57, 63, 64, 65])))
def S182_3 : Stmt :=
  Stmt.block 7
  (Stmt.seq
    (Stmt.region [SOper.mk (some 59) none (SOp.mv (Operand.tmp 57)), SOper.mk (some 10) none (SOp.mv (Operand.tmp 59))]
      [2, 5, 7, 9, 10, 42, 43, 44, 56, 57])
    (Stmt.seq
      (Stmt.region
        [SOper.mk (some 60) none (SOp.mv (Operand.tmp 10)),
          SOper.mk (some 61) none (SOp.ishift BinOp.shl (Operand.const (Value.int IntKind.u32 1)) (Operand.tmp 60)),
          SOper.mk (some 11) none (SOp.mv (Operand.tmp 61))]
        [2, 5, 7, 9, 10, 11, 42, 43, 44, 56, 57])
      (Stmt.seq
        (Stmt.seq
          (Stmt.region
            [SOper.mk (some 62) none (SOp.fld 1 (Operand.tmp 9)),
              SOper.mk (some 63) none (SOp.load false 1 (Operand.tmp 62)),
              SOper.mk (some 64) none (SOp.len false (Operand.tmp 63)),
              SOper.mk (some 65) none (SOp.mv (Operand.const (Value.int IntKind.i64 0)))]
            [2, 5, 7, 9, 10, 11, 42, 43, 44, 56, 57, 63, 64, 65])
          (Stmt.block 8 (Stmt.loop S182_2 [11, 65] [2, 5, 7, 9, 10, 42, 43, 44, 56, 57, 63, 64])))
        (Stmt.seq
          (Stmt.quiet
            [SOper.mk (some 74) none (SOp.mv (Operand.tmp 11)), SOper.mk (some 75) none (SOp.mv (Operand.tmp 5)),
              SOper.mk (some 76) none (SOp.nilCheck (Operand.tmp 75)),
              SOper.mk (some 77) none (SOp.fld 5 (Operand.tmp 76)),
              SOper.mk (some 78) none (SOp.load false 1 (Operand.tmp 77)),
              SOper.mk (some 79) none (SOp.fld 0 (Operand.tmp 9)),
              SOper.mk (some 80) none (SOp.load false 1 (Operand.tmp 79)),
              SOper.mk (some 81) none (SOp.idx 1 (Operand.tmp 78) (Operand.tmp 80)),
              SOper.mk (some 82) none (SOp.load false 1 (Operand.tmp 81)),
              SOper.mk (some 83) none (SOp.mv (Operand.tmp 10)),
              SOper.mk (some 84) none (SOp.idx 1 (Operand.tmp 82) (Operand.tmp 83)),
              SOper.mk (some 85) none (SOp.load false 1 (Operand.tmp 84)),
              SOper.mk (some 86) none (SOp.fn (Fk.bits BinOp.andNot) [Operand.tmp 74, Operand.tmp 85]),
              SOper.mk (some 87) none (SOp.ibin BinOp.neq (Operand.tmp 86) (Operand.const (Value.int IntKind.u32 0)))]
            [2, 5, 7, 9, 10, 11, 42, 43, 44, 56, 57, 87])
          (Stmt.cond (Operand.tmp 87)
            (Stmt.seq
              (Stmt.drawn
                [(false, SOper.mk (some 88) none (SOp.mv (Operand.tmp 5))),
                  (false, SOper.mk (some 89) none (SOp.nilCheck (Operand.tmp 88))),
                  (false, SOper.mk (some 90) none (SOp.fld 5 (Operand.tmp 89))),
                  (false, SOper.mk (some 91) none (SOp.load false 1 (Operand.tmp 90))),
                  (false, SOper.mk (some 92) none (SOp.fld 0 (Operand.tmp 9))),
                  (false, SOper.mk (some 93) none (SOp.load false 1 (Operand.tmp 92))),
                  (false, SOper.mk (some 94) none (SOp.idx 1 (Operand.tmp 91) (Operand.tmp 93))),
                  (false, SOper.mk (some 95) none (SOp.load false 1 (Operand.tmp 94))),
                  (false, SOper.mk (some 96) none (SOp.mv (Operand.tmp 10))),
                  (false, SOper.mk (some 97) none (SOp.idx 1 (Operand.tmp 95) (Operand.tmp 96))),
                  (false, SOper.mk (some 98) none (SOp.load false 1 (Operand.tmp 97))),
                  (false, SOper.mk (some 99) none (SOp.mv (Operand.tmp 11))),
                  (false, SOper.mk (some 100) none (SOp.fn (Fk.bits BinOp.or) [Operand.tmp 98, Operand.tmp 99])),
                  (false, SOper.mk (some 101) none (SOp.idx 1 (Operand.tmp 95) (Operand.tmp 96))),
                  (false, SOper.mk none none (SOp.store 1 (Operand.tmp 101) (Operand.tmp 100)))]
                [2, 5, 9, 42, 43, 44, 56, 57])
              (Stmt.region [SOper.mk (some 7) none (SOp.mv (Operand.const (Value.bool true)))]
                [2, 5, 7, 9, 42, 43, 44, 56, 57]))
            Stmt.skip)))))
def S182_4 : Stmt :=
  Stmt.region
  [SOper.mk (some 102) none (SOp.ibin BinOp.add (Operand.tmp 57) (Operand.const (Value.int IntKind.i64 1))),
    SOper.mk (some 57) none (SOp.mv (Operand.tmp 102))]
  [2, 5, 7, 9, 42, 43, 44, 56, 57]
def S182_5 : Stmt :=
  Stmt.seq
  (Stmt.region [SOper.mk (some 58) none (SOp.ibin BinOp.lss (Operand.tmp 57) (Operand.tmp 56))]
    [2, 5, 7, 9, 42, 43, 44, 56, 57, 58])
  (Stmt.seq (Stmt.cond (Operand.tmp 58) Stmt.skip (Stmt.exit 6))
    (Stmt.join S182_3 S182_4 [7] [2, 5, 9, 42, 43, 44, 56, 57]))
def S182_6 : Stmt :=
  Stmt.seq
  (Stmt.region [SOper.mk (some 45) none (SOp.ibin BinOp.lss (Operand.tmp 44) (Operand.tmp 43))]
    [2, 5, 7, 42, 43, 44, 45])
  (Stmt.seq (Stmt.cond (Operand.tmp 45) Stmt.skip (Stmt.exit 4))
    (Stmt.seq
      (Stmt.block 5
        (Stmt.seq
          (Stmt.region
            [SOper.mk (some 46) none (SOp.idx 2 (Operand.tmp 42) (Operand.tmp 44)),
              SOper.mk (some 47) none (SOp.load true 2 (Operand.tmp 46)),
              SOper.mk (some 9) none
                (SOp.alloc true 37 (Value.agg (Array.mk [Value.int IntKind.i64 0, Value.slice none 0 0]))),
              SOper.mk none none (SOp.store 2 (Operand.tmp 9) (Operand.tmp 47))]
            [2, 5, 7, 9, 42, 43, 44])
          (Stmt.seq
            (Stmt.quiet
              [SOper.mk (some 48) none (SOp.mv (Operand.tmp 5)),
                SOper.mk (some 49) none (SOp.nilCheck (Operand.tmp 48)),
                SOper.mk (some 50) none (SOp.fld 5 (Operand.tmp 49)),
                SOper.mk (some 51) none (SOp.load false 1 (Operand.tmp 50)),
                SOper.mk (some 52) none (SOp.fld 0 (Operand.tmp 9)),
                SOper.mk (some 53) none (SOp.load false 1 (Operand.tmp 52)),
                SOper.mk (some 54) none (SOp.idx 1 (Operand.tmp 51) (Operand.tmp 53)),
                SOper.mk (some 55) none (SOp.load false 1 (Operand.tmp 54)),
                SOper.mk (some 56) none (SOp.len false (Operand.tmp 55)),
                SOper.mk (some 57) none (SOp.mv (Operand.const (Value.int IntKind.i64 0)))]
              [2, 5, 7, 9, 42, 43, 44, 56, 57])
            (Stmt.block 6 (Stmt.loop S182_5 [7, 57] [2, 5, 9, 42, 43, 44, 56])))))
      (Stmt.region
        [SOper.mk (some 103) none (SOp.ibin BinOp.add (Operand.tmp 44) (Operand.const (Value.int IntKind.i64 1))),
          SOper.mk (some 44) none (SOp.mv (Operand.tmp 103))]
        [2, 5, 7, 42, 43, 44])))
def S182_7 : Stmt :=
  Stmt.seq
  (Stmt.seq (Stmt.region [SOper.mk (some 40) none (SOp.mv (Operand.tmp 7))] [2, 5, 40])
    (Stmt.cond (Operand.tmp 40) Stmt.skip (Stmt.exit 2)))
  (Stmt.block 3
    (Stmt.seq (Stmt.region [SOper.mk (some 7) none (SOp.mv (Operand.const (Value.bool false)))] [2, 5, 7])
      (Stmt.seq
        (Stmt.region
          [SOper.mk (some 41) none (SOp.fld 3 (Operand.tmp 2)),
            SOper.mk (some 42) none (SOp.load false 1 (Operand.tmp 41)),
            SOper.mk (some 43) none (SOp.len false (Operand.tmp 42)),
            SOper.mk (some 44) none (SOp.mv (Operand.const (Value.int IntKind.i64 0)))]
          [2, 5, 7, 42, 43, 44])
        (Stmt.block 4 (Stmt.loop S182_6 [7, 44] [2, 5, 42, 43])))))
def S182_0 : Stmt :=
  Stmt.seq
  (Stmt.region
    [SOper.mk (some 2) none (SOp.box true 57 (Operand.tmp 0)),
      SOper.mk (some 4) none (SOp.mv (Operand.const (Value.pointer none)))]
    [1, 2])
  (Stmt.seq
    (Stmt.drawn
      [(false, SOper.mk (some 14) none (SOp.load true 4 (Operand.tmp 2))),
        (false, SOper.mk (some 15) none (SOp.mv (Operand.tmp 1))),
        (false, SOper.mk (some 16) none (SOp.fld 1 (Operand.tmp 2))),
        (false, SOper.mk (some 17) none (SOp.load false 1 (Operand.tmp 16))),
        (false, SOper.mk (some 18) none (SOp.mk 284 1 24 (Value.slice none 0 0) (Operand.tmp 17) (Operand.tmp 17))),
        (false,
          SOper.mk (some 19) none
            (SOp.build 283
              [Value.int IntKind.i64 0, Value.int IntKind.i64 0, Value.int IntKind.i64 0, Value.slice none 0 0,
                Value.slice none 0 0, Value.slice none 0 0]
              [(0, 4, Operand.tmp 14), (4, 1, Operand.tmp 15), (5, 1, Operand.tmp 18)])),
        (false, SOper.mk (some 20) none (SOp.box false 283 (Operand.tmp 19))),
        (false, SOper.mk (some 5) none (SOp.mv (Operand.tmp 20)))]
      [1, 2, 5])
    (Stmt.seq
      (Stmt.seq
        (Stmt.region
          [SOper.mk (some 21) none (SOp.mv (Operand.tmp 5)), SOper.mk (some 22) none (SOp.nilCheck (Operand.tmp 21)),
            SOper.mk (some 23) none (SOp.fld 5 (Operand.tmp 22)),
            SOper.mk (some 24) none (SOp.load false 1 (Operand.tmp 23)),
            SOper.mk (some 25) none (SOp.len false (Operand.tmp 24)),
            SOper.mk (some 26) none (SOp.mv (Operand.const (Value.int IntKind.i64 0)))]
          [1, 2, 5, 25, 26])
        (Stmt.block 0 (Stmt.loop S182_1 [26] [1, 2, 5, 25])))
      (Stmt.seq
        (Stmt.seq (Stmt.region [SOper.mk (some 7) none (SOp.mv (Operand.const (Value.bool true)))] [2, 5, 7])
          (Stmt.block 2 (Stmt.loop S182_7 [7] [2, 5])))
        (Stmt.seq
          (Stmt.region
            [SOper.mk (some 104) none (SOp.mv (Operand.tmp 5)), SOper.mk (some 4) none (SOp.mv (Operand.tmp 104))] [4])
          Stmt.ret))))
def S182 : FnS := ⟨105, [(4, none)], S182_0⟩
theorem tr182 : trFn Try.prog 182 [2, 9, 13] [[1, 2], [1, 2, 5], [0, 1, 2, 3, 4, 5, 6, 7], [], [], [], [], [2], [2, 3], [0, 1, 2, 3, 4], [0, 1, 2, 3, 4, 5], [0, 1, 2, 3, 4, 5, 6], [1, 2, 5, 25, 26], [26], [1, 2, 5, 25], [1, 2, 5, 25, 26, 27], [1, 2, 5, 6, 25, 26], [1, 2, 5, 25, 26], [0, 1, 2, 3, 4, 5, 6, 7, 8, 9, 10], [], [], [0], [0, 1], [0, 1, 2], [], [], [5], [5, 6], [5, 6, 7], [0, 1, 2, 3, 4, 5, 6, 7, 8], [0, 1, 2, 3, 4, 5, 6, 7, 8, 9], [1, 2, 5, 25, 26], [2, 5, 7], [7], [2, 5], [2, 5, 40], [2, 5, 7], [2, 5, 7, 42, 43, 44], [7, 44], [2, 5, 42, 43], [2, 5, 7, 42, 43, 44, 45], [2, 5, 7, 9, 42, 43, 44], [2, 5, 7, 9, 42, 43, 44, 56, 57], [7, 57], [2, 5, 9, 42, 43, 44, 56], [2, 5, 7, 9, 42, 43, 44, 56, 57, 58], [7], [2, 5, 9, 42, 43, 44, 56, 57], [2, 5, 7, 9, 10, 42, 43, 44, 56, 57], [2, 5, 7, 9, 10, 11, 42, 43, 44, 56, 57], [2, 5, 7, 9, 10, 11, 42, 43, 44, 56, 57, 63, 64, 65], [11, 65], [2, 5, 7, 9, 10, 42, 43, 44, 56, 57, 63, 64], [2, 5, 7, 9, 10, 11, 42, 43, 44, 56, 57, 63, 64, 65, 66], [2, 5, 7, 9, 10, 11, 13, 42, 43, 44, 56, 57, 63, 64, 65], [2, 5, 7, 9, 10, 11, 42, 43, 44, 56, 57, 63, 64, 65], [2, 5, 7, 9, 10, 11, 42, 43, 44, 56, 57, 63, 64, 65], [2, 5, 7, 9, 10, 11, 42, 43, 44, 56, 57, 87], [2, 5, 9, 42, 43, 44, 56, 57], [0, 1, 2, 3, 4, 5, 6, 7, 8, 9, 10, 11, 12, 13, 14], [], [], [0], [0, 1], [0, 1, 2], [], [4], [0, 1, 2, 3, 4, 5], [0, 1, 2, 3, 4, 5, 6], [], [0, 1, 2, 3, 4, 5, 6, 7, 8], [0, 1, 2, 3, 4, 5, 6, 7, 8, 9], [], [0, 1, 2, 3, 4, 5, 6, 7, 8, 9, 10, 11], [0, 1, 2, 3, 4, 5, 6, 7, 8, 9, 10, 11, 12], [0, 1, 2, 3, 4, 5, 6, 7, 8, 9, 10, 11, 12, 13], [2, 5, 7, 9, 42, 43, 44, 56, 57], [2, 5, 7, 9, 42, 43, 44, 56, 57], [2, 5, 7, 42, 43, 44], [4]] = some S182 := by kernel_rfl
end Go.Proofs.Ytniobbepliknmaa.V
/- The ends of all nonterminals in a word: mean.derived; no condition. -/
namespace Go.Proofs.Ytniobbepliknmaa.V
open Go
set_option linter.unusedVariables false
set_option linter.unusedSimpArgs false
attribute [local go_sem] e_seq e_region e_quiet e_join e_loop e_cond e_block e_exit e_ret e_skip e_fin e_kseq e_snrm e_sret e_sex e_bnrm e_bret e_bex e_rnrm e_rret e_res e_condC e_nil e_g e_mv g_mv e_pick g_pick pickC_eq e_ibin g_ibin ibinC_eq e_sbin g_sbin e_beq g_beq beqC_eq e_nilq g_nilq nilqC_sl nilqC_pt nilqC_mp e_un g_un unC_not unC_neg e_conv g_conv convC_eq e_fld g_fld fldC_ref fldC_ptr e_nilCheck g_nilCheck nilCheckC_ref nilCheckC_ptr nilCheckC_fun e_field g_field fieldC_eq e_len g_len lenC_sl lenC_str e_extract g_extract extractC_eq e_mkFunc e_build g_build e_idiv g_idiv idivC_eq e_ishift g_ishift ishiftC_eq e_idx g_idx e_idxA g_idxA e_load g_load loadC_ref loadC_ptr loadB_eq e_slc g_slc e_box boxC_loc boxC_esc e_alloc allocC_loc allocC_esc e_buildS e_store storeC_ref storeC_ptr storeB_eq e_append e_appz e_mk mkC_eq e_call callC_eq e_fn g_fn fnC_eq fnV_min' fnV_max' fnV_rune' e_q g_q e_a e_n g_call g_box g_alloc g_buildS g_store g_append g_mk g_a g_n g_dead e_dead e_callK e_drawn e_tree e_finJ e_tk e_tfin e_tno e_nbt_q e_nbt_qn e_nbt_a e_nbt_an e_nbt_fin e_early_nil e_early_t e_early_f e_nob_nil e_nob_none e_nob_some isBox_dead isBox_v isBox_ref e_dnil e_dk e_ek e_finB vcOps_vc1 e_dcons e_tq e_ekt e_tearly e_talt e_dearly look_nil look_c proj_nil proj_c looks_nil looks_c zip_nil zip_c val_tmp val_const val_func slv_v slv_box slv_ref slot_tmp slot_const slot_func slotL_v slotL_box slotL_ref put_some put_none updBox_c boxSet_box gd_eq slotVals_nil slotVals_c slotVals_b boxV_box boxOn_box slotsOn_nil slotsOn_c slotsOn_b resV_one resV_two vals_nil vals_c allOn_nil allOn_c partOn_nil partOn_c partVals_nil partVals_c fits_nil fits_c fillL_nil fillL_c mkv_one mkv_agg cellsV_agg cellsV_int cellsV_bool cellsV_slice cellsV_string cellsV_pointer cellsV_func cellsV_nilf cellsV_map one'_nil one'_c oc_int oc_bool oc_slice oc_string oc_pointer oc_func oc_nilf oc_map setC_eq iv_add iv_sub iv_mul iv_eql iv_neq iv_lss iv_leq iv_gtr iv_geq iok_add iok_sub iok_mul iok_eql iok_neq iok_lss iok_leq iok_gtr iok_geq pickV_bool args0_nil args0_c bnd_none bnd_some imp_bt imp_bf imp_ebt imp_ebf imp_eb1 imp_np imp_pp beq_tt beq_tf beq_ft beq_ff cond_or cond_and e_round e_meet Int.le_refl Int.toNat_zero decide_true decide_false Bool.or_false Bool.false_or Bool.true_or Bool.or_true Bool.and_false Bool.false_and Bool.bne_false Bool.bne_true beq_iff_eq Int.cast_ofNat_Int not_false_eq_true not_true_eq_false false_and and_false false_implies true_implies true_and and_true Bool.true_and Bool.and_true Bool.not_true Bool.not_false forall_const implies_true List.take_zero List.drop_zero List.take_succ_cons List.drop_succ_cons List.take_nil List.drop_nil List.length_cons List.length_nil List.nil_append List.append_nil List.cons_append Int.toNat_natCast decide_eq_true_eq decide_eq_false_iff_not cond_true cond_false and_self List.getElem?_cons_zero List.getElem?_cons_succ List.set_cons_zero List.set_cons_succ Option.some.injEq exists_eq_left' Nat.zero_add Nat.add_zero Nat.mul_one imp_self true_or or_true or_false false_or Bool.or_eq_true Bool.or_eq_false_iff Bool.and_eq_true Bool.and_eq_false_iff Bool.not_eq_true' Bool.not_eq_false'

/-! how many bits are set -/
def trip (n m : Nat) : List (Nat × Nat × Nat) := (List.range n).flatMap fun a => (List.range m).flatMap fun i => (List.range m).map fun j => (a, i, j)
theorem trip_mem {n m : Nat} {x : Nat × Nat × Nat} : x ∈ trip n m ↔ x.1 < n ∧ x.2.1 < m ∧ x.2.2 < m := by
  obtain ⟨a, i, j⟩ := x
  simp only [trip, List.mem_flatMap, List.mem_map, List.mem_range, Prod.mk.injEq]
  constructor
  · rintro ⟨a', h1, i', h2, j', h3, rfl, rfl, rfl⟩; exact ⟨h1, h2, h3⟩
  · rintro ⟨h1, h2, h3⟩; exact ⟨a, h1, i, h2, j, h3, rfl, rfl, rfl⟩
theorem filter_le {α : Type} {p q : α → Bool} : ∀ {L : List α}, (∀ x ∈ L, p x = true → q x = true) → (L.filter p).length ≤ (L.filter q).length
  | [], _ => by simp
  | x :: L, h => by
    have ih := filter_le (L := L) fun y hy => h y (by simp [hy])
    have hx := h x (by simp)
    rw [List.filter_cons, List.filter_cons]
    cases e1 : p x <;> cases e2 : q x <;> simp_all <;> omega
theorem filter_lt {α : Type} {p q : α → Bool} : ∀ {L : List α}, (∀ x ∈ L, p x = true → q x = true) → (∃ x ∈ L, p x = false ∧ q x = true) → (L.filter p).length < (L.filter q).length
  | [], _, h => by obtain ⟨x, hx, _⟩ := h; simp at hx
  | x :: L, h, hex => by
    have hx := h x (by simp)
    have h' : ∀ y ∈ L, p y = true → q y = true := fun y hy => h y (by simp [hy])
    have ihl := filter_le (L := L) h'
    rw [List.filter_cons, List.filter_cons]
    obtain ⟨y, hy, h1, h2⟩ := hex
    rcases List.mem_cons.1 hy with rfl | hy
    · simp only [h1, h2, if_true, List.length_cons]
      simp
      omega
    · have ih := filter_lt (L := L) h' ⟨y, hy, h1, h2⟩
      cases e1 : p x <;> cases e2 : q x <;> simp_all <;> omega
open Classical in
noncomputable def cntE (n m : Nat) (E : Int → Nat → Nat → Prop) : Nat := ((trip n m).filter fun x => decide (E x.1 x.2.1 x.2.2)).length
theorem cntE_le {n m : Nat} {E : Int → Nat → Nat → Prop} : cntE n m E ≤ (trip n m).length := List.length_filter_le ..
theorem cntE_mono {n m : Nat} {E E' : Int → Nat → Nat → Prop} (h : ∀ a i j, E a i j → E' a i j) : cntE n m E ≤ cntE n m E' := by
  classical
  exact filter_le fun x _ hx => by simp only [decide_eq_true_eq] at hx ⊢; exact h _ _ _ hx
theorem cntE_lt {n m : Nat} {E E' : Int → Nat → Nat → Prop} (h : ∀ a i j, E a i j → E' a i j) {a i j : Nat} (ha : a < n) (hi : i < m) (hj : j < m) (h1 : ¬ E a i j) (h2 : E' a i j) : cntE n m E < cntE n m E' := by
  classical
  refine filter_lt (fun x _ hx => by simp only [decide_eq_true_eq] at hx ⊢; exact h _ _ _ hx) ⟨(a, i, j), trip_mem.2 ⟨ha, hi, hj⟩, by simpa using h1, by simpa using h2⟩
/-! a table is changed -/
def tabSet (rows : List (List U32)) (a i z : Nat) : List (List U32) := rows.modify a fun r => r.modify i fun x => ⟨x.n ||| z⟩
theorem modify_set {α : Type} (l : List α) (i : Nat) (f : α → α) (h : i < l.length) : l.modify i f = l.set i (f l[i]) := by
  apply List.ext_getElem (by simp)
  intro j h1 h2
  rw [List.getElem_modify, List.getElem_set]
  split
  · rename_i e; subst e; rfl
  · rfl
theorem tabSet_eq {rows : List (List U32)} {a i z : Nat} (ha : a < rows.length) (hi : i < rows[a].length) : tabSet rows a i z = rows.set a (rows[a].set i ⟨rows[a][i].n ||| z⟩) := by
  unfold tabSet
  rw [modify_set _ _ _ ha, modify_set _ _ _ hi]
theorem TabOk.set {rows : List (List U32)} {n m a i z : Nat} (h : TabOk rows n m) (hz : z < 4294967296) : TabOk (tabSet rows a i z) n m := by
  have key : ∀ r ∈ tabSet rows a i z, r.length = m ∧ ∀ x ∈ r, x.n < 4294967296 := by
    intro r hr
    obtain ⟨k, hk, rfl⟩ := List.getElem_of_mem hr
    have hk' : k < rows.length := by simpa [tabSet] using hk
    have h1 := h.row _ (List.getElem_mem hk')
    have h2 := h.small _ (List.getElem_mem hk')
    simp only [tabSet, List.getElem_modify]
    split
    · refine ⟨by simpa using h1, fun x hx => ?_⟩
      obtain ⟨p, hp, rfl⟩ := List.getElem_of_mem hx
      rw [List.getElem_modify]
      have hp' : p < rows[k].length := by simpa using hp
      have h3 := h2 _ (List.getElem_mem hp')
      split
      · exact Nat.or_lt_two_pow (n := 32) h3 hz
      · exact h3
    · exact ⟨h1, h2⟩
  exact ⟨by simpa [tabSet] using h.len, fun r hr => (key r hr).1, fun r hr => (key r hr).2⟩
theorem eb_set {rows : List (List U32)} {n m a i z : Nat} (h : TabOk rows n m) (ha : a < n) (hi : i < m) {a' : Int} {i' j : Nat} : Eb (tabSet rows a i z) a' i' j ↔ Eb rows a' i' j ∨ (a' = a ∧ i' = i ∧ z.testBit j = true) := by
  have hal : a < rows.length := by rw [h.len]; exact ha
  have hil : i < rows[a].length := by rw [h.at' hal]; exact hi
  constructor
  · rintro ⟨h0, row, x, h1, h2, h3⟩
    rw [tabSet, List.getElem?_modify] at h1
    by_cases e : a = a'.toNat
    · subst e
      rw [List.getElem?_eq_getElem hal] at h1
      simp only [if_true, Option.map_eq_map, Option.map_some, Option.some.injEq] at h1
      subst h1
      rw [List.getElem?_modify] at h2
      by_cases e2 : i = i'
      · subst e2
        rw [List.getElem?_eq_getElem hil] at h2
        simp only [if_true, Option.map_eq_map, Option.map_some, Option.some.injEq] at h2
        subst h2
        simp only [Nat.testBit_or, Bool.or_eq_true] at h3
        rcases h3 with h3 | h3
        · exact .inl ⟨h0, _, _, List.getElem?_eq_getElem hal, List.getElem?_eq_getElem hil, h3⟩
        · exact .inr ⟨by omega, rfl, h3⟩
      · simp only [e2, if_false, Option.map_eq_map, Option.map_id'] at h2
        exact .inl ⟨h0, _, _, List.getElem?_eq_getElem hal, by simpa using h2, h3⟩
    · exact .inl ⟨h0, row, x, by simpa [e] using h1, h2, h3⟩
  · rintro (⟨h0, row, x, h1, h2, h3⟩ | ⟨rfl, rfl, h3⟩)
    · refine ⟨h0, (if a = a'.toNat then row.modify i fun x => ⟨x.n ||| z⟩ else row), (if a = a'.toNat ∧ i = i' then ⟨x.n ||| z⟩ else x), ?_, ?_, ?_⟩
      · rw [tabSet, List.getElem?_modify, h1]
        by_cases e : a = a'.toNat <;> simp [e]
      · by_cases e : a = a'.toNat
        · simp only [e, if_true, true_and]
          rw [List.getElem?_modify, h2]
          by_cases e2 : i = i' <;> simp [e2]
        · simp only [e, if_false, false_and]
          exact h2
      · split
        · simp [Nat.testBit_or, h3]
        · exact h3
    · refine ⟨by omega, rows[a].modify i' fun x => ⟨x.n ||| z⟩, ⟨rows[a][i'].n ||| z⟩, ?_, ?_, by simp [Nat.testBit_or, h3]⟩
      · rw [tabSet, List.getElem?_modify]
        simp [List.getElem?_eq_getElem hal]
      · rw [List.getElem?_modify]
        simp [List.getElem?_eq_getElem hil]
/-- what a round of the rules has shown -/
def ClosedK (E : Int → Nat → Nat → Prop) (w : List Int) (rs : List Ru) (m : Nat) : Prop := ∀ r ∈ rs, ∀ i j, i < m → Rch E w r.r i j → E r.l i j
theorem begun_eb (n m : Nat) (a : Int) (i j : Nat) : ¬ Eb (List.replicate n (List.replicate m ⟨0⟩)) a i j := by
  rintro ⟨_, row, x, h1, h2, h3⟩
  rw [List.getElem?_replicate] at h1
  split at h1
  · simp only [Option.some.injEq] at h1
    subst h1
    rw [List.getElem?_replicate] at h2
    split at h2
    · simp only [Option.some.injEq] at h2
      subst h2
      simp at h3
    · cases h2
  · cases h1
set_option maxHeartbeats 4000000 in
theorem mean_derived {Γr : Ctx} {g : Gr} {A W : Option Addr} {c d : Nat} {w : List Int} (hx : SlOk (lk Γr) A c g.rs) (hw : SlOk (lk Γr) W d w) (V : VG g) (hl : w.length ≤ 12) :
    Ret Try.prog 182 [.agg #[.int .i64 g.ts, .int .i64 g.ns, .int .i64 g.st, .slice A g.rs.length c], .slice W w.length d] Γr [] (fun v Γ => ∃ ge b O e rows, Γ = [ge] ∧ v = .pointer (some ⟨b, 0, none⟩) ∧
      lk [ge] b (.cells (endsV g A c W d w O rows.length e).toArray 283 (0, 0)) ∧ SlOk (lk [ge]) O e rows ∧ TabOk rows g.ns.toNat (w.length + 1) ∧ ∀ a i j, i ≤ w.length → (Eb rows a i j ↔ Prt g.rs w a i j)) := by
  generalize hR : (fun (v : Value) (Γ : Ctx) => ∃ ge b O e rows, _) = R
  refine ret_of_vc tr182 (Nat.le_of_ble_eq_true rfl) ?_
  have hns := V.ns
  have hvl := V.len
  obtain ⟨n, hn⟩ : ∃ n : Nat, g.ns.toNat = n := ⟨_, rfl⟩
  have hn10 : n ≤ 10 := by omega
  obtain ⟨m, hm⟩ : ∃ m : Nat, w.length + 1 = m := ⟨_, rfl⟩
  rw [hn, hm] at hR
  simp -implicitDefEqProofs only [S182, S182_0, go_sem, Nat.reduceBEq, Nat.reduceAdd, Nat.reduceSub, Nat.reduceMul, Nat.reduceLeDiff, reduceCtorEq, ↓reduceIte, Int.reduceLT, Int.reduceLE, Int.reduceEq, Int.reduceNe]
  intro b0
  refine ⟨by omega, by omega, fun bo be => ?_⟩
  rw [hn]
  have hbe : (one be (.cells (endsV g A c W d w (some ⟨bo, 0, none⟩) n n).toArray 283 (0, 0))) be = some (.cells (endsV g A c W d w (some ⟨bo, 0, none⟩) n n).toArray 283 (0, 0)) := one_self _ _
  simp only [endsV] at hbe
  generalize one be _ = ge at *
  refine s_ld (o := 0) (j := 5) (cells_lk ⟨ge, by simp, hbe⟩) (by simp) (by simp) ?_
  simp -implicitDefEqProofs only [go_sem, Nat.reduceBEq, Nat.reduceAdd, Nat.reduceSub, Nat.reduceMul, Nat.reduceLeDiff, reduceCtorEq, ↓reduceIte, Int.reduceLT, Int.reduceLE, Int.reduceEq, Int.reduceNe]
  refine s_loop (fun f vs Γ => ∃ (k : Nat) (gg : PH), vs = [.v true (.int .i64 k)] ∧ Γ = [ge, gg] ∧ k + f = n ∧ Grid gg bo 284 285 (part (⟨0⟩ : U32) n m k)) n
    (Up.here ⟨0, _, rfl, rfl, by omega, by have := Grid.made (α := U32) bo 284 285 (m := n) (by omega); simpa [part] using this⟩) ?_
  rintro f vs Γ ⟨k, gg, rfl, rfl, hkf, hG⟩
  simp -implicitDefEqProofs only [S182_1, go_sem, Nat.reduceBEq, Nat.reduceAdd, Nat.reduceSub, Nat.reduceMul, Nat.reduceLeDiff, reduceCtorEq, ↓reduceIte, Int.reduceLT, Int.reduceLE, Int.reduceEq, Int.reduceNe]
  refine ⟨fun hlt => ?_, fun hge => ?_⟩
  · have hk : k < n := by omega
    refine s_ld (o := 0) (j := 5) (cells_lk ⟨ge, by simp, hbe⟩) (by simp) (by simp) ?_
    simp -implicitDefEqProofs only [go_sem, Nat.reduceBEq, Nat.reduceAdd, Nat.reduceSub, Nat.reduceMul, Nat.reduceLeDiff, reduceCtorEq, ↓reduceIte, Int.reduceLT, Int.reduceLE, Int.reduceEq, Int.reduceNe]
    simp (disch := omega) only [wrap_id]
    refine ⟨by omega, by omega, fun b2 => ?_⟩
    refine s_idx rfl (by omega) (by omega) ?_
    simp -implicitDefEqProofs only [go_sem, Nat.reduceBEq, Nat.reduceAdd, Nat.reduceSub, Nat.reduceMul, Nat.reduceLeDiff, reduceCtorEq, ↓reduceIte, Int.reduceLT, Int.reduceLE, Int.reduceEq, Int.reduceNe]
    refine s_storeG (ix := 2) (k := b2) (List.replicate m (⟨0⟩ : U32)) (by simp; omega) rfl hG (by rw [part_len _ (by omega)]; omega) (by simp; omega) ?_
    intro g' hput
    simp -implicitDefEqProofs only [go_sem, Nat.reduceBEq, Nat.reduceAdd, Nat.reduceSub, Nat.reduceMul, Nat.reduceLeDiff, reduceCtorEq, ↓reduceIte, Int.reduceLT, Int.reduceLE, Int.reduceEq, Int.reduceNe]
    simp (disch := omega) only [wrap_id]
    rw [show ((w.length : Int) + 1).toNat = m by omega]
    refine ⟨f - 1, by omega, Up.sel [[1], [0, 2]] (by decide) fun ha hmm => ⟨k + 1, _, rfl, rfl, by omega, ?_⟩⟩
    rw [← part_set _ hk]
    exact hput _ _ (Arr.made (⟨0⟩ : U32) b2 285 m) ((List.pairwise_cons.1 ha).1 g' (by simp)) (hmm [0, 2] (by simp))
  have hk : k = n := by omega
  have hG : Grid gg bo 284 285 (List.replicate n (List.replicate m (⟨0⟩ : U32))) := by
    rw [hk] at hG
    simpa [part] using hG
  obtain ⟨N, hN⟩ : ∃ N : Nat, (trip n m).length = N := ⟨_, rfl⟩
  have hcl : ∀ E, cntE n m E ≤ N := fun E => by rw [← hN]; exact cntE_le
  have hT0 : TabOk (List.replicate n (List.replicate m (⟨0⟩ : U32))) n m := ⟨by simp, by simp, by simp⟩
  refine s_loop (fun f vs Γ => ∃ (more : Bool) (gg : PH) (rows : List (List U32)), vs = [.v true (.bool more)] ∧ Γ = [ge, gg] ∧ f = 2 * (N - cntE n m (Eb rows)) + more.toNat ∧ Grid gg bo 284 285 rows ∧ TabOk rows n m ∧ (∀ a i j, Eb rows a i j → Prt g.rs w a i j) ∧ (more = false → ClosedK (Eb rows) w g.rs m)) _
    (Up.here ⟨true, gg, _, rfl, rfl, rfl, hG, hT0, fun a i j h => absurd h (begun_eb n m a i j), by simp⟩) ?_
  clear hG hT0 hkf hk
  rintro f vs Γ ⟨more, gg, rows, rfl, rfl, hf, hG, hT, hS, hC⟩
  simp -implicitDefEqProofs only [S182_7, go_sem, Nat.reduceBEq, Nat.reduceAdd, Nat.reduceSub, Nat.reduceMul, Nat.reduceLeDiff, reduceCtorEq, ↓reduceIte, Int.reduceLT, Int.reduceLE, Int.reduceEq, Int.reduceNe]
  refine ⟨fun hmt => ?_, fun hmf => ?_⟩
  · subst hmt
    refine s_loop (fun f2 vs Γ => ∃ (more : Bool) (k : Nat) (gg : PH) (rows2 : List (List U32)), vs = [.v true (.bool more), .v true (.int .i64 k)] ∧ Γ = [ge, gg] ∧ k + f2 = g.rs.length ∧ Grid gg bo 284 285 rows2 ∧ TabOk rows2 n m ∧ (∀ a i j, Eb rows2 a i j → Prt g.rs w a i j) ∧ cntE n m (Eb rows) ≤ cntE n m (Eb rows2) ∧ (more = true → cntE n m (Eb rows) < cntE n m (Eb rows2)) ∧ (more = false → rows2 = rows ∧ ClosedK (Eb rows) w (g.rs.take k) m)) g.rs.length
      (Up.here ⟨false, 0, gg, rows, rfl, rfl, by omega, hG, hT, hS, Nat.le_refl _, by simp, fun _ => ⟨rfl, by simp [ClosedK]⟩⟩) ?_
    clear hG
    rintro f2 vs Γ ⟨more2, k, gg, rows2, rfl, rfl, hkf, hG, hT2, hS2, hc2, hc3, hC2⟩
    simp -implicitDefEqProofs only [S182_6, go_sem, Nat.reduceBEq, Nat.reduceAdd, Nat.reduceSub, Nat.reduceMul, Nat.reduceLeDiff, reduceCtorEq, ↓reduceIte, Int.reduceLT, Int.reduceLE, Int.reduceEq, Int.reduceNe]
    refine ⟨fun hlt => ?_, fun hge => ?_⟩
    · have hk : k < g.rs.length := by omega
      have hmem : g.rs[k] ∈ g.rs := List.getElem_mem hk
      have hr4 := V.right _ hmem
      have hleft := V.left _ hmem
      have hsym := V.sym _ hmem
      have htk : g.rs.take (k + 1) = g.rs.take k ++ [g.rs[k]] := List.take_succ_eq_append_getElem hk
      obtain ⟨b1, o1, hA2, A3, c3, hr3, hc5⟩ := hx.ru hk
      generalize g.rs[k] = r at *
      have hrn : r.l.toNat < rows2.length := by rw [hT2.len]; omega
      have hrl := hT2.at' hrn
      refine s_idx hA2 (by omega) (by omega) ?_
      simp -implicitDefEqProofs only [go_sem, Nat.reduceBEq, Nat.reduceAdd, Nat.reduceSub, Nat.reduceMul, Nat.reduceLeDiff, reduceCtorEq, ↓reduceIte, Int.reduceLT, Int.reduceLE, Int.reduceEq, Int.reduceNe]
      refine s_ld0 (hc5 _ (lk_r _ _)) (by simp) (by simp) ?_
      simp -implicitDefEqProofs only [go_sem, Nat.reduceBEq, Nat.reduceAdd, Nat.reduceSub, Nat.reduceMul, Nat.reduceLeDiff, reduceCtorEq, ↓reduceIte, Int.reduceLT, Int.reduceLE, Int.reduceEq, Int.reduceNe]
      intro b2
      refine s_ld (o := 0) (j := 5) (cells_lk ⟨ge, by simp, hbe⟩) (by simp) (by simp) ?_
      simp -implicitDefEqProofs only [go_sem, Nat.reduceBEq, Nat.reduceAdd, Nat.reduceSub, Nat.reduceMul, Nat.reduceLeDiff, reduceCtorEq, ↓reduceIte, Int.reduceLT, Int.reduceLE, Int.reduceEq, Int.reduceNe]
      obtain ⟨kr, hcell, hArr, hput⟩ := hG.at' hrn (by omega)
      refine s_idx rfl (by omega) (by omega) ?_
      simp -implicitDefEqProofs only [go_sem, Nat.reduceBEq, Nat.reduceAdd, Nat.reduceSub, Nat.reduceMul, Nat.reduceLeDiff, reduceCtorEq, ↓reduceIte, Int.reduceLT, Int.reduceLE, Int.reduceEq, Int.reduceNe]
      refine s_ld0 (hcell _ (by simp)) (by simp) (by simp) ?_
      simp -implicitDefEqProofs only [go_sem, Nat.reduceBEq, Nat.reduceAdd, Nat.reduceSub, Nat.reduceMul, Nat.reduceLeDiff, reduceCtorEq, ↓reduceIte, Int.reduceLT, Int.reduceLE, Int.reduceEq, Int.reduceNe]
      clear hcell hArr hput
      rw [hrl]
      refine s_loop (fun f3 vs Γ => ∃ (more : Bool) (i : Nat) (gg : PH) (rows3 : List (List U32)), vs = [.v true (.bool more), .v true (.int .i64 i)] ∧ Γ = [ge, gg] ∧ i + f3 = m ∧ Grid gg bo 284 285 rows3 ∧ TabOk rows3 n m ∧ (∀ a i j, Eb rows3 a i j → Prt g.rs w a i j) ∧ cntE n m (Eb rows) ≤ cntE n m (Eb rows3) ∧ (more = true → cntE n m (Eb rows) < cntE n m (Eb rows3)) ∧ (more = false → rows3 = rows ∧ ClosedK (Eb rows) w (g.rs.take k) m ∧ ∀ i', i' < i → ∀ j, Rch (Eb rows) w r.r i' j → Eb rows r.l i' j)) m
        (Up.here ⟨more2, 0, gg, rows2, rfl, rfl, by omega, hG, hT2, hS2, hc2, hc3, fun h => ⟨(hC2 h).1, (hC2 h).2, fun i' h => by omega⟩⟩) ?_
      clear hG hT2 hS2 hc2 hc3 hC2 hrn hrl
      rintro f3 vs Γ ⟨more3, i, gg, rows3, rfl, rfl, hif, hG, hT3, hS3, hc3, hc4, hC3⟩
      simp -implicitDefEqProofs only [S182_5, go_sem, Nat.reduceBEq, Nat.reduceAdd, Nat.reduceSub, Nat.reduceMul, Nat.reduceLeDiff, reduceCtorEq, ↓reduceIte, Int.reduceLT, Int.reduceLE, Int.reduceEq, Int.reduceNe]
      refine ⟨fun hlt => ?_, fun hge => ?_⟩
      · have hi : i < m := by omega
        have hrn : r.l.toNat < rows3.length := by rw [hT3.len]; omega
        have hrl := hT3.at' hrn
        refine s_split ?_
        simp -implicitDefEqProofs only [S182_3, S182_4, bit_shl uns32 (show i < 32 by omega), go_sem, Nat.reduceBEq, Nat.reduceAdd, Nat.reduceSub, Nat.reduceMul, Nat.reduceLeDiff, reduceCtorEq, ↓reduceIte, Int.reduceLT, Int.reduceLE, Int.reduceEq, Int.reduceNe]
        refine ⟨by omega, ?_⟩
        have hp : 2 ^ i < 4294967296 := Nat.pow_lt_pow_right (a := 2) (n := 32) (by omega) (by omega)
        refine s_loop (fun f4 vs Γ => ∃ (z q : Nat), vs = [.v true (.int .u32 z), .v true (.int .i64 q)] ∧ Γ = [ge, gg] ∧ q + f4 = r.r.length ∧ z < 4294967296 ∧ ∀ j, z.testBit j = true ↔ Rch (Eb rows3) w (r.r.take q) i j) r.r.length
          (Up.here ⟨_, 0, rfl, rfl, by omega, hp, fun j => by rw [Nat.testBit_two_pow]; simp [Rch, eq_comm]⟩) ?_
        rintro f4 vs Γ ⟨z, q, rfl, rfl, hqf, hz, hzj⟩
        simp -implicitDefEqProofs only [S182_2, go_sem, Nat.reduceBEq, Nat.reduceAdd, Nat.reduceSub, Nat.reduceMul, Nat.reduceLeDiff, reduceCtorEq, ↓reduceIte, Int.reduceLT, Int.reduceLE, Int.reduceEq, Int.reduceNe]
        refine ⟨fun hlt => ?_, fun hge => ?_⟩
        · have hq : q < r.r.length := by omega
          have hsm : r.r[q] ∈ r.r := List.getElem_mem hq
          have hs := hsym _ hsm
          have htk2 : r.r.take (q + 1) = r.r.take q ++ [r.r[q]] := List.take_succ_eq_append_getElem hq
          obtain ⟨b3, o3, hA4, hc6⟩ := hr3.sy hq
          generalize r.r[q] = y at *
          refine s_idx hA4 (by omega) (by omega) ?_
          simp -implicitDefEqProofs only [go_sem, Nat.reduceBEq, Nat.reduceAdd, Nat.reduceSub, Nat.reduceMul, Nat.reduceLeDiff, reduceCtorEq, ↓reduceIte, Int.reduceLT, Int.reduceLE, Int.reduceEq, Int.reduceNe]
          refine s_ld0 (hc6 _ (lk_r _ _)) (by simp) (by simp) ?_
          simp -implicitDefEqProofs only [go_sem, Nat.reduceBEq, Nat.reduceAdd, Nat.reduceSub, Nat.reduceMul, Nat.reduceLeDiff, reduceCtorEq, ↓reduceIte, Int.reduceLT, Int.reduceLE, Int.reduceEq, Int.reduceNe]
          intro b4
          refine CallVC.read (mean_after (g := g) (A := A) (c := c) (W := W) (d := d) (O := some ⟨bo, 0, none⟩) (e := n) (w := w) (rows := rows3) (T := 283) ⟨ge, by simp, by rw [hbe, hT3.len]; rfl⟩ (hw.mono (lk_r _ _)) ((hT3.len ▸ hG.slok (Mem.le.refl _) : SlOk _ _ n rows3).mono (lk_sub (by simp))) (hm ▸ hT3) (by omega) y (fun h => ⟨hs.1, by have := hs.2.2 h; omega⟩) z hz) ?_
          rintro v Γ' ⟨rfl, z', rfl, hz', hzj'⟩
          simp -implicitDefEqProofs only [go_sem, Nat.reduceBEq, Nat.reduceAdd, Nat.reduceSub, Nat.reduceMul, Nat.reduceLeDiff, reduceCtorEq, ↓reduceIte, Int.reduceLT, Int.reduceLE, Int.reduceEq, Int.reduceNe]
          simp (disch := omega) only [wrap_id]
          refine ⟨f4 - 1, by omega, Up.here ⟨z', q + 1, rfl, rfl, by omega, hz', fun j => ?_⟩⟩
          rw [hzj', htk2, rch_snoc]
          constructor
          · rintro ⟨i', _, h1, h2⟩; exact ⟨i', (hzj i').1 h1, h2⟩
          · rintro ⟨i', h1, h2⟩
            exact ⟨i', (prtL_le (w := w) (by omega) (rch_sound hS3 h1)).2, (hzj i').2 h1, h2⟩
        · have hq : q = r.r.length := by omega
          rw [hq, List.take_length] at hzj
          obtain ⟨kr, hcell, hArr, hput⟩ := hG.at' hrn (by omega)
          have hi2 : i < rows3[r.l.toNat].length := by omega
          have hxs := hT3.small _ (List.getElem_mem hrn) _ (List.getElem_mem hi2)
          have hEb : ∀ j, Eb rows3 r.l i j ↔ rows3[r.l.toNat][i].n.testBit j = true := fun j => by
            constructor
            · rintro ⟨_, row, x, h1, h2, h3⟩
              rw [List.getElem?_eq_getElem hrn, Option.some.injEq] at h1
              subst h1
              rw [List.getElem?_eq_getElem hi2, Option.some.injEq] at h2
              subst h2
              exact h3
            · exact fun h => ⟨by omega, _, _, List.getElem?_eq_getElem hrn, List.getElem?_eq_getElem hi2, h⟩
          refine s_ld (o := 0) (j := 5) (cells_lk ⟨ge, by simp, hbe⟩) (by simp) (by simp) ?_
          simp -implicitDefEqProofs only [go_sem, Nat.reduceBEq, Nat.reduceAdd, Nat.reduceSub, Nat.reduceMul, Nat.reduceLeDiff, reduceCtorEq, ↓reduceIte, Int.reduceLT, Int.reduceLE, Int.reduceEq, Int.reduceNe]
          refine s_idx rfl (by omega) (by omega) ?_
          simp -implicitDefEqProofs only [go_sem, Nat.reduceBEq, Nat.reduceAdd, Nat.reduceSub, Nat.reduceMul, Nat.reduceLeDiff, reduceCtorEq, ↓reduceIte, Int.reduceLT, Int.reduceLE, Int.reduceEq, Int.reduceNe]
          refine s_ld0 (hcell _ (by simp)) (by simp) (by simp) ?_
          simp -implicitDefEqProofs only [go_sem, Nat.reduceBEq, Nat.reduceAdd, Nat.reduceSub, Nat.reduceMul, Nat.reduceLeDiff, reduceCtorEq, ↓reduceIte, Int.reduceLT, Int.reduceLE, Int.reduceEq, Int.reduceNe]
          refine s_idx rfl (by omega) (by omega) ?_
          simp -implicitDefEqProofs only [go_sem, Nat.reduceBEq, Nat.reduceAdd, Nat.reduceSub, Nat.reduceMul, Nat.reduceLeDiff, reduceCtorEq, ↓reduceIte, Int.reduceLT, Int.reduceLE, Int.reduceEq, Int.reduceNe]
          refine s_ld0 (hArr.cell hi2 (by simp)) (by simp) (by simp) ?_
          simp -implicitDefEqProofs only [Sc.enc, bit_diff uns32 hz hxs, fnC_eq, go_sem, Nat.reduceBEq, Nat.reduceAdd, Nat.reduceSub, Nat.reduceMul, Nat.reduceLeDiff, reduceCtorEq, ↓reduceIte, Int.reduceLT, Int.reduceLE, Int.reduceEq, Int.reduceNe]
          refine ⟨fun hne => ?_, fun heq => ?_⟩
          · refine s_ld (o := 0) (j := 5) (cells_lk ⟨ge, by simp, hbe⟩) (by simp) (by simp) ?_
            simp -implicitDefEqProofs only [go_sem, Nat.reduceBEq, Nat.reduceAdd, Nat.reduceSub, Nat.reduceMul, Nat.reduceLeDiff, reduceCtorEq, ↓reduceIte, Int.reduceLT, Int.reduceLE, Int.reduceEq, Int.reduceNe]
            refine s_idx rfl (by omega) (by omega) ?_
            simp -implicitDefEqProofs only [go_sem, Nat.reduceBEq, Nat.reduceAdd, Nat.reduceSub, Nat.reduceMul, Nat.reduceLeDiff, reduceCtorEq, ↓reduceIte, Int.reduceLT, Int.reduceLE, Int.reduceEq, Int.reduceNe]
            refine s_ld0 (hcell _ (by simp)) (by simp) (by simp) ?_
            simp -implicitDefEqProofs only [go_sem, Nat.reduceBEq, Nat.reduceAdd, Nat.reduceSub, Nat.reduceMul, Nat.reduceLeDiff, reduceCtorEq, ↓reduceIte, Int.reduceLT, Int.reduceLE, Int.reduceEq, Int.reduceNe]
            refine s_idx rfl (by omega) (by omega) ?_
            simp -implicitDefEqProofs only [go_sem, Nat.reduceBEq, Nat.reduceAdd, Nat.reduceSub, Nat.reduceMul, Nat.reduceLeDiff, reduceCtorEq, ↓reduceIte, Int.reduceLT, Int.reduceLE, Int.reduceEq, Int.reduceNe]
            refine s_ld0 (hArr.cell hi2 (by simp)) (by simp) (by simp) ?_
            simp -implicitDefEqProofs only [Sc.enc, bit_or uns32 hxs hz, fnC_eq, go_sem, Nat.reduceBEq, Nat.reduceAdd, Nat.reduceSub, Nat.reduceMul, Nat.reduceLeDiff, reduceCtorEq, ↓reduceIte, Int.reduceLT, Int.reduceLE, Int.reduceEq, Int.reduceNe]
            refine s_idx rfl (by omega) (by omega) ?_
            simp -implicitDefEqProofs only [go_sem, Nat.reduceBEq, Nat.reduceAdd, Nat.reduceSub, Nat.reduceMul, Nat.reduceLeDiff, reduceCtorEq, ↓reduceIte, Int.reduceLT, Int.reduceLE, Int.reduceEq, Int.reduceNe]
            refine s_storeA (ix := 1) (α := U32) (T := 285) ⟨rows3[r.l.toNat][i].n ||| z⟩ rfl hArr (i := i) hi2 ?_
            intro g' hA' ho'
            have hG' := hput g' _ hA' (by simp) ho'
            rw [← tabSet_eq hrn hi2] at hG'
            simp -implicitDefEqProofs only [go_sem, Nat.reduceBEq, Nat.reduceAdd, Nat.reduceSub, Nat.reduceMul, Nat.reduceLeDiff, reduceCtorEq, ↓reduceIte, Int.reduceLT, Int.reduceLE, Int.reduceEq, Int.reduceNe]
            simp (disch := omega) only [wrap_id]
            have hset : ∀ {a' : Int} {i' j : Nat}, Eb (tabSet rows3 r.l.toNat i z) a' i' j ↔ Eb rows3 a' i' j ∨ (a' = r.l.toNat ∧ i' = i ∧ z.testBit j = true) := fun {a' i' j} => eb_set hT3 (by omega) hi
            have hsnd : ∀ j, z.testBit j = true → Prt g.rs w r.l i j := fun j h => by
              obtain ⟨u, h1, h2, h3⟩ := rch_sound hS3 ((hzj j).1 h)
              exact ⟨u, ⟨r, hmem, rfl, h1⟩, h2, h3⟩
            obtain ⟨j0, hj1, hj2⟩ : ∃ j, z.testBit j = true ∧ ¬ rows3[r.l.toNat][i].n.testBit j = true := by
              apply Classical.byContradiction
              intro q
              refine hne ?_
              have := (bdiff_zero hz hxs).2 fun j h => Classical.byContradiction fun h' => q ⟨j, h, h'⟩
              omega
            have hj0 := (prt_le (w := w) (by omega) (hsnd j0 hj1)).2
            have hlt2 : cntE n m (Eb rows3) < cntE n m (Eb (tabSet rows3 r.l.toNat i z)) :=
              cntE_lt (fun a i j h => hset.2 (.inl h)) (a := r.l.toNat) (i := i) (j := j0) (by omega) hi (by omega) (fun h => hj2 ((hEb j0).1 (by rw [show ((r.l.toNat : Nat) : Int) = r.l by omega] at h; exact h))) (hset.2 (.inr ⟨rfl, rfl, hj1⟩))
            refine Up.here ⟨f3 - 1, by omega, Up.here ⟨true, i + 1, g', tabSet rows3 r.l.toNat i z, rfl, rfl, by omega, hG', hT3.set hz, fun a' i' j h => ?_, by omega, fun _ => by omega, fun h => Bool.noConfusion h⟩⟩
            rcases hset.1 h with h | ⟨rfl, rfl, h9⟩
            · exact hS3 _ _ _ h
            · rw [show ((r.l.toNat : Nat) : Int) = r.l by omega]
              exact hsnd j h9
          · simp (disch := omega) only [wrap_id]
            refine Up.here ⟨f3 - 1, by omega, Up.here ⟨more3, i + 1, gg, rows3, rfl, rfl, by omega, hG, hT3, hS3, hc3, hc4, fun h => ?_⟩⟩
            obtain ⟨h1, h2, h3⟩ := hC3 h
            refine ⟨h1, h2, fun i' hi' j hr => ?_⟩
            by_cases e : i' = i
            · subst e
              rw [← h1] at hr ⊢
              have hz0 : bdiff z rows3[r.l.toNat][i'].n = 0 := by omega
              exact (hEb j).2 ((bdiff_zero hz hxs).1 hz0 j ((hzj j).2 hr))
            · exact h3 i' (by omega) j hr
      · have hi : i = m := by omega
        rw [hi] at hC3
        simp (disch := omega) only [wrap_id]
        refine ⟨f2 - 1, by omega, Up.here ⟨more3, k + 1, gg, rows3, rfl, rfl, by omega, hG, hT3, hS3, hc3, hc4, fun h => ⟨(hC3 h).1, ?_⟩⟩⟩
        intro r' hr'
        rw [htk] at hr'
        rcases List.mem_append.1 hr' with h1 | h1
        · exact (hC3 h).2.1 r' h1
        · simp at h1
          subst h1
          exact fun i' j h1 h2 => (hC3 h).2.2 i' h1 j h2
    · have hk : k = g.rs.length := by omega
      subst hk
      rw [List.take_length] at hC2
      have hcl2 := hcl (Eb rows2)
      refine ⟨2 * (N - cntE n m (Eb rows2)) + more2.toNat, ?_, Up.here ⟨more2, gg, rows2, rfl, rfl, rfl, hG, hT2, hS2, fun h => ?_⟩⟩
      · cases more2 with
        | true => have := hc3 rfl; simp only [hf, Bool.toNat_true]; omega
        | false => simp only [hf, Bool.toNat_true, Bool.toNat_false]; omega
      · obtain ⟨h1, h2⟩ := hC2 h
        rw [h1]
        exact h2
  · have hmf : more = false := by simpa using hmf
    refine Up.one fun G hG' => ?_
    subst hR
    have hle := hT.len
    refine ⟨G, be, some ⟨bo, 0, none⟩, n, rows, rfl, rfl, hG' _ _ ⟨ge, by simp, by rw [hbe, hle]; rfl⟩, ((hle ▸ hG.slok (Mem.le.refl _) : SlOk _ _ n rows)).mono (Mem.le.trans (lk_sub (by simp)) hG'), hT, fun a i j hi => ?_⟩
    exact prt_iff hS (fun r hr i j hi h => hC hmf r hr i j (by omega) h) a i j hi
end Go.Proofs.Ytniobbepliknmaa.V
/- The text of parlance/gram.Word as a statement (slots: 0 g, 1 w, 2 most, 3 g, 4 w, 5 most, 7 _, 8 t); no condition. -/
namespace Go.Proofs.Ytniobbepliknmaa.V
open Go
def S205_1 : Stmt :=
  Stmt.seq
  (Stmt.region [SOper.mk (some 16) none (SOp.ibin BinOp.lss (Operand.tmp 15) (Operand.tmp 14))] [3, 13, 14, 15, 16])
  (Stmt.seq (Stmt.cond (Operand.tmp 16) Stmt.skip (Stmt.exit 0))
    (Stmt.seq
      (Stmt.block 1
        (Stmt.seq
          (Stmt.region
            [SOper.mk (some 17) none (SOp.idx 1 (Operand.tmp 13) (Operand.tmp 15)),
              SOper.mk (some 18) none (SOp.load false 1 (Operand.tmp 17)),
              SOper.mk (some 8) none (SOp.mv (Operand.tmp 18))]
            [3, 8, 13, 14, 15])
          (Stmt.seq
            (Stmt.region
              [SOper.mk (some 19) none (SOp.mv (Operand.tmp 8)),
                SOper.mk (some 20) none (SOp.ibin BinOp.lss (Operand.tmp 19) (Operand.const (Value.int IntKind.i64 0))),
                SOper.mk (some 21) none (SOp.mv (Operand.tmp 20)),
                SOper.mk (some 22) (some (21, false)) (SOp.mv (Operand.tmp 8)),
                SOper.mk (some 23) (some (21, false)) (SOp.fld 0 (Operand.tmp 3)),
                SOper.mk (some 24) (some (21, false)) (SOp.load false 1 (Operand.tmp 23)),
                SOper.mk (some 25) (some (21, false)) (SOp.ibin BinOp.geq (Operand.tmp 22) (Operand.tmp 24)),
                SOper.mk (some 26) none (SOp.pick (Operand.tmp 21) (Operand.const (Value.bool true)) (Operand.tmp 25))]
              [3, 13, 14, 15, 26])
            (Stmt.cond (Operand.tmp 26)
              (Stmt.seq (Stmt.region [SOper.mk (some 6) none (SOp.mv (Operand.const (Value.int IntKind.i64 1)))] [6])
                Stmt.ret)
              Stmt.skip))))
      (Stmt.region
        [SOper.mk (some 27) none (SOp.ibin BinOp.add (Operand.tmp 15) (Operand.const (Value.int IntKind.i64 1))),
          SOper.mk (some 15) none (SOp.mv (Operand.tmp 27))]
        [3, 13, 14, 15])))
def S205_0 : Stmt :=
  Stmt.seq
  (Stmt.region
    [SOper.mk (some 3) none (SOp.box true 57 (Operand.tmp 0)),
      SOper.mk (some 6) none (SOp.mv (Operand.const (Value.int IntKind.i64 0)))]
    [1, 2, 3])
  (Stmt.seq
    (Stmt.seq
      (Stmt.region
        [SOper.mk (some 9) none (SOp.mv (Operand.tmp 1)), SOper.mk (some 10) none (SOp.len false (Operand.tmp 9)),
          SOper.mk (some 11) none (SOp.mv (Operand.tmp 2)),
          SOper.mk (some 12) none (SOp.ibin BinOp.gtr (Operand.tmp 10) (Operand.tmp 11))]
        [1, 3, 12])
      (Stmt.cond (Operand.tmp 12)
        (Stmt.seq (Stmt.region [SOper.mk (some 6) none (SOp.mv (Operand.const (Value.int IntKind.i64 2)))] [6])
          Stmt.ret)
        Stmt.skip))
    (Stmt.seq
      (Stmt.seq
        (Stmt.region
          [SOper.mk (some 13) none (SOp.mv (Operand.tmp 1)), SOper.mk (some 14) none (SOp.len false (Operand.tmp 13)),
            SOper.mk (some 15) none (SOp.mv (Operand.const (Value.int IntKind.i64 0)))]
          [3, 13, 14, 15])
        (Stmt.block 0 (Stmt.loop S205_1 [15] [3, 13, 14])))
      (Stmt.seq (Stmt.region [SOper.mk (some 6) none (SOp.mv (Operand.const (Value.int IntKind.i64 0)))] [6])
        Stmt.ret)))
def S205 : FnS := ⟨28, [(6, none)], S205_0⟩
theorem tr205 : trFn Try.prog 205 [3] [[1, 2, 3], [1, 3, 12], [6], [3, 13, 14, 15], [15], [3, 13, 14], [3, 13, 14, 15, 16], [3, 8, 13, 14, 15], [3, 13, 14, 15, 26], [6], [3, 13, 14, 15], [6]] = some S205 := by kernel_rfl
end Go.Proofs.Ytniobbepliknmaa.V
/- The text of parlance/mean.check as a statement (slots: 0 g, 1 w, 2 g, 3 w, 5 e); no condition. -/
namespace Go.Proofs.Ytniobbepliknmaa.V
open Go
def S181_0 : Stmt :=
  Stmt.seq
  (Stmt.region
    [SOper.mk (some 2) none (SOp.box true 57 (Operand.tmp 0)),
      SOper.mk (some 4) none (SOp.mv (Operand.const (Value.int IntKind.i64 0)))]
    [1, 2])
  (Stmt.seq
    (Stmt.seq
      (Stmt.region
        [SOper.mk (some 6) none (SOp.load true 4 (Operand.tmp 2)),
          SOper.mk (some 7) none (SOp.call (Operand.func 112) [Operand.tmp 6]),
          SOper.mk (some 5) none (SOp.mv (Operand.tmp 7))]
        [1, 2, 5])
      (Stmt.seq
        (Stmt.region
          [SOper.mk (some 8) none (SOp.mv (Operand.tmp 5)),
            SOper.mk (some 9) none (SOp.ibin BinOp.neq (Operand.tmp 8) (Operand.const (Value.int IntKind.i64 0)))]
          [1, 2, 5, 9])
        (Stmt.cond (Operand.tmp 9)
          (Stmt.seq
            (Stmt.region
              [SOper.mk (some 10) none (SOp.mv (Operand.tmp 5)), SOper.mk (some 4) none (SOp.mv (Operand.tmp 10))] [4])
            Stmt.ret)
          Stmt.skip)))
    (Stmt.seq
      (Stmt.region
        [SOper.mk (some 11) none (SOp.load true 4 (Operand.tmp 2)), SOper.mk (some 12) none (SOp.mv (Operand.tmp 1)),
          SOper.mk (some 13) none
            (SOp.call (Operand.func 205) [Operand.tmp 11, Operand.tmp 12, Operand.const (Value.int IntKind.i64 12)]),
          SOper.mk (some 4) none (SOp.mv (Operand.tmp 13))]
        [4])
      Stmt.ret))
def S181 : FnS := ⟨14, [(4, none)], S181_0⟩
theorem tr181 : trFn Try.prog 181 [2] [[1, 2], [1, 2, 5], [1, 2, 5, 9], [4], [4]] = some S181 := by kernel_rfl
end Go.Proofs.Ytniobbepliknmaa.V
/- The text of parlance/mean.Accepts as a statement (slots: 0 g, 1 w, 2 g, 3 w, 6 e); no condition. -/
namespace Go.Proofs.Ytniobbepliknmaa.V
open Go
def S144_0 : Stmt :=
  Stmt.seq
  (Stmt.region
    [SOper.mk (some 2) none (SOp.box true 57 (Operand.tmp 0)),
      SOper.mk (some 4) none (SOp.mv (Operand.const (Value.bool false))),
      SOper.mk (some 5) none (SOp.mv (Operand.const (Value.int IntKind.i64 0)))]
    [1, 2])
  (Stmt.seq
    (Stmt.seq
      (Stmt.region
        [SOper.mk (some 7) none (SOp.load true 4 (Operand.tmp 2)), SOper.mk (some 8) none (SOp.mv (Operand.tmp 1)),
          SOper.mk (some 9) none (SOp.call (Operand.func 181) [Operand.tmp 7, Operand.tmp 8]),
          SOper.mk (some 6) none (SOp.mv (Operand.tmp 9))]
        [1, 2, 6])
      (Stmt.seq
        (Stmt.region
          [SOper.mk (some 10) none (SOp.mv (Operand.tmp 6)),
            SOper.mk (some 11) none (SOp.ibin BinOp.neq (Operand.tmp 10) (Operand.const (Value.int IntKind.i64 0)))]
          [1, 2, 6, 11])
        (Stmt.cond (Operand.tmp 11)
          (Stmt.seq
            (Stmt.region
              [SOper.mk (some 12) none (SOp.mv (Operand.tmp 6)),
                SOper.mk (some 4) none (SOp.mv (Operand.const (Value.bool false))),
                SOper.mk (some 5) none (SOp.mv (Operand.tmp 12))]
              [4, 5])
            Stmt.ret)
          Stmt.skip)))
    (Stmt.seq
      (Stmt.drawn
        [(false, SOper.mk (some 13) none (SOp.load true 4 (Operand.tmp 2))),
          (false, SOper.mk (some 14) none (SOp.mv (Operand.tmp 1))),
          (false, SOper.mk (some 16) none (SOp.fld 2 (Operand.tmp 2))),
          (true, SOper.mk (some 17) none (SOp.load false 1 (Operand.tmp 16))),
          (false,
            SOper.mk (some 18) none
              (SOp.build 39 [Value.bool false, Value.int IntKind.i64 0] [(1, 1, Operand.tmp 17)])),
          (false, SOper.mk (some 19) none (SOp.mv (Operand.tmp 1))),
          (false, SOper.mk (some 20) none (SOp.len false (Operand.tmp 19))),
          (false, SOper.mk (some 15) none (SOp.call (Operand.func 182) [Operand.tmp 13, Operand.tmp 14])),
          (false,
            SOper.mk (some 21) none
              (SOp.call (Operand.func 183)
                [Operand.tmp 15, Operand.tmp 18, Operand.const (Value.int IntKind.i64 0), Operand.tmp 20])),
          (false, SOper.mk (some 4) none (SOp.mv (Operand.tmp 21))),
          (false, SOper.mk (some 5) none (SOp.mv (Operand.const (Value.int IntKind.i64 0))))]
        [4, 5])
      Stmt.ret))
def S144 : FnS := ⟨22, [(4, none), (5, none)], S144_0⟩
theorem tr144 : trFn Try.prog 144 [2] [[1, 2], [1, 2, 6], [1, 2, 6, 11], [4, 5], [4, 5], [0, 1, 3, 4, 5, 6, 7, 2, 8, 9, 10], [4], [], [], [0, 1], [], [3], [3, 4], [], [6], [0, 1, 2, 3, 4, 5, 6, 7], [0, 1, 2, 3, 4, 5, 6, 7, 8], [0, 1, 2, 3, 4, 5, 6, 7, 8, 9]] = some S144 := by kernel_rfl
end Go.Proofs.Ytniobbepliknmaa.V
/- Whether a grammar has a word: gram.Word, mean.check, mean.Accepts; no condition. -/
namespace Go.Proofs.Ytniobbepliknmaa.V
open Go
set_option linter.unusedVariables false
set_option linter.unusedSimpArgs false
attribute [local go_sem] e_seq e_region e_quiet e_join e_loop e_cond e_block e_exit e_ret e_skip e_fin e_kseq e_snrm e_sret e_sex e_bnrm e_bret e_bex e_rnrm e_rret e_res e_condC e_nil e_g e_mv g_mv e_pick g_pick pickC_eq e_ibin g_ibin ibinC_eq e_sbin g_sbin e_beq g_beq beqC_eq e_nilq g_nilq nilqC_sl nilqC_pt nilqC_mp e_un g_un unC_not unC_neg e_conv g_conv convC_eq e_fld g_fld fldC_ref fldC_ptr e_nilCheck g_nilCheck nilCheckC_ref nilCheckC_ptr nilCheckC_fun e_field g_field fieldC_eq e_len g_len lenC_sl lenC_str e_extract g_extract extractC_eq e_mkFunc e_build g_build e_idiv g_idiv idivC_eq e_ishift g_ishift ishiftC_eq e_idx g_idx e_idxA g_idxA e_load g_load loadC_ref loadC_ptr loadB_eq e_slc g_slc e_box boxC_loc boxC_esc e_alloc allocC_loc allocC_esc e_buildS e_store storeC_ref storeC_ptr storeB_eq e_append e_appz e_mk mkC_eq e_call callC_eq e_fn g_fn fnC_eq fnV_min' fnV_max' fnV_rune' e_q g_q e_a e_n g_call g_box g_alloc g_buildS g_store g_append g_mk g_a g_n g_dead e_dead e_callK e_drawn e_tree e_finJ e_tk e_tfin e_tno e_nbt_q e_nbt_qn e_nbt_a e_nbt_an e_nbt_fin e_early_nil e_early_t e_early_f e_nob_nil e_nob_none e_nob_some isBox_dead isBox_v isBox_ref e_dnil e_dk e_ek e_finB vcOps_vc1 e_dcons e_tq e_ekt e_tearly e_talt e_dearly look_nil look_c proj_nil proj_c looks_nil looks_c zip_nil zip_c val_tmp val_const val_func slv_v slv_box slv_ref slot_tmp slot_const slot_func slotL_v slotL_box slotL_ref put_some put_none updBox_c boxSet_box gd_eq slotVals_nil slotVals_c slotVals_b boxV_box boxOn_box slotsOn_nil slotsOn_c slotsOn_b resV_one resV_two vals_nil vals_c allOn_nil allOn_c partOn_nil partOn_c partVals_nil partVals_c fits_nil fits_c fillL_nil fillL_c mkv_one mkv_agg cellsV_agg cellsV_int cellsV_bool cellsV_slice cellsV_string cellsV_pointer cellsV_func cellsV_nilf cellsV_map one'_nil one'_c oc_int oc_bool oc_slice oc_string oc_pointer oc_func oc_nilf oc_map setC_eq iv_add iv_sub iv_mul iv_eql iv_neq iv_lss iv_leq iv_gtr iv_geq iok_add iok_sub iok_mul iok_eql iok_neq iok_lss iok_leq iok_gtr iok_geq pickV_bool args0_nil args0_c bnd_none bnd_some imp_bt imp_bf imp_ebt imp_ebf imp_eb1 imp_np imp_pp beq_tt beq_tf beq_ft beq_ff cond_or cond_and e_round e_meet Int.le_refl Int.toNat_zero decide_true decide_false Bool.or_false Bool.false_or Bool.true_or Bool.or_true Bool.and_false Bool.false_and Bool.bne_false Bool.bne_true beq_iff_eq Int.cast_ofNat_Int not_false_eq_true not_true_eq_false false_and and_false false_implies true_implies true_and and_true Bool.true_and Bool.and_true Bool.not_true Bool.not_false forall_const implies_true List.take_zero List.drop_zero List.take_succ_cons List.drop_succ_cons List.take_nil List.drop_nil List.length_cons List.length_nil List.nil_append List.append_nil List.cons_append Int.toNat_natCast decide_eq_true_eq decide_eq_false_iff_not cond_true cond_false and_self List.getElem?_cons_zero List.getElem?_cons_succ List.set_cons_zero List.set_cons_succ Option.some.injEq exists_eq_left' Nat.zero_add Nat.add_zero Nat.mul_one imp_self true_or or_true or_false false_or Bool.or_eq_true Bool.or_eq_false_iff Bool.and_eq_true Bool.and_eq_false_iff Bool.not_eq_true' Bool.not_eq_false'

def wordF (ts : Int) (w : List Int) (most : Nat) : Int := if most < w.length then 2 else if ∀ t ∈ w, 0 ≤ t ∧ t < ts then 0 else 1
theorem wordF_ok {ts : Int} {w : List Int} {most : Nat} (h : wordF ts w most = 0) : w.length ≤ most ∧ ∀ t ∈ w, 0 ≤ t ∧ t < ts := by
  unfold wordF at h
  split at h
  · cases h
  · split at h
    · rename_i h2; exact ⟨by omega, h2⟩
    · cases h
theorem gram_word {Γr : Ctx} {g : Gr} {A W : Option Addr} {c d : Nat} {w : List Int} (hw : SlOk (lk Γr) W d w) (most : Nat) (hm : most ≤ 100000) :
    Ret Try.prog 205 [.agg #[.int .i64 g.ts, .int .i64 g.ns, .int .i64 g.st, .slice A g.rs.length c], .slice W w.length d, .int .i64 most] Γr [] (fun v Γ => Γ = [] ∧ v = .int .i64 (wordF g.ts w most)) := by
  generalize hR : (fun (v : Value) (Γ : Ctx) => Γ = [] ∧ v = _) = R
  refine ret_of_vc tr205 (Nat.le_of_ble_eq_true rfl) ?_
  have hws := hw.short
  simp -implicitDefEqProofs only [S205, S205_0, go_sem, Nat.reduceBEq, Nat.reduceAdd, Nat.reduceSub, Nat.reduceMul, Nat.reduceLeDiff, reduceCtorEq, ↓reduceIte, Int.reduceLT, Int.reduceLE, Int.reduceEq, Int.reduceNe]
  intro b0
  refine ⟨fun h => Up.here ?_, fun h => ?_⟩
  · subst hR
    exact ⟨rfl, by rw [wordF, if_pos (by omega)]⟩
  have hle : w.length ≤ most := by omega
  refine s_loop (fun f vs Γ => Γ = [] ∧ ∃ k : Nat, vs = [.v true (.int .i64 k)] ∧ k + f = w.length ∧ ∀ t ∈ w.take k, 0 ≤ t ∧ t < g.ts) w.length (Up.here ⟨rfl, 0, rfl, by omega, by simp⟩) ?_
  rintro f vs Γ ⟨rfl, k, rfl, hkf, hk2⟩
  simp -implicitDefEqProofs only [S205_1, go_sem, Nat.reduceBEq, Nat.reduceAdd, Nat.reduceSub, Nat.reduceMul, Nat.reduceLeDiff, reduceCtorEq, ↓reduceIte, Int.reduceLT, Int.reduceLE, Int.reduceEq, Int.reduceNe]
  refine ⟨fun hlt => ?_, fun hge => ?_⟩
  · have hk : k < w.length := by omega
    obtain ⟨b1, o1, hA1, hc1⟩ := hw.int hk
    refine s_idx hA1 (by omega) (by omega) ?_
    simp -implicitDefEqProofs only [go_sem, Nat.reduceBEq, Nat.reduceAdd, Nat.reduceSub, Nat.reduceMul, Nat.reduceLeDiff, reduceCtorEq, ↓reduceIte, Int.reduceLT, Int.reduceLE, Int.reduceEq, Int.reduceNe]
    refine s_ld0 (hc1 _ (lk_r _ _)) (by simp) (by simp) ?_
    simp -implicitDefEqProofs only [go_sem, Nat.reduceBEq, Nat.reduceAdd, Nat.reduceSub, Nat.reduceMul, Nat.reduceLeDiff, reduceCtorEq, ↓reduceIte, Int.reduceLT, Int.reduceLE, Int.reduceEq, Int.reduceNe]
    simp (disch := omega) only [wrap_id]
    refine ⟨fun h => Up.here ?_, fun h => ⟨f - 1, by omega, Up.here ⟨rfl, k + 1, rfl, by omega, fun t ht => ?_⟩⟩⟩
    · subst hR
      refine ⟨rfl, ?_⟩
      rw [wordF, if_neg (by omega), if_neg]
      intro q
      have := q _ (List.getElem_mem hk)
      omega
    · rw [List.take_succ_eq_append_getElem hk] at ht
      rcases List.mem_append.1 ht with ht | ht
      · exact hk2 t ht
      · simp at ht
        subst ht
        omega
  · have hk : k = w.length := by omega
    rw [hk, List.take_length] at hk2
    refine Up.here ?_
    subst hR
    exact ⟨rfl, by rw [wordF, if_neg (by omega), if_pos hk2]⟩
/-- the first error of a grammar and a word -/
def mcF (g : Gr) (w : List Int) : Int := if ckF g ≠ 0 then ckF g else wordF g.ts w 12
theorem mean_check {Γr : Ctx} {g : Gr} {A W : Option Addr} {c d : Nat} {w : List Int} (hx : SlOk (lk Γr) A c g.rs) (hw : SlOk (lk Γr) W d w) :
    Ret Try.prog 181 [.agg #[.int .i64 g.ts, .int .i64 g.ns, .int .i64 g.st, .slice A g.rs.length c], .slice W w.length d] Γr [] (fun v Γ => Γ = [] ∧ v = .int .i64 (mcF g w)) := by
  generalize hR : (fun (v : Value) (Γ : Ctx) => Γ = [] ∧ v = _) = R
  refine ret_of_vc tr181 (Nat.le_of_ble_eq_true rfl) ?_
  simp -implicitDefEqProofs only [S181, S181_0, go_sem, Nat.reduceBEq, Nat.reduceAdd, Nat.reduceSub, Nat.reduceMul, Nat.reduceLeDiff, reduceCtorEq, ↓reduceIte, Int.reduceLT, Int.reduceLE, Int.reduceEq, Int.reduceNe]
  intro b
  refine CallVC.read (gram_check (g := g) (hx.mono (lk_r _ _))) ?_
  rintro v Γ' ⟨rfl, rfl⟩
  simp -implicitDefEqProofs only [go_sem, Nat.reduceBEq, Nat.reduceAdd, Nat.reduceSub, Nat.reduceMul, Nat.reduceLeDiff, reduceCtorEq, ↓reduceIte, Int.reduceLT, Int.reduceLE, Int.reduceEq, Int.reduceNe]
  refine ⟨fun h => Up.here ?_, fun h => ?_⟩
  · subst hR
    exact ⟨rfl, by rw [mcF, if_pos h]⟩
  · refine CallVC.read (gram_word (g := g) (hw.mono (lk_r _ _)) 12 (by omega)) ?_
    rintro v Γ' ⟨rfl, rfl⟩
    simp -implicitDefEqProofs only [go_sem, Nat.reduceBEq, Nat.reduceAdd, Nat.reduceSub, Nat.reduceMul, Nat.reduceLeDiff, reduceCtorEq, ↓reduceIte, Int.reduceLT, Int.reduceLE, Int.reduceEq, Int.reduceNe]
    refine Up.here ?_
    subst hR
    exact ⟨rfl, by rw [mcF, if_neg (by simpa using h)]⟩
theorem mean_accepts {Γr : Ctx} {g : Gr} {A W : Option Addr} {c d : Nat} {w : List Int} (hx : SlOk (lk Γr) A c g.rs) (hw : SlOk (lk Γr) W d w) :
    Ret Try.prog 144 [.agg #[.int .i64 g.ts, .int .i64 g.ns, .int .i64 g.st, .slice A g.rs.length c], .slice W w.length d] Γr [] (fun v Γ => Γ = [] ∧ ∃ q : Bool, v = .tuple #[.bool q, .int .i64 (mcF g w)] ∧ (q = true ↔ mcF g w = 0 ∧ DerN id g.rs g.st w)) := by
  generalize hR : (fun (v : Value) (Γ : Ctx) => Γ = [] ∧ _) = R
  refine ret_of_vc tr144 (Nat.le_of_ble_eq_true rfl) ?_
  simp -implicitDefEqProofs only [S144, S144_0, go_sem, Nat.reduceBEq, Nat.reduceAdd, Nat.reduceSub, Nat.reduceMul, Nat.reduceLeDiff, reduceCtorEq, ↓reduceIte, Int.reduceLT, Int.reduceLE, Int.reduceEq, Int.reduceNe]
  intro b
  refine CallVC.read (mean_check (g := g) (hx.mono (lk_r _ _)) (hw.mono (lk_r _ _))) ?_
  rintro v Γ' ⟨rfl, rfl⟩
  simp -implicitDefEqProofs only [go_sem, Nat.reduceBEq, Nat.reduceAdd, Nat.reduceSub, Nat.reduceMul, Nat.reduceLeDiff, reduceCtorEq, ↓reduceIte, Int.reduceLT, Int.reduceLE, Int.reduceEq, Int.reduceNe]
  refine ⟨fun h => Up.here ?_, fun h => ?_⟩
  · subst hR
    exact ⟨rfl, false, rfl, by simp [h]⟩
  · have hck : ckF g = 0 := by
      apply Classical.byContradiction
      intro q
      rw [mcF, if_pos q] at h
      exact q h
    have V := ckF_ok hck
    have hwd : wordF g.ts w 12 = 0 := by rw [mcF, if_neg (by simpa using hck)] at h; exact h
    obtain ⟨hl, hws⟩ := wordF_ok hwd
    refine s_drawn [] [] (Ent.refl _) ?_
    simp -implicitDefEqProofs only [go_sem, Nat.reduceBEq, Nat.reduceAdd, Nat.reduceSub, Nat.reduceMul, Nat.reduceLeDiff, reduceCtorEq, ↓reduceIte, Int.reduceLT, Int.reduceLE, Int.reduceEq, Int.reduceNe]
    refine CallVC.read (mean_derived (g := g) (hx.mono (lk_r _ _)) (hw.mono (lk_r _ _)) V (by omega)) ?_
    rintro v Γ' ⟨ge, be, O, e, rows, rfl, rfl, hbe, ho, hT, hE⟩
    simp -implicitDefEqProofs only [go_sem, Nat.reduceBEq, Nat.reduceAdd, Nat.reduceSub, Nat.reduceMul, Nat.reduceLeDiff, reduceCtorEq, ↓reduceIte, Int.reduceLT, Int.reduceLE, Int.reduceEq, Int.reduceNe]
    refine CallVC.read (mean_is (g := g) (lk_sub (by simp) _ _ hbe) (hw.mono (lk_r _ _)) (ho.mono (lk_l _ _)) hT (by omega) ⟨false, g.st⟩ (fun _ => ⟨V.st.1, by have := V.st; show g.st < _; omega⟩) 0 w.length (by omega)) ?_
    rintro v Γ' ⟨rfl, q, rfl, hq⟩
    simp -implicitDefEqProofs only [go_sem, Nat.reduceBEq, Nat.reduceAdd, Nat.reduceSub, Nat.reduceMul, Nat.reduceLeDiff, reduceCtorEq, ↓reduceIte, Int.reduceLT, Int.reduceLE, Int.reduceEq, Int.reduceNe]
    refine Up.to [] (Ent.nil _) ?_
    subst hR
    refine ⟨rfl, q, by rw [h], ?_⟩
    rw [hq]
    simp only [Stp, h, true_and]
    simp only [Bool.false_eq_true, if_false]
    rw [hE _ _ _ (by omega), prt_whole]
end Go.Proofs.Ytniobbepliknmaa.V
/- The text of parlance/compare.Least as a statement (slots: 0 g, 1 h, 2 n, 3 g, 4 h, 5 n, 9 e, 10 e, 11 k, 12 w, 13 a, 14 _, 15 b, 16 _); no condition. -/
namespace Go.Proofs.Ytniobbepliknmaa.V
open Go
def S74_1 : Stmt :=
  Stmt.block 3
  (Stmt.seq
    (Stmt.region
      [SOper.mk (some 53) none (SOp.load true 4 (Operand.tmp 3)), SOper.mk (some 54) none (SOp.mv (Operand.tmp 12)),
        SOper.mk (some 55) none (SOp.call (Operand.func 144) [Operand.tmp 53, Operand.tmp 54]),
        SOper.mk (some 52) none (SOp.mv (Operand.tmp 55)), SOper.mk (some 56) none (SOp.extract 0 (Operand.tmp 52)),
        SOper.mk (some 57) none (SOp.extract 1 (Operand.tmp 52)), SOper.mk (some 13) none (SOp.mv (Operand.tmp 56)),
        SOper.mk (some 14) none (SOp.mv (Operand.tmp 57))]
      [3, 4, 12, 13, 46, 47])
    (Stmt.seq
      (Stmt.region
        [SOper.mk (some 59) none (SOp.load true 4 (Operand.tmp 4)), SOper.mk (some 60) none (SOp.mv (Operand.tmp 12)),
          SOper.mk (some 61) none (SOp.call (Operand.func 144) [Operand.tmp 59, Operand.tmp 60]),
          SOper.mk (some 58) none (SOp.mv (Operand.tmp 61)), SOper.mk (some 62) none (SOp.extract 0 (Operand.tmp 58)),
          SOper.mk (some 63) none (SOp.extract 1 (Operand.tmp 58)), SOper.mk (some 15) none (SOp.mv (Operand.tmp 62)),
          SOper.mk (some 16) none (SOp.mv (Operand.tmp 63))]
        [3, 4, 12, 13, 15, 46, 47])
      (Stmt.seq
        (Stmt.block 4
          (Stmt.seq
            (Stmt.region
              [SOper.mk (some 65) none (SOp.mv (Operand.tmp 13)), SOper.mk (some 66) none (SOp.mv (Operand.tmp 65)),
                SOper.mk (some 67) (some (66, true)) (SOp.mv (Operand.tmp 15)),
                SOper.mk (some 68) (some (66, true)) (SOp.un UnOp.not (Operand.tmp 67)),
                SOper.mk (some 69) none (SOp.pick (Operand.tmp 66) (Operand.tmp 68) (Operand.const (Value.bool false))),
                SOper.mk (some 64) none (SOp.mv (Operand.tmp 69))]
              [3, 4, 12, 13, 15, 46, 47, 64])
            (Stmt.cond (Operand.tmp 64)
              (Stmt.seq
                (Stmt.region
                  [SOper.mk (some 70) none (SOp.mv (Operand.tmp 12)), SOper.mk (some 6) none (SOp.mv (Operand.tmp 70)),
                    SOper.mk (some 7) none (SOp.mv (Operand.const (Value.int IntKind.i64 1))),
                    SOper.mk (some 8) none (SOp.mv (Operand.const (Value.int IntKind.i64 0)))]
                  [6, 7, 8])
                Stmt.ret)
              (Stmt.seq
                (Stmt.region
                  [SOper.mk (some 72) none (SOp.mv (Operand.tmp 15)), SOper.mk (some 73) none (SOp.mv (Operand.tmp 72)),
                    SOper.mk (some 74) (some (73, true)) (SOp.mv (Operand.tmp 13)),
                    SOper.mk (some 75) (some (73, true)) (SOp.un UnOp.not (Operand.tmp 74)),
                    SOper.mk (some 76) none
                      (SOp.pick (Operand.tmp 73) (Operand.tmp 75) (Operand.const (Value.bool false))),
                    SOper.mk (some 71) none (SOp.mv (Operand.tmp 76))]
                  [3, 4, 12, 46, 47, 71])
                (Stmt.cond (Operand.tmp 71)
                  (Stmt.seq
                    (Stmt.region
                      [SOper.mk (some 77) none (SOp.mv (Operand.tmp 12)),
                        SOper.mk (some 6) none (SOp.mv (Operand.tmp 77)),
                        SOper.mk (some 7) none (SOp.mv (Operand.const (Value.int IntKind.i64 2))),
                        SOper.mk (some 8) none (SOp.mv (Operand.const (Value.int IntKind.i64 0)))]
                      [6, 7, 8])
                    Stmt.ret)
                  Stmt.skip)))))
        (Stmt.seq
          (Stmt.region
            [SOper.mk (some 78) none (SOp.mv (Operand.tmp 12)), SOper.mk (some 79) none (SOp.fld 0 (Operand.tmp 3)),
              SOper.mk (some 80) none (SOp.load false 1 (Operand.tmp 79)),
              SOper.mk (some 81) none (SOp.call (Operand.func 145) [Operand.tmp 78, Operand.tmp 80]),
              SOper.mk (some 82) none (SOp.un UnOp.not (Operand.tmp 81))]
            [3, 4, 12, 46, 47, 82])
          (Stmt.cond (Operand.tmp 82) (Stmt.exit 2) Stmt.skip)))))
def S74_2 : Stmt :=
  Stmt.seq
  (Stmt.region [SOper.mk (some 48) none (SOp.ibin BinOp.lss (Operand.tmp 47) (Operand.tmp 46))] [3, 4, 46, 47, 48])
  (Stmt.seq (Stmt.cond (Operand.tmp 48) Stmt.skip (Stmt.exit 0))
    (Stmt.seq
      (Stmt.block 1
        (Stmt.seq
          (Stmt.region
            [SOper.mk (some 49) none (SOp.mv (Operand.tmp 47)), SOper.mk (some 11) none (SOp.mv (Operand.tmp 49))]
            [3, 4, 11, 46, 47])
          (Stmt.seq
            (Stmt.region
              [SOper.mk (some 50) none (SOp.mv (Operand.tmp 11)),
                SOper.mk (some 51) none (SOp.mk 3 1 8 (Value.int IntKind.i64 0) (Operand.tmp 50) (Operand.tmp 50)),
                SOper.mk (some 12) none (SOp.mv (Operand.tmp 51))]
              [3, 4, 12, 46, 47])
            (Stmt.block 2 (Stmt.loop S74_1 [] [3, 4, 12, 46, 47])))))
      (Stmt.region
        [SOper.mk (some 83) none (SOp.ibin BinOp.add (Operand.tmp 47) (Operand.const (Value.int IntKind.i64 1))),
          SOper.mk (some 47) none (SOp.mv (Operand.tmp 83))]
        [3, 4, 46, 47])))
def S74_0 : Stmt :=
  Stmt.seq
  (Stmt.region
    [SOper.mk (some 3) none (SOp.box true 57 (Operand.tmp 0)), SOper.mk (some 4) none (SOp.box true 57 (Operand.tmp 1)),
      SOper.mk (some 6) none (SOp.mv (Operand.const (Value.slice none 0 0))),
      SOper.mk (some 7) none (SOp.mv (Operand.const (Value.int IntKind.i64 0))),
      SOper.mk (some 8) none (SOp.mv (Operand.const (Value.int IntKind.i64 0)))]
    [2, 3, 4])
  (Stmt.seq
    (Stmt.seq
      (Stmt.region
        [SOper.mk (some 17) none (SOp.load true 4 (Operand.tmp 3)),
          SOper.mk (some 18) none (SOp.call (Operand.func 112) [Operand.tmp 17]),
          SOper.mk (some 9) none (SOp.mv (Operand.tmp 18))]
        [2, 3, 4, 9])
      (Stmt.seq
        (Stmt.region
          [SOper.mk (some 19) none (SOp.mv (Operand.tmp 9)),
            SOper.mk (some 20) none (SOp.ibin BinOp.neq (Operand.tmp 19) (Operand.const (Value.int IntKind.i64 0)))]
          [2, 3, 4, 9, 20])
        (Stmt.cond (Operand.tmp 20)
          (Stmt.seq
            (Stmt.region
              [SOper.mk (some 21) none (SOp.mv (Operand.tmp 9)),
                SOper.mk (some 6) none (SOp.mv (Operand.const (Value.slice none 0 0))),
                SOper.mk (some 7) none (SOp.mv (Operand.const (Value.int IntKind.i64 0))),
                SOper.mk (some 8) none (SOp.mv (Operand.tmp 21))]
              [6, 7, 8])
            Stmt.ret)
          Stmt.skip)))
    (Stmt.seq
      (Stmt.seq
        (Stmt.region
          [SOper.mk (some 22) none (SOp.load true 4 (Operand.tmp 4)),
            SOper.mk (some 23) none (SOp.call (Operand.func 112) [Operand.tmp 22]),
            SOper.mk (some 10) none (SOp.mv (Operand.tmp 23))]
          [2, 3, 4, 10])
        (Stmt.seq
          (Stmt.region
            [SOper.mk (some 24) none (SOp.mv (Operand.tmp 10)),
              SOper.mk (some 25) none (SOp.ibin BinOp.neq (Operand.tmp 24) (Operand.const (Value.int IntKind.i64 0)))]
            [2, 3, 4, 10, 25])
          (Stmt.cond (Operand.tmp 25)
            (Stmt.seq
              (Stmt.region
                [SOper.mk (some 26) none (SOp.mv (Operand.tmp 10)),
                  SOper.mk (some 6) none (SOp.mv (Operand.const (Value.slice none 0 0))),
                  SOper.mk (some 7) none (SOp.mv (Operand.const (Value.int IntKind.i64 0))),
                  SOper.mk (some 8) none (SOp.mv (Operand.tmp 26))]
                [6, 7, 8])
              Stmt.ret)
            Stmt.skip)))
      (Stmt.seq
        (Stmt.seq
          (Stmt.region
            [SOper.mk (some 27) none (SOp.fld 0 (Operand.tmp 3)),
              SOper.mk (some 28) none (SOp.load false 1 (Operand.tmp 27)),
              SOper.mk (some 29) none (SOp.fld 0 (Operand.tmp 4)),
              SOper.mk (some 30) none (SOp.load false 1 (Operand.tmp 29)),
              SOper.mk (some 31) none (SOp.ibin BinOp.neq (Operand.tmp 28) (Operand.tmp 30)),
              SOper.mk (some 32) none (SOp.mv (Operand.tmp 31)),
              SOper.mk (some 33) (some (32, false)) (SOp.mv (Operand.tmp 2)),
              SOper.mk (some 34) (some (32, false))
                (SOp.ibin BinOp.lss (Operand.tmp 33) (Operand.const (Value.int IntKind.i64 0))),
              SOper.mk (some 35) none (SOp.pick (Operand.tmp 32) (Operand.const (Value.bool true)) (Operand.tmp 34)),
              SOper.mk (some 36) none (SOp.mv (Operand.tmp 35)),
              SOper.mk (some 37) (some (36, false)) (SOp.mv (Operand.tmp 2)),
              SOper.mk (some 38) (some (36, false))
                (SOp.ibin BinOp.gtr (Operand.tmp 37) (Operand.const (Value.int IntKind.i64 12))),
              SOper.mk (some 39) none (SOp.pick (Operand.tmp 36) (Operand.const (Value.bool true)) (Operand.tmp 38))]
            [2, 3, 4, 39])
          (Stmt.cond (Operand.tmp 39)
            (Stmt.seq
              (Stmt.region
                [SOper.mk (some 6) none (SOp.mv (Operand.const (Value.slice none 0 0))),
                  SOper.mk (some 7) none (SOp.mv (Operand.const (Value.int IntKind.i64 0))),
                  SOper.mk (some 8) none (SOp.mv (Operand.const (Value.int IntKind.i64 1)))]
                [6, 7, 8])
              Stmt.ret)
            Stmt.skip))
        (Stmt.seq
          (Stmt.seq
            (Stmt.region
              [SOper.mk (some 40) none (SOp.fld 0 (Operand.tmp 3)),
                SOper.mk (some 41) none (SOp.load false 1 (Operand.tmp 40)),
                SOper.mk (some 42) none (SOp.mv (Operand.tmp 2)),
                SOper.mk (some 43) none (SOp.call (Operand.func 143) [Operand.tmp 41, Operand.tmp 42]),
                SOper.mk (some 44) none
                  (SOp.ibin BinOp.gtr (Operand.tmp 43) (Operand.const (Value.int IntKind.i64 500)))]
              [2, 3, 4, 44])
            (Stmt.cond (Operand.tmp 44)
              (Stmt.seq
                (Stmt.region
                  [SOper.mk (some 6) none (SOp.mv (Operand.const (Value.slice none 0 0))),
                    SOper.mk (some 7) none (SOp.mv (Operand.const (Value.int IntKind.i64 0))),
                    SOper.mk (some 8) none (SOp.mv (Operand.const (Value.int IntKind.i64 2)))]
                  [6, 7, 8])
                Stmt.ret)
              Stmt.skip))
          (Stmt.seq
            (Stmt.seq
              (Stmt.region
                [SOper.mk (some 45) none (SOp.mv (Operand.tmp 2)),
                  SOper.mk (some 46) none
                    (SOp.ibin BinOp.add (Operand.tmp 45) (Operand.const (Value.int IntKind.i64 1))),
                  SOper.mk (some 47) none (SOp.mv (Operand.const (Value.int IntKind.i64 0)))]
                [3, 4, 46, 47])
              (Stmt.block 0 (Stmt.loop S74_2 [47] [3, 4, 46])))
            (Stmt.seq
              (Stmt.region
                [SOper.mk (some 6) none (SOp.mv (Operand.const (Value.slice none 0 0))),
                  SOper.mk (some 7) none (SOp.mv (Operand.const (Value.int IntKind.i64 0))),
                  SOper.mk (some 8) none (SOp.mv (Operand.const (Value.int IntKind.i64 5)))]
                [6, 7, 8])
              Stmt.ret))))))
def S74 : FnS := ⟨84, [(6, none), (7, none), (8, none)], S74_0⟩
theorem tr74 : trFn Try.prog 74 [3, 4] [[2, 3, 4], [2, 3, 4, 9], [2, 3, 4, 9, 20], [6, 7, 8], [2, 3, 4, 10], [2, 3, 4, 10, 25], [6, 7, 8], [2, 3, 4, 39], [6, 7, 8], [2, 3, 4, 44], [6, 7, 8], [3, 4, 46, 47], [47], [3, 4, 46], [3, 4, 46, 47, 48], [3, 4, 11, 46, 47], [3, 4, 12, 46, 47], [], [3, 4, 12, 46, 47], [3, 4, 12, 13, 46, 47], [3, 4, 12, 13, 15, 46, 47], [3, 4, 12, 13, 15, 46, 47, 64], [6, 7, 8], [3, 4, 12, 46, 47, 71], [6, 7, 8], [3, 4, 12, 46, 47, 82], [3, 4, 46, 47], [6, 7, 8]] = some S74 := by kernel_rfl
end Go.Proofs.Ytniobbepliknmaa.V
/- The least word that only one of two grammars has: compare.Least; no condition. -/
namespace Go.Proofs.Ytniobbepliknmaa.V
open Go
set_option linter.unusedVariables false
set_option linter.unusedSimpArgs false
attribute [local go_sem] e_seq e_region e_quiet e_join e_loop e_cond e_block e_exit e_ret e_skip e_fin e_kseq e_snrm e_sret e_sex e_bnrm e_bret e_bex e_rnrm e_rret e_res e_condC e_nil e_g e_mv g_mv e_pick g_pick pickC_eq e_ibin g_ibin ibinC_eq e_sbin g_sbin e_beq g_beq beqC_eq e_nilq g_nilq nilqC_sl nilqC_pt nilqC_mp e_un g_un unC_not unC_neg e_conv g_conv convC_eq e_fld g_fld fldC_ref fldC_ptr e_nilCheck g_nilCheck nilCheckC_ref nilCheckC_ptr nilCheckC_fun e_field g_field fieldC_eq e_len g_len lenC_sl lenC_str e_extract g_extract extractC_eq e_mkFunc e_build g_build e_idiv g_idiv idivC_eq e_ishift g_ishift ishiftC_eq e_idx g_idx e_idxA g_idxA e_load g_load loadC_ref loadC_ptr loadB_eq e_slc g_slc e_box boxC_loc boxC_esc e_alloc allocC_loc allocC_esc e_buildS e_store storeC_ref storeC_ptr storeB_eq e_append e_appz e_mk mkC_eq e_call callC_eq e_fn g_fn fnC_eq fnV_min' fnV_max' fnV_rune' e_q g_q e_a e_n g_call g_box g_alloc g_buildS g_store g_append g_mk g_a g_n g_dead e_dead e_callK e_drawn e_tree e_finJ e_tk e_tfin e_tno e_nbt_q e_nbt_qn e_nbt_a e_nbt_an e_nbt_fin e_early_nil e_early_t e_early_f e_nob_nil e_nob_none e_nob_some isBox_dead isBox_v isBox_ref e_dnil e_dk e_ek e_finB vcOps_vc1 e_dcons e_tq e_ekt e_tearly e_talt e_dearly look_nil look_c proj_nil proj_c looks_nil looks_c zip_nil zip_c val_tmp val_const val_func slv_v slv_box slv_ref slot_tmp slot_const slot_func slotL_v slotL_box slotL_ref put_some put_none updBox_c boxSet_box gd_eq slotVals_nil slotVals_c slotVals_b boxV_box boxOn_box slotsOn_nil slotsOn_c slotsOn_b resV_one resV_two vals_nil vals_c allOn_nil allOn_c partOn_nil partOn_c partVals_nil partVals_c fits_nil fits_c fillL_nil fillL_c mkv_one mkv_agg cellsV_agg cellsV_int cellsV_bool cellsV_slice cellsV_string cellsV_pointer cellsV_func cellsV_nilf cellsV_map one'_nil one'_c oc_int oc_bool oc_slice oc_string oc_pointer oc_func oc_nilf oc_map setC_eq iv_add iv_sub iv_mul iv_eql iv_neq iv_lss iv_leq iv_gtr iv_geq iok_add iok_sub iok_mul iok_eql iok_neq iok_lss iok_leq iok_gtr iok_geq pickV_bool args0_nil args0_c bnd_none bnd_some imp_bt imp_bf imp_ebt imp_ebf imp_eb1 imp_np imp_pp beq_tt beq_tf beq_ft beq_ff cond_or cond_and e_round e_meet Int.le_refl Int.toNat_zero decide_true decide_false Bool.or_false Bool.false_or Bool.true_or Bool.or_true Bool.and_false Bool.false_and Bool.bne_false Bool.bne_true beq_iff_eq Int.cast_ofNat_Int not_false_eq_true not_true_eq_false false_and and_false false_implies true_implies true_and and_true Bool.true_and Bool.and_true Bool.not_true Bool.not_false forall_const implies_true List.take_zero List.drop_zero List.take_succ_cons List.drop_succ_cons List.take_nil List.drop_nil List.length_cons List.length_nil List.nil_append List.append_nil List.cons_append Int.toNat_natCast decide_eq_true_eq decide_eq_false_iff_not cond_true cond_false and_self List.getElem?_cons_zero List.getElem?_cons_succ List.set_cons_zero List.set_cons_succ Option.some.injEq exists_eq_left' Nat.zero_add Nat.add_zero Nat.mul_one imp_self true_or or_true or_false false_or Bool.or_eq_true Bool.or_eq_false_iff Bool.and_eq_true Bool.and_eq_false_iff Bool.not_eq_true' Bool.not_eq_false'

/-- a grammar has a word -/
def Has (g : Gr) (w : List Int) : Prop := DerN id g.rs g.st w
def OneOf (g h : Gr) (w : List Int) : Prop := (Has g w ∧ ¬ Has h w) ∨ (Has h w ∧ ¬ Has g w)
/-- the first word of a list that just one of two grammars has -/
def FirstIn (g h : Gr) (l : List (List Int)) (w : List Int) : Prop := ∃ a r, l = a ++ w :: r ∧ (∀ v ∈ a, ¬ OneOf g h v) ∧ OneOf g h w
open Classical in
/-- the first error of two grammars and a length -/
noncomputable def leF (g h : Gr) (n : Int) : Int := if ckF g ≠ 0 then ckF g else if ckF h ≠ 0 then ckF h else if g.ts ≠ h.ts ∨ n < 0 ∨ 12 < n then 1 else if 500 < (lvs g.ts.toNat (n.toNat + 1)).length then 2 else 0
def LeastS (g h : Gr) (n : Int) (v : Value) (Γ : Ctx) : Prop :=
  (leF g h n ≠ 0 ∧ Γ = [] ∧ v = .tuple #[.slice none 0 0, .int .i64 0, .int .i64 (leF g h n)]) ∨
  (leF g h n = 0 ∧ (∀ w ∈ lvs g.ts.toNat (n.toNat + 1), ¬ OneOf g h w) ∧ Γ = [] ∧ v = .tuple #[.slice none 0 0, .int .i64 0, .int .i64 5]) ∨
  (leF g h n = 0 ∧ ∃ gw A c w, ∃ s : Int, FirstIn g h (lvs g.ts.toNat (n.toNat + 1)) w ∧ Γ = [gw] ∧ SlOk (lk [gw]) A c w ∧ v = .tuple #[.slice A w.length c, .int .i64 s, .int .i64 0] ∧ ((s = 1 ∧ Has g w ∧ ¬ Has h w) ∨ (s = 2 ∧ Has h w ∧ ¬ Has g w)))
theorem words_mc {g : Gr} (V : VG g) (hk : ckF g = 0) {k j : Nat} (h : k ≤ 12) : mcF g (dg g.ts.toNat k j) = 0 := by
  rw [mcF, if_neg (by simpa using hk), wordF, if_neg (by rw [dg_len]; omega), if_pos]
  intro t ht
  have := V.ts
  have := dg_mem (by omega) ht
  omega
set_option maxHeartbeats 1000000 in
theorem cmp_least {Γr : Ctx} {g h : Gr} {A B : Option Addr} {c d : Nat} (hx : SlOk (lk Γr) A c g.rs) (hy : SlOk (lk Γr) B d h.rs) (n : Int) (hn0 : -9223372036854775808 ≤ n) (hn1 : n ≤ 9223372036854775807) :
    Ret Try.prog 74 [.agg #[.int .i64 g.ts, .int .i64 g.ns, .int .i64 g.st, .slice A g.rs.length c], .agg #[.int .i64 h.ts, .int .i64 h.ns, .int .i64 h.st, .slice B h.rs.length d], .int .i64 n] Γr [] (LeastS g h n) := by
  generalize hR : LeastS g h n = R
  refine ret_of_vc tr74 (Nat.le_of_ble_eq_true rfl) ?_
  simp -implicitDefEqProofs only [S74, S74_0, go_sem, Nat.reduceBEq, Nat.reduceAdd, Nat.reduceSub, Nat.reduceMul, Nat.reduceLeDiff, reduceCtorEq, ↓reduceIte, Int.reduceLT, Int.reduceLE, Int.reduceEq, Int.reduceNe]
  intro b0 b1
  refine CallVC.read (gram_check (g := g) (hx.mono (lk_r _ _))) ?_
  rintro v Γ' ⟨rfl, rfl⟩
  simp -implicitDefEqProofs only [go_sem, Nat.reduceBEq, Nat.reduceAdd, Nat.reduceSub, Nat.reduceMul, Nat.reduceLeDiff, reduceCtorEq, ↓reduceIte, Int.reduceLT, Int.reduceLE, Int.reduceEq, Int.reduceNe]
  refine ⟨fun h1 => Up.here ?_, fun h1 => ?_⟩
  · subst hR
    have e : leF g h n = ckF g := by rw [leF, if_pos h1]
    exact .inl ⟨by rw [e]; exact h1, rfl, by rw [e]⟩
  refine CallVC.read (gram_check (g := h) (hy.mono (lk_r _ _))) ?_
  rintro v Γ' ⟨rfl, rfl⟩
  simp -implicitDefEqProofs only [go_sem, Nat.reduceBEq, Nat.reduceAdd, Nat.reduceSub, Nat.reduceMul, Nat.reduceLeDiff, reduceCtorEq, ↓reduceIte, Int.reduceLT, Int.reduceLE, Int.reduceEq, Int.reduceNe]
  refine ⟨fun h2 => Up.here ?_, fun h2 => ?_⟩
  · subst hR
    have e : leF g h n = ckF h := by rw [leF, if_neg (by simpa using h1), if_pos h2]
    exact .inl ⟨by rw [e]; exact h2, rfl, by rw [e]⟩
  have V := ckF_ok h1
  have V' := ckF_ok h2
  have hts := V.ts
  refine ⟨fun h3 => Up.here ?_, fun h3 => ?_⟩
  · subst hR
    have e : leF g h n = 1 := by rw [leF, if_neg (by simpa using h1), if_neg (by simpa using h2), if_pos (by rcases h3 with (h3 | h3) | h3 <;> simp [h3])]
    exact .inl ⟨by rw [e]; decide, rfl, by rw [e]⟩
  have hN : ((n.toNat : Nat) : Int) = n := by omega
  have hT : ((g.ts.toNat : Nat) : Int) = g.ts := by omega
  have ht0 : 0 < g.ts.toNat := by omega
  have e3 : leF g h n = if 500 < (lvs g.ts.toNat (n.toNat + 1)).length then 2 else 0 := by
    rw [leF, if_neg (by simpa using h1), if_neg (by simpa using h2), if_neg]
    rintro (q | q | q)
    · exact q h3.1.1
    · exact h3.1.2 q
    · exact h3.2 q
  have hW : ∀ Γ, Ret Try.prog _ _ Γ [] _ := fun Γ => cmp_words (Γr := Γ) g.ts.toNat n.toNat (by omega) (by omega)
  rw [hN, hT] at hW
  refine CallVC.read (hW _) ?_
  rintro v Γ' ⟨rfl, rfl⟩
  simp -implicitDefEqProofs only [go_sem, Nat.reduceBEq, Nat.reduceAdd, Nat.reduceSub, Nat.reduceMul, Nat.reduceLeDiff, reduceCtorEq, ↓reduceIte, Int.reduceLT, Int.reduceLE, Int.reduceEq, Int.reduceNe]
  refine ⟨fun h4 => Up.here ?_, fun h4 => ?_⟩
  · subst hR
    rw [if_pos (by omega)] at e3
    exact .inl ⟨by rw [e3]; decide, rfl, by rw [e3]⟩
  rw [if_neg (by omega)] at e3
  have hlen : (lvs g.ts.toNat (n.toNat + 1)).length ≤ 500 := by omega
  simp (disch := omega) only [wrap_id]
  refine s_loop (fun f vs Γ => Γ = [] ∧ ∃ k : Nat, vs = [.v true (.int .i64 k)] ∧ k + f = n.toNat + 1 ∧ ∀ w ∈ lvs g.ts.toNat k, ¬ OneOf g h w) (n.toNat + 1) (Up.here ⟨rfl, 0, rfl, by omega, by simp [lvs_zero]⟩) ?_
  rintro f vs Γ ⟨rfl, k, rfl, hkf, hall⟩
  simp -implicitDefEqProofs only [S74_2, go_sem, Nat.reduceBEq, Nat.reduceAdd, Nat.reduceSub, Nat.reduceMul, Nat.reduceLeDiff, reduceCtorEq, ↓reduceIte, Int.reduceLT, Int.reduceLE, Int.reduceEq, Int.reduceNe]
  refine ⟨fun hlt => ?_, fun hge => Up.here ?_⟩
  · have hk : k < n.toNat + 1 := by omega
    refine ⟨by omega, by omega, fun bw => ?_⟩
    refine s_loop (fun f vs Γ => vs = [] ∧ ∃ (gw : PH) (P : Nat), Γ = [gw] ∧ P + f = g.ts.toNat ^ k ∧ 0 < f ∧ Arr gw bw 3 (dg g.ts.toNat k P) ∧ ∀ w ∈ lvs g.ts.toNat k ++ (List.range P).map (dg g.ts.toNat k), ¬ OneOf g h w) (g.ts.toNat ^ k)
      (Up.here ⟨rfl, _, 0, rfl, by omega, Nat.pow_pos ht0, by
        rw [dg_zero ht0]
        exact Arr.made (0 : Int) bw 3 k, by simpa using hall⟩) ?_
    rintro f2 vs Γ ⟨rfl, gw, P, rfl, hPf, hf2, hA, hall2⟩
    have hP : P < g.ts.toNat ^ k := by omega
    have hdl := dg_len g.ts.toNat k P
    have hsl : ∀ {L : Mem}, Mem.le (lk [gw]) L → SlOk L (some ⟨bw, 0, none⟩) k (dg g.ts.toNat k P) := fun {L} hL => hA.slok hL (by omega) (by unfold maxLen; omega) (by omega)
    have hmg := words_mc V h1 (k := k) (j := P) (by omega)
    have hmh := words_mc V' h2 (k := k) (j := P) (by omega)
    rw [← h3.1.1] at hmh
    obtain ⟨r, hr⟩ := all_split (t := g.ts.toNat) (k := k) (j := P) (n := n.toNat + 1) hk hP
    simp -implicitDefEqProofs only [S74_1, go_sem, Nat.reduceBEq, Nat.reduceAdd, Nat.reduceSub, Nat.reduceMul, Nat.reduceLeDiff, reduceCtorEq, ↓reduceIte, Int.reduceLT, Int.reduceLE, Int.reduceEq, Int.reduceNe]
    have hag : Ret Try.prog _ _ ([gw] ++ Γr) [] _ := mean_accepts (g := g) (A := A) (c := c) (w := dg g.ts.toNat k P) (hx.mono (lk_r _ _)) (hsl (lk_sub (by simp)))
    have hah : Ret Try.prog _ _ ([gw] ++ Γr) [] _ := mean_accepts (g := h) (A := B) (c := d) (w := dg g.ts.toNat k P) (hy.mono (lk_r _ _)) (hsl (lk_sub (by simp)))
    rw [hdl, hmg] at hag
    rw [hdl, hmh] at hah
    refine CallVC.read hag ?_
    rintro v Γ' ⟨rfl, qa, rfl, hqa⟩
    simp -implicitDefEqProofs only [go_sem, Nat.reduceBEq, Nat.reduceAdd, Nat.reduceSub, Nat.reduceMul, Nat.reduceLeDiff, reduceCtorEq, ↓reduceIte, Int.reduceLT, Int.reduceLE, Int.reduceEq, Int.reduceNe]
    refine CallVC.read hah ?_
    rintro v Γ' ⟨rfl, qb, rfl, hqb⟩
    have hqa : qa = true ↔ Has g (dg g.ts.toNat k P) := by rw [hqa]; simp [Has]
    have hqb : qb = true ↔ Has h (dg g.ts.toNat k P) := by rw [hqb]; simp [Has]
    have found : OneOf g h (dg g.ts.toNat k P) → ∀ s : Int, ((s = 1 ∧ Has g (dg g.ts.toNat k P) ∧ ¬ Has h (dg g.ts.toNat k P)) ∨ (s = 2 ∧ Has h (dg g.ts.toNat k P) ∧ ¬ Has g (dg g.ts.toNat k P))) → R (.tuple #[.slice (some ⟨bw, 0, none⟩) k k, .int .i64 s, .int .i64 0]) [gw] := by
      intro h5 s h6
      subst hR
      exact .inr (.inr ⟨e3, gw, some ⟨bw, 0, none⟩, k, dg g.ts.toNat k P, s, ⟨_, r, hr, hall2, h5⟩, rfl, hsl (Mem.le.refl _), by rw [hdl], h6⟩)
    have hdiff : qa = qb → ¬ OneOf g h (dg g.ts.toNat k P) := by
      rintro rfl (⟨h5, h6⟩ | ⟨h5, h6⟩)
      · exact h6 (hqb.1 (hqa.2 h5))
      · exact h6 (hqa.1 (hqb.2 h5))
    have hnx : Ret Try.prog _ _ Γr [gw] _ := cmp_next (Γr := Γr) (g := gw) (b := bw) g.ts.toNat k P (by omega) (by omega) hP hA
    rw [hT] at hnx
    cases qa <;> cases qb
    case true.false =>
      simp -implicitDefEqProofs only [go_sem, Nat.reduceBEq, Nat.reduceAdd, Nat.reduceSub, Nat.reduceMul, Nat.reduceLeDiff, reduceCtorEq, ↓reduceIte, Int.reduceLT, Int.reduceLE, Int.reduceEq, Int.reduceNe]
      have h6 : Has g (dg g.ts.toNat k P) ∧ ¬ Has h (dg g.ts.toNat k P) := ⟨hqa.1 rfl, fun q => by have := hqb.2 q; cases this⟩
      exact Up.here (found (.inl h6) 1 (.inl ⟨rfl, h6⟩))
    case false.true =>
      simp -implicitDefEqProofs only [go_sem, Nat.reduceBEq, Nat.reduceAdd, Nat.reduceSub, Nat.reduceMul, Nat.reduceLeDiff, reduceCtorEq, ↓reduceIte, Int.reduceLT, Int.reduceLE, Int.reduceEq, Int.reduceNe]
      have h6 : Has h (dg g.ts.toNat k P) ∧ ¬ Has g (dg g.ts.toNat k P) := ⟨hqb.1 rfl, fun q => by have := hqa.2 q; cases this⟩
      exact Up.here (found (.inr h6) 2 (.inr ⟨rfl, h6⟩))
    all_goals
      have hno := hdiff rfl
      simp -implicitDefEqProofs only [go_sem, Nat.reduceBEq, Nat.reduceAdd, Nat.reduceSub, Nat.reduceMul, Nat.reduceLeDiff, reduceCtorEq, ↓reduceIte, Int.reduceLT, Int.reduceLE, Int.reduceEq, Int.reduceNe]
      refine CallVC.head hnx (by simp) ?_
      rintro v Γ' ⟨g', rfl, hn⟩
      have hall3 : ∀ w ∈ lvs g.ts.toNat k ++ (List.range (P + 1)).map (dg g.ts.toNat k), ¬ OneOf g h w := by
        intro w hw
        rw [range_map_succ, ← List.append_assoc] at hw
        rcases List.mem_append.1 hw with hw | hw
        · exact hall2 w hw
        · simp at hw
          subst hw
          exact hno
      rcases hn with ⟨h5, rfl, hA'⟩ | ⟨h5, rfl, _⟩
      · simp -implicitDefEqProofs only [go_sem, Nat.reduceBEq, Nat.reduceAdd, Nat.reduceSub, Nat.reduceMul, Nat.reduceLeDiff, reduceCtorEq, ↓reduceIte, Int.reduceLT, Int.reduceLE, Int.reduceEq, Int.reduceNe]
        exact ⟨f2 - 1, by omega, Up.here ⟨_, P + 1, rfl, by omega, by omega, hA', hall3⟩⟩
      · simp -implicitDefEqProofs only [go_sem, Nat.reduceBEq, Nat.reduceAdd, Nat.reduceSub, Nat.reduceMul, Nat.reduceLeDiff, reduceCtorEq, ↓reduceIte, Int.reduceLT, Int.reduceLE, Int.reduceEq, Int.reduceNe]
        simp (disch := omega) only [wrap_id]
        refine ⟨f - 1, by omega, Up.to [] (Ent.nil _) ⟨rfl, k + 1, rfl, by omega, ?_⟩⟩
        rw [h5] at hall3
        rw [lvs_succ]
        exact hall3
  · subst hR
    have hk : k = n.toNat + 1 := by omega
    subst hk
    exact .inr (.inl ⟨e3, hall, rfl, rfl⟩)
end Go.Proofs.Ytniobbepliknmaa.V
/- The text of parlance/parlref5.key as a statement (slots: 0 w, 1 w, 3 b, 4 i, 5 x); no condition. -/
namespace Go.Proofs.Ytniobbepliknmaa.V
open Go
def S146_1 : Stmt :=
  Stmt.seq
  (Stmt.region [SOper.mk (some 12) none (SOp.ibin BinOp.lss (Operand.tmp 11) (Operand.tmp 10))] [3, 9, 10, 11, 12])
  (Stmt.seq (Stmt.cond (Operand.tmp 12) Stmt.skip (Stmt.exit 0))
    (Stmt.seq
      (Stmt.block 1
        (Stmt.seq
          (Stmt.region
            [SOper.mk (some 13) none (SOp.mv (Operand.tmp 11)),
              SOper.mk (some 14) none (SOp.idx 1 (Operand.tmp 9) (Operand.tmp 11)),
              SOper.mk (some 15) none (SOp.load false 1 (Operand.tmp 14)),
              SOper.mk (some 4) none (SOp.mv (Operand.tmp 13)), SOper.mk (some 5) none (SOp.mv (Operand.tmp 15))]
            [3, 4, 5, 9, 10, 11])
          (Stmt.region
            [SOper.mk (some 16) none (SOp.mv (Operand.tmp 3)), SOper.mk (some 17) none (SOp.mv (Operand.tmp 4)),
              SOper.mk (some 18) none (SOp.mv (Operand.tmp 5)),
              SOper.mk (some 19) none (SOp.conv IntKind.u8 (Operand.tmp 18)),
              SOper.mk (some 20) none (SOp.idx 1 (Operand.tmp 16) (Operand.tmp 17)),
              SOper.mk none none (SOp.store 1 (Operand.tmp 20) (Operand.tmp 19))]
            [3, 9, 10, 11])))
      (Stmt.region
        [SOper.mk (some 21) none (SOp.ibin BinOp.add (Operand.tmp 11) (Operand.const (Value.int IntKind.i64 1))),
          SOper.mk (some 11) none (SOp.mv (Operand.tmp 21))]
        [3, 9, 10, 11])))
def S146_0 : Stmt :=
  Stmt.seq (Stmt.region [SOper.mk (some 2) none (SOp.mv (Operand.const (Value.string (ByteArray.mk (Array.mk [])))))] [0])
  (Stmt.seq
    (Stmt.region
      [SOper.mk (some 6) none (SOp.mv (Operand.tmp 0)), SOper.mk (some 7) none (SOp.len false (Operand.tmp 6)),
        SOper.mk (some 8) none (SOp.mk 5 1 1 (Value.int IntKind.u8 0) (Operand.tmp 7) (Operand.tmp 7)),
        SOper.mk (some 3) none (SOp.mv (Operand.tmp 8))]
      [0, 3])
    (Stmt.seq
      (Stmt.seq
        (Stmt.region
          [SOper.mk (some 9) none (SOp.mv (Operand.tmp 0)), SOper.mk (some 10) none (SOp.len false (Operand.tmp 9)),
            SOper.mk (some 11) none (SOp.mv (Operand.const (Value.int IntKind.i64 0)))]
          [3, 9, 10, 11])
        (Stmt.block 0 (Stmt.loop S146_1 [11] [3, 9, 10])))
      (Stmt.seq
        (Stmt.region
          [SOper.mk (some 22) none (SOp.mv (Operand.tmp 3)),
            SOper.mk (some 23) none (SOp.q (Qk.cnv 233 9) [Operand.tmp 22]),
            SOper.mk (some 2) none (SOp.mv (Operand.tmp 23))]
          [2])
        Stmt.ret)))
def S146 : FnS := ⟨24, [(2, none)], S146_0⟩
theorem tr146 : trFn Try.prog 146 [] [[0], [0, 3], [3, 9, 10, 11], [11], [3, 9, 10], [3, 9, 10, 11, 12], [3, 4, 5, 9, 10, 11], [3, 9, 10, 11], [3, 9, 10, 11], [2]] = some S146 := by kernel_rfl
end Go.Proofs.Ytniobbepliknmaa.V
/- The text of parlance/parlref5.Has as a statement (slots: 0 m, 1 w, 2 m, 3 w); no condition. -/
namespace Go.Proofs.Ytniobbepliknmaa.V
open Go
def S77_0 : Stmt :=
  Stmt.seq (Stmt.region [SOper.mk (some 4) none (SOp.mv (Operand.const (Value.bool false)))] [0, 1])
  (Stmt.seq
    (Stmt.region
      [SOper.mk (some 5) none (SOp.mv (Operand.tmp 0)), SOper.mk (some 6) none (SOp.mv (Operand.tmp 1)),
        SOper.mk (some 7) none (SOp.call (Operand.func 146) [Operand.tmp 6]),
        SOper.mk (some 8) none (SOp.q (Qk.look 118 false) [Operand.tmp 5, Operand.tmp 7]),
        SOper.mk (some 4) none (SOp.mv (Operand.tmp 8))]
      [4])
    Stmt.ret)
def S77 : FnS := ⟨9, [(4, none)], S77_0⟩
theorem tr77 : trFn Try.prog 77 [] [[0, 1], [4]] = some S77 := by kernel_rfl
end Go.Proofs.Ytniobbepliknmaa.V
/- The text of parlance/parlref5.Words as a statement (slots: 0 g, 1 n, 2 g, 3 n, 6 l, 7 ok); no condition. -/
namespace Go.Proofs.Ytniobbepliknmaa.V
open Go
def S75_0 : Stmt :=
  Stmt.seq
  (Stmt.region
    [SOper.mk (some 2) none (SOp.box true 57 (Operand.tmp 0)),
      SOper.mk (some 4) none (SOp.mv (Operand.const (Value.map none))),
      SOper.mk (some 5) none (SOp.mv (Operand.const (Value.bool false)))]
    [1, 2])
  (Stmt.seq
    (Stmt.region
      [SOper.mk (some 9) none (SOp.fld 1 (Operand.tmp 2)), SOper.mk (some 10) none (SOp.load false 1 (Operand.tmp 9)),
        SOper.mk (some 11) none (SOp.fld 3 (Operand.tmp 2)),
        SOper.mk (some 12) none (SOp.load false 1 (Operand.tmp 11)),
        SOper.mk (some 13) none
          (SOp.build 177 [Value.int IntKind.i64 0, Value.slice none 0 0]
            [(0, 1, Operand.tmp 10), (1, 1, Operand.tmp 12)]),
        SOper.mk (some 14) none (SOp.mv (Operand.tmp 1)),
        SOper.mk (some 15) none
          (SOp.call (Operand.func 134) [Operand.tmp 13, Operand.tmp 14, Operand.const (Value.int IntKind.i64 3000)]),
        SOper.mk (some 8) none (SOp.mv (Operand.tmp 15)), SOper.mk (some 16) none (SOp.extract 0 (Operand.tmp 8)),
        SOper.mk (some 17) none (SOp.extract 1 (Operand.tmp 8)), SOper.mk (some 6) none (SOp.mv (Operand.tmp 16)),
        SOper.mk (some 7) none (SOp.mv (Operand.tmp 17))]
      [2, 6, 7])
    (Stmt.seq
      (Stmt.seq
        (Stmt.region
          [SOper.mk (some 18) none (SOp.mv (Operand.tmp 7)), SOper.mk (some 19) none (SOp.un UnOp.not (Operand.tmp 18))]
          [2, 6, 19])
        (Stmt.cond (Operand.tmp 19)
          (Stmt.seq
            (Stmt.region
              [SOper.mk (some 4) none (SOp.mv (Operand.const (Value.map none))),
                SOper.mk (some 5) none (SOp.mv (Operand.const (Value.bool false)))]
              [4, 5])
            Stmt.ret)
          Stmt.skip))
      (Stmt.seq
        (Stmt.region
          [SOper.mk (some 20) none (SOp.mv (Operand.tmp 6)), SOper.mk (some 21) none (SOp.fld 2 (Operand.tmp 2)),
            SOper.mk (some 22) none (SOp.load false 1 (Operand.tmp 21)),
            SOper.mk (some 23) none (SOp.idx 1 (Operand.tmp 20) (Operand.tmp 22)),
            SOper.mk (some 24) none (SOp.load false 1 (Operand.tmp 23)),
            SOper.mk (some 4) none (SOp.mv (Operand.tmp 24)),
            SOper.mk (some 5) none (SOp.mv (Operand.const (Value.bool true)))]
          [4, 5])
        Stmt.ret)))
def S75 : FnS := ⟨25, [(4, none), (5, none)], S75_0⟩
theorem tr75 : trFn Try.prog 75 [2] [[1, 2], [2, 6, 7], [2, 6, 19], [4, 5], [4, 5]] = some S75 := by kernel_rfl
end Go.Proofs.Ytniobbepliknmaa.V
