/- Texts put together, in the order in which they build; each says what it proves; no condition. -/
import Derived.Test.YtniobbepliknmaaM4
import Derived.Maps.RangeRun
import Derived.Laws.BytesArg
import Derived.Test.YtniobbepliknmaaM2
import Derived.Test.YtniobbepliknmaaProg
namespace Go.Proofs.Ytniobbepliknmaa.V
open Go
set_option linter.unusedVariables false
set_option linter.unusedSimpArgs false
/- Grids that are filled: census.rows; parlref5.grid of numbers; no condition. -/
attribute [local go_sem] e_seq e_region e_quiet e_join e_loop e_cond e_block e_exit e_ret e_skip e_fin e_kseq e_snrm e_sret e_sex e_bnrm e_bret e_bex e_rnrm e_rret e_res e_condC e_nil e_g e_mv g_mv e_pick g_pick pickC_eq e_ibin g_ibin ibinC_eq e_sbin g_sbin e_beq g_beq beqC_eq e_nilq g_nilq nilqC_sl nilqC_pt nilqC_mp e_un g_un unC_not unC_neg e_conv g_conv convC_eq e_fld g_fld fldC_ref fldC_ptr e_nilCheck g_nilCheck nilCheckC_ref nilCheckC_ptr nilCheckC_fun e_field g_field fieldC_eq e_len g_len lenC_sl lenC_str e_extract g_extract extractC_eq e_mkFunc e_build g_build e_idiv g_idiv idivC_eq e_ishift g_ishift ishiftC_eq e_idx g_idx e_idxA g_idxA e_load g_load e_loadB g_loadB atB_ref atB_v g_mkFunc loadC_ref loadC_ptr loadB_eq e_slc g_slc e_box boxC_loc boxC_esc e_alloc allocC_loc allocC_esc e_buildS e_store storeC_ref storeC_ptr storeB_eq e_append e_appz e_mk mkC_eq e_call callC_eq e_fn g_fn fnC_eq fnV_min' fnV_max' fnV_rune' e_q g_q e_a e_n g_call g_box g_alloc g_buildS g_store g_append g_mk g_a g_n g_dead e_dead e_callK e_drawn e_tree e_finJ e_tk e_tfin e_tno e_nbt_q e_nbt_qn e_nbt_a e_nbt_an e_nbt_fin e_drawnB e_bxb_nil e_bxb e_stB_none e_stB_some boxSt_store bs_mv bs_pick bs_ibin bs_idiv bs_ishift bs_sbin bs_beq bs_nilq bs_un bs_conv bs_box bs_alloc bs_build bs_buildS bs_load bs_fld bs_nilCheck bs_idx bs_idxA bs_field bs_slc bs_len bs_append bs_appz bs_mk bs_call bs_extract bs_mkFunc bs_fn bs_q bs_a bs_n bs_loadB bs_dead isBox_box e_early_nil e_early_t e_early_f e_nob_nil e_nob_none e_nob_some isBox_dead isBox_v isBox_ref e_dnil e_dk e_ek e_finB vcOps_vc1 e_dcons e_tq e_ekt e_tearly e_talt e_dearly look_nil look_c proj_nil proj_c looks_nil looks_c zip_nil zip_c val_tmp val_const val_func slv_v slv_box slv_ref slot_tmp slot_const slot_func slotL_v slotL_box slotL_ref put_some put_none updBox_c boxSet_box gd_eq slotVals_nil slotVals_c slotVals_b boxV_box boxOn_box slotsOn_nil slotsOn_c slotsOn_b resV_one resV_two vals_nil vals_c allOn_nil allOn_c partOn_nil partOn_c partVals_nil partVals_c fits_nil fits_c fillL_nil fillL_c mkv_one mkv_agg cellsV_agg cellsV_int cellsV_bool cellsV_slice cellsV_string cellsV_pointer cellsV_func cellsV_nilf cellsV_map one'_nil one'_c oc_int oc_bool oc_slice oc_string oc_pointer oc_func oc_nilf oc_map setC_eq iv_add iv_sub iv_mul iv_eql iv_neq iv_lss iv_leq iv_gtr iv_geq iok_add iok_sub iok_mul iok_eql iok_neq iok_lss iok_leq iok_gtr iok_geq pickV_bool args0_nil args0_c bnd_none bnd_some imp_bt imp_bf imp_ebt imp_ebf imp_eb1 imp_np imp_pp beq_tt beq_tf beq_ft beq_ff cond_or cond_and e_round e_meet Int.le_refl Int.toNat_zero decide_true decide_false Bool.or_false Bool.false_or Bool.true_or Bool.or_true Bool.and_false Bool.false_and Bool.bne_false Bool.bne_true beq_iff_eq Int.cast_ofNat_Int not_false_eq_true not_true_eq_false false_and and_false false_implies true_implies true_and and_true Bool.true_and Bool.and_true Bool.not_true Bool.not_false forall_const implies_true List.take_zero List.drop_zero List.take_succ_cons List.drop_succ_cons List.take_nil List.drop_nil List.length_cons List.length_nil List.nil_append List.append_nil List.cons_append Int.toNat_natCast decide_eq_true_eq decide_eq_false_iff_not cond_true cond_false and_self List.getElem?_cons_zero List.getElem?_cons_succ List.set_cons_zero List.set_cons_succ Option.some.injEq exists_eq_left' Nat.zero_add Nat.add_zero Nat.mul_one imp_self true_or or_true or_false false_or Bool.or_eq_true Bool.or_eq_false_iff Bool.and_eq_true Bool.and_eq_false_iff Bool.not_eq_true' Bool.not_eq_false'

/-- n values, of which j are x and the others z -/
def prow {α : Type} (x z : α) (n j : Nat) : List α := List.replicate j x ++ List.replicate (n - j) z
theorem prow_len {α : Type} (x z : α) {n j : Nat} (h : j ≤ n) : (prow x z n j).length = n := by simp [prow]; omega
theorem prow_set {α : Type} (x z : α) {n j : Nat} (h : j < n) : (prow x z n j).set j x = prow x z n (j + 1) := by
  unfold prow
  obtain ⟨d, hd⟩ : ∃ d, n - j = d + 1 := ⟨n - j - 1, by omega⟩
  rw [hd, show n - (j + 1) = d by omega, List.replicate_succ, List.set_append_right _ _ (by simp), List.replicate_succ']
  simp
theorem prow_zero {α : Type} (x z : α) (n : Nat) : prow x z n 0 = List.replicate n z := by simp [prow]
theorem prow_all {α : Type} (x z : α) (n : Nat) : prow x z n n = List.replicate n x := by simp [prow]
theorem rows_bool {Γr : Ctx} (a n : Nat) (x : Bool) (ha : a ≤ 1000) (hn : n ≤ 100000) :
    Ret Try.prog 184 [.int .i64 a, .int .i64 n, .bool x] Γr [] (fun v Γ => ∃ g b, Γ = [g] ∧ v = .slice (some ⟨b, 0, none⟩) a a ∧ Grid g b 22 4 (List.replicate a (List.replicate n x))) := by
  generalize hR : (fun (v : Value) (Γ : Ctx) => ∃ g b, _) = R
  refine ret_of_vc tr184 (Nat.le_of_ble_eq_true rfl) ?_
  simp -implicitDefEqProofs only [S184, S184_0, go_sem, Nat.reduceBEq, Nat.reduceAdd, Nat.reduceSub, Nat.reduceMul, Nat.reduceLeDiff, reduceCtorEq, ↓reduceIte, Int.reduceLT, Int.reduceLE, Int.reduceEq, Int.reduceNe]
  refine ⟨by omega, by omega, fun b => ?_⟩
  refine s_loop (fun f vs Γ => ∃ g, Γ = [g] ∧ ∃ k : Nat, vs = [.v true (.int .i64 k)] ∧ k + f = a ∧ Grid g b 22 4 (part x a n k)) a
    (Up.here ⟨_, rfl, 0, rfl, by omega, by have := Grid.made (α := Bool) b 22 4 (m := a) (by omega); simpa [part] using this⟩) ?_
  rintro f vs Γ ⟨g, rfl, k, rfl, hkf, hG⟩
  simp -implicitDefEqProofs only [S184_2, go_sem, Nat.reduceBEq, Nat.reduceAdd, Nat.reduceSub, Nat.reduceMul, Nat.reduceLeDiff, reduceCtorEq, ↓reduceIte, Int.reduceLT, Int.reduceLE, Int.reduceEq, Int.reduceNe]
  refine ⟨fun hlt => ?_, fun hge => ?_⟩
  · have hk : k < a := by omega
    have hpl := part_len x (m := a) (n := n) (k := k) (by omega)
    refine ⟨by omega, by omega, fun b2 => ?_⟩
    refine s_idx rfl (by omega) (by omega) ?_
    simp -implicitDefEqProofs only [go_sem, Nat.reduceBEq, Nat.reduceAdd, Nat.reduceSub, Nat.reduceMul, Nat.reduceLeDiff, reduceCtorEq, ↓reduceIte, Int.reduceLT, Int.reduceLE, Int.reduceEq, Int.reduceNe]
    refine s_storeGc (ix := 1) (k := b2) (List.replicate n x) (by simp) rfl hG (by omega) (by simp; omega) ?_
    intro g' hcell hput
    simp -implicitDefEqProofs only [go_sem, Nat.reduceBEq, Nat.reduceAdd, Nat.reduceSub, Nat.reduceMul, Nat.reduceLeDiff, reduceCtorEq, ↓reduceIte, Int.reduceLT, Int.reduceLE, Int.reduceEq, Int.reduceNe]
    refine s_idx rfl (by omega) (by omega) ?_
    simp -implicitDefEqProofs only [go_sem, Nat.reduceBEq, Nat.reduceAdd, Nat.reduceSub, Nat.reduceMul, Nat.reduceLeDiff, reduceCtorEq, ↓reduceIte, Int.reduceLT, Int.reduceLE, Int.reduceEq, Int.reduceNe]
    refine s_ld0 (hcell _ (by simp)) (by simp) (by simp) ?_
    simp -implicitDefEqProofs only [go_sem, Nat.reduceBEq, Nat.reduceAdd, Nat.reduceSub, Nat.reduceMul, Nat.reduceLeDiff, reduceCtorEq, ↓reduceIte, Int.reduceLT, Int.reduceLE, Int.reduceEq, Int.reduceNe]
    refine s_loop (fun f2 vs Γ => ∃ (x2 : PH) (j : Nat), Γ = [x2, g'] ∧ vs = [.v true (.int .i64 j)] ∧ j + f2 = n ∧ Arr x2 b2 4 (prow x false n j)) n
      (Up.here ⟨_, 0, rfl, rfl, by omega, by rw [prow_zero]; exact Arr.made false b2 4 n⟩) ?_
    rintro f2 vs Γ ⟨x2, j, rfl, rfl, hjf, hA⟩
    simp -implicitDefEqProofs only [S184_1, go_sem, Nat.reduceBEq, Nat.reduceAdd, Nat.reduceSub, Nat.reduceMul, Nat.reduceLeDiff, reduceCtorEq, ↓reduceIte, Int.reduceLT, Int.reduceLE, Int.reduceEq, Int.reduceNe]
    refine ⟨fun hlt => ?_, fun hge => ?_⟩
    · have hj : j < n := by omega
      have hrl := prow_len x false (n := n) (j := j) (by omega)
      refine s_idx rfl (by omega) (by omega) ?_
      simp -implicitDefEqProofs only [go_sem, Nat.reduceBEq, Nat.reduceAdd, Nat.reduceSub, Nat.reduceMul, Nat.reduceLeDiff, reduceCtorEq, ↓reduceIte, Int.reduceLT, Int.reduceLE, Int.reduceEq, Int.reduceNe]
      refine s_ld0 (hcell _ (by simp)) (by simp) (by simp) ?_
      simp -implicitDefEqProofs only [go_sem, Nat.reduceBEq, Nat.reduceAdd, Nat.reduceSub, Nat.reduceMul, Nat.reduceLeDiff, reduceCtorEq, ↓reduceIte, Int.reduceLT, Int.reduceLE, Int.reduceEq, Int.reduceNe]
      refine s_idx rfl (by omega) (by omega) ?_
      simp -implicitDefEqProofs only [go_sem, Nat.reduceBEq, Nat.reduceAdd, Nat.reduceSub, Nat.reduceMul, Nat.reduceLeDiff, reduceCtorEq, ↓reduceIte, Int.reduceLT, Int.reduceLE, Int.reduceEq, Int.reduceNe]
      refine s_storeA (ix := 0) (α := Bool) x rfl hA (i := j) (by omega) ?_
      intro x3 hA3 _
      rw [prow_set x false hj] at hA3
      simp -implicitDefEqProofs only [go_sem, Nat.reduceBEq, Nat.reduceAdd, Nat.reduceSub, Nat.reduceMul, Nat.reduceLeDiff, reduceCtorEq, ↓reduceIte, Int.reduceLT, Int.reduceLE, Int.reduceEq, Int.reduceNe]
      simp (disch := omega) only [wrap_id]
      exact ⟨f2 - 1, by omega, Up.here ⟨x3, j + 1, rfl, rfl, by omega, hA3⟩⟩
    · have hj : j = n := by omega
      subst hj
      rw [prow_all] at hA
      simp (disch := omega) only [wrap_id]
      refine ⟨f - 1, by omega, Up.apart fun hd => Up.one fun G hG' => ⟨_, rfl, k + 1, rfl, by omega, ?_⟩⟩
      rw [← part_set _ hk]
      exact hput _ _ hA ((List.pairwise_cons.1 hd).1 g' (by simp)) hG'
  · have hk : k = a := by omega
    subst hk
    refine Up.here ?_
    subst hR
    exact ⟨_, b, rfl, rfl, by simpa [part] using hG⟩
theorem rows_int {Γr : Ctx} (a n : Nat) (x : Int) (ha : a ≤ 1000) (hn : n ≤ 100000) :
    Ret Try.prog 185 [.int .i64 a, .int .i64 n, .int .i64 x] Γr [] (fun v Γ => ∃ g b, Γ = [g] ∧ v = .slice (some ⟨b, 0, none⟩) a a ∧ Grid g b 29 3 (List.replicate a (List.replicate n x))) := by
  generalize hR : (fun (v : Value) (Γ : Ctx) => ∃ g b, _) = R
  refine ret_of_vc tr185 (Nat.le_of_ble_eq_true rfl) ?_
  simp -implicitDefEqProofs only [S185, S185_0, go_sem, Nat.reduceBEq, Nat.reduceAdd, Nat.reduceSub, Nat.reduceMul, Nat.reduceLeDiff, reduceCtorEq, ↓reduceIte, Int.reduceLT, Int.reduceLE, Int.reduceEq, Int.reduceNe]
  refine ⟨by omega, by omega, fun b => ?_⟩
  refine s_loop (fun f vs Γ => ∃ g, Γ = [g] ∧ ∃ k : Nat, vs = [.v true (.int .i64 k)] ∧ k + f = a ∧ Grid g b 29 3 (part x a n k)) a
    (Up.here ⟨_, rfl, 0, rfl, by omega, by have := Grid.made (α := Int) b 29 3 (m := a) (by omega); simpa [part] using this⟩) ?_
  rintro f vs Γ ⟨g, rfl, k, rfl, hkf, hG⟩
  simp -implicitDefEqProofs only [S185_2, go_sem, Nat.reduceBEq, Nat.reduceAdd, Nat.reduceSub, Nat.reduceMul, Nat.reduceLeDiff, reduceCtorEq, ↓reduceIte, Int.reduceLT, Int.reduceLE, Int.reduceEq, Int.reduceNe]
  refine ⟨fun hlt => ?_, fun hge => ?_⟩
  · have hk : k < a := by omega
    have hpl := part_len x (m := a) (n := n) (k := k) (by omega)
    refine ⟨by omega, by omega, fun b2 => ?_⟩
    refine s_idx rfl (by omega) (by omega) ?_
    simp -implicitDefEqProofs only [go_sem, Nat.reduceBEq, Nat.reduceAdd, Nat.reduceSub, Nat.reduceMul, Nat.reduceLeDiff, reduceCtorEq, ↓reduceIte, Int.reduceLT, Int.reduceLE, Int.reduceEq, Int.reduceNe]
    refine s_storeGc (ix := 1) (k := b2) (List.replicate n x) (by simp) rfl hG (by omega) (by simp; omega) ?_
    intro g' hcell hput
    simp -implicitDefEqProofs only [go_sem, Nat.reduceBEq, Nat.reduceAdd, Nat.reduceSub, Nat.reduceMul, Nat.reduceLeDiff, reduceCtorEq, ↓reduceIte, Int.reduceLT, Int.reduceLE, Int.reduceEq, Int.reduceNe]
    refine s_idx rfl (by omega) (by omega) ?_
    simp -implicitDefEqProofs only [go_sem, Nat.reduceBEq, Nat.reduceAdd, Nat.reduceSub, Nat.reduceMul, Nat.reduceLeDiff, reduceCtorEq, ↓reduceIte, Int.reduceLT, Int.reduceLE, Int.reduceEq, Int.reduceNe]
    refine s_ld0 (hcell _ (by simp)) (by simp) (by simp) ?_
    simp -implicitDefEqProofs only [go_sem, Nat.reduceBEq, Nat.reduceAdd, Nat.reduceSub, Nat.reduceMul, Nat.reduceLeDiff, reduceCtorEq, ↓reduceIte, Int.reduceLT, Int.reduceLE, Int.reduceEq, Int.reduceNe]
    refine s_loop (fun f2 vs Γ => ∃ (x2 : PH) (j : Nat), Γ = [x2, g'] ∧ vs = [.v true (.int .i64 j)] ∧ j + f2 = n ∧ Arr x2 b2 3 (prow x (0 : Int) n j)) n
      (Up.here ⟨_, 0, rfl, rfl, by omega, by rw [prow_zero]; exact Arr.made (0 : Int) b2 3 n⟩) ?_
    rintro f2 vs Γ ⟨x2, j, rfl, rfl, hjf, hA⟩
    simp -implicitDefEqProofs only [S185_1, go_sem, Nat.reduceBEq, Nat.reduceAdd, Nat.reduceSub, Nat.reduceMul, Nat.reduceLeDiff, reduceCtorEq, ↓reduceIte, Int.reduceLT, Int.reduceLE, Int.reduceEq, Int.reduceNe]
    refine ⟨fun hlt => ?_, fun hge => ?_⟩
    · have hj : j < n := by omega
      have hrl := prow_len x (0 : Int) (n := n) (j := j) (by omega)
      refine s_idx rfl (by omega) (by omega) ?_
      simp -implicitDefEqProofs only [go_sem, Nat.reduceBEq, Nat.reduceAdd, Nat.reduceSub, Nat.reduceMul, Nat.reduceLeDiff, reduceCtorEq, ↓reduceIte, Int.reduceLT, Int.reduceLE, Int.reduceEq, Int.reduceNe]
      refine s_ld0 (hcell _ (by simp)) (by simp) (by simp) ?_
      simp -implicitDefEqProofs only [go_sem, Nat.reduceBEq, Nat.reduceAdd, Nat.reduceSub, Nat.reduceMul, Nat.reduceLeDiff, reduceCtorEq, ↓reduceIte, Int.reduceLT, Int.reduceLE, Int.reduceEq, Int.reduceNe]
      refine s_idx rfl (by omega) (by omega) ?_
      simp -implicitDefEqProofs only [go_sem, Nat.reduceBEq, Nat.reduceAdd, Nat.reduceSub, Nat.reduceMul, Nat.reduceLeDiff, reduceCtorEq, ↓reduceIte, Int.reduceLT, Int.reduceLE, Int.reduceEq, Int.reduceNe]
      refine s_storeA (ix := 0) (α := Int) x rfl hA (i := j) (by omega) ?_
      intro x3 hA3 _
      rw [prow_set x (0 : Int) hj] at hA3
      simp -implicitDefEqProofs only [go_sem, Nat.reduceBEq, Nat.reduceAdd, Nat.reduceSub, Nat.reduceMul, Nat.reduceLeDiff, reduceCtorEq, ↓reduceIte, Int.reduceLT, Int.reduceLE, Int.reduceEq, Int.reduceNe]
      simp (disch := omega) only [wrap_id]
      exact ⟨f2 - 1, by omega, Up.here ⟨x3, j + 1, rfl, rfl, by omega, hA3⟩⟩
    · have hj : j = n := by omega
      subst hj
      rw [prow_all] at hA
      simp (disch := omega) only [wrap_id]
      refine ⟨f - 1, by omega, Up.apart fun hd => Up.one fun G hG' => ⟨_, rfl, k + 1, rfl, by omega, ?_⟩⟩
      rw [← part_set _ hk]
      exact hput _ _ hA ((List.pairwise_cons.1 hd).1 g' (by simp)) hG'
  · have hk : k = a := by omega
    subst hk
    refine Up.here ?_
    subst hR
    exact ⟨_, b, rfl, rfl, by simpa [part] using hG⟩
/- Rows whose elements are changed one by one; no condition. -/
theorem splice_get {cs new : List Value} {p m j : Nat} (hm : new.length = m) (hp : p + m ≤ cs.length) : (cs.take p ++ new ++ cs.drop (p + m))[j]? = if p ≤ j ∧ j < p + m then new[j - p]? else cs[j]? := by
  have h1 : (cs.take p).length = p := by simp; omega
  have h2 : (cs.take p ++ new).length = p + m := by rw [List.length_append, h1, hm]
  by_cases a : j < p
  · rw [if_neg (by omega), List.getElem?_append_left (by omega), List.getElem?_append_left (by omega), List.getElem?_take, if_pos a]
  · by_cases b : j < p + m
    · rw [if_pos ⟨by omega, b⟩, List.getElem?_append_left (by omega), List.getElem?_append_right (by omega), h1]
    · rw [if_neg (by omega), List.getElem?_append_right (by omega), h2, List.getElem?_drop]
      congr 1
      omega
theorem Row.put {g : PH} {e : TypeId} {sz n c i : Nat} {A : Option Addr} {cs : List Value} (h : Row g e sz (.slice A n c) n cs) (hi : i < n) :
    ∃ b o cur, A = some ⟨b, o, none⟩ ∧ g b = some (.cells cur e (0, 0)) ∧ o + i * sz + sz ≤ cur.size ∧ (∀ j, j < n * sz → cur[o + j]? = cs[j]?) ∧ cs.length = n * sz ∧
      ∀ x : Value, (cellsV x).length = sz → Row (upd g b (.cells (setC cur.toList (o + i * sz) sz x).toArray e)) e sz (.slice A n c) n (cs.take (i * sz) ++ cellsV x ++ cs.drop (i * sz + sz)) := by
  obtain ⟨h1, h2⟩ := h
  rcases h2 with ⟨q, _⟩ | ⟨b, o, cap, cur, q1, q2, q3, q4, q5, q6⟩
  · omega
  · simp only [Value.slice.injEq, true_and] at q1
    obtain ⟨rfl, rfl⟩ := q1
    have hle : (i + 1) * sz ≤ n * sz := Nat.mul_le_mul_right _ hi
    rw [Nat.add_mul, Nat.one_mul] at hle
    have hcap : n * sz ≤ (cap + 1) * sz := Nat.mul_le_mul_right _ q2
    have hcur : ∀ j, j < n * sz → cur[o + j]? = cs[j]? := fun j hj => by
      rw [← q6, List.getElem?_take, if_pos hj, List.getElem?_drop]
      simp
    refine ⟨b, o, cur, rfl, q4, by omega, hcur, h1, fun x hx => ⟨?_, .inr ⟨b, o, cap, _, rfl, q2, q3, upd_self _ _ _, ?_, ?_⟩⟩⟩
    · simp [hx]; omega
    · simp [setC, hx]; omega
    · apply List.ext_getElem?
      intro j
      rw [List.getElem?_take, List.getElem?_drop, splice_get hx (by omega)]
      simp only [List.toList_toArray, setC]
      rw [splice_get hx (by simp; omega)]
      by_cases a : j < n * sz
      · rw [if_pos a]
        by_cases b : i * sz ≤ j ∧ j < i * sz + sz
        · rw [if_pos (by omega), if_pos b]
          congr 1
          omega
        · rw [if_neg (by omega), if_neg b, ← hcur j a]
          simp
      · rw [if_neg a]
        split
        · omega
        · rw [List.getElem?_eq_none (by omega)]
/-- a row; what its elements lead to lies here and there -/
def BldM {α : Type} [Rep α] (g : PH) (Lf : Nat → Mem) (e : TypeId) (v : Value) (xs : List α) : Prop :=
  ∃ cs, Row g e (Rep.sz α) v xs.length cs ∧ ∀ i x, xs[i]? = some x → ∃ c, Rep.ok (Lf i) x c ∧ ∀ j, j < Rep.sz α → cs[i * Rep.sz α + j]? = c[j]?
theorem BldM.mono {α : Type} [Rep α] {g : PH} {Lf Lg : Nat → Mem} {e : TypeId} {v : Value} {xs : List α} (h : BldM g Lf e v xs) (hL : ∀ i, i < xs.length → Mem.le (Lf i) (Lg i)) : BldM g Lg e v xs := by
  obtain ⟨cs, h1, h2⟩ := h
  refine ⟨cs, h1, fun i x hi => ?_⟩
  obtain ⟨c, q1, q2⟩ := h2 i x hi
  exact ⟨c, Rep.mono q1 (hL i (List.getElem?_eq_some_iff.1 hi).1), q2⟩
/-- an element, its place and its cells -/
theorem BldM.get {α : Type} [Rep α] {g : PH} {Lf : Nat → Mem} {e : TypeId} {A : Option Addr} {c i : Nat} {xs : List α} (h : BldM g Lf e (.slice A xs.length c) xs) (hi : i < xs.length) :
    ∃ b o cs, A = some ⟨b, o, none⟩ ∧ Rep.ok (Lf i) xs[i] cs ∧ ∀ Γ : Ctx, g ∈ Γ → Cells Γ b (o + i * Rep.sz α) cs := by
  obtain ⟨cs, h1, h2⟩ := h
  obtain ⟨b, o, cur, rfl, hb, hsz, hcur, hlen, _⟩ := h1.put hi
  obtain ⟨c', q1, q2⟩ := h2 i _ (List.getElem?_eq_getElem hi)
  refine ⟨b, o, c', rfl, q1, fun Γ hg => ⟨g, hg, cur, e, (0, 0), hb, fun j hj => ?_⟩⟩
  have hj' : j < Rep.sz α := by rw [← Rep.len q1]; exact hj
  have hle : (i + 1) * Rep.sz α ≤ xs.length * Rep.sz α := Nat.mul_le_mul_right _ hi
  rw [Nat.add_mul, Nat.one_mul] at hle
  rw [Nat.add_assoc, hcur _ (by omega), q2 j hj']
/-- an element is changed -/
theorem BldM.put {α : Type} [Rep α] {g : PH} {Lf : Nat → Mem} {L : Mem} {e : TypeId} {A : Option Addr} {c i : Nat} {xs : List α} {x : α} {new : Value} (h : BldM g Lf e (.slice A xs.length c) xs) (hi : i < xs.length) (hx : Rep.ok L x (cellsV new)) :
    ∃ b o cur, A = some ⟨b, o, none⟩ ∧ g b = some (.cells cur e (0, 0)) ∧ o + i * Rep.sz α + Rep.sz α ≤ cur.size ∧
      BldM (upd g b (.cells (setC cur.toList (o + i * Rep.sz α) (Rep.sz α) new).toArray e)) (fun j => if j = i then L else Lf j) e (.slice A xs.length c) (xs.set i x) := by
  obtain ⟨cs, h1, h2⟩ := h
  obtain ⟨b, o, cur, rfl, hb, hsz, hcur, hlen, hput⟩ := h1.put hi
  have hn := Rep.len hx
  refine ⟨b, o, cur, rfl, hb, hsz, _, by rw [List.length_set]; exact hput new hn, fun k y hk => ?_⟩
  have hkl : k < xs.length := by simpa using (List.getElem?_eq_some_iff.1 hk).1
  have hle : (i + 1) * Rep.sz α ≤ xs.length * Rep.sz α := Nat.mul_le_mul_right _ hi
  have hlk : (k + 1) * Rep.sz α ≤ xs.length * Rep.sz α := Nat.mul_le_mul_right _ hkl
  rw [Nat.add_mul, Nat.one_mul] at hle hlk
  by_cases e : k = i
  · subst e
    rw [List.getElem?_set_self hi] at hk
    cases hk
    refine ⟨_, by show Rep.ok (if k = k then L else Lf k) x _; rw [if_pos rfl]; exact hx, fun j hj => ?_⟩
    rw [splice_get hn (by omega), if_pos (by omega)]
    congr 1
    omega
  · rw [List.getElem?_set_ne (fun q => e q.symm)] at hk
    obtain ⟨c', q1, q2⟩ := h2 k y hk
    refine ⟨c', by show Rep.ok (if k = i then L else Lf k) y c'; rw [if_neg e]; exact q1, fun j hj => ?_⟩
    rw [splice_get hn (by omega), if_neg, q2 j hj]
    intro ⟨a1, a2⟩
    rcases Nat.lt_or_gt_of_ne e with q | q
    · have : (k + 1) * Rep.sz α ≤ i * Rep.sz α := Nat.mul_le_mul_right _ q
      rw [Nat.add_mul, Nat.one_mul] at this
      omega
    · have : (i + 1) * Rep.sz α ≤ k * Rep.sz α := Nat.mul_le_mul_right _ q
      rw [Nat.add_mul, Nat.one_mul] at this
      omega
/- Automata: dfa.Check, dfa.Run, parlref5.DfaFault, parlref5.Ends walked; no condition. -/
def colsD (d : Da) : Nat := (d.nx.headD []).length
/-- an automaton that is accepted -/
structure VD (d : Da) : Prop where
  len : 1 ≤ d.nx.length ∧ d.nx.length ≤ 200
  acc : d.ac.length = d.nx.length
  cols : 1 ≤ colsD d ∧ colsD d ≤ 16
  row : ∀ r ∈ d.nx, r.length = colsD d
  st : 0 ≤ d.st ∧ d.st < d.nx.length
  ac : ∀ x ∈ d.ac, -1 ≤ x
  to : ∀ r ∈ d.nx, ∀ t ∈ r, -1 ≤ t ∧ t < d.nx.length
section
variable {Γr : Ctx} {d : Da} {A B : Option Addr} {c e : Nat}
end
/- Automata: dfa.Run, parlref5.Ends, teach.step walked; no condition. -/
def stepD (d : Da) (s x : Int) : Int := (d.nx.getD s.toNat []).getD x.toNat 0
def accD (d : Da) (s : Int) : Int := d.ac.getD s.toNat 0
theorem VD.step {d : Da} (V : VD d) {s x : Int} (hs : 0 ≤ s ∧ s < d.nx.length) (hx : 0 ≤ x ∧ x < colsD d) : -1 ≤ stepD d s x ∧ stepD d s x < d.nx.length := by
  have h1 : s.toNat < d.nx.length := by omega
  have h2 := V.row _ (List.getElem_mem h1)
  have h3 : x.toNat < d.nx[s.toNat].length := by omega
  have e : stepD d s x = d.nx[s.toNat][x.toNat] := by simp [stepD, h1, h3]
  rw [e]
  exact V.to _ (List.getElem_mem h1) _ (List.getElem_mem h3)
/-- symbols of the automaton -/
def okW (d : Da) (w : List Int) : Prop := ∀ x ∈ w, 0 ≤ x ∧ x < colsD d
section
variable {Γr : Ctx} {d : Da} {A B : Option Addr} {c e : Nat}
end
/- Two automata side by side, the least word on which they differ: the plain law; no condition. -/
/-! words, shorter ones first, then smaller ones -/
def lexLt : List Int → List Int → Prop
  | x :: v, y :: w => x < y ∨ (x = y ∧ lexLt v w)
  | _, _ => False
def LLt (v w : List Int) : Prop := v.length < w.length ∨ (v.length = w.length ∧ lexLt v w)
def LLe (v w : List Int) : Prop := v = w ∨ LLt v w
theorem lexLt_irr : ∀ v, ¬ lexLt v v
  | [] => id
  | x :: v => by simp only [lexLt, not_or, not_and]; exact ⟨by omega, fun _ => lexLt_irr v⟩
theorem lexLt_trans : ∀ {u v w : List Int}, lexLt u v → lexLt v w → lexLt u w
  | [], v, w, h, _ => by cases v <;> exact h.elim
  | x :: u, [], w, h, _ => h.elim
  | x :: u, y :: v, [], _, h => h.elim
  | x :: u, y :: v, z :: w, h1, h2 => by
    simp only [lexLt] at *
    rcases h1 with h1 | ⟨rfl, h1⟩
    · rcases h2 with h2 | ⟨rfl, h2⟩
      · exact .inl (by omega)
      · exact .inl h1
    · rcases h2 with h2 | ⟨rfl, h2⟩
      · exact .inl h2
      · exact .inr ⟨rfl, lexLt_trans h1 h2⟩
theorem lexLt_app : ∀ {v w : List Int} (a b : List Int), lexLt v w → v.length = w.length → lexLt (v ++ a) (w ++ b)
  | [], w, a, b, h, _ => by cases w <;> exact h.elim
  | x :: v, [], a, b, h, _ => h.elim
  | x :: v, y :: w, a, b, h, hl => by
    simp only [lexLt, List.cons_append] at *
    rcases h with h | ⟨rfl, h⟩
    · exact .inl h
    · exact .inr ⟨rfl, lexLt_app a b h (by simpa using hl)⟩
theorem lexLt_snoc : ∀ (v : List Int) {a b : Int}, a < b → lexLt (v ++ [a]) (v ++ [b])
  | [], a, b, h => by simp [lexLt, h]
  | x :: v, a, b, h => by simp only [lexLt, List.cons_append, true_and]; exact .inr (lexLt_snoc v h)
theorem LLt.trans {u v w : List Int} (h1 : LLt u v) (h2 : LLt v w) : LLt u w := by
  rcases h1 with h1 | ⟨h1, q1⟩
  · rcases h2 with h2 | ⟨h2, q2⟩
    · exact .inl (by omega)
    · exact .inl (by omega)
  · rcases h2 with h2 | ⟨h2, q2⟩
    · exact .inl (by omega)
    · exact .inr ⟨by omega, lexLt_trans q1 q2⟩
theorem LLe.trans {u v w : List Int} (h1 : LLe u v) (h2 : LLe v w) : LLe u w := by
  rcases h1 with rfl | h1
  · exact h2
  · rcases h2 with rfl | h2
    · exact .inr h1
    · exact .inr (h1.trans h2)
theorem LLt.irr {v : List Int} : ¬ LLt v v := by
  rintro (h | ⟨_, h⟩)
  · omega
  · exact lexLt_irr v h
theorem LLe.anti {v w : List Int} (h1 : LLe v w) (h2 : LLe w v) : v = w := by
  rcases h1 with h | h1
  · exact h
  · rcases h2 with h | h2
    · exact h.symm
    · exact absurd (h1.trans h2) LLt.irr
theorem LLe.pre (v u : List Int) : LLe v (v ++ u) := by
  cases u with
  | nil => exact .inl (by simp)
  | cons x u => exact .inr (.inl (by simp))
theorem LLt.snoc {v w : List Int} (h : LLt v w) (a b : Int) : LLt (v ++ [a]) (w ++ [b]) := by
  rcases h with h | ⟨h, q⟩
  · exact .inl (by simp; omega)
  · exact .inr ⟨by simp; omega, lexLt_app _ _ q h⟩
theorem LLt.last (v : List Int) {a b : Int} (h : a < b) : LLt (v ++ [a]) (v ++ [b]) := .inr ⟨by simp, lexLt_snoc v h⟩
theorem LLe.snoc {v w : List Int} (h : LLe v w) (a : Int) : LLe (v ++ [a]) (w ++ [a]) := by
  rcases h with rfl | h
  · exact .inl rfl
  · exact .inr (h.snoc a a)

/-! pairs of states -/
def nxt (d : Da) (s x : Int) : Int := if s < 0 then -1 else stepD d s x
def accP (d : Da) (s : Int) : Bool := decide (0 ≤ s) && decide (0 ≤ accD d s)
def goD (d : Da) (s : Int) (w : List Int) : Int := w.foldl (nxt d) s
theorem go_snoc (d : Da) (s : Int) (w : List Int) (x : Int) : goD d s (w ++ [x]) = nxt d (goD d s w) x := by simp [goD]
theorem go_cons (d : Da) (s : Int) (w : List Int) (x : Int) : goD d s (x :: w) = goD d (nxt d s x) w := rfl
theorem nxt_rng {d : Da} (V : VD d) {s x : Int} (hs : -1 ≤ s ∧ s < d.nx.length) (hx : 0 ≤ x ∧ x < colsD d) : -1 ≤ nxt d s x ∧ nxt d s x < d.nx.length := by
  unfold nxt
  split
  · omega
  · exact V.step (by omega) hx
theorem go_rng {d : Da} (V : VD d) : ∀ {w : List Int} {s : Int}, -1 ≤ s ∧ s < d.nx.length → okW d w → -1 ≤ goD d s w ∧ goD d s w < d.nx.length
  | [], s, h, _ => h
  | x :: w, s, h, hw => by
    rw [go_cons]
    exact go_rng V (nxt_rng V h (hw x (by simp))) fun y hy => hw y (by simp [hy])
/-- after this word just one of them accepts -/
def Dif (x y : Da) (w : List Int) : Prop := accP x (goD x x.st w) ≠ accP y (goD y y.st w)
def LeastW (x y : Da) (w : List Int) : Prop := okW x w ∧ Dif x y w ∧ ∀ v, okW x v → Dif x y v → LLe w v
def NoW (x y : Da) : Prop := ∀ v, okW x v → ¬ Dif x y v
theorem LeastW.same {x y : Da} {v w : List Int} (h : LeastW x y v) (h' : LeastW x y w) : v = w := (h.2.2 w h'.1 h'.2.1).anti (h'.2.2 v h.1 h.2.1)

/-! pair by pair -/
structure PR where
  a : Int
  b : Int
  f : Int
  c : Int
def PR.key (r : PR) : List Int := [r.a, r.b]
structure BFS (x y : Da) (R : List PR) (Ws : List (List Int)) (i c : Nat) : Prop where
  len : Ws.length = R.length
  zero : R[0]? = some ⟨x.st, y.st, -1, 0⟩ ∧ Ws[0]? = some []
  chain : ∀ (j : Nat) r, R[j]? = some r → 0 < j → ∃ m : Nat, r.f = m ∧ m < j ∧ ∃ u, Ws[m]? = some u ∧ Ws[j]? = some (u ++ [r.c])
  st : ∀ (j : Nat) r w, R[j]? = some r → Ws[j]? = some w → r.a = goD x x.st w ∧ r.b = goD y y.st w ∧ okW x w
  inc : ∀ (j k : Nat) v w, j < k → Ws[j]? = some v → Ws[k]? = some w → LLt v w
  nod : (R.map PR.key).Nodup
  cl : ∀ (j : Nat) r w, R[j]? = some r → Ws[j]? = some w → j < i → ∀ s : Nat, (s : Int) < colsD x → ∃ (m : Nat) (r' : PR) (w' : List Int), R[m]? = some r' ∧ Ws[m]? = some w' ∧ r'.a = nxt x r.a s ∧ r'.b = nxt y r.b s ∧ LLe w' (w ++ [(s : Int)])
  cli : ∀ r w, R[i]? = some r → Ws[i]? = some w → ∀ s : Nat, s < c → ∃ (m : Nat) (r' : PR) (w' : List Int), R[m]? = some r' ∧ Ws[m]? = some w' ∧ r'.a = nxt x r.a s ∧ r'.b = nxt y r.b s ∧ LLe w' (w ++ [(s : Int)])
  last : ∀ wi, Ws[i]? = some wi → ∀ w ∈ Ws, LLt w (wi ++ [(c : Int)])
  nd : ∀ (j : Nat) r, R[j]? = some r → j < i → accP x r.a = accP y r.b
theorem BFS.init (x y : Da) : BFS x y [⟨x.st, y.st, -1, 0⟩] [[]] 0 0 where
  len := rfl
  zero := ⟨rfl, rfl⟩
  chain j r h h0 := by
    cases j with
    | zero => omega
    | succ j => simp at h
  st j r w h h' := by
    cases j with
    | zero => simp at h h'; subst h h'; exact ⟨rfl, rfl, fun x hx => by cases hx⟩
    | succ j => simp at h
  inc j k v w hjk h h' := by
    cases k with
    | zero => omega
    | succ k => simp at h'
  nod := by simp
  cl j _ _ _ _ h := by omega
  cli r w _ _ s h := by omega
  last wi h w hw := by
    simp at h hw
    subst h hw
    exact .inl (by simp)
  nd j _ _ h := by omega
theorem BFS.at' {x y : Da} {R : List PR} {Ws : List (List Int)} {i c : Nat} (h : BFS x y R Ws i c) {j : Nat} (hj : j < R.length) : ∃ w, Ws[j]? = some w := ⟨Ws[j]'(by rw [h.len]; exact hj), List.getElem?_eq_getElem _⟩
/-- the entry is worked on: its next symbol -/
theorem BFS.seen {x y : Da} {R : List PR} {Ws : List (List Int)} {i c : Nat} (h : BFS x y R Ws i c) {r : PR} (hr : R[i]? = some r) (hs : [nxt x r.a c, nxt y r.b c] ∈ R.map PR.key) : BFS x y R Ws i (c + 1) := by
  obtain ⟨r', hr', hk⟩ := List.mem_map.1 hs
  obtain ⟨m, hm⟩ := List.getElem?_of_mem hr'
  obtain ⟨w', hw'⟩ := h.at' (List.getElem?_eq_some_iff.1 hm).1
  simp only [PR.key, List.cons.injEq, and_true] at hk
  refine { h with cli := fun r2 w hr2 hw s hsc => ?_, last := fun wi hwi w hw => ?_ }
  · by_cases e : s = c
    · subst e
      rw [hr] at hr2
      cases hr2
      exact ⟨m, r', w', hm, hw', hk.1, hk.2, .inr (h.last w hw w' (List.mem_of_getElem? hw'))⟩
    · exact h.cli r2 w hr2 hw s (by omega)
  · exact (h.last wi hwi w hw).trans (LLt.last wi (by omega))
theorem BFS.add {x y : Da} {R : List PR} {Ws : List (List Int)} {i c : Nat} (h : BFS x y R Ws i c) {r : PR} (hr : R[i]? = some r) (hc : (c : Int) < colsD x) (hs : [nxt x r.a c, nxt y r.b c] ∉ R.map PR.key) : ∃ w, BFS x y (R ++ [⟨nxt x r.a c, nxt y r.b c, i, c⟩]) (Ws ++ [w]) i (c + 1) := by
  have hil := (List.getElem?_eq_some_iff.1 hr).1
  obtain ⟨wi, hwi⟩ := h.at' hil
  have hl := h.len
  have hsti := h.st i r wi hr hwi
  have old : ∀ {α : Type} {l : List α} {z q : α} {j : Nat}, (l ++ [z])[j]? = some q → j < l.length → l[j]? = some q := fun h1 h2 => by rwa [List.getElem?_append_left h2] at h1
  have new : ∀ {α : Type} {l : List α} {z q : α} {j : Nat}, (l ++ [z])[j]? = some q → ¬ j < l.length → j = l.length ∧ q = z := fun h1 h2 => by
    rw [List.getElem?_append_right (by omega)] at h1
    rename_i l z q j
    have : j - l.length < 1 := by have := (List.getElem?_eq_some_iff.1 h1).1; simpa using this
    have e : j - l.length = 0 := by omega
    rw [e] at h1
    simp at h1
    exact ⟨by omega, h1.symm⟩
  have up : ∀ {α : Type} {l : List α} {z q : α} {j : Nat}, l[j]? = some q → (l ++ [z])[j]? = some q := fun h1 => by
    rw [List.getElem?_append_left (List.getElem?_eq_some_iff.1 h1).1]; exact h1
  refine ⟨wi ++ [(c : Int)], ?_⟩
  refine
    { len := by simp [hl]
      zero := ⟨up h.zero.1, up h.zero.2⟩
      chain := fun j q hq h0 => ?_
      st := fun j q w hq hw => ?_
      inc := fun j k v w hjk hv hw => ?_
      nod := ?_
      cl := fun j q w hq hw hji s hsc => ?_
      cli := fun q w hq hw s hsc => ?_
      last := fun w hw v hv => ?_
      nd := fun j q hq hji => h.nd j q (old hq (by omega)) hji }
  · by_cases hj : j < R.length
    · obtain ⟨m, h1, h2, u, h3, h4⟩ := h.chain j q (old hq hj) h0
      exact ⟨m, h1, h2, u, up h3, up h4⟩
    · obtain ⟨rfl, rfl⟩ := new hq hj
      exact ⟨i, rfl, hil, wi, up hwi, by rw [← hl]; simp⟩
  · by_cases hj : j < R.length
    · exact h.st j q w (old hq hj) (old hw (by omega))
    · obtain ⟨rfl, rfl⟩ := new hq hj
      obtain ⟨_, rfl⟩ := new hw (by omega)
      refine ⟨by rw [go_snoc, ← hsti.1], by rw [go_snoc, ← hsti.2.1], fun z hz => ?_⟩
      rcases List.mem_append.1 hz with hz | hz
      · exact hsti.2.2 z hz
      · simp at hz; subst hz; exact ⟨by omega, hc⟩
  · by_cases hk : k < R.length
    · exact h.inc j k v w hjk (old hv (by omega)) (old hw (by omega))
    · obtain ⟨_, rfl⟩ := new hw (by omega)
      exact h.last wi hwi v (List.mem_of_getElem? (old hv (by have := (List.getElem?_eq_some_iff.1 hw).1; simp at this; omega)))
  · rw [List.map_append, List.nodup_append]
    refine ⟨h.nod, by simp, ?_⟩
    rintro u hu v hv rfl
    simp only [List.map_cons, List.map_nil, List.mem_singleton] at hv
    subst hv
    exact hs hu
  · obtain ⟨m, r', w', h1, h2, h3⟩ := h.cl j q w (old hq (by omega)) (old hw (by omega)) hji s hsc
    exact ⟨m, r', w', up h1, up h2, h3⟩
  · have hq' := old hq hil
    have hw' := old hw (by omega)
    by_cases e : s = c
    · subst e
      rw [hr] at hq'
      cases hq'
      rw [hwi] at hw'
      cases hw'
      exact ⟨R.length, ⟨nxt x r.a s, nxt y r.b s, i, s⟩, wi ++ [(s : Int)], by simp, by rw [← hl]; simp, rfl, rfl, .inl rfl⟩
    · obtain ⟨m, r', w', h1, h2, h3⟩ := h.cli q w hq' hw' s (by omega)
      exact ⟨m, r', w', up h1, up h2, h3⟩
  · have hw' := old hw (by omega)
    rw [hwi] at hw'
    cases hw'
    rcases List.mem_append.1 hv with hv | hv
    · exact (h.last wi hwi v hv).trans (LLt.last wi (by omega))
    · simp at hv; subst hv; exact LLt.last wi (by omega)
theorem BFS.next {x y : Da} {R : List PR} {Ws : List (List Int)} {i : Nat} (h : BFS x y R Ws i (colsD x)) {r : PR} (hr : R[i]? = some r) (hnd : accP x r.a = accP y r.b) : BFS x y R Ws (i + 1) 0 := by
  have hil := (List.getElem?_eq_some_iff.1 hr).1
  obtain ⟨wi, hwi⟩ := h.at' hil
  refine { h with cl := fun j q w hq hw hji s hsc => ?_, cli := fun _ _ _ _ s h => by omega, last := fun w hw v hv => ?_, nd := fun j q hq hji => ?_ }
  · by_cases e : j = i
    · subst e; exact h.cli q w hq hw s (by omega)
    · exact h.cl j q w hq hw (by omega) s hsc
  · exact (h.last wi hwi v hv).trans ((h.inc i (i + 1) wi w (by omega) hwi hw).snoc _ _)
  · by_cases e : j = i
    · subst e; rw [hr] at hq; cases hq; exact hnd
    · exact h.nd j q hq (by omega)
/-- where each word leads -/
theorem BFS.reach {x y : Da} {R : List PR} {Ws : List (List Int)} {i : Nat} (h : BFS x y R Ws i 0) (v : List Int) : okW x v.reverse →
    (∃ (j : Nat) (r : PR) (w : List Int), j < i ∧ R[j]? = some r ∧ Ws[j]? = some w ∧ r.a = goD x x.st v.reverse ∧ r.b = goD y y.st v.reverse ∧ LLe w v.reverse) ∨
    (∃ (j : Nat) (w p u : List Int), i ≤ j ∧ Ws[j]? = some w ∧ v.reverse = p ++ u ∧ LLe w p) := by
  induction v with
  | nil =>
    intro _
    by_cases hi : 0 < i
    · exact .inl ⟨0, _, [], hi, h.zero.1, h.zero.2, rfl, rfl, .inl rfl⟩
    · exact .inr ⟨0, [], [], [], by omega, h.zero.2, rfl, .inl rfl⟩
  | cons c v ih =>
    intro hok
    rw [List.reverse_cons] at hok ⊢
    have hc := hok c (by simp)
    rcases ih (fun z hz => hok z (List.mem_append_left _ hz)) with ⟨j, r, w, hj, hr, hw, ha, hb, hle⟩ | ⟨j, w, p, u, hj, hw, he, hle⟩
    · obtain ⟨s, rfl⟩ : ∃ s : Nat, c = s := ⟨c.toNat, by omega⟩
      obtain ⟨m, r', w', h1, h2, h3, h4, h5⟩ := h.cl j r w hr hw hj s hc.2
      have hle2 : LLe w' (v.reverse ++ [(s : Int)]) := h5.trans (hle.snoc _)
      by_cases hm : m < i
      · exact .inl ⟨m, r', w', hm, h1, h2, by rw [go_snoc, ← ha, h3], by rw [go_snoc, ← hb, h4], hle2⟩
      · exact .inr ⟨m, w', _, [], by omega, h2, by simp, hle2⟩
    · exact .inr ⟨j, w, p, u ++ [c], hj, hw, by rw [he, List.append_assoc], hle⟩
theorem BFS.none {x y : Da} {R : List PR} {Ws : List (List Int)} {i : Nat} (h : BFS x y R Ws i 0) (hi : R.length ≤ i) : NoW x y := by
  intro v hv hdv
  have := h.reach v.reverse (by rwa [List.reverse_reverse])
  rw [List.reverse_reverse] at this
  rcases this with ⟨j, r', w', hj, h1, h2, h3, h4, h5⟩ | ⟨j, w', p, u, hj, h2, he, h5⟩
  · exact hdv (by have := h.nd j r' h1 hj; rw [h3, h4] at this; exact this)
  · have := (List.getElem?_eq_some_iff.1 h2).1
    rw [h.len] at this
    omega
/-- there are not many pairs -/
theorem BFS.bound {x y : Da} (Vx : VD x) (Vy : VD y) (hxy : colsD x = colsD y) {R : List PR} {Ws : List (List Int)} {i c : Nat} (h : BFS x y R Ws i c) : R.length ≤ 40401 := by
  have hx := Vx.len
  have hy := Vy.len
  have hb : ∀ r ∈ R, -1 ≤ r.a ∧ r.a < x.nx.length ∧ -1 ≤ r.b ∧ r.b < y.nx.length := by
    intro r hr
    obtain ⟨j, hj⟩ := List.getElem?_of_mem hr
    obtain ⟨w, hw⟩ := h.at' (List.getElem?_eq_some_iff.1 hj).1
    obtain ⟨h1, h2, h3⟩ := h.st j r w hj hw
    have q1 := go_rng Vx (s := x.st) (by have := Vx.st; omega) h3
    have q2 := go_rng Vy (s := y.st) (by have := Vy.st; omega) (w := w) fun z hz => by rw [← hxy]; exact h3 z hz
    rw [← h1] at q1
    rw [← h2] at q2
    exact ⟨q1.1, q1.2, q2.1, q2.2⟩
  have := nodup_bound 40401 (R.map fun r => ((r.a + 1) * 201 + (r.b + 1)).toNat) (by
    rw [List.Nodup, List.pairwise_map]
    have hn := h.nod
    rw [List.Nodup, List.pairwise_map] at hn
    refine List.Pairwise.imp_of_mem (fun {p q} hp hq hne e => hne ?_) hn
    have h1 := hb p hp
    have h2 := hb q hq
    have : p.a = q.a ∧ p.b = q.b := by omega
    simp [PR.key, this.1, this.2]) (fun z hz => by
    obtain ⟨r, hr, rfl⟩ := List.mem_map.1 hz
    have := hb r hr
    omega)
  simpa using this

/-! by how far they are from a difference -/
def fr (F : List (List Int)) (a b : Nat) : Int := (F.getD a []).getD b 0
theorem BFS.short {x y : Da} {R : List PR} {Ws : List (List Int)} {i c : Nat} (h : BFS x y R Ws i c) : ∀ (j : Nat) w, Ws[j]? = some w → w.length ≤ j := by
  intro j
  induction j using Nat.strongRecOn with
  | ind j ih =>
    intro w hw
    by_cases h0 : 0 < j
    · have hj : j < R.length := by rw [← h.len]; exact (List.getElem?_eq_some_iff.1 hw).1
      obtain ⟨m, _, hm, u, hu, hwu⟩ := h.chain j R[j] (List.getElem?_eq_getElem hj) h0
      rw [hw] at hwu
      cases hwu
      have := ih m hm u hu
      simp
      omega
    · have : j = 0 := by omega
      subst this
      rw [h.zero.2] at hw
      cases hw
      simp
/- Two automata side by side: teach.way, teach.Differ walked; no condition. -/
instance : Rep PR where
  sz := 4
  ok _ x cs := cs = [.int .i64 x.a, .int .i64 x.b, .int .i64 x.f, .int .i64 x.c]
  len h := by subst h; rfl
  one h := by subst h; simp [one', Value.oneCell']
  mono h _ := h
/- A teacher: teach.New, Symbols, Member, Equal, Asked walked; no condition. -/
/-- one part of a struct is stored -/
theorem s_storeF {P : Program} {Γr : Ctx} {r : List SOper} {φ : Fr} {Γ : Ctx} {K : Fr → Ctx → Prop} {g : PH} {b ix n o : Nat} {T : TypeId} {cs : List Value} {x : Value} (hg : Γ[ix]? = some g) (h : g b = some (.cells cs.toArray T (0, 0))) (ho : o + n ≤ cs.length)
    (hk : vcOps P Γr r φ (Γ.set ix (upd g b (.cells (setC cs o n x).toArray T))) K) : storeP P Γr r φ Γ K n b o x :=
  ⟨ix, g, _, T, hg, h, by simpa using ho, by simpa using hk⟩
theorem Ent.emp (Γ : Ctx) : Ent Γ (V.emp :: Γ) := by
  refine ⟨fun h hh k o hk => ?_, fun ha => List.pairwise_cons.2 ⟨fun x _ k => .inl rfl, ha⟩⟩
  rcases List.mem_cons.1 hh with rfl | hh
  · cases hk
  · exact ⟨h, hh, hk⟩
theorem Up.emp {Γ : Ctx} {Φ : Ctx → Prop} (h : Up (V.emp :: Γ) Φ) : Up Γ Φ := fun ha => by
  obtain ⟨Γ', h1, h2⟩ := h ((Ent.emp Γ).apart ha)
  exact ⟨Γ', (Ent.emp Γ).trans h1, h2⟩
section
variable {Γr : Ctx} {gp : PH} {p : Nat} {d : Da} {A B : Option Addr} {c e : Nat} {m q : Int}
end
/- A map is ranged over; how many keys it has; bytes that become a text; no condition. -/
set_option linter.unusedSectionVars false
attribute [local go_sem] e_seq e_region e_quiet e_join e_loop e_cond e_block e_exit e_ret e_skip e_fin e_kseq e_snrm e_sret e_sex e_bnrm e_bret e_bex e_rnrm e_rret e_res e_condC e_nil e_g e_mv g_mv e_pick g_pick pickC_eq e_ibin g_ibin ibinC_eq e_sbin g_sbin e_beq g_beq beqC_eq e_nilq g_nilq nilqC_sl nilqC_pt nilqC_mp e_un g_un unC_not unC_neg e_conv g_conv convC_eq e_fld g_fld fldC_ref fldC_ptr e_nilCheck g_nilCheck nilCheckC_ref nilCheckC_ptr nilCheckC_fun e_field g_field fieldC_eq e_len g_len lenC_sl lenC_str e_extract g_extract extractC_eq e_mkFunc e_build g_build e_idiv g_idiv idivC_eq e_ishift g_ishift ishiftC_eq e_idx g_idx e_idxA g_idxA e_load g_load e_loadB g_loadB atB_ref atB_v g_mkFunc loadC_ref loadC_ptr loadB_eq e_slc g_slc e_box boxC_loc boxC_esc e_alloc allocC_loc allocC_esc e_buildS e_store storeC_ref storeC_ptr storeB_eq e_append e_appz e_mk mkC_eq e_call callC_eq e_fn g_fn fnC_eq fnV_min' fnV_max' fnV_rune' e_q g_q e_a e_n g_call g_box g_alloc g_buildS g_store g_append g_mk g_a g_n g_dead e_dead e_callK e_drawn e_tree e_finJ e_tk e_tfin e_tno e_nbt_q e_nbt_qn e_nbt_a e_nbt_an e_nbt_fin e_drawnB e_bxb_nil e_bxb e_stB_none e_stB_some boxSt_store bs_mv bs_pick bs_ibin bs_idiv bs_ishift bs_sbin bs_beq bs_nilq bs_un bs_conv bs_box bs_alloc bs_build bs_buildS bs_load bs_fld bs_nilCheck bs_idx bs_idxA bs_field bs_slc bs_len bs_append bs_appz bs_mk bs_call bs_extract bs_mkFunc bs_fn bs_q bs_a bs_n bs_loadB bs_dead isBox_box e_early_nil e_early_t e_early_f e_nob_nil e_nob_none e_nob_some isBox_dead isBox_v isBox_ref e_dnil e_dk e_ek e_finB vcOps_vc1 e_dcons e_tq e_ekt e_tearly e_talt e_dearly look_nil look_c proj_nil proj_c looks_nil looks_c zip_nil zip_c val_tmp val_const val_func slv_v slv_box slv_ref slot_tmp slot_const slot_func slotL_v slotL_box slotL_ref put_some put_none updBox_c boxSet_box gd_eq slotVals_nil slotVals_c slotVals_b boxV_box boxOn_box slotsOn_nil slotsOn_c slotsOn_b resV_one resV_two vals_nil vals_c allOn_nil allOn_c partOn_nil partOn_c partVals_nil partVals_c fits_nil fits_c fillL_nil fillL_c mkv_one mkv_agg cellsV_agg cellsV_int cellsV_bool cellsV_slice cellsV_string cellsV_pointer cellsV_func cellsV_nilf cellsV_map one'_nil one'_c oc_int oc_bool oc_slice oc_string oc_pointer oc_func oc_nilf oc_map setC_eq iv_add iv_sub iv_mul iv_eql iv_neq iv_lss iv_leq iv_gtr iv_geq iok_add iok_sub iok_mul iok_eql iok_neq iok_lss iok_leq iok_gtr iok_geq pickV_bool args0_nil args0_c bnd_none bnd_some imp_bt imp_bf imp_ebt imp_ebf imp_eb1 imp_np imp_pp beq_tt beq_tf beq_ft beq_ff cond_or cond_and e_round e_meet Int.le_refl Int.toNat_zero decide_true decide_false Bool.or_false Bool.false_or Bool.true_or Bool.or_true Bool.and_false Bool.false_and Bool.bne_false Bool.bne_true beq_iff_eq Int.cast_ofNat_Int not_false_eq_true not_true_eq_false false_and and_false false_implies true_implies true_and and_true Bool.true_and Bool.and_true Bool.not_true Bool.not_false forall_const implies_true List.take_zero List.drop_zero List.take_succ_cons List.drop_succ_cons List.take_nil List.drop_nil List.length_cons List.length_nil List.nil_append List.append_nil List.cons_append Int.toNat_natCast decide_eq_true_eq decide_eq_false_iff_not cond_true cond_false and_self List.getElem?_cons_zero List.getElem?_cons_succ List.set_cons_zero List.set_cons_succ Option.some.injEq exists_eq_left' Nat.zero_add Nat.add_zero Nat.mul_one imp_self true_or or_true or_false false_or Bool.or_eq_true Bool.or_eq_false_iff Bool.and_eq_true Bool.and_eq_false_iff Bool.not_eq_true' Bool.not_eq_false'

section
variable {α β : Type}
def kvs (es : List MapEntry) : List (Value × Value) := es.map fun e => (e.key, e.val)
def encs (eK : α → Value) (eV : β → Value) (l : List (α × β)) : List (Value × Value) := l.map fun p => (eK p.1, eV p.2)
/-- the iterator r over the map b: what is still to come -/
structure ItM (L : Mem) (g : PH) (r b : Nat) (eK : α → Value) (eV : β → Value) (left : List (α × β)) : Prop where
  at' : ∃ es clock seen, L b (.map es clock) ∧ Born es.toList clock ∧ g r = some (.mapIter (some b) clock seen clock) ∧ kvs (leftOf es seen).toList = encs eK eV left
theorem ItM.mono {L L' : Mem} {g g' : PH} {r b : Nat} {eK : α → Value} {eV : β → Value} {left : List (α × β)} (h : ItM L g r b eK eV left) (hl : Mem.le L L') (hg : Mem.le (lk [g]) (lk [g'])) : ItM L' g' r b eK eV left := by
  obtain ⟨es, c, s, h1, h2, h3, h4⟩ := h.at'
  exact ⟨es, c, s, hl _ _ h1, h2, lk_one.1 (hg _ _ (lk_one.2 h3)), h4⟩
end
section
variable {α β : Type}
variable {P : Program} {Γr : Ctx} {d : Option Nat} {rr : List SOper} {φ : Fr} {Γ : Ctx} {K : Fr → Ctx → Prop}
end
/-! m[k], .. = v, ..: the entry is laid first, and then written -/
section
variable {α β : Type} [DecidableEq α]
variable {P : Program} {Γr : Ctx} {d : Option Nat} {rr : List SOper} {φ : Fr} {Γ : Ctx} {K : Fr → Ctx → Prop}
end
/-! bytes -/
/- Grammars are checked once more: parlref5.RuleFault walked; no condition. -/
def strB (l : List UInt8) : Value := .string ⟨l.toArray⟩
/- Sets of texts, and rows of them; no condition. -/
set_option linter.unusedSectionVars false
attribute [local go_sem] e_seq e_region e_quiet e_join e_loop e_cond e_block e_exit e_ret e_skip e_fin e_kseq e_snrm e_sret e_sex e_bnrm e_bret e_bex e_rnrm e_rret e_res e_condC e_nil e_g e_mv g_mv e_pick g_pick pickC_eq e_ibin g_ibin ibinC_eq e_sbin g_sbin e_beq g_beq beqC_eq e_nilq g_nilq nilqC_sl nilqC_pt nilqC_mp e_un g_un unC_not unC_neg e_conv g_conv convC_eq e_fld g_fld fldC_ref fldC_ptr e_nilCheck g_nilCheck nilCheckC_ref nilCheckC_ptr nilCheckC_fun e_field g_field fieldC_eq e_len g_len lenC_sl lenC_str e_extract g_extract extractC_eq e_mkFunc e_build g_build e_idiv g_idiv idivC_eq e_ishift g_ishift ishiftC_eq e_idx g_idx e_idxA g_idxA e_load g_load e_loadB g_loadB atB_ref atB_v g_mkFunc loadC_ref loadC_ptr loadB_eq e_slc g_slc e_box boxC_loc boxC_esc e_alloc allocC_loc allocC_esc e_buildS e_store storeC_ref storeC_ptr storeB_eq e_append e_appz e_mk mkC_eq e_call callC_eq e_fn g_fn fnC_eq fnV_min' fnV_max' fnV_rune' e_q g_q e_a e_n g_call g_box g_alloc g_buildS g_store g_append g_mk g_a g_n g_dead e_dead e_callK e_drawn e_tree e_finJ e_tk e_tfin e_tno e_nbt_q e_nbt_qn e_nbt_a e_nbt_an e_nbt_fin e_drawnB e_bxb_nil e_bxb e_stB_none e_stB_some boxSt_store bs_mv bs_pick bs_ibin bs_idiv bs_ishift bs_sbin bs_beq bs_nilq bs_un bs_conv bs_box bs_alloc bs_build bs_buildS bs_load bs_fld bs_nilCheck bs_idx bs_idxA bs_field bs_slc bs_len bs_append bs_appz bs_mk bs_call bs_extract bs_mkFunc bs_fn bs_q bs_a bs_n bs_loadB bs_dead isBox_box e_early_nil e_early_t e_early_f e_nob_nil e_nob_none e_nob_some isBox_dead isBox_v isBox_ref e_dnil e_dk e_ek e_finB vcOps_vc1 e_dcons e_tq e_ekt e_tearly e_talt e_dearly look_nil look_c proj_nil proj_c looks_nil looks_c zip_nil zip_c val_tmp val_const val_func slv_v slv_box slv_ref slot_tmp slot_const slot_func slotL_v slotL_box slotL_ref put_some put_none updBox_c boxSet_box gd_eq slotVals_nil slotVals_c slotVals_b boxV_box boxOn_box slotsOn_nil slotsOn_c slotsOn_b resV_one resV_two vals_nil vals_c allOn_nil allOn_c partOn_nil partOn_c partVals_nil partVals_c fits_nil fits_c fillL_nil fillL_c mkv_one mkv_agg cellsV_agg cellsV_int cellsV_bool cellsV_slice cellsV_string cellsV_pointer cellsV_func cellsV_nilf cellsV_map one'_nil one'_c oc_int oc_bool oc_slice oc_string oc_pointer oc_func oc_nilf oc_map setC_eq iv_add iv_sub iv_mul iv_eql iv_neq iv_lss iv_leq iv_gtr iv_geq iok_add iok_sub iok_mul iok_eql iok_neq iok_lss iok_leq iok_gtr iok_geq pickV_bool args0_nil args0_c bnd_none bnd_some imp_bt imp_bf imp_ebt imp_ebf imp_eb1 imp_np imp_pp beq_tt beq_tf beq_ft beq_ff cond_or cond_and e_round e_meet Int.le_refl Int.toNat_zero decide_true decide_false Bool.or_false Bool.false_or Bool.true_or Bool.or_true Bool.and_false Bool.false_and Bool.bne_false Bool.bne_true beq_iff_eq Int.cast_ofNat_Int not_false_eq_true not_true_eq_false false_and and_false false_implies true_implies true_and and_true Bool.true_and Bool.and_true Bool.not_true Bool.not_false forall_const implies_true List.take_zero List.drop_zero List.take_succ_cons List.drop_succ_cons List.take_nil List.drop_nil List.length_cons List.length_nil List.nil_append List.append_nil List.cons_append Int.toNat_natCast decide_eq_true_eq decide_eq_false_iff_not cond_true cond_false and_self List.getElem?_cons_zero List.getElem?_cons_succ List.set_cons_zero List.set_cons_succ Option.some.injEq exists_eq_left' Nat.zero_add Nat.add_zero Nat.mul_one imp_self true_or or_true or_false false_or Bool.or_eq_true Bool.or_eq_false_iff Bool.and_eq_true Bool.and_eq_false_iff Bool.not_eq_true' Bool.not_eq_false'

theorem Up.skip {g : PH} {Γ : Ctx} {Φ : Ctx → Prop} (h : Up Γ Φ) : Up (g :: Γ) Φ := fun ha => by
  obtain ⟨Γ', he, hp⟩ := h (List.pairwise_cons.1 ha).2
  exact ⟨Γ', (Ent.sub (List.sublist_cons_self _ _)).trans he, hp⟩
def good8 (l : List UInt8) : Prop := l.length ≤ 1000
/-- the map b is the set l of texts -/
def SetS (L : Mem) (b : Nat) (l : List (List UInt8)) : Prop := MapL L b strB Value.bool good8 (mset id l)
def StrM (g : PH) (b : Nat) (l : List (List UInt8)) : Prop := MapM g b strB Value.bool good8 (mset id l)
theorem StrM.l {g : PH} {Γ : Ctx} {b : Nat} {l : List (List UInt8)} (h : StrM g b l) (hg : g ∈ Γ) : SetS (lk Γ) b l := MapM.l h hg
theorem SetS.mono {L L' : Mem} {b : Nat} {l : List (List UInt8)} (h : SetS L b l) (hl : Mem.le L L') : SetS L' b l := MapL.mono h hl
theorem StrM.mono {g g' : PH} {b : Nat} {l : List (List UInt8)} (h : StrM g b l) (hg : Mem.le (lk [g]) (lk [g'])) : StrM g' b l := MapM.mono h hg
theorem SetS.nodup {L : Mem} {b : Nat} {l : List (List UInt8)} (h : SetS L b l) : l.Nodup := by
  have := MapL.nodup h
  rwa [mset_keys, List.map_id] at this
theorem SetS.good {L : Mem} {b : Nat} {l : List (List UInt8)} (h : SetS L b l) : ∀ x ∈ l, x.length ≤ 1000 := fun x hx => MapL.good h (x, true) (List.mem_map.2 ⟨x, hx, rfl⟩)
/-! a row of sets -/
structure RowS (g : PH) (bo : Nat) (T : TypeId) (maps : List (List (List UInt8))) (bs : List Nat) : Prop where
  len : bs.length = maps.length
  out : g bo = some (.cells (bs.map fun b => Value.map (some b)).toArray T (0, 0))
  nodup : bs.Nodup
  apart : bo ∉ bs
  map : ∀ (i b : Nat) l, bs[i]? = some b → maps[i]? = some l → StrM g b l
def GridS (g : PH) (bo : Nat) (T : TypeId) (maps : List (List (List UInt8))) : Prop := ∃ bs, RowS g bo T maps bs
theorem GridS.mono {g g' : PH} {bo : Nat} {T : TypeId} {maps : List (List (List UInt8))} (h : GridS g bo T maps) (hl : Mem.le (lk [g]) (lk [g'])) : GridS g' bo T maps := by
  obtain ⟨bs, h⟩ := h
  exact ⟨bs, h.len, lk_one.1 (hl _ _ (lk_one.2 h.out)), h.nodup, h.apart, fun i b l h1 h2 => (h.map i b l h1 h2).mono hl⟩
theorem nodup_inj {l : List Nat} (h : l.Nodup) {i j : Nat} (hi : i < l.length) (hj : j < l.length) (e : l[i] = l[j]) : i = j := by
  rcases Nat.lt_trichotomy i j with q | q | q
  · exact absurd e ((List.pairwise_iff_getElem.1 h) i j hi hj q)
  · exact q
  · exact absurd e.symm ((List.pairwise_iff_getElem.1 h) j i hj hi q)
/-- maps[i] -/
theorem GridS.at' {g : PH} {bo : Nat} {T : TypeId} {maps : List (List (List UInt8))} (h : GridS g bo T maps) {i : Nat} (hi : i < maps.length) :
    ∃ b, (∀ Γ : Ctx, g ∈ Γ → Cells Γ bo i [.map (some b)]) ∧ StrM g b maps[i] ∧ b ≠ bo ∧ ∀ g' l, StrM g' b l → (∀ k, k ≠ b → g' k = g k) → GridS g' bo T (maps.set i l) := by
  obtain ⟨bs, h⟩ := h
  have hib : i < bs.length := by rw [h.len]; exact hi
  refine ⟨bs[i], fun Γ hg => ⟨g, hg, _, T, _, h.out, fun j hj => ?_⟩, h.map i _ _ (List.getElem?_eq_getElem hib) (List.getElem?_eq_getElem hi), fun e => h.apart (e ▸ List.getElem_mem hib), fun g' l hl ho => ⟨bs, ?_, ?_, h.nodup, h.apart, fun j b l' h1 h2 => ?_⟩⟩
  · have : j = 0 := by simp at hj; exact hj
    subst this
    simp [hib]
  · rw [List.length_set]; exact h.len
  · rw [ho bo (fun e => h.apart (by rw [e]; exact List.getElem_mem hib))]; exact h.out
  · by_cases e : j = i
    · subst e
      rw [List.getElem?_eq_getElem hib] at h1
      rw [List.getElem?_set_self hi] at h2
      cases h1
      cases h2
      exact hl
    · rw [List.getElem?_set_ne (fun q => e q.symm)] at h2
      have hne : b ≠ bs[i] := fun q => by
        subst q
        obtain ⟨hj, h3⟩ := List.getElem?_eq_some_iff.1 h1
        exact e (nodup_inj h.nodup hj hib h3)
      have hm := h.map j b l' h1 h2
      obtain ⟨es, c, q1, q2⟩ := hm.at'
      exact ⟨MapL.nodup hm, MapL.good hm, es, c, by rw [ho b hne]; exact q1, q2⟩
/-- the sets that have been made so far -/
structure PartS (g : PH) (bo : Nat) (T : TypeId) (m : Nat) (bs : List Nat) : Prop where
  len : bs.length ≤ m
  out : g bo = some (.cells (bs.map (fun b => Value.map (some b)) ++ List.replicate (m - bs.length) (Value.map none)).toArray T (0, 0))
  nodup : bs.Nodup
  apart : bo ∉ bs
  map : ∀ b ∈ bs, StrM g b []
theorem PartS.made (bo : Nat) (T : TypeId) (m : Nat) : PartS (one bo (.cells (zerosL [Value.map none] m).toArray T)) bo T m [] := by
  refine ⟨by simp, ?_, by simp, by simp, by simp⟩
  rw [one_self]
  congr 3
  induction m with
  | zero => rfl
  | succ m ih => simp [zerosL, List.replicate_succ, ih]
/- Natural numbers and headers of slices as data; copy; no condition. -/
instance : Sc Nat := ⟨fun x => .int .i64 (x : Int), fun _ => rfl, fun _ => rfl⟩
/-- a slice's header -/
structure Hd where
  A : Option Addr
  n : Nat
  c : Nat
def Hd.v (h : Hd) : Value := .slice h.A h.n h.c
instance : Sc Hd := ⟨Hd.v, fun _ => rfl, fun _ => rfl⟩
theorem SlOk.hd {h : Mem} {A : Option Addr} {c : Nat} {xs : List Hd} (q : SlOk h A c xs) {i : Nat} (hi : i < xs.length) :
    ∃ b o, A = some ⟨b, o, none⟩ ∧ ∀ Γ : Ctx, Mem.le h (lk Γ) → Cells Γ b (o + i) [.slice xs[i].A xs[i].n xs[i].c] := by
  obtain ⟨b, o, hA, cs, h1, h2⟩ := q.get hi
  obtain rfl := ok_sc h1
  exact ⟨b, o, hA, fun Γ h => by simpa [Rep.sz, Sc.enc, Hd.v] using h2 Γ h⟩
/-- headers, each of which leads to its list -/
def HdsOk {α : Type} [Rep α] (L : Mem) (hs : List Hd) (xss : List (List α)) : Prop := hs.length = xss.length ∧ ∀ (i : Nat) (h : Hd) (xs : List α), hs[i]? = some h → xss[i]? = some xs → h.n = xs.length ∧ SlOk L h.A h.c xs
theorem HdsOk.mono {α : Type} [Rep α] {L L' : Mem} {hs : List Hd} {xss : List (List α)} (h : HdsOk L hs xss) (hL : Mem.le L L') : HdsOk L' hs xss :=
  ⟨h.1, fun i x xs h1 h2 => let ⟨q1, q2⟩ := h.2 i x xs h1 h2; ⟨q1, q2.mono hL⟩⟩
theorem HdsOk.slok {α : Type} [Rep α] {L L1 L2 : Mem} {A : Option Addr} {c : Nat} {hs : List Hd} {xss : List (List α)} (h : SlOk L1 A c hs) (hx : HdsOk L2 hs xss) (h1 : Mem.le L1 L) (h2 : Mem.le L2 L) : SlOk L A c xss := by
  have hl := hx.1
  refine ⟨by rw [← hl]; exact h.cap, h.max, by rw [← hl]; exact h.short, ?_⟩
  rcases h.at' with q | ⟨b, o, cells, T, fr, hA, hb, hq⟩
  · subst q
    exact .inl (List.eq_nil_of_length_eq_zero (by simpa using hl.symm))
  · refine .inr ⟨b, o, cells, T, fr, hA, h1 _ _ hb, fun i xs hi => ?_⟩
    have hil : i < hs.length := by rw [hl]; exact (List.getElem?_eq_some_iff.1 hi).1
    obtain ⟨cs, q1, q2⟩ := hq i _ (List.getElem?_eq_getElem hil)
    obtain rfl := ok_sc q1
    obtain ⟨r1, r2⟩ := hx.2 i _ xs (List.getElem?_eq_getElem hil) hi
    refine ⟨[.slice hs[i].A hs[i].n hs[i].c], ⟨hs[i].A, hs[i].c, by rw [r1], r2.mono h2⟩, q2⟩
theorem HdsOk.snoc {α : Type} [Rep α] {L L' : Mem} {hs : List Hd} {xss : List (List α)} {h : Hd} {xs : List α} (hx : HdsOk L hs xss) (hL : Mem.le L L') (hn : h.n = xs.length) (hh : SlOk L' h.A h.c xs) : HdsOk L' (hs ++ [h]) (xss ++ [xs]) := by
  refine ⟨by simp [hx.1], fun i y ys h1 h2 => ?_⟩
  have hl := hx.1
  rcases Nat.lt_trichotomy i hs.length with q | q | q
  · rw [List.getElem?_append_left q] at h1
    rw [List.getElem?_append_left (by omega)] at h2
    obtain ⟨r1, r2⟩ := hx.2 i y ys h1 h2
    exact ⟨r1, r2.mono hL⟩
  · subst q
    have h2' : (xss ++ [xs])[xss.length]? = some ys := by rw [← hl]; exact h2
    simp at h1 h2'
    subst h1 h2'
    exact ⟨hn, hh⟩
  · rw [List.getElem?_eq_none (by simp; omega)] at h1; cases h1
theorem HdsOk.set {α : Type} [Rep α] {L L' : Mem} {hs : List Hd} {xss : List (List α)} {h : Hd} {xs : List α} (i : Nat) (hx : HdsOk L hs xss) (hL : Mem.le L L') (hn : h.n = xs.length) (hh : SlOk L' h.A h.c xs) : HdsOk L' (hs.set i h) (xss.set i xs) := by
  refine ⟨by simp [hx.1], fun j y ys h1 h2 => ?_⟩
  by_cases e : j = i
  · subst e
    have hj : j < hs.length := by simpa using (List.getElem?_eq_some_iff.1 h1).1
    have hj2 : j < xss.length := by rw [← hx.1]; exact hj
    rw [List.getElem?_set_self hj] at h1
    rw [List.getElem?_set_self hj2] at h2
    cases h1; cases h2
    exact ⟨hn, hh⟩
  · rw [List.getElem?_set_ne (fun q => e q.symm)] at h1 h2
    obtain ⟨r1, r2⟩ := hx.2 j y ys h1 h2
    exact ⟨r1, r2.mono hL⟩
theorem HdsOk.made {α : Type} [Rep α] (L : Mem) (n : Nat) : HdsOk (α := α) L (List.replicate n ⟨none, 0, 0⟩) (List.replicate n []) := by
  refine ⟨by simp, fun i h xs h1 h2 => ?_⟩
  rw [List.getElem?_replicate] at h1 h2
  split at h1
  · rename_i q
    rw [if_pos q] at h2
    cases h1; cases h2
    exact ⟨rfl, SlOk.nil⟩
  · cases h1

/-! growing rows: each header's row is one of the heaps gs -/
def RowsG (gs : List PH) (hs : List Hd) (xss : List (List Nat)) : Prop := gs.length = xss.length ∧ hs.length = xss.length ∧ ∀ (i : Nat) (g : PH) (h : Hd) (xs : List Nat), gs[i]? = some g → hs[i]? = some h → xss[i]? = some xs → h.n = xs.length ∧ Bld g (lk []) 3 h.v xs
theorem RowsG.made (n : Nat) : RowsG (List.replicate n V.emp) (List.replicate n ⟨none, 0, 0⟩) (List.replicate n []) := by
  refine ⟨by simp, by simp, fun i g h xs h0 h1 h2 => ?_⟩
  rw [List.getElem?_replicate] at h0 h1 h2
  split at h1
  · rename_i q
    rw [if_pos q] at h0 h2
    cases h0; cases h1; cases h2
    exact ⟨rfl, Bld.nil _ _ _⟩
  · cases h1
theorem RowsG.put {gs : List PH} {hs : List Hd} {xss : List (List Nat)} (h : RowsG gs hs xss) {i : Nat} {g : PH} {y : Hd} {ys : List Nat} (hn : y.n = ys.length) (hb : Bld g (lk []) 3 y.v ys) : RowsG (gs.set i g) (hs.set i y) (xss.set i ys) := by
  refine ⟨by simp [h.1], by simp [h.2.1], fun j g' x xs h0 h1 h2 => ?_⟩
  by_cases e : j = i
  · subst e
    have hj : j < hs.length := by simpa using (List.getElem?_eq_some_iff.1 h1).1
    have h3 := h.1
    have h4 := h.2.1
    rw [List.getElem?_set_self (by omega)] at h0 h1 h2
    cases h0; cases h1; cases h2
    exact ⟨hn, hb⟩
  · rw [List.getElem?_set_ne (fun q => e q.symm)] at h0 h1 h2
    exact h.2.2 j g' x xs h0 h1 h2
theorem RowsG.at' {gs : List PH} {hs : List Hd} {xss : List (List Nat)} (h : RowsG gs hs xss) {i : Nat} (hi : i < xss.length) : ∃ g y, gs[i]? = some g ∧ hs[i]? = some y ∧ y.n = xss[i].length ∧ Bld g (lk []) 3 y.v xss[i] := by
  have h3 := h.1
  have h4 := h.2.1
  have h1 := h.2.2 i _ _ _ (List.getElem?_eq_getElem (by omega)) (List.getElem?_eq_getElem (by omega)) (List.getElem?_eq_getElem hi)
  exact ⟨_, _, List.getElem?_eq_getElem (by omega), List.getElem?_eq_getElem (by omega), h1.1, h1.2⟩
section
variable {P : Program} {Γr : Ctx} {d : Option Nat} {r : List SOper} {φ : Fr} {Γ : Ctx} {K : Fr → Ctx → Prop}
end
theorem Ent.emps (Γ : Ctx) : ∀ n, Ent Γ (List.replicate n V.emp ++ Γ)
  | 0 => Ent.refl Γ
  | n + 1 => (Ent.emps Γ n).trans (by rw [List.replicate_succ]; exact Ent.emp _)
theorem Up.perm {Γ Γ' : Ctx} {Φ : Ctx → Prop} (hp : Γ.Perm Γ') (h : Up Γ' Φ) : Up Γ Φ := fun ha => by
  obtain ⟨Γ2, q1, q2⟩ := h ((Ent.perm hp).apart ha)
  exact ⟨Γ2, (Ent.perm hp).trans q1, q2⟩
/- Rows of grids; no condition. -/
/-- grids, whose outer arrays are bs -/
def Cube {α : Type} [Sc α] (g : PH) (T e : TypeId) (bs : List Nat) (x3 : List (List (List α))) : Prop :=
  ∃ gs : List PH, gs.length = x3.length ∧ bs.length = x3.length ∧ gs.Pairwise Disj ∧ (∀ x ∈ gs, Mem.le (lk [x]) (lk [g])) ∧
    ∀ (i : Nat) (x : PH) (b : Nat) (rows : List (List α)), gs[i]? = some x → bs[i]? = some b → x3[i]? = some rows → Grid x b T e rows
theorem Cube.nil {α : Type} [Sc α] (g : PH) (T e : TypeId) : Cube g T e [] ([] : List (List (List α))) :=
  ⟨[], rfl, rfl, by simp, by simp, fun i x b rows h => by simp at h⟩
theorem Cube.mono {α : Type} [Sc α] {g g' : PH} {T e : TypeId} {bs : List Nat} {x3 : List (List (List α))} (h : Cube g T e bs x3) (hl : Mem.le (lk [g]) (lk [g'])) : Cube g' T e bs x3 := by
  obtain ⟨gs, h1, h2, h3, h4, h5⟩ := h
  exact ⟨gs, h1, h2, h3, fun x hx => (h4 x hx).trans hl, h5⟩
theorem Cube.snoc {α : Type} [Sc α] {g G x : PH} {T e : TypeId} {bs : List Nat} {x3 : List (List (List α))} {b : Nat} {rows : List (List α)} (h : Cube g T e bs x3) (hx : Grid x b T e rows) (hd : Disj g x) (hG : Mem.le (lk [g, x]) (lk [G])) : Cube G T e (bs ++ [b]) (x3 ++ [rows]) := by
  obtain ⟨gs, h1, h2, h3, h4, h5⟩ := h
  have hg : Mem.le (lk [g]) (lk [G]) := Mem.le.trans (lk_sub (by simp)) hG
  have hxG : Mem.le (lk [x]) (lk [G]) := Mem.le.trans (lk_sub (by simp)) hG
  refine ⟨gs ++ [x], by simp [h1], by simp [h2], List.pairwise_append.2 ⟨h3, by simp, fun y hy z hz => ?_⟩, fun y hy => ?_, fun i y b' rows' q1 q2 q3 => ?_⟩
  · simp at hz
    subst hz
    intro k
    rcases hd k with q | q
    · cases hyk : y k with
      | none => exact .inl rfl
      | some o =>
        have := lk_one.1 (h4 y hy k o (lk_one.2 hyk))
        rw [q] at this
        cases this
    · exact .inr q
  · rcases List.mem_append.1 hy with hy | hy
    · exact (h4 y hy).trans hg
    · simp at hy
      subst hy
      exact hxG
  · rcases Nat.lt_trichotomy i x3.length with q | q | q
    · rw [List.getElem?_append_left (by omega)] at q1 q2 q3
      exact h5 i y b' rows' q1 q2 q3
    · subst q
      have e1 : (gs ++ [x])[gs.length]? = some y := by rw [h1]; exact q1
      have e2 : (bs ++ [b])[bs.length]? = some b' := by rw [h2]; exact q2
      simp at e1 e2 q3
      subst e1 e2 q3
      exact hx
    · rw [List.getElem?_eq_none (by simp; omega)] at q3
      cases q3
/-- rows[i][p] is to be read or changed -/
theorem Cube.at' {α : Type} [Sc α] {g : PH} {T e : TypeId} {bs : List Nat} {x3 : List (List (List α))} (h : Cube g T e bs x3) {i p b : Nat} {rows : List (List α)} (hb : bs[i]? = some b) (hi : x3[i]? = some rows) (hp : p < rows.length) (hpos : 0 < rows[p].length) :
    ∃ k, (∀ Γ : Ctx, Mem.le (lk [g]) (lk Γ) → Cells Γ b p [.slice (some ⟨k, 0, none⟩) rows[p].length rows[p].length]) ∧ Arr g k e rows[p] ∧
      ∀ g' (xs : List α), Arr g' k e xs → xs.length = rows[p].length → (∀ x, x ≠ k → g' x = g x) → Cube g' T e bs (x3.set i (rows.set p xs)) := by
  obtain ⟨gs, h1, h2, h3, h4, h5⟩ := h
  have hil := (List.getElem?_eq_some_iff.1 hi).1
  obtain ⟨x, hx⟩ : ∃ x, gs[i]? = some x := ⟨_, List.getElem?_eq_getElem (by omega)⟩
  obtain ⟨k, q1, q2, q3⟩ := (h5 i x b rows hx hb hi).at' hp hpos
  have hxm := List.mem_of_getElem? hx
  have up : ∀ y ∈ gs, ∀ k o, y k = some o → g k = some o := fun y hy k o q => lk_one.1 (h4 y hy _ _ (lk_one.2 q))
  refine ⟨k, fun Γ hΓ => ?_, up x hxm _ _ q2, fun g' xs hA hl ho => ?_⟩
  · obtain ⟨y, hy, cells, T', fr, r1, r2⟩ := q1 [x] (by simp)
    simp at hy
    subst hy
    obtain ⟨z, hz, r3⟩ := hΓ _ _ (h4 _ hxm _ _ (lk_one.2 r1))
    exact ⟨z, hz, cells, T', fr, r3, r2⟩
  · have hdj : ∀ (j : Nat) (y : PH), j ≠ i → gs[j]? = some y → y k = none := fun j y hj hy => by
      have hjl := (List.getElem?_eq_some_iff.1 hy).1
      have hxl := (List.getElem?_eq_some_iff.1 hx).1
      have hy' := (List.getElem?_eq_some_iff.1 hy).2
      have hx' := (List.getElem?_eq_some_iff.1 hx).2
      rcases Nat.lt_or_ge j i with q | q
      · have := List.pairwise_iff_getElem.1 h3 j i hjl hxl q k
        rw [hy', hx'] at this
        rcases this with w | w
        · exact w
        · rw [Arr] at q2; rw [q2] at w; cases w
      · have := List.pairwise_iff_getElem.1 h3 i j hxl hjl (by omega) k
        rw [hy', hx'] at this
        rcases this with w | w
        · rw [Arr] at q2; rw [q2] at w; cases w
        · exact w
    have hgi := q3 (upd x k (.cells (xs.map Sc.enc).toArray e)) xs (upd_self _ _ _) hl (fun y hy => upd_other hy)
    have hxl := (List.getElem?_eq_some_iff.1 hx).1
    refine ⟨gs.set i (upd x k (.cells (xs.map Sc.enc).toArray e)), by simp [h1], by simp [h2], ?_, ?_, ?_⟩
    · refine List.pairwise_iff_getElem.2 fun a b ha hb hab => ?_
      have ha' : a < gs.length := by simpa using ha
      have hb' : b < gs.length := by simpa using hb
      have base := List.pairwise_iff_getElem.1 h3 a b ha' hb' hab
      rw [List.getElem_set, List.getElem_set]
      by_cases ea : i = a
      · subst ea
        rw [if_pos rfl, if_neg (by omega)]
        intro m
        by_cases em : m = k
        · subst em
          exact .inr (hdj b _ (by omega) (List.getElem?_eq_getElem hb'))
        · rw [upd_other em]
          have hx' := (List.getElem?_eq_some_iff.1 hx).2
          rw [hx'] at base
          exact base m
      · rw [if_neg ea]
        by_cases eb : i = b
        · subst eb
          rw [if_pos rfl]
          intro m
          by_cases em : m = k
          · subst em
            exact .inl (hdj a _ (by omega) (List.getElem?_eq_getElem ha'))
          · rw [upd_other em]
            have hx' := (List.getElem?_eq_some_iff.1 hx).2
            rw [hx'] at base
            exact base m
        · rw [if_neg eb]
          exact base
    · intro y hy
      obtain ⟨j, hj, rfl⟩ := List.getElem_of_mem hy
      have hj' : j < gs.length := by simpa using hj
      rw [List.getElem_set]
      intro m o hm
      have hm := lk_one.1 hm
      refine lk_one.2 ?_
      by_cases ej : i = j
      · rw [if_pos ej] at hm
        by_cases em : m = k
        · subst em
          rw [upd_self] at hm
          cases hm
          exact hA
        · rw [upd_other em] at hm
          rw [ho m em]
          exact up x hxm _ _ hm
      · rw [if_neg ej] at hm
        have em : m ≠ k := fun q => by
          subst q
          rw [hdj j _ (fun q => ej q.symm) (List.getElem?_eq_getElem hj')] at hm
          cases hm
        rw [ho m em]
        exact up _ (List.getElem_mem hj') _ _ hm
    · intro j y b' rows' r1 r2 r3
      rw [List.getElem?_set] at r1 r3
      by_cases ej : i = j
      · subst ej
        rw [if_pos rfl, if_pos (by omega)] at r1 r3
        cases r1; cases r3
        rw [hb] at r2
        cases r2
        exact hgi
      · rw [if_neg ej] at r1 r3
        exact h5 j y b' rows' r1 r2 r3
theorem Cube.ne {α : Type} [Sc α] {g : PH} {T e : TypeId} {bs : List Nat} {x3 : List (List (List α))} (h : Cube g T e bs x3) {i b k : Nat} {rows : List (List α)} (hb : bs[i]? = some b) (hi : x3[i]? = some rows) (hTe : T ≠ e) {xs : List α} (hA : Arr g k e xs) : b ≠ k := by
  intro q
  subst q
  obtain ⟨gs, h1, h2, h3, h4, h5⟩ := h
  have hil := (List.getElem?_eq_some_iff.1 hi).1
  obtain ⟨x, hx⟩ : ∃ x, gs[i]? = some x := ⟨_, List.getElem?_eq_getElem (by omega)⟩
  obtain ⟨ps, hB, _⟩ := h5 i x b rows hx hb hi
  have := lk_one.1 (h4 x (List.mem_of_getElem? hx) _ _ (lk_one.2 hB.out))
  rw [Arr] at hA
  rw [hA] at this
  simp at this
  exact hTe this.2.symm
/-! a block is taken out of a heap, and put back -/
def del (g : PH) (k : Nat) : PH := fun x => if x = k then none else g x
theorem del_self (g : PH) (k : Nat) : del g k k = none := by simp [del]
theorem del_other {g : PH} {k x : Nat} (h : x ≠ k) : del g k x = g x := by simp [del, h]
theorem Ent.cut {g : PH} {k : Nat} {o : Obj} (h : g k = some o) : Ent [g] [one k o, del g k] := by
  refine ⟨fun x hx m o' hm => ⟨g, by simp, ?_⟩, fun _ => ?_⟩
  · simp at hx
    rcases hx with rfl | rfl
    · by_cases e : m = k
      · subst e; rw [one_self] at hm; rw [h]; exact hm
      · rw [one_none e] at hm; cases hm
    · by_cases e : m = k
      · subst e; rw [del_self] at hm; cases hm
      · rw [del_other e] at hm; exact hm
  · refine List.pairwise_cons.2 ⟨fun x hx m => ?_, by simp⟩
    simp at hx
    subst hx
    by_cases e : m = k
    · subst e; exact .inr (del_self _ _)
    · exact .inl (one_none e)
theorem Ent.mend {g x : PH} {k : Nat} {o : Obj} (hx : x k = some o) : Ent [x, del g k] [upd g k o] := by
  refine ⟨fun y hy m o' hm => ?_, fun _ => by simp⟩
  simp at hy
  subst hy
  by_cases e : m = k
  · subst e; rw [upd_self] at hm; exact ⟨x, by simp, by rw [hx]; exact hm⟩
  · rw [upd_other e] at hm; exact ⟨del g k, by simp, by rw [del_other e]; exact hm⟩
theorem lk_cut {g : PH} {k : Nat} {o : Obj} (h : g k = some o) : Mem.le (lk [g]) (lk [one k o, del g k]) := fun m o' hm => by
  have hm := lk_one.1 hm
  by_cases e : m = k
  · subst e
    rw [h] at hm
    exact ⟨one m o, by simp, by rw [one_self]; exact hm⟩
  · exact ⟨del g k, by simp, by rw [del_other e]; exact hm⟩
theorem Cells.del' {g : PH} {k b p : Nat} {vs : List Value} (h : Cells [g] b p vs) (hne : b ≠ k) {Γ : Ctx} (hΓ : del g k ∈ Γ) : Cells Γ b p vs := by
  obtain ⟨y, hy, cells, T', fr, r1, r2⟩ := h
  simp at hy
  subst hy
  exact ⟨_, hΓ, cells, T', fr, by rw [del_other hne]; exact r1, r2⟩
theorem cells_up {g : PH} {b o : Nat} {vs : List Value} (h : Cells [g] b o vs) {Γ : Ctx} (hl : Mem.le (lk [g]) (lk Γ)) : Cells Γ b o vs := by
  obtain ⟨y, hy, cells, T', fr, r1, r2⟩ := h
  simp at hy
  subst hy
  obtain ⟨z, hz, r3⟩ := hl _ _ (lk_one.2 r1)
  exact ⟨z, hz, cells, T', fr, r3, r2⟩
end Go.Proofs.Ytniobbepliknmaa.V
/- The text of (*parlance/census.table).sym as a statement (slots: 0 t, 1 s, 2 k, 3 t, 4 s, 5 k); no condition. -/
namespace Go.Proofs.Ytniobbepliknmaa.V
open Go
def S207_0 : Stmt :=
 .seq
 (.region
 [.mk (some 4) none (.box true 39 (.tmp 1)),
 .mk (some 6) none (.mv (.const (.bool false)))]
 [0,2,4])
 (.seq
 (.seq
 (.region
 [.mk (some 7) none (.fld 0 (.tmp 4)),.mk (some 8) none (.load false 1 (.tmp 7))]
 [0,2,4,8])
 (.cond (.tmp 8)
 (.seq
 (.region
 [.mk (some 9) none (.mv (.tmp 2)),
 .mk (some 10) none (.ibin .eql (.tmp 9) (.const (.int .i64 1))),
 .mk (some 6) none (.mv (.tmp 10))]
 [6])
 .ret)
 .skip))
 (.seq
 (.quiet
 [.mk (some 11) none (.mv (.tmp 0)),.mk (some 12) none (.nilCheck (.tmp 11)),
 .mk (some 13) none (.fld 5 (.tmp 12)),
 .mk (some 14) none (.load false 1 (.tmp 13)),
 .mk (some 15) none (.fld 1 (.tmp 4)),
 .mk (some 16) none (.load false 1 (.tmp 15)),
 .mk (some 17) none (.idx 1 (.tmp 14) (.tmp 16)),
 .mk (some 18) none (.load false 1 (.tmp 17)),.mk (some 19) none (.mv (.tmp 2)),
 .mk (some 20) none (.idx 1 (.tmp 18) (.tmp 19)),
 .mk (some 21) none (.load false 1 (.tmp 20)),.mk (some 6) none (.mv (.tmp 21))]
 [6])
 .ret))
def S207 : FnS := ⟨22,[(6,none)],S207_0⟩
theorem tr207 : trFn Try.prog 207 [4] [[0,2,4],[0,2,4,8],[6],[6]] = some S207 := by kernel_rfl
end Go.Proofs.Ytniobbepliknmaa.V
/- The text of (*parlance/census.table).end as a statement (slots: 0 t, 1 i, 2 t, 3 i, 4 l, 5 p, 6 k, 7 j); no condition. -/
namespace Go.Proofs.Ytniobbepliknmaa.V
open Go
def S186_1 : Stmt :=
 .seq
 (.region [.mk (some 47) none (.ibin .lss (.tmp 46) (.tmp 45))]
 [0,1,4,5,6,40,41,45,46,47])
 (.seq (.cond (.tmp 47) .skip (.exit 4))
 (.seq
 (.block 5
 (.seq
 (.region
 [.mk (some 48) none (.mv (.tmp 46)),.mk (some 7) none (.mv (.tmp 48))]
 [0,1,4,5,6,7,40,41,45,46])
 (.drawn
 [(false,.mk (some 49) none (.mv (.tmp 0))),
 (false,.mk (some 50) none (.nilCheck (.tmp 49))),
 (false,.mk (some 51) none (.fld 8 (.tmp 50))),
 (true,.mk (some 52) none (.load false 1 (.tmp 51))),
 (false,.mk (some 53) none (.mv (.tmp 1))),
 (false,.mk (some 54) none (.idx 1 (.tmp 52) (.tmp 53))),
 (true,.mk (some 55) none (.load false 1 (.tmp 54))),
 (false,.mk (some 56) none (.mv (.tmp 5))),
 (false,.mk (some 57) none (.idx 1 (.tmp 55) (.tmp 56))),
 (true,.mk (some 58) none (.load false 1 (.tmp 57))),
 (false,.mk (some 59) none (.mv (.tmp 6))),
 (false,.mk (some 60) none (.mv (.tmp 0))),
 (false,.mk (some 61) none (.nilCheck (.tmp 60))),
 (false,.mk (some 62) none (.fld 8 (.tmp 61))),
 (false,.mk (some 63) none (.load false 1 (.tmp 62))),
 (false,.mk (some 64) none (.mv (.tmp 1))),
 (false,.mk (some 65) none (.idx 1 (.tmp 63) (.tmp 64))),
 (false,.mk (some 66) none (.load false 1 (.tmp 65))),
 (false,.mk (some 67) none (.mv (.tmp 5))),
 (false,.mk (some 68) none (.idx 1 (.tmp 66) (.tmp 67))),
 (false,.mk (some 69) none (.load false 1 (.tmp 68))),
 (false,.mk (some 70) none (.mv (.tmp 6))),
 (false,.mk (some 71) none (.idx 1 (.tmp 69) (.tmp 70))),
 (false,.mk (some 72) none (.load false 1 (.tmp 71))),
 (false,.mk (some 73) none (.mv (.tmp 72))),
 (false,.mk (some 74) (some (73,false)) (.mv (.tmp 0))),
 (false,.mk (some 75) (some (73,false)) (.mv (.tmp 4))),
 (false,.mk (some 76) (some (73,false)) (.mv (.tmp 5))),
 (false,.mk (some 77) (some (73,false)) (.idx 2 (.tmp 75) (.tmp 76))),
 (false,.mk (some 78) (some (73,false)) (.load true 2 (.tmp 77))),
 (false,.mk (some 79) (some (73,false)) (.mv (.tmp 7))),
 (false,
 .mk (some 80) (some (73,false))
 (.call (.func 207) [.tmp 74,.tmp 78,.tmp 79])),
 (false,.mk (some 81) (some (73,false)) (.mv (.tmp 80))),
 (false,.mk (some 82) (some (81,true)) (.mv (.tmp 0))),
 (false,.mk (some 83) (some (81,true)) (.nilCheck (.tmp 82))),
 (false,.mk (some 84) (some (81,true)) (.fld 8 (.tmp 83))),
 (false,.mk (some 85) (some (81,true)) (.load false 1 (.tmp 84))),
 (false,.mk (some 86) (some (81,true)) (.mv (.tmp 1))),
 (false,.mk (some 87) (some (81,true)) (.idx 1 (.tmp 85) (.tmp 86))),
 (false,.mk (some 88) (some (81,true)) (.load false 1 (.tmp 87))),
 (false,.mk (some 89) (some (81,true)) (.mv (.tmp 5))),
 (false,
 .mk (some 90) (some (81,true))
 (.ibin .add (.tmp 89) (.const (.int .i64 1)))),
 (false,.mk (some 91) (some (81,true)) (.idx 1 (.tmp 88) (.tmp 90))),
 (false,.mk (some 92) (some (81,true)) (.load false 1 (.tmp 91))),
 (false,.mk (some 93) (some (81,true)) (.mv (.tmp 6))),
 (false,.mk (some 94) (some (81,true)) (.mv (.tmp 7))),
 (false,.mk (some 95) (some (81,true)) (.ibin .sub (.tmp 93) (.tmp 94))),
 (false,.mk (some 96) (some (81,true)) (.idx 1 (.tmp 92) (.tmp 95))),
 (false,.mk (some 97) (some (81,true)) (.load false 1 (.tmp 96))),
 (false,
 .mk (some 98) (some (73,false))
 (.pick (.tmp 81) (.tmp 97) (.const (.bool false)))),
 (false,
 .mk (some 99) none (.pick (.tmp 73) (.const (.bool true)) (.tmp 98))),
 (false,.mk (some 100) none (.idx 1 (.tmp 58) (.tmp 59))),
 (false,.mk none none (.store 1 (.tmp 100) (.tmp 99)))]
 [0,1,4,5,6,40,41,45,46])))
 (.region
 [.mk (some 101) none (.ibin .add (.tmp 46) (.const (.int .i64 1))),
 .mk (some 46) none (.mv (.tmp 101))]
 [0,1,4,5,6,40,41,45,46])))
def S186_2 : Stmt :=
 .seq
 (.region [.mk (some 42) none (.ibin .lss (.tmp 41) (.tmp 40))]
 [0,1,4,5,40,41,42])
 (.seq (.cond (.tmp 42) .skip (.exit 2))
 (.seq
 (.block 3
 (.seq
 (.region
 [.mk (some 43) none (.mv (.tmp 41)),.mk (some 6) none (.mv (.tmp 43))]
 [0,1,4,5,6,40,41])
 (.seq
 (.region
 [.mk (some 44) none (.mv (.tmp 6)),
 .mk (some 45) none (.ibin .add (.tmp 44) (.const (.int .i64 1))),
 .mk (some 46) none (.mv (.const (.int .i64 0)))]
 [0,1,4,5,6,40,41,45,46])
 (.block 4 (.loop S186_1 [46] [0,1,4,5,6,40,41,45])))))
 (.region
 [.mk (some 102) none (.ibin .add (.tmp 41) (.const (.int .i64 1))),
 .mk (some 41) none (.mv (.tmp 102))]
 [0,1,4,5,40,41])))
def S186_3 : Stmt :=
 .seq
 (.seq
 (.region
 [.mk (some 32) none (.mv (.tmp 5)),
 .mk (some 33) none (.ibin .geq (.tmp 32) (.const (.int .i64 0)))]
 [0,1,4,5,33])
 (.cond (.tmp 33) .skip (.exit 0)))
 (.seq
 (.block 1
 (.seq
 (.region
 [.mk (some 36) none (.mv (.tmp 0)),.mk (some 37) none (.nilCheck (.tmp 36)),
 .mk (some 38) none (.fld 4 (.tmp 37)),
 .mk (some 39) none (.load false 1 (.tmp 38)),
 .mk (some 40) none (.ibin .add (.tmp 39) (.const (.int .i64 1))),
 .mk (some 41) none (.mv (.const (.int .i64 0)))]
 [0,1,4,5,40,41])
 (.block 2 (.loop S186_2 [41] [0,1,4,5,40]))))
 (.region
 [.mk (some 34) none (.mv (.tmp 5)),
 .mk (some 35) none (.ibin .sub (.tmp 34) (.const (.int .i64 1))),
 .mk (some 5) none (.mv (.tmp 35))]
 [0,1,4,5]))
def S186_0 : Stmt :=
 .seq
 (.region
 [.mk (some 8) none (.mv (.tmp 0)),.mk (some 9) none (.nilCheck (.tmp 8)),
 .mk (some 10) none (.fld 0 (.tmp 9)),.mk (some 11) none (.fld 3 (.tmp 10)),
 .mk (some 12) none (.load false 1 (.tmp 11)),.mk (some 13) none (.mv (.tmp 1)),
 .mk (some 14) none (.idx 2 (.tmp 12) (.tmp 13)),
 .mk (some 15) none (.fld 1 (.tmp 14)),.mk (some 16) none (.load false 1 (.tmp 15)),
 .mk (some 4) none (.mv (.tmp 16))]
 [0,1,4])
 (.seq
 (.region
 [.mk (some 17) none (.mv (.tmp 0)),.mk (some 18) none (.nilCheck (.tmp 17)),
 .mk (some 19) none (.fld 8 (.tmp 18)),
 .mk (some 20) none (.load false 1 (.tmp 19)),.mk (some 21) none (.mv (.tmp 1)),
 .mk (some 22) none (.idx 1 (.tmp 20) (.tmp 21)),
 .mk (some 23) none (.load false 1 (.tmp 22)),.mk (some 24) none (.mv (.tmp 4)),
 .mk (some 25) none (.len false (.tmp 24)),
 .mk (some 26) none (.idx 1 (.tmp 23) (.tmp 25)),
 .mk (some 27) none (.load false 1 (.tmp 26)),
 .mk (some 28) none (.idx 1 (.tmp 27) (.const (.int .i64 0))),
 .mk none none (.store 1 (.tmp 28) (.const (.bool true)))]
 [0,1,4])
 (.seq
 (.region
 [.mk (some 29) none (.mv (.tmp 4)),.mk (some 30) none (.len false (.tmp 29)),
 .mk (some 31) none (.ibin .sub (.tmp 30) (.const (.int .i64 1))),
 .mk (some 5) none (.mv (.tmp 31))]
 [0,1,4,5])
 (.block 0 (.loop S186_3 [5] [0,1,4]))))
def S186 : FnS := ⟨103,[],S186_0⟩
theorem tr186 : trFn Try.prog 186 [] [[0,1,4],[0,1,4],[0,1,4,5],[5],[0,1,4],[0,1,4,5,33],[0,1,4,5,40,41],[41],[0,1,4,5,40],[0,1,4,5,40,41,42],[0,1,4,5,6,40,41],[0,1,4,5,6,40,41,45,46],[46],[0,1,4,5,6,40,41,45],[0,1,4,5,6,40,41,45,46,47],[0,1,4,5,6,7,40,41,45,46],[0,1,4,5,6,40,41,45,46],[0,1,2,3,4,5,6,7,8,9,10,11,12,13,14,15,16,17,18,19,20,21,22,23,24,25,26,27,28,29,30,31,32,33,34,35,36,37,38,39,40,41,42,43,44,45,46,47,48,49,50,51,52],[3,6,9],[],[0],[0,1],[0,1,2],[],[0,1,2,3,4],[0,1,2,3,4,5],[],[0,1,2,3,4,5,6,7],[0,1,2,3,4,5,6,7,8],[],[],[11],[11,12],[11,12,13],[],[11,12,13,14,15],[11,12,13,14,15,16],[],[11,12,13,14,15,16,17,18],[11,12,13,14,15,16,17,18,19],[],[11,12,13,14,15,16,17,18,19,20,21],[11,12,13,14,15,16,17,18,19,20,21,22],[11,12,13,14,15,16,17,18,19,20,21,22,23],[11,12,13,14,15,16,17,18,19,20,21,22,23,24],[11,12,13,14,15,16,17,18,19,20,21,22,23,24],[11,12,13,14,15,16,17,18,19,20,21,22,23,24],[11,12,13,14,15,16,17,18,19,20,21,22,23,24,26,27],[11,12,13,14,15,16,17,18,19,20,21,22,23,24,26,27,28],[11,12,13,14,15,16,17,18,19,20,21,22,23,24],[11,12,13,14,15,16,17,18,19,20,21,22,23,24,25,26,27,28,29,30],[11,12,13,14,15,16,17,18,19,20,21,22,23,24,25,26,27,28,29,30,31],[11,12,13,14,15,16,17,18,19,20,21,22,23,24,25,26,27,28,29,30,31,32],[11,12,13,14,15,16,17,18,19,20,21,22,23,24,25,26,27,28,29,30,31,32,33],[11,12,13,14,15,16,17,18,19,20,21,22,23,24,25,26,27,28,29,30,31,32,33,34],[11,12,13,14,15,16,17,18,19,20,21,22,23,24,25,26,27,28,29,30,31,32,33,34,35],[11,12,13,14,15,16,17,18,19,20,21,22,23,24,25,26,27,28,29,30,31,32],[11,12,13,14,15,16,17,18,19,20,21,22,23,24,25,26,27,28,29,30,31,32,33,34,35,36,37],[11,12,13,14,15,16,17,18,19,20,21,22,23,24,25,26,27,28,29,30,31,32,33,34,35,36,37,38],[11,12,13,14,15,16,17,18,19,20,21,22,23,24,25,26,27,28,29,30,31,32],[11,12,13,14,15,16,17,18,19,20,21,22,23,24,25,26,27,28,29,30,31,32,40],[11,12,13,14,15,16,17,18,19,20,21,22,23,24,25,26,27,28,29,30,31,32,33,34,35,36,37,38,39,40,41],[11,12,13,14,15,16,17,18,19,20,21,22,23,24,25,26,27,28,29,30,31,32,33,34,35,36,37,38,39,40,41,42],[11,12,13,14,15,16,17,18,19,20,21,22,23,24,25,26,27,28,29,30,31,32],[11,12,13,14,15,16,17,18,19,20,21,22,23,24,25,26,27,28,29,30,31,32],[11,12,13,14,15,16,17,18,19,20,21,22,23,24,25,26,27,28,29,30,31,32,44,45],[11,12,13,14,15,16,17,18,19,20,21,22,23,24,25,26,27,28,29,30,31,32,33,34,35,36,37,38,39,40,41,42,43,44,45,46],[11,12,13,14,15,16,17,18,19,20,21,22,23,24,25,26,27,28,29,30,31,32,33,34,35,36,37,38,39,40,41,42,43,44,45,46,47],[11,12,13,14,15,16,17,18,19,20,21,22,23,24,25,26,27,28,29,30,31,32,33,34,35,36,37,38,39,40,41,42,43,44,45,46,47,48],[11,12,13,14,15,16,17,18,19,20,21,22,23,24,25,26,27,28,29,30,31,32,33,34,35,36,37,38,39,40,41,42,43,44,45,46,47,48,49],[0,1,2,3,4,5,6,7,8,9,10,11,12,13,14,15,16,17,18,19,20,21,22,23,24,25,26,27,28,29,30,31,32,33,34,35,36,37,38,39,40,41,42,43,44,45,46,47,48,49,50],[0,1,2,3,4,5,6,7,8,9,10,11,12,13,14,15,16,17,18,19,20,21,22,23,24,25,26,27,28,29,30,31,32,33,34,35,36,37,38,39,40,41,42,43,44,45,46,47,48,49,50,51],[0,1,4,5,6,40,41,45,46],[0,1,4,5,40,41],[0,1,4,5]] = some S186 := by kernel_rfl
end Go.Proofs.Ytniobbepliknmaa.V
namespace Go.Proofs.Ytniobbepliknmaa.V
open Go
set_option linter.unusedVariables false
set_option linter.unusedSimpArgs false
/- census: the table, sym, end walked; no condition. -/
attribute [local go_sem] e_seq e_region e_quiet e_join e_loop e_cond e_block e_exit e_ret e_skip e_fin e_kseq e_snrm e_sret e_sex e_bnrm e_bret e_bex e_rnrm e_rret e_res e_condC e_nil e_g e_mv g_mv e_pick g_pick pickC_eq e_ibin g_ibin ibinC_eq e_sbin g_sbin e_beq g_beq beqC_eq e_nilq g_nilq nilqC_sl nilqC_pt nilqC_mp e_un g_un unC_not unC_neg e_conv g_conv convC_eq e_fld g_fld fldC_ref fldC_ptr e_nilCheck g_nilCheck nilCheckC_ref nilCheckC_ptr nilCheckC_fun e_field g_field fieldC_eq e_len g_len lenC_sl lenC_str e_extract g_extract extractC_eq e_mkFunc e_build g_build e_idiv g_idiv idivC_eq e_ishift g_ishift ishiftC_eq e_idx g_idx e_idxA g_idxA e_load g_load e_loadB g_loadB atB_ref atB_v g_mkFunc loadC_ref loadC_ptr loadB_eq e_slc g_slc e_box boxC_loc boxC_esc e_alloc allocC_loc allocC_esc e_buildS e_store storeC_ref storeC_ptr storeB_eq e_append e_appz e_mk mkC_eq e_call callC_eq e_fn g_fn fnC_eq fnV_min' fnV_max' fnV_rune' e_q g_q e_a e_n g_call g_box g_alloc g_buildS g_store g_append g_mk g_a g_n g_dead e_dead e_callK e_drawn e_tree e_finJ e_tk e_tfin e_tno e_nbt_q e_nbt_qn e_nbt_a e_nbt_an e_nbt_fin e_drawnB e_bxb_nil e_bxb e_stB_none e_stB_some boxSt_store bs_mv bs_pick bs_ibin bs_idiv bs_ishift bs_sbin bs_beq bs_nilq bs_un bs_conv bs_box bs_alloc bs_build bs_buildS bs_load bs_fld bs_nilCheck bs_idx bs_idxA bs_field bs_slc bs_len bs_append bs_appz bs_mk bs_call bs_extract bs_mkFunc bs_fn bs_q bs_a bs_n bs_loadB bs_dead isBox_box e_early_nil e_early_t e_early_f e_nob_nil e_nob_none e_nob_some isBox_dead isBox_v isBox_ref e_dnil e_dk e_ek e_finB vcOps_vc1 e_dcons e_tq e_ekt e_tearly e_talt e_dearly look_nil look_c proj_nil proj_c looks_nil looks_c zip_nil zip_c val_tmp val_const val_func slv_v slv_box slv_ref slot_tmp slot_const slot_func slotL_v slotL_box slotL_ref put_some put_none updBox_c boxSet_box gd_eq slotVals_nil slotVals_c slotVals_b boxV_box boxOn_box slotsOn_nil slotsOn_c slotsOn_b resV_one resV_two vals_nil vals_c allOn_nil allOn_c partOn_nil partOn_c partVals_nil partVals_c fits_nil fits_c fillL_nil fillL_c mkv_one mkv_agg cellsV_agg cellsV_int cellsV_bool cellsV_slice cellsV_string cellsV_pointer cellsV_func cellsV_nilf cellsV_map one'_nil one'_c oc_int oc_bool oc_slice oc_string oc_pointer oc_func oc_nilf oc_map setC_eq iv_add iv_sub iv_mul iv_eql iv_neq iv_lss iv_leq iv_gtr iv_geq iok_add iok_sub iok_mul iok_eql iok_neq iok_lss iok_leq iok_gtr iok_geq pickV_bool args0_nil args0_c bnd_none bnd_some imp_bt imp_bf imp_ebt imp_ebf imp_eb1 imp_np imp_pp beq_tt beq_tf beq_ft beq_ff cond_or cond_and e_round e_meet Int.le_refl Int.toNat_zero decide_true decide_false Bool.or_false Bool.false_or Bool.true_or Bool.or_true Bool.and_false Bool.false_and Bool.bne_false Bool.bne_true beq_iff_eq Int.cast_ofNat_Int not_false_eq_true not_true_eq_false false_and and_false false_implies true_implies true_and and_true Bool.true_and Bool.and_true Bool.not_true Bool.not_false forall_const implies_true List.take_zero List.drop_zero List.take_succ_cons List.drop_succ_cons List.take_nil List.drop_nil List.length_cons List.length_nil List.nil_append List.append_nil List.cons_append Int.toNat_natCast decide_eq_true_eq decide_eq_false_iff_not cond_true cond_false and_self List.getElem?_cons_zero List.getElem?_cons_succ List.set_cons_zero List.set_cons_succ Option.some.injEq exists_eq_left' Nat.zero_add Nat.add_zero Nat.mul_one imp_self true_or or_true or_false false_or Bool.or_eq_true Bool.or_eq_false_iff Bool.and_eq_true Bool.and_eq_false_iff Bool.not_eq_true' Bool.not_eq_false'

/-- where the parts of a table lie -/
structure Tb where
  b : Nat
  bh : Nat
  bl : Nat
  bk : Nat
  Ae : Option Addr
  ce : Nat
  be : List Nat
  Aw : Option Addr
  cw : Nat
  bw : List Nat
/-- headers of grids, one for each rule -/
def hdG (bs : List Nat) (g : Gr) : List Hd := List.zipWith (fun b (r : Ru) => ⟨some ⟨b, 0, none⟩, r.r.length + 1, r.r.length + 1⟩) bs g.rs
theorem hdG_len {bs : List Nat} {g : Gr} (h : bs.length = g.rs.length) : (hdG bs g).length = g.rs.length := by simp [hdG, h]
theorem hdG_at {bs : List Nat} {g : Gr} {i : Nat} {b : Nat} {r : Ru} (hb : bs[i]? = some b) (hr : g.rs[i]? = some r) : (hdG bs g)[i]? = some ⟨some ⟨b, 0, none⟩, r.r.length + 1, r.r.length + 1⟩ := by
  simp [hdG, List.getElem?_zipWith, hb, hr]
def Tb.cells (t : Tb) (g : Gr) (n : Nat) (R : Option Addr) (cR : Nat) (e w : Nat) : List Value :=
  [.int .i64 g.ts, .int .i64 g.ns, .int .i64 g.st, .slice R g.rs.length cR, .int .i64 (n : Int), .slice (some ⟨t.bh, 0, none⟩) g.ns.toNat g.ns.toNat, .slice (some ⟨t.bl, 0, none⟩) g.ns.toNat g.ns.toNat, .slice (some ⟨t.bk, 0, none⟩) g.ns.toNat g.ns.toNat, .slice t.Ae e t.ce, .slice t.Aw w t.cw]
/-- what of a table does not change -/
structure TabK (L : Mem) (t : Tb) (g : Gr) (n : Nat) (R : Option Addr) (cR : Nat) : Prop where
  out : L t.b (.cells (t.cells g n R cR g.rs.length g.rs.length).toArray 245 (0, 0))
  rs : SlOk L R cR g.rs
  ends : SlOk L t.Ae t.ce (hdG t.be g)
  ways : SlOk L t.Aw t.cw (hdG t.bw g)
  be : t.be.length = g.rs.length
  bw : t.bw.length = g.rs.length
theorem TabK.mono {L L' : Mem} {t : Tb} {g : Gr} {n : Nat} {R : Option Addr} {cR : Nat} (h : TabK L t g n R cR) (hl : Mem.le L L') : TabK L' t g n R cR :=
  ⟨hl _ _ h.out, h.rs.mono hl, h.ends.mono hl, h.ways.mono hl, h.be, h.bw⟩
/-- so many rows of so many -/
def Shp {α : Type} (a b : Nat) (rows : List (List α)) : Prop := rows.length = a ∧ ∀ r ∈ rows, r.length = b
theorem Shp.at' {α : Type} {a b : Nat} {rows : List (List α)} (h : Shp a b rows) {i : Nat} (hi : i < rows.length) : rows[i].length = b := h.2 _ (List.getElem_mem hi)
def symB (H : List (List Bool)) (s : Sy) (k : Nat) : Bool := if s.t then decide (k = 1) else mat H s.n.toNat k
theorem tab_sym {Γr : Ctx} {t : Tb} {g : Gr} {n : Nat} {R : Option Addr} {cR : Nat} (hT : TabK (lk Γr) t g n R cR) {H : List (List Bool)} (hH : SlOk (lk Γr) (some ⟨t.bh, 0, none⟩) g.ns.toNat H) (hS : Shp g.ns.toNat (n + 1) H) {s : Sy}
    (hs : s.t = false → 0 ≤ s.n ∧ s.n < g.ns) {k : Nat} (hk : k ≤ n) (hn : n ≤ 24) :
    Ret Try.prog 207 [.pointer (some ⟨t.b, 0, none⟩), .agg #[.bool s.t, .int .i64 s.n], .int .i64 (k : Int)] Γr [] (fun v Γ => Γ = [] ∧ v = .bool (symB H s k)) := by
  generalize hR : (fun (v : Value) (Γ : Ctx) => Γ = [] ∧ v = Value.bool (symB H s k)) = R'
  refine ret_of_vc tr207 (Nat.le_of_ble_eq_true rfl) ?_
  obtain ⟨st, sn⟩ := s
  cases st with
  | true =>
    simp -implicitDefEqProofs only [S207, S207_0, go_sem, Nat.reduceBEq, Nat.reduceAdd, Nat.reduceSub, Nat.reduceMul, Nat.reduceLeDiff, reduceCtorEq, ↓reduceIte, Int.reduceLT, Int.reduceLE, Int.reduceEq, Int.reduceNe]
    refine Up.here ?_
    subst hR
    refine ⟨rfl, ?_⟩
    have : ((k : Int) = 1) ↔ k = 1 := by omega
    simp [symB, this]
  | false =>
    have hs : 0 ≤ sn ∧ sn < g.ns := hs rfl
    simp -implicitDefEqProofs only [S207, S207_0, go_sem, Nat.reduceBEq, Nat.reduceAdd, Nat.reduceSub, Nat.reduceMul, Nat.reduceLeDiff, reduceCtorEq, ↓reduceIte, Int.reduceLT, Int.reduceLE, Int.reduceEq, Int.reduceNe]
    intro b
    refine s_ld (j := 5) (cells_lk hT.out) (by simp [Tb.cells]) (by simp) ?_
    simp -implicitDefEqProofs only [Tb.cells, go_sem, Nat.reduceBEq, Nat.reduceAdd, Nat.reduceSub, Nat.reduceMul, Nat.reduceLeDiff, reduceCtorEq, ↓reduceIte, Int.reduceLT, Int.reduceLE, Int.reduceEq, Int.reduceNe]
    have hHl := hS.1
    obtain ⟨a, ha⟩ : ∃ a : Nat, sn = a := ⟨sn.toNat, by omega⟩
    subst ha
    obtain ⟨b1, o1, h1, A1, c1, hr1, hc1⟩ := hH.list (i := a) (by omega)
    have hrl := hS.at' (i := a) (by omega)
    refine s_idx h1 (by omega) (by omega) ?_
    simp -implicitDefEqProofs only [go_sem, Nat.reduceBEq, Nat.reduceAdd, Nat.reduceSub, Nat.reduceMul, Nat.reduceLeDiff, reduceCtorEq, ↓reduceIte, Int.reduceLT, Int.reduceLE, Int.reduceEq, Int.reduceNe]
    refine s_ld0 (hc1 _ (lk_r [] _)) (by simp) (by simp) ?_
    simp -implicitDefEqProofs only [go_sem, Nat.reduceBEq, Nat.reduceAdd, Nat.reduceSub, Nat.reduceMul, Nat.reduceLeDiff, reduceCtorEq, ↓reduceIte, Int.reduceLT, Int.reduceLE, Int.reduceEq, Int.reduceNe]
    obtain ⟨b2, o2, h2, hc2⟩ := hr1.bool (i := k) (by omega)
    refine s_idx h2 (by omega) (by omega) ?_
    simp -implicitDefEqProofs only [go_sem, Nat.reduceBEq, Nat.reduceAdd, Nat.reduceSub, Nat.reduceMul, Nat.reduceLeDiff, reduceCtorEq, ↓reduceIte, Int.reduceLT, Int.reduceLE, Int.reduceEq, Int.reduceNe]
    refine s_ld0 (hc2 _ (lk_r [] _)) (by simp) (by simp) ?_
    simp -implicitDefEqProofs only [go_sem, Nat.reduceBEq, Nat.reduceAdd, Nat.reduceSub, Nat.reduceMul, Nat.reduceLeDiff, reduceCtorEq, ↓reduceIte, Int.reduceLT, Int.reduceLE, Int.reduceEq, Int.reduceNe]
    refine Up.here ?_
    subst hR
    refine ⟨rfl, ?_⟩
    have ha : a < H.length := by omega
    simp [symB, mat, ha, hrl, hk, Nat.lt_succ_of_le]
/-- there are trees of the symbols with k terminals, by what H has -/
def RowH (H : List (List Bool)) : List Sy → Nat → Prop
  | [], k => k = 0
  | s :: l, k => ∃ j, j ≤ k ∧ symB H s j = true ∧ RowH H l (k - j)
def MonoH (H H' : List (List Bool)) : Prop := ∀ a k, mat H a k = true → mat H' a k = true
theorem symB_mono {H H' : List (List Bool)} (h : MonoH H H') {s : Sy} {k : Nat} (q : symB H s k = true) : symB H' s k = true := by
  unfold symB at q ⊢
  split at q
  · rename_i e; rw [if_pos e]; exact q
  · rename_i e; rw [if_neg e]; exact h _ _ q
theorem RowH.mono {H H' : List (List Bool)} (h : MonoH H H') : ∀ {l : List Sy} {k : Nat}, RowH H l k → RowH H' l k
  | [], _, q => q
  | s :: l, k, ⟨j, h1, h2, h3⟩ => ⟨j, h1, symB_mono h h2, RowH.mono h h3⟩
/-- the rows of ends of a rule: what is told is so -/
def EndS (H : List (List Bool)) (l : List Sy) (rows : List (List Bool)) : Prop := ∀ p k, p ≤ l.length → mat rows p k = true → RowH H (l.drop p) k
/-- from p on all is told -/
def EndC (H : List (List Bool)) (n : Nat) (l : List Sy) (rows : List (List Bool)) (p0 : Nat) : Prop := ∀ p k, p0 ≤ p → p ≤ l.length → k ≤ n → RowH H (l.drop p) k → mat rows p k = true
theorem mat_setS {w : List (List Bool)} {a b : Nat} (h : Shp a b w) {x y : Nat} (hx : x < a) (hy : y < b) (v : Bool) (x' y' : Nat) : mat (w.set x ((w.getD x []).set y v)) x' y' = if x' = x ∧ y' = y then v else mat w x' y' := by
  have hl := h.1
  have hr := h.at' (i := x) (by omega)
  by_cases e : x' = x
  · subst e
    simp only [mat, List.getD_eq_getElem?_getD, List.getElem?_set_self (show x' < w.length by omega), Option.getD_some]
    rw [List.getElem?_eq_getElem (show x' < w.length by omega)]
    simp only [Option.getD_some, List.getElem?_set]
    by_cases e' : y = y'
    · subst e'
      simp [hr, hy]
    · have : ¬ y' = y := fun q => e' q.symm
      simp [e', this]
  · have e'' : ¬ x = x' := fun q => e q.symm
    simp [mat, List.getD_eq_getElem?_getD, List.getElem?_set, e, e'']
theorem Shp.set {α : Type} {a b : Nat} {w : List (List α)} (h : Shp a b w) (x : Nat) {r : List α} (hr : r.length = b) : Shp a b (w.set x r) := by
  refine ⟨by simp [h.1], fun q hq => ?_⟩
  rcases List.mem_or_eq_of_mem_set hq with q1 | q1
  · exact h.2 _ q1
  · rw [q1]; exact hr
structure EndI (H : List (List Bool)) (n : Nat) (l : List Sy) (rows0 rows : List (List Bool)) : Prop where
  shp : Shp (l.length + 1) (n + 1) rows
  snd : EndS H l rows
  mono : ∀ p k, mat rows0 p k = true → mat rows p k = true
theorem EndI.put {H : List (List Bool)} {n : Nat} {l : List Sy} {rows0 rows : List (List Bool)} (h : EndI H n l rows0 rows) {p k : Nat} (hp : p ≤ l.length) (hk : k ≤ n) {v : Bool} (hv : v = true → RowH H (l.drop p) k) (hm : mat rows p k = true → v = true) {row : List Bool} (hrow : rows[p]? = some row) :
    EndI H n l rows0 (rows.set p (row.set k v)) ∧ ∀ x y, mat (rows.set p (row.set k v)) x y = if x = p ∧ y = k then v else mat rows x y := by
  have hl := h.shp.1
  have e : rows.getD p [] = row := by simp [List.getD_eq_getElem?_getD, hrow]
  have hmat := mat_setS h.shp (x := p) (y := k) (by omega) (by omega) v
  rw [e] at hmat
  have hrl : row.length = n + 1 := h.shp.2 _ (List.mem_of_getElem? hrow)
  refine ⟨⟨h.shp.set p (by simp [hrl]), fun x y hx q => ?_, fun x y q => ?_⟩, hmat⟩
  · rw [hmat] at q
    split at q
    · rename_i e; obtain ⟨rfl, rfl⟩ := e; exact hv q
    · exact h.snd x y hx q
  · rw [hmat]
    split
    · rename_i e; obtain ⟨rfl, rfl⟩ := e; exact hm (h.mono _ _ q)
    · exact h.mono x y q
theorem mat_get {rows : List (List Bool)} {p k : Nat} {row : List Bool} (hr : rows[p]? = some row) (hk : k < row.length) : mat rows p k = row[k] := by
  simp [mat, List.getD_eq_getElem?_getD, hr, hk]
theorem tab_end {Γr : Ctx} {t : Tb} {g : Gr} (V : VG g) {n : Nat} {R : Option Addr} {cR : Nat} (hT : TabK (lk Γr) t g n R cR) {H : List (List Bool)} (hH : SlOk (lk Γr) (some ⟨t.bh, 0, none⟩) g.ns.toNat H) (hS : Shp g.ns.toNat (n + 1) H) (hn : n ≤ 24)
    {ge : PH} {E : List (List (List Bool))} (hE : Cube ge 22 4 t.be E) {i : Nat} (hi : i < g.rs.length) {rows : List (List Bool)} (hEi : E[i]? = some rows) (hSr : Shp (g.rs[i].r.length + 1) (n + 1) rows) (hSo : EndS H g.rs[i].r rows) :
    Ret Try.prog 186 [.pointer (some ⟨t.b, 0, none⟩), .int .i64 (i : Int)] Γr [ge] (fun v Γ => ∃ ge' rows', Γ = [ge'] ∧ Cube ge' 22 4 t.be (E.set i rows') ∧ Shp (g.rs[i].r.length + 1) (n + 1) rows' ∧ EndS H g.rs[i].r rows' ∧ EndC H n g.rs[i].r rows' 0 ∧ ∀ p k, mat rows p k = true → mat rows' p k = true) := by
  generalize hR : (fun (v : Value) (Γ : Ctx) => ∃ ge' rows', _) = R'
  refine ret_of_vc tr186 (Nat.le_of_ble_eq_true rfl) ?_
  simp -implicitDefEqProofs only [S186, S186_0, go_sem, Nat.reduceBEq, Nat.reduceAdd, Nat.reduceSub, Nat.reduceMul, Nat.reduceLeDiff, reduceCtorEq, ↓reduceIte, Int.reduceLT, Int.reduceLE, Int.reduceEq, Int.reduceNe]
  have hvl := V.len
  have hr4 := V.right _ (List.getElem_mem hi)
  have hsym := V.sym _ (List.getElem_mem hi)
  obtain ⟨b0, o0, h0, A1, c1, hr1, hc1⟩ := hT.rs.ru hi
  have hsh := hT.rs.short
  have hdl := hdG_len hT.be
  obtain ⟨be, hbe⟩ : ∃ be, t.be[i]? = some be := ⟨_, List.getElem?_eq_getElem (by rw [hT.be]; exact hi)⟩
  have hhd := hdG_at hbe (List.getElem?_eq_getElem hi)
  obtain ⟨b2, o2, h2, hc2⟩ := hT.ends.hd (i := i) (by omega)
  rw [(List.getElem?_eq_some_iff.1 hhd).2] at hc2
  generalize g.rs[i].r = l at *
  refine s_ld (j := 3) (cells_lk (lk_r [ge] _ _ _ hT.out)) (by simp [Tb.cells]) (by simp) ?_
  simp -implicitDefEqProofs only [Tb.cells, go_sem, Nat.reduceBEq, Nat.reduceAdd, Nat.reduceSub, Nat.reduceMul, Nat.reduceLeDiff, reduceCtorEq, ↓reduceIte, Int.reduceLT, Int.reduceLE, Int.reduceEq, Int.reduceNe]
  refine s_idx h0 (by omega) (by omega) ?_
  simp -implicitDefEqProofs only [go_sem, Nat.reduceBEq, Nat.reduceAdd, Nat.reduceSub, Nat.reduceMul, Nat.reduceLeDiff, reduceCtorEq, ↓reduceIte, Int.reduceLT, Int.reduceLE, Int.reduceEq, Int.reduceNe]
  refine s_ld (j := 1) (by simpa using hc1 _ (lk_r [ge] _)) (by simp) (by simp) ?_
  simp -implicitDefEqProofs only [go_sem, Nat.reduceBEq, Nat.reduceAdd, Nat.reduceSub, Nat.reduceMul, Nat.reduceLeDiff, reduceCtorEq, ↓reduceIte, Int.reduceLT, Int.reduceLE, Int.reduceEq, Int.reduceNe]
  have hrows : rows.length = l.length + 1 := hSr.1
  obtain ⟨kp, hcp, hAp, hsp⟩ := hE.at' hbe hEi (p := l.length) (by omega) (by rw [hSr.at' (by omega)]; omega)
  rw [hSr.at' (by omega)] at hcp
  refine s_ld (j := 8) (cells_lk (lk_r [ge] _ _ _ hT.out)) (by simp [Tb.cells]) (by simp) ?_
  simp -implicitDefEqProofs only [Tb.cells, go_sem, Nat.reduceBEq, Nat.reduceAdd, Nat.reduceSub, Nat.reduceMul, Nat.reduceLeDiff, reduceCtorEq, ↓reduceIte, Int.reduceLT, Int.reduceLE, Int.reduceEq, Int.reduceNe]
  refine s_idx h2 (by omega) (by omega) ?_
  simp -implicitDefEqProofs only [go_sem, Nat.reduceBEq, Nat.reduceAdd, Nat.reduceSub, Nat.reduceMul, Nat.reduceLeDiff, reduceCtorEq, ↓reduceIte, Int.reduceLT, Int.reduceLE, Int.reduceEq, Int.reduceNe]
  refine s_ld0 (hc2 _ (lk_r [ge] _)) (by simp) (by simp) ?_
  simp -implicitDefEqProofs only [go_sem, Nat.reduceBEq, Nat.reduceAdd, Nat.reduceSub, Nat.reduceMul, Nat.reduceLeDiff, reduceCtorEq, ↓reduceIte, Int.reduceLT, Int.reduceLE, Int.reduceEq, Int.reduceNe]
  refine s_idx rfl (by omega) (by omega) ?_
  simp -implicitDefEqProofs only [go_sem, Nat.reduceBEq, Nat.reduceAdd, Nat.reduceSub, Nat.reduceMul, Nat.reduceLeDiff, reduceCtorEq, ↓reduceIte, Int.reduceLT, Int.reduceLE, Int.reduceEq, Int.reduceNe]
  refine s_ld0 (by simpa using hcp _ (lk_l [ge] _)) (by simp) (by simp) ?_
  simp -implicitDefEqProofs only [go_sem, Nat.reduceBEq, Nat.reduceAdd, Nat.reduceSub, Nat.reduceMul, Nat.reduceLeDiff, reduceCtorEq, ↓reduceIte, Int.reduceLT, Int.reduceLE, Int.reduceEq, Int.reduceNe]
  refine s_idx rfl (by omega) (by omega) ?_
  simp -implicitDefEqProofs only [go_sem, Nat.reduceBEq, Nat.reduceAdd, Nat.reduceSub, Nat.reduceMul, Nat.reduceLeDiff, reduceCtorEq, ↓reduceIte, Int.reduceLT, Int.reduceLE, Int.reduceEq, Int.reduceNe]
  refine s_storeA (ix := 0) (α := Bool) true rfl hAp (i := 0) (by rw [hSr.at' (by omega)]; omega) ?_
  intro ge1 hA1 ho1
  have hE1 := hsp ge1 _ hA1 (by simp) ho1
  have hI0 : EndI H n l rows rows := ⟨hSr, hSo, fun _ _ h => h⟩
  obtain ⟨hI1, hm1⟩ := hI0.put (p := l.length) (k := 0) (v := true) (Nat.le_refl _) (by omega) (fun _ => by rw [List.drop_length]; rfl) (fun _ => rfl) (List.getElem?_eq_getElem (by omega))
  have hC1 : EndC H n l (rows.set l.length (rows[l.length].set 0 true)) l.length := fun p k h1 h2 h3 h4 => by
    have : p = l.length := by omega
    subst this
    rw [List.drop_length] at h4
    have h4 : k = 0 := h4
    subst h4
    rw [hm1]
    simp
  generalize rows.set l.length (rows[l.length].set 0 true) = rows1 at hE1 hI1 hC1
  clear hm1 hI0 hA1 ho1 hsp hAp hcp
  simp -implicitDefEqProofs only [go_sem, Nat.reduceBEq, Nat.reduceAdd, Nat.reduceSub, Nat.reduceMul, Nat.reduceLeDiff, reduceCtorEq, ↓reduceIte, Int.reduceLT, Int.reduceLE, Int.reduceEq, Int.reduceNe]
  simp (disch := omega) only [wrap_id]
  refine s_loop (fun f vs Γ => ∃ (ge : PH) (rows' : List (List Bool)), vs = [.v true (.int .i64 ((f : Int) - 1))] ∧ Γ = [ge] ∧ f ≤ l.length ∧ Cube ge 22 4 t.be (E.set i rows') ∧ EndI H n l rows rows' ∧ EndC H n l rows' f) l.length
    (Up.here ⟨ge1, rows1, rfl, rfl, Nat.le_refl _, hE1, hI1, hC1⟩) ?_
  clear hE1 hI1 hC1
  rintro f vs Γ ⟨ge, rows1, rfl, rfl, hfl, hE1, hI1, hC1⟩
  simp -implicitDefEqProofs only [S186_3, go_sem, Nat.reduceBEq, Nat.reduceAdd, Nat.reduceSub, Nat.reduceMul, Nat.reduceLeDiff, reduceCtorEq, ↓reduceIte, Int.reduceLT, Int.reduceLE, Int.reduceEq, Int.reduceNe]
  refine ⟨fun hlt => ?_, fun hge => ?_⟩
  · obtain ⟨p, rfl⟩ : ∃ p, f = p + 1 := ⟨f - 1, by omega⟩
    have hpe : ((p + 1 : Nat) : Int) - 1 = (p : Int) := by omega
    rw [hpe]
    have hp : p < l.length := by omega
    have hs := hsym _ (List.getElem_mem hp)
    obtain ⟨b3, o3, h3, hc3⟩ := hr1.sy hp
    have hdrop : l.drop p = l[p] :: l.drop (p + 1) := List.drop_eq_getElem_cons hp
    generalize l[p] = s at *
    refine s_ld (j := 4) (cells_lk (lk_r [ge] _ _ _ hT.out)) (by simp [Tb.cells]) (by simp) ?_
    simp -implicitDefEqProofs only [Tb.cells, go_sem, Nat.reduceBEq, Nat.reduceAdd, Nat.reduceSub, Nat.reduceMul, Nat.reduceLeDiff, reduceCtorEq, ↓reduceIte, Int.reduceLT, Int.reduceLE, Int.reduceEq, Int.reduceNe]
    simp (disch := omega) only [wrap_id]
    refine s_loop (fun f2 vs Γ => ∃ (ge : PH) (rows' : List (List Bool)) (k : Nat), vs = [.v true (.int .i64 (k : Int))] ∧ Γ = [ge] ∧ k + f2 = n + 1 ∧ Cube ge 22 4 t.be (E.set i rows') ∧ EndI H n l rows rows' ∧ EndC H n l rows' (p + 1) ∧ ∀ k', k' < k → RowH H (l.drop p) k' → mat rows' p k' = true) (n + 1)
      (Up.here ⟨ge, rows1, 0, rfl, rfl, by omega, hE1, hI1, hC1, fun k' h => by omega⟩) ?_
    clear hE1 hI1 hC1
    rintro f2 vs Γ ⟨ge, rows1, k, rfl, rfl, hkf, hE1, hI1, hC1, hY1⟩
    simp -implicitDefEqProofs only [S186_2, go_sem, Nat.reduceBEq, Nat.reduceAdd, Nat.reduceSub, Nat.reduceMul, Nat.reduceLeDiff, reduceCtorEq, ↓reduceIte, Int.reduceLT, Int.reduceLE, Int.reduceEq, Int.reduceNe]
    refine ⟨fun hlt => ?_, fun hge => ?_⟩
    · have hk : k ≤ n := by omega
      simp (disch := omega) only [wrap_id]
      refine s_loop (fun f3 vs Γ => ∃ (ge : PH) (rows' : List (List Bool)) (j : Nat), vs = [.v true (.int .i64 (j : Int))] ∧ Γ = [ge] ∧ j + f3 = k + 1 ∧ Cube ge 22 4 t.be (E.set i rows') ∧ EndI H n l rows rows' ∧ EndC H n l rows' (p + 1) ∧ (∀ k', k' < k → RowH H (l.drop p) k' → mat rows' p k' = true) ∧ ∀ j', j' < j → symB H s j' = true → RowH H (l.drop (p + 1)) (k - j') → mat rows' p k = true) (k + 1)
        (Up.here ⟨ge, rows1, 0, rfl, rfl, by omega, hE1, hI1, hC1, hY1, fun j' h => by omega⟩) ?_
      clear hE1 hI1 hC1 hY1
      rintro f3 vs Γ ⟨ge, rows1, j, rfl, rfl, hjf, hE1, hI1, hC1, hY1, hZ1⟩
      simp -implicitDefEqProofs only [S186_1, go_sem, Nat.reduceBEq, Nat.reduceAdd, Nat.reduceSub, Nat.reduceMul, Nat.reduceLeDiff, reduceCtorEq, ↓reduceIte, Int.reduceLT, Int.reduceLE, Int.reduceEq, Int.reduceNe]
      refine ⟨fun hlt => ?_, fun hge => ?_⟩
      · have hj : j ≤ k := by omega
        have hrl : rows1.length = l.length + 1 := hI1.shp.1
        have hpl := hI1.shp.at' (i := p) (by omega)
        have hql := hI1.shp.at' (i := p + 1) (by omega)
        have hEi1 : (E.set i rows1)[i]? = some rows1 := by rw [List.getElem?_set_self (List.getElem?_eq_some_iff.1 hEi).1]
        obtain ⟨kp, hcp, hAp, hsp⟩ := hE1.at' hbe hEi1 (p := p) (by omega) (by omega)
        obtain ⟨kq, hcq, hAq, _⟩ := hE1.at' hbe hEi1 (p := p + 1) (by omega) (by omega)
        have hne := hE1.ne hbe hEi1 (by decide) hAp
        rw [hpl] at hcp
        rw [hql] at hcq
        have hcut := (lk_cut hAp).trans (lk_l [one kp (.cells (rows1[p].map Sc.enc).toArray 4 (0, 0)), del ge kp] Γr)
        have hent := Ent.cut hAp
        have hAo : Arr (one kp (.cells (rows1[p].map Sc.enc).toArray 4 (0, 0))) kp 4 rows1[p] := one_self _ _
        revert hcut hent hAo
        generalize one kp _ = gp
        intro hcut hent hAo
        refine s_drawn [gp] [del ge kp] hent ?_
        simp -implicitDefEqProofs only [go_sem, Nat.reduceBEq, Nat.reduceAdd, Nat.reduceSub, Nat.reduceMul, Nat.reduceLeDiff, reduceCtorEq, ↓reduceIte, Int.reduceLT, Int.reduceLE, Int.reduceEq, Int.reduceNe]
        refine s_ld (j := 8) (cells_lk (lk_r [del ge kp] _ _ _ hT.out)) (by simp [Tb.cells]) (by simp) ?_
        simp -implicitDefEqProofs only [Tb.cells, go_sem, Nat.reduceBEq, Nat.reduceAdd, Nat.reduceSub, Nat.reduceMul, Nat.reduceLeDiff, reduceCtorEq, ↓reduceIte, Int.reduceLT, Int.reduceLE, Int.reduceEq, Int.reduceNe]
        refine s_idx h2 (by omega) (by omega) ?_
        simp -implicitDefEqProofs only [go_sem, Nat.reduceBEq, Nat.reduceAdd, Nat.reduceSub, Nat.reduceMul, Nat.reduceLeDiff, reduceCtorEq, ↓reduceIte, Int.reduceLT, Int.reduceLE, Int.reduceEq, Int.reduceNe]
        refine s_ld0 (hc2 _ (lk_r [del ge kp] _)) (by simp) (by simp) ?_
        simp -implicitDefEqProofs only [go_sem, Nat.reduceBEq, Nat.reduceAdd, Nat.reduceSub, Nat.reduceMul, Nat.reduceLeDiff, reduceCtorEq, ↓reduceIte, Int.reduceLT, Int.reduceLE, Int.reduceEq, Int.reduceNe]
        refine s_idx rfl (by omega) (by omega) ?_
        simp -implicitDefEqProofs only [go_sem, Nat.reduceBEq, Nat.reduceAdd, Nat.reduceSub, Nat.reduceMul, Nat.reduceLeDiff, reduceCtorEq, ↓reduceIte, Int.reduceLT, Int.reduceLE, Int.reduceEq, Int.reduceNe]
        refine s_ld0 (by simpa using (hcp [ge] (Mem.le.refl _)).del' hne (by simp)) (by simp) (by simp) ?_
        simp -implicitDefEqProofs only [go_sem, Nat.reduceBEq, Nat.reduceAdd, Nat.reduceSub, Nat.reduceMul, Nat.reduceLeDiff, reduceCtorEq, ↓reduceIte, Int.reduceLT, Int.reduceLE, Int.reduceEq, Int.reduceNe]
        refine s_ld (j := 8) (cells_lk (lk_r [_, del ge kp] _ _ _ hT.out)) (by simp [Tb.cells]) (by simp) ?_
        simp -implicitDefEqProofs only [Tb.cells, go_sem, Nat.reduceBEq, Nat.reduceAdd, Nat.reduceSub, Nat.reduceMul, Nat.reduceLeDiff, reduceCtorEq, ↓reduceIte, Int.reduceLT, Int.reduceLE, Int.reduceEq, Int.reduceNe]
        refine s_idx h2 (by omega) (by omega) ?_
        simp -implicitDefEqProofs only [go_sem, Nat.reduceBEq, Nat.reduceAdd, Nat.reduceSub, Nat.reduceMul, Nat.reduceLeDiff, reduceCtorEq, ↓reduceIte, Int.reduceLT, Int.reduceLE, Int.reduceEq, Int.reduceNe]
        refine s_ld0 (hc2 _ (lk_r [_, del ge kp] _)) (by simp) (by simp) ?_
        simp -implicitDefEqProofs only [go_sem, Nat.reduceBEq, Nat.reduceAdd, Nat.reduceSub, Nat.reduceMul, Nat.reduceLeDiff, reduceCtorEq, ↓reduceIte, Int.reduceLT, Int.reduceLE, Int.reduceEq, Int.reduceNe]
        refine s_idx rfl (by omega) (by omega) ?_
        simp -implicitDefEqProofs only [go_sem, Nat.reduceBEq, Nat.reduceAdd, Nat.reduceSub, Nat.reduceMul, Nat.reduceLeDiff, reduceCtorEq, ↓reduceIte, Int.reduceLT, Int.reduceLE, Int.reduceEq, Int.reduceNe]
        refine s_ld0 (by simpa using hcp _ hcut) (by simp) (by simp) ?_
        simp -implicitDefEqProofs only [go_sem, Nat.reduceBEq, Nat.reduceAdd, Nat.reduceSub, Nat.reduceMul, Nat.reduceLeDiff, reduceCtorEq, ↓reduceIte, Int.reduceLT, Int.reduceLE, Int.reduceEq, Int.reduceNe]
        refine s_idx rfl (by omega) (by omega) ?_
        simp -implicitDefEqProofs only [go_sem, Nat.reduceBEq, Nat.reduceAdd, Nat.reduceSub, Nat.reduceMul, Nat.reduceLeDiff, reduceCtorEq, ↓reduceIte, Int.reduceLT, Int.reduceLE, Int.reduceEq, Int.reduceNe]
        refine s_ld0 (hAo.bool (i := k) (by omega) (by simp)) (by simp) (by simp) ?_
        simp -implicitDefEqProofs only [go_sem, Nat.reduceBEq, Nat.reduceAdd, Nat.reduceSub, Nat.reduceMul, Nat.reduceLeDiff, reduceCtorEq, ↓reduceIte, Int.reduceLT, Int.reduceLE, Int.reduceEq, Int.reduceNe]
        have hget := mat_get (List.getElem?_eq_getElem (show p < rows1.length by omega)) (show k < rows1[p].length by omega)
        generalize rows1[p][k] = v0 at hget
        have fin : ∀ (v : Bool) (x2 : PH), Arr x2 kp 4 (rows1[p].set k v) → (v = true → RowH H (l.drop p) k) → (mat rows1 p k = true → v = true) → (symB H s j = true → RowH H (l.drop (p + 1)) (k - j) → v = true) →
            Up [x2, del ge kp] (fun Γ => ∃ (ge : PH) (rows' : List (List Bool)) (j1 : Nat), [Sl.v true (.int .i64 ((j : Int) + 1))] = [.v true (.int .i64 (j1 : Int))] ∧ Γ = [ge] ∧ j1 + (f3 - 1) = k + 1 ∧ Cube ge 22 4 t.be (E.set i rows') ∧ EndI H n l rows rows' ∧ EndC H n l rows' (p + 1) ∧ (∀ k', k' < k → RowH H (l.drop p) k' → mat rows' p k' = true) ∧ ∀ j', j' < j1 → symB H s j' = true → RowH H (l.drop (p + 1)) (k - j') → mat rows' p k = true) := by
          intro v x2 hA2 hv1 hv2 hv3
          obtain ⟨hI2, hm2⟩ := hI1.put (p := p) (k := k) (v := v) (by omega) hk hv1 hv2 (List.getElem?_eq_getElem (by omega))
          have hE2 := hsp (upd ge kp (.cells ((rows1[p].set k v).map Sc.enc).toArray 4 (0, 0))) _ (upd_self _ _ _) (by simp) (fun y hy => upd_other hy)
          rw [List.set_set] at hE2
          refine Up.to [upd ge kp (.cells ((rows1[p].set k v).map Sc.enc).toArray 4 (0, 0))] (Ent.mend hA2) ⟨_, _, j + 1, rfl, rfl, by omega, hE2, hI2, ?_, ?_, ?_⟩
          · intro p' k' h1 h2 h3 h4
            rw [hm2, if_neg (by omega)]
            exact hC1 p' k' h1 h2 h3 h4
          · intro k' h1 h2
            rw [hm2, if_neg (by omega)]
            exact hY1 k' h1 h2
          · intro j' h1 h2 h3
            rw [hm2, if_pos ⟨rfl, rfl⟩]
            rcases Nat.lt_or_ge j' j with q | q
            · exact hv2 (hZ1 j' q h2 h3)
            · have : j' = j := by omega
              subst this
              exact hv3 h2 h3
        cases v0 with
        | true =>
          simp -implicitDefEqProofs only [go_sem, Nat.reduceBEq, Nat.reduceAdd, Nat.reduceSub, Nat.reduceMul, Nat.reduceLeDiff, reduceCtorEq, ↓reduceIte, Int.reduceLT, Int.reduceLE, Int.reduceEq, Int.reduceNe]
          refine s_idxg (b := 0) (o := 0) (by simp) ?_
          simp -implicitDefEqProofs only [go_sem, Nat.reduceBEq, Nat.reduceAdd, Nat.reduceSub, Nat.reduceMul, Nat.reduceLeDiff, reduceCtorEq, ↓reduceIte, Int.reduceLT, Int.reduceLE, Int.reduceEq, Int.reduceNe]
          refine s_ldg0 (cs := [.bool false, .int .i64 0]) (by simp) (by simp) (by simp) (by simp) ?_
          simp -implicitDefEqProofs only [go_sem, Nat.reduceBEq, Nat.reduceAdd, Nat.reduceSub, Nat.reduceMul, Nat.reduceLeDiff, reduceCtorEq, ↓reduceIte, Int.reduceLT, Int.reduceLE, Int.reduceEq, Int.reduceNe]
          refine ⟨.bool false, ?_⟩
          simp -implicitDefEqProofs only [go_sem, Nat.reduceBEq, Nat.reduceAdd, Nat.reduceSub, Nat.reduceMul, Nat.reduceLeDiff, reduceCtorEq, ↓reduceIte, Int.reduceLT, Int.reduceLE, Int.reduceEq, Int.reduceNe]
          refine s_ldg0 (cs := [.slice none 0 0]) (by simp) (by simp) (by simp) (by simp) ?_
          simp -implicitDefEqProofs only [go_sem, Nat.reduceBEq, Nat.reduceAdd, Nat.reduceSub, Nat.reduceMul, Nat.reduceLeDiff, reduceCtorEq, ↓reduceIte, Int.reduceLT, Int.reduceLE, Int.reduceEq, Int.reduceNe]
          refine s_idxg (b := 0) (o := 0) (by simp) ?_
          simp -implicitDefEqProofs only [go_sem, Nat.reduceBEq, Nat.reduceAdd, Nat.reduceSub, Nat.reduceMul, Nat.reduceLeDiff, reduceCtorEq, ↓reduceIte, Int.reduceLT, Int.reduceLE, Int.reduceEq, Int.reduceNe]
          refine s_ldg0 (cs := [.slice none 0 0]) (by simp) (by simp) (by simp) (by simp) ?_
          simp -implicitDefEqProofs only [go_sem, Nat.reduceBEq, Nat.reduceAdd, Nat.reduceSub, Nat.reduceMul, Nat.reduceLeDiff, reduceCtorEq, ↓reduceIte, Int.reduceLT, Int.reduceLE, Int.reduceEq, Int.reduceNe]
          refine s_idxg (b := 0) (o := 0) (by simp) ?_
          simp -implicitDefEqProofs only [go_sem, Nat.reduceBEq, Nat.reduceAdd, Nat.reduceSub, Nat.reduceMul, Nat.reduceLeDiff, reduceCtorEq, ↓reduceIte, Int.reduceLT, Int.reduceLE, Int.reduceEq, Int.reduceNe]
          refine s_ldg0 (cs := [.slice none 0 0]) (by simp) (by simp) (by simp) (by simp) ?_
          simp -implicitDefEqProofs only [go_sem, Nat.reduceBEq, Nat.reduceAdd, Nat.reduceSub, Nat.reduceMul, Nat.reduceLeDiff, reduceCtorEq, ↓reduceIte, Int.reduceLT, Int.reduceLE, Int.reduceEq, Int.reduceNe]
          refine s_idxg (b := 0) (o := 0) (by simp) ?_
          simp -implicitDefEqProofs only [go_sem, Nat.reduceBEq, Nat.reduceAdd, Nat.reduceSub, Nat.reduceMul, Nat.reduceLeDiff, reduceCtorEq, ↓reduceIte, Int.reduceLT, Int.reduceLE, Int.reduceEq, Int.reduceNe]
          refine s_ldg0 (cs := [.bool false]) (by simp) (by simp) (by simp) (by simp) ?_
          simp -implicitDefEqProofs only [go_sem, Nat.reduceBEq, Nat.reduceAdd, Nat.reduceSub, Nat.reduceMul, Nat.reduceLeDiff, reduceCtorEq, ↓reduceIte, Int.reduceLT, Int.reduceLE, Int.reduceEq, Int.reduceNe]
          refine s_idx rfl (by omega) (by omega) ?_
          simp -implicitDefEqProofs only [go_sem, Nat.reduceBEq, Nat.reduceAdd, Nat.reduceSub, Nat.reduceMul, Nat.reduceLeDiff, reduceCtorEq, ↓reduceIte, Int.reduceLT, Int.reduceLE, Int.reduceEq, Int.reduceNe]
          refine s_storeA (ix := 0) (α := Bool) true rfl hAo (i := k) (by omega) ?_
          intro x2 hA2 _
          simp -implicitDefEqProofs only [go_sem, Nat.reduceBEq, Nat.reduceAdd, Nat.reduceSub, Nat.reduceMul, Nat.reduceLeDiff, reduceCtorEq, ↓reduceIte, Int.reduceLT, Int.reduceLE, Int.reduceEq, Int.reduceNe]
          simp (disch := omega) only [wrap_id]
          refine ⟨f3 - 1, by omega, fin true x2 hA2 (fun _ => hI1.snd p k (by omega) hget) (fun _ => rfl) (fun _ _ => rfl)⟩
        | false =>
          simp -implicitDefEqProofs only [go_sem, Nat.reduceBEq, Nat.reduceAdd, Nat.reduceSub, Nat.reduceMul, Nat.reduceLeDiff, reduceCtorEq, ↓reduceIte, Int.reduceLT, Int.reduceLE, Int.reduceEq, Int.reduceNe]
          refine s_idx h3 (by omega) (by omega) ?_
          simp -implicitDefEqProofs only [go_sem, Nat.reduceBEq, Nat.reduceAdd, Nat.reduceSub, Nat.reduceMul, Nat.reduceLeDiff, reduceCtorEq, ↓reduceIte, Int.reduceLT, Int.reduceLE, Int.reduceEq, Int.reduceNe]
          refine s_ld0 (by simpa using hc3 _ (lk_r [gp, del ge kp] _)) (by simp) (by simp) ?_
          simp -implicitDefEqProofs only [go_sem, Nat.reduceBEq, Nat.reduceAdd, Nat.reduceSub, Nat.reduceMul, Nat.reduceLeDiff, reduceCtorEq, ↓reduceIte, Int.reduceLT, Int.reduceLE, Int.reduceEq, Int.reduceNe]
          refine CallVC.read (tab_sym (Γr := [gp] ++ (del ge kp :: Γr)) (hT.mono (lk_r [gp, del ge kp] _)) (hH.mono (lk_r [gp, del ge kp] _)) hS (fun h => ⟨hs.1, hs.2.2 h⟩) (k := j) (by omega) hn) ?_
          rintro v Γ' ⟨rfl, rfl⟩
          generalize hsv : symB H s j = sv
          cases sv with
          | false =>
            simp -implicitDefEqProofs only [go_sem, Nat.reduceBEq, Nat.reduceAdd, Nat.reduceSub, Nat.reduceMul, Nat.reduceLeDiff, reduceCtorEq, ↓reduceIte, Int.reduceLT, Int.reduceLE, Int.reduceEq, Int.reduceNe]
            refine s_ldg0 (cs := [.slice none 0 0]) (by simp) (by simp) (by simp) (by simp) ?_
            simp -implicitDefEqProofs only [go_sem, Nat.reduceBEq, Nat.reduceAdd, Nat.reduceSub, Nat.reduceMul, Nat.reduceLeDiff, reduceCtorEq, ↓reduceIte, Int.reduceLT, Int.reduceLE, Int.reduceEq, Int.reduceNe]
            refine s_idxg (b := 0) (o := 0) (by simp) ?_
            simp -implicitDefEqProofs only [go_sem, Nat.reduceBEq, Nat.reduceAdd, Nat.reduceSub, Nat.reduceMul, Nat.reduceLeDiff, reduceCtorEq, ↓reduceIte, Int.reduceLT, Int.reduceLE, Int.reduceEq, Int.reduceNe]
            refine s_ldg0 (cs := [.slice none 0 0]) (by simp) (by simp) (by simp) (by simp) ?_
            simp -implicitDefEqProofs only [go_sem, Nat.reduceBEq, Nat.reduceAdd, Nat.reduceSub, Nat.reduceMul, Nat.reduceLeDiff, reduceCtorEq, ↓reduceIte, Int.reduceLT, Int.reduceLE, Int.reduceEq, Int.reduceNe]
            refine s_idxg (b := 0) (o := 0) (by simp) ?_
            simp -implicitDefEqProofs only [go_sem, Nat.reduceBEq, Nat.reduceAdd, Nat.reduceSub, Nat.reduceMul, Nat.reduceLeDiff, reduceCtorEq, ↓reduceIte, Int.reduceLT, Int.reduceLE, Int.reduceEq, Int.reduceNe]
            refine s_ldg0 (cs := [.slice none 0 0]) (by simp) (by simp) (by simp) (by simp) ?_
            simp -implicitDefEqProofs only [go_sem, Nat.reduceBEq, Nat.reduceAdd, Nat.reduceSub, Nat.reduceMul, Nat.reduceLeDiff, reduceCtorEq, ↓reduceIte, Int.reduceLT, Int.reduceLE, Int.reduceEq, Int.reduceNe]
            refine s_idxg (b := 0) (o := 0) (by simp) ?_
            simp -implicitDefEqProofs only [go_sem, Nat.reduceBEq, Nat.reduceAdd, Nat.reduceSub, Nat.reduceMul, Nat.reduceLeDiff, reduceCtorEq, ↓reduceIte, Int.reduceLT, Int.reduceLE, Int.reduceEq, Int.reduceNe]
            refine s_ldg0 (cs := [.bool false]) (by simp) (by simp) (by simp) (by simp) ?_
            simp -implicitDefEqProofs only [go_sem, Nat.reduceBEq, Nat.reduceAdd, Nat.reduceSub, Nat.reduceMul, Nat.reduceLeDiff, reduceCtorEq, ↓reduceIte, Int.reduceLT, Int.reduceLE, Int.reduceEq, Int.reduceNe]
            refine s_idx rfl (by omega) (by omega) ?_
            simp -implicitDefEqProofs only [go_sem, Nat.reduceBEq, Nat.reduceAdd, Nat.reduceSub, Nat.reduceMul, Nat.reduceLeDiff, reduceCtorEq, ↓reduceIte, Int.reduceLT, Int.reduceLE, Int.reduceEq, Int.reduceNe]
            refine s_storeA (ix := 0) (α := Bool) false rfl hAo (i := k) (by omega) ?_
            intro x2 hA2 _
            simp -implicitDefEqProofs only [go_sem, Nat.reduceBEq, Nat.reduceAdd, Nat.reduceSub, Nat.reduceMul, Nat.reduceLeDiff, reduceCtorEq, ↓reduceIte, Int.reduceLT, Int.reduceLE, Int.reduceEq, Int.reduceNe]
            simp (disch := omega) only [wrap_id]
            refine ⟨f3 - 1, by omega, fin false x2 hA2 (fun h => by cases h) (fun h => by rw [hget] at h; exact h) (fun h => by rw [hsv] at h; cases h)⟩
          | true =>
            simp -implicitDefEqProofs only [go_sem, Nat.reduceBEq, Nat.reduceAdd, Nat.reduceSub, Nat.reduceMul, Nat.reduceLeDiff, reduceCtorEq, ↓reduceIte, Int.reduceLT, Int.reduceLE, Int.reduceEq, Int.reduceNe]
            refine s_ld (j := 8) (cells_lk (lk_r [gp, del ge kp] _ _ _ hT.out)) (by simp [Tb.cells]) (by simp) ?_
            simp -implicitDefEqProofs only [Tb.cells, go_sem, Nat.reduceBEq, Nat.reduceAdd, Nat.reduceSub, Nat.reduceMul, Nat.reduceLeDiff, reduceCtorEq, ↓reduceIte, Int.reduceLT, Int.reduceLE, Int.reduceEq, Int.reduceNe]
            refine s_idx h2 (by omega) (by omega) ?_
            simp -implicitDefEqProofs only [go_sem, Nat.reduceBEq, Nat.reduceAdd, Nat.reduceSub, Nat.reduceMul, Nat.reduceLeDiff, reduceCtorEq, ↓reduceIte, Int.reduceLT, Int.reduceLE, Int.reduceEq, Int.reduceNe]
            refine s_ld0 (hc2 _ (lk_r [gp, del ge kp] _)) (by simp) (by simp) ?_
            simp -implicitDefEqProofs only [go_sem, Nat.reduceBEq, Nat.reduceAdd, Nat.reduceSub, Nat.reduceMul, Nat.reduceLeDiff, reduceCtorEq, ↓reduceIte, Int.reduceLT, Int.reduceLE, Int.reduceEq, Int.reduceNe]
            simp (disch := omega) only [wrap_id]
            refine s_idx rfl (by omega) (by omega) ?_
            simp -implicitDefEqProofs only [go_sem, Nat.reduceBEq, Nat.reduceAdd, Nat.reduceSub, Nat.reduceMul, Nat.reduceLeDiff, reduceCtorEq, ↓reduceIte, Int.reduceLT, Int.reduceLE, Int.reduceEq, Int.reduceNe]
            rw [show ((p : Int) + 1).toNat = p + 1 by omega]
            refine s_ld0 (by simpa using hcq _ hcut) (by simp) (by simp) ?_
            simp -implicitDefEqProofs only [go_sem, Nat.reduceBEq, Nat.reduceAdd, Nat.reduceSub, Nat.reduceMul, Nat.reduceLeDiff, reduceCtorEq, ↓reduceIte, Int.reduceLT, Int.reduceLE, Int.reduceEq, Int.reduceNe]
            simp (disch := omega) only [wrap_id]
            refine s_idx rfl (by omega) (by omega) ?_
            simp -implicitDefEqProofs only [go_sem, Nat.reduceBEq, Nat.reduceAdd, Nat.reduceSub, Nat.reduceMul, Nat.reduceLeDiff, reduceCtorEq, ↓reduceIte, Int.reduceLT, Int.reduceLE, Int.reduceEq, Int.reduceNe]
            rw [show ((k : Int) - (j : Int)).toNat = k - j by omega]
            refine s_ld0 (cells_up (hAq.bool (i := k - j) (by omega) (Γ := [ge]) (by simp)) hcut) (by simp) (by simp) ?_
            simp -implicitDefEqProofs only [go_sem, Nat.reduceBEq, Nat.reduceAdd, Nat.reduceSub, Nat.reduceMul, Nat.reduceLeDiff, reduceCtorEq, ↓reduceIte, Int.reduceLT, Int.reduceLE, Int.reduceEq, Int.reduceNe]
            have hgq := mat_get (List.getElem?_eq_getElem (show p + 1 < rows1.length by omega)) (show k - j < rows1[p + 1].length by omega)
            generalize rows1[p + 1][k - j] = v1 at hgq
            refine s_idx rfl (by omega) (by omega) ?_
            simp -implicitDefEqProofs only [go_sem, Nat.reduceBEq, Nat.reduceAdd, Nat.reduceSub, Nat.reduceMul, Nat.reduceLeDiff, reduceCtorEq, ↓reduceIte, Int.reduceLT, Int.reduceLE, Int.reduceEq, Int.reduceNe]
            refine s_storeA (ix := 0) (α := Bool) v1 rfl hAo (i := k) (by omega) ?_
            intro x2 hA2 _
            simp -implicitDefEqProofs only [go_sem, Nat.reduceBEq, Nat.reduceAdd, Nat.reduceSub, Nat.reduceMul, Nat.reduceLeDiff, reduceCtorEq, ↓reduceIte, Int.reduceLT, Int.reduceLE, Int.reduceEq, Int.reduceNe]
            simp (disch := omega) only [wrap_id]
            refine ⟨f3 - 1, by omega, fin v1 x2 hA2 (fun h => ?_) (fun h => by rw [hget] at h; cases h) (fun _ h => ?_)⟩
            · rw [hdrop]
              exact ⟨j, hj, hsv, hI1.snd (p + 1) (k - j) (by omega) (by rw [hgq]; exact h)⟩
            · rw [← hgq]
              exact hC1 (p + 1) (k - j) (Nat.le_refl _) (by omega) (by omega) h
      · have hj : j = k + 1 := by omega
        simp (disch := omega) only [wrap_id]
        refine ⟨f2 - 1, by omega, Up.here ⟨ge, rows1, k + 1, rfl, rfl, by omega, hE1, hI1, hC1, fun k' h1 h2 => ?_⟩⟩
        rcases Nat.lt_or_ge k' k with q | q
        · exact hY1 k' q h2
        · have : k' = k := by omega
          subst this
          rw [hdrop] at h2
          obtain ⟨j', q1, q2, q3⟩ := h2
          exact hZ1 j' (by omega) q2 q3
    · have hk : k = n + 1 := by omega
      simp (disch := omega) only [wrap_id]
      refine ⟨p, by omega, Up.here ⟨ge, rows1, rfl, rfl, by omega, hE1, hI1, fun p' k' h1 h2 h3 h4 => ?_⟩⟩
      rcases Nat.lt_or_ge p p' with q | q
      · exact hC1 p' k' (by omega) h2 h3 h4
      · have : p' = p := by omega
        subst this
        exact hY1 k' (by omega) h4
  · obtain rfl : f = 0 := by omega
    refine Up.here ?_
    subst hR
    exact ⟨ge, rows1, rfl, hE1, hI1.shp, hI1.snd, hC1, hI1.mono⟩
end Go.Proofs.Ytniobbepliknmaa.V
/- The text of (*parlance/census.table).find as a statement (slots: 0 t, 1 t, 2 again, 3 i, 4 r, 5 k, 6 ok); no condition. -/
namespace Go.Proofs.Ytniobbepliknmaa.V
open Go
def S148_1 : Stmt :=
 .block 5
 (.seq
 (.region
 [.mk (some 34) none (.mv (.tmp 32)),
 .mk (some 35) none (.idx 1 (.tmp 30) (.tmp 32)),
 .mk (some 36) none (.load false 1 (.tmp 35)),.mk (some 5) none (.mv (.tmp 34)),
 .mk (some 6) none (.mv (.tmp 36))]
 [0,2,4,5,6,12,13,14,30,31,32])
 (.seq
 (.quiet
 [.mk (some 37) none (.mv (.tmp 6)),.mk (some 38) none (.mv (.tmp 37)),
 .mk (some 39) (some (38,true)) (.mv (.tmp 0)),
 .mk (some 40) (some (38,true)) (.nilCheck (.tmp 39)),
 .mk (some 41) (some (38,true)) (.fld 5 (.tmp 40)),
 .mk (some 42) (some (38,true)) (.load false 1 (.tmp 41)),
 .mk (some 43) (some (38,true)) (.fld 0 (.tmp 4)),
 .mk (some 44) (some (38,true)) (.load false 1 (.tmp 43)),
 .mk (some 45) (some (38,true)) (.idx 1 (.tmp 42) (.tmp 44)),
 .mk (some 46) (some (38,true)) (.load false 1 (.tmp 45)),
 .mk (some 47) (some (38,true)) (.mv (.tmp 5)),
 .mk (some 48) (some (38,true)) (.idx 1 (.tmp 46) (.tmp 47)),
 .mk (some 49) (some (38,true)) (.load false 1 (.tmp 48)),
 .mk (some 50) (some (38,true)) (.un .not (.tmp 49)),
 .mk (some 51) none (.pick (.tmp 38) (.tmp 50) (.const (.bool false)))]
 [0,2,4,5,12,13,14,30,31,32,51])
 (.cond (.tmp 51)
 (.drawn
 [(false,.mk (some 52) none (.mv (.tmp 0))),
 (false,.mk (some 53) none (.nilCheck (.tmp 52))),
 (false,.mk (some 54) none (.fld 5 (.tmp 53))),
 (false,.mk (some 55) none (.load false 1 (.tmp 54))),
 (false,.mk (some 56) none (.fld 0 (.tmp 4))),
 (false,.mk (some 57) none (.load false 1 (.tmp 56))),
 (false,.mk (some 58) none (.idx 1 (.tmp 55) (.tmp 57))),
 (false,.mk (some 59) none (.load false 1 (.tmp 58))),
 (false,.mk (some 60) none (.mv (.tmp 5))),
 (false,.mk (some 61) none (.idx 1 (.tmp 59) (.tmp 60))),
 (false,.mk none none (.store 1 (.tmp 61) (.const (.bool true)))),
 (false,.mk (some 2) none (.mv (.const (.bool true))))]
 [0,2,4,12,13,14,30,31,32])
 .skip)))
def S148_2 : Stmt :=
 .region
 [.mk (some 62) none (.ibin .add (.tmp 32) (.const (.int .i64 1))),
 .mk (some 32) none (.mv (.tmp 62))]
 [0,2,4,12,13,14,30,31,32]
def S148_3 : Stmt :=
 .seq
 (.region [.mk (some 33) none (.ibin .lss (.tmp 32) (.tmp 31))]
 [0,2,4,12,13,14,30,31,32,33])
 (.seq (.cond (.tmp 33) .skip (.exit 4))
 (.join S148_1 S148_2 [2] [0,4,12,13,14,30,31,32]))
def S148_4 : Stmt :=
 .seq
 (.region [.mk (some 15) none (.ibin .lss (.tmp 14) (.tmp 13))] [0,2,12,13,14,15])
 (.seq (.cond (.tmp 15) .skip (.exit 2))
 (.seq
 (.block 3
 (.seq
 (.region
 [.mk (some 16) none (.mv (.tmp 14)),
 .mk (some 17) none (.idx 2 (.tmp 12) (.tmp 14)),
 .mk (some 18) none (.load true 2 (.tmp 17)),
 .mk (some 4) none
 (.alloc true 37 (.agg (Array.mk [.int .i64 0,.slice none 0 0]))),
 .mk (some 3) none (.mv (.tmp 16)),
 .mk none none (.store 2 (.tmp 4) (.tmp 18))]
 [0,2,3,4,12,13,14])
 (.seq
 (.region
 [.mk (some 19) none (.mv (.tmp 0)),.mk (some 20) none (.mv (.tmp 3)),
 .mk (some 21) none (.call (.func 186) [.tmp 19,.tmp 20])]
 [0,2,3,4,12,13,14])
 (.seq
 (.region
 [.mk (some 22) none (.mv (.tmp 0)),
 .mk (some 23) none (.nilCheck (.tmp 22)),
 .mk (some 24) none (.fld 8 (.tmp 23)),
 .mk (some 25) none (.load false 1 (.tmp 24)),
 .mk (some 26) none (.mv (.tmp 3)),
 .mk (some 27) none (.idx 1 (.tmp 25) (.tmp 26)),
 .mk (some 28) none (.load false 1 (.tmp 27)),
 .mk (some 29) none (.idx 1 (.tmp 28) (.const (.int .i64 0))),
 .mk (some 30) none (.load false 1 (.tmp 29)),
 .mk (some 31) none (.len false (.tmp 30)),
 .mk (some 32) none (.mv (.const (.int .i64 0)))]
 [0,2,4,12,13,14,30,31,32])
 (.block 4 (.loop S148_3 [2,32] [0,4,12,13,14,30,31]))))))
 (.region
 [.mk (some 63) none (.ibin .add (.tmp 14) (.const (.int .i64 1))),
 .mk (some 14) none (.mv (.tmp 63))]
 [0,2,12,13,14])))
def S148_5 : Stmt :=
 .seq
 (.seq (.region [.mk (some 7) none (.mv (.tmp 2))] [0,7])
 (.cond (.tmp 7) .skip (.exit 0)))
 (.block 1
 (.seq (.region [.mk (some 2) none (.mv (.const (.bool false)))] [0,2])
 (.seq
 (.region
 [.mk (some 8) none (.mv (.tmp 0)),.mk (some 9) none (.nilCheck (.tmp 8)),
 .mk (some 10) none (.fld 0 (.tmp 9)),.mk (some 11) none (.fld 3 (.tmp 10)),
 .mk (some 12) none (.load false 1 (.tmp 11)),
 .mk (some 13) none (.len false (.tmp 12)),
 .mk (some 14) none (.mv (.const (.int .i64 0)))]
 [0,2,12,13,14])
 (.block 2 (.loop S148_4 [2,14] [0,12,13])))))
def S148_0 : Stmt :=
 .seq (.region [.mk (some 2) none (.mv (.const (.bool true)))] [0,2])
 (.block 0 (.loop S148_5 [2] [0]))
def S148 : FnS := ⟨64,[],S148_0⟩
theorem tr148 : trFn Try.prog 148 [4] [[0,2],[2],[0],[0,7],[0,2],[0,2,12,13,14],[2,14],[0,12,13],[0,2,12,13,14,15],[0,2,3,4,12,13,14],[0,2,3,4,12,13,14],[0,2,4,12,13,14,30,31,32],[2,32],[0,4,12,13,14,30,31],[0,2,4,12,13,14,30,31,32,33],[2],[0,4,12,13,14,30,31,32],[0,2,4,5,6,12,13,14,30,31,32],[0,2,4,5,12,13,14,30,31,32,51],[0,2,4,12,13,14,30,31,32],[0,1,2,3,4,5,6,7,8,9,10,11],[],[],[0],[0,1],[0,1,2],[],[4],[0,1,2,3,4,5],[0,1,2,3,4,5,6],[],[0,1,2,3,4,5,6,7,8],[0,1,2,3,4,5,6,7,8,9],[0,1,2,3,4,5,6,7,8,9,10],[0,2,4,12,13,14,30,31,32],[0,2,12,13,14]] = some S148 := by kernel_rfl
end Go.Proofs.Ytniobbepliknmaa.V
namespace Go.Proofs.Ytniobbepliknmaa.V
open Go
set_option linter.unusedVariables false
set_option linter.unusedSimpArgs false
/- census: find walked; no condition. -/
attribute [local go_sem] e_seq e_region e_quiet e_join e_loop e_cond e_block e_exit e_ret e_skip e_fin e_kseq e_snrm e_sret e_sex e_bnrm e_bret e_bex e_rnrm e_rret e_res e_condC e_nil e_g e_mv g_mv e_pick g_pick pickC_eq e_ibin g_ibin ibinC_eq e_sbin g_sbin e_beq g_beq beqC_eq e_nilq g_nilq nilqC_sl nilqC_pt nilqC_mp e_un g_un unC_not unC_neg e_conv g_conv convC_eq e_fld g_fld fldC_ref fldC_ptr e_nilCheck g_nilCheck nilCheckC_ref nilCheckC_ptr nilCheckC_fun e_field g_field fieldC_eq e_len g_len lenC_sl lenC_str e_extract g_extract extractC_eq e_mkFunc e_build g_build e_idiv g_idiv idivC_eq e_ishift g_ishift ishiftC_eq e_idx g_idx e_idxA g_idxA e_load g_load e_loadB g_loadB atB_ref atB_v g_mkFunc loadC_ref loadC_ptr loadB_eq e_slc g_slc e_box boxC_loc boxC_esc e_alloc allocC_loc allocC_esc e_buildS e_store storeC_ref storeC_ptr storeB_eq e_append e_appz e_mk mkC_eq e_call callC_eq e_fn g_fn fnC_eq fnV_min' fnV_max' fnV_rune' e_q g_q e_a e_n g_call g_box g_alloc g_buildS g_store g_append g_mk g_a g_n g_dead e_dead e_callK e_drawn e_tree e_finJ e_tk e_tfin e_tno e_nbt_q e_nbt_qn e_nbt_a e_nbt_an e_nbt_fin e_drawnB e_bxb_nil e_bxb e_stB_none e_stB_some boxSt_store bs_mv bs_pick bs_ibin bs_idiv bs_ishift bs_sbin bs_beq bs_nilq bs_un bs_conv bs_box bs_alloc bs_build bs_buildS bs_load bs_fld bs_nilCheck bs_idx bs_idxA bs_field bs_slc bs_len bs_append bs_appz bs_mk bs_call bs_extract bs_mkFunc bs_fn bs_q bs_a bs_n bs_loadB bs_dead isBox_box e_early_nil e_early_t e_early_f e_nob_nil e_nob_none e_nob_some isBox_dead isBox_v isBox_ref e_dnil e_dk e_ek e_finB vcOps_vc1 e_dcons e_tq e_ekt e_tearly e_talt e_dearly look_nil look_c proj_nil proj_c looks_nil looks_c zip_nil zip_c val_tmp val_const val_func slv_v slv_box slv_ref slot_tmp slot_const slot_func slotL_v slotL_box slotL_ref put_some put_none updBox_c boxSet_box gd_eq slotVals_nil slotVals_c slotVals_b boxV_box boxOn_box slotsOn_nil slotsOn_c slotsOn_b resV_one resV_two vals_nil vals_c allOn_nil allOn_c partOn_nil partOn_c partVals_nil partVals_c fits_nil fits_c fillL_nil fillL_c mkv_one mkv_agg cellsV_agg cellsV_int cellsV_bool cellsV_slice cellsV_string cellsV_pointer cellsV_func cellsV_nilf cellsV_map one'_nil one'_c oc_int oc_bool oc_slice oc_string oc_pointer oc_func oc_nilf oc_map setC_eq iv_add iv_sub iv_mul iv_eql iv_neq iv_lss iv_leq iv_gtr iv_geq iok_add iok_sub iok_mul iok_eql iok_neq iok_lss iok_leq iok_gtr iok_geq pickV_bool args0_nil args0_c bnd_none bnd_some imp_bt imp_bf imp_ebt imp_ebf imp_eb1 imp_np imp_pp beq_tt beq_tf beq_ft beq_ff cond_or cond_and e_round e_meet Int.le_refl Int.toNat_zero decide_true decide_false Bool.or_false Bool.false_or Bool.true_or Bool.or_true Bool.and_false Bool.false_and Bool.bne_false Bool.bne_true beq_iff_eq Int.cast_ofNat_Int not_false_eq_true not_true_eq_false false_and and_false false_implies true_implies true_and and_true Bool.true_and Bool.and_true Bool.not_true Bool.not_false forall_const implies_true List.take_zero List.drop_zero List.take_succ_cons List.drop_succ_cons List.take_nil List.drop_nil List.length_cons List.length_nil List.nil_append List.append_nil List.cons_append Int.toNat_natCast decide_eq_true_eq decide_eq_false_iff_not cond_true cond_false and_self List.getElem?_cons_zero List.getElem?_cons_succ List.set_cons_zero List.set_cons_succ Option.some.injEq exists_eq_left' Nat.zero_add Nat.add_zero Nat.mul_one imp_self true_or or_true or_false false_or Bool.or_eq_true Bool.or_eq_false_iff Bool.and_eq_true Bool.and_eq_false_iff Bool.not_eq_true' Bool.not_eq_false'

/-- what is told of nonterminals is so -/
def HasS (g : Gr) (H : List (List Bool)) : Prop := ∀ a k, mat H a k = true → ∃ h, 0 < cntT g h (a : Int) k
theorem sym_sound {g : Gr} {H : List (List Bool)} (h : HasS g H) {s : Sy} (hs : 0 ≤ s.n) {k : Nat} (q : symB H s k = true) : ∃ x, 0 < symT (cntT g x) s k := by
  unfold symB at q
  split at q
  · rename_i e
    have q : k = 1 := by simpa using q
    exact ⟨0, by simp [symT, e, q]⟩
  · rename_i e
    obtain ⟨x, hx⟩ := h _ _ q
    rw [Int.toNat_of_nonneg hs] at hx
    exact ⟨x, by simpa [symT, e] using hx⟩
theorem symT_mono (g : Gr) {h h' : Nat} (hh : h ≤ h') {s : Sy} {k : Nat} (q : 0 < symT (cntT g h) s k) : 0 < symT (cntT g h') s k := Nat.lt_of_lt_of_le q (symT_le (cntT_le g hh) s k)
theorem row_sound {g : Gr} {H : List (List Bool)} (h : HasS g H) : ∀ {l : List Sy} {k : Nat}, (∀ s ∈ l, 0 ≤ s.n) → RowH H l k → ∃ x, 0 < rowT (cntT g x) l k
  | [], k, _, q => by
    have q : k = 0 := q
    subst q
    exact ⟨0, by simp [rowT]⟩
  | s :: l, k, h0, ⟨j, h1, h2, h3⟩ => by
    obtain ⟨x, hx⟩ := sym_sound h (h0 s (by simp)) h2
    obtain ⟨y, hy⟩ := row_sound h (fun s hs => h0 s (by simp [hs])) h3
    exact ⟨x + y, row_pos.2 ⟨j, h1, symT_mono g (by omega) hx, Nat.lt_of_lt_of_le hy (rowT_le (cntT_le g (by omega)) l _)⟩⟩
/-- what follows of rule r is told -/
def ClosR (H : List (List Bool)) (n : Nat) (r : Ru) (k0 : Nat) : Prop := ∀ k, k < k0 → RowH H r.r k → mat H r.l.toNat k = true
theorem has_complete {g : Gr} (V : VG g) {H : List (List Bool)} {n : Nat} (hc : ∀ r ∈ g.rs, ClosR H n r (n + 1)) : ∀ (h : Nat) (a : Int) (k : Nat), k ≤ n → 0 < cntT g h a k → mat H a.toNat k = true
  | 0, a, k, _, q => by simp [cntT] at q
  | h + 1, a, k, hk, q => by
    obtain ⟨r, r1, r2, r3⟩ := sumR_pos.1 (show 0 < sumR (cntT g h) a k g.rs from q)
    rw [← r2]
    refine hc r r1 k (by omega) ?_
    have row : ∀ (l : List Sy) (k : Nat), k ≤ n → 0 < rowT (cntT g h) l k → RowH H l k := by
      intro l
      induction l with
      | nil =>
        intro k _ q
        show k = 0
        exact Classical.byContradiction fun hne => by simp [rowT, hne] at q
      | cons s l ih =>
        intro k hk q
        obtain ⟨j, h1, h2, h3⟩ := row_pos.1 q
        refine ⟨j, h1, ?_, ih _ (by omega) h3⟩
        unfold symT at h2
        unfold symB
        split at h2
        · rename_i e
          rw [if_pos e]
          exact decide_eq_true (Classical.byContradiction fun hne => by simp [hne] at h2)
        · rename_i e
          rw [if_neg e]
          exact has_complete V hc h _ _ (by omega) h2
    exact row r.r k hk r3
/-- the rows of ends of all rules -/
def EndsI (g : Gr) (n : Nat) (H : List (List Bool)) (E : List (List (List Bool))) : Prop := E.length = g.rs.length ∧ ∀ (i : Nat) rows (r : Ru), E[i]? = some rows → g.rs[i]? = some r → Shp (r.r.length + 1) (n + 1) rows ∧ EndS H r.r rows
theorem EndsI.mono {g : Gr} {n : Nat} {H H' : List (List Bool)} {E : List (List (List Bool))} (h : EndsI g n H E) (hm : MonoH H H') : EndsI g n H' E :=
  ⟨h.1, fun i rows r h1 h2 => let ⟨q1, q2⟩ := h.2 i rows r h1 h2; ⟨q1, fun p k hp q => (q2 p k hp q).mono hm⟩⟩
theorem EndsI.set {g : Gr} {n : Nat} {H : List (List Bool)} {E : List (List (List Bool))} (h : EndsI g n H E) {i : Nat} {rows : List (List Bool)} {r : Ru} (hr : g.rs[i]? = some r) (h1 : Shp (r.r.length + 1) (n + 1) rows) (h2 : EndS H r.r rows) : EndsI g n H (E.set i rows) := by
  refine ⟨by simp [h.1], fun j rows' r' q1 q2 => ?_⟩
  rw [List.getElem?_set] at q1
  by_cases e : i = j
  · subst e
    rw [if_pos rfl] at q1
    split at q1
    · cases q1
      rw [hr] at q2
      cases q2
      exact ⟨h1, h2⟩
    · cases q1
  · rw [if_neg e] at q1
    exact h.2 j rows' r' q1 q2
/-- rules before i are done -/
def DoneR (g : Gr) (n : Nat) (H : List (List Bool)) (E : List (List (List Bool))) (i0 : Nat) : Prop := ∀ (i : Nat) rows (r : Ru), i < i0 → E[i]? = some rows → g.rs[i]? = some r → EndC H n r.r rows 0 ∧ ClosR H n r (n + 1)
theorem tab_find {Γr : Ctx} {t : Tb} {g : Gr} (V : VG g) {n : Nat} {R : Option Addr} {cR : Nat} (hT : TabK (lk Γr) t g n R cR) (hn : n ≤ 24) {gh ge : PH} {H0 : List (List Bool)} (hG0 : Grid gh t.bh 22 4 H0) (hS0 : Shp g.ns.toNat (n + 1) H0) (hH0 : HasS g H0)
    {E0 : List (List (List Bool))} (hE0 : Cube ge 22 4 t.be E0) (hI0 : EndsI g n H0 E0) :
    Ret Try.prog 148 [.pointer (some ⟨t.b, 0, none⟩)] Γr [gh, ge] (fun v Γ => ∃ gh' ge' H E, Γ = [gh', ge'] ∧ Grid gh' t.bh 22 4 H ∧ Shp g.ns.toNat (n + 1) H ∧ HasS g H ∧ Cube ge' 22 4 t.be E ∧ EndsI g n H E ∧ DoneR g n H E g.rs.length) := by
  generalize hR : (fun (v : Value) (Γ : Ctx) => ∃ gh' ge' H E, _) = R'
  refine ret_of_vc tr148 (Nat.le_of_ble_eq_true rfl) ?_
  simp -implicitDefEqProofs only [S148, S148_0, go_sem, Nat.reduceBEq, Nat.reduceAdd, Nat.reduceSub, Nat.reduceMul, Nat.reduceLeDiff, reduceCtorEq, ↓reduceIte, Int.reduceLT, Int.reduceLE, Int.reduceEq, Int.reduceNe]
  have hvl := V.len
  have hsh := hT.rs.short
  refine s_loop (fun f vs Γ => ∃ (gh ge : PH) (H : List (List Bool)) (E : List (List (List Bool))) (ag : Bool), vs = [.v true (.bool ag)] ∧ Γ = [gh, ge] ∧ Grid gh t.bh 22 4 H ∧ Shp g.ns.toNat (n + 1) H ∧ HasS g H ∧ Cube ge 22 4 t.be E ∧ EndsI g n H E ∧ f + cntL H = g.ns.toNat * (n + 1) + (if ag then 1 else 0) ∧ (ag = false → DoneR g n H E g.rs.length)) (g.ns.toNat * (n + 1) - cntL H0 + 1)
    (Up.here ⟨gh, ge, H0, E0, true, rfl, rfl, hG0, hS0, hH0, hE0, hI0, by have := cntL_le hS0.2; rw [hS0.1] at this; simp; omega, fun h => by cases h⟩) ?_
  clear hG0 hS0 hH0 hE0 hI0
  rintro f vs Γ ⟨gh, ge, H0, E0, ag, rfl, rfl, hG0, hS0, hH0, hE0, hI0, hf, hD0⟩
  have hc0 := cntL_le hS0.2
  rw [hS0.1] at hc0
  cases ag with
  | false =>
    simp -implicitDefEqProofs only [S148_5, go_sem, Nat.reduceBEq, Nat.reduceAdd, Nat.reduceSub, Nat.reduceMul, Nat.reduceLeDiff, reduceCtorEq, ↓reduceIte, Int.reduceLT, Int.reduceLE, Int.reduceEq, Int.reduceNe]
    refine Up.here ?_
    subst hR
    exact ⟨gh, ge, H0, E0, rfl, hG0, hS0, hH0, hE0, hI0, hD0 rfl⟩
  | true =>
    simp -implicitDefEqProofs only [S148_5, go_sem, Nat.reduceBEq, Nat.reduceAdd, Nat.reduceSub, Nat.reduceMul, Nat.reduceLeDiff, reduceCtorEq, ↓reduceIte, Int.reduceLT, Int.reduceLE, Int.reduceEq, Int.reduceNe]
    refine s_ld (j := 3) (cells_lk (lk_r [gh, ge] _ _ _ hT.out)) (by simp [Tb.cells]) (by simp) ?_
    simp -implicitDefEqProofs only [Tb.cells, go_sem, Nat.reduceBEq, Nat.reduceAdd, Nat.reduceSub, Nat.reduceMul, Nat.reduceLeDiff, reduceCtorEq, ↓reduceIte, Int.reduceLT, Int.reduceLE, Int.reduceEq, Int.reduceNe]
    refine s_loop (fun f1 vs Γ => ∃ (gh ge : PH) (H : List (List Bool)) (E : List (List (List Bool))) (ag : Bool) (i : Nat), vs = [.v true (.bool ag), .v true (.int .i64 (i : Int))] ∧ Γ = [gh, ge] ∧ i + f1 = g.rs.length ∧ Grid gh t.bh 22 4 H ∧ Shp g.ns.toNat (n + 1) H ∧ HasS g H ∧ Cube ge 22 4 t.be E ∧ EndsI g n H E ∧
      cntL H0 + (if ag then 1 else 0) ≤ cntL H ∧ (ag = false → DoneR g n H E i)) g.rs.length
      (Up.here ⟨gh, ge, H0, E0, false, 0, rfl, rfl, by omega, hG0, hS0, hH0, hE0, hI0, by simp, fun _ i _ _ h => by omega⟩) ?_
    clear hG0 hH0 hE0 hI0 hD0
    rintro f1 vs Γ ⟨gh, ge, H1, E1, ag, i, rfl, rfl, hif, hG1, hS1, hH1, hE1, hI1, hc1, hD1⟩
    have hcc := cntL_le hS1.2
    rw [hS1.1] at hcc
    simp -implicitDefEqProofs only [S148_4, go_sem, Nat.reduceBEq, Nat.reduceAdd, Nat.reduceSub, Nat.reduceMul, Nat.reduceLeDiff, reduceCtorEq, ↓reduceIte, Int.reduceLT, Int.reduceLE, Int.reduceEq, Int.reduceNe]
    refine ⟨fun hlt => ?_, fun hge => ?_⟩
    · have hi : i < g.rs.length := by omega
      obtain ⟨rows, hEi⟩ : ∃ rows, E1[i]? = some rows := ⟨_, List.getElem?_eq_getElem (by rw [hI1.1]; exact hi)⟩
      have hri := List.getElem?_eq_getElem hi
      obtain ⟨hSr, hSo⟩ := hI1.2 i _ _ hEi hri
      obtain ⟨b0, o0, h0, A1, c1, hr1, hcr⟩ := hT.rs.ru hi
      obtain ⟨be, hbe⟩ : ∃ be, t.be[i]? = some be := ⟨_, List.getElem?_eq_getElem (by rw [hT.be]; exact hi)⟩
      have hhd := hdG_at hbe hri
      have hdl := hdG_len hT.be
      obtain ⟨b2, o2, h2, hc2⟩ := hT.ends.hd (i := i) (by omega)
      rw [(List.getElem?_eq_some_iff.1 hhd).2] at hc2
      have hend := tab_end (Γr := [gh] ++ Γr) V (hT.mono (lk_r [gh] _)) (by have := hG1.slok (L := lk ([gh] ++ Γr)) (lk_l [gh] Γr); rw [hS1.1] at this; exact this) hS1 hn hE1 hi hEi hSr hSo
      have hleft := V.left _ (List.getElem_mem hi)
      have hsym := V.sym _ (List.getElem_mem hi)
      generalize hrr : g.rs[i] = r at *
      refine s_idx h0 (by omega) (by omega) ?_
      simp -implicitDefEqProofs only [go_sem, Nat.reduceBEq, Nat.reduceAdd, Nat.reduceSub, Nat.reduceMul, Nat.reduceLeDiff, reduceCtorEq, ↓reduceIte, Int.reduceLT, Int.reduceLE, Int.reduceEq, Int.reduceNe]
      refine s_ld0 (by simpa using hcr _ (lk_r [gh, ge] _)) (by simp) (by simp) ?_
      simp -implicitDefEqProofs only [go_sem, Nat.reduceBEq, Nat.reduceAdd, Nat.reduceSub, Nat.reduceMul, Nat.reduceLeDiff, reduceCtorEq, ↓reduceIte, Int.reduceLT, Int.reduceLE, Int.reduceEq, Int.reduceNe]
      intro bx
      refine CallVC.perm (Γm := [ge]) (Γf := [gh]) hend (List.Perm.swap ..) (List.Sublist.refl _) ?_
      rintro v Γ' ⟨ge, rows1, rfl, hE2, hSr1, hSo1, hC1, hmono⟩
      have hl1 : E1.length = g.rs.length := hI1.1
      have hEi2 : (E1.set i rows1)[i]? = some rows1 := by rw [List.getElem?_set_self (by omega)]
      have hI2 := hI1.set (rows := rows1) hri hSr1 hSo1
      have hrl : rows1.length = r.r.length + 1 := hSr1.1
      have h0l := hSr1.at' (i := 0) (by omega)
      obtain ⟨kb, hcb, hAb, _⟩ := hE2.at' hbe hEi2 (p := 0) (by omega) (by omega)
      rw [h0l] at hcb
      simp -implicitDefEqProofs only [go_sem, Nat.reduceBEq, Nat.reduceAdd, Nat.reduceSub, Nat.reduceMul, Nat.reduceLeDiff, reduceCtorEq, ↓reduceIte, Int.reduceLT, Int.reduceLE, Int.reduceEq, Int.reduceNe]
      refine s_ld (j := 8) (cells_lk (lk_r [ge, gh] _ _ _ hT.out)) (by simp [Tb.cells]) (by simp) ?_
      simp -implicitDefEqProofs only [Tb.cells, go_sem, Nat.reduceBEq, Nat.reduceAdd, Nat.reduceSub, Nat.reduceMul, Nat.reduceLeDiff, reduceCtorEq, ↓reduceIte, Int.reduceLT, Int.reduceLE, Int.reduceEq, Int.reduceNe]
      refine s_idx h2 (by omega) (by omega) ?_
      simp -implicitDefEqProofs only [go_sem, Nat.reduceBEq, Nat.reduceAdd, Nat.reduceSub, Nat.reduceMul, Nat.reduceLeDiff, reduceCtorEq, ↓reduceIte, Int.reduceLT, Int.reduceLE, Int.reduceEq, Int.reduceNe]
      refine s_ld0 (hc2 _ (lk_r [ge, gh] _)) (by simp) (by simp) ?_
      simp -implicitDefEqProofs only [go_sem, Nat.reduceBEq, Nat.reduceAdd, Nat.reduceSub, Nat.reduceMul, Nat.reduceLeDiff, reduceCtorEq, ↓reduceIte, Int.reduceLT, Int.reduceLE, Int.reduceEq, Int.reduceNe]
      refine s_idx rfl (by omega) (by omega) ?_
      simp -implicitDefEqProofs only [go_sem, Nat.reduceBEq, Nat.reduceAdd, Nat.reduceSub, Nat.reduceMul, Nat.reduceLeDiff, reduceCtorEq, ↓reduceIte, Int.reduceLT, Int.reduceLE, Int.reduceEq, Int.reduceNe]
      refine s_ld0 (by simpa using hcb _ (lk_l [ge] ([gh] ++ Γr))) (by simp) (by simp) ?_
      simp -implicitDefEqProofs only [go_sem, Nat.reduceBEq, Nat.reduceAdd, Nat.reduceSub, Nat.reduceMul, Nat.reduceLeDiff, reduceCtorEq, ↓reduceIte, Int.reduceLT, Int.reduceLE, Int.reduceEq, Int.reduceNe]
      refine s_loop (fun f2 vs Γ => ∃ (gh : PH) (H : List (List Bool)) (ag : Bool) (k : Nat), vs = [.v true (.bool ag), .v true (.int .i64 (k : Int))] ∧ Γ = [ge, gh] ∧ k + f2 = n + 1 ∧ Grid gh t.bh 22 4 H ∧ Shp g.ns.toNat (n + 1) H ∧ HasS g H ∧ MonoH H1 H ∧
        cntL H0 + (if ag then 1 else 0) ≤ cntL H ∧ (ag = false → H = H1 ∧ DoneR g n H1 E1 i ∧ ClosR H1 n r k)) (n + 1)
        (Up.here ⟨gh, H1, ag, 0, rfl, rfl, by omega, hG1, hS1, hH1, fun _ _ h => h, hc1, fun h => ⟨rfl, hD1 h, fun k h => by omega⟩⟩) ?_
      clear hG1 hc1 hcc
      rintro f2 vs Γ ⟨gh, H, ag, k, rfl, rfl, hkf, hG, hS, hH, hMo, hc, hD⟩
      simp -implicitDefEqProofs only [S148_3, go_sem, Nat.reduceBEq, Nat.reduceAdd, Nat.reduceSub, Nat.reduceMul, Nat.reduceLeDiff, reduceCtorEq, ↓reduceIte, Int.reduceLT, Int.reduceLE, Int.reduceEq, Int.reduceNe]
      refine ⟨fun hlt => ?_, fun hge => ?_⟩
      · have hk : k ≤ n := by omega
        refine s_split ?_
        simp -implicitDefEqProofs only [S148_1, go_sem, Nat.reduceBEq, Nat.reduceAdd, Nat.reduceSub, Nat.reduceMul, Nat.reduceLeDiff, reduceCtorEq, ↓reduceIte, Int.reduceLT, Int.reduceLE, Int.reduceEq, Int.reduceNe]
        refine s_idx rfl (by omega) (by omega) ?_
        simp -implicitDefEqProofs only [go_sem, Nat.reduceBEq, Nat.reduceAdd, Nat.reduceSub, Nat.reduceMul, Nat.reduceLeDiff, reduceCtorEq, ↓reduceIte, Int.reduceLT, Int.reduceLE, Int.reduceEq, Int.reduceNe]
        refine s_ld0 (hAb.bool (i := k) (by omega) (by simp)) (by simp) (by simp) ?_
        have hget := mat_get (List.getElem?_eq_getElem (show 0 < rows1.length by omega)) (show k < rows1[0].length by omega)
        generalize rows1[0][k] = v0 at hget
        obtain ⟨a, ha⟩ : ∃ a : Nat, r.l = a := ⟨r.l.toNat, by omega⟩
        have hat : r.l.toNat = a := by omega
        have hHl := hS.1
        have hHr := hS.at' (i := a) (by omega)
        obtain ⟨ka, hca, hAa, hpa⟩ := hG.at' (i := a) (by omega) (by omega)
        rw [hHr] at hca
        have hgh := mat_get (List.getElem?_eq_getElem (show a < H.length by omega)) (show k < H[a].length by omega)
        cases v0 with
        | false =>
          simp -implicitDefEqProofs only [go_sem, Nat.reduceBEq, Nat.reduceAdd, Nat.reduceSub, Nat.reduceMul, Nat.reduceLeDiff, reduceCtorEq, ↓reduceIte, Int.reduceLT, Int.reduceLE, Int.reduceEq, Int.reduceNe]
          refine s_ldg0 (cs := [.slice none 0 0]) (by simp) (by simp) (by simp) (by simp) ?_
          simp -implicitDefEqProofs only [go_sem, Nat.reduceBEq, Nat.reduceAdd, Nat.reduceSub, Nat.reduceMul, Nat.reduceLeDiff, reduceCtorEq, ↓reduceIte, Int.reduceLT, Int.reduceLE, Int.reduceEq, Int.reduceNe]
          refine s_idxg (b := 0) (o := 0) (by simp) ?_
          simp -implicitDefEqProofs only [go_sem, Nat.reduceBEq, Nat.reduceAdd, Nat.reduceSub, Nat.reduceMul, Nat.reduceLeDiff, reduceCtorEq, ↓reduceIte, Int.reduceLT, Int.reduceLE, Int.reduceEq, Int.reduceNe]
          refine s_ldg0 (cs := [.slice none 0 0]) (by simp) (by simp) (by simp) (by simp) ?_
          simp -implicitDefEqProofs only [go_sem, Nat.reduceBEq, Nat.reduceAdd, Nat.reduceSub, Nat.reduceMul, Nat.reduceLeDiff, reduceCtorEq, ↓reduceIte, Int.reduceLT, Int.reduceLE, Int.reduceEq, Int.reduceNe]
          refine s_idxg (b := 0) (o := 0) (by simp) ?_
          simp -implicitDefEqProofs only [go_sem, Nat.reduceBEq, Nat.reduceAdd, Nat.reduceSub, Nat.reduceMul, Nat.reduceLeDiff, reduceCtorEq, ↓reduceIte, Int.reduceLT, Int.reduceLE, Int.reduceEq, Int.reduceNe]
          refine s_ldg0 (cs := [.bool false]) (by simp) (by simp) (by simp) (by simp) ?_
          simp -implicitDefEqProofs only [go_sem, Nat.reduceBEq, Nat.reduceAdd, Nat.reduceSub, Nat.reduceMul, Nat.reduceLeDiff, reduceCtorEq, ↓reduceIte, Int.reduceLT, Int.reduceLE, Int.reduceEq, Int.reduceNe]
          simp -implicitDefEqProofs only [S148_2, go_sem, Nat.reduceBEq, Nat.reduceAdd, Nat.reduceSub, Nat.reduceMul, Nat.reduceLeDiff, reduceCtorEq, ↓reduceIte, Int.reduceLT, Int.reduceLE, Int.reduceEq, Int.reduceNe]
          simp (disch := omega) only [wrap_id]
          refine Up.here ⟨f2 - 1, by omega, Up.here ⟨gh, H, ag, k + 1, rfl, rfl, by omega, hG, hS, hH, hMo, hc, fun h => ?_⟩⟩
          obtain ⟨q1, q2, q3⟩ := hD h
          refine ⟨q1, q2, fun k' h1 h2 => ?_⟩
          rcases Nat.lt_or_ge k' k with q | q
          · exact q3 k' q h2
          · have : k' = k := by omega
            subst this
            have := hC1 0 k' (Nat.le_refl _) (by omega) hk h2
            rw [hget] at this
            cases this
        | true =>
          simp -implicitDefEqProofs only [go_sem, Nat.reduceBEq, Nat.reduceAdd, Nat.reduceSub, Nat.reduceMul, Nat.reduceLeDiff, reduceCtorEq, ↓reduceIte, Int.reduceLT, Int.reduceLE, Int.reduceEq, Int.reduceNe]
          refine s_ld (j := 5) (cells_lk (lk_r [ge, gh] _ _ _ hT.out)) (by simp [Tb.cells]) (by simp) ?_
          simp -implicitDefEqProofs only [Tb.cells, go_sem, Nat.reduceBEq, Nat.reduceAdd, Nat.reduceSub, Nat.reduceMul, Nat.reduceLeDiff, reduceCtorEq, ↓reduceIte, Int.reduceLT, Int.reduceLE, Int.reduceEq, Int.reduceNe]
          rw [ha]
          refine s_idx rfl (by omega) (by omega) ?_
          simp -implicitDefEqProofs only [go_sem, Nat.reduceBEq, Nat.reduceAdd, Nat.reduceSub, Nat.reduceMul, Nat.reduceLeDiff, reduceCtorEq, ↓reduceIte, Int.reduceLT, Int.reduceLE, Int.reduceEq, Int.reduceNe]
          refine s_ld0 (by simpa using hca _ (by simp)) (by simp) (by simp) ?_
          simp -implicitDefEqProofs only [go_sem, Nat.reduceBEq, Nat.reduceAdd, Nat.reduceSub, Nat.reduceMul, Nat.reduceLeDiff, reduceCtorEq, ↓reduceIte, Int.reduceLT, Int.reduceLE, Int.reduceEq, Int.reduceNe]
          refine s_idx rfl (by omega) (by omega) ?_
          simp -implicitDefEqProofs only [go_sem, Nat.reduceBEq, Nat.reduceAdd, Nat.reduceSub, Nat.reduceMul, Nat.reduceLeDiff, reduceCtorEq, ↓reduceIte, Int.reduceLT, Int.reduceLE, Int.reduceEq, Int.reduceNe]
          refine s_ld0 (hAa.bool (i := k) (by omega) (by simp)) (by simp) (by simp) ?_
          generalize hv1 : H[a][k] = v1 at hgh
          cases v1 with
          | true =>
            simp -implicitDefEqProofs only [S148_2, go_sem, Nat.reduceBEq, Nat.reduceAdd, Nat.reduceSub, Nat.reduceMul, Nat.reduceLeDiff, reduceCtorEq, ↓reduceIte, Int.reduceLT, Int.reduceLE, Int.reduceEq, Int.reduceNe]
            simp (disch := omega) only [wrap_id]
            refine Up.here ⟨f2 - 1, by omega, Up.here ⟨gh, H, ag, k + 1, rfl, rfl, by omega, hG, hS, hH, hMo, hc, fun h => ?_⟩⟩
            obtain ⟨q1, q2, q3⟩ := hD h
            refine ⟨q1, q2, fun k' h1 h2 => ?_⟩
            rcases Nat.lt_or_ge k' k with q | q
            · exact q3 k' q h2
            · have : k' = k := by omega
              subst this
              rw [hat, ← q1]
              exact hgh
          | false =>
            simp -implicitDefEqProofs only [go_sem, Nat.reduceBEq, Nat.reduceAdd, Nat.reduceSub, Nat.reduceMul, Nat.reduceLeDiff, reduceCtorEq, ↓reduceIte, Int.reduceLT, Int.reduceLE, Int.reduceEq, Int.reduceNe]
            refine s_ld (j := 5) (cells_lk (lk_r [ge, gh] _ _ _ hT.out)) (by simp [Tb.cells]) (by simp) ?_
            simp -implicitDefEqProofs only [Tb.cells, go_sem, Nat.reduceBEq, Nat.reduceAdd, Nat.reduceSub, Nat.reduceMul, Nat.reduceLeDiff, reduceCtorEq, ↓reduceIte, Int.reduceLT, Int.reduceLE, Int.reduceEq, Int.reduceNe]
            refine s_idx rfl (by omega) (by omega) ?_
            simp -implicitDefEqProofs only [go_sem, Nat.reduceBEq, Nat.reduceAdd, Nat.reduceSub, Nat.reduceMul, Nat.reduceLeDiff, reduceCtorEq, ↓reduceIte, Int.reduceLT, Int.reduceLE, Int.reduceEq, Int.reduceNe]
            refine s_ld0 (by simpa using hca _ (by simp)) (by simp) (by simp) ?_
            simp -implicitDefEqProofs only [go_sem, Nat.reduceBEq, Nat.reduceAdd, Nat.reduceSub, Nat.reduceMul, Nat.reduceLeDiff, reduceCtorEq, ↓reduceIte, Int.reduceLT, Int.reduceLE, Int.reduceEq, Int.reduceNe]
            refine s_idx rfl (by omega) (by omega) ?_
            simp -implicitDefEqProofs only [go_sem, Nat.reduceBEq, Nat.reduceAdd, Nat.reduceSub, Nat.reduceMul, Nat.reduceLeDiff, reduceCtorEq, ↓reduceIte, Int.reduceLT, Int.reduceLE, Int.reduceEq, Int.reduceNe]
            refine s_storeA (ix := 1) (α := Bool) true rfl hAa (i := k) (by omega) ?_
            intro gh2 hA2 ho2
            have hG2 := hpa gh2 _ hA2 (by simp) ho2
            have hm2 := mat_setS hS (x := a) (y := k) (by omega) (by omega) true
            rw [show H.getD a [] = H[a] by simp [List.getD_eq_getElem?_getD, show a < H.length by omega]] at hm2
            have hS2 : Shp g.ns.toNat (n + 1) (H.set a (H[a].set k true)) := hS.set a (by simp [hHr])
            have hct : cntL (H.set a (H[a].set k true)) = cntL H + 1 := cntL_set (by omega) (count_set (by omega) hv1)
            simp -implicitDefEqProofs only [S148_2, go_sem, Nat.reduceBEq, Nat.reduceAdd, Nat.reduceSub, Nat.reduceMul, Nat.reduceLeDiff, reduceCtorEq, ↓reduceIte, Int.reduceLT, Int.reduceLE, Int.reduceEq, Int.reduceNe]
            simp (disch := omega) only [wrap_id]
            refine Up.here ⟨f2 - 1, by omega, Up.here ⟨gh2, _, true, k + 1, rfl, rfl, by omega, hG2, hS2, fun b j q => ?_, fun b j q => ?_, ?_, fun h => by cases h⟩⟩
            · rw [hm2] at q
              split at q
              · rename_i e
                obtain ⟨rfl, rfl⟩ := e
                obtain ⟨x, hx⟩ := row_sound hH1 (fun s hs => (hsym s hs).1) (hSo1 0 j (by omega) hget)
                refine ⟨x + 1, sumR_pos.2 ⟨r, ?_, ha, by simpa using hx⟩⟩
                rw [← hrr]
                exact List.getElem_mem hi
              · exact hH b j q
            · rw [hm2]
              split
              · rfl
              · exact hMo b j q
            · rw [hct]
              have : cntL H0 ≤ cntL H := by
                revert hc
                cases ag <;> simp <;> omega
              simp
              omega
      · have hk : k = n + 1 := by omega
        subst hk
        simp (disch := omega) only [wrap_id]
        refine ⟨f1 - 1, by omega, Up.to [gh, ge] (Ent.perm (List.Perm.swap ..)) ⟨gh, ge, H, _, ag, i + 1, rfl, rfl, by omega, hG, hS, hH, hE2, hI2.mono hMo, hc, fun h => ?_⟩⟩
        obtain ⟨q1, q2, q3⟩ := hD h
        subst q1
        intro j rows' r' h1 h2 h3
        by_cases e : j = i
        · subst e
          rw [hEi2] at h2
          cases h2
          rw [hri] at h3
          cases h3
          exact ⟨hC1, q3⟩
        · rw [List.getElem?_set_ne (fun q => e q.symm)] at h2
          exact q2 j rows' r' (by omega) h2 h3
    · have hi : i = g.rs.length := by omega
      subst hi
      refine ⟨g.ns.toNat * (n + 1) + (if ag then 1 else 0) - cntL H1, ?_, Up.here ⟨gh, ge, H1, E1, ag, rfl, rfl, hG1, hS1, hH1, hE1, hI1, ?_, hD1⟩⟩
      · revert hc1 hf
        cases ag <;> simp <;> omega
      · omega
end Go.Proofs.Ytniobbepliknmaa.V
/- The text of (*parlance/census.table).same as a statement (slots: 0 t, 1 k, 2 t, 3 k, 5 way, 6 _, 7 r, 8 i, 9 s, 10 ok, 11 j, 12 x); no condition. -/
namespace Go.Proofs.Ytniobbepliknmaa.V
open Go
def S187_1 : Stmt :=
 .seq
 (.region [.mk (some 62) none (.ibin .lss (.tmp 61) (.tmp 60))]
 [0,1,5,7,8,9,10,28,29,30,35,36,37,59,60,61,62])
 (.seq (.cond (.tmp 62) .skip (.exit 4))
 (.seq
 (.block 5
 (.seq
 (.region
 [.mk (some 63) none (.mv (.tmp 61)),
 .mk (some 64) none (.idx 2 (.tmp 59) (.tmp 61)),
 .mk (some 65) none (.load true 2 (.tmp 64)),
 .mk (some 12) none
 (.alloc true 39 (.agg (Array.mk [.bool false,.int .i64 0]))),
 .mk (some 11) none (.mv (.tmp 63)),
 .mk none none (.store 2 (.tmp 12) (.tmp 65))]
 [0,1,5,7,8,9,10,11,12,28,29,30,35,36,37,59,60,61])
 (.region
 [.mk (some 66) none (.mv (.tmp 10)),.mk (some 67) none (.mv (.tmp 66)),
 .mk (some 68) (some (67,true)) (.mv (.tmp 11)),
 .mk (some 69) (some (67,true)) (.mv (.tmp 8)),
 .mk (some 70) (some (67,true)) (.ibin .eql (.tmp 68) (.tmp 69)),
 .mk (some 71) (some (67,true)) (.mv (.tmp 70)),
 .mk (some 72) (some (71,false)) (.mv (.tmp 0)),
 .mk (some 73) (some (71,false)) (.load true 2 (.tmp 12)),
 .mk (some 74) (some (71,false))
 (.call (.func 207) [.tmp 72,.tmp 73,.const (.int .i64 0)]),
 .mk (some 75) (some (67,true))
 (.pick (.tmp 71) (.const (.bool true)) (.tmp 74)),
 .mk (some 76) none (.pick (.tmp 67) (.tmp 75) (.const (.bool false))),
 .mk (some 10) none (.mv (.tmp 76))]
 [0,1,5,7,8,9,10,28,29,30,35,36,37,59,60,61])))
 (.region
 [.mk (some 77) none (.ibin .add (.tmp 61) (.const (.int .i64 1))),
 .mk (some 61) none (.mv (.tmp 77))]
 [0,1,5,7,8,9,10,28,29,30,35,36,37,59,60,61])))
def S187_2 : Stmt :=
 .block 3
 (.seq
 (.region
 [.mk (some 39) none (.mv (.tmp 37)),
 .mk (some 40) none (.idx 2 (.tmp 35) (.tmp 37)),
 .mk (some 41) none (.load true 2 (.tmp 40)),
 .mk (some 9) none (.alloc true 39 (.agg (Array.mk [.bool false,.int .i64 0]))),
 .mk (some 8) none (.mv (.tmp 39)),
 .mk none none (.store 2 (.tmp 9) (.tmp 41))]
 [0,1,5,7,8,9,28,29,30,35,36,37])
 (.seq
 (.seq
 (.quiet
 [.mk (some 42) none (.fld 0 (.tmp 9)),
 .mk (some 43) none (.load false 1 (.tmp 42)),
 .mk (some 44) none (.mv (.tmp 43)),
 .mk (some 45) (some (44,false)) (.mv (.tmp 0)),
 .mk (some 46) (some (44,false)) (.nilCheck (.tmp 45)),
 .mk (some 47) (some (44,false)) (.fld 5 (.tmp 46)),
 .mk (some 48) (some (44,false)) (.load false 1 (.tmp 47)),
 .mk (some 49) (some (44,false)) (.fld 1 (.tmp 9)),
 .mk (some 50) (some (44,false)) (.load false 1 (.tmp 49)),
 .mk (some 51) (some (44,false)) (.idx 1 (.tmp 48) (.tmp 50)),
 .mk (some 52) (some (44,false)) (.load false 1 (.tmp 51)),
 .mk (some 53) (some (44,false)) (.mv (.tmp 1)),
 .mk (some 54) (some (44,false)) (.idx 1 (.tmp 52) (.tmp 53)),
 .mk (some 55) (some (44,false)) (.load false 1 (.tmp 54)),
 .mk (some 56) (some (44,false)) (.un .not (.tmp 55)),
 .mk (some 57) none (.pick (.tmp 44) (.const (.bool true)) (.tmp 56))]
 [0,1,5,7,8,9,28,29,30,35,36,37,57])
 (.cond (.tmp 57) (.exit 3) .skip))
 (.seq
 (.region [.mk (some 10) none (.mv (.const (.bool true)))]
 [0,1,5,7,8,9,10,28,29,30,35,36,37])
 (.seq
 (.seq
 (.region
 [.mk (some 58) none (.fld 1 (.tmp 7)),
 .mk (some 59) none (.load false 1 (.tmp 58)),
 .mk (some 60) none (.len false (.tmp 59)),
 .mk (some 61) none (.mv (.const (.int .i64 0)))]
 [0,1,5,7,8,9,10,28,29,30,35,36,37,59,60,61])
 (.block 4 (.loop S187_1 [10,61] [0,1,5,7,8,9,28,29,30,35,36,37,59,60])))
 (.drawn
 [(false,.mk (some 78) none (.mv (.tmp 5))),
 (false,.mk (some 79) none (.fld 0 (.tmp 7))),
 (false,.mk (some 80) none (.load false 1 (.tmp 79))),
 (false,.mk (some 81) none (.idx 1 (.tmp 78) (.tmp 80))),
 (false,.mk (some 82) none (.load false 1 (.tmp 81))),
 (false,.mk (some 83) none (.fld 1 (.tmp 9))),
 (false,.mk (some 84) none (.load false 1 (.tmp 83))),
 (false,.mk (some 85) none (.mv (.tmp 5))),
 (false,.mk (some 86) none (.fld 0 (.tmp 7))),
 (false,.mk (some 87) none (.load false 1 (.tmp 86))),
 (false,.mk (some 88) none (.idx 1 (.tmp 85) (.tmp 87))),
 (false,.mk (some 89) none (.load false 1 (.tmp 88))),
 (false,.mk (some 90) none (.fld 1 (.tmp 9))),
 (false,.mk (some 91) none (.load false 1 (.tmp 90))),
 (false,.mk (some 92) none (.idx 1 (.tmp 89) (.tmp 91))),
 (false,.mk (some 93) none (.load false 1 (.tmp 92))),
 (false,.mk (some 94) none (.mv (.tmp 93))),
 (false,.mk (some 95) (some (94,false)) (.mv (.tmp 10))),
 (false,
 .mk (some 96) none (.pick (.tmp 94) (.const (.bool true)) (.tmp 95))),
 (false,.mk (some 97) none (.idx 1 (.tmp 82) (.tmp 84))),
 (false,.mk none none (.store 1 (.tmp 97) (.tmp 96)))]
 [0,1,5,7,28,29,30,35,36,37])))))
def S187_3 : Stmt :=
 .region
 [.mk (some 98) none (.ibin .add (.tmp 37) (.const (.int .i64 1))),
 .mk (some 37) none (.mv (.tmp 98))]
 [0,1,5,7,28,29,30,35,36,37]
def S187_4 : Stmt :=
 .seq
 (.region [.mk (some 38) none (.ibin .lss (.tmp 37) (.tmp 36))]
 [0,1,5,7,28,29,30,35,36,37,38])
 (.seq (.cond (.tmp 38) .skip (.exit 2))
 (.join S187_2 S187_3 [] [0,1,5,7,28,29,30,35,36,37]))
def S187_5 : Stmt :=
 .seq
 (.region [.mk (some 31) none (.ibin .lss (.tmp 30) (.tmp 29))]
 [0,1,5,28,29,30,31])
 (.seq (.cond (.tmp 31) .skip (.exit 0))
 (.seq
 (.block 1
 (.seq
 (.region
 [.mk (some 32) none (.idx 2 (.tmp 28) (.tmp 30)),
 .mk (some 33) none (.load true 2 (.tmp 32)),
 .mk (some 7) none
 (.alloc true 37 (.agg (Array.mk [.int .i64 0,.slice none 0 0]))),
 .mk none none (.store 2 (.tmp 7) (.tmp 33))]
 [0,1,5,7,28,29,30])
 (.seq
 (.region
 [.mk (some 34) none (.fld 1 (.tmp 7)),
 .mk (some 35) none (.load false 1 (.tmp 34)),
 .mk (some 36) none (.len false (.tmp 35)),
 .mk (some 37) none (.mv (.const (.int .i64 0)))]
 [0,1,5,7,28,29,30,35,36,37])
 (.block 2 (.loop S187_4 [37] [0,1,5,7,28,29,30,35,36])))))
 (.region
 [.mk (some 99) none (.ibin .add (.tmp 30) (.const (.int .i64 1))),
 .mk (some 30) none (.mv (.tmp 99))]
 [0,1,5,28,29,30])))
def S187_0 : Stmt :=
 .seq (.region [.mk (some 4) none (.mv (.const (.slice none 0 0)))] [0,1])
 (.seq
 (.drawn
 [(false,.mk (some 13) none (.mv (.tmp 0))),
 (false,.mk (some 14) none (.nilCheck (.tmp 13))),
 (false,.mk (some 15) none (.fld 0 (.tmp 14))),
 (false,.mk (some 16) none (.fld 1 (.tmp 15))),
 (false,.mk (some 17) none (.load false 1 (.tmp 16))),
 (false,.mk (some 18) none (.mv (.tmp 0))),
 (false,.mk (some 19) none (.nilCheck (.tmp 18))),
 (false,.mk (some 20) none (.fld 0 (.tmp 19))),
 (false,.mk (some 21) none (.fld 1 (.tmp 20))),
 (false,.mk (some 22) none (.load false 1 (.tmp 21))),
 (false,
 .mk (some 23) none
 (.call (.func 184) [.tmp 17,.tmp 22,.const (.bool false)])),
 (false,.mk (some 5) none (.mv (.tmp 23)))]
 [0,1,5])
 (.seq
 (.seq
 (.region
 [.mk (some 24) none (.mv (.tmp 0)),.mk (some 25) none (.nilCheck (.tmp 24)),
 .mk (some 26) none (.fld 0 (.tmp 25)),.mk (some 27) none (.fld 3 (.tmp 26)),
 .mk (some 28) none (.load false 1 (.tmp 27)),
 .mk (some 29) none (.len false (.tmp 28)),
 .mk (some 30) none (.mv (.const (.int .i64 0)))]
 [0,1,5,28,29,30])
 (.block 0 (.loop S187_5 [30] [0,1,5,28,29])))
 (.seq
 (.region
 [.mk (some 100) none (.mv (.tmp 5)),.mk (some 4) none (.mv (.tmp 100))] [4])
 .ret)))
def S187 : FnS := ⟨101,[(4,none)],S187_0⟩
theorem tr187 : trFn Try.prog 187 [7,9,12] [[0,1],[0,1,5],[0,1,2,3,4,5,6,7,8,9,10,11],[],[],[0],[0,1],[0,1,2],[0,1,2,3],[],[5],[5,6],[5,6,7],[5,6,7,8],[0,1,2,3,4,5,6,7,8,9],[0,1,2,3,4,5,6,7,8,9,10],[0,1,5,28,29,30],[30],[0,1,5,28,29],[0,1,5,28,29,30,31],[0,1,5,7,28,29,30],[0,1,5,7,28,29,30,35,36,37],[37],[0,1,5,7,28,29,30,35,36],[0,1,5,7,28,29,30,35,36,37,38],[],[0,1,5,7,28,29,30,35,36,37],[0,1,5,7,8,9,28,29,30,35,36,37],[0,1,5,7,8,9,28,29,30,35,36,37,57],[0,1,5,7,8,9,10,28,29,30,35,36,37],[0,1,5,7,8,9,10,28,29,30,35,36,37,59,60,61],[10,61],[0,1,5,7,8,9,28,29,30,35,36,37,59,60],[0,1,5,7,8,9,10,28,29,30,35,36,37,59,60,61,62],[0,1,5,7,8,9,10,11,12,28,29,30,35,36,37,59,60,61],[0,1,5,7,8,9,10,28,29,30,35,36,37,59,60,61],[0,1,5,7,8,9,10,28,29,30,35,36,37,59,60,61],[0,1,5,7,28,29,30,35,36,37],[0,1,2,3,4,5,6,7,8,9,10,11,12,13,14,15,16,17,18,19,20],[],[],[],[1],[0,1,2],[0,1,2,3],[],[5],[],[],[8],[7,8,9],[7,8,9,10],[],[12],[7,8,9,10,11,12,13],[7,8,9,10,11,12,13,14],[7,8,9,10,11,12,13,14,15],[7,8,9,10,11,12,13,14,15,16],[7,8,9,10,11,12,13,14,15,16,17],[0,1,2,3,4,5,6,7,8,9,10,11,12,13,14,15,16,17,18],[0,1,2,3,4,5,6,7,8,9,10,11,12,13,14,15,16,17,18,19],[0,1,5,7,28,29,30,35,36,37],[0,1,5,28,29,30],[4]] = some S187 := by kernel_rfl
end Go.Proofs.Ytniobbepliknmaa.V
namespace Go.Proofs.Ytniobbepliknmaa.V
open Go
set_option linter.unusedVariables false
set_option linter.unusedSimpArgs false
/- census: same walked; no condition. -/
attribute [local go_sem] e_seq e_region e_quiet e_join e_loop e_cond e_block e_exit e_ret e_skip e_fin e_kseq e_snrm e_sret e_sex e_bnrm e_bret e_bex e_rnrm e_rret e_res e_condC e_nil e_g e_mv g_mv e_pick g_pick pickC_eq e_ibin g_ibin ibinC_eq e_sbin g_sbin e_beq g_beq beqC_eq e_nilq g_nilq nilqC_sl nilqC_pt nilqC_mp e_un g_un unC_not unC_neg e_conv g_conv convC_eq e_fld g_fld fldC_ref fldC_ptr e_nilCheck g_nilCheck nilCheckC_ref nilCheckC_ptr nilCheckC_fun e_field g_field fieldC_eq e_len g_len lenC_sl lenC_str e_extract g_extract extractC_eq e_mkFunc e_build g_build e_idiv g_idiv idivC_eq e_ishift g_ishift ishiftC_eq e_idx g_idx e_idxA g_idxA e_load g_load e_loadB g_loadB atB_ref atB_v g_mkFunc loadC_ref loadC_ptr loadB_eq e_slc g_slc e_box boxC_loc boxC_esc e_alloc allocC_loc allocC_esc e_buildS e_store storeC_ref storeC_ptr storeB_eq e_append e_appz e_mk mkC_eq e_call callC_eq e_fn g_fn fnC_eq fnV_min' fnV_max' fnV_rune' e_q g_q e_a e_n g_call g_box g_alloc g_buildS g_store g_append g_mk g_a g_n g_dead e_dead e_callK e_drawn e_tree e_finJ e_tk e_tfin e_tno e_nbt_q e_nbt_qn e_nbt_a e_nbt_an e_nbt_fin e_drawnB e_bxb_nil e_bxb e_stB_none e_stB_some boxSt_store bs_mv bs_pick bs_ibin bs_idiv bs_ishift bs_sbin bs_beq bs_nilq bs_un bs_conv bs_box bs_alloc bs_build bs_buildS bs_load bs_fld bs_nilCheck bs_idx bs_idxA bs_field bs_slc bs_len bs_append bs_appz bs_mk bs_call bs_extract bs_mkFunc bs_fn bs_q bs_a bs_n bs_loadB bs_dead isBox_box e_early_nil e_early_t e_early_f e_nob_nil e_nob_none e_nob_some isBox_dead isBox_v isBox_ref e_dnil e_dk e_ek e_finB vcOps_vc1 e_dcons e_tq e_ekt e_tearly e_talt e_dearly look_nil look_c proj_nil proj_c looks_nil looks_c zip_nil zip_c val_tmp val_const val_func slv_v slv_box slv_ref slot_tmp slot_const slot_func slotL_v slotL_box slotL_ref put_some put_none updBox_c boxSet_box gd_eq slotVals_nil slotVals_c slotVals_b boxV_box boxOn_box slotsOn_nil slotsOn_c slotsOn_b resV_one resV_two vals_nil vals_c allOn_nil allOn_c partOn_nil partOn_c partVals_nil partVals_c fits_nil fits_c fillL_nil fillL_c mkv_one mkv_agg cellsV_agg cellsV_int cellsV_bool cellsV_slice cellsV_string cellsV_pointer cellsV_func cellsV_nilf cellsV_map one'_nil one'_c oc_int oc_bool oc_slice oc_string oc_pointer oc_func oc_nilf oc_map setC_eq iv_add iv_sub iv_mul iv_eql iv_neq iv_lss iv_leq iv_gtr iv_geq iok_add iok_sub iok_mul iok_eql iok_neq iok_lss iok_leq iok_gtr iok_geq pickV_bool args0_nil args0_c bnd_none bnd_some imp_bt imp_bf imp_ebt imp_ebf imp_eb1 imp_np imp_pp beq_tt beq_tf beq_ft beq_ff cond_or cond_and e_round e_meet Int.le_refl Int.toNat_zero decide_true decide_false Bool.or_false Bool.false_or Bool.true_or Bool.or_true Bool.and_false Bool.false_and Bool.bne_false Bool.bne_true beq_iff_eq Int.cast_ofNat_Int not_false_eq_true not_true_eq_false false_and and_false false_implies true_implies true_and and_true Bool.true_and Bool.and_true Bool.not_true Bool.not_false forall_const implies_true List.take_zero List.drop_zero List.take_succ_cons List.drop_succ_cons List.take_nil List.drop_nil List.length_cons List.length_nil List.nil_append List.append_nil List.cons_append Int.toNat_natCast decide_eq_true_eq decide_eq_false_iff_not cond_true cond_false and_self List.getElem?_cons_zero List.getElem?_cons_succ List.set_cons_zero List.set_cons_succ Option.some.injEq exists_eq_left' Nat.zero_add Nat.add_zero Nat.mul_one imp_self true_or or_true or_false false_or Bool.or_eq_true Bool.or_eq_false_iff Bool.and_eq_true Bool.and_eq_false_iff Bool.not_eq_true' Bool.not_eq_false'

/-- before place i0 of l stands y, which has k, and all others have 0 -/
def SameR (H : List (List Bool)) (k : Nat) (l : List Sy) (i0 : Nat) (y : Nat) : Prop :=
  ∃ i s, i < i0 ∧ l[i]? = some s ∧ s.t = false ∧ s.n = (y : Int) ∧ mat H y k = true ∧ ∀ j s', l[j]? = some s' → j ≠ i → symB H s' 0 = true
theorem SameR.succ {H : List (List Bool)} {k : Nat} {l : List Sy} {i : Nat} {s : Sy} (hs : l[i]? = some s) (y : Nat) : SameR H k l (i + 1) y ↔ SameR H k l i y ∨ (s.t = false ∧ s.n = (y : Int) ∧ mat H y k = true ∧ ∀ j s', l[j]? = some s' → j ≠ i → symB H s' 0 = true) := by
  constructor
  · rintro ⟨i', s', h1, h2, h3⟩
    rcases Nat.lt_or_ge i' i with q | q
    · exact .inl ⟨i', s', q, h2, h3⟩
    · have : i' = i := by omega
      subst this
      rw [hs] at h2
      cases h2
      exact .inr h3
  · rintro (⟨i', s', h1, h2⟩ | h)
    · exact ⟨i', s', by omega, h2⟩
    · exact ⟨i, s, by omega, hs, h⟩
def SameE (g : Gr) (H : List (List Bool)) (k m x y : Nat) : Prop := ∃ r ∈ g.rs.take m, r.l = (x : Int) ∧ SameR H k r.r r.r.length y
theorem Sq.shp {n : Nat} {w : List (List Bool)} (h : Sq n w) : Shp n n w := ⟨h.len, h.row⟩
theorem tab_same {Γr : Ctx} {t : Tb} {g : Gr} (V : VG g) {n : Nat} {R : Option Addr} {cR : Nat} (hT : TabK (lk Γr) t g n R cR) {H : List (List Bool)} (hH : SlOk (lk Γr) (some ⟨t.bh, 0, none⟩) g.ns.toNat H) (hS : Shp g.ns.toNat (n + 1) H) (hn : n ≤ 24) {k : Nat} (hk : k ≤ n) :
    Ret Try.prog 187 [.pointer (some ⟨t.b, 0, none⟩), .int .i64 (k : Int)] Γr [] (fun v Γ => ∃ gW bW W, Γ = [gW] ∧ v = .slice (some ⟨bW, 0, none⟩) g.ns.toNat g.ns.toNat ∧ Grid gW bW 22 4 W ∧ Sq g.ns.toNat W ∧ ∀ x y, mat W x y = true ↔ SameE g H k g.rs.length x y) := by
  generalize hR : (fun (v : Value) (Γ : Ctx) => ∃ gW bW W, _) = R'
  refine ret_of_vc tr187 (Nat.le_of_ble_eq_true rfl) ?_
  simp -implicitDefEqProofs only [S187, S187_0, go_sem, Nat.reduceBEq, Nat.reduceAdd, Nat.reduceSub, Nat.reduceMul, Nat.reduceLeDiff, reduceCtorEq, ↓reduceIte, Int.reduceLT, Int.reduceLE, Int.reduceEq, Int.reduceNe]
  have hvl := V.len
  have hsh := hT.rs.short
  have hns := V.ns
  obtain ⟨N, hN⟩ : ∃ N : Nat, g.ns = N := ⟨g.ns.toNat, by omega⟩
  have hN' : g.ns.toNat = N := by omega
  rw [hN'] at hR hH hS
  refine s_ld (j := 1) (cells_lk hT.out) (by simp [Tb.cells]) (by simp) ?_
  simp -implicitDefEqProofs only [Tb.cells, go_sem, Nat.reduceBEq, Nat.reduceAdd, Nat.reduceSub, Nat.reduceMul, Nat.reduceLeDiff, reduceCtorEq, ↓reduceIte, Int.reduceLT, Int.reduceLE, Int.reduceEq, Int.reduceNe]
  refine s_ld (j := 1) (cells_lk hT.out) (by simp [Tb.cells]) (by simp) ?_
  simp -implicitDefEqProofs only [Tb.cells, go_sem, Nat.reduceBEq, Nat.reduceAdd, Nat.reduceSub, Nat.reduceMul, Nat.reduceLeDiff, reduceCtorEq, ↓reduceIte, Int.reduceLT, Int.reduceLE, Int.reduceEq, Int.reduceNe]
  rw [hN]
  refine CallVC.read (rows_bool (Γr := [] ++ Γr) N N false (by omega) (by omega)) ?_
  rintro v Γ' ⟨gW, bW, rfl, rfl, hG⟩
  simp -implicitDefEqProofs only [go_sem, Nat.reduceBEq, Nat.reduceAdd, Nat.reduceSub, Nat.reduceMul, Nat.reduceLeDiff, reduceCtorEq, ↓reduceIte, Int.reduceLT, Int.reduceLE, Int.reduceEq, Int.reduceNe]
  refine s_ld (j := 3) (cells_lk (lk_r [gW] _ _ _ hT.out)) (by simp [Tb.cells]) (by simp) ?_
  simp -implicitDefEqProofs only [Tb.cells, go_sem, Nat.reduceBEq, Nat.reduceAdd, Nat.reduceSub, Nat.reduceMul, Nat.reduceLeDiff, reduceCtorEq, ↓reduceIte, Int.reduceLT, Int.reduceLE, Int.reduceEq, Int.reduceNe]
  refine s_loop (fun f vs Γ => ∃ (m : Nat) (gW : PH) (W : List (List Bool)), vs = [.v true (.int .i64 m)] ∧ Γ = [gW] ∧ m + f = g.rs.length ∧ Grid gW bW 22 4 W ∧ Sq N W ∧ ∀ x y, mat W x y = true ↔ SameE g H k m x y) g.rs.length
    (Up.here ⟨0, gW, _, rfl, rfl, by omega, hG, ⟨by simp, fun r hr => by simp at hr; rw [hr.2]; simp⟩, fun x y => by
      refine ⟨fun h => ?_, fun ⟨r, hr, _⟩ => by simp at hr⟩
      simp only [mat, List.getD_eq_getElem?_getD, List.getElem?_replicate] at h
      split at h
      · simp only [Option.getD_some, List.getElem?_replicate] at h
        split at h <;> simp at h
      · simp at h⟩) ?_
  clear hG
  rintro f vs Γ ⟨m, gW, W, rfl, rfl, hmf, hG, hQ, hm⟩
  simp -implicitDefEqProofs only [S187_5, go_sem, Nat.reduceBEq, Nat.reduceAdd, Nat.reduceSub, Nat.reduceMul, Nat.reduceLeDiff, reduceCtorEq, ↓reduceIte, Int.reduceLT, Int.reduceLE, Int.reduceEq, Int.reduceNe]
  refine ⟨fun hlt => ?_, fun hge => ?_⟩
  · have hm' : m < g.rs.length := by omega
    have hmem := List.getElem_mem hm'
    have hr4 := V.right _ hmem
    have hleft := V.left _ hmem
    have hsym := V.sym _ hmem
    have htk : g.rs.take (m + 1) = g.rs.take m ++ [g.rs[m]] := List.take_succ_eq_append_getElem hm'
    obtain ⟨b0, o0, h0, A1, c1, hr1, hcr⟩ := hT.rs.ru hm'
    generalize g.rs[m] = r at *
    obtain ⟨a, ha⟩ : ∃ a : Nat, r.l = a := ⟨r.l.toNat, by omega⟩
    have haN : a < N := by omega
    refine s_idx h0 (by omega) (by omega) ?_
    simp -implicitDefEqProofs only [go_sem, Nat.reduceBEq, Nat.reduceAdd, Nat.reduceSub, Nat.reduceMul, Nat.reduceLeDiff, reduceCtorEq, ↓reduceIte, Int.reduceLT, Int.reduceLE, Int.reduceEq, Int.reduceNe]
    refine s_ld0 (by simpa using hcr _ (lk_r [gW] _)) (by simp) (by simp) ?_
    simp -implicitDefEqProofs only [go_sem, Nat.reduceBEq, Nat.reduceAdd, Nat.reduceSub, Nat.reduceMul, Nat.reduceLeDiff, reduceCtorEq, ↓reduceIte, Int.reduceLT, Int.reduceLE, Int.reduceEq, Int.reduceNe]
    intro bx
    rw [ha]
    refine s_loop (fun f2 vs Γ => ∃ (i : Nat) (gW : PH) (W2 : List (List Bool)), vs = [.v true (.int .i64 i)] ∧ Γ = [gW] ∧ i + f2 = r.r.length ∧ Grid gW bW 22 4 W2 ∧ Sq N W2 ∧ ∀ x y, mat W2 x y = true ↔ mat W x y = true ∨ (x = a ∧ SameR H k r.r i y)) r.r.length
      (Up.here ⟨0, gW, W, rfl, rfl, by omega, hG, hQ, fun x y => ⟨fun h => .inl h, fun h => h.elim id fun ⟨_, i, s, h, _⟩ => by omega⟩⟩) ?_
    clear hG
    rintro f2 vs Γ ⟨i, gW, W2, rfl, rfl, hif, hG, hQ2, hm2⟩
    simp -implicitDefEqProofs only [S187_4, go_sem, Nat.reduceBEq, Nat.reduceAdd, Nat.reduceSub, Nat.reduceMul, Nat.reduceLeDiff, reduceCtorEq, ↓reduceIte, Int.reduceLT, Int.reduceLE, Int.reduceEq, Int.reduceNe]
    refine ⟨fun hlt => ?_, fun hge => ?_⟩
    · have hi : i < r.r.length := by omega
      have hs := hsym _ (List.getElem_mem hi)
      have hri := List.getElem?_eq_getElem hi
      obtain ⟨b3, o3, h3, hc3⟩ := hr1.sy hi
      generalize r.r[i] = s at *
      have hsucc := fun y => SameR.succ (H := H) (k := k) hri y
      refine s_split ?_
      simp -implicitDefEqProofs only [S187_2, go_sem, Nat.reduceBEq, Nat.reduceAdd, Nat.reduceSub, Nat.reduceMul, Nat.reduceLeDiff, reduceCtorEq, ↓reduceIte, Int.reduceLT, Int.reduceLE, Int.reduceEq, Int.reduceNe]
      refine s_idx h3 (by omega) (by omega) ?_
      simp -implicitDefEqProofs only [go_sem, Nat.reduceBEq, Nat.reduceAdd, Nat.reduceSub, Nat.reduceMul, Nat.reduceLeDiff, reduceCtorEq, ↓reduceIte, Int.reduceLT, Int.reduceLE, Int.reduceEq, Int.reduceNe]
      refine s_ld0 (by simpa using hc3 _ (lk_r [gW] _)) (by simp) (by simp) ?_
      simp -implicitDefEqProofs only [go_sem, Nat.reduceBEq, Nat.reduceAdd, Nat.reduceSub, Nat.reduceMul, Nat.reduceLeDiff, reduceCtorEq, ↓reduceIte, Int.reduceLT, Int.reduceLE, Int.reduceEq, Int.reduceNe]
      intro bs
      obtain ⟨st, sn⟩ := s
      cases st with
      | true =>
        simp -implicitDefEqProofs only [go_sem, Nat.reduceBEq, Nat.reduceAdd, Nat.reduceSub, Nat.reduceMul, Nat.reduceLeDiff, reduceCtorEq, ↓reduceIte, Int.reduceLT, Int.reduceLE, Int.reduceEq, Int.reduceNe]
        refine s_ldg0 (cs := [.slice none 0 0]) (by simp) (by simp) (by simp) (by simp) ?_
        simp -implicitDefEqProofs only [go_sem, Nat.reduceBEq, Nat.reduceAdd, Nat.reduceSub, Nat.reduceMul, Nat.reduceLeDiff, reduceCtorEq, ↓reduceIte, Int.reduceLT, Int.reduceLE, Int.reduceEq, Int.reduceNe]
        refine s_idxg (b := 0) (o := 0) (by simp) ?_
        simp -implicitDefEqProofs only [go_sem, Nat.reduceBEq, Nat.reduceAdd, Nat.reduceSub, Nat.reduceMul, Nat.reduceLeDiff, reduceCtorEq, ↓reduceIte, Int.reduceLT, Int.reduceLE, Int.reduceEq, Int.reduceNe]
        refine s_ldg0 (cs := [.slice none 0 0]) (by simp) (by simp) (by simp) (by simp) ?_
        simp -implicitDefEqProofs only [go_sem, Nat.reduceBEq, Nat.reduceAdd, Nat.reduceSub, Nat.reduceMul, Nat.reduceLeDiff, reduceCtorEq, ↓reduceIte, Int.reduceLT, Int.reduceLE, Int.reduceEq, Int.reduceNe]
        refine s_idxg (b := 0) (o := 0) (by simp) ?_
        simp -implicitDefEqProofs only [go_sem, Nat.reduceBEq, Nat.reduceAdd, Nat.reduceSub, Nat.reduceMul, Nat.reduceLeDiff, reduceCtorEq, ↓reduceIte, Int.reduceLT, Int.reduceLE, Int.reduceEq, Int.reduceNe]
        refine s_ldg0 (cs := [.bool false]) (by simp) (by simp) (by simp) (by simp) ?_
        simp -implicitDefEqProofs only [go_sem, Nat.reduceBEq, Nat.reduceAdd, Nat.reduceSub, Nat.reduceMul, Nat.reduceLeDiff, reduceCtorEq, ↓reduceIte, Int.reduceLT, Int.reduceLE, Int.reduceEq, Int.reduceNe]
        simp -implicitDefEqProofs only [S187_3, go_sem, Nat.reduceBEq, Nat.reduceAdd, Nat.reduceSub, Nat.reduceMul, Nat.reduceLeDiff, reduceCtorEq, ↓reduceIte, Int.reduceLT, Int.reduceLE, Int.reduceEq, Int.reduceNe]
        simp (disch := omega) only [wrap_id]
        refine Up.here ⟨f2 - 1, by omega, Up.here ⟨i + 1, gW, W2, rfl, rfl, by omega, hG, hQ2, fun x y => ?_⟩⟩
        rw [hm2, hsucc]
        simp
      | false =>
        have hs : 0 ≤ sn ∧ sn < g.ns := ⟨hs.1, hs.2.2 rfl⟩
        obtain ⟨c, rfl⟩ : ∃ c : Nat, sn = c := ⟨sn.toNat, by omega⟩
        have hHl := hS.1
        have hHr := hS.at' (i := c) (by omega)
        obtain ⟨b1, o1, h1, A5, c5, hr5, hc5⟩ := hH.list (i := c) (by omega)
        obtain ⟨b6, o6, h6, hc6⟩ := hr5.bool (i := k) (by omega)
        have hgh := mat_get (List.getElem?_eq_getElem (show c < H.length by omega)) (show k < H[c].length by omega)
        simp -implicitDefEqProofs only [go_sem, Nat.reduceBEq, Nat.reduceAdd, Nat.reduceSub, Nat.reduceMul, Nat.reduceLeDiff, reduceCtorEq, ↓reduceIte, Int.reduceLT, Int.reduceLE, Int.reduceEq, Int.reduceNe]
        refine s_ld (j := 5) (cells_lk (lk_r [gW] _ _ _ hT.out)) (by simp [Tb.cells]) (by simp) ?_
        simp -implicitDefEqProofs only [Tb.cells, go_sem, Nat.reduceBEq, Nat.reduceAdd, Nat.reduceSub, Nat.reduceMul, Nat.reduceLeDiff, reduceCtorEq, ↓reduceIte, Int.reduceLT, Int.reduceLE, Int.reduceEq, Int.reduceNe]
        refine s_idx h1 (by omega) (by omega) ?_
        simp -implicitDefEqProofs only [go_sem, Nat.reduceBEq, Nat.reduceAdd, Nat.reduceSub, Nat.reduceMul, Nat.reduceLeDiff, reduceCtorEq, ↓reduceIte, Int.reduceLT, Int.reduceLE, Int.reduceEq, Int.reduceNe]
        refine s_ld0 (hc5 _ (lk_r [gW] _)) (by simp) (by simp) ?_
        simp -implicitDefEqProofs only [go_sem, Nat.reduceBEq, Nat.reduceAdd, Nat.reduceSub, Nat.reduceMul, Nat.reduceLeDiff, reduceCtorEq, ↓reduceIte, Int.reduceLT, Int.reduceLE, Int.reduceEq, Int.reduceNe]
        refine s_idx h6 (by omega) (by omega) ?_
        simp -implicitDefEqProofs only [go_sem, Nat.reduceBEq, Nat.reduceAdd, Nat.reduceSub, Nat.reduceMul, Nat.reduceLeDiff, reduceCtorEq, ↓reduceIte, Int.reduceLT, Int.reduceLE, Int.reduceEq, Int.reduceNe]
        refine s_ld0 (hc6 _ (lk_r [gW] _)) (by simp) (by simp) ?_
        generalize H[c][k] = v0 at hgh
        cases v0 with
        | false =>
          simp -implicitDefEqProofs only [S187_3, go_sem, Nat.reduceBEq, Nat.reduceAdd, Nat.reduceSub, Nat.reduceMul, Nat.reduceLeDiff, reduceCtorEq, ↓reduceIte, Int.reduceLT, Int.reduceLE, Int.reduceEq, Int.reduceNe]
          simp (disch := omega) only [wrap_id]
          refine Up.here ⟨f2 - 1, by omega, Up.here ⟨i + 1, gW, W2, rfl, rfl, by omega, hG, hQ2, fun x y => ?_⟩⟩
          rw [hm2, hsucc]
          refine ⟨fun h => h.elim .inl fun h => .inr ⟨h.1, .inl h.2⟩, fun h => h.elim .inl fun h => ?_⟩
          rcases h with ⟨e, h | ⟨_, q1, q2, _⟩⟩
          · exact .inr ⟨e, h⟩
          · have q1 : (c : Int) = (y : Int) := q1
            have : c = y := by omega
            subst this
            rw [hgh] at q2
            cases q2
        | true =>
          simp -implicitDefEqProofs only [go_sem, Nat.reduceBEq, Nat.reduceAdd, Nat.reduceSub, Nat.reduceMul, Nat.reduceLeDiff, reduceCtorEq, ↓reduceIte, Int.reduceLT, Int.reduceLE, Int.reduceEq, Int.reduceNe]
          refine s_loop (fun f3 vs Γ => ∃ (j : Nat) (ok : Bool), vs = [.v true (.bool ok), .v true (.int .i64 j)] ∧ Γ = [gW] ∧ j + f3 = r.r.length ∧ (ok = true ↔ ∀ j' s', j' < j → r.r[j']? = some s' → j' ≠ i → symB H s' 0 = true)) r.r.length
            (Up.here ⟨0, true, rfl, rfl, by omega, by simp⟩) ?_
          rintro f3 vs Γ ⟨j, ok, rfl, rfl, hjf, hok⟩
          simp -implicitDefEqProofs only [S187_1, go_sem, Nat.reduceBEq, Nat.reduceAdd, Nat.reduceSub, Nat.reduceMul, Nat.reduceLeDiff, reduceCtorEq, ↓reduceIte, Int.reduceLT, Int.reduceLE, Int.reduceEq, Int.reduceNe]
          refine ⟨fun hlt => ?_, fun hge => ?_⟩
          · have hj : j < r.r.length := by omega
            have hs' := hsym _ (List.getElem_mem hj)
            have hrj := List.getElem?_eq_getElem hj
            obtain ⟨b8, o8, h8, hc8⟩ := hr1.sy hj
            generalize r.r[j] = s' at *
            have hnext : ∀ v : Bool, (v = true ↔ ok = true ∧ (j ≠ i → symB H s' 0 = true)) → (v = true ↔ ∀ j' s', j' < j + 1 → r.r[j']? = some s' → j' ≠ i → symB H s' 0 = true) := by
              intro v hv
              rw [hv, hok]
              refine ⟨fun ⟨q1, q2⟩ j' s2 w1 w2 w3 => ?_, fun q => ⟨fun j' s2 w1 w2 w3 => q j' s2 (by omega) w2 w3, fun w => q j s' (by omega) hrj w⟩⟩
              rcases Nat.lt_or_ge j' j with e | e
              · exact q1 j' s2 e w2 w3
              · have : j' = j := by omega
                subst this
                rw [hrj] at w2
                cases w2
                exact q2 w3
            refine s_idx h8 (by omega) (by omega) ?_
            simp -implicitDefEqProofs only [go_sem, Nat.reduceBEq, Nat.reduceAdd, Nat.reduceSub, Nat.reduceMul, Nat.reduceLeDiff, reduceCtorEq, ↓reduceIte, Int.reduceLT, Int.reduceLE, Int.reduceEq, Int.reduceNe]
            refine s_ld0 (by simpa using hc8 _ (lk_r [gW] _)) (by simp) (by simp) ?_
            simp -implicitDefEqProofs only [go_sem, Nat.reduceBEq, Nat.reduceAdd, Nat.reduceSub, Nat.reduceMul, Nat.reduceLeDiff, reduceCtorEq, ↓reduceIte, Int.reduceLT, Int.reduceLE, Int.reduceEq, Int.reduceNe]
            intro bj
            cases ok with
            | false =>
              simp -implicitDefEqProofs only [go_sem, Nat.reduceBEq, Nat.reduceAdd, Nat.reduceSub, Nat.reduceMul, Nat.reduceLeDiff, reduceCtorEq, ↓reduceIte, Int.reduceLT, Int.reduceLE, Int.reduceEq, Int.reduceNe]
              simp (disch := omega) only [wrap_id]
              exact ⟨.bool false, f3 - 1, by omega, Up.here ⟨j + 1, false, rfl, rfl, by omega, hnext false (by simp)⟩⟩
            | true =>
              by_cases hji : j = i
              · have hnext1 := hnext true (by simp [hji])
                subst hji
                simp -implicitDefEqProofs only [go_sem, Nat.reduceBEq, Nat.reduceAdd, Nat.reduceSub, Nat.reduceMul, Nat.reduceLeDiff, reduceCtorEq, ↓reduceIte, Int.reduceLT, Int.reduceLE, Int.reduceEq, Int.reduceNe]
                simp (disch := omega) only [wrap_id]
                exact ⟨.bool false, f3 - 1, by omega, Up.here ⟨j + 1, true, rfl, rfl, by omega, hnext1⟩⟩
              · rw [show decide ((j : Int) = (i : Int)) = false from decide_eq_false (by omega)]
                simp -implicitDefEqProofs only [go_sem, Nat.reduceBEq, Nat.reduceAdd, Nat.reduceSub, Nat.reduceMul, Nat.reduceLeDiff, reduceCtorEq, ↓reduceIte, Int.reduceLT, Int.reduceLE, Int.reduceEq, Int.reduceNe]
                refine fun hq => ⟨hq, ?_⟩
                refine CallVC.read (tab_sym (Γr := [gW] ++ Γr) (hT.mono (lk_r [gW] _)) (by rw [hN']; exact hH.mono (lk_r [gW] _)) (by rw [hN']; exact hS) (fun h => ⟨hs'.1, hs'.2.2 h⟩) (k := 0) (by omega) hn) ?_
                rintro v Γ' ⟨rfl, rfl⟩
                simp -implicitDefEqProofs only [go_sem, Nat.reduceBEq, Nat.reduceAdd, Nat.reduceSub, Nat.reduceMul, Nat.reduceLeDiff, reduceCtorEq, ↓reduceIte, Int.reduceLT, Int.reduceLE, Int.reduceEq, Int.reduceNe]
                simp (disch := omega) only [wrap_id]
                exact ⟨f3 - 1, by omega, Up.here ⟨j + 1, symB H s' 0, rfl, rfl, by omega, hnext _ (by simp [hji])⟩⟩
          · have hje : j = r.r.length := by omega
            have hok' : ok = true ↔ ∀ j s', r.r[j]? = some s' → j ≠ i → symB H s' 0 = true := by
              rw [hok]
              exact ⟨fun q j' s' w1 w2 => q j' s' (by rw [hje]; exact (List.getElem?_eq_some_iff.1 w1).1) w1 w2, fun q j' s' _ w1 w2 => q j' s' w1 w2⟩
            have hWl := hQ2.len
            have hWr := hQ2.at' (b := a) (by omega)
            obtain ⟨kw, hcw, hAw, hpw⟩ := hG.at' (i := a) (by omega) (by omega)
            rw [hWr] at hcw
            have hgw := mat_get (List.getElem?_eq_getElem (show a < W2.length by omega)) (show c < W2[a].length by omega)
            have fin : ∀ (v : Bool) (g2 : PH), Arr g2 kw 4 (W2[a].set c v) → (∀ x, x ≠ kw → g2 x = gW x) → (v = true ↔ mat W2 a c = true ∨ ok = true) →
                ∃ n', n' < f2 ∧ Up [g2] (fun Γ => ∃ (i' : Nat) (gW : PH) (W3 : List (List Bool)), [Sl.v true (.int .i64 ((i : Int) + 1))] = [.v true (.int .i64 i')] ∧ Γ = [gW] ∧ i' + n' = r.r.length ∧ Grid gW bW 22 4 W3 ∧ Sq N W3 ∧ ∀ x y, mat W3 x y = true ↔ mat W x y = true ∨ (x = a ∧ SameR H k r.r i' y)) := by
              intro v g2 hA2 ho2 hv
              have hm3 := mat_setS hQ2.shp (x := a) (y := c) (by omega) (by omega) v
              rw [show W2.getD a [] = W2[a] by simp [List.getD_eq_getElem?_getD, show a < W2.length by omega]] at hm3
              have hS3 : Shp N N (W2.set a (W2[a].set c v)) := hQ2.shp.set a (by simp [hWr])
              refine ⟨f2 - 1, by omega, Up.here ⟨i + 1, g2, _, rfl, rfl, by omega, hpw g2 _ hA2 (by simp) ho2, ⟨hS3.1, hS3.2⟩, fun x y => ?_⟩⟩
              rw [hm3]
              by_cases e : x = a ∧ y = c
              · obtain ⟨rfl, rfl⟩ := e
                rw [if_pos ⟨rfl, rfl⟩, hv, hm2, hsucc, hok']
                constructor
                · rintro ((q | ⟨q1, q2⟩) | q)
                  · exact .inl q
                  · exact .inr ⟨q1, .inl q2⟩
                  · exact .inr ⟨rfl, .inr ⟨rfl, rfl, hgh, q⟩⟩
                · rintro (q | ⟨q1, q2 | ⟨_, _, _, q2⟩⟩)
                  · exact .inl (.inl q)
                  · exact .inl (.inr ⟨q1, q2⟩)
                  · exact .inr q2
              · rw [if_neg e, hm2, hsucc]
                refine ⟨fun h => h.elim .inl fun h => .inr ⟨h.1, .inl h.2⟩, fun h => h.elim .inl fun h => ?_⟩
                rcases h with ⟨e', h | ⟨_, q1, q2, _⟩⟩
                · exact .inr ⟨e', h⟩
                · have q1 : (c : Int) = (y : Int) := q1
                  exact absurd ⟨e', by omega⟩ e
            refine s_idx rfl (by omega) (by omega) ?_
            simp -implicitDefEqProofs only [go_sem, Nat.reduceBEq, Nat.reduceAdd, Nat.reduceSub, Nat.reduceMul, Nat.reduceLeDiff, reduceCtorEq, ↓reduceIte, Int.reduceLT, Int.reduceLE, Int.reduceEq, Int.reduceNe]
            refine s_ld0 (by simpa using hcw _ (by simp)) (by simp) (by simp) ?_
            simp -implicitDefEqProofs only [go_sem, Nat.reduceBEq, Nat.reduceAdd, Nat.reduceSub, Nat.reduceMul, Nat.reduceLeDiff, reduceCtorEq, ↓reduceIte, Int.reduceLT, Int.reduceLE, Int.reduceEq, Int.reduceNe]
            refine s_idx rfl (by omega) (by omega) ?_
            simp -implicitDefEqProofs only [go_sem, Nat.reduceBEq, Nat.reduceAdd, Nat.reduceSub, Nat.reduceMul, Nat.reduceLeDiff, reduceCtorEq, ↓reduceIte, Int.reduceLT, Int.reduceLE, Int.reduceEq, Int.reduceNe]
            refine s_ld0 (by simpa using hcw _ (by simp)) (by simp) (by simp) ?_
            simp -implicitDefEqProofs only [go_sem, Nat.reduceBEq, Nat.reduceAdd, Nat.reduceSub, Nat.reduceMul, Nat.reduceLeDiff, reduceCtorEq, ↓reduceIte, Int.reduceLT, Int.reduceLE, Int.reduceEq, Int.reduceNe]
            refine s_idx rfl (by omega) (by omega) ?_
            simp -implicitDefEqProofs only [go_sem, Nat.reduceBEq, Nat.reduceAdd, Nat.reduceSub, Nat.reduceMul, Nat.reduceLeDiff, reduceCtorEq, ↓reduceIte, Int.reduceLT, Int.reduceLE, Int.reduceEq, Int.reduceNe]
            refine s_ld0 (hAw.bool (i := c) (by omega) (by simp)) (by simp) (by simp) ?_
            generalize W2[a][c] = v1 at hgw fin
            cases v1 with
            | true =>
              simp -implicitDefEqProofs only [go_sem, Nat.reduceBEq, Nat.reduceAdd, Nat.reduceSub, Nat.reduceMul, Nat.reduceLeDiff, reduceCtorEq, ↓reduceIte, Int.reduceLT, Int.reduceLE, Int.reduceEq, Int.reduceNe]
              refine s_idx rfl (by omega) (by omega) ?_
              simp -implicitDefEqProofs only [go_sem, Nat.reduceBEq, Nat.reduceAdd, Nat.reduceSub, Nat.reduceMul, Nat.reduceLeDiff, reduceCtorEq, ↓reduceIte, Int.reduceLT, Int.reduceLE, Int.reduceEq, Int.reduceNe]
              refine s_storeA (ix := 0) (α := Bool) true rfl hAw (i := c) (by omega) ?_
              intro g2 hA2 ho2
              simp -implicitDefEqProofs only [S187_3, go_sem, Nat.reduceBEq, Nat.reduceAdd, Nat.reduceSub, Nat.reduceMul, Nat.reduceLeDiff, reduceCtorEq, ↓reduceIte, Int.reduceLT, Int.reduceLE, Int.reduceEq, Int.reduceNe]
              simp (disch := omega) only [wrap_id]
              exact Up.here (fin true g2 hA2 ho2 (by simp [hgw]))
            | false =>
              simp -implicitDefEqProofs only [go_sem, Nat.reduceBEq, Nat.reduceAdd, Nat.reduceSub, Nat.reduceMul, Nat.reduceLeDiff, reduceCtorEq, ↓reduceIte, Int.reduceLT, Int.reduceLE, Int.reduceEq, Int.reduceNe]
              refine s_idx rfl (by omega) (by omega) ?_
              simp -implicitDefEqProofs only [go_sem, Nat.reduceBEq, Nat.reduceAdd, Nat.reduceSub, Nat.reduceMul, Nat.reduceLeDiff, reduceCtorEq, ↓reduceIte, Int.reduceLT, Int.reduceLE, Int.reduceEq, Int.reduceNe]
              refine s_storeA (ix := 0) (α := Bool) ok rfl hAw (i := c) (by omega) ?_
              intro g2 hA2 ho2
              simp -implicitDefEqProofs only [S187_3, go_sem, Nat.reduceBEq, Nat.reduceAdd, Nat.reduceSub, Nat.reduceMul, Nat.reduceLeDiff, reduceCtorEq, ↓reduceIte, Int.reduceLT, Int.reduceLE, Int.reduceEq, Int.reduceNe]
              simp (disch := omega) only [wrap_id]
              exact Up.here (fin ok g2 hA2 ho2 (by simp [hgw]))
    · have hie : i = r.r.length := by omega
      subst hie
      simp (disch := omega) only [wrap_id]
      refine ⟨f - 1, by omega, Up.here ⟨m + 1, gW, W2, rfl, rfl, by omega, hG, hQ2, fun x y => ?_⟩⟩
      rw [hm2, hm]
      unfold SameE
      rw [htk]
      constructor
      · rintro (⟨r', q1, q2⟩ | ⟨rfl, q⟩)
        · exact ⟨r', by simp [q1], q2⟩
        · exact ⟨r, by simp, ha, q⟩
      · rintro ⟨r', q1, q2, q3⟩
        rcases List.mem_append.1 q1 with q1 | q1
        · exact .inl ⟨r', q1, q2, q3⟩
        · simp only [List.mem_singleton] at q1
          subst q1
          exact .inr ⟨by omega, q3⟩
  · have hme : m = g.rs.length := by omega
    subst hme
    refine Up.here ?_
    subst hR
    exact ⟨gW, bW, W, rfl, by rfl, hG, hQ, hm⟩
end Go.Proofs.Ytniobbepliknmaa.V
/- The text of (*parlance/census.table).endless as a statement (slots: 0 t, 1 i, 2 p, 3 k, 4 t, 5 i, 6 p, 7 k, 9 l, 10 j); no condition. -/
namespace Go.Proofs.Ytniobbepliknmaa.V
open Go
def S188_1 : Stmt :=
 .block 1
 (.seq
 (.region [.mk (some 44) none (.mv (.tmp 42)),.mk (some 10) none (.mv (.tmp 44))]
 [0,1,2,3,9,10,41,42])
 (.seq
 (.seq
 (.region
 [.mk (some 45) none (.mv (.tmp 0)),.mk (some 46) none (.mv (.tmp 9)),
 .mk (some 47) none (.mv (.tmp 2)),
 .mk (some 48) none (.idx 2 (.tmp 46) (.tmp 47)),
 .mk (some 49) none (.load true 2 (.tmp 48)),
 .mk (some 50) none (.mv (.tmp 10)),
 .mk (some 51) none (.call (.func 207) [.tmp 45,.tmp 49,.tmp 50]),
 .mk (some 52) none (.un .not (.tmp 51)),
 .mk (some 53) none (.mv (.tmp 52)),
 .mk (some 54) (some (53,false)) (.mv (.tmp 0)),
 .mk (some 55) (some (53,false)) (.nilCheck (.tmp 54)),
 .mk (some 56) (some (53,false)) (.fld 8 (.tmp 55)),
 .mk (some 57) (some (53,false)) (.load false 1 (.tmp 56)),
 .mk (some 58) (some (53,false)) (.mv (.tmp 1)),
 .mk (some 59) (some (53,false)) (.idx 1 (.tmp 57) (.tmp 58)),
 .mk (some 60) (some (53,false)) (.load false 1 (.tmp 59)),
 .mk (some 61) (some (53,false)) (.mv (.tmp 2)),
 .mk (some 62) (some (53,false))
 (.ibin .add (.tmp 61) (.const (.int .i64 1))),
 .mk (some 63) (some (53,false)) (.idx 1 (.tmp 60) (.tmp 62)),
 .mk (some 64) (some (53,false)) (.load false 1 (.tmp 63)),
 .mk (some 65) (some (53,false)) (.mv (.tmp 3)),
 .mk (some 66) (some (53,false)) (.mv (.tmp 10)),
 .mk (some 67) (some (53,false)) (.ibin .sub (.tmp 65) (.tmp 66)),
 .mk (some 68) (some (53,false)) (.idx 1 (.tmp 64) (.tmp 67)),
 .mk (some 69) (some (53,false)) (.load false 1 (.tmp 68)),
 .mk (some 70) (some (53,false)) (.un .not (.tmp 69)),
 .mk (some 71) none (.pick (.tmp 53) (.const (.bool true)) (.tmp 70))]
 [0,1,2,3,9,10,41,42,71])
 (.cond (.tmp 71) (.exit 1) .skip))
 (.seq
 (.drawn
 [(false,.mk (some 72) none (.mv (.tmp 9))),
 (false,.mk (some 73) none (.mv (.tmp 2))),
 (false,.mk (some 74) none (.idx 2 (.tmp 72) (.tmp 73))),
 (false,.mk (some 75) none (.fld 0 (.tmp 74))),
 (false,.mk (some 76) none (.load false 1 (.tmp 75))),
 (false,.mk (some 77) none (.un .not (.tmp 76))),
 (false,.mk (some 78) none (.mv (.tmp 77))),
 (false,.mk (some 79) (some (78,true)) (.mv (.tmp 0))),
 (false,.mk (some 80) (some (78,true)) (.nilCheck (.tmp 79))),
 (false,.mk (some 81) (some (78,true)) (.fld 6 (.tmp 80))),
 (false,.mk (some 82) (some (78,true)) (.load false 1 (.tmp 81))),
 (false,.mk (some 83) (some (78,true)) (.mv (.tmp 9))),
 (false,.mk (some 84) (some (78,true)) (.mv (.tmp 2))),
 (false,.mk (some 85) (some (78,true)) (.idx 2 (.tmp 83) (.tmp 84))),
 (false,.mk (some 86) (some (78,true)) (.fld 1 (.tmp 85))),
 (false,.mk (some 87) (some (78,true)) (.load false 1 (.tmp 86))),
 (false,.mk (some 88) (some (78,true)) (.idx 1 (.tmp 82) (.tmp 87))),
 (false,.mk (some 89) (some (78,true)) (.load false 1 (.tmp 88))),
 (false,.mk (some 90) (some (78,true)) (.mv (.tmp 10))),
 (false,.mk (some 91) (some (78,true)) (.idx 1 (.tmp 89) (.tmp 90))),
 (false,.mk (some 92) (some (78,true)) (.load false 1 (.tmp 91))),
 (false,
 .mk (some 93) none (.pick (.tmp 78) (.tmp 92) (.const (.bool false)))),
 (false,.mk (some 94) none (.mv (.tmp 93))),
 (false,.mk (some 95) (some (94,false)) (.mv (.tmp 0))),
 (false,.mk (some 96) (some (94,false)) (.mv (.tmp 1))),
 (false,.mk (some 97) (some (94,false)) (.mv (.tmp 2))),
 (false,
 .mk (some 98) (some (94,false))
 (.ibin .add (.tmp 97) (.const (.int .i64 1)))),
 (false,.mk (some 99) (some (94,false)) (.mv (.tmp 3))),
 (false,.mk (some 100) (some (94,false)) (.mv (.tmp 10))),
 (false,.mk (some 101) (some (94,false)) (.ibin .sub (.tmp 99) (.tmp 100))),
 (false,
 .mk (some 102) (some (94,false))
 (.call (.func 188) [.tmp 95,.tmp 96,.tmp 98,.tmp 101])),
 (false,
 .mk (some 103) none (.pick (.tmp 94) (.const (.bool true)) (.tmp 102)))]
 [0,1,2,3,9,41,42,103])
 (.cond (.tmp 103)
 (.seq (.region [.mk (some 8) none (.mv (.const (.bool true)))] [8]) .ret)
 .skip))))
def S188_2 : Stmt :=
 .region
 [.mk (some 104) none (.ibin .add (.tmp 42) (.const (.int .i64 1))),
 .mk (some 42) none (.mv (.tmp 104))]
 [0,1,2,3,9,41,42]
def S188_3 : Stmt :=
 .seq
 (.region [.mk (some 43) none (.ibin .lss (.tmp 42) (.tmp 41))]
 [0,1,2,3,9,41,42,43])
 (.seq (.cond (.tmp 43) .skip (.exit 0)) (.join S188_1 S188_2 [] [0,1,2,3,9,41,42]))
def S188_0 : Stmt :=
 .seq (.region [.mk (some 8) none (.mv (.const (.bool false)))] [0,1,2,3])
 (.seq
 (.region
 [.mk (some 11) none (.mv (.tmp 0)),.mk (some 12) none (.nilCheck (.tmp 11)),
 .mk (some 13) none (.fld 0 (.tmp 12)),.mk (some 14) none (.fld 3 (.tmp 13)),
 .mk (some 15) none (.load false 1 (.tmp 14)),.mk (some 16) none (.mv (.tmp 1)),
 .mk (some 17) none (.idx 2 (.tmp 15) (.tmp 16)),
 .mk (some 18) none (.fld 1 (.tmp 17)),
 .mk (some 19) none (.load false 1 (.tmp 18)),.mk (some 9) none (.mv (.tmp 19))]
 [0,1,2,3,9])
 (.seq
 (.seq
 (.region
 [.mk (some 20) none (.mv (.tmp 2)),.mk (some 21) none (.mv (.tmp 9)),
 .mk (some 22) none (.len false (.tmp 21)),
 .mk (some 23) none (.ibin .eql (.tmp 20) (.tmp 22)),
 .mk (some 24) none (.mv (.tmp 23)),
 .mk (some 25) (some (24,false)) (.mv (.tmp 0)),
 .mk (some 26) (some (24,false)) (.nilCheck (.tmp 25)),
 .mk (some 27) (some (24,false)) (.fld 8 (.tmp 26)),
 .mk (some 28) (some (24,false)) (.load false 1 (.tmp 27)),
 .mk (some 29) (some (24,false)) (.mv (.tmp 1)),
 .mk (some 30) (some (24,false)) (.idx 1 (.tmp 28) (.tmp 29)),
 .mk (some 31) (some (24,false)) (.load false 1 (.tmp 30)),
 .mk (some 32) (some (24,false)) (.mv (.tmp 2)),
 .mk (some 33) (some (24,false)) (.idx 1 (.tmp 31) (.tmp 32)),
 .mk (some 34) (some (24,false)) (.load false 1 (.tmp 33)),
 .mk (some 35) (some (24,false)) (.mv (.tmp 3)),
 .mk (some 36) (some (24,false)) (.idx 1 (.tmp 34) (.tmp 35)),
 .mk (some 37) (some (24,false)) (.load false 1 (.tmp 36)),
 .mk (some 38) (some (24,false)) (.un .not (.tmp 37)),
 .mk (some 39) none (.pick (.tmp 24) (.const (.bool true)) (.tmp 38))]
 [0,1,2,3,9,39])
 (.cond (.tmp 39)
 (.seq (.region [.mk (some 8) none (.mv (.const (.bool false)))] [8]) .ret)
 .skip))
 (.seq
 (.seq
 (.region
 [.mk (some 40) none (.mv (.tmp 3)),
 .mk (some 41) none (.ibin .add (.tmp 40) (.const (.int .i64 1))),
 .mk (some 42) none (.mv (.const (.int .i64 0)))]
 [0,1,2,3,9,41,42])
 (.block 0 (.loop S188_3 [42] [0,1,2,3,9,41])))
 (.seq (.region [.mk (some 8) none (.mv (.const (.bool false)))] [8]) .ret))))
def S188 : FnS := ⟨105,[(8,none)],S188_0⟩
theorem tr188 : trFn Try.prog 188 [] [[0,1,2,3],[0,1,2,3,9],[0,1,2,3,9,39],[8],[0,1,2,3,9,41,42],[42],[0,1,2,3,9,41],[0,1,2,3,9,41,42,43],[],[0,1,2,3,9,41,42],[0,1,2,3,9,10,41,42],[0,1,2,3,9,10,41,42,71],[0,1,2,3,9,41,42,103],[0,1,2,3,4,5,6,7,8,9,10,11,12,13,14,15,16,17,18,19,20,21,22,23,24,25,26,27,28,29,30,31],[],[],[],[0,1],[0,1,2],[0,1,2,3],[0,1,2,3,4],[0,1,2,3,4,5],[0,1,2,3,4,5,6],[0,1,2,3,4,5,6,7],[0,1,2,3,4,5,6,7,8],[0,1,2,3,4,5,6,7,8,9],[0,1,2,3,4,5,6],[0,1,2,3,4,5,6],[0,1,2,3,4,5,6,11,12],[0,1,2,3,4,5,6,11,12,13],[0,1,2,3,4,5,6,11,12,13,14],[0,1,2,3,4,5,6,7,8,9,10,11,12,13,14,15],[0,1,2,3,4,5,6,7,8,9,10,11,12,13,14,15,16],[0,1,2,3,4,5,6],[0,1,2,3,4,5,6,7,8,9,10,11,12,13,14,15,16,17,18],[0,1,2,3,4,5,6,7,8,9,10,11,12,13,14,15,16,17,18,19],[0,1,2,3,4,5,6,7,8,9,10,11,12,13,14,15,16,17,18,19,20],[0,1,2,3,4,5,6,7,8,9,10,11,12,13,14,15,16,17,18,19,20,21],[0,1,2,3,4,5,6,7,8,9,10,11,12,13,14,15,16,17,18,19,20,21,22],[0,1,2,3,4,5,6,7,8,9,10,11,12,13,14,15,16,17,18,19,20,21,22],[0,1,2,3,4,5,6,7,8,9,10,11,12,13,14,15,16,17,18,19,20,21,22],[0,1,2,3,4,5,6,7,8,9,10,11,12,13,14,15,16,17,18,19,20,21,22,25],[0,1,2,3,4,5,6,7,8,9,10,11,12,13,14,15,16,17,18,19,20,21,22],[0,1,2,3,4,5,6,7,8,9,10,11,12,13,14,15,16,17,18,19,20,21,22],[0,1,2,3,4,5,6,7,8,9,10,11,12,13,14,15,16,17,18,19,20,21,22,27,28],[0,1,2,3,4,5,6,7,8,9,10,11,12,13,14,15,16,17,18,19,20,21,22,23,24,25,26,27,28,29],[0,1,2,3,4,5,6,7,8,9,10,11,12,13,14,15,16,17,18,19,20,21,22,23,24,25,26,27,28,29,30],[8],[0,1,2,3,9,41,42],[8]] = some S188 := by kernel_rfl
end Go.Proofs.Ytniobbepliknmaa.V
