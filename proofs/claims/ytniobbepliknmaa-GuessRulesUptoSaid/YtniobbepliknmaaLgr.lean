/- parllaw5.GuessRules answers true; no condition. -/
import Derived.Test.YtniobbepliknmaaPgr
import Derived.Test.YtniobbepliknmaaPcmp
import Derived.Test.YtniobbepliknmaaS25
import Derived.Test.YtniobbepliknmaaS5
namespace Go.Proofs.Ytniobbepliknmaa.V
open Go
set_option linter.unusedVariables false
set_option linter.unusedSimpArgs false
attribute [local go_sem] e_seq e_region e_quiet e_join e_loop e_cond e_block e_exit e_ret e_skip e_fin e_kseq e_snrm e_sret e_sex e_bnrm e_bret e_bex e_rnrm e_rret e_res e_condC e_nil e_g e_mv g_mv e_pick g_pick pickC_eq e_ibin g_ibin ibinC_eq e_sbin g_sbin e_beq g_beq beqC_eq e_nilq g_nilq e_un g_un unC_not unC_neg e_conv g_conv convC_eq e_fld g_fld fldC_ref fldC_ptr e_nilCheck g_nilCheck nilCheckC_ref nilCheckC_ptr nilCheckC_fun e_field g_field fieldC_eq e_len g_len lenC_sl lenC_str e_extract g_extract extractC_eq e_mkFunc e_build g_build e_idiv g_idiv idivC_eq e_ishift g_ishift ishiftC_eq e_idx g_idx e_idxA g_idxA e_load g_load loadC_ref loadC_ptr loadB_eq e_slc g_slc e_box boxC_loc boxC_esc e_alloc allocC_loc allocC_esc e_buildS e_store storeC_ref storeC_ptr storeB_eq e_append e_mk mkC_eq e_call callC_eq e_fn g_fn fnC_eq fnV_min' fnV_max' fnV_rune' e_q g_q e_a e_n g_call g_box g_alloc g_buildS g_store g_append g_mk g_a g_n g_dead e_dead e_callK e_drawn e_tree e_finJ e_tk e_tfin e_tno e_nbt_q e_nbt_qn e_nbt_a e_nbt_an e_nbt_fin e_early_nil e_early_t e_early_f e_nob_nil e_nob_none e_nob_some isBox_dead isBox_v isBox_ref e_dnil e_dk e_ek e_finB vcOps_vc1 e_dcons e_tq e_ekt e_tearly e_talt e_dearly look_nil look_c proj_nil proj_c looks_nil looks_c zip_nil zip_c val_tmp val_const val_func slv_v slv_box slv_ref slot_tmp slot_const slot_func slotL_v slotL_box slotL_ref put_some put_none updBox_c boxSet_box gd_eq slotVals_nil slotVals_c slotVals_b boxV_box boxOn_box slotsOn_nil slotsOn_c slotsOn_b resV_one resV_two vals_nil vals_c allOn_nil allOn_c partOn_nil partOn_c partVals_nil partVals_c fits_nil fits_c fillL_nil fillL_c mkv_one mkv_agg cellsV_agg cellsV_int cellsV_bool cellsV_slice cellsV_string cellsV_pointer cellsV_func cellsV_nilf cellsV_map one'_nil one'_c oc_int oc_bool oc_slice oc_string oc_pointer oc_func oc_nilf oc_map setC_eq iv_add iv_sub iv_mul iv_eql iv_neq iv_lss iv_leq iv_gtr iv_geq iok_add iok_sub iok_mul iok_eql iok_neq iok_lss iok_leq iok_gtr iok_geq pickV_bool args0_nil args0_c bnd_none bnd_some imp_bt imp_bf imp_ebt imp_ebf imp_eb1 imp_np imp_pp beq_tt beq_tf beq_ft beq_ff cond_or cond_and e_round e_meet decide_true decide_false Bool.or_false Bool.false_or Bool.true_or Bool.or_true Bool.and_false Bool.false_and Bool.bne_false Bool.bne_true beq_iff_eq Int.cast_ofNat_Int not_false_eq_true not_true_eq_false false_and and_false false_implies true_implies true_and and_true Bool.true_and Bool.and_true Bool.not_true Bool.not_false forall_const implies_true List.take_zero List.drop_zero List.take_succ_cons List.drop_succ_cons List.take_nil List.drop_nil List.length_cons List.length_nil List.nil_append List.append_nil List.cons_append Int.toNat_natCast decide_eq_true_eq decide_eq_false_iff_not cond_true cond_false and_self List.getElem?_cons_zero List.getElem?_cons_succ List.set_cons_zero List.set_cons_succ Option.some.injEq exists_eq_left' Nat.zero_add Nat.add_zero Nat.mul_one imp_self true_or or_true or_false false_or Bool.or_eq_true Bool.or_eq_false_iff Bool.and_eq_true Bool.and_eq_false_iff Bool.not_eq_true' Bool.not_eq_false'

theorem lit_bld {α : Type} [Sc α] {b : Nat} {T : TypeId} {cs : List Value} {L : Mem} {n : Nat} (xs : List α) (h : xs.map Sc.enc = cs) (hn : xs.length = n + 1) (hs : xs.length ≤ 1000) : Bld (V.one b (.cells cs.toArray T)) L T (.slice (some ⟨b, 0, none⟩) (n + 1) (n + 1)) xs := by
  subst h
  refine ⟨xs.map Sc.enc, ⟨by simp [Rep.sz], .inr ⟨b, 0, n, _, by rw [hn], by omega, by unfold maxLen; omega, one_self _ _, by simp [Rep.sz]; omega, by simp only [Rep.sz, Nat.mul_one, List.drop_zero]; rw [← List.length_map (f := Sc.enc)]; exact List.take_length⟩⟩, fun i x hi => ⟨[Sc.enc x], rfl, fun j hj => ?_⟩⟩
  have : j = 0 := by simp [Rep.sz] at hj; exact hj
  subst this
  simp [Rep.sz, hi]

def codeS (t : Int) (s : Sy) : Int := if s.t = true then s.n else t + s.n
def codeF (t : Int) (r : Ru) : List Int := [r.l, (r.r.length : Int)] ++ r.r.map (codeS t)
def okCode (r : Ru) : Prop := r.r.length ≤ 2 ∧ ∀ s ∈ r.r, 0 ≤ s.n ∧ s.n ≤ 2

theorem rules_code {Γr : Ctx} {bt : Nat} {T : TypeId} (t : Int) (ht : 0 ≤ t ∧ t ≤ 2) (hb : lk Γr bt (.cells #[.int .i64 t] T (0, 0))) (r : Ru) (hr : okCode r) {A : Option Addr} {c : Nat} (hs : SlOk (lk Γr) A c r.r) :
    Ret Try.prog 25 [.agg #[.int .i64 r.l, .slice A r.r.length c], .pointer (some ⟨bt, 0, none⟩)] Γr [] (fun v Γ => ∃ g B d, Γ = [g] ∧ SlOk (lk [g]) B d (codeF t r) ∧ v = .slice B (codeF t r).length d) := by
  generalize hR : (fun (v : Value) (Γ : Ctx) => ∃ g B d, _) = R
  refine ret_of_vc tr25 (Nat.le_of_ble_eq_true rfl) ?_
  simp only [S25, S25_0, go_sem, Nat.reduceBEq, Nat.reduceAdd, Nat.reduceSub, Nat.reduceMul, Nat.reduceLeDiff, reduceCtorEq, ↓reduceIte, Int.reduceLT, Int.reduceLE, Int.reduceEq, Int.reduceNe]
  intro b2
  have h0 : Bld (V.one b2 (.cells #[.int .i64 r.l, .int .i64 r.r.length] 3)) (lk []) 3 (.slice (some ⟨b2, 0, none⟩) 2 2) [r.l, (r.r.length : Int)] := lit_bld [r.l, (r.r.length : Int)] rfl rfl (by simp)
  have hrl := hr.1
  refine s_loop (fun f vs Γ => ∃ g : PH, Γ = [g] ∧ ∃ (k : Nat) (u : Value), vs = [.v true u, .v true (.int .i64 k)] ∧ k + f = r.r.length ∧ Bld g (lk []) 3 u ([r.l, (r.r.length : Int)] ++ (r.r.take k).map (codeS t))) r.r.length
    (Up.here ⟨_, rfl, 0, _, rfl, by omega, by rw [List.take_zero, List.map_nil, List.append_nil]; exact h0⟩) ?_
  rintro f vs Γ ⟨g, rfl, k, u, rfl, hkf, hB⟩
  simp only [S25_3, go_sem, Nat.reduceBEq, Nat.reduceAdd, Nat.reduceSub, Nat.reduceMul, Nat.reduceLeDiff, reduceCtorEq, ↓reduceIte, Int.reduceLT, Int.reduceLE, Int.reduceEq, Int.reduceNe]
  refine ⟨fun hlt => ?_, fun hge => ?_⟩
  · have hk : k < r.r.length := by omega
    obtain ⟨b1, o1, hA, hc1⟩ := hs.sy hk
    have hsy := hr.2 r.r[k] (List.getElem_mem _)
    refine s_split ?_
    simp only [S25_1, S25_2, go_sem, Nat.reduceBEq, Nat.reduceAdd, Nat.reduceSub, Nat.reduceMul, Nat.reduceLeDiff, reduceCtorEq, ↓reduceIte, Int.reduceLT, Int.reduceLE, Int.reduceEq, Int.reduceNe]
    refine s_idx hA (by omega) (by omega) ?_
    simp only [go_sem, Nat.reduceBEq, Nat.reduceAdd, Nat.reduceSub, Nat.reduceMul, Nat.reduceLeDiff, reduceCtorEq, ↓reduceIte, Int.reduceLT, Int.reduceLE, Int.reduceEq, Int.reduceNe]
    refine s_ld0 (hc1 _ (lk_r _ _)) (by simp) (by simp) ?_
    simp only [go_sem, Nat.reduceBEq, Nat.reduceAdd, Nat.reduceSub, Nat.reduceMul, Nat.reduceLeDiff, reduceCtorEq, ↓reduceIte, Int.reduceLT, Int.reduceLE, Int.reduceEq, Int.reduceNe]
    intro b3
    have hstep : ∀ x, x = codeS t r.r[k] → [r.l, (r.r.length : Int)] ++ (r.r.take k).map (codeS t) ++ [x] = [r.l, (r.r.length : Int)] ++ (r.r.take (k + 1)).map (codeS t) := by
      intro x hx
      rw [List.take_succ_eq_append_getElem hk, List.map_append, hx, List.append_assoc]
      rfl
    refine ⟨fun ht' b4 => ?_, fun ht' => ?_⟩
    · refine s_app1S (ix := 1) r.r[k].n rfl hB cells_one rfl (by simp; omega) (by simp [maxLen]; omega) ?_
      intro v' g' hB' _
      simp only [go_sem, Nat.reduceBEq, Nat.reduceAdd, Nat.reduceSub, Nat.reduceMul, Nat.reduceLeDiff, reduceCtorEq, ↓reduceIte, Int.reduceLT, Int.reduceLE, Int.reduceEq, Int.reduceNe]
      simp (disch := omega) only [wrap_id]
      rw [hstep _ (by simp [codeS, ht'])] at hB'
      exact Up.here ⟨f - 1, by omega, Up.sel [[1]] (by decide) fun _ _ => ⟨_, rfl, k + 1, v', rfl, by omega, hB'⟩⟩
    · refine s_ld0 (Cells.lk (lk_r _ _ _ _ hb) (cells := #[.int .i64 t]) (vs := [.int .i64 t]) (by intro j hj; simp at hj; subst hj; rfl)) (by simp) (by simp) ?_
      simp only [go_sem, Nat.reduceBEq, Nat.reduceAdd, Nat.reduceSub, Nat.reduceMul, Nat.reduceLeDiff, reduceCtorEq, ↓reduceIte, Int.reduceLT, Int.reduceLE, Int.reduceEq, Int.reduceNe]
      intro b4
      simp (disch := omega) only [wrap_id]
      refine s_app1S (ix := 1) (t + r.r[k].n) rfl hB cells_one rfl (by simp; omega) (by simp [maxLen]; omega) ?_
      intro v' g' hB' _
      simp only [go_sem, Nat.reduceBEq, Nat.reduceAdd, Nat.reduceSub, Nat.reduceMul, Nat.reduceLeDiff, reduceCtorEq, ↓reduceIte, Int.reduceLT, Int.reduceLE, Int.reduceEq, Int.reduceNe]
      simp (disch := omega) only [wrap_id]
      rw [hstep _ (by simp [codeS, ht'])] at hB'
      exact Up.here ⟨f - 1, by omega, Up.sel [[1]] (by decide) fun _ _ => ⟨_, rfl, k + 1, v', rfl, by omega, hB'⟩⟩
  · have hk : k = r.r.length := by omega
    rw [hk, List.take_length] at hB
    refine Up.one fun g3 hg3 => ?_
    obtain ⟨B, cb, rfl, hs⟩ := hB.slok (L' := lk [g3]) ((lk_m (by simp)).trans hg3) ((lk_sub (by simp)).trans hg3) (by simp; omega)
    subst hR
    exact ⟨g3, B, cb, rfl, hs, rfl⟩

def ordOk (t : Int) : List Ru → Bool
  | [] => true
  | [_] => true
  | a :: b :: r => decide (cmpL (codeF t a) (codeF t b) < 0) && ordOk t (b :: r)
theorem ordOk_at {t : Int} : ∀ {l : List Ru}, ordOk t l = true → ∀ (i : Nat) a b, l[i]? = some a → l[i + 1]? = some b → cmpL (codeF t a) (codeF t b) < 0
  | [], _, i, a, b, h, _ => by simp at h
  | [x], _, i, a, b, _, h => by simp at h
  | x :: y :: r, h, i, a, b, ha, hb => by
    simp only [ordOk, Bool.and_eq_true, decide_eq_true_eq] at h
    cases i with
    | zero => simp at ha hb; subst ha hb; exact h.1
    | succ i => exact ordOk_at h.2 i a b (by simpa using ha) (by simpa using hb)
def okCodeB (r : Ru) : Bool := decide (r.r.length ≤ 2) && r.r.all fun s => decide (0 ≤ s.n) && decide (s.n ≤ 2)
theorem okCodeB_iff {r : Ru} (h : okCodeB r = true) : okCode r := by
  simp only [okCodeB, Bool.and_eq_true, decide_eq_true_eq, List.all_eq_true] at h
  exact ⟨h.1, h.2⟩
theorem rules_facts : ∀ T N : Nat, 1 ≤ T → T ≤ 2 → 1 ≤ N → N ≤ 2 → ((rulesF T N).length : Int) = N * (1 + (T + N) + (T + N) * (T + N)) ∧ (rulesF T N).all okCodeB = true ∧ ordOk T (rulesF T N) = true := by
  intro T N h1 h2 h3 h4
  obtain rfl | rfl : T = 1 ∨ T = 2 := by omega
  all_goals (obtain rfl | rfl : N = 1 ∨ N = 2 := by omega)
  all_goals decide

theorem law_rules {Γr : Ctx} (t n : Int) (ht : -9223372036854775808 ≤ t ∧ t ≤ 9223372036854775807) (hn : -9223372036854775808 ≤ n ∧ n ≤ 9223372036854775807) :
    Ret Try.prog 5 [.int .i64 t, .int .i64 n] Γr [] (fun v Γ => Γ = [] ∧ v = .bool true) := by
  generalize hR : (fun (v : Value) (Γ : Ctx) => Γ = [] ∧ _) = R
  refine ret_of_vc tr5 (Nat.le_of_ble_eq_true rfl) ?_
  simp only [S5, S5_0, go_sem, Nat.reduceBEq, Nat.reduceAdd, Nat.reduceSub, Nat.reduceMul, Nat.reduceLeDiff, reduceCtorEq, ↓reduceIte, Int.reduceLT, Int.reduceLE, Int.reduceEq, Int.reduceNe]
  intro bt
  refine CallVC.read (guess_rules 1 1) ?_
  rintro v Γ' ⟨g, A, c, rfl, hs, rfl⟩
  have e1 : (rulesR 1 1).1.length = 7 := by decide
  have e2 : (rulesR 1 1).2 = 0 := by decide
  have e3 : ((rulesR 1 1).1[0]?).map (fun r => r.r.length) = some 0 := by decide
  rw [e1, e2]
  simp only [go_sem, Nat.reduceBEq, Nat.reduceAdd, Nat.reduceSub, Nat.reduceMul, Nat.reduceLeDiff, reduceCtorEq, ↓reduceIte, Int.reduceLT, Int.reduceLE, Int.reduceEq, Int.reduceNe]
  have h7 : 0 < (rulesR 1 1).1.length := by omega
  obtain ⟨b, o, hA, A2, c2, hs2, hc⟩ := hs.ru h7
  have e4 : (rulesR 1 1).1[0].r.length = 0 := by
    rw [List.getElem?_eq_getElem h7] at e3
    simpa using e3
  rw [e4] at hc
  refine s_idx hA (by omega) (by omega) ?_
  simp only [go_sem, Nat.reduceBEq, Nat.reduceAdd, Nat.reduceSub, Nat.reduceMul, Nat.reduceLeDiff, reduceCtorEq, ↓reduceIte, Int.reduceLT, Int.reduceLE, Int.reduceEq, Int.reduceNe]
  refine s_ld (hc _ (lk_sub (by simp))) (by simp) (by simp) ?_
  simp only [go_sem, Nat.reduceBEq, Nat.reduceAdd, Nat.reduceSub, Nat.reduceMul, Nat.reduceLeDiff, reduceCtorEq, ↓reduceIte, Int.reduceLT, Int.reduceLE, Int.reduceEq, Int.reduceNe]
  have hbt : ∀ Γ : Ctx, V.one bt (.cells [Value.int .i64 t].toArray 3) ∈ Γ → Cells (Γ ++ Γr) bt 0 [.int .i64 t] := fun Γ h => cells_lk (T := 3) (fr := (0, 0)) ⟨_, List.mem_append_left _ h, one_self _ _⟩
  refine s_ld0 (hbt _ (by simp)) (by simp) (by simp) ?_
  simp only [go_sem, Nat.reduceBEq, Nat.reduceAdd, Nat.reduceSub, Nat.reduceMul, Nat.reduceLeDiff, reduceCtorEq, ↓reduceIte, Int.reduceLT, Int.reduceLE, Int.reduceEq, Int.reduceNe]
  refine CallVC.read (guess_rules t n) ?_
  rintro v Γ' ⟨g2, A3, c3, rfl, hs3, rfl⟩
  obtain ⟨⟨l, e⟩, hp⟩ : ∃ p, p = rulesR t n := ⟨_, rfl⟩
  rw [← hp] at hs3 ⊢
  simp only [go_sem, Nat.reduceBEq, Nat.reduceAdd, Nat.reduceSub, Nat.reduceMul, Nat.reduceLeDiff, reduceCtorEq, ↓reduceIte, Int.reduceLT, Int.reduceLE, Int.reduceEq, Int.reduceNe]
  refine s_ld0 (hbt _ (by simp)) (by simp) (by simp) ?_
  simp only [go_sem, Nat.reduceBEq, Nat.reduceAdd, Nat.reduceSub, Nat.reduceMul, Nat.reduceLeDiff, reduceCtorEq, ↓reduceIte, Int.reduceLT, Int.reduceLE, Int.reduceEq, Int.reduceNe]
  refine s_ldg0 (by simp) (fun _ => hbt _ (by simp)) (by simp) (by simp) ?_
  simp only [go_sem, Nat.reduceBEq, Nat.reduceAdd, Nat.reduceSub, Nat.reduceMul, Nat.reduceLeDiff, reduceCtorEq, ↓reduceIte, Int.reduceLT, Int.reduceLE, Int.reduceEq, Int.reduceNe]
  refine ⟨fun h => Up.to [] (Ent.nil _) ?_, fun hok => ?_⟩
  · have hb : badTN t n := by unfold badTN; omega
    have : rulesR t n = ([], 1) := by unfold rulesR; rw [if_pos hb]
    rw [this] at hp
    simp only [Prod.mk.injEq] at hp
    obtain ⟨rfl, rfl⟩ := hp
    subst hR
    exact ⟨rfl, rfl⟩
  have hb : ¬ badTN t n := by unfold badTN; omega
  obtain ⟨T, rfl⟩ : ∃ m : Nat, t = m := ⟨t.toNat, by omega⟩
  obtain ⟨N, rfl⟩ : ∃ m : Nat, n = m := ⟨n.toNat, by omega⟩
  have hres : rulesR T N = (rulesF T N, 0) := by unfold rulesR; rw [if_neg hb, Int.toNat_natCast, Int.toNat_natCast]
  rw [hres] at hp
  simp only [Prod.mk.injEq] at hp
  obtain ⟨rfl, rfl⟩ := hp
  obtain ⟨f1, f2, f3⟩ := rules_facts T N (by omega) (by omega) (by omega) (by omega)
  have hlen : (rulesF T N).length ≤ 42 := by
    obtain rfl | rfl : T = 1 ∨ T = 2 := by omega
    all_goals (obtain rfl | rfl : N = 1 ∨ N = 2 := by omega)
    all_goals decide
  obtain ⟨l, hl⟩ : ∃ l, l = rulesF T N := ⟨_, rfl⟩
  rw [← hl] at f1 f2 f3 hs3 hlen ⊢
  refine s_ld0 (hbt _ (by simp)) (by simp) (by simp) ?_
  simp only [go_sem, Nat.reduceBEq, Nat.reduceAdd, Nat.reduceSub, Nat.reduceMul, Nat.reduceLeDiff, reduceCtorEq, ↓reduceIte, Int.reduceLT, Int.reduceLE, Int.reduceEq, Int.reduceNe]
  have hw : IntKind.i64.wrap (↑N * IntKind.i64.wrap (IntKind.i64.wrap (1 + IntKind.i64.wrap (↑T + ↑N)) + IntKind.i64.wrap (IntKind.i64.wrap (↑T + ↑N) * IntKind.i64.wrap (↑T + ↑N)))) = (l.length : Int) := by
    rw [f1]
    obtain rfl | rfl : T = 1 ∨ T = 2 := by omega
    all_goals (obtain rfl | rfl : N = 1 ∨ N = 2 := by omega)
    all_goals decide
  rw [hw]
  refine ⟨fun h => absurd rfl h, fun _ => ?_⟩
  simp only at hs3
  refine s_loop (fun f vs Γ => ∃ g2 : PH, Γ = [g2, V.one bt (.cells [Value.int .i64 T].toArray 3)] ∧ ∃ k : Nat, vs = [.v true (.int .i64 k)] ∧ k + f = l.length ∧ SlOk (lk [g2]) A3 c3 l) l.length
    (Up.sel [[0], [2]] (by decide) fun _ _ => ⟨_, rfl, 0, rfl, by omega, hs3⟩) ?_
  rintro f vs Γ ⟨g2, rfl, k, rfl, hkf, hs4⟩
  simp only [S5_1, go_sem, Nat.reduceBEq, Nat.reduceAdd, Nat.reduceSub, Nat.reduceMul, Nat.reduceLeDiff, reduceCtorEq, ↓reduceIte, Int.reduceLT, Int.reduceLE, Int.reduceEq, Int.reduceNe]
  refine ⟨fun hlt => ?_, fun hge => ?_⟩
  · have hk : k < l.length := by omega
    obtain ⟨b1, o1, hA1, A4, c4, hs5, hc4⟩ := hs4.ru hk
    refine s_idx hA1 (by omega) (by omega) ?_
    simp only [go_sem, Nat.reduceBEq, Nat.reduceAdd, Nat.reduceSub, Nat.reduceMul, Nat.reduceLeDiff, reduceCtorEq, ↓reduceIte, Int.reduceLT, Int.reduceLE, Int.reduceEq, Int.reduceNe]
    refine s_ld0 (hc4 _ (lk_sub (by simp))) (by simp) (by simp) ?_
    simp only [go_sem, Nat.reduceBEq, Nat.reduceAdd, Nat.reduceSub, Nat.reduceMul, Nat.reduceLeDiff, reduceCtorEq, ↓reduceIte, Int.reduceLT, Int.reduceLE, Int.reduceEq, Int.reduceNe]
    intro b
    refine s_drawn [] [g2, V.one bt (.cells [Value.int .i64 T].toArray 3)] (Ent.refl _) ?_
    have hck : ∀ (i : Nat) (hi : i < l.length), okCode l[i] := fun i hi => okCodeB_iff (List.all_eq_true.1 f2 _ (List.getElem_mem hi))
    have hle : (2 < (l[k].r.length : Int)) = False := by
      have := (hck k hk).1
      simp only [eq_iff_iff, iff_false]
      omega
    by_cases hk0 : k = 0
    · subst hk0
      have h0 : (0 < ((0 : Nat) : Int)) = False := by simp
      simp only [hle, h0, go_sem, Nat.reduceBEq, Nat.reduceAdd, Nat.reduceSub, Nat.reduceMul, Nat.reduceLeDiff, reduceCtorEq, ↓reduceIte, Int.reduceLT, Int.reduceLE, Int.reduceEq, Int.reduceNe]
      refine s_idxg (b := 0) (o := 0) (by simp) ?_
      simp only [go_sem, Nat.reduceBEq, Nat.reduceAdd, Nat.reduceSub, Nat.reduceMul, Nat.reduceLeDiff, reduceCtorEq, ↓reduceIte, Int.reduceLT, Int.reduceLE, Int.reduceEq, Int.reduceNe]
      refine s_ldg0 (cs := [.int .i64 0, .slice none 0 0]) (by simp) (by simp) (by simp) (by simp) ?_
      simp only [go_sem, Nat.reduceBEq, Nat.reduceAdd, Nat.reduceSub, Nat.reduceMul, Nat.reduceLeDiff, reduceCtorEq, ↓reduceIte, Int.reduceLT, Int.reduceLE, Int.reduceEq, Int.reduceNe]
      refine ⟨.int .i64 0, .int .i64 0, .int .i64 0, ?_⟩
      simp only [go_sem, Nat.reduceBEq, Nat.reduceAdd, Nat.reduceSub, Nat.reduceMul, Nat.reduceLeDiff, reduceCtorEq, ↓reduceIte, Int.reduceLT, Int.reduceLE, Int.reduceEq, Int.reduceNe]
      exact ⟨f - 1, by omega, Up.here ⟨_, rfl, 1, rfl, by omega, hs4⟩⟩
    · have h0 : (0 < (k : Int)) = True := by simp only [eq_iff_iff, iff_true]; omega
      simp only [hle, h0, go_sem, Nat.reduceBEq, Nat.reduceAdd, Nat.reduceSub, Nat.reduceMul, Nat.reduceLeDiff, reduceCtorEq, ↓reduceIte, Int.reduceLT, Int.reduceLE, Int.reduceEq, Int.reduceNe]
      obtain ⟨k, rfl⟩ : ∃ k', k = k' + 1 := ⟨k - 1, by omega⟩
      have hwk : IntKind.i64.wrap (((k + 1 : Nat) : Int) - 1) = (k : Int) := by rw [wrap_id (by omega) (by omega)]; omega
      rw [hwk]
      obtain ⟨b2, o2, hA2, A6, c6, hs6, hc6⟩ := hs4.ru (show k < l.length by omega)
      refine s_idx hA2 (by omega) (by omega) ?_
      simp only [go_sem, Nat.reduceBEq, Nat.reduceAdd, Nat.reduceSub, Nat.reduceMul, Nat.reduceLeDiff, reduceCtorEq, ↓reduceIte, Int.reduceLT, Int.reduceLE, Int.reduceEq, Int.reduceNe]
      refine s_ld0 (hc6 _ (lk_sub (by simp))) (by simp) (by simp) ?_
      simp only [go_sem, Nat.reduceBEq, Nat.reduceAdd, Nat.reduceSub, Nat.reduceMul, Nat.reduceLeDiff, reduceCtorEq, ↓reduceIte, Int.reduceLT, Int.reduceLE, Int.reduceEq, Int.reduceNe]
      refine CallVC.read (rules_code (bt := bt) (T := 3) (T : Int) (by omega) (lk_tail (lk_head (Γ := Γr))) _ (hck k (by omega)) (hs6.mono (lk_sub (by simp)))) ?_
      rintro v Γ' ⟨g3, B3, d3, rfl, hs7, rfl⟩
      simp only [go_sem, Nat.reduceBEq, Nat.reduceAdd, Nat.reduceSub, Nat.reduceMul, Nat.reduceLeDiff, reduceCtorEq, ↓reduceIte, Int.reduceLT, Int.reduceLE, Int.reduceEq, Int.reduceNe]
      refine CallVC.read (rules_code (bt := bt) (T := 3) (T : Int) (by omega) (lk_tail (lk_tail (lk_head (Γ := Γr)))) _ (hck (k + 1) hk) (hs5.mono (lk_sub (by simp)))) ?_
      rintro v Γ' ⟨g4, B4, d4, rfl, hs8, rfl⟩
      simp only [go_sem, Nat.reduceBEq, Nat.reduceAdd, Nat.reduceSub, Nat.reduceMul, Nat.reduceLeDiff, reduceCtorEq, ↓reduceIte, Int.reduceLT, Int.reduceLE, Int.reduceEq, Int.reduceNe]
      refine CallVC.read (slices_compare (hs7.mono (lk_sub (by simp))) (hs8.mono (lk_sub (by simp)))) ?_
      rintro v Γ' ⟨rfl, rfl⟩
      have hneg := ordOk_at f3 k l[k] l[k + 1] (List.getElem?_eq_getElem _) (List.getElem?_eq_getElem _)
      have hn0 : (0 ≤ cmpL (codeF T l[k]) (codeF T l[k + 1])) = False := by simp only [eq_iff_iff, iff_false]; omega
      simp only [hn0, go_sem, Nat.reduceBEq, Nat.reduceAdd, Nat.reduceSub, Nat.reduceMul, Nat.reduceLeDiff, reduceCtorEq, ↓reduceIte, Int.reduceLT, Int.reduceLE, Int.reduceEq, Int.reduceNe]
      simp (disch := omega) only [wrap_id]
      exact ⟨f - 1, by omega, Up.sel [[2], [3]] (by decide) fun _ _ => ⟨_, rfl, k + 1 + 1, rfl, by omega, hs4⟩⟩
  · refine Up.to [] (Ent.nil _) ?_
    subst hR
    exact ⟨rfl, rfl⟩
end Go.Proofs.Ytniobbepliknmaa.V
