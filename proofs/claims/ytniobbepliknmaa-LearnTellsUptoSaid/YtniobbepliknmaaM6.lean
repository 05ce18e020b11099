/- Texts put together, in the order in which they build; each says what it proves; no condition. -/
import Derived.Test.YtniobbepliknmaaM5
import Derived.Test.YtniobbepliknmaaM4
import Derived.Test.YtniobbepliknmaaM2
import Derived.Test.YtniobbepliknmaaProg
import Derived.Test.YtniobbepliknmaaM3
/- mini.hopcroft walked; no condition. -/
namespace Go.Proofs.Ytniobbepliknmaa.V
open Go
set_option linter.unusedVariables false
set_option linter.unusedSimpArgs false
attribute [local go_sem] e_seq e_region e_quiet e_join e_loop e_cond e_block e_exit e_ret e_skip e_fin e_kseq e_snrm e_sret e_sex e_bnrm e_bret e_bex e_rnrm e_rret e_res e_condC e_nil e_g e_mv g_mv e_pick g_pick pickC_eq e_ibin g_ibin ibinC_eq e_sbin g_sbin e_beq g_beq beqC_eq e_nilq g_nilq nilqC_sl nilqC_pt nilqC_mp e_un g_un unC_not unC_neg e_conv g_conv convC_eq e_fld g_fld fldC_ref fldC_ptr e_nilCheck g_nilCheck nilCheckC_ref nilCheckC_ptr nilCheckC_fun e_field g_field fieldC_eq e_len g_len lenC_sl lenC_str e_extract g_extract extractC_eq e_mkFunc e_build g_build e_idiv g_idiv idivC_eq e_ishift g_ishift ishiftC_eq e_idx g_idx e_idxA g_idxA e_load g_load e_loadB g_loadB atB_ref atB_v g_mkFunc loadC_ref loadC_ptr loadB_eq e_slc g_slc e_box boxC_loc boxC_esc e_alloc allocC_loc allocC_esc e_buildS e_store storeC_ref storeC_ptr storeB_eq e_append e_appz e_mk mkC_eq e_call callC_eq e_fn g_fn fnC_eq fnV_min' fnV_max' fnV_rune' e_q g_q e_a e_n g_call g_box g_alloc g_buildS g_store g_append g_mk g_a g_n g_dead e_dead e_callK e_drawn e_tree e_finJ e_tk e_tfin e_tno e_nbt_q e_nbt_qn e_nbt_a e_nbt_an e_nbt_fin e_drawnB e_bxb_nil e_bxb e_stB_none e_stB_some boxSt_store bs_mv bs_pick bs_ibin bs_idiv bs_ishift bs_sbin bs_beq bs_nilq bs_un bs_conv bs_box bs_alloc bs_build bs_buildS bs_load bs_fld bs_nilCheck bs_idx bs_idxA bs_field bs_slc bs_len bs_append bs_appz bs_mk bs_call bs_extract bs_mkFunc bs_fn bs_q bs_a bs_n bs_loadB bs_dead isBox_box e_early_nil e_early_t e_early_f e_nob_nil e_nob_none e_nob_some isBox_dead isBox_v isBox_ref e_dnil e_dk e_ek e_finB vcOps_vc1 e_dcons e_tq e_ekt e_tearly e_talt e_dearly look_nil look_c proj_nil proj_c looks_nil looks_c zip_nil zip_c val_tmp val_const val_func slv_v slv_box slv_ref slot_tmp slot_const slot_func slotL_v slotL_box slotL_ref put_some put_none updBox_c boxSet_box gd_eq slotVals_nil slotVals_c slotVals_b boxV_box boxOn_box slotsOn_nil slotsOn_c slotsOn_b resV_one resV_two vals_nil vals_c allOn_nil allOn_c partOn_nil partOn_c partVals_nil partVals_c fits_nil fits_c fillL_nil fillL_c mkv_one mkv_agg cellsV_agg cellsV_int cellsV_bool cellsV_slice cellsV_string cellsV_pointer cellsV_func cellsV_nilf cellsV_map one'_nil one'_c oc_int oc_bool oc_slice oc_string oc_pointer oc_func oc_nilf oc_map setC_eq iv_add iv_sub iv_mul iv_eql iv_neq iv_lss iv_leq iv_gtr iv_geq iok_add iok_sub iok_mul iok_eql iok_neq iok_lss iok_leq iok_gtr iok_geq pickV_bool args0_nil args0_c bnd_none bnd_some imp_bt imp_bf imp_ebt imp_ebf imp_eb1 imp_np imp_pp beq_tt beq_tf beq_ft beq_ff cond_or cond_and e_round e_meet Int.le_refl Int.toNat_zero decide_true decide_false Bool.or_false Bool.false_or Bool.true_or Bool.or_true Bool.and_false Bool.false_and Bool.bne_false Bool.bne_true beq_iff_eq Int.cast_ofNat_Int not_false_eq_true not_true_eq_false false_and and_false false_implies true_implies true_and and_true Bool.true_and Bool.and_true Bool.not_true Bool.not_false forall_const implies_true List.take_zero List.drop_zero List.take_succ_cons List.drop_succ_cons List.take_nil List.drop_nil List.length_cons List.length_nil List.nil_append List.append_nil List.cons_append Int.toNat_natCast decide_eq_true_eq decide_eq_false_iff_not cond_true cond_false and_self List.getElem?_cons_zero List.getElem?_cons_succ List.set_cons_zero List.set_cons_succ Option.some.injEq exists_eq_left' Nat.zero_add Nat.add_zero Nat.mul_one imp_self true_or or_true or_false false_or Bool.or_eq_true Bool.or_eq_false_iff Bool.and_eq_true Bool.and_eq_false_iff Bool.not_eq_true' Bool.not_eq_false'

theorem PartW.get {p bo N : Nat} {of : List Nat} {bl : List (List Nat)} {Γ : Ctx} (h : PartW p bo N of bl Γ) : ∃ Ab cb, (∃ g ∈ Γ, g p = some (.cells [.slice (some ⟨bo, 0, none⟩) N N, .slice Ab bl.length cb].toArray 257 (0, 0))) ∧ Γ.length = 4 ∧ (∃ g ∈ Γ, Arr g bo 3 of) ∧ (bl.length ≤ 140737488355328 → SlOk (lk Γ) Ab cb bl) := by
  obtain ⟨gp, go, gb, gd, vb, hs, rfl, hgp, hAo, hBb, hHd⟩ := h
  have hl := hHd.1
  obtain ⟨Ab, cb, rfl⟩ := hBb.val
  refine ⟨Ab, cb, ⟨gp, by simp, by rw [← hl]; exact hgp⟩, rfl, ⟨go, by simp, hAo⟩, fun hs => ?_⟩
  obtain ⟨A', c', e, hS⟩ := hBb.slok (L' := lk [gp, go, gb, gd]) (lk_sub (by simp)) (fun b o ⟨x, hx, _⟩ => by cases hx) (by omega)
  simp only [Value.slice.injEq, true_and] at e
  obtain ⟨rfl, rfl⟩ := e
  exact HdsOk.slok hS hHd (Mem.le.refl _) (lk_sub (by simp))
/-- the states that lead to those of Lb -/
def preL (d : Da) (c : Nat) (Lb : List Nat) : List Nat := Lb.flatMap fun (t : Nat) => (List.range (d.nx.length + 1)).filter fun (s : Nat) => gI d s (c : Int) == t
theorem preL_snoc (d : Da) (c : Nat) (Lb : List Nat) (t : Nat) : preL d c (Lb ++ [t]) = preL d c Lb ++ ((List.range (d.nx.length + 1)).filter fun (s : Nat) => gI d s (c : Int) == t) := by simp [preL]
theorem preL_mem {d : Da} {c : Nat} {Lb : List Nat} {s : Nat} : s ∈ preL d c Lb ↔ s < d.nx.length + 1 ∧ gI d s (c : Int) ∈ Lb := by
  simp only [preL, List.mem_flatMap, List.mem_filter, List.mem_range, beq_iff_eq]
  exact ⟨fun ⟨t, h1, h2, h3⟩ => ⟨h2, h3 ▸ h1⟩, fun ⟨h1, h2⟩ => ⟨_, h2, h1, rfl⟩⟩
theorem preL_len (d : Da) (c : Nat) : ∀ Lb : List Nat, (preL d c Lb).length ≤ Lb.length * (d.nx.length + 1)
  | [] => by simp [preL]
  | t :: r => by
    have h1 := preL_len d c r
    have h2 := List.length_filter_le (fun (s : Nat) => gI d s (c : Int) == t) (List.range (d.nx.length + 1))
    simp only [List.length_range] at h2
    have h3 : preL d c (t :: r) = ((List.range (d.nx.length + 1)).filter fun (s : Nat) => gI d s (c : Int) == t) ++ preL d c r := by simp [preL]
    rw [h3, List.length_append, List.length_cons, Nat.add_mul, Nat.one_mul]
    omega
/-- one of the two parts is to be looked at, and both if the whole was -/
def PP (todo0 todo : List (Nat × Nat)) (x : Nat × Nat) (c : Nat) : Prop := ((x.1, c) ∈ todo ∨ (x.2, c) ∈ todo) ∧ ((x.1, c) ∈ todo0 → (x.2, c) ∈ todo)
theorem PP.mono {todo0 todo todo' : List (Nat × Nat)} {x : Nat × Nat} {c : Nat} (h : PP todo0 todo x c) (hs : ∀ y ∈ todo, y ∈ todo') : PP todo0 todo' x c :=
  ⟨h.1.elim (fun q => .inl (hs _ q)) (fun q => .inr (hs _ q)), fun q => hs _ (h.2 q)⟩
theorem mini_hopcroft {Γr : Ctx} {d : Da} (V : VD d) (hok : ∀ x ∈ d.ac, okI x) {A1 A2 A3 : Option Addr} {c1 c2 c3 : Nat} (h1 : SlOk (lk Γr) A1 c1 (d.ac ++ [-1])) (h2 : SlOk (lk Γr) A2 c2 (nextF d)) (h3 : SlOk (lk Γr) A3 c3 (prevF d)) :
    Ret Try.prog 162 [.agg #[.slice A1 (d.nx.length + 1) c1, .slice A2 (d.nx.length + 1) c2, .slice A3 (colsD d) c3]] Γr [] (fun v Γ => ∃ g bo of, Γ = [g] ∧ v = .slice (some ⟨bo, 0, none⟩) (d.nx.length + 1) (d.nx.length + 1) ∧ Arr g bo 3 of ∧ of.length = d.nx.length + 1 ∧ (∀ s, s ≤ d.nx.length → of.getD s 0 ≤ d.nx.length) ∧
      ∀ s t : Nat, s ≤ d.nx.length → t ≤ d.nx.length → (of.getD s 0 = of.getD t 0 ↔ ∀ w, okW d w → tlN d s w = tlN d t w)) := by
  generalize hR : (fun (v : Value) (Γ : Ctx) => ∃ g bo of, _) = R
  refine ret_of_vc tr162 (Nat.le_of_ble_eq_true rfl) ?_
  have hl := V.len
  have hac := V.acc
  have hcol := V.cols
  obtain ⟨N, hN⟩ : ∃ N, N = d.nx.length + 1 := ⟨_, rfl⟩
  obtain ⟨C, hC⟩ : ∃ C, C = colsD d := ⟨_, rfl⟩
  have hlen1 : (d.ac ++ [-1]).length = N := by simp [hac, hN]
  have hpl : (prevF d).length = C := by simp [prevF, hC]
  rw [← hN, ← hC]
  simp -implicitDefEqProofs only [S162, S162_0, go_sem, Nat.reduceBEq, Nat.reduceAdd, Nat.reduceSub, Nat.reduceMul, Nat.reduceLeDiff, reduceCtorEq, ↓reduceIte, Int.reduceLT, Int.reduceLE, Int.reduceEq, Int.reduceNe]
  intro b0
  have hbeg := mini_begin (Γr := Γr) (acc := d.ac ++ [-1]) h1 (by omega) (fun x hx => by
    rcases List.mem_append.1 hx with hx | hx
    · exact hok x hx
    · simp at hx; subst hx; exact wf64 (by omega) (by omega))
  rw [hlen1] at hbeg
  refine CallVC.read hbeg ?_
  rintro v Γ' ⟨p, bo, of, bl, rfl, hW, hP, hof⟩
  simp -implicitDefEqProofs only [go_sem, Nat.reduceBEq, Nat.reduceAdd, Nat.reduceSub, Nat.reduceMul, Nat.reduceLeDiff, reduceCtorEq, ↓reduceIte, Int.reduceLT, Int.reduceLE, Int.reduceEq, Int.reduceNe]
  have hcnt := hP.count
  obtain ⟨Ab, cb, ⟨gpp, hgpm, hgp⟩, hΓ4, _, _⟩ := hW.get
  refine s_ld (j := 1) (cells_lk ⟨gpp, by simp [hgpm], hgp⟩) (by simp) (by simp) ?_
  simp -implicitDefEqProofs only [go_sem, Nat.reduceBEq, Nat.reduceAdd, Nat.reduceSub, Nat.reduceMul, Nat.reduceLeDiff, reduceCtorEq, ↓reduceIte, Int.reduceLT, Int.reduceLE, Int.reduceEq, Int.reduceNe]
  have t1 : Int.toNat 1 = 1 := rfl
  have hNC : N ≤ 201 ∧ C ≤ 16 := by omega
  have hmul : ∀ x y : Nat, x ≤ 201 → y ≤ 16 → x * y ≤ 3216 := fun x y hx hy => Nat.mul_le_mul hx hy
  refine s_loop (fun f vs Γ => ∃ (b : Nat) (todo : List (Nat × Nat)) (vt : Value) (gt : PH), vs = [.v true vt, .v true (.int .i64 b)] ∧ b + f = bl.length ∧ Γ = gt :: Γ' ∧ Bld gt (lk []) 259 vt todo ∧ todo.length = b * C ∧ (∀ x ∈ todo, x.1 < bl.length ∧ x.2 < C) ∧ ∀ b' c', b' < b → c' < C → (b', c') ∈ todo) bl.length
    (Up.emp (Up.here ⟨0, [], _, _, rfl, by omega, rfl, Bld.nil _ _ _, by simp, by simp, by simp⟩)) ?_
  rintro f vs Γ ⟨b, todo, vt, gt, rfl, hbf, rfl, hBt, htl, htv, htc⟩
  simp -implicitDefEqProofs only [S162_2, go_sem, Nat.reduceBEq, Nat.reduceAdd, Nat.reduceSub, Nat.reduceMul, Nat.reduceLeDiff, reduceCtorEq, ↓reduceIte, Int.reduceLT, Int.reduceLE, Int.reduceEq, Int.reduceNe]
  refine ⟨fun hlt => ?_, fun hge => ?_⟩
  · have hb : b < bl.length := by omega
    refine s_loop (fun f vs Γ => ∃ (c : Nat) (todo : List (Nat × Nat)) (vt : Value) (gt : PH), vs = [.v true vt, .v true (.int .i64 c)] ∧ c + f = C ∧ Γ = gt :: Γ' ∧ Bld gt (lk []) 259 vt todo ∧ todo.length = b * C + c ∧ (∀ x ∈ todo, x.1 < bl.length ∧ x.2 < C) ∧ ∀ b' c', (b' < b ∧ c' < C) ∨ (b' = b ∧ c' < c) → (b', c') ∈ todo) C
      (Up.here ⟨0, todo, _, gt, rfl, by omega, rfl, hBt, by omega, htv, fun b' c' h => h.elim (fun h => htc b' c' h.1 h.2) (fun h => by omega)⟩) ?_
    clear hBt htl htv htc
    rintro f2 vs Γ ⟨c, todo, vt, gt, rfl, hcf, rfl, hBt, htl, htv, htc⟩
    obtain ⟨At, ct, rfl⟩ := hBt.val
    have hbc := hmul b C (by omega) (by omega)
    simp -implicitDefEqProofs only [S162_1, go_sem, Nat.reduceBEq, Nat.reduceAdd, Nat.reduceSub, Nat.reduceMul, Nat.reduceLeDiff, reduceCtorEq, ↓reduceIte, Int.reduceLT, Int.reduceLE, Int.reduceEq, Int.reduceNe]
    refine ⟨fun hlt2 => ?_, fun hge2 => ?_⟩
    · intro b9
      refine s_app1 (α := Nat × Nat) (ix := 1) (L' := lk []) (x := (b, c)) rfl hBt (Mem.le.refl _) rfl cells_one rfl (by omega) (by unfold maxLen; omega) ?_
      intro vt' gt' hBt' _
      simp -implicitDefEqProofs only [go_sem, Nat.reduceBEq, Nat.reduceAdd, Nat.reduceSub, Nat.reduceMul, Nat.reduceLeDiff, reduceCtorEq, ↓reduceIte, Int.reduceLT, Int.reduceLE, Int.reduceEq, Int.reduceNe]
      simp (disch := omega) only [wrap_id]
      refine ⟨f2 - 1, by omega, Up.skip (Up.here ⟨c + 1, todo ++ [(b, c)], vt', gt', rfl, by omega, rfl, hBt', by simp; omega, fun x hx => ?_, fun b' c' h => ?_⟩)⟩
      · rcases List.mem_append.1 hx with hx | hx
        · exact htv x hx
        · simp only [List.mem_singleton] at hx; subst hx; exact ⟨hb, by simp only; omega⟩
      · by_cases e : b' = b ∧ c' = c
        · rw [e.1, e.2]; simp
        · exact List.mem_append_left _ (htc b' c' (by omega))
    · have hc : c = C := by omega
      subst hc
      simp (disch := omega) only [wrap_id]
      refine ⟨f - 1, by omega, Up.here ⟨b + 1, todo, _, gt, rfl, by omega, rfl, hBt, by rw [htl, Nat.add_mul, Nat.one_mul], htv, fun b' c' h1 h2 => htc b' c' ?_⟩⟩
      by_cases e : b' = b
      · exact .inr ⟨e, h2⟩
      · exact .inl ⟨by omega, h2⟩
  have hb : b = bl.length := by omega
  subst hb
  have hgetD : ∀ s : Nat, s ≤ d.nx.length → (d.ac ++ [-1]).getD s 0 = fA d s := fun s hs => by
    unfold fA
    rw [List.getD_eq_getElem?_getD, List.getD_eq_getElem?_getD, List.getElem?_eq_getElem (by rw [hlen1]; omega)]
    rfl
  have hsnd0 : HSnd d of := by
    refine ⟨fun s t hs ht e => ?_, fun s t hs ht e => ⟨[], by simp [okW], fun q => e ?_⟩⟩
    · have := (hof s t (by omega) (by omega)).1 e
      rwa [hgetD s hs, hgetD t ht] at this
    · refine (hof s t (by omega) (by omega)).2 ?_
      rw [hgetD s hs, hgetD t ht]
      exact q
  have hinv0 : HInv d of todo := fun s t c hs ht hc e hne => .inl (htc _ _ (by
    have := hP.lt (gI d s c) (by have := gI_le V hc (s := s); omega)
    exact this) (by omega))
  clear hof htc
  refine s_loop (fun f vs Γ => f ≤ 7000 ∧ ∃ (of : List Nat) (bl : List (List Nat)) (todo : List (Nat × Nat)) (vt : Value) (gt : PH) (Γ1 : Ctx), vs = [.v true vt] ∧ (N - bl.length) * C + todo.length = f ∧ Γ = gt :: Γ1 ∧ Bld gt (lk []) 259 vt todo ∧ PartW p bo N of bl Γ1 ∧ PrtN N of bl ∧
      (∀ x ∈ todo, x.1 < bl.length ∧ x.2 < C) ∧ HInv d of todo ∧ HSnd d of) ((N - bl.length) * C + todo.length)
    (Up.here ⟨by have := hmul (N - bl.length) C (by omega) (by omega); have := hmul bl.length C (by omega) (by omega); omega, of, bl, todo, vt, gt, Γ', rfl, rfl, rfl, hBt, hW, hP, htv, hinv0, hsnd0⟩) ?_
  clear hinv0 hsnd0 htl hBt hW hP htv hgp hgpm hΓ4 hcnt hbf hge
  rintro f vs Γ ⟨hf7, of, bl, todo, vt, gt, Γ1, rfl, hf, rfl, hBt, hW, hP, htv, hI, hSn⟩
  have hcnt := hP.count
  obtain ⟨Ab, cb, ⟨gpp, hgpm, hgp⟩, hΓ4, ⟨goo, hgom, hAo⟩, hSb⟩ := hW.get
  have hSb := hSb (by omega)
  have htodo : todo.length ≤ f := by omega
  obtain ⟨At, ct, et, hSt⟩ := hBt.slok (L' := lk [gt]) (Mem.le.refl _) (fun b o ⟨x, hx, _⟩ => by cases hx) (by omega)
  subst et
  simp -implicitDefEqProofs only [S162_10, go_sem, Nat.reduceBEq, Nat.reduceAdd, Nat.reduceSub, Nat.reduceMul, Nat.reduceLeDiff, reduceCtorEq, ↓reduceIte, Int.reduceLT, Int.reduceLE, Int.reduceEq, Int.reduceNe]
  refine ⟨fun hpos => ?_, fun hz => ?_⟩
  · have hpos : 0 < todo.length := by omega
    obtain ⟨todo0, ⟨D, c0⟩, htd⟩ : ∃ (t0 : List (Nat × Nat)) (x : Nat × Nat), todo = t0 ++ [x] := ⟨todo.dropLast, todo.getLast (by rintro rfl; simp at hpos), (List.dropLast_concat_getLast _).symm⟩
    have htl0 : todo.length = todo0.length + 1 := by rw [htd]; simp
    have hDc : D < bl.length ∧ c0 < C := htv (D, c0) (by rw [htd]; simp)
    have hx0 : todo[todo0.length]'(by omega) = (D, c0) := by simp [htd]
    obtain ⟨b1, o1, hAt, hcp⟩ := hSt.pr (i := todo0.length) (by omega)
    rw [hx0] at hcp
    simp only at hcp
    have hw1 : IntKind.i64.wrap ((todo.length : Int) - 1) = (todo0.length : Int) := by rw [wrap_id (by omega) (by omega)]; omega
    rw [hw1]
    refine s_idx hAt (by omega) (by omega) ?_
    simp -implicitDefEqProofs only [go_sem, Nat.reduceBEq, Nat.reduceAdd, Nat.reduceSub, Nat.reduceMul, Nat.reduceLeDiff, reduceCtorEq, ↓reduceIte, Int.reduceLT, Int.reduceLE, Int.reduceEq, Int.reduceNe]
    refine s_ld0 (by simpa using hcp _ (lk_sub fun g hg => by simp at hg; subst hg; simp)) (by simp) (by simp) ?_
    simp -implicitDefEqProofs only [go_sem, Nat.reduceBEq, Nat.reduceAdd, Nat.reduceSub, Nat.reduceMul, Nat.reduceLeDiff, reduceCtorEq, ↓reduceIte, Int.reduceLT, Int.reduceLE, Int.reduceEq, Int.reduceNe]
    intro b2
    refine s_hi todo0.length (by simp -implicitDefEqProofs only [go_sem, Nat.reduceBEq, Nat.reduceAdd, Nat.reduceSub, Nat.reduceMul, Nat.reduceLeDiff, reduceCtorEq, ↓reduceIte, Int.reduceLT, Int.reduceLE, Int.reduceEq, Int.reduceNe]; exact ⟨_, by rw [hw1]⟩) (by have := hSt.cap; omega) ?_
    simp -implicitDefEqProofs only [go_sem, Nat.reduceBEq, Nat.reduceAdd, Nat.reduceSub, Nat.reduceMul, Nat.reduceLeDiff, reduceCtorEq, ↓reduceIte, Int.reduceLT, Int.reduceLE, Int.reduceEq, Int.reduceNe]
    obtain ⟨b3, o3, hAb, A4, c4, hr4, hc4⟩ := hSb.list hDc.1
    have hgd : bl.getD D [] = bl[D] := by rw [List.getD_eq_getElem?_getD, List.getElem?_eq_getElem hDc.1]; rfl
    obtain ⟨Lb, hLb⟩ : ∃ Lb, Lb = bl.getD D [] := ⟨_, rfl⟩
    rw [← hgd, ← hLb] at hr4 hc4
    have hLbl : Lb.length ≤ N := by rw [hLb]; exact hP.short hDc.1
    have hLbm : ∀ x ∈ Lb, x < N := fun x hx => ((hP.mem D hDc.1 x).1 (by rw [← hLb]; exact hx)).1
    obtain ⟨b5, o5, hA3, A5, c5, hr5, hc5⟩ := h3.list (i := c0) (by omega)
    have hcolc : (prevF d)[c0]'(by omega) = colF d c0 N := by simp [prevF, hN]
    rw [hcolc] at hr5 hc5
    have hcoll : (colF d c0 N).length = N := by rw [colF_len, hN]
    rw [hcoll] at hc5
    refine s_ld (j := 1) (cells_lk ⟨gpp, by simp [hgpm], hgp⟩) (by simp) (by simp) ?_
    simp -implicitDefEqProofs only [go_sem, Nat.reduceBEq, Nat.reduceAdd, Nat.reduceSub, Nat.reduceMul, Nat.reduceLeDiff, reduceCtorEq, ↓reduceIte, Int.reduceLT, Int.reduceLE, Int.reduceEq, Int.reduceNe]
    refine s_idx hAb (by omega) (by omega) ?_
    simp -implicitDefEqProofs only [go_sem, Nat.reduceBEq, Nat.reduceAdd, Nat.reduceSub, Nat.reduceMul, Nat.reduceLeDiff, reduceCtorEq, ↓reduceIte, Int.reduceLT, Int.reduceLE, Int.reduceEq, Int.reduceNe]
    refine s_ld0 (hc4 _ (lk_sub fun g hg => by simp [hg])) (by simp) (by simp) ?_
    simp -implicitDefEqProofs only [go_sem, Nat.reduceBEq, Nat.reduceAdd, Nat.reduceSub, Nat.reduceMul, Nat.reduceLeDiff, reduceCtorEq, ↓reduceIte, Int.reduceLT, Int.reduceLE, Int.reduceEq, Int.reduceNe]
    refine s_loop (fun f vs Γ => ∃ (k : Nat) (vl : Value) (gl : PH), vs = [.v true vl, .v true (.int .i64 k)] ∧ k + f = Lb.length ∧ Γ = gl :: gt :: Γ1 ∧ Bld gl (lk []) 3 vl (preL d c0 (Lb.take k))) Lb.length
      (Up.emp (Up.here ⟨0, _, _, rfl, by omega, rfl, by simpa [preL] using Bld.nil _ _ _⟩)) ?_
    rintro f2 vs Γ ⟨k, vl, gl, rfl, hkf, rfl, hBl⟩
    have hpl2 := preL_len d c0 (Lb.take k)
    have hpl3 : (preL d c0 (Lb.take k)).length ≤ 201 * 201 := Nat.le_trans hpl2 (Nat.mul_le_mul (by simp; omega) (by omega))
    obtain ⟨Al, cl, rfl⟩ := hBl.val
    simp -implicitDefEqProofs only [S162_3, go_sem, Nat.reduceBEq, Nat.reduceAdd, Nat.reduceSub, Nat.reduceMul, Nat.reduceLeDiff, reduceCtorEq, ↓reduceIte, Int.reduceLT, Int.reduceLE, Int.reduceEq, Int.reduceNe]
    refine ⟨fun hlt2 => ?_, fun hge2 => ?_⟩
    · have hk : k < Lb.length := by omega
      obtain ⟨x, hx⟩ : ∃ x, x = Lb[k] := ⟨_, rfl⟩
      have hxN : x < N := hLbm x (hx ▸ List.getElem_mem hk)
      obtain ⟨b6, o6, hA4, hc6⟩ := hr4.nat hk
      rw [← hx] at hc6
      obtain ⟨b7, o7, hA5, A7, c7, hr7, hc7⟩ := hr5.list (i := x) (by omega)
      have hrow : (colF d c0 N)[x]'(by omega) = (List.range N).filter fun (s : Nat) => gI d s (c0 : Int) == x := colF_at d c0 N (by omega)
      rw [hrow] at hr7 hc7
      have htk : Lb.take (k + 1) = Lb.take k ++ [x] := by rw [hx]; exact List.take_succ_eq_append_getElem hk
      have hps := preL_snoc d c0 (Lb.take k) x
      rw [← htk, ← hN] at hps
      have hfl : ((List.range N).filter fun (s : Nat) => gI d s (c0 : Int) == x).length ≤ N := by
        have := List.length_filter_le (fun (s : Nat) => gI d s (c0 : Int) == x) (List.range N)
        simpa using this
      obtain ⟨fx, hfx⟩ : ∃ fx, fx = (List.range N).filter fun (s : Nat) => gI d s (c0 : Int) == x := ⟨_, rfl⟩
      rw [← hfx] at hr7 hc7 hps hfl
      refine s_idx hA4 (by omega) (by omega) ?_
      simp -implicitDefEqProofs only [go_sem, Nat.reduceBEq, Nat.reduceAdd, Nat.reduceSub, Nat.reduceMul, Nat.reduceLeDiff, reduceCtorEq, ↓reduceIte, Int.reduceLT, Int.reduceLE, Int.reduceEq, Int.reduceNe]
      refine s_ld0 (hc6 _ (lk_sub fun g hg => by simp [hg])) (by simp) (by simp) ?_
      simp -implicitDefEqProofs only [go_sem, Nat.reduceBEq, Nat.reduceAdd, Nat.reduceSub, Nat.reduceMul, Nat.reduceLeDiff, reduceCtorEq, ↓reduceIte, Int.reduceLT, Int.reduceLE, Int.reduceEq, Int.reduceNe]
      refine s_idx hA3 (by omega) (by omega) ?_
      simp -implicitDefEqProofs only [go_sem, Nat.reduceBEq, Nat.reduceAdd, Nat.reduceSub, Nat.reduceMul, Nat.reduceLeDiff, reduceCtorEq, ↓reduceIte, Int.reduceLT, Int.reduceLE, Int.reduceEq, Int.reduceNe]
      refine s_ld0 (hc5 _ (lk_r (gl :: gt :: Γ1) _)) (by simp) (by simp) ?_
      simp -implicitDefEqProofs only [go_sem, Nat.reduceBEq, Nat.reduceAdd, Nat.reduceSub, Nat.reduceMul, Nat.reduceLeDiff, reduceCtorEq, ↓reduceIte, Int.reduceLT, Int.reduceLE, Int.reduceEq, Int.reduceNe]
      refine s_idx hA5 (by omega) (by omega) ?_
      simp -implicitDefEqProofs only [go_sem, Nat.reduceBEq, Nat.reduceAdd, Nat.reduceSub, Nat.reduceMul, Nat.reduceLeDiff, reduceCtorEq, ↓reduceIte, Int.reduceLT, Int.reduceLE, Int.reduceEq, Int.reduceNe]
      refine s_ld0 (hc7 _ (lk_r (gl :: gt :: Γ1) _)) (by simp) (by simp) ?_
      simp -implicitDefEqProofs only [go_sem, Nat.reduceBEq, Nat.reduceAdd, Nat.reduceSub, Nat.reduceMul, Nat.reduceLeDiff, reduceCtorEq, ↓reduceIte, Int.reduceLT, Int.reduceLE, Int.reduceEq, Int.reduceNe]
      refine s_appS (α := Nat) (ix := 0) (L2 := lk Γr) rfl hBl hr7 rfl (lk_r (gl :: gt :: Γ1) _) rfl (by omega) (by unfold maxLen; omega) ?_
      intro vl' gl' hBl' _
      rw [← hps] at hBl'
      simp -implicitDefEqProofs only [go_sem, Nat.reduceBEq, Nat.reduceAdd, Nat.reduceSub, Nat.reduceMul, Nat.reduceLeDiff, reduceCtorEq, ↓reduceIte, Int.reduceLT, Int.reduceLE, Int.reduceEq, Int.reduceNe]
      simp (disch := omega) only [wrap_id]
      exact ⟨f2 - 1, by omega, Up.here ⟨k + 1, vl', gl', rfl, by omega, rfl, hBl'⟩⟩
    · have hk : k = Lb.length := by omega
      subst hk
      rw [List.take_length] at hBl hpl3 ⊢
      obtain ⟨Al2, cl2, el, hSl⟩ := hBl.slok (L' := lk [gl]) (Mem.le.refl _) (fun b o ⟨x, hx, _⟩ => by cases hx) (by omega)
      simp only [Value.slice.injEq, true_and] at el
      obtain ⟨rfl, rfl⟩ := el
      have hlm : ∀ s, s ≤ d.nx.length → (s ∈ preL d c0 Lb ↔ of.getD (gI d s c0) 0 = D) := fun s hs => by
        rw [preL_mem, hLb, hP.mem D hDc.1]
        have := gI_le V (s := s) (c := c0) (by omega)
        exact ⟨fun h => h.2.2, fun h => ⟨by omega, by omega, h⟩⟩
      refine CallVC.perm (Γm := Γ1) (Γf := [gl, gt]) (parts_split (Γr := [gl, gt] ++ Γr) hW hP (by omega) (hSl.mono (lk_sub fun g hg => by simp at hg; subst hg; simp)) (fun s hs => by have := (preL_mem.1 hs).1; omega) (by omega)) ?_ (List.Sublist.refl _) ?_
      · have := List.perm_append_comm (l₁ := [gl, gt]) (l₂ := Γ1)
        simpa using this
      rintro v Γ' ⟨Γ2, gq, of', bl', T, out, rfl, hW', hBq, hS, hT⟩
      have hcnt' := hS.prt.count
      have hcn := hS.cnt
      obtain ⟨Ab', cb', ⟨gp', hgpm', hgp'⟩, hΓ4', _, hSb'⟩ := hW'.get
      have hSb' := hSb' (by omega)
      have houtl : out.length ≤ N := by omega
      obtain ⟨Aq, cq, eq, hSq⟩ := hBq.slok (L' := lk [gq]) (Mem.le.refl _) (fun b o ⟨x, hx, _⟩ => by cases hx) (by omega)
      subst eq
      have hBt0 : Bld gt (lk []) 259 (.slice At todo0.length ct) todo0 := by
        have := hBt.take (k := todo0.length) (by omega)
        rwa [show todo.take todo0.length = todo0 from by rw [htd]; simp] at this
      have hsub0 : ∀ x ∈ todo0, x ∈ todo := fun x hx => by rw [htd]; simp [hx]
      simp -implicitDefEqProofs only [go_sem, Nat.reduceBEq, Nat.reduceAdd, Nat.reduceSub, Nat.reduceMul, Nat.reduceLeDiff, reduceCtorEq, ↓reduceIte, Int.reduceLT, Int.reduceLE, Int.reduceEq, Int.reduceNe]
      refine s_loop (fun f vs Γ => ∃ (j : Nat) (todo' : List (Nat × Nat)) (vt : Value) (gt : PH), vs = [.v true vt, .v true (.int .i64 j)] ∧ j + f = out.length ∧ Γ = gt :: gq :: Γ2 ∧ Bld gt (lk []) 259 vt todo' ∧ todo'.length = todo0.length + j * C ∧
          (∀ x ∈ todo', x.1 < bl'.length ∧ x.2 < C) ∧ (∀ x ∈ todo0, x ∈ todo') ∧ ∀ x ∈ out.take j, ∀ c, c < C → PP todo0 todo' x c) out.length
        (Up.perm (Γ' := gl :: gt :: gq :: Γ2) (by have := List.perm_append_comm (l₁ := gq :: Γ2) (l₂ := [gl, gt]); simpa using this) (Up.skip (Up.here ⟨0, todo0, _, gt, rfl, by omega, rfl, hBt0, by omega, fun x hx => by have := htv x (hsub0 x hx); omega, fun x hx => hx, by simp⟩))) ?_
      rintro f3 vs Γ ⟨j, todo', vt, gt, rfl, hjf, rfl, hBt', htl', htv', hts', htp'⟩
      simp -implicitDefEqProofs only [S162_9, go_sem, Nat.reduceBEq, Nat.reduceAdd, Nat.reduceSub, Nat.reduceMul, Nat.reduceLeDiff, reduceCtorEq, ↓reduceIte, Int.reduceLT, Int.reduceLE, Int.reduceEq, Int.reduceNe]
      refine ⟨fun hlt3 => ?_, fun hge3 => ?_⟩
      · have hj : j < out.length := by omega
        obtain ⟨x, hx⟩ : ∃ x, x = out[j] := ⟨_, rfl⟩
        have hxm : x ∈ out := hx ▸ List.getElem_mem hj
        have hxr := hS.rng x hxm
        obtain ⟨b6, o6, hAq, hc6⟩ := hSq.pr hj
        rw [← hx] at hc6
        refine s_idx hAq (by omega) (by omega) ?_
        simp -implicitDefEqProofs only [go_sem, Nat.reduceBEq, Nat.reduceAdd, Nat.reduceSub, Nat.reduceMul, Nat.reduceLeDiff, reduceCtorEq, ↓reduceIte, Int.reduceLT, Int.reduceLE, Int.reduceEq, Int.reduceNe]
        refine s_ld0 (by simpa using hc6 _ (lk_sub fun g hg => by simp at hg; subst hg; simp)) (by simp) (by simp) ?_
        simp -implicitDefEqProofs only [go_sem, Nat.reduceBEq, Nat.reduceAdd, Nat.reduceSub, Nat.reduceMul, Nat.reduceLeDiff, reduceCtorEq, ↓reduceIte, Int.reduceLT, Int.reduceLE, Int.reduceEq, Int.reduceNe]
        intro b7
        refine s_loop (fun f vs Γ => ∃ (c : Nat) (todo' : List (Nat × Nat)) (vt : Value) (gt : PH), vs = [.v true vt, .v true (.int .i64 c)] ∧ c + f = C ∧ Γ = gt :: gq :: Γ2 ∧ Bld gt (lk []) 259 vt todo' ∧ todo'.length = todo0.length + j * C + c ∧
            (∀ x ∈ todo', x.1 < bl'.length ∧ x.2 < C) ∧ (∀ x ∈ todo0, x ∈ todo') ∧ (∀ x ∈ out.take j, ∀ c, c < C → PP todo0 todo' x c) ∧ ∀ c', c' < c → PP todo0 todo' x c') C
          (Up.here ⟨0, todo', _, gt, rfl, by omega, rfl, hBt', by omega, htv', hts', htp', by intro c' h; omega⟩) ?_
        clear hBt' htl' htv' hts' htp'
        rintro f4 vs Γ ⟨c, todo', vt, gt, rfl, hcf, rfl, hBt', htl', htv', hts', htp', htq'⟩
        have hjC := hmul j C (by omega) (by omega)
        obtain ⟨At', ct', et, hSt'⟩ := hBt'.slok (L' := lk [gt]) (Mem.le.refl _) (fun b o ⟨x, hx, _⟩ => by cases hx) (by omega)
        subst et
        simp -implicitDefEqProofs only [S162_8, go_sem, Nat.reduceBEq, Nat.reduceAdd, Nat.reduceSub, Nat.reduceMul, Nat.reduceLeDiff, reduceCtorEq, ↓reduceIte, Int.reduceLT, Int.reduceLE, Int.reduceEq, Int.reduceNe]
        refine ⟨fun hlt4 => ?_, fun hge4 => ?_⟩
        · have hc : c < C := by omega
          refine s_split ?_
          simp -implicitDefEqProofs only [S162_6, S162_7, go_sem, Nat.reduceBEq, Nat.reduceAdd, Nat.reduceSub, Nat.reduceMul, Nat.reduceLeDiff, reduceCtorEq, ↓reduceIte, Int.reduceLT, Int.reduceLE, Int.reduceEq, Int.reduceNe]
          simp -implicitDefEqProofs only [idxAC, t1, go_sem, Nat.reduceBEq, Nat.reduceAdd, Nat.reduceSub, Nat.reduceMul, Nat.reduceLeDiff, reduceCtorEq, ↓reduceIte, Int.reduceLT, Int.reduceLE, Int.reduceEq, Int.reduceNe]
          refine s_join (fun vs Γ' => ∃ sm : Nat, vs = [.v true (.int .i64 (sm : Nat))] ∧ Γ' = gt :: gq :: Γ2 ∧ (sm = x.2 ∨ (sm = x.1 ∧ (x.1, c) ∉ todo'))) ?_ ?_
          · simp -implicitDefEqProofs only [S162_4, go_sem, Nat.reduceBEq, Nat.reduceAdd, Nat.reduceSub, Nat.reduceMul, Nat.reduceLeDiff, reduceCtorEq, ↓reduceIte, Int.reduceLT, Int.reduceLE, Int.reduceEq, Int.reduceNe]
            have t0 : Int.toNat 0 = 0 := rfl
            obtain ⟨b8, o8, hAb8, A8, c8, hr8, hc8⟩ := hSb'.list (i := x.1) (by omega)
            obtain ⟨b9, o9, hAb9, A9, c9, hr9, hc9⟩ := hSb'.list (i := x.2) (by omega)
            have hmem : Mem.le (lk Γ2) (lk ((gt :: gq :: Γ2) ++ Γr)) := lk_sub fun g hg => by simp [hg]
            refine s_ld (j := 1) (cells_lk ⟨gp', by simp [hgpm'], hgp'⟩) (by simp) (by simp) ?_
            simp -implicitDefEqProofs only [idxAC, t0, go_sem, Nat.reduceBEq, Nat.reduceAdd, Nat.reduceSub, Nat.reduceMul, Nat.reduceLeDiff, reduceCtorEq, ↓reduceIte, Int.reduceLT, Int.reduceLE, Int.reduceEq, Int.reduceNe]
            refine s_idx hAb8 (by omega) (by omega) ?_
            simp -implicitDefEqProofs only [go_sem, Nat.reduceBEq, Nat.reduceAdd, Nat.reduceSub, Nat.reduceMul, Nat.reduceLeDiff, reduceCtorEq, ↓reduceIte, Int.reduceLT, Int.reduceLE, Int.reduceEq, Int.reduceNe]
            refine s_ld0 (hc8 _ hmem) (by simp) (by simp) ?_
            simp -implicitDefEqProofs only [go_sem, Nat.reduceBEq, Nat.reduceAdd, Nat.reduceSub, Nat.reduceMul, Nat.reduceLeDiff, reduceCtorEq, ↓reduceIte, Int.reduceLT, Int.reduceLE, Int.reduceEq, Int.reduceNe]
            refine s_ld (j := 1) (cells_lk ⟨gp', by simp [hgpm'], hgp'⟩) (by simp) (by simp) ?_
            simp -implicitDefEqProofs only [idxAC, t1, go_sem, Nat.reduceBEq, Nat.reduceAdd, Nat.reduceSub, Nat.reduceMul, Nat.reduceLeDiff, reduceCtorEq, ↓reduceIte, Int.reduceLT, Int.reduceLE, Int.reduceEq, Int.reduceNe]
            refine s_idx hAb9 (by omega) (by omega) ?_
            simp -implicitDefEqProofs only [go_sem, Nat.reduceBEq, Nat.reduceAdd, Nat.reduceSub, Nat.reduceMul, Nat.reduceLeDiff, reduceCtorEq, ↓reduceIte, Int.reduceLT, Int.reduceLE, Int.reduceEq, Int.reduceNe]
            refine s_ld0 (hc9 _ hmem) (by simp) (by simp) ?_
            simp -implicitDefEqProofs only [idxAC, t0, go_sem, Nat.reduceBEq, Nat.reduceAdd, Nat.reduceSub, Nat.reduceMul, Nat.reduceLeDiff, reduceCtorEq, ↓reduceIte, Int.reduceLT, Int.reduceLE, Int.reduceEq, Int.reduceNe]
            by_cases hlen : (bl'[x.1].length : Int) < (bl'[x.2].length : Int)
            · refine And.intro (fun _ => ⟨hlen, ?_⟩) (fun h => absurd hlen (by simpa using h))
              have hd : decide ((bl'[x.1].length : Int) < (bl'[x.2].length : Int)) = true := decide_eq_true hlen
              simp only [hd]
              refine CallVC.read (contains_task (hSt'.mono (lk_sub fun g hg => by simp at hg; subst hg; simp)) (x.1, c)) ?_
              rintro v Γ' ⟨rfl, rfl⟩
              simp -implicitDefEqProofs only [idxAC, t0, go_sem, Nat.reduceBEq, Nat.reduceAdd, Nat.reduceSub, Nat.reduceMul, Nat.reduceLeDiff, reduceCtorEq, ↓reduceIte, Int.reduceLT, Int.reduceLE, Int.reduceEq, Int.reduceNe]
              exact ⟨fun h => Up.here ⟨x.1, rfl, rfl, .inr ⟨rfl, h⟩⟩, fun _ => Up.here ⟨x.2, rfl, rfl, .inl rfl⟩⟩
            · refine And.intro (fun h => absurd h hlen) (fun _ => ⟨.bool false, ?_⟩)
              have hd : decide ((bl'[x.1].length : Int) < (bl'[x.2].length : Int)) = false := decide_eq_false hlen
              simp only [hd]
              simp -implicitDefEqProofs only [idxAC, t0, go_sem, Nat.reduceBEq, Nat.reduceAdd, Nat.reduceSub, Nat.reduceMul, Nat.reduceLeDiff, reduceCtorEq, ↓reduceIte, Int.reduceLT, Int.reduceLE, Int.reduceEq, Int.reduceNe]
              exact Up.here ⟨x.2, rfl, rfl, .inl rfl⟩
          · rintro vs Γ' ⟨sm, rfl, rfl, hsm⟩
            simp -implicitDefEqProofs only [S162_5, go_sem, Nat.reduceBEq, Nat.reduceAdd, Nat.reduceSub, Nat.reduceMul, Nat.reduceLeDiff, reduceCtorEq, ↓reduceIte, Int.reduceLT, Int.reduceLE, Int.reduceEq, Int.reduceNe]
            intro b9
            refine s_app1 (α := Nat × Nat) (ix := 1) (L' := lk []) (x := (sm, c)) rfl hBt' (Mem.le.refl _) rfl cells_one rfl (by omega) (by unfold maxLen; omega) ?_
            intro vt' gt' hBt2 _
            simp -implicitDefEqProofs only [go_sem, Nat.reduceBEq, Nat.reduceAdd, Nat.reduceSub, Nat.reduceMul, Nat.reduceLeDiff, reduceCtorEq, ↓reduceIte, Int.reduceLT, Int.reduceLE, Int.reduceEq, Int.reduceNe]
            simp (disch := omega) only [wrap_id]
            refine Up.skip (Up.here ⟨f4 - 1, by omega, Up.here ⟨c + 1, todo' ++ [(sm, c)], vt', gt', rfl, by omega, rfl, hBt2, by simp; omega, fun y hy => ?_, fun y hy => List.mem_append_left _ (hts' y hy), fun y hy c' hc' => (htp' y hy c' hc').mono fun z hz => List.mem_append_left _ hz, fun c' hc' => ?_⟩⟩)
            · rcases List.mem_append.1 hy with hy | hy
              · exact htv' y hy
              · simp only [List.mem_singleton] at hy
                subst hy
                refine ⟨?_, hc⟩
                rcases hsm with rfl | ⟨rfl, _⟩ <;> simp only <;> omega
            · by_cases e : c' = c
              · subst e
                rcases hsm with rfl | ⟨rfl, h⟩
                · exact ⟨.inr (by simp), fun _ => by simp⟩
                · exact ⟨.inl (by simp), fun q => absurd (hts' _ q) h⟩
              · exact (htq' c' (by omega)).mono fun z hz => List.mem_append_left _ hz
        · simp (disch := omega) only [wrap_id]
          have hc : c = C := by omega
          rw [hc] at htl' htq'
          refine ⟨f3 - 1, by omega, Up.here ⟨j + 1, todo', _, gt, rfl, by omega, rfl, hBt', by rw [htl', Nat.add_mul, Nat.one_mul]; omega, htv', hts', fun y hy c' hc' => ?_⟩⟩
          rw [List.take_succ_eq_append_getElem hj, ← hx] at hy
          rcases List.mem_append.1 hy with hy | hy
          · exact htp' y hy c' hc'
          · simp only [List.mem_singleton] at hy; subst hy; exact htq' c' hc'
      · have hj : j = out.length := by omega
        rw [hj] at htl'
        rw [hj, List.take_length] at htp'
        have hm1 : (N - bl'.length) * C + out.length * C = (N - bl.length) * C := by
          rw [← Nat.add_mul]
          congr 1
          omega
        have h0 : ∀ s, s < d.nx.length + 1 → of.getD s 0 < bl.length := fun s hs => hP.lt s (by omega)
        have hS1 : Spl (d.nx.length + 1) (preL d c0 Lb) of bl.length T of' bl' out := by rw [← hN]; exact hS
        have hT1 : ∀ s, s < d.nx.length + 1 → s ∈ preL d c0 Lb → of.getD s 0 ∈ T := fun s hs => hT s (by omega)
        refine ⟨(N - bl'.length) * C + todo'.length, by omega, Up.perm (List.Perm.swap _ _ _) (Up.skip (Up.here ⟨by omega, of', bl', todo', vt, gt, Γ2, rfl, rfl, rfl, hBt', hW', hS.prt, htv', ?_, ?_⟩))⟩
        · refine HInv.next V hI (by omega) hlm hS1 h0 hT1 (todo0 := todo0) (fun y hy => ?_) hts' (fun y hy c' hc' => htp' y hy c' (by omega))
          rw [htd] at hy
          rcases List.mem_append.1 hy with hy | hy
          · exact .inr hy
          · simp only [List.mem_singleton] at hy; exact .inl hy
        · exact hSn.next V (by omega) hlm fun s t hs ht => hS1.iff h0 hT1 (by omega) (by omega)
  · have hz : todo = [] := List.eq_nil_of_length_eq_zero (by omega)
    rw [hz] at hI
    refine s_ld0 (cells_lk ⟨gpp, by simp [hgpm], hgp⟩) (by simp) (by simp) ?_
    simp -implicitDefEqProofs only [go_sem, Nat.reduceBEq, Nat.reduceAdd, Nat.reduceSub, Nat.reduceMul, Nat.reduceLeDiff, reduceCtorEq, ↓reduceIte, Int.reduceLT, Int.reduceLE, Int.reduceEq, Int.reduceNe]
    obtain ⟨gp, go, gb, gd, vb, hs, rfl, hgp2, hAo2, hBb, hHd⟩ := hW
    refine Up.sel [[2]] (by decide) fun _ _ => ?_
    subst hR
    exact ⟨_, bo, of, rfl, by rw [hN], hAo2, by rw [hP.len, hN], fun s hs => by have := hP.lt s (by omega); omega, fun s t hs ht => hI.done V hSn hs ht⟩
end Go.Proofs.Ytniobbepliknmaa.V
/- Canonical automata as plain law; no condition. -/
namespace Go.Proofs.Ytniobbepliknmaa.V
open Go
set_option linter.unusedVariables false
set_option linter.unusedSimpArgs false

/-- two states of two automata tell the same -/
def EqX (d : Da) (s : Nat) (e : Da) (t : Nat) : Prop := ∀ w, okW d w → tlN d s w = tlN e t w
theorem EqX.refl (d : Da) (s : Nat) : EqX d s d s := fun _ _ => rfl
theorem EqX.symm {d e : Da} {s t : Nat} (hc : colsD d = colsD e) (h : EqX d s e t) : EqX e t d s := fun w hw => (h w (by rw [okW, hc]; exact hw)).symm
theorem EqX.trans {d e f : Da} {s t u : Nat} (hc : colsD d = colsD e) (h : EqX d s e t) (h' : EqX e t f u) : EqX d s f u := fun w hw => (h w hw).trans (h' w (by rw [okW, ← hc]; exact hw))
theorem EqX.step {d e : Da} {s t : Nat} (h : EqX d s e t) {c : Nat} (hc : c < colsD d) : EqX d (gI d s c) e (gI e t c) := fun w hw => h ((c : Int) :: w) fun x hx => by
  rcases List.mem_cons.1 hx with rfl | hx
  · omega
  · exact hw x hx
theorem gI_dead (d : Da) (c : Int) : gI d d.nx.length c = d.nx.length := by unfold gI; rw [if_neg (by omega)]
theorem goN_dead (d : Da) : ∀ w, goN d d.nx.length w = d.nx.length
  | [] => rfl
  | c :: w => by show goN d (gI d d.nx.length c) w = _; rw [gI_dead]; exact goN_dead d w
theorem fA_dead {d : Da} (V : VD d) : fA d d.nx.length = -1 := by unfold fA; rw [← V.acc]; exact getD_append_at
theorem tlN_dead {d : Da} (V : VD d) (w : List Int) : tlN d d.nx.length w = -1 := by unfold tlN; rw [goN_dead, fA_dead V]
def DeadN (d : Da) (s : Nat) : Prop := ∀ w, okW d w → tlN d s w = -1
theorem dead_eq {d : Da} (V : VD d) {s : Nat} : EqX d s d d.nx.length ↔ DeadN d s := ⟨fun h w hw => by rw [h w hw, tlN_dead V], fun h w hw => by rw [h w hw, tlN_dead V]⟩
theorem DeadN.x {d e : Da} (hc : colsD d = colsD e) {s t : Nat} (h : EqX d s e t) : DeadN d s ↔ DeadN e t :=
  ⟨fun q w hw => by rw [← h w (by rw [okW, hc]; exact hw)]; exact q w (by rw [okW, hc]; exact hw), fun q w hw => by rw [h w hw]; exact q w (by rw [okW, ← hc]; exact hw)⟩

/-- a breadth first search as it goes: the states found, the rows that are done, the row in work -/
inductive Bfs (d : Da) : List Nat → List (List Int) → List Int → Prop where
  | init : Bfs d [d.st.toNat] [] []
  | skip {R : List Nat} {rows : List (List Int)} {row : List Int} {s : Nat} : Bfs d R rows row → R[rows.length]? = some s → row.length < colsD d → DeadN d (gI d s row.length) → Bfs d R rows (row ++ [-1])
  | seen {R : List Nat} {rows : List (List Int)} {row : List Int} {s j t : Nat} : Bfs d R rows row → R[rows.length]? = some s → row.length < colsD d → ¬ DeadN d (gI d s row.length) → R[j]? = some t → EqX d (gI d s row.length) d t → Bfs d R rows (row ++ [(j : Int)])
  | new {R : List Nat} {rows : List (List Int)} {row : List Int} {s : Nat} : Bfs d R rows row → R[rows.length]? = some s → row.length < colsD d → ¬ DeadN d (gI d s row.length) → (∀ t ∈ R, ¬ EqX d (gI d s row.length) d t) → Bfs d (R ++ [gI d s row.length]) rows (row ++ [(R.length : Int)])
  | next {R : List Nat} {rows : List (List Int)} {row : List Int} : Bfs d R rows row → row.length = colsD d → Bfs d R (rows ++ [row]) []

/-- what such a search has found -/
structure BfsI (d : Da) (R : List Nat) (rows : List (List Int)) (row : List Int) : Prop where
  st : R[0]? = some d.st.toNat
  le : ∀ s ∈ R, s ≤ d.nx.length
  dif : ∀ i j s t : Nat, R[i]? = some s → R[j]? = some t → EqX d s d t → i = j
  live : (∀ s ∈ R, ¬ DeadN d s) ∨ R.length = 1
  len : rows.length ≤ R.length
  cols : ∀ r ∈ rows, r.length = colsD d
  rowl : row.length ≤ colsD d
  pos : 0 < row.length → rows.length < R.length
  edge : ∀ (p c s : Nat) (x : Int), R[p]? = some s → ((∃ r, rows[p]? = some r ∧ r[c]? = some x) ∨ (p = rows.length ∧ row[c]? = some x)) → (x = -1 ∧ DeadN d (gI d s c)) ∨ ∃ (j : Nat) (t : Nat), x = j ∧ R[j]? = some t ∧ EqX d (gI d s c) d t
theorem app_get {α : Type} {l : List α} {y x : α} {i : Nat} (h : (l ++ [y])[i]? = some x) : l[i]? = some x ∨ (i = l.length ∧ x = y) := by
  rcases Nat.lt_trichotomy i l.length with q | q | q
  · rw [List.getElem?_append_left q] at h; exact .inl h
  · subst q
    simp at h
    exact .inr ⟨rfl, h.symm⟩
  · rw [List.getElem?_eq_none (by simp; omega)] at h; cases h
theorem getq_mono {α : Type} {l : List α} {y x : α} {i : Nat} (h : l[i]? = some x) : (l ++ [y])[i]? = some x := by
  rw [List.getElem?_append_left (List.getElem?_eq_some_iff.1 h).1]; exact h
theorem Bfs.inv {d : Da} (V : VD d) {R : List Nat} {rows : List (List Int)} {row : List Int} (h : Bfs d R rows row) : BfsI d R rows row := by
  induction h with
  | init =>
    have hst := V.st
    refine ⟨rfl, by simp; omega, fun i j s t h1 h2 _ => ?_, .inr rfl, by simp, by simp, by simp, by simp, fun p c s x h1 h2 => ?_⟩
    · have := (List.getElem?_eq_some_iff.1 h1).1
      have := (List.getElem?_eq_some_iff.1 h2).1
      simp at *
      omega
    · rcases h2 with ⟨r, q, _⟩ | ⟨_, q⟩ <;> simp at q
  | @skip R rows row s h hs hc hd ih =>
    have hp := (List.getElem?_eq_some_iff.1 hs).1
    refine ⟨ih.st, ih.le, ih.dif, ih.live, ih.len, ih.cols, by simp; omega, fun _ => hp, fun p c s' x h1 h2 => ?_⟩
    rcases h2 with h2 | ⟨rfl, h2⟩
    · exact ih.edge p c s' x h1 (.inl h2)
    · rcases app_get h2 with h2 | ⟨rfl, rfl⟩
      · exact ih.edge _ c s' x h1 (.inr ⟨rfl, h2⟩)
      · rw [hs] at h1; cases h1
        exact .inl ⟨rfl, hd⟩
  | @seen R rows row s j t h hs hc hd hj he ih =>
    have hp := (List.getElem?_eq_some_iff.1 hs).1
    refine ⟨ih.st, ih.le, ih.dif, ih.live, ih.len, ih.cols, by simp; omega, fun _ => hp, fun p c s' x h1 h2 => ?_⟩
    rcases h2 with h2 | ⟨rfl, h2⟩
    · exact ih.edge p c s' x h1 (.inl h2)
    · rcases app_get h2 with h2 | ⟨rfl, rfl⟩
      · exact ih.edge _ c s' x h1 (.inr ⟨rfl, h2⟩)
      · rw [hs] at h1; cases h1
        exact .inr ⟨j, t, rfl, hj, he⟩
  | @new R rows row s h hs hc hd hn ih =>
    have hp := (List.getElem?_eq_some_iff.1 hs).1
    have hlen := ih.len
    refine ⟨getq_mono ih.st, fun u hu => ?_, fun i j u v h1 h2 he => ?_, ?_, by simp; omega, ih.cols, by simp; omega, fun _ => by simp; omega, fun p c s' x h1 h2 => ?_⟩
    · rcases List.mem_append.1 hu with hu | hu
      · exact ih.le u hu
      · simp at hu; subst hu; exact gI_le V hc
    · rcases app_get h1 with h1 | ⟨rfl, rfl⟩ <;> rcases app_get h2 with h2 | ⟨rfl, rfl⟩
      · exact ih.dif i j u v h1 h2 he
      · exact absurd (EqX.symm rfl he) (hn u (List.mem_of_getElem? h1))
      · exact absurd he (hn v (List.mem_of_getElem? h2))
      · rfl
    · rcases ih.live with q | q
      · left
        intro u hu
        rcases List.mem_append.1 hu with hu | hu
        · exact q u hu
        · simp at hu; subst hu; exact hd
      · left
        obtain ⟨r0, rfl⟩ := List.length_eq_one_iff.1 q
        have hr0 : rows.length = 0 := by simp at hp; exact List.length_eq_zero_iff.2 hp
        rw [hr0] at hs
        simp at hs
        subst hs
        intro u hu
        simp at hu
        rcases hu with rfl | rfl
        · intro q'
          apply hd
          intro w hw
          exact q' ((row.length : Int) :: w) fun x hx => by
            rcases List.mem_cons.1 hx with rfl | hx
            · omega
            · exact hw x hx
        · exact hd
    · have hps : p < R.length := by
        rcases h2 with ⟨r, h2, _⟩ | ⟨rfl, _⟩
        · have := (List.getElem?_eq_some_iff.1 h2).1; omega
        · exact hp
      rw [List.getElem?_append_left hps] at h1
      rcases h2 with h2 | ⟨rfl, h2⟩
      · rcases ih.edge p c s' x h1 (.inl h2) with q | ⟨j, t, q1, q2, q3⟩
        · exact .inl q
        · exact .inr ⟨j, t, q1, getq_mono q2, q3⟩
      · rcases app_get h2 with h2 | ⟨rfl, rfl⟩
        · rcases ih.edge _ c s' x h1 (.inr ⟨rfl, h2⟩) with q | ⟨j, t, q1, q2, q3⟩
          · exact .inl q
          · exact .inr ⟨j, t, q1, getq_mono q2, q3⟩
        · rw [hs] at h1; cases h1
          exact .inr ⟨R.length, _, rfl, by simp, EqX.refl _ _⟩
  | @next R rows row h hr ih =>
    have hcols := V.cols
    refine ⟨ih.st, ih.le, ih.dif, ih.live, by have := ih.pos (by omega); simp; omega, fun r hr' => ?_, by simp, by simp, fun p c s' x h1 h2 => ?_⟩
    · rcases List.mem_append.1 hr' with hr' | hr'
      · exact ih.cols r hr'
      · simp at hr'; subst hr'; exact hr
    · rcases h2 with ⟨r, h2, h3⟩ | ⟨_, h2⟩
      · rcases app_get h2 with h2 | ⟨rfl, rfl⟩
        · exact ih.edge p c s' x h1 (.inl ⟨r, h2, h3⟩)
        · exact ih.edge _ c s' x h1 (.inr ⟨rfl, h3⟩)
      · simp at h2
/-- the way to a row -/
theorem Bfs.prev {d : Da} (V : VD d) {R : List Nat} {rows : List (List Int)} {row : List Int} (h : Bfs d R rows row) : ∀ p, p < rows.length → ∃ R', Bfs d R' (rows.take p) [] ∧ p < R'.length := by
  have base : ∀ {R : List Nat} {rows : List (List Int)} {row : List Int}, Bfs d R rows row → ∃ R', Bfs d R' rows [] ∧ (0 < row.length → rows.length < R'.length) := fun {R rows row} h => by
    induction h with
    | init => exact ⟨_, .init, by simp⟩
    | @skip R rows row s h hs hc hd ih =>
      obtain ⟨R', h1, h2⟩ := ih
      by_cases q : 0 < row.length
      · exact ⟨R', h1, fun _ => h2 q⟩
      · have : row = [] := List.eq_nil_of_length_eq_zero (by omega)
        subst this
        exact ⟨R, h, fun _ => (List.getElem?_eq_some_iff.1 hs).1⟩
    | @seen R rows row s j t h hs hc hd hj he ih =>
      obtain ⟨R', h1, h2⟩ := ih
      by_cases q : 0 < row.length
      · exact ⟨R', h1, fun _ => h2 q⟩
      · have : row = [] := List.eq_nil_of_length_eq_zero (by omega)
        subst this
        exact ⟨R, h, fun _ => (List.getElem?_eq_some_iff.1 hs).1⟩
    | @new R rows row s h hs hc hd hn ih =>
      obtain ⟨R', h1, h2⟩ := ih
      by_cases q : 0 < row.length
      · exact ⟨R', h1, fun _ => h2 q⟩
      · have : row = [] := List.eq_nil_of_length_eq_zero (by omega)
        subst this
        exact ⟨R, h, fun _ => (List.getElem?_eq_some_iff.1 hs).1⟩
    | @next R rows row h hr ih => exact ⟨R, .next h hr, by simp⟩
  induction h with
  | init => intro p hp; simp at hp
  | skip h hs hc hd ih => exact ih
  | seen h hs hc hd hj he ih => exact ih
  | new h hs hc hd hn ih => exact ih
  | @next R rows row h hr ih =>
    intro p hp
    by_cases q : p < rows.length
    · rw [List.take_append_of_le_length (by omega)]; exact ih p q
    · have : p = rows.length := by simp at hp; omega
      subst this
      obtain ⟨R', h1, h2⟩ := base h
      have := V.cols
      exact ⟨R', by simpa using h1, h2 (by omega)⟩
/-- two such searches go alike -/
theorem Bfs.det {d e : Da} (V : VD d) (W : VD e) (hc : colsD d = colsD e) (h0 : EqX d d.st.toNat e e.st.toNat) {R : List Nat} {rows : List (List Int)} {row : List Int} (h : Bfs d R rows row) :
    ∀ {R' : List Nat} {rows' : List (List Int)} {row' : List Int}, Bfs e R' rows' row' → rows.length = rows'.length → row.length = row'.length →
    rows = rows' ∧ row = row' ∧ R.length = R'.length ∧ ∀ i s t : Nat, R[i]? = some s → R'[i]? = some t → EqX d s e t := by
  induction h with
  | init =>
    intro R' rows' row' h' h1 h2
    cases h' with
    | init =>
      refine ⟨rfl, rfl, rfl, fun i s t q1 q2 => ?_⟩
      have : i = 0 := by have := (List.getElem?_eq_some_iff.1 q1).1; simp at this; exact this
      subst this
      simp at q1 q2
      subst q1 q2
      exact h0
    | skip => simp at h2
    | seen => simp at h2
    | new => simp at h2
    | next => simp at h1
  | @skip R rows row s h hs hk hd ih =>
    intro R' rows' row' h' h1 h2
    cases h' with
    | init => simp at h2
    | next => simp at h2
    | @skip R' rows' row' s' h' hs' hk' hd' =>
      obtain ⟨e1, e2, e3, e4⟩ := ih h' h1 (by simpa using h2)
      exact ⟨e1, by rw [e2], e3, e4⟩
    | @seen R' rows' row' s' j t h' hs' hk' hd' =>
      obtain ⟨e1, e2, e3, e4⟩ := ih h' h1 (by simpa using h2)
      rw [h1] at hs
      rw [e2] at hd hk
      exact absurd ((DeadN.x hc ((e4 _ _ _ hs hs').step hk)).1 hd) hd'
    | @new R' rows' row' s' h' hs' hk' hd' =>
      obtain ⟨e1, e2, e3, e4⟩ := ih h' h1 (by simpa using h2)
      rw [h1] at hs
      rw [e2] at hd hk
      exact absurd ((DeadN.x hc ((e4 _ _ _ hs hs').step hk)).1 hd) hd'
  | @seen R rows row s j t h hs hk hd hj he ih =>
    intro R' rows' row' h' h1 h2
    cases h' with
    | init => simp at h2
    | next => simp at h2
    | @skip R' rows' row' s' h' hs' hk' hd' =>
      obtain ⟨e1, e2, e3, e4⟩ := ih h' h1 (by simpa using h2)
      rw [h1] at hs
      rw [e2] at hd hk
      exact absurd ((DeadN.x hc ((e4 _ _ _ hs hs').step hk)).2 hd') hd
    | @seen R' rows' row' s' j' t' h' hs' hk' hd' hj' he' =>
      obtain ⟨e1, e2, e3, e4⟩ := ih h' h1 (by simpa using h2)
      have hs2 := hs
      rw [h1] at hs
      rw [e2] at he hk
      have hst := (e4 _ _ _ hs hs').step hk
      have hjl : j < R'.length := by rw [← e3]; exact (List.getElem?_eq_some_iff.1 hj).1
      have ht2 := e4 j _ _ hj (List.getElem?_eq_getElem hjl)
      have h3 : EqX e R'[j] e t' := (EqX.symm hc ht2).trans hc.symm ((EqX.symm rfl he).trans rfl (hst.trans hc he'))
      have := (h'.inv W).dif j j' _ _ (List.getElem?_eq_getElem hjl) hj' h3
      subst this
      exact ⟨e1, by rw [e2], e3, e4⟩
    | @new R' rows' row' s' h' hs' hk' hd' hn' =>
      obtain ⟨e1, e2, e3, e4⟩ := ih h' h1 (by simpa using h2)
      rw [h1] at hs
      rw [e2] at he hk
      have hst := (e4 _ _ _ hs hs').step hk
      have hjl : j < R'.length := by rw [← e3]; exact (List.getElem?_eq_some_iff.1 hj).1
      have ht2 := e4 j _ _ hj (List.getElem?_eq_getElem hjl)
      exact absurd ((EqX.symm hc hst).trans hc.symm (he.trans rfl ht2)) (hn' _ (List.getElem_mem hjl))
  | @new R rows row s h hs hk hd hn ih =>
    intro R' rows' row' h' h1 h2
    cases h' with
    | init => simp at h2
    | next => simp at h2
    | @skip R' rows' row' s' h' hs' hk' hd' =>
      obtain ⟨e1, e2, e3, e4⟩ := ih h' h1 (by simpa using h2)
      rw [h1] at hs
      rw [e2] at hd hk
      exact absurd ((DeadN.x hc ((e4 _ _ _ hs hs').step hk)).2 hd') hd
    | @seen R' rows' row' s' j' t' h' hs' hk' hd' hj' he' =>
      obtain ⟨e1, e2, e3, e4⟩ := ih h' h1 (by simpa using h2)
      rw [h1] at hs
      rw [e2] at hn hk
      have hst := (e4 _ _ _ hs hs').step hk
      have hjl : j' < R.length := by rw [e3]; exact (List.getElem?_eq_some_iff.1 hj').1
      have ht2 := e4 j' _ _ (List.getElem?_eq_getElem hjl) hj'
      exact absurd (hst.trans hc (he'.trans rfl (EqX.symm hc ht2))) (hn _ (List.getElem_mem hjl))
    | @new R' rows' row' s' h' hs' hk' hd' hn' =>
      obtain ⟨e1, e2, e3, e4⟩ := ih h' h1 (by simpa using h2)
      have hs2 := hs
      rw [h1] at hs
      have hk2 := hk
      rw [e2] at hk
      have hst := (e4 _ _ _ hs hs').step hk
      refine ⟨e1, by rw [e2, e3], by simp [e3], fun i u v q1 q2 => ?_⟩
      rcases app_get q1 with q1 | ⟨rfl, rfl⟩
      · rcases app_get q2 with q2 | ⟨rfl, rfl⟩
        · exact e4 i u v q1 q2
        · have := (List.getElem?_eq_some_iff.1 q1).1; omega
      · rcases app_get q2 with q2 | ⟨_, rfl⟩
        · have := (List.getElem?_eq_some_iff.1 q2).1; omega
        · rw [e2]; exact hst
  | @next R rows row h hr ih =>
    intro R' rows' row' h' h1 h2
    cases h' with
    | init => simp at h1
    | skip => simp at h2
    | seen => simp at h2
    | new => simp at h2
    | @next R' rows' row' h' hr' =>
      obtain ⟨e1, e2, e3, e4⟩ := ih h' (by simpa using h1) (by omega)
      exact ⟨by rw [e1, e2], rfl, e3, e4⟩
/-- m is the canonical automaton that tells the same as d -/
def MinS (d m : Da) : Prop := ∃ R, Bfs d R m.nx [] ∧ m.nx.length = R.length ∧ m.st = 0 ∧ m.ac = R.map (fA d)
theorem MinS.uniq {d e m n : Da} (V : VD d) (W : VD e) (hc : colsD d = colsD e) (h0 : EqX d d.st.toNat e e.st.toNat) (h : MinS d m) (h' : MinS e n) : m = n := by
  obtain ⟨R, h1, h2, h3, h4⟩ := h
  obtain ⟨R', h1', h2', h3', h4'⟩ := h'
  have hlen : m.nx.length = n.nx.length := by
    rcases Nat.lt_trichotomy m.nx.length n.nx.length with q | q | q
    · obtain ⟨R2, q1, q2⟩ := h1'.prev W _ q
      have := (Bfs.det V W hc h0 h1 q1 (by simp; omega) rfl).2.2.1
      omega
    · exact q
    · obtain ⟨R2, q1, q2⟩ := h1.prev V _ q
      have := (Bfs.det V W hc h0 q1 h1' (by simp; omega) rfl).2.2.1
      omega
  obtain ⟨e1, _, e3, e4⟩ := Bfs.det V W hc h0 h1 h1' hlen rfl
  obtain ⟨ms, ma, mn⟩ := m
  obtain ⟨ns, na, nn⟩ := n
  simp only at *
  subst h3 h3' e1 h4 h4'
  congr 1
  apply List.ext_getElem?
  intro i
  rw [List.getElem?_map, List.getElem?_map]
  by_cases hi : i < R.length
  · have hi' : i < R'.length := by omega
    rw [List.getElem?_eq_getElem hi, List.getElem?_eq_getElem hi']
    have := e4 i _ _ (List.getElem?_eq_getElem hi) (List.getElem?_eq_getElem hi') [] (by simp [okW])
    simp only [Option.map_some]
    exact congrArg some this
  · rw [List.getElem?_eq_none (by omega), List.getElem?_eq_none (by omega)]
    rfl
theorem MinS.valid {d m : Da} (V : VD d) (h : MinS d m) : VD m ∧ colsD m = colsD d ∧ ∀ w, okW d w → tlN m 0 w = tlN d d.st.toNat w := by
  obtain ⟨R, h1, h2, h3, h4⟩ := h
  have I := h1.inv V
  have hst := V.st
  have hcols := V.cols
  have hpos : 0 < R.length := (List.getElem?_eq_some_iff.1 I.st).1
  have hR : R.length ≤ d.nx.length := by
    rcases I.live with q | q
    · have hnd : (d.nx.length :: R).Nodup := by
        rw [List.nodup_cons]
        refine ⟨fun hq => q _ hq ((dead_eq V).1 (EqX.refl _ _)), ?_⟩
        rw [List.Nodup, List.pairwise_iff_getElem]
        intro i j hi hj hij e
        have := I.dif i j _ _ (List.getElem?_eq_getElem hi) (List.getElem?_eq_getElem hj) (by rw [e]; exact EqX.refl _ _)
        omega
      have := nodup_bound (d.nx.length + 1) _ hnd (fun x hx => by
        rcases List.mem_cons.1 hx with rfl | hx
        · omega
        · have := I.le x hx; omega)
      simp at this
      omega
    · have := V.len; omega
  have hcm : colsD m = colsD d := by
    unfold colsD
    have := I.cols
    cases hm : m.nx with
    | nil => rw [hm] at h2; simp at h2; omega
    | cons r l => exact this r (by rw [hm]; simp)
  have hedge : ∀ p c : Nat, p < m.nx.length → c < colsD d → ∃ (s : Nat) (x : Int), R[p]? = some s ∧ (∃ r, m.nx[p]? = some r ∧ r[c]? = some x) ∧ ((x = -1 ∧ DeadN d (gI d s c)) ∨ ∃ (j : Nat) (t : Nat), x = j ∧ R[j]? = some t ∧ EqX d (gI d s c) d t) := fun p c hp hc => by
    have hr : m.nx[p].length = colsD d := I.cols _ (List.getElem_mem hp)
    refine ⟨_, _, List.getElem?_eq_getElem (by omega), ⟨_, List.getElem?_eq_getElem hp, List.getElem?_eq_getElem (i := c) (by omega)⟩, I.edge p c _ _ (List.getElem?_eq_getElem (by omega)) (.inl ⟨_, List.getElem?_eq_getElem hp, List.getElem?_eq_getElem _⟩)⟩
  have Vm : VD m := by
    have hl := V.len
    refine ⟨by omega, by rw [h4]; simp; omega, by omega, fun r hr => by rw [hcm]; exact I.cols r hr, by omega, fun x hx => ?_, fun r hr t ht => ?_⟩
    · rw [h4] at hx
      obtain ⟨s, hs, rfl⟩ := List.mem_map.1 hx
      unfold fA
      rw [List.getD_eq_getElem?_getD]
      cases hq : (d.ac ++ [-1])[s]? with
      | none => simp
      | some y =>
        have := List.mem_of_getElem? hq
        simp only [Option.getD_some]
        rcases List.mem_append.1 this with q | q
        · exact V.ac y q
        · simp at q; omega
    · obtain ⟨p, hp, rfl⟩ := List.getElem_of_mem hr
      obtain ⟨c, hc, rfl⟩ := List.getElem_of_mem ht
      have hr' : m.nx[p].length = colsD d := I.cols _ hr
      rcases hedge p c hp (by omega) with ⟨s, x, q1, ⟨r, q2, q3⟩, q4⟩
      rw [List.getElem?_eq_getElem hp] at q2
      cases q2
      rw [List.getElem?_eq_getElem hc] at q3
      cases q3
      rcases q4 with ⟨q, _⟩ | ⟨j, u, q, q', _⟩
      · omega
      · have := (List.getElem?_eq_some_iff.1 q').1
        omega
  refine ⟨Vm, hcm, ?_⟩
  -- a state of m tells what its state of d tells; the dead state likewise
  have key : ∀ (w : List Int) (p s : Nat), okW d w → ((R[p]? = some s) ∨ (p = m.nx.length ∧ DeadN d s)) → tlN m p w = tlN d s w := by
    intro w
    induction w with
    | nil =>
      intro p s hw hp
      rcases hp with hp | ⟨rfl, hd⟩
      · have hl := (List.getElem?_eq_some_iff.1 hp).1
        show fA m p = fA d s
        unfold fA
        rw [getD_append_l (by rw [h4]; simpa using hl), h4, List.getD_eq_getElem?_getD, List.getElem?_map, hp]
        rfl
      · rw [tlN_dead Vm, hd [] hw]
    | cons c w ih =>
      intro p s hw hp
      have hc := hw c (by simp)
      have hw' : okW d w := fun x hx => hw x (by simp [hx])
      obtain ⟨k, rfl⟩ : ∃ k : Nat, c = k := ⟨c.toNat, by omega⟩
      rcases hp with hp | ⟨rfl, hd⟩
      · have hl := (List.getElem?_eq_some_iff.1 hp).1
        rw [tlN_cons, tlN_cons]
        obtain ⟨s', x, q1, ⟨r, q2, q3⟩, q4⟩ := hedge p k (by omega) (by omega)
        rw [hp] at q1
        cases q1
        have hsx : stepD m p k = x := by
          unfold stepD
          simp [List.getD_eq_getElem?_getD, q2, q3]
        rcases q4 with ⟨rfl, q⟩ | ⟨j, t, rfl, q, q'⟩
        · refine ih _ _ hw' (.inr ⟨?_, q⟩)
          unfold gI
          rw [if_neg (by omega)]
        · have hj := (List.getElem?_eq_some_iff.1 q).1
          have : gI m p k = j := by
            unfold gI
            rw [if_pos ⟨by omega, by omega⟩, hsx]
            simp
          rw [this, q' w hw']
          exact ih _ _ hw' (.inl q)
      · rw [tlN_dead Vm, hd _ hw]
  intro w hw
  exact key w 0 _ hw (.inl I.st)
end Go.Proofs.Ytniobbepliknmaa.V
/- The text of parlance/mini.Min as a statement (slots: 0 d, 1 d, 4 e, 5 f, 6 of, 7 dead, 8 number, 9 out, 10 todo, 11 row, 12 c, 13 t, 14 b, 15 _, 16 ok); no condition. -/
namespace Go.Proofs.Ytniobbepliknmaa.V
open Go
def S97_1 : Stmt :=
  Stmt.seq
  (Stmt.region
    [SOper.mk (some 77) none (SOp.mv (Operand.tmp 8)), SOper.mk (some 78) none (SOp.mv (Operand.tmp 14)),
      SOper.mk (some 79) none (SOp.q (Qk.look 207 true) [Operand.tmp 77, Operand.tmp 78]),
      SOper.mk (some 76) none (SOp.mv (Operand.tmp 79)), SOper.mk (some 80) none (SOp.extract 0 (Operand.tmp 76)),
      SOper.mk (some 81) none (SOp.extract 1 (Operand.tmp 76)), SOper.mk (some 15) none (SOp.mv (Operand.tmp 80)),
      SOper.mk (some 16) none (SOp.mv (Operand.tmp 81))]
    [1, 2, 5, 6, 7, 8, 9, 10, 11, 12, 13, 14, 16, 62, 63, 64])
  (Stmt.seq
    (Stmt.region
      [SOper.mk (some 82) none (SOp.mv (Operand.tmp 16)), SOper.mk (some 83) none (SOp.un UnOp.not (Operand.tmp 82))]
      [1, 2, 5, 6, 7, 8, 9, 10, 11, 12, 13, 14, 62, 63, 64, 83])
    (Stmt.cond (Operand.tmp 83)
      (Stmt.seq
        (Stmt.region
          [SOper.mk (some 84) none (SOp.mv (Operand.tmp 8)), SOper.mk (some 85) none (SOp.mv (Operand.tmp 14)),
            SOper.mk (some 86) none (SOp.mv (Operand.tmp 8)),
            SOper.mk (some 87) none (SOp.q (Qk.bi 4 [207]) [Operand.tmp 86]),
            SOper.mk none none (SOp.a (Qk.upd 207) [Operand.tmp 84, Operand.tmp 85, Operand.tmp 87])]
          [1, 2, 5, 6, 7, 8, 9, 10, 11, 12, 13, 14, 62, 63, 64])
        (Stmt.region
          [SOper.mk (some 88) none (SOp.mv (Operand.tmp 10)), SOper.mk (some 89) none (SOp.mv (Operand.tmp 13)),
            SOper.mk (some 90) none (SOp.buildS 3 1 [Value.int IntKind.i64 0] [(0, 1, Operand.tmp 89)]),
            SOper.mk (some 91) none (SOp.append 29 3 1 8 (Value.int IntKind.i64 0) (Operand.tmp 88) (Operand.tmp 90)),
            SOper.mk (some 10) none (SOp.mv (Operand.tmp 91))]
          [1, 2, 5, 6, 7, 8, 9, 10, 11, 12, 14, 62, 63, 64]))
      Stmt.skip))
def S97_2 : Stmt :=
  Stmt.region
  [SOper.mk (some 92) none (SOp.mv (Operand.tmp 11)), SOper.mk (some 93) none (SOp.mv (Operand.tmp 12)),
    SOper.mk (some 94) none (SOp.mv (Operand.tmp 8)), SOper.mk (some 95) none (SOp.mv (Operand.tmp 14)),
    SOper.mk (some 96) none (SOp.q (Qk.look 207 false) [Operand.tmp 94, Operand.tmp 95]),
    SOper.mk (some 97) none (SOp.idx 1 (Operand.tmp 92) (Operand.tmp 93)),
    SOper.mk none none (SOp.store 1 (Operand.tmp 97) (Operand.tmp 96))]
  [1, 2, 5, 6, 7, 8, 9, 10, 11, 62, 63, 64]
def S97_3 : Stmt :=
  Stmt.block 3
  (Stmt.seq
    (Stmt.region
      [SOper.mk (some 66) none (SOp.mv (Operand.tmp 64)),
        SOper.mk (some 67) none (SOp.idx 1 (Operand.tmp 62) (Operand.tmp 64)),
        SOper.mk (some 68) none (SOp.load false 1 (Operand.tmp 67)), SOper.mk (some 12) none (SOp.mv (Operand.tmp 66)),
        SOper.mk (some 13) none (SOp.mv (Operand.tmp 68))]
      [1, 2, 5, 6, 7, 8, 9, 10, 11, 12, 13, 62, 63, 64])
    (Stmt.seq
      (Stmt.region
        [SOper.mk (some 69) none (SOp.mv (Operand.tmp 6)), SOper.mk (some 70) none (SOp.mv (Operand.tmp 13)),
          SOper.mk (some 71) none (SOp.idx 1 (Operand.tmp 69) (Operand.tmp 70)),
          SOper.mk (some 72) none (SOp.load false 1 (Operand.tmp 71)),
          SOper.mk (some 14) none (SOp.mv (Operand.tmp 72))]
        [1, 2, 5, 6, 7, 8, 9, 10, 11, 12, 13, 14, 62, 63, 64])
      (Stmt.seq
        (Stmt.seq
          (Stmt.region
            [SOper.mk (some 73) none (SOp.mv (Operand.tmp 14)), SOper.mk (some 74) none (SOp.mv (Operand.tmp 7)),
              SOper.mk (some 75) none (SOp.ibin BinOp.eql (Operand.tmp 73) (Operand.tmp 74))]
            [1, 2, 5, 6, 7, 8, 9, 10, 11, 12, 13, 14, 62, 63, 64, 75])
          (Stmt.cond (Operand.tmp 75) (Stmt.exit 3) Stmt.skip))
        (Stmt.join S97_1 S97_2 [10] [1, 2, 5, 6, 7, 8, 9, 11, 12, 14, 62, 63, 64]))))
def S97_4 : Stmt :=
  Stmt.region
  [SOper.mk (some 98) none (SOp.ibin BinOp.add (Operand.tmp 64) (Operand.const (Value.int IntKind.i64 1))),
    SOper.mk (some 64) none (SOp.mv (Operand.tmp 98))]
  [1, 2, 5, 6, 7, 8, 9, 10, 11, 62, 63, 64]
def S97_5 : Stmt :=
  Stmt.seq
  (Stmt.region [SOper.mk (some 65) none (SOp.ibin BinOp.lss (Operand.tmp 64) (Operand.tmp 63))]
    [1, 2, 5, 6, 7, 8, 9, 10, 11, 62, 63, 64, 65])
  (Stmt.seq (Stmt.cond (Operand.tmp 65) Stmt.skip (Stmt.exit 2))
    (Stmt.join S97_3 S97_4 [10] [1, 2, 5, 6, 7, 8, 9, 11, 62, 63, 64]))
def S97_6 : Stmt :=
  Stmt.seq
  (Stmt.seq
    (Stmt.region
      [SOper.mk (some 44) none (SOp.mv (Operand.tmp 10)), SOper.mk (some 45) none (SOp.len false (Operand.tmp 44)),
        SOper.mk (some 46) none (SOp.ibin BinOp.gtr (Operand.tmp 45) (Operand.const (Value.int IntKind.i64 0)))]
      [1, 2, 5, 6, 7, 8, 9, 10, 46])
    (Stmt.cond (Operand.tmp 46) Stmt.skip (Stmt.exit 0)))
  (Stmt.seq
    (Stmt.block 1
      (Stmt.seq
        (Stmt.region
          [SOper.mk (some 49) none
              (SOp.buildS 3 1 [Value.int IntKind.i64 0] [(0, 1, Operand.const (Value.int IntKind.i64 (-1)))]),
            SOper.mk (some 50) none (SOp.fld 2 (Operand.tmp 1)),
            SOper.mk (some 51) none (SOp.load false 1 (Operand.tmp 50)),
            SOper.mk (some 52) none (SOp.idx 1 (Operand.tmp 51) (Operand.const (Value.int IntKind.i64 0))),
            SOper.mk (some 53) none (SOp.load false 1 (Operand.tmp 52)),
            SOper.mk (some 54) none (SOp.len false (Operand.tmp 53)),
            SOper.mk (some 55) none (SOp.call (Operand.func 163) [Operand.tmp 49, Operand.tmp 54]),
            SOper.mk (some 11) none (SOp.mv (Operand.tmp 55))]
          [1, 2, 5, 6, 7, 8, 9, 10, 11])
        (Stmt.seq
          (Stmt.seq
            (Stmt.quiet
              [SOper.mk (some 56) none (SOp.fld 1 (Operand.tmp 5)),
                SOper.mk (some 57) none (SOp.load false 1 (Operand.tmp 56)),
                SOper.mk (some 58) none (SOp.mv (Operand.tmp 10)),
                SOper.mk (some 59) none (SOp.idx 1 (Operand.tmp 58) (Operand.const (Value.int IntKind.i64 0))),
                SOper.mk (some 60) none (SOp.load false 1 (Operand.tmp 59)),
                SOper.mk (some 61) none (SOp.idx 1 (Operand.tmp 57) (Operand.tmp 60)),
                SOper.mk (some 62) none (SOp.load false 1 (Operand.tmp 61)),
                SOper.mk (some 63) none (SOp.len false (Operand.tmp 62)),
                SOper.mk (some 64) none (SOp.mv (Operand.const (Value.int IntKind.i64 0)))]
              [1, 2, 5, 6, 7, 8, 9, 10, 11, 62, 63, 64])
            (Stmt.block 2 (Stmt.loop S97_5 [10, 64] [1, 2, 5, 6, 7, 8, 9, 11, 62, 63])))
          (Stmt.tree
            (DT.q (false, SOper.mk (some 99) none (SOp.fld 1 (Operand.tmp 9)))
              (DT.q (false, SOper.mk (some 101) none (SOp.fld 0 (Operand.tmp 5)))
                (DT.q (false, SOper.mk (some 103) none (SOp.mv (Operand.tmp 10)))
                  (DT.q (false, SOper.mk (some 110) none (SOp.fld 2 (Operand.tmp 9)))
                    (DT.q (false, SOper.mk (some 112) none (SOp.mv (Operand.tmp 11)))
                      (DT.q (false, SOper.mk (some 100) none (SOp.load false 1 (Operand.tmp 99)))
                        (DT.q (false, SOper.mk (some 102) none (SOp.load false 1 (Operand.tmp 101)))
                          (DT.q
                            (false,
                              SOper.mk (some 104) none
                                (SOp.idx 1 (Operand.tmp 103) (Operand.const (Value.int IntKind.i64 0))))
                            (DT.q (true, SOper.mk (some 111) none (SOp.load false 1 (Operand.tmp 110)))
                              (DT.q (false, SOper.mk (some 105) none (SOp.load false 1 (Operand.tmp 104)))
                                (DT.q (false, SOper.mk (some 106) none (SOp.idx 1 (Operand.tmp 102) (Operand.tmp 105)))
                                  (DT.q (false, SOper.mk (some 107) none (SOp.load false 1 (Operand.tmp 106)))
                                    (DT.alt
                                      (false,
                                        SOper.mk (some 108) none
                                          (SOp.buildS 3 1 [Value.int IntKind.i64 0] [(0, 1, Operand.tmp 107)]))
                                      (DT.alt
                                        (false,
                                          SOper.mk (some 109) none
                                            (SOp.append 29 3 1 8 (Value.int IntKind.i64 0) (Operand.tmp 100)
                                              (Operand.tmp 108)))
                                        (DT.q (false, SOper.mk (some 115) none (SOp.fld 1 (Operand.tmp 9)))
                                          (DT.alt
                                            (false,
                                              SOper.mk (some 113) none
                                                (SOp.buildS 29 1 [Value.slice none 0 0] [(0, 1, Operand.tmp 112)]))
                                            (DT.alt
                                              (false,
                                                SOper.mk (some 114) none
                                                  (SOp.append 65 29 1 24 (Value.slice none 0 0) (Operand.tmp 111)
                                                    (Operand.tmp 113)))
                                              (DT.alt
                                                (false,
                                                  SOper.mk none none (SOp.store 1 (Operand.tmp 115) (Operand.tmp 109)))
                                                (DT.q (false, SOper.mk (some 116) none (SOp.fld 2 (Operand.tmp 9)))
                                                  (DT.alt
                                                    (false,
                                                      SOper.mk none none
                                                        (SOp.store 1 (Operand.tmp 116) (Operand.tmp 114)))
                                                    DT.fin DT.no))
                                                DT.no)
                                              DT.no)
                                            DT.no))
                                        (DT.alt
                                          (false,
                                            SOper.mk (some 113) none
                                              (SOp.buildS 29 1 [Value.slice none 0 0] [(0, 1, Operand.tmp 112)]))
                                          (DT.alt
                                            (false,
                                              SOper.mk (some 109) none
                                                (SOp.append 29 3 1 8 (Value.int IntKind.i64 0) (Operand.tmp 100)
                                                  (Operand.tmp 108)))
                                            (DT.q (false, SOper.mk (some 115) none (SOp.fld 1 (Operand.tmp 9)))
                                              (DT.alt
                                                (false,
                                                  SOper.mk (some 114) none
                                                    (SOp.append 65 29 1 24 (Value.slice none 0 0) (Operand.tmp 111)
                                                      (Operand.tmp 113)))
                                                (DT.alt
                                                  (false,
                                                    SOper.mk none none
                                                      (SOp.store 1 (Operand.tmp 115) (Operand.tmp 109)))
                                                  (DT.q (false, SOper.mk (some 116) none (SOp.fld 2 (Operand.tmp 9)))
                                                    (DT.alt
                                                      (false,
                                                        SOper.mk none none
                                                          (SOp.store 1 (Operand.tmp 116) (Operand.tmp 114)))
                                                      DT.fin DT.no))
                                                  DT.no)
                                                DT.no))
                                            DT.no)
                                          DT.no))
                                      (DT.alt
                                        (false,
                                          SOper.mk (some 113) none
                                            (SOp.buildS 29 1 [Value.slice none 0 0] [(0, 1, Operand.tmp 112)]))
                                        (DT.alt
                                          (false,
                                            SOper.mk (some 108) none
                                              (SOp.buildS 3 1 [Value.int IntKind.i64 0] [(0, 1, Operand.tmp 107)]))
                                          (DT.alt
                                            (false,
                                              SOper.mk (some 109) none
                                                (SOp.append 29 3 1 8 (Value.int IntKind.i64 0) (Operand.tmp 100)
                                                  (Operand.tmp 108)))
                                            (DT.q (false, SOper.mk (some 115) none (SOp.fld 1 (Operand.tmp 9)))
                                              (DT.alt
                                                (false,
                                                  SOper.mk (some 114) none
                                                    (SOp.append 65 29 1 24 (Value.slice none 0 0) (Operand.tmp 111)
                                                      (Operand.tmp 113)))
                                                (DT.alt
                                                  (false,
                                                    SOper.mk none none
                                                      (SOp.store 1 (Operand.tmp 115) (Operand.tmp 109)))
                                                  (DT.q (false, SOper.mk (some 116) none (SOp.fld 2 (Operand.tmp 9)))
                                                    (DT.alt
                                                      (false,
                                                        SOper.mk none none
                                                          (SOp.store 1 (Operand.tmp 116) (Operand.tmp 114)))
                                                      DT.fin DT.no))
                                                  DT.no)
                                                DT.no))
                                            DT.no)
                                          DT.no)
                                        DT.no))))))))))))))
            [1, 2, 5, 6, 7, 8, 9, 10]))))
    (Stmt.region
      [SOper.mk (some 47) none (SOp.mv (Operand.tmp 10)),
        SOper.mk (some 48) none (SOp.slc 1 (Operand.tmp 47) (some (Operand.const (Value.int IntKind.i64 1))) none none),
        SOper.mk (some 10) none (SOp.mv (Operand.tmp 48))]
      [1, 2, 5, 6, 7, 8, 9, 10]))
def S97_0 : Stmt :=
  Stmt.seq
  (Stmt.region
    [SOper.mk (some 1) none (SOp.box true 67 (Operand.tmp 0)),
      SOper.mk (some 2) none
        (SOp.alloc true 67
          (Value.agg (Array.mk [Value.int IntKind.i64 0, Value.slice none 0 0, Value.slice none 0 0]))),
      SOper.mk (some 3) none (SOp.mv (Operand.const (Value.int IntKind.i64 0)))]
    [1, 2])
  (Stmt.seq
    (Stmt.seq
      (Stmt.region
        [SOper.mk (some 17) none (SOp.load true 3 (Operand.tmp 1)),
          SOper.mk (some 18) none (SOp.call (Operand.func 115) [Operand.tmp 17]),
          SOper.mk (some 4) none (SOp.mv (Operand.tmp 18))]
        [1, 2, 4])
      (Stmt.seq
        (Stmt.region
          [SOper.mk (some 19) none (SOp.mv (Operand.tmp 4)),
            SOper.mk (some 20) none (SOp.ibin BinOp.neq (Operand.tmp 19) (Operand.const (Value.int IntKind.i64 0)))]
          [1, 2, 4, 20])
        (Stmt.cond (Operand.tmp 20)
          (Stmt.seq
            (Stmt.region
              [SOper.mk (some 21) none
                  (SOp.build 67 [Value.int IntKind.i64 0, Value.slice none 0 0, Value.slice none 0 0] []),
                SOper.mk (some 22) none (SOp.mv (Operand.tmp 4)),
                SOper.mk none none (SOp.store 3 (Operand.tmp 2) (Operand.tmp 21)),
                SOper.mk (some 3) none (SOp.mv (Operand.tmp 22))]
              [2, 3])
            Stmt.ret)
          Stmt.skip)))
    (Stmt.seq
      (Stmt.region
        [SOper.mk (some 23) none (SOp.load true 3 (Operand.tmp 1)),
          SOper.mk (some 24) none (SOp.call (Operand.func 161) [Operand.tmp 23]),
          SOper.mk (some 5) none
            (SOp.alloc true 204
              (Value.agg (Array.mk [Value.slice none 0 0, Value.slice none 0 0, Value.slice none 0 0]))),
          SOper.mk none none (SOp.store 3 (Operand.tmp 5) (Operand.tmp 24))]
        [1, 2, 5])
      (Stmt.seq
        (Stmt.region
          [SOper.mk (some 25) none (SOp.load true 3 (Operand.tmp 5)),
            SOper.mk (some 26) none (SOp.call (Operand.func 162) [Operand.tmp 25]),
            SOper.mk (some 6) none (SOp.mv (Operand.tmp 26))]
          [1, 2, 5, 6])
        (Stmt.seq
          (Stmt.region
            [SOper.mk (some 27) none (SOp.mv (Operand.tmp 6)), SOper.mk (some 28) none (SOp.fld 2 (Operand.tmp 1)),
              SOper.mk (some 29) none (SOp.load false 1 (Operand.tmp 28)),
              SOper.mk (some 30) none (SOp.len false (Operand.tmp 29)),
              SOper.mk (some 31) none (SOp.idx 1 (Operand.tmp 27) (Operand.tmp 30)),
              SOper.mk (some 32) none (SOp.load false 1 (Operand.tmp 31)),
              SOper.mk (some 7) none (SOp.mv (Operand.tmp 32))]
            [1, 2, 5, 6, 7])
          (Stmt.seq
            (Stmt.region
              [SOper.mk (some 33) none (SOp.n (Qk.mkmap 207) []), SOper.mk (some 34) none (SOp.mv (Operand.tmp 6)),
                SOper.mk (some 35) none (SOp.fld 0 (Operand.tmp 1)),
                SOper.mk (some 36) none (SOp.load false 1 (Operand.tmp 35)),
                SOper.mk (some 37) none (SOp.idx 1 (Operand.tmp 34) (Operand.tmp 36)),
                SOper.mk (some 38) none (SOp.load false 1 (Operand.tmp 37)),
                SOper.mk none none
                  (SOp.a (Qk.upd 207) [Operand.tmp 33, Operand.tmp 38, Operand.const (Value.int IntKind.i64 0)]),
                SOper.mk (some 39) none (SOp.mv (Operand.tmp 33)), SOper.mk (some 8) none (SOp.mv (Operand.tmp 39))]
              [1, 2, 5, 6, 7, 8])
            (Stmt.seq
              (Stmt.region
                [SOper.mk (some 40) none
                    (SOp.build 67 [Value.int IntKind.i64 0, Value.slice none 0 0, Value.slice none 0 0] []),
                  SOper.mk (some 9) none
                    (SOp.alloc true 67
                      (Value.agg (Array.mk [Value.int IntKind.i64 0, Value.slice none 0 0, Value.slice none 0 0]))),
                  SOper.mk none none (SOp.store 3 (Operand.tmp 9) (Operand.tmp 40))]
                [1, 2, 5, 6, 7, 8, 9])
              (Stmt.seq
                (Stmt.seq
                  (Stmt.region
                    [SOper.mk (some 41) none (SOp.fld 0 (Operand.tmp 1)),
                      SOper.mk (some 42) none (SOp.load false 1 (Operand.tmp 41)),
                      SOper.mk (some 43) none (SOp.buildS 3 1 [Value.int IntKind.i64 0] [(0, 1, Operand.tmp 42)]),
                      SOper.mk (some 10) none (SOp.mv (Operand.tmp 43))]
                    [1, 2, 5, 6, 7, 8, 9, 10])
                  (Stmt.block 0 (Stmt.loop S97_6 [9, 10] [1, 2, 5, 6, 7, 8])))
                (Stmt.seq
                  (Stmt.region
                    [SOper.mk (some 117) none (SOp.load true 3 (Operand.tmp 9)),
                      SOper.mk none none (SOp.store 3 (Operand.tmp 2) (Operand.tmp 117)),
                      SOper.mk (some 3) none (SOp.mv (Operand.const (Value.int IntKind.i64 0)))]
                    [2, 3])
                  Stmt.ret))))))))
def S97 : FnS := ⟨118, [(2, some (true, 3)), (3, none)], S97_0⟩
theorem tr97 : trFn Try.prog 97 [1, 2, 5, 9] [[1, 2], [1, 2, 4], [1, 2, 4, 20], [2, 3], [1, 2, 5], [1, 2, 5, 6], [1, 2, 5, 6, 7], [1, 2, 5, 6, 7, 8], [1, 2, 5, 6, 7, 8, 9], [1, 2, 5, 6, 7, 8, 9, 10], [9, 10], [1, 2, 5, 6, 7, 8], [1, 2, 5, 6, 7, 8, 9, 10, 46], [1, 2, 5, 6, 7, 8, 9, 10, 11], [1, 2, 5, 6, 7, 8, 9, 10, 11, 62, 63, 64], [10, 64], [1, 2, 5, 6, 7, 8, 9, 11, 62, 63], [1, 2, 5, 6, 7, 8, 9, 10, 11, 62, 63, 64, 65], [10], [1, 2, 5, 6, 7, 8, 9, 11, 62, 63, 64], [1, 2, 5, 6, 7, 8, 9, 10, 11, 12, 13, 62, 63, 64], [1, 2, 5, 6, 7, 8, 9, 10, 11, 12, 13, 14, 62, 63, 64], [1, 2, 5, 6, 7, 8, 9, 10, 11, 12, 13, 14, 62, 63, 64, 75], [10], [1, 2, 5, 6, 7, 8, 9, 11, 12, 14, 62, 63, 64], [1, 2, 5, 6, 7, 8, 9, 10, 11, 12, 13, 14, 16, 62, 63, 64], [1, 2, 5, 6, 7, 8, 9, 10, 11, 12, 13, 14, 62, 63, 64, 83], [1, 2, 5, 6, 7, 8, 9, 10, 11, 12, 13, 14, 62, 63, 64], [1, 2, 5, 6, 7, 8, 9, 10, 11, 12, 14, 62, 63, 64], [1, 2, 5, 6, 7, 8, 9, 10, 11, 62, 63, 64], [1, 2, 5, 6, 7, 8, 9, 10, 11, 62, 63, 64], [1, 2, 5, 6, 7, 8, 9, 10], [], [2, 0, 2, 2, 2, 4, 2, 11, 2, 13, 2, 1, 2, 3, 2, 5, 2, 12, 2, 6, 2, 7, 2, 8, 3, 9, 3, 10, 2, 16, 3, 14, 3, 15, 3, 17, 2, 18, 3, 19, 0, 1, 1, 1, 1, 3, 14, 3, 10, 2, 16, 3, 15, 3, 17, 2, 18, 3, 19, 0, 1, 1, 1, 1, 1, 3, 14, 3, 9, 3, 10, 2, 16, 3, 15, 3, 17, 2, 18, 3, 19, 0, 1, 1, 1, 1, 1, 1], [12], [], [0], [], [2], [], [4], [4, 5], [2, 3, 4, 5, 6], [2, 3, 4, 5, 6, 7], [2, 3, 4, 5, 6, 7, 8], [0, 1, 2, 3, 4, 5, 6, 7, 8, 9], [], [11], [], [13], [0, 1, 2, 3, 4, 5, 6, 7, 8, 9, 10, 11, 12, 13, 14], [0, 1, 2, 3, 4, 5, 6, 7, 8, 9, 10, 11, 12], [0, 1, 2, 3, 4, 5, 6, 7, 8, 9, 10, 11, 12, 13, 14, 15, 16], [0, 1, 2, 3, 4, 5, 6, 7, 8, 9, 10, 11, 12, 13, 14, 15, 16, 17], [0, 1, 2, 3, 4, 5, 6, 7, 8, 9, 10, 11, 12, 13, 14, 15, 16, 17, 18], [1, 2, 5, 6, 7, 8, 9, 10], [2, 3]] = some S97 := by kernel_rfl
end Go.Proofs.Ytniobbepliknmaa.V
/- mini.Min walked: it returns the canonical automaton; no condition. -/
namespace Go.Proofs.Ytniobbepliknmaa.V
open Go
set_option linter.unusedVariables false
set_option linter.unusedSimpArgs false
attribute [local go_sem] e_seq e_region e_quiet e_join e_loop e_cond e_block e_exit e_ret e_skip e_fin e_kseq e_snrm e_sret e_sex e_bnrm e_bret e_bex e_rnrm e_rret e_res e_condC e_nil e_g e_mv g_mv e_pick g_pick pickC_eq e_ibin g_ibin ibinC_eq e_sbin g_sbin e_beq g_beq beqC_eq e_nilq g_nilq nilqC_sl nilqC_pt nilqC_mp e_un g_un unC_not unC_neg e_conv g_conv convC_eq e_fld g_fld fldC_ref fldC_ptr e_nilCheck g_nilCheck nilCheckC_ref nilCheckC_ptr nilCheckC_fun e_field g_field fieldC_eq e_len g_len lenC_sl lenC_str e_extract g_extract extractC_eq e_mkFunc e_build g_build e_idiv g_idiv idivC_eq e_ishift g_ishift ishiftC_eq e_idx g_idx e_idxA g_idxA e_load g_load e_loadB g_loadB atB_ref atB_v g_mkFunc loadC_ref loadC_ptr loadB_eq e_slc g_slc e_box boxC_loc boxC_esc e_alloc allocC_loc allocC_esc e_buildS e_store storeC_ref storeC_ptr storeB_eq e_append e_appz e_mk mkC_eq e_call callC_eq e_fn g_fn fnC_eq fnV_min' fnV_max' fnV_rune' e_q g_q e_a e_n g_call g_box g_alloc g_buildS g_store g_append g_mk g_a g_n g_dead e_dead e_callK e_drawn e_tree e_finJ e_tk e_tfin e_tno e_nbt_q e_nbt_qn e_nbt_a e_nbt_an e_nbt_fin e_drawnB e_bxb_nil e_bxb e_stB_none e_stB_some boxSt_store bs_mv bs_pick bs_ibin bs_idiv bs_ishift bs_sbin bs_beq bs_nilq bs_un bs_conv bs_box bs_alloc bs_build bs_buildS bs_load bs_fld bs_nilCheck bs_idx bs_idxA bs_field bs_slc bs_len bs_append bs_appz bs_mk bs_call bs_extract bs_mkFunc bs_fn bs_q bs_a bs_n bs_loadB bs_dead isBox_box e_early_nil e_early_t e_early_f e_nob_nil e_nob_none e_nob_some isBox_dead isBox_v isBox_ref e_dnil e_dk e_ek e_finB vcOps_vc1 e_dcons e_tq e_ekt e_tearly e_talt e_dearly look_nil look_c proj_nil proj_c looks_nil looks_c zip_nil zip_c val_tmp val_const val_func slv_v slv_box slv_ref slot_tmp slot_const slot_func slotL_v slotL_box slotL_ref put_some put_none updBox_c boxSet_box gd_eq slotVals_nil slotVals_c slotVals_b boxV_box boxOn_box slotsOn_nil slotsOn_c slotsOn_b resV_one resV_two vals_nil vals_c allOn_nil allOn_c partOn_nil partOn_c partVals_nil partVals_c fits_nil fits_c fillL_nil fillL_c mkv_one mkv_agg cellsV_agg cellsV_int cellsV_bool cellsV_slice cellsV_string cellsV_pointer cellsV_func cellsV_nilf cellsV_map one'_nil one'_c oc_int oc_bool oc_slice oc_string oc_pointer oc_func oc_nilf oc_map setC_eq iv_add iv_sub iv_mul iv_eql iv_neq iv_lss iv_leq iv_gtr iv_geq iok_add iok_sub iok_mul iok_eql iok_neq iok_lss iok_leq iok_gtr iok_geq pickV_bool args0_nil args0_c bnd_none bnd_some imp_bt imp_bf imp_ebt imp_ebf imp_eb1 imp_np imp_pp beq_tt beq_tf beq_ft beq_ff cond_or cond_and e_round e_meet Int.le_refl Int.toNat_zero decide_true decide_false Bool.or_false Bool.false_or Bool.true_or Bool.or_true Bool.and_false Bool.false_and Bool.bne_false Bool.bne_true beq_iff_eq Int.cast_ofNat_Int not_false_eq_true not_true_eq_false false_and and_false false_implies true_implies true_and and_true Bool.true_and Bool.and_true Bool.not_true Bool.not_false forall_const implies_true List.take_zero List.drop_zero List.take_succ_cons List.drop_succ_cons List.take_nil List.drop_nil List.length_cons List.length_nil List.nil_append List.append_nil List.cons_append Int.toNat_natCast decide_eq_true_eq decide_eq_false_iff_not cond_true cond_false and_self List.getElem?_cons_zero List.getElem?_cons_succ List.set_cons_zero List.set_cons_succ Option.some.injEq exists_eq_left' Nat.zero_add Nat.add_zero Nat.mul_one imp_self true_or or_true or_false false_or Bool.or_eq_true Bool.or_eq_false_iff Bool.and_eq_true Bool.and_eq_false_iff Bool.not_eq_true' Bool.not_eq_false'

def keysR (cl : Nat → Nat) (R : List Nat) : List Int := R.map fun (s : Nat) => ((cl s : Nat) : Int)
theorem keysR_snoc (cl : Nat → Nat) (R : List Nat) (s : Nat) : keysR cl (R ++ [s]) = keysR cl R ++ [((cl s : Nat) : Int)] := by simp [keysR]
theorem keysR_len (cl : Nat → Nat) (R : List Nat) : (keysR cl R).length = R.length := by simp [keysR]
theorem keysR_nodup {d : Da} {cl : Nat → Nat} {R : List Nat} {rows : List (List Int)} {row : List Int} (I : BfsI d R rows row) (h : ∀ s t : Nat, s ≤ d.nx.length → t ≤ d.nx.length → (cl s = cl t ↔ EqX d s d t)) : (keysR cl R).Nodup := by
  unfold keysR
  rw [List.Nodup, List.pairwise_map, List.pairwise_iff_getElem]
  intro i j hi hj hij e
  have := I.dif i j _ _ (List.getElem?_eq_getElem hi) (List.getElem?_eq_getElem hj) ((h _ _ (I.le _ (List.getElem_mem hi)) (I.le _ (List.getElem_mem hj))).1 (by omega))
  omega
theorem keysR_at {cl : Nat → Nat} {R : List Nat} {j : Nat} {x : Int} (h : (keysR cl R)[j]? = some x) : ∃ t, R[j]? = some t ∧ x = (cl t : Nat) := by
  unfold keysR at h
  rw [List.getElem?_map] at h
  cases hq : R[j]? with
  | none => rw [hq] at h; simp at h
  | some t => rw [hq] at h; simp at h; exact ⟨t, rfl, h.symm⟩
theorem bfs_len {d : Da} {R : List Nat} {rows : List (List Int)} {row : List Int} (I : BfsI d R rows row) : R.length ≤ d.nx.length + 1 := by
  refine nodup_bound _ R ?_ fun x hx => by have := I.le x hx; omega
  rw [List.Nodup, List.pairwise_iff_getElem]
  intro i j hi hj hij e
  have := I.dif i j _ _ (List.getElem?_eq_getElem hi) (List.getElem?_eq_getElem hj) (by rw [e]; exact EqX.refl _ _)
  omega
theorem mini_min {Γr : Ctx} {d : Da} (hok : ∀ x ∈ d.ac, okI x) {A B : Option Addr} {c e : Nat} (hA : SlOk (lk Γr) A c d.ac) (hB : SlOk (lk Γr) B e d.nx) :
    Ret Try.prog 97 [.agg #[.int .i64 d.st, .slice A d.ac.length c, .slice B d.nx.length e]] Γr [] (fun v Γ => (dfF d ≠ 0 ∧ Γ = [] ∧ v = .tuple #[.agg #[.int .i64 0, .slice none 0 0, .slice none 0 0], .int .i64 (dfF d)]) ∨
      (dfF d = 0 ∧ ∃ g m A c B e, Γ = [g] ∧ v = .tuple #[.agg #[.int .i64 0, .slice A m.ac.length c, .slice B m.nx.length e], .int .i64 0] ∧ SlOk (lk [g]) A c m.ac ∧ SlOk (lk [g]) B e m.nx ∧ MinS d m)) := by
  generalize hR : (fun (v : Value) (Γ : Ctx) => _ ∨ _) = R
  refine ret_of_vc tr97 (Nat.le_of_ble_eq_true rfl) ?_
  simp -implicitDefEqProofs only [S97, S97_0, go_sem, Nat.reduceBEq, Nat.reduceAdd, Nat.reduceSub, Nat.reduceMul, Nat.reduceLeDiff, reduceCtorEq, ↓reduceIte, Int.reduceLT, Int.reduceLE, Int.reduceEq, Int.reduceNe]
  intro b1 b2
  refine CallVC.read (dfa_check (hA.mono (lk_r [] _)) (hB.mono (lk_r [] _))) ?_
  rintro v Γ' ⟨rfl, rfl⟩
  simp -implicitDefEqProofs only [go_sem, Nat.reduceBEq, Nat.reduceAdd, Nat.reduceSub, Nat.reduceMul, Nat.reduceLeDiff, reduceCtorEq, ↓reduceIte, Int.reduceLT, Int.reduceLE, Int.reduceEq, Int.reduceNe]
  refine ⟨fun h => Up.here ?_, fun h0 => ?_⟩
  · subst hR
    exact .inl ⟨h, rfl, rfl⟩
  have V := dfF_ok h0
  have hl := V.len
  have hac := V.acc
  have hcol := V.cols
  have hst := V.st
  refine CallVC.read (mini_complete V (hA.mono (lk_r [] _)) (hB.mono (lk_r [] _))) ?_
  rintro v Γ' ⟨gF, A1, c1, A2, c2, A3, c3, rfl, rfl, hF1, hF2, hF3⟩
  simp -implicitDefEqProofs only [go_sem, Nat.reduceBEq, Nat.reduceAdd, Nat.reduceSub, Nat.reduceMul, Nat.reduceLeDiff, reduceCtorEq, ↓reduceIte, Int.reduceLT, Int.reduceLE, Int.reduceEq, Int.reduceNe]
  intro b3
  refine CallVC.read (mini_hopcroft V hok (hF1.mono (lk_sub (by simp))) (hF2.mono (lk_sub (by simp))) (hF3.mono (lk_sub (by simp)))) ?_
  rintro v Γ' ⟨go, bo, of, rfl, rfl, hAo, hofl, hle, heq⟩
  obtain ⟨cl, hcl⟩ : ∃ cl : Nat → Nat, ∀ s, of.getD s 0 = cl s := ⟨_, fun _ => rfl⟩
  have heq : ∀ s t : Nat, s ≤ d.nx.length → t ≤ d.nx.length → (cl s = cl t ↔ EqX d s d t) := fun s t hs ht => by rw [← hcl, ← hcl]; exact heq s t hs ht
  have hofN : ∀ s, s ≤ d.nx.length → cl s ≤ d.nx.length := fun s hs => by rw [← hcl]; exact hle s hs
  simp -implicitDefEqProofs only [go_sem, Nat.reduceBEq, Nat.reduceAdd, Nat.reduceSub, Nat.reduceMul, Nat.reduceLeDiff, reduceCtorEq, ↓reduceIte, Int.reduceLT, Int.reduceLE, Int.reduceEq, Int.reduceNe]
  have hcell : ∀ (g : PH) (s : Nat), Arr g bo 3 of → s ≤ d.nx.length → ∀ Γ : Ctx, g ∈ Γ → Cells Γ bo s [.int .i64 ((cl s : Nat) : Int)] := fun g s hA hs Γ hg => by
    have h1 : s < of.length := by omega
    have := hA.cell h1 hg
    have e1 : of.getD s 0 = of[s] := by rw [List.getD_eq_getElem?_getD, List.getElem?_eq_getElem h1]; rfl
    rw [← hcl, e1]
    exact this
  obtain ⟨s0, hs0⟩ : ∃ s0 : Nat, d.st = s0 := ⟨d.st.toNat, by omega⟩
  rw [hs0]
  refine s_idx rfl (by omega) (by omega) ?_
  simp -implicitDefEqProofs only [go_sem, Nat.reduceBEq, Nat.reduceAdd, Nat.reduceSub, Nat.reduceMul, Nat.reduceLeDiff, reduceCtorEq, ↓reduceIte, Int.reduceLT, Int.reduceLE, Int.reduceEq, Int.reduceNe]
  refine s_ld0 (by simpa using hcell go d.nx.length hAo (by omega) ([go, gF] ++ Γr) (by simp)) (by simp) (by simp) ?_
  simp -implicitDefEqProofs only [go_sem, Nat.reduceBEq, Nat.reduceAdd, Nat.reduceSub, Nat.reduceMul, Nat.reduceLeDiff, reduceCtorEq, ↓reduceIte, Int.reduceLT, Int.reduceLE, Int.reduceEq, Int.reduceNe]
  refine s_mkmap fun bm => ?_
  simp -implicitDefEqProofs only [go_sem, Nat.reduceBEq, Nat.reduceAdd, Nat.reduceSub, Nat.reduceMul, Nat.reduceLeDiff, reduceCtorEq, ↓reduceIte, Int.reduceLT, Int.reduceLE, Int.reduceEq, Int.reduceNe]
  refine s_idx rfl (by omega) (by omega) ?_
  simp -implicitDefEqProofs only [go_sem, Nat.reduceBEq, Nat.reduceAdd, Nat.reduceSub, Nat.reduceMul, Nat.reduceLeDiff, reduceCtorEq, ↓reduceIte, Int.reduceLT, Int.reduceLE, Int.reduceEq, Int.reduceNe]
  refine s_ld0 (by simpa using hcell go s0 hAo (by omega) (one bm (.map #[] 0) :: [go, gF] ++ Γr) (by simp)) (by simp) (by simp) ?_
  simp -implicitDefEqProofs only [go_sem, Nat.reduceBEq, Nat.reduceAdd, Nat.reduceSub, Nat.reduceMul, Nat.reduceLeDiff, reduceCtorEq, ↓reduceIte, Int.reduceLT, Int.reduceLE, Int.reduceEq, Int.reduceNe]
  refine s_upd kt_164 (et := 3) (ix := 0) (l := ([] : List (Int × Nat))) (eV := natV) (by kernel_rfl) rfl (MapM.new _ _ _ _) 0 (okI_of (by have := hofN s0 (by omega); omega)) ?_
  intro gm hMm _
  have hMm : MapM gm bm intV natV okI (keysR cl [s0]).zipIdx := hMm
  simp -implicitDefEqProofs only [go_sem, Nat.reduceBEq, Nat.reduceAdd, Nat.reduceSub, Nat.reduceMul, Nat.reduceLeDiff, reduceCtorEq, ↓reduceIte, Int.reduceLT, Int.reduceLE, Int.reduceEq, Int.reduceNe]
  intro b4 b5
  have hB5 : Bld (one b5 (.cells #[.int .i64 (s0 : Int)] 3)) (lk []) 3 (.slice (some ⟨b5, 0, none⟩) 1 1) [s0] := lit_bld1 (α := Nat) (T := 3) (cs := [.int .i64 (s0 : Int)]) s0 rfl
  have hB0 : Bfs d [s0] [] [] := by
    have := Bfs.init (d := d)
    rwa [hs0, Int.toNat_natCast] at this
  refine s_loop (fun f vs Γ => ∃ (bb : Nat) (R : List Nat) (rows : List (List Int)) (va vn vt : Value) (gt ga gn gd gm : PH), vs = [.box bb 67 [.int .i64 0, va, vn], .v true vt] ∧ rows.length + f = d.nx.length + 1 ∧ Γ = [gt, ga, gn, gd, gm, go, gF] ∧ Bfs d R rows [] ∧
      MapM gm bm intV natV okI (keysR cl R).zipIdx ∧ Bld gt (lk []) 3 vt (R.drop rows.length) ∧ Bld ga (lk []) 3 va ((R.take rows.length).map (fA d)) ∧ Bld gn (lk [gd]) 29 vn rows) (d.nx.length + 1)
    (Up.sel [[0], [], [], [], [1], [2], [3]] (by decide) fun _ _ => ⟨b4, [s0], [], _, _, _, _, _, _, _, _, rfl, by simp, rfl, hB0, hMm, hB5, by simpa using Bld.nil _ _ _, Bld.nil _ _ _⟩) ?_
  clear hB5 hB0 hMm
  rintro f vs Γ ⟨bb, R, rows, va, vn, vt, gt, ga, gn, gd, gm, rfl, hrf, rfl, hBf, hMm, hBt, hBa, hBn⟩
  have I := hBf.inv V
  have hRl := bfs_len I
  have hrl := I.len
  have hdl : (R.drop rows.length).length = R.length - rows.length := by simp
  obtain ⟨At, ct, et, hSt⟩ := hBt.slok (L' := lk [gt]) (Mem.le.refl _) (fun b o ⟨x, hx, _⟩ => by cases hx) (by omega)
  subst et
  obtain ⟨Aa, ca, rfl⟩ := hBa.val
  obtain ⟨An, cn, rfl⟩ := hBn.val
  simp -implicitDefEqProofs only [S97_6, go_sem, Nat.reduceBEq, Nat.reduceAdd, Nat.reduceSub, Nat.reduceMul, Nat.reduceLeDiff, reduceCtorEq, ↓reduceIte, Int.reduceLT, Int.reduceLE, Int.reduceEq, Int.reduceNe]
  refine ⟨fun hpos => ?_, fun hz => ?_⟩
  · have hp : rows.length < R.length := by omega
    obtain ⟨s, hs⟩ : ∃ s, s = R[rows.length] := ⟨_, rfl⟩
    have hsR : R[rows.length]? = some s := by rw [hs]; exact List.getElem?_eq_getElem hp
    have hsN : s ≤ d.nx.length := I.le s (List.mem_of_getElem? hsR)
    have hd0 : R.drop rows.length = s :: R.drop (rows.length + 1) := by rw [hs]; exact List.drop_eq_getElem_cons hp
    obtain ⟨b6, o6, hB6, A6, c6, hr6, hc6⟩ := hB.list (i := 0) (by omega)
    rw [cols_at (by omega)] at hc6
    obtain ⟨b7, o7, hA7, hc7⟩ := hSt.nat (i := 0) (by omega)
    have hd1 : (R.drop rows.length)[0]'(by omega) = s := by simp [hs]
    rw [hd1] at hc7
    have hnl : (nextF d).length = d.nx.length + 1 := by simp [nextF]
    obtain ⟨b8, o8, hA8, A9, c9, hr9, hc9⟩ := hF2.list (i := s) (by omega)
    have hrow : (nextF d)[s]'(by omega) = (List.range (colsD d)).map fun (c : Nat) => gI d s (c : Int) := by simp [nextF]
    rw [hrow] at hr9 hc9
    simp only [List.length_map, List.length_range] at hc9
    intro b9
    refine s_idx hB6 (by omega) (by omega) ?_
    simp -implicitDefEqProofs only [go_sem, Nat.reduceBEq, Nat.reduceAdd, Nat.reduceSub, Nat.reduceMul, Nat.reduceLeDiff, reduceCtorEq, ↓reduceIte, Int.reduceLT, Int.reduceLE, Int.reduceEq, Int.reduceNe]
    refine s_ld0 (by simpa using hc6 _ (lk_r (one b9 (.cells #[.int .i64 (-1)] 3) :: [gt, ga, gn, gd, gm, go, gF]) _)) (by simp) (by simp) ?_
    simp -implicitDefEqProofs only [go_sem, Nat.reduceBEq, Nat.reduceAdd, Nat.reduceSub, Nat.reduceMul, Nat.reduceLeDiff, reduceCtorEq, ↓reduceIte, Int.reduceLT, Int.reduceLE, Int.reduceEq, Int.reduceNe]
    refine CallVC.read (slices_repeat1 (x := -1) (A := some ⟨b9, 0, none⟩) (c := 1) (lit_rep1 (T := 3) (cs := [.int .i64 (-1)]) (-1 : Int) ⟨_, by simp, one_self _ _⟩ rfl) (colsD d) (by omega)) ?_
    rintro v Γ' ⟨gr, br, rfl, rfl, hAr⟩
    simp -implicitDefEqProofs only [go_sem, Nat.reduceBEq, Nat.reduceAdd, Nat.reduceSub, Nat.reduceMul, Nat.reduceLeDiff, reduceCtorEq, ↓reduceIte, Int.reduceLT, Int.reduceLE, Int.reduceEq, Int.reduceNe]
    generalize one b9 _ = g9
    refine s_idx hA7 (by omega) (by omega) ?_
    simp -implicitDefEqProofs only [go_sem, Nat.reduceBEq, Nat.reduceAdd, Nat.reduceSub, Nat.reduceMul, Nat.reduceLeDiff, reduceCtorEq, ↓reduceIte, Int.reduceLT, Int.reduceLE, Int.reduceEq, Int.reduceNe]
    refine s_ld0 (by simpa using hc7 _ (lk_sub fun g hg => by simp at hg; subst hg; simp)) (by simp) (by simp) ?_
    simp -implicitDefEqProofs only [go_sem, Nat.reduceBEq, Nat.reduceAdd, Nat.reduceSub, Nat.reduceMul, Nat.reduceLeDiff, reduceCtorEq, ↓reduceIte, Int.reduceLT, Int.reduceLE, Int.reduceEq, Int.reduceNe]
    refine s_idx hA8 (by omega) (by omega) ?_
    simp -implicitDefEqProofs only [go_sem, Nat.reduceBEq, Nat.reduceAdd, Nat.reduceSub, Nat.reduceMul, Nat.reduceLeDiff, reduceCtorEq, ↓reduceIte, Int.reduceLT, Int.reduceLE, Int.reduceEq, Int.reduceNe]
    refine s_ld0 (hc9 _ (lk_sub fun g hg => by simp at hg; subst hg; simp)) (by simp) (by simp) ?_
    simp -implicitDefEqProofs only [go_sem, Nat.reduceBEq, Nat.reduceAdd, Nat.reduceSub, Nat.reduceMul, Nat.reduceLeDiff, reduceCtorEq, ↓reduceIte, Int.reduceLT, Int.reduceLE, Int.reduceEq, Int.reduceNe]
    refine s_loop (fun f vs Γ => ∃ (c : Nat) (R' : List Nat) (row : List Int) (vt : Value) (gr gt gm : PH), vs = [.v true vt, .v true (.int .i64 c)] ∧ c + f = colsD d ∧ Γ = [gr, gt, ga, gn, gd, gm, go, gF] ∧ row.length = c ∧ Bfs d R' rows row ∧ R'[rows.length]? = some s ∧
        MapM gm bm intV natV okI (keysR cl R').zipIdx ∧ Bld gt (lk []) 3 vt (R'.drop rows.length) ∧ Arr gr br 3 (row ++ List.replicate (colsD d - c) (-1)) ∧ R'.take rows.length = R.take rows.length) (colsD d)
      (Up.sel [[0], [2], [3], [4], [5], [6], [7], [8]] (by decide) fun _ _ => ⟨0, R, [], _, gr, gt, gm, rfl, by omega, rfl, rfl, hBf, hsR, hMm, hBt, by simpa using hAr, rfl⟩) ?_
    clear hAr hMm hBt hSt hc7
    rintro f2 vs Γ ⟨c1, R1, row, vt1, gr, gt, gm, rfl, hcf, rfl, hrw, hBf1, hsR1, hMm, hBt, hAr, htk⟩
    have I1 := hBf1.inv V
    have hRl1 := bfs_len I1
    have hp1 := (List.getElem?_eq_some_iff.1 hsR1).1
    have hdl1 : (R1.drop rows.length).length = R1.length - rows.length := by simp
    simp -implicitDefEqProofs only [S97_5, go_sem, Nat.reduceBEq, Nat.reduceAdd, Nat.reduceSub, Nat.reduceMul, Nat.reduceLeDiff, reduceCtorEq, ↓reduceIte, Int.reduceLT, Int.reduceLE, Int.reduceEq, Int.reduceNe]
    refine ⟨fun hlt2 => ?_, fun hge2 => ?_⟩
    · have hc : c1 < colsD d := by omega
      obtain ⟨t, ht⟩ : ∃ t, t = gI d s (c1 : Int) := ⟨_, rfl⟩
      have htN : t ≤ d.nx.length := ht ▸ gI_le V hc
      obtain ⟨b10, o10, hA10, hc10⟩ := hr9.nat (i := c1) (by simpa using hc)
      simp only [List.getElem_map, List.getElem_range] at hc10
      rw [← ht] at hc10
      have hkl := keysR_len cl R1
      have hknd := keysR_nodup I1 heq
      obtain ⟨vA, vc, rfl⟩ := hBt.val
      refine s_split ?_
      simp -implicitDefEqProofs only [S97_3, S97_4, go_sem, Nat.reduceBEq, Nat.reduceAdd, Nat.reduceSub, Nat.reduceMul, Nat.reduceLeDiff, reduceCtorEq, ↓reduceIte, Int.reduceLT, Int.reduceLE, Int.reduceEq, Int.reduceNe]
      refine s_idx hA10 (by omega) (by omega) ?_
      simp -implicitDefEqProofs only [go_sem, Nat.reduceBEq, Nat.reduceAdd, Nat.reduceSub, Nat.reduceMul, Nat.reduceLeDiff, reduceCtorEq, ↓reduceIte, Int.reduceLT, Int.reduceLE, Int.reduceEq, Int.reduceNe]
      refine s_ld0 (hc10 _ (lk_sub fun g hg => by simp at hg; subst hg; simp)) (by simp) (by simp) ?_
      simp -implicitDefEqProofs only [go_sem, Nat.reduceBEq, Nat.reduceAdd, Nat.reduceSub, Nat.reduceMul, Nat.reduceLeDiff, reduceCtorEq, ↓reduceIte, Int.reduceLT, Int.reduceLE, Int.reduceEq, Int.reduceNe]
      refine s_idx rfl (by omega) (by omega) ?_
      simp -implicitDefEqProofs only [go_sem, Nat.reduceBEq, Nat.reduceAdd, Nat.reduceSub, Nat.reduceMul, Nat.reduceLeDiff, reduceCtorEq, ↓reduceIte, Int.reduceLT, Int.reduceLE, Int.reduceEq, Int.reduceNe]
      refine s_ld0 (by simpa using hcell go t hAo (by omega) ([gr, gt, ga, gn, gd, gm, go, gF] ++ Γr) (by simp)) (by simp) (by simp) ?_
      simp -implicitDefEqProofs only [go_sem, Nat.reduceBEq, Nat.reduceAdd, Nat.reduceSub, Nat.reduceMul, Nat.reduceLeDiff, reduceCtorEq, ↓reduceIte, Int.reduceLT, Int.reduceLE, Int.reduceEq, Int.reduceNe]
      refine ⟨fun hdead => Up.here ?_, fun hlive => ?_⟩
      · have hD : DeadN d (gI d s row.length) := by
          rw [hrw, ← ht]
          exact (dead_eq V).1 ((heq t d.nx.length htN (Nat.le_refl _)).1 (by omega))
        simp (disch := omega) only [wrap_id]
        refine ⟨f2 - 1, by omega, Up.here ⟨c1 + 1, R1, row ++ [-1], _, gr, gt, gm, rfl, by omega, rfl, by simp [hrw], Bfs.skip hBf1 hsR1 (by omega) hD, hsR1, hMm, hBt, ?_, htk⟩⟩
        have : List.replicate (colsD d - c1) (-1 : Int) = -1 :: List.replicate (colsD d - (c1 + 1)) (-1) := by
          rw [show colsD d - c1 = (colsD d - (c1 + 1)) + 1 by omega, List.replicate_succ]
        rw [this] at hAr
        simpa using hAr
      · have hL : ¬ DeadN d (gI d s row.length) := fun h => hlive (by
          rw [hrw, ← ht] at h
          exact_mod_cast (heq t d.nx.length htN (Nat.le_refl _)).2 ((dead_eq V).2 h))
        have hgood : okI ((cl t : Nat) : Int) := okI_of (by have := hofN t htN; omega)
        refine s_join (fun vs Γ' => ∃ (R' : List Nat) (j : Nat) (vt : Value) (gt gm : PH), vs = [.v true vt] ∧ Γ' = [gr, gt, ga, gn, gd, gm, go, gF] ∧ MapM gm bm intV natV okI (keysR cl R').zipIdx ∧ Bld gt (lk []) 3 vt (R'.drop rows.length) ∧
            Bfs d R' rows (row ++ [(j : Int)]) ∧ R'[rows.length]? = some s ∧ R'.take rows.length = R.take rows.length ∧ mget (keysR cl R').zipIdx ((cl t : Nat) : Int) = some j) ?_ ?_
        · simp -implicitDefEqProofs only [S97_1, go_sem, Nat.reduceBEq, Nat.reduceAdd, Nat.reduceSub, Nat.reduceMul, Nat.reduceLeDiff, reduceCtorEq, ↓reduceIte, Int.reduceLT, Int.reduceLE, Int.reduceEq, Int.reduceNe]
          refine s_q trivial (qr_look kt_164 (t := 207) (et := 3) (z := .int .i64 0) (by kernel_rfl) (zero_run (by kernel_rfl)) true (hMm.l (by simp)) hgood) ?_
          simp -implicitDefEqProofs only [go_sem, Nat.reduceBEq, Nat.reduceAdd, Nat.reduceSub, Nat.reduceMul, Nat.reduceLeDiff, reduceCtorEq, ↓reduceIte, Int.reduceLT, Int.reduceLE, Int.reduceEq, Int.reduceNe]
          rcases mget_keys (keys := keysR cl R1) (x := ((cl t : Nat) : Int)) hknd with ⟨hno, hg⟩ | ⟨b, hb, hg⟩
          · rw [hg]
            simp -implicitDefEqProofs only [Option.elim_none, Option.isSome_none, go_sem, Nat.reduceBEq, Nat.reduceAdd, Nat.reduceSub, Nat.reduceMul, Nat.reduceLeDiff, reduceCtorEq, ↓reduceIte, Int.reduceLT, Int.reduceLE, Int.reduceEq, Int.reduceNe]
            refine s_q trivial (qr_len (t := 207) (kt := 3) (et := 3) (by kernel_rfl) (hMm.l (by simp))) ?_
            simp -implicitDefEqProofs only [go_sem, Nat.reduceBEq, Nat.reduceAdd, Nat.reduceSub, Nat.reduceMul, Nat.reduceLeDiff, reduceCtorEq, ↓reduceIte, Int.reduceLT, Int.reduceLE, Int.reduceEq, Int.reduceNe]
            refine s_upd kt_164 (et := 3) (ix := 5) (eV := natV) (by kernel_rfl) rfl hMm ((keysR cl R1).zipIdx.length) hgood ?_
            intro gm' hMm' _
            rw [mput, if_neg (by rw [zipIdx_keys]; exact hno), List.length_zipIdx, ← zipIdx_snoc, ← keysR_snoc] at hMm'
            simp -implicitDefEqProofs only [go_sem, Nat.reduceBEq, Nat.reduceAdd, Nat.reduceSub, Nat.reduceMul, Nat.reduceLeDiff, reduceCtorEq, ↓reduceIte, Int.reduceLT, Int.reduceLE, Int.reduceEq, Int.reduceNe]
            intro b11
            refine s_app1S (α := Nat) (ix := 2) t rfl hBt cells_one rfl (by omega) (by unfold maxLen; omega) ?_
            intro vt' gt' hBt' _
            simp -implicitDefEqProofs only [go_sem, Nat.reduceBEq, Nat.reduceAdd, Nat.reduceSub, Nat.reduceMul, Nat.reduceLeDiff, reduceCtorEq, ↓reduceIte, Int.reduceLT, Int.reduceLE, Int.reduceEq, Int.reduceNe]
            refine Up.skip (Up.here ⟨R1 ++ [t], R1.length, vt', gt', gm', rfl, rfl, hMm', ?_, ?_, getq_mono hsR1, ?_, ?_⟩)
            · rw [List.drop_append_of_le_length (by omega)]
              exact hBt'
            · have := Bfs.new hBf1 hsR1 (by omega) hL (fun u hu h => hno (by
                rw [hrw, ← ht] at h
                have := (heq t u htN (I1.le u hu)).2 h
                exact List.mem_map.2 ⟨u, hu, by rw [this]⟩))
              rwa [hrw, ← ht] at this
            · rw [List.take_append_of_le_length (by omega)]; exact htk
            · rcases mget_keys (keys := keysR cl (R1 ++ [t])) (x := ((cl t : Nat) : Int)) (by
                rw [keysR_snoc]
                exact List.nodup_append.2 ⟨hknd, by simp, fun x hx y hy e => by simp at hy; subst hy; subst e; exact hno hx⟩) with ⟨h1, _⟩ | ⟨b, h1, h2⟩
              · exact absurd (by rw [keysR_snoc]; simp) h1
              · rw [h2]
                rw [keysR_snoc] at h1
                rcases app_get h1 with h1 | ⟨h1, _⟩
                · exact absurd (List.mem_of_getElem? h1) hno
                · rw [h1, keysR_len]
          · rw [hg]
            simp -implicitDefEqProofs only [Option.elim_some, Option.isSome_some, go_sem, Nat.reduceBEq, Nat.reduceAdd, Nat.reduceSub, Nat.reduceMul, Nat.reduceLeDiff, reduceCtorEq, ↓reduceIte, Int.reduceLT, Int.reduceLE, Int.reduceEq, Int.reduceNe]
            obtain ⟨u, hu1, hu2⟩ := keysR_at hb
            refine Up.here ⟨R1, b, _, gt, gm, rfl, rfl, hMm, hBt, ?_, hsR1, htk, hg⟩
            refine Bfs.seen hBf1 hsR1 (by omega) hL hu1 ?_
            rw [hrw, ← ht]
            exact (heq t u htN (I1.le u (List.mem_of_getElem? hu1))).1 (by omega)
        · rintro vs Γ' ⟨R', j, vt', gt, gm, rfl, rfl, hMm, hBt, hBf', hsR', htk', hg⟩
          simp -implicitDefEqProofs only [S97_2, go_sem, Nat.reduceBEq, Nat.reduceAdd, Nat.reduceSub, Nat.reduceMul, Nat.reduceLeDiff, reduceCtorEq, ↓reduceIte, Int.reduceLT, Int.reduceLE, Int.reduceEq, Int.reduceNe]
          refine s_q trivial (qr_look kt_164 (t := 207) (et := 3) (z := .int .i64 0) (by kernel_rfl) (zero_run (by kernel_rfl)) false (hMm.l (by simp)) hgood) ?_
          rw [hg]
          simp -implicitDefEqProofs only [Option.elim_some, go_sem, Nat.reduceBEq, Nat.reduceAdd, Nat.reduceSub, Nat.reduceMul, Nat.reduceLeDiff, reduceCtorEq, ↓reduceIte, Int.reduceLT, Int.reduceLE, Int.reduceEq, Int.reduceNe]
          refine s_idx rfl (by omega) (by omega) ?_
          simp -implicitDefEqProofs only [natV, go_sem, Nat.reduceBEq, Nat.reduceAdd, Nat.reduceSub, Nat.reduceMul, Nat.reduceLeDiff, reduceCtorEq, ↓reduceIte, Int.reduceLT, Int.reduceLE, Int.reduceEq, Int.reduceNe]
          have hAl : c1 < (row ++ List.replicate (colsD d - c1) (-1 : Int)).length := by simp; omega
          refine s_storeA (α := Int) (ix := 0) (j : Int) rfl hAr hAl ?_
          intro gr' hAr' _
          simp -implicitDefEqProofs only [go_sem, Nat.reduceBEq, Nat.reduceAdd, Nat.reduceSub, Nat.reduceMul, Nat.reduceLeDiff, reduceCtorEq, ↓reduceIte, Int.reduceLT, Int.reduceLE, Int.reduceEq, Int.reduceNe]
          simp (disch := omega) only [wrap_id]
          refine Up.here ⟨f2 - 1, by omega, Up.here ⟨c1 + 1, R', row ++ [(j : Int)], _, gr', gt, gm, rfl, by omega, rfl, by simp [hrw], hBf', hsR', hMm, hBt, ?_, htk'⟩⟩
          have e1 : List.replicate (colsD d - c1) (-1 : Int) = -1 :: List.replicate (colsD d - (c1 + 1)) (-1) := by
            rw [show colsD d - c1 = (colsD d - (c1 + 1)) + 1 by omega, List.replicate_succ]
          rw [e1, List.set_append_right _ _ (by omega), hrw, Nat.sub_self] at hAr'
          simpa using hAr'
    · have hc : c1 = colsD d := by omega
      subst hc
      rw [Nat.sub_self, List.replicate_zero, List.append_nil] at hAr
      obtain ⟨vA, vc, ev, hSt1⟩ := hBt.slok (L' := lk [gt]) (Mem.le.refl _) (fun b o ⟨x, hx, _⟩ => by cases hx) (by omega)
      subst ev
      obtain ⟨b11, o11, hvA, hc11⟩ := hSt1.nat (i := 0) (by omega)
      have hd1 : (R1.drop rows.length)[0]'(by omega) = s := by
        rw [List.getElem_drop]
        exact (List.getElem?_eq_some_iff.1 hsR1).2
      rw [hd1] at hc11
      have hl1 : (d.ac ++ [-1]).length = d.nx.length + 1 := by simp [hac]
      obtain ⟨b12, o12, hA1, hc12⟩ := hF1.int (i := s) (by omega)
      have hfa : (d.ac ++ [-1])[s]'(by omega) = fA d s := by
        unfold fA
        rw [List.getD_eq_getElem?_getD, List.getElem?_eq_getElem (by omega)]
        rfl
      rw [hfa] at hc12
      obtain ⟨fs, hfs⟩ : ∃ fs, fs = fA d s := ⟨_, rfl⟩
      rw [← hfs] at hc12
      have hSr : SlOk (lk [gr]) (some ⟨br, 0, none⟩) (colsD d) row := hAr.slok (Mem.le.refl _) (by omega) (by unfold maxLen; omega) (by omega)
      have hal : ((R.take rows.length).map (fA d)).length = rows.length := by simp; omega
      obtain ⟨acs, hacs⟩ : ∃ acs, acs = (R.take rows.length).map (fA d) := ⟨_, rfl⟩
      rw [← hacs] at hBa hal ⊢
      refine ⟨[gr, gt, ga, gn, gd, gm, go, gF], [], fun ψ Γ' => ∃ (va' vn' : Value) (ga' gn' gd' : PH), ψ = [(1, .box b1 67 [.int .i64 s0, .slice A d.ac.length c, .slice B d.nx.length e]), (2, .box b2 67 [.int .i64 0, .slice none 0 0, .slice none 0 0]),
        (5, .box b3 204 [.slice A1 (d.nx.length + 1) c1, .slice A2 (d.nx.length + 1) c2, .slice A3 (colsD d) c3]), (6, .v true (.slice (some ⟨bo, 0, none⟩) (d.nx.length + 1) (d.nx.length + 1))), (7, .v true (.int .i64 (cl d.nx.length))), (8, .v true (.map (some bm))),
        (9, .box bb 67 [.int .i64 0, va', vn']), (10, .v true (.slice vA (R1.drop rows.length).length vc))] ∧ Γ' = [gt, ga', gn', gd', gm, go, gF] ∧ Bld ga' (lk []) 3 va' (acs ++ [fs]) ∧ Bld gn' (lk [gd']) 29 vn' (rows ++ [row]), Ent.refl _, ?_, ?_⟩
      · have hcn : ∀ Γ0 : Ctx, gF ∈ Γ0 → Cells (Γ0 ++ Γr) b12 (o12 + s) [.int .i64 fs] := fun Γ0 hg => hc12 _ (lk_sub fun g hg' => by simp at hg'; subst hg'; simp [hg])
        simp -implicitDefEqProofs only [go_sem, Nat.reduceBEq, Nat.reduceAdd, Nat.reduceSub, Nat.reduceMul, Nat.reduceLeDiff, reduceCtorEq, ↓reduceIte, Int.reduceLT, Int.reduceLE, Int.reduceEq, Int.reduceNe]
        refine s_idx hvA (by omega) (by omega) ?_
        simp -implicitDefEqProofs only [go_sem, Nat.reduceBEq, Nat.reduceAdd, Nat.reduceSub, Nat.reduceMul, Nat.reduceLeDiff, reduceCtorEq, ↓reduceIte, Int.reduceLT, Int.reduceLE, Int.reduceEq, Int.reduceNe]
        refine s_ld0 (by simpa using hc11 _ (lk_sub fun g hg => by simp at hg; subst hg; simp)) (by simp) (by simp) ?_
        simp -implicitDefEqProofs only [go_sem, Nat.reduceBEq, Nat.reduceAdd, Nat.reduceSub, Nat.reduceMul, Nat.reduceLeDiff, reduceCtorEq, ↓reduceIte, Int.reduceLT, Int.reduceLE, Int.reduceEq, Int.reduceNe]
        refine s_idx hA1 (by omega) (by omega) ?_
        simp -implicitDefEqProofs only [go_sem, Nat.reduceBEq, Nat.reduceAdd, Nat.reduceSub, Nat.reduceMul, Nat.reduceLeDiff, reduceCtorEq, ↓reduceIte, Int.reduceLT, Int.reduceLE, Int.reduceEq, Int.reduceNe]
        refine s_ld0 (by simpa using hcn [gr, gt, ga, gn, gd, gm, go, gF] (by simp)) (by simp) (by simp) ?_
        simp -implicitDefEqProofs only [go_sem, Nat.reduceBEq, Nat.reduceAdd, Nat.reduceSub, Nat.reduceMul, Nat.reduceLeDiff, reduceCtorEq, ↓reduceIte, Int.reduceLT, Int.reduceLE, Int.reduceEq, Int.reduceNe]
        repeat' first
          | with_reducible exact True.intro
          | with_reducible refine And.intro ?_ ?_
          | with_reducible intro bk
          | (refine s_app1S (α := Int) (ix := 3) fs rfl hBa cells_one rfl (by omega) (by unfold maxLen; omega) ?_; intro va' ga' hBa' _; obtain ⟨Aa', ca', rfl⟩ := hBa'.val)
          | (refine s_app1S (α := Int) (ix := 4) fs rfl hBa cells_one rfl (by omega) (by unfold maxLen; omega) ?_; intro va' ga' hBa' _; obtain ⟨Aa', ca', rfl⟩ := hBa'.val)
          | (refine s_app1S (α := Int) (ix := 4) fs rfl hBa cells_two rfl (by omega) (by unfold maxLen; omega) ?_; intro va' ga' hBa' _; obtain ⟨Aa', ca', rfl⟩ := hBa'.val)
          | (refine s_app1 (ix := 5) (x := row) (L' := lk [gr, gd]) rfl hBn (lk_sub (by simp)) (by simpa [hrw] using mk_list (hSr.mono (lk_sub (by simp)))) cells_one rfl (by omega) (by unfold maxLen; omega) ?_; intro vn' gn' hBn' _; obtain ⟨An', cn', rfl⟩ := hBn'.val)
          | (refine s_app1 (ix := 5) (x := row) (L' := lk [gr, gd]) rfl hBn (lk_sub (by simp)) (by simpa [hrw] using mk_list (hSr.mono (lk_sub (by simp)))) cells_two rfl (by omega) (by unfold maxLen; omega) ?_; intro vn' gn' hBn' _; obtain ⟨An', cn', rfl⟩ := hBn'.val)
          | simp -implicitDefEqProofs only [go_sem, Nat.reduceBEq, Nat.reduceAdd, Nat.reduceSub, Nat.reduceMul, Nat.reduceLeDiff, reduceCtorEq, ↓reduceIte, Int.reduceLT, Int.reduceLE, Int.reduceEq, Int.reduceNe]
        all_goals exact Up.sel [[3], [4], [5], [2, 6], [7], [8], [9]] (by decide) fun _ hm => ⟨_, _, _, _, _, rfl, rfl, hBa', hBn'.mono (Mem.le.refl _) (hm [2, 6] (by simp))⟩
      · rintro ψ Γ' ⟨va', vn', ga', gn', gd', rfl, rfl, hBa', hBn'⟩
        simp -implicitDefEqProofs only [go_sem, Nat.reduceBEq, Nat.reduceAdd, Nat.reduceSub, Nat.reduceMul, Nat.reduceLeDiff, reduceCtorEq, ↓reduceIte, Int.reduceLT, Int.reduceLE, Int.reduceEq, Int.reduceNe]
        refine s_lo 1 (by simp -implicitDefEqProofs only [go_sem, Nat.reduceBEq, Nat.reduceAdd, Nat.reduceSub, Nat.reduceMul, Nat.reduceLeDiff, reduceCtorEq, ↓reduceIte, Int.reduceLT, Int.reduceLE, Int.reduceEq, Int.reduceNe]; exact ⟨_, rfl⟩) (by omega) (by have := hSt1.cap; omega) ?_
        intro A7 hA7
        have hdr := hBt.drop (k := 1) (by omega)
        rw [show (if vc = 1 then vA else vA.map (·.add (1 * Rep.sz Nat))) = A7 from hA7.symm, List.drop_drop] at hdr
        simp -implicitDefEqProofs only [go_sem, Nat.reduceBEq, Nat.reduceAdd, Nat.reduceSub, Nat.reduceMul, Nat.reduceLeDiff, reduceCtorEq, ↓reduceIte, Int.reduceLT, Int.reduceLE, Int.reduceEq, Int.reduceNe]
        refine ⟨f - 1, by omega, Up.here ⟨bb, R1, rows ++ [row], va', vn', _, gt, ga', gn', gd', gm, rfl, by simp; omega, rfl, Bfs.next hBf1 hrw, hMm, by simpa using hdr, ?_, hBn'⟩⟩
        have : (R1.take (rows ++ [row]).length).map (fA d) = acs ++ [fs] := by
          rw [List.length_append, List.length_singleton, List.take_succ_eq_append_getElem hp1, List.map_append, htk, ← hacs, hfs]
          congr 1
          simp only [List.map_cons, List.map_nil]
          rw [(List.getElem?_eq_some_iff.1 hsR1).2]
        rw [this]
        exact hBa'
  · have hRr : R.length = rows.length := by omega
    rw [show R.take rows.length = R from List.take_of_length_le (by omega)] at hBa ⊢
    refine Up.one fun G hG => ?_
    subst hR
    obtain ⟨A8, c8, e8, hS8⟩ := hBa.slok (L' := lk [G]) (Mem.le.trans (lk_sub (by simp)) hG) (fun b o ⟨x, hx, _⟩ => by cases hx) (by simp; omega)
    obtain ⟨A9, c9, e9, hS9⟩ := hBn.slok (L' := lk [G]) (Mem.le.trans (lk_sub (by simp)) hG) (Mem.le.trans (lk_sub (by simp)) hG) (by omega)
    simp only [Value.slice.injEq, true_and] at e8 e9
    obtain ⟨rfl, rfl⟩ := e8
    obtain ⟨rfl, rfl⟩ := e9
    exact .inr ⟨h0, G, ⟨0, R.map (fA d), rows⟩, _, _, _, _, rfl, rfl, hS8, hS9, R, hBf, hRr.symm, rfl, rfl⟩
end Go.Proofs.Ytniobbepliknmaa.V
/- The least word on which two automata differ is short; no condition. -/
namespace Go.Proofs.Ytniobbepliknmaa.V
open Go
set_option linter.unusedVariables false
set_option linter.unusedSimpArgs false

theorem least_natM {p : Nat → Prop} : ∀ (n : Nat), p n → ∃ m, m ≤ n ∧ p m ∧ ∀ j, j < m → ¬ p j := fun n => by
  induction n using Nat.strongRecOn with
  | _ n ih =>
    intro h
    by_cases q : ∃ j, j < n ∧ p j
    · obtain ⟨j, hj, hp⟩ := q
      obtain ⟨m, h1, h2, h3⟩ := ih j hj hp
      exact ⟨m, by omega, h2, h3⟩
    · exact ⟨n, Nat.le_refl _, h, fun j hj hp => q ⟨j, hj, hp⟩⟩
theorem countP_lt {α : Type} {p q : α → Bool} {a : α} : ∀ {l : List α}, (∀ x ∈ l, p x = true → q x = true) → a ∈ l → q a = true → p a = false → l.countP p < l.countP q
  | [], _, h, _, _ => by cases h
  | x :: l, h, ha, hq, hp => by
    have hm : l.countP p ≤ l.countP q := List.countP_mono_left fun y hy => h y (by simp [hy])
    have hx := h x (by simp)
    rw [List.countP_cons, List.countP_cons]
    rcases List.mem_cons.1 ha with rfl | ha
    · rw [hq, hp]; simp; omega
    · have := countP_lt (fun y hy => h y (by simp [hy])) ha hq hp
      cases hpx : p x
      · simp; split <;> omega
      · rw [hx hpx]; simp; omega
open Classical in
/-- how many classes there are -/
noncomputable def reps (M : Nat) (R : Nat → Nat → Prop) : Nat := (List.range M).countP fun i => decide (∀ j, j < i → ¬ R j i)
theorem reps_lt {M : Nat} {R R' : Nat → Nat → Prop} (s : ∀ i j, R i j → R j i) (t : ∀ i j k, R i j → R j k → R i k) (r' : ∀ i, R' i i) (s' : ∀ i j, R' i j → R' j i) (t' : ∀ i j k, R' i j → R' j k → R' i k)
    (hs : ∀ i j, R' i j → R i j) {a b : Nat} (ha : a < M) (hb : b < M) (hab : R a b) (hn : ¬ R' a b) : reps M R < reps M R' := by
  obtain ⟨r, hr, hra, hrl⟩ := least_natM (p := fun i => R i a) a (hs _ _ (r' a))
  obtain ⟨z, hz, haz, hrz⟩ : ∃ z, z < M ∧ R a z ∧ ¬ R' r z := by
    by_cases q : R' r a
    · exact ⟨b, hb, hab, fun q' => hn (t' _ _ _ (s' _ _ q) q')⟩
    · exact ⟨a, ha, hs _ _ (r' a), q⟩
  obtain ⟨y, hy, hyz, hyl⟩ := least_natM (p := fun i => R' i z) z (r' z)
  have hya : R y a := t _ _ _ (hs _ _ hyz) (s _ _ haz)
  have hry : r < y := by
    rcases Nat.lt_trichotomy r y with q | q | q
    · exact q
    · subst q; exact absurd hyz hrz
    · exact absurd hya (hrl y q)
  unfold reps
  refine countP_lt (a := y) (fun x hx h => ?_) (List.mem_range.2 (by omega)) ?_ ?_
  · simp only [decide_eq_true_eq] at h ⊢
    exact fun j hj q => h j hj (hs _ _ q)
  · simp only [decide_eq_true_eq]
    exact fun j hj q => hyl j hj (t' _ _ _ q hyz)
  · simp only [decide_eq_false_iff_not]
    exact fun q => q r hry (t _ _ _ hra (s _ _ hya))
theorem reps_le (M : Nat) (R : Nat → Nat → Prop) : reps M R ≤ M := by
  unfold reps
  refine Nat.le_trans List.countP_le_length ?_
  simp
theorem reps_pos {M : Nat} (hM : 0 < M) (R : Nat → Nat → Prop) : 1 ≤ reps M R := by
  unfold reps
  refine List.countP_pos_iff.2 ⟨0, List.mem_range.2 hM, ?_⟩
  simp

/-- what the state i of two automata accepts -/
def outP (x y : Da) (i : Nat) (v : List Int) : Bool := if i ≤ x.nx.length then accP x (goD x (stI x i) v) else accP y (goD y (stI y (i - x.nx.length - 1)) v)
def EqK (x y : Da) (k i j : Nat) : Prop := ∀ v, okW x v → v.length ≤ k → outP x y i v = outP x y j v
theorem okW_app {d : Da} {v w : List Int} : okW d (v ++ w) ↔ okW d v ∧ okW d w := by
  simp only [okW, List.mem_append]
  exact ⟨fun h => ⟨fun x hx => h x (.inl hx), fun x hx => h x (.inr hx)⟩, fun h x hx => hx.elim (h.1 x) (h.2 x)⟩
theorem stI_go {d : Da} (V : VD d) : ∀ {w : List Int} {s : Nat}, s ≤ d.nx.length → okW d w → stI d (goN d s w) = goD d (stI d s) w ∧ goN d s w ≤ d.nx.length
  | [], s, hs, _ => ⟨rfl, hs⟩
  | c :: w, s, hs, hw => by
    have h1 := stI_g V (s := s) (hw c (by simp))
    have h2 := stI_go V (s := gI d s c) (w := w) h1.2 (fun x hx => hw x (by simp [hx]))
    rw [h1.1] at h2
    exact h2
theorem goD_app (d : Da) (s : Int) (v w : List Int) : goD d s (v ++ w) = goD d (goD d s v) w := by simp [goD]
theorem shortest_short {x y : Da} (Vx : VD x) (Vy : VD y) (hc : colsD x = colsD y) {w : List Int} (hw : okW x w) (hd : Dif x y w) (hlen : ∀ v, okW x v → Dif x y v → w.length ≤ v.length) : w.length < x.nx.length + 1 + (y.nx.length + 1) := by
  have key : ∀ t, t ≤ w.length → t + 1 ≤ reps (x.nx.length + 1 + (y.nx.length + 1)) (EqK x y t) := by
    intro t
    induction t with
    | zero => exact fun _ => reps_pos (by omega) _
    | succ t ih =>
      intro ht
      have h1 := ih (by omega)
      let p := w.take (w.length - (t + 1))
      let q := w.drop (w.length - (t + 1))
      have hpq : p ++ q = w := List.take_append_drop _ _
      have hql : q.length = t + 1 := by simp [q]; omega
      have hok : okW x p ∧ okW x q := okW_app.1 (by rw [hpq]; exact hw)
      have hok' : okW y p := by rw [okW, ← hc]; exact hok.1
      have hsx := Vx.st
      have hsy := Vy.st
      have ga := stI_go Vx (s := x.st.toNat) (by omega) hok.1
      have gb := stI_go Vy (s := y.st.toNat) (by omega) hok'
      rw [stI_st Vx] at ga
      rw [stI_st Vy] at gb
      have oa : ∀ v, outP x y (goN x x.st.toNat p) v = accP x (goD x x.st (p ++ v)) := fun v => by
        unfold outP
        rw [if_pos ga.2, ga.1, goD_app]
      have ob : ∀ v, outP x y (x.nx.length + 1 + goN y y.st.toNat p) v = accP y (goD y y.st (p ++ v)) := fun v => by
        unfold outP
        rw [if_neg (by omega), show x.nx.length + 1 + goN y y.st.toNat p - x.nx.length - 1 = goN y y.st.toNat p by omega, gb.1, goD_app]
      have := reps_lt (M := x.nx.length + 1 + (y.nx.length + 1)) (R := EqK x y t) (R' := EqK x y (t + 1)) (fun i j h v h1 h2 => (h v h1 h2).symm) (fun i j k h h' v h1 h2 => (h v h1 h2).trans (h' v h1 h2))
        (fun i v _ _ => rfl) (fun i j h v h1 h2 => (h v h1 h2).symm) (fun i j k h h' v h1 h2 => (h v h1 h2).trans (h' v h1 h2)) (fun i j h v h1 h2 => h v h1 (by omega))
        (a := goN x x.st.toNat p) (b := x.nx.length + 1 + goN y y.st.toNat p) (by omega) (by omega) (fun v h1 h2 => by
          rw [oa, ob]
          apply Classical.byContradiction
          intro hne
          have := hlen (p ++ v) (okW_app.2 ⟨hok.1, h1⟩) hne
          simp [p] at this
          omega) (fun h => by
          have := h q hok.2 (by omega)
          rw [oa, ob, hpq] at this
          exact hd this)
      omega
  have := key w.length (Nat.le_refl _)
  have := reps_le (x.nx.length + 1 + (y.nx.length + 1)) (EqK x y w.length)
  omega
theorem least_short {x y : Da} (Vx : VD x) (Vy : VD y) (hc : colsD x = colsD y) {w : List Int} (h : LeastW x y w) : w.length < x.nx.length + 1 + (y.nx.length + 1) :=
  shortest_short Vx Vy hc h.1 h.2.1 fun v h1 h2 => by
    rcases h.2.2 v h1 h2 with rfl | q | ⟨q, _⟩ <;> omega
end Go.Proofs.Ytniobbepliknmaa.V
/- Learning an automaton by questions, as plain law; no condition. -/
namespace Go.Proofs.Ytniobbepliknmaa.V
open Go
set_option linter.unusedVariables false
set_option linter.unusedSimpArgs false

/-- words of k symbols -/
def okK (k : Nat) (w : List Int) : Prop := ∀ x ∈ w, 0 ≤ x ∧ x < k
theorem okK_app {k : Nat} {v w : List Int} : okK k (v ++ w) ↔ okK k v ∧ okK k w := by
  simp only [okK, List.mem_append]
  exact ⟨fun h => ⟨fun x hx => h x (.inl hx), fun x hx => h x (.inr hx)⟩, fun h x hx => hx.elim (h.1 x) (h.2 x)⟩
theorem okK_one {k c : Nat} (h : c < k) : okK k [(c : Int)] := fun x hx => by simp at hx; omega
def markL (L : List Int → Bool) (ends : List (List Int)) (w : List Int) : List Bool := ends.map fun e => L (w ++ e)
/-- the table: rows lead to different states, ends tell them apart -/
structure TabL (L : List Int → Bool) (k : Nat) (ends rows : List (List Int)) : Prop where
  row0 : rows[0]? = some []
  end0 : [] ∈ ends
  rok : ∀ (i : Nat) (w : List Int), rows[i]? = some w → okK k w ∧ w.length ≤ i
  eok : ∀ e ∈ ends, okK k e ∧ e.length ≤ 2000
  dif : ∀ (i j : Nat) (u v : List Int), rows[i]? = some u → rows[j]? = some v → markL L ends u = markL L ends v → i = j
/-- N states are enough -/
def ClsL (L : List Int → Bool) (k N : Nat) : Prop := ∃ cls : List Int → Nat, (∀ w, okK k w → cls w < N) ∧ ∀ u v, okK k u → okK k v → cls u = cls v → ∀ e, okK k e → L (u ++ e) = L (v ++ e)
theorem TabL.bound {L : List Int → Bool} {k N : Nat} {ends rows : List (List Int)} (h : TabL L k ends rows) (hN : ClsL L k N) : rows.length ≤ N := by
  obtain ⟨cls, h1, h2⟩ := hN
  have := nodup_bound N (rows.map cls) (by
    rw [List.Nodup, List.pairwise_map, List.pairwise_iff_getElem]
    intro i j hi hj hij e
    have a := h.rok i _ (List.getElem?_eq_getElem hi)
    have b := h.rok j _ (List.getElem?_eq_getElem hj)
    have := h.dif i j _ _ (List.getElem?_eq_getElem hi) (List.getElem?_eq_getElem hj) (List.map_congr_left fun x hx => h2 _ _ a.1 b.1 e x (h.eok x hx).1)
    omega) (by
    intro x hx
    obtain ⟨w, hw, rfl⟩ := List.mem_map.1 hx
    obtain ⟨i, hi⟩ := List.getElem?_of_mem hw
    exact h1 w (h.rok i w hi).1)
  simpa using this
theorem TabL.init (L : List Int → Bool) (k : Nat) : TabL L k [[]] [[]] := by
  refine ⟨rfl, by simp, fun i w h => ?_, by simp [okK], fun i j u v h1 h2 _ => ?_⟩
  · have := List.mem_of_getElem? h
    simp at this
    subst this
    exact ⟨by simp [okK], by simp⟩
  · have := (List.getElem?_eq_some_iff.1 h1).1
    have := (List.getElem?_eq_some_iff.1 h2).1
    simp at *
    omega
theorem TabL.add {L : List Int → Bool} {k : Nat} {ends rows : List (List Int)} (h : TabL L k ends rows) {i c : Nat} {u : List Int} (hu : rows[i]? = some u) (hc : c < k) (hn : markL L ends (u ++ [(c : Int)]) ∉ rows.map (markL L ends)) : TabL L k ends (rows ++ [u ++ [(c : Int)]]) := by
  have hi := (List.getElem?_eq_some_iff.1 hu).1
  have hr := h.rok i u hu
  refine ⟨?_, h.end0, fun j w hj => ?_, h.eok, fun a b v w h1 h2 he => ?_⟩
  · rw [List.getElem?_append_left (by omega)]; exact h.row0
  · rcases app_get hj with hj | ⟨rfl, rfl⟩
    · exact h.rok j w hj
    · exact ⟨okK_app.2 ⟨hr.1, okK_one hc⟩, by simp; omega⟩
  · rcases app_get h1 with h1 | ⟨rfl, rfl⟩ <;> rcases app_get h2 with h2 | ⟨rfl, rfl⟩
    · exact h.dif a b v w h1 h2 he
    · exact absurd (List.mem_map.2 ⟨v, List.mem_of_getElem? h1, he⟩) hn
    · exact absurd (List.mem_map.2 ⟨w, List.mem_of_getElem? h2, he.symm⟩) hn
    · rfl
/-- each row with a symbol more leads to a row's state -/
def ClosL (L : List Int → Bool) (k : Nat) (ends rows : List (List Int)) : Prop := ∀ u ∈ rows, ∀ c : Nat, c < k → markL L ends (u ++ [(c : Int)]) ∈ rows.map (markL L ends)
/-- the automaton of a table -/
structure GuessL (L : List Int → Bool) (k : Nat) (ends rows : List (List Int)) (g : Da) : Prop where
  st : g.st = 0
  len : g.nx.length = rows.length
  ac : g.ac = rows.map fun w => if L w then 0 else -1
  row : ∀ (i : Nat) (u r : List Int), rows[i]? = some u → g.nx[i]? = some r → r.length = k ∧ ∀ (c : Nat) (x : Int), r[c]? = some x → ∃ (j : Nat) (v : List Int), x = j ∧ rows[j]? = some v ∧ markL L ends v = markL L ends (u ++ [(c : Int)])
section
variable {L : List Int → Bool} {k : Nat} {ends rows : List (List Int)} {g : Da}
theorem GuessL.cols (G : GuessL L k ends rows g) (T : TabL L k ends rows) : colsD g = k := by
  have h0 := T.row0
  have hl := (List.getElem?_eq_some_iff.1 h0).1
  have hg : 0 < g.nx.length := by rw [G.len]; exact hl
  rw [← cols_at hg]
  exact (G.row 0 _ _ h0 (List.getElem?_eq_getElem hg)).1
theorem GuessL.valid (G : GuessL L k ends rows g) (T : TabL L k ends rows) (hk : 1 ≤ k ∧ k ≤ 16) (hr : rows.length ≤ 200) : VD g := by
  have hl := (List.getElem?_eq_some_iff.1 T.row0).1
  have hlen := G.len
  have hcols := G.cols T
  have hrow : ∀ r ∈ g.nx, ∃ (i : Nat) (u : List Int), rows[i]? = some u ∧ g.nx[i]? = some r := fun r hr => by
    obtain ⟨i, hi⟩ := List.getElem?_of_mem hr
    have := (List.getElem?_eq_some_iff.1 hi).1
    exact ⟨i, _, List.getElem?_eq_getElem (by omega), hi⟩
  refine ⟨by omega, by rw [G.ac, List.length_map, hlen], by omega, fun r hr => ?_, by rw [G.st]; omega, fun x hx => ?_, fun r hr x hx => ?_⟩
  · obtain ⟨i, u, h1, h2⟩ := hrow r hr
    rw [hcols]
    exact (G.row i u r h1 h2).1
  · rw [G.ac] at hx
    obtain ⟨w, _, rfl⟩ := List.mem_map.1 hx
    split <;> omega
  · obtain ⟨i, u, h1, h2⟩ := hrow r hr
    obtain ⟨c, hc⟩ := List.getElem?_of_mem hx
    obtain ⟨j, v, rfl, h3, _⟩ := (G.row i u r h1 h2).2 c x hc
    have := (List.getElem?_eq_some_iff.1 h3).1
    omega
theorem GuessL.step (G : GuessL L k ends rows g) (T : TabL L k ends rows) {i c : Nat} {u : List Int} (hu : rows[i]? = some u) (hc : c < k) : ∃ v, rows[gI g i c]? = some v ∧ markL L ends v = markL L ends (u ++ [(c : Int)]) ∧ stepD g i c = (gI g i c : Nat) := by
  have hi := (List.getElem?_eq_some_iff.1 hu).1
  have hg : i < g.nx.length := by rw [G.len]; exact hi
  have h := G.row i u _ hu (List.getElem?_eq_getElem hg)
  obtain ⟨j, v, h1, h2, h3⟩ := h.2 c _ (List.getElem?_eq_getElem (by omega))
  have hs : stepD g i c = j := by rw [step_at hg (by omega)]; exact h1
  have : gI g i c = j := by
    unfold gI
    rw [if_pos ⟨hg, by omega⟩, hs]
    simp
  rw [this]
  exact ⟨v, h2, h3, hs⟩
theorem GuessL.go (G : GuessL L k ends rows g) (T : TabL L k ends rows) : ∀ {w : List Int} {i : Nat}, i < rows.length → okK k w → goN g i w < rows.length
  | [], i, hi, _ => hi
  | c :: w, i, hi, hw => by
    have hc := hw c (by simp)
    obtain ⟨m, rfl⟩ : ∃ m : Nat, c = m := ⟨c.toNat, by omega⟩
    obtain ⟨v, h, _⟩ := G.step T (List.getElem?_eq_getElem hi) (c := m) (by omega)
    exact G.go T (w := w) (i := gI g i m) (List.getElem?_eq_some_iff.1 h).1 (fun x hx => hw x (by simp [hx]))
theorem GuessL.acc (G : GuessL L k ends rows g) {j : Nat} {v : List Int} (h : rows[j]? = some v) : fA g j = if L v then 0 else -1 := by
  have hj := (List.getElem?_eq_some_iff.1 h).1
  unfold fA
  rw [getD_append_l (by rw [G.ac]; simpa using hj), G.ac, List.getD_eq_getElem?_getD, List.getElem?_map, h]
  rfl
theorem markL_snoc (e w : List Int) : markL L (ends ++ [e]) w = markL L ends w ++ [L (w ++ e)] := by simp [markL]
/-- a new end -/
theorem TabL.split (T : TabL L k ends rows) {e : List Int} (he : okK k e) (hl : e.length ≤ 2000) : TabL L k (ends ++ [e]) rows := by
  refine ⟨T.row0, by simp [T.end0], T.rok, fun x hx => ?_, fun i j u v h1 h2 h => T.dif i j u v h1 h2 ?_⟩
  · rcases List.mem_append.1 hx with hx | hx
    · exact T.eok x hx
    · simp at hx; subst hx; exact ⟨he, hl⟩
  · rw [markL_snoc, markL_snoc] at h
    exact (List.append_inj' h rfl).1
/-- there is a state that no row leads to -/
def OpenL (L : List Int → Bool) (k : Nat) (ends rows : List (List Int)) : Prop := ∃ u ∈ rows, ∃ c : Nat, c < k ∧ markL L ends (u ++ [(c : Int)]) ∉ rows.map (markL L ends)
theorem TabL.opens (T : TabL L k ends rows) {i j c : Nat} {u v e : List Int} (hu : rows[i]? = some u) (hc : c < k) (hv : rows[j]? = some v) (hm : markL L ends v = markL L ends (u ++ [(c : Int)])) (hd : L (v ++ e) ≠ L (u ++ (c : Int) :: e)) : OpenL L k (ends ++ [e]) rows := by
  refine ⟨u, List.mem_of_getElem? hu, c, hc, fun q => ?_⟩
  obtain ⟨z, hz, h⟩ := List.mem_map.1 q
  rw [markL_snoc, markL_snoc] at h
  obtain ⟨h1, h2⟩ := List.append_inj' h rfl
  obtain ⟨y, hy⟩ := List.getElem?_of_mem hz
  have := T.dif y j z v hy hv (h1.trans hm.symm)
  subst this
  rw [hy] at hv
  cases hv
  simp only [List.cons.injEq, and_true] at h2
  rw [List.append_assoc] at h2
  exact hd h2
/-- what was found when all was gone through -/
theorem GuessL.agree (G : GuessL L k ends rows g) (T : TabL L k ends rows) {w : List Int} (hw : okK k w) (h : ∀ v, rows[goN g 0 w]? = some v → L v = L w) : decide (0 ≤ tlN g 0 w) = L w := by
  have hl := (List.getElem?_eq_some_iff.1 T.row0).1
  have := G.go T hl hw
  have h1 := h _ (List.getElem?_eq_getElem this)
  unfold tlN
  rw [G.acc (List.getElem?_eq_getElem this), h1]
  cases L w <;> simp
theorem closed_more {rows' : List (List Int)} (hO : OpenL L k ends rows) (hp : rows <+: rows') (hC : ClosL L k ends rows') : rows.length < rows'.length := by
  obtain ⟨u, hu, c, hc, hn⟩ := hO
  have := hC u (hp.subset hu) c hc
  have hle := hp.length_le
  rcases Nat.lt_or_ge rows.length rows'.length with q | q
  · exact q
  · have : rows = rows' := hp.eq_of_length (by omega)
    subst this
    exact absurd ‹_› hn
end
end Go.Proofs.Ytniobbepliknmaa.V
/- Derivations of words, and what fixpoints over them are: the plain law; no condition. -/
namespace Go.Proofs.Ytniobbepliknmaa.V
open Go
set_option linter.unusedVariables false
set_option linter.unusedSimpArgs false

/-- a list of symbols derives a word; a terminal n stands as f n -/
inductive DerF {α : Type} (f : Int → α) (rs : List Ru) : List Sy → List α → Prop
  | nil : DerF f rs [] []
  | term {l : List Sy} {w : List α} (n : Int) (h : DerF f rs l w) : DerF f rs (⟨true, n⟩ :: l) (f n :: w)
  | non {l : List Sy} {u w : List α} (r : Ru) (hr : r ∈ rs) (hu : DerF f rs r.r u) (hw : DerF f rs l w) : DerF f rs (⟨false, r.l⟩ :: l) (u ++ w)
theorem DerF.map {α : Type} (f : Int → α) {rs : List Ru} {l : List Sy} {w : List Int} (h : DerF id rs l w) : DerF f rs l (w.map f) := by
  induction h with
  | nil => exact .nil
  | term n _ ih => exact .term n ih
  | non r hr _ _ ih1 ih2 => rw [List.map_append]; exact .non r hr ih1 ih2
/-! words put together out of sets of words -/
def SyC {α : Type} (f : Int → α) (E : Int → List α → Prop) (s : Sy) (w : List α) : Prop := if s.t = true then w = [f s.n] else E s.n w
theorem SyC.mono {α : Type} {f : Int → α} {E E' : Int → List α → Prop} (h : ∀ a w, E a w → E' a w) {s : Sy} {w : List α} (q : SyC f E s w) : SyC f E' s w := by
  unfold SyC at *
  split
  · rename_i e; rw [if_pos e] at q; exact q
  · rename_i e; rw [if_neg e] at q; exact h _ _ q

/-! places in a word -/
def Stp (E : Int → Nat → Nat → Prop) (w : List Int) (s : Sy) (i k : Nat) : Prop := if s.t = true then w[i]? = some s.n ∧ k = i + 1 else E s.n i k
def Rch (E : Int → Nat → Nat → Prop) (w : List Int) : List Sy → Nat → Nat → Prop
  | [], i, j => j = i
  | s :: l, i, j => ∃ k, Stp E w s i k ∧ Rch E w l k j
theorem Stp.mono {E E' : Int → Nat → Nat → Prop} (h : ∀ a i j, E a i j → E' a i j) {w : List Int} {s : Sy} {i j : Nat} (q : Stp E w s i j) : Stp E' w s i j := by
  unfold Stp at *
  split
  · rename_i e; rw [if_pos e] at q; exact q
  · rename_i e; rw [if_neg e] at q; exact h _ _ _ q
theorem Rch.mono {E E' : Int → Nat → Nat → Prop} (h : ∀ a i j, E a i j → E' a i j) {w : List Int} : ∀ {l : List Sy} {i j : Nat}, Rch E w l i j → Rch E' w l i j
  | [], _, _, q => q
  | _ :: _, _, _, ⟨k, h1, h2⟩ => ⟨k, h1.mono h, Rch.mono h h2⟩
end Go.Proofs.Ytniobbepliknmaa.V
/- The words of a grammar by sets of texts: parlref5.WordsOf; no condition. -/
namespace Go.Proofs.Ytniobbepliknmaa.V
open Go
set_option linter.unusedVariables false
set_option linter.unusedSimpArgs false
attribute [local go_sem] e_seq e_region e_quiet e_join e_loop e_cond e_block e_exit e_ret e_skip e_fin e_kseq e_snrm e_sret e_sex e_bnrm e_bret e_bex e_rnrm e_rret e_res e_condC e_nil e_g e_mv g_mv e_pick g_pick pickC_eq e_ibin g_ibin ibinC_eq e_sbin g_sbin e_beq g_beq beqC_eq e_nilq g_nilq nilqC_sl nilqC_pt nilqC_mp e_un g_un unC_not unC_neg e_conv g_conv convC_eq e_fld g_fld fldC_ref fldC_ptr e_nilCheck g_nilCheck nilCheckC_ref nilCheckC_ptr nilCheckC_fun e_field g_field fieldC_eq e_len g_len lenC_sl lenC_str e_extract g_extract extractC_eq e_mkFunc e_build g_build e_idiv g_idiv idivC_eq e_ishift g_ishift ishiftC_eq e_idx g_idx e_idxA g_idxA e_load g_load e_loadB g_loadB atB_ref atB_v g_mkFunc loadC_ref loadC_ptr loadB_eq e_slc g_slc e_box boxC_loc boxC_esc e_alloc allocC_loc allocC_esc e_buildS e_store storeC_ref storeC_ptr storeB_eq e_append e_appz e_mk mkC_eq e_call callC_eq e_fn g_fn fnC_eq fnV_min' fnV_max' fnV_rune' e_q g_q e_a e_n g_call g_box g_alloc g_buildS g_store g_append g_mk g_a g_n g_dead e_dead e_callK e_drawn e_tree e_finJ e_tk e_tfin e_tno e_nbt_q e_nbt_qn e_nbt_a e_nbt_an e_nbt_fin e_drawnB e_bxb_nil e_bxb e_stB_none e_stB_some boxSt_store bs_mv bs_pick bs_ibin bs_idiv bs_ishift bs_sbin bs_beq bs_nilq bs_un bs_conv bs_box bs_alloc bs_build bs_buildS bs_load bs_fld bs_nilCheck bs_idx bs_idxA bs_field bs_slc bs_len bs_append bs_appz bs_mk bs_call bs_extract bs_mkFunc bs_fn bs_q bs_a bs_n bs_loadB bs_dead isBox_box e_early_nil e_early_t e_early_f e_nob_nil e_nob_none e_nob_some isBox_dead isBox_v isBox_ref e_dnil e_dk e_ek e_finB vcOps_vc1 e_dcons e_tq e_ekt e_tearly e_talt e_dearly look_nil look_c proj_nil proj_c looks_nil looks_c zip_nil zip_c val_tmp val_const val_func slv_v slv_box slv_ref slot_tmp slot_const slot_func slotL_v slotL_box slotL_ref put_some put_none updBox_c boxSet_box gd_eq slotVals_nil slotVals_c slotVals_b boxV_box boxOn_box slotsOn_nil slotsOn_c slotsOn_b resV_one resV_two vals_nil vals_c allOn_nil allOn_c partOn_nil partOn_c partVals_nil partVals_c fits_nil fits_c fillL_nil fillL_c mkv_one mkv_agg cellsV_agg cellsV_int cellsV_bool cellsV_slice cellsV_string cellsV_pointer cellsV_func cellsV_nilf cellsV_map one'_nil one'_c oc_int oc_bool oc_slice oc_string oc_pointer oc_func oc_nilf oc_map setC_eq iv_add iv_sub iv_mul iv_eql iv_neq iv_lss iv_leq iv_gtr iv_geq iok_add iok_sub iok_mul iok_eql iok_neq iok_lss iok_leq iok_gtr iok_geq pickV_bool args0_nil args0_c bnd_none bnd_some imp_bt imp_bf imp_ebt imp_ebf imp_eb1 imp_np imp_pp beq_tt beq_tf beq_ft beq_ff cond_or cond_and e_round e_meet Int.le_refl Int.toNat_zero decide_true decide_false Bool.or_false Bool.false_or Bool.true_or Bool.or_true Bool.and_false Bool.false_and Bool.bne_false Bool.bne_true beq_iff_eq Int.cast_ofNat_Int not_false_eq_true not_true_eq_false false_and and_false false_implies true_implies true_and and_true Bool.true_and Bool.and_true Bool.not_true Bool.not_false forall_const implies_true List.take_zero List.drop_zero List.take_succ_cons List.drop_succ_cons List.take_nil List.drop_nil List.length_cons List.length_nil List.nil_append List.append_nil List.cons_append Int.toNat_natCast decide_eq_true_eq decide_eq_false_iff_not cond_true cond_false and_self List.getElem?_cons_zero List.getElem?_cons_succ List.set_cons_zero List.set_cons_succ Option.some.injEq exists_eq_left' Nat.zero_add Nat.add_zero Nat.mul_one imp_self true_or or_true or_false false_or Bool.or_eq_true Bool.or_eq_false_iff Bool.and_eq_true Bool.and_eq_false_iff Bool.not_eq_true' Bool.not_eq_false'

def u8 (x : Int) : UInt8 := UInt8.ofNat x.toNat
end Go.Proofs.Ytniobbepliknmaa.V
/- The text of parlance/learn.name as a statement (slots: 0 w, 1 w, 3 b, 4 i, 5 x); no condition. -/
namespace Go.Proofs.Ytniobbepliknmaa.V
open Go
def S192_1 : Stmt :=
  Stmt.seq
  (Stmt.region [SOper.mk (some 12) none (SOp.ibin BinOp.lss (Operand.tmp 11) (Operand.tmp 10))] [3, 9, 10, 11, 12])
  (Stmt.seq (Stmt.cond (Operand.tmp 12) Stmt.skip (Stmt.exit 0))
    (Stmt.seq
      (Stmt.block 1
        (Stmt.seq
          (Stmt.region
            [SOper.mk (some 13) none (SOp.mv (Operand.tmp 11)),
              SOper.mk (some 14) none (SOp.idx 1 (Operand.tmp 9) (Operand.tmp 11)),
              SOper.mk (some 15) none (SOp.load false 1 (Operand.tmp 14)),
              SOper.mk (some 4) none (SOp.mv (Operand.tmp 13)), SOper.mk (some 5) none (SOp.mv (Operand.tmp 15))]
            [3, 4, 5, 9, 10, 11])
          (Stmt.region
            [SOper.mk (some 16) none (SOp.mv (Operand.tmp 3)), SOper.mk (some 17) none (SOp.mv (Operand.tmp 4)),
              SOper.mk (some 18) none (SOp.mv (Operand.tmp 5)),
              SOper.mk (some 19) none (SOp.conv IntKind.u8 (Operand.tmp 18)),
              SOper.mk (some 20) none (SOp.idx 1 (Operand.tmp 16) (Operand.tmp 17)),
              SOper.mk none none (SOp.store 1 (Operand.tmp 20) (Operand.tmp 19))]
            [3, 9, 10, 11])))
      (Stmt.region
        [SOper.mk (some 21) none (SOp.ibin BinOp.add (Operand.tmp 11) (Operand.const (Value.int IntKind.i64 1))),
          SOper.mk (some 11) none (SOp.mv (Operand.tmp 21))]
        [3, 9, 10, 11])))
def S192_0 : Stmt :=
  Stmt.seq (Stmt.region [SOper.mk (some 2) none (SOp.mv (Operand.const (Value.string (ByteArray.mk (Array.mk [])))))] [0])
  (Stmt.seq
    (Stmt.region
      [SOper.mk (some 6) none (SOp.mv (Operand.tmp 0)), SOper.mk (some 7) none (SOp.len false (Operand.tmp 6)),
        SOper.mk (some 8) none (SOp.mk 5 1 1 (Value.int IntKind.u8 0) (Operand.tmp 7) (Operand.tmp 7)),
        SOper.mk (some 3) none (SOp.mv (Operand.tmp 8))]
      [0, 3])
    (Stmt.seq
      (Stmt.seq
        (Stmt.region
          [SOper.mk (some 9) none (SOp.mv (Operand.tmp 0)), SOper.mk (some 10) none (SOp.len false (Operand.tmp 9)),
            SOper.mk (some 11) none (SOp.mv (Operand.const (Value.int IntKind.i64 0)))]
          [3, 9, 10, 11])
        (Stmt.block 0 (Stmt.loop S192_1 [11] [3, 9, 10])))
      (Stmt.seq
        (Stmt.region
          [SOper.mk (some 22) none (SOp.mv (Operand.tmp 3)),
            SOper.mk (some 23) none (SOp.q (Qk.cnv 233 9) [Operand.tmp 22]),
            SOper.mk (some 2) none (SOp.mv (Operand.tmp 23))]
          [2])
        Stmt.ret)))
def S192 : FnS := ⟨24, [(2, none)], S192_0⟩
theorem tr192 : trFn Try.prog 192 [] [[0], [0, 3], [3, 9, 10, 11], [11], [3, 9, 10], [3, 9, 10, 11, 12], [3, 4, 5, 9, 10, 11], [3, 9, 10, 11], [3, 9, 10, 11], [2]] = some S192 := by kernel_rfl
end Go.Proofs.Ytniobbepliknmaa.V
/- The text of (*parlance/learn.table).ask as a statement (slots: 0 t, 1 w, 2 t, 3 w, 5 k, 6 v, 7 ok); no condition. -/
namespace Go.Proofs.Ytniobbepliknmaa.V
open Go
def S159_1 : Stmt :=
  Stmt.seq
  (Stmt.region
    [SOper.mk (some 19) none (SOp.mv (Operand.tmp 7)), SOper.mk (some 20) none (SOp.un UnOp.not (Operand.tmp 19))]
    [0, 1, 5, 6, 20])
  (Stmt.cond (Operand.tmp 20)
    (Stmt.seq
      (Stmt.drawn
        [(false, SOper.mk (some 21) none (SOp.mv (Operand.tmp 0))),
          (false, SOper.mk (some 22) none (SOp.nilCheck (Operand.tmp 21))),
          (false, SOper.mk (some 23) none (SOp.fld 1 (Operand.tmp 22))),
          (true, SOper.mk (some 24) none (SOp.load false 1 (Operand.tmp 23))),
          (false, SOper.mk (some 25) none (SOp.mv (Operand.tmp 1))),
          (false,
            SOper.mk (some 26) none
              (SOp.append 29 3 1 8 (Value.int IntKind.i64 0) (Operand.const (Value.slice none 0 0)) (Operand.tmp 25))),
          (false, SOper.mk (some 27) none (SOp.call (Operand.tmp 24) [Operand.tmp 26])),
          (false, SOper.mk (some 6) none (SOp.mv (Operand.tmp 27)))]
        [0, 5, 6])
      (Stmt.region
        [SOper.mk (some 28) none (SOp.mv (Operand.tmp 0)), SOper.mk (some 29) none (SOp.nilCheck (Operand.tmp 28)),
          SOper.mk (some 30) none (SOp.fld 2 (Operand.tmp 29)),
          SOper.mk (some 31) none (SOp.load false 1 (Operand.tmp 30)), SOper.mk (some 32) none (SOp.mv (Operand.tmp 5)),
          SOper.mk (some 33) none (SOp.mv (Operand.tmp 6)),
          SOper.mk none none (SOp.a (Qk.upd 118) [Operand.tmp 31, Operand.tmp 32, Operand.tmp 33])]
        [6]))
    Stmt.skip)
def S159_2 : Stmt :=
  Stmt.seq
  (Stmt.region [SOper.mk (some 34) none (SOp.mv (Operand.tmp 6)), SOper.mk (some 4) none (SOp.mv (Operand.tmp 34))] [4])
  Stmt.ret
def S159_0 : Stmt :=
  Stmt.seq (Stmt.region [SOper.mk (some 4) none (SOp.mv (Operand.const (Value.bool false)))] [0, 1])
  (Stmt.seq
    (Stmt.region
      [SOper.mk (some 8) none (SOp.mv (Operand.tmp 1)),
        SOper.mk (some 9) none (SOp.call (Operand.func 192) [Operand.tmp 8]),
        SOper.mk (some 5) none (SOp.mv (Operand.tmp 9))]
      [0, 1, 5])
    (Stmt.seq
      (Stmt.region
        [SOper.mk (some 11) none (SOp.mv (Operand.tmp 0)), SOper.mk (some 12) none (SOp.nilCheck (Operand.tmp 11)),
          SOper.mk (some 13) none (SOp.fld 2 (Operand.tmp 12)),
          SOper.mk (some 14) none (SOp.load false 1 (Operand.tmp 13)), SOper.mk (some 15) none (SOp.mv (Operand.tmp 5)),
          SOper.mk (some 16) none (SOp.q (Qk.look 118 true) [Operand.tmp 14, Operand.tmp 15]),
          SOper.mk (some 10) none (SOp.mv (Operand.tmp 16)), SOper.mk (some 17) none (SOp.extract 0 (Operand.tmp 10)),
          SOper.mk (some 18) none (SOp.extract 1 (Operand.tmp 10)), SOper.mk (some 6) none (SOp.mv (Operand.tmp 17)),
          SOper.mk (some 7) none (SOp.mv (Operand.tmp 18))]
        [0, 1, 5, 6, 7])
      (Stmt.join S159_1 S159_2 [6] [])))
def S159 : FnS := ⟨35, [(4, none)], S159_0⟩
theorem tr159 : trFn Try.prog 159 [] [[0, 1], [0, 1, 5], [0, 1, 5, 6, 7], [6], [], [0, 1, 5, 6, 20], [0, 5, 6], [0, 1, 2, 3, 4, 5, 6, 7], [3], [], [0], [0, 1], [0, 1, 2], [], [4], [0, 1, 2, 3, 4, 5], [0, 1, 2, 3, 4, 5, 6], [6], [4]] = some S159 := by kernel_rfl
end Go.Proofs.Ytniobbepliknmaa.V
/- The text of (*parlance/learn.table).mark as a statement (slots: 0 t, 1 w, 2 t, 3 w, 5 b, 6 i, 7 e); no condition. -/
namespace Go.Proofs.Ytniobbepliknmaa.V
open Go
def S191_1 : Stmt :=
  Stmt.block 1
  (Stmt.seq
    (Stmt.region
      [SOper.mk (some 21) none (SOp.mv (Operand.tmp 19)),
        SOper.mk (some 22) none (SOp.idx 1 (Operand.tmp 17) (Operand.tmp 19)),
        SOper.mk (some 23) none (SOp.load false 1 (Operand.tmp 22)), SOper.mk (some 6) none (SOp.mv (Operand.tmp 21)),
        SOper.mk (some 7) none (SOp.mv (Operand.tmp 23))]
      [0, 1, 5, 6, 7, 17, 18, 19])
    (Stmt.seq
      (Stmt.region
        [SOper.mk (some 24) none (SOp.mv (Operand.tmp 5)), SOper.mk (some 25) none (SOp.mv (Operand.tmp 6)),
          SOper.mk (some 26) none (SOp.idx 1 (Operand.tmp 24) (Operand.tmp 25)),
          SOper.mk none none (SOp.store 1 (Operand.tmp 26) (Operand.const (Value.int IntKind.u8 48)))]
        [0, 1, 5, 6, 7, 17, 18, 19])
      (Stmt.seq
        (Stmt.region
          [SOper.mk (some 27) none (SOp.mv (Operand.tmp 0)), SOper.mk (some 28) none (SOp.mv (Operand.tmp 1)),
            SOper.mk (some 29) none
              (SOp.append 29 3 1 8 (Value.int IntKind.i64 0) (Operand.const (Value.slice none 0 0)) (Operand.tmp 28)),
            SOper.mk (some 30) none (SOp.mv (Operand.tmp 7)),
            SOper.mk (some 31) none (SOp.append 29 3 1 8 (Value.int IntKind.i64 0) (Operand.tmp 29) (Operand.tmp 30)),
            SOper.mk (some 32) none (SOp.call (Operand.func 159) [Operand.tmp 27, Operand.tmp 31])]
          [0, 1, 5, 6, 17, 18, 19, 32])
        (Stmt.cond (Operand.tmp 32)
          (Stmt.region
            [SOper.mk (some 33) none (SOp.mv (Operand.tmp 5)), SOper.mk (some 34) none (SOp.mv (Operand.tmp 6)),
              SOper.mk (some 35) none (SOp.idx 1 (Operand.tmp 33) (Operand.tmp 34)),
              SOper.mk none none (SOp.store 1 (Operand.tmp 35) (Operand.const (Value.int IntKind.u8 49)))]
            [0, 1, 5, 17, 18, 19])
          Stmt.skip))))
def S191_2 : Stmt :=
  Stmt.region
  [SOper.mk (some 36) none (SOp.ibin BinOp.add (Operand.tmp 19) (Operand.const (Value.int IntKind.i64 1))),
    SOper.mk (some 19) none (SOp.mv (Operand.tmp 36))]
  [0, 1, 5, 17, 18, 19]
def S191_3 : Stmt :=
  Stmt.seq
  (Stmt.region [SOper.mk (some 20) none (SOp.ibin BinOp.lss (Operand.tmp 19) (Operand.tmp 18))]
    [0, 1, 5, 17, 18, 19, 20])
  (Stmt.seq (Stmt.cond (Operand.tmp 20) Stmt.skip (Stmt.exit 0)) (Stmt.join S191_1 S191_2 [] [0, 1, 5, 17, 18, 19]))
def S191_0 : Stmt :=
  Stmt.seq
  (Stmt.region [SOper.mk (some 4) none (SOp.mv (Operand.const (Value.string (ByteArray.mk (Array.mk [])))))] [0, 1])
  (Stmt.seq
    (Stmt.region
      [SOper.mk (some 8) none (SOp.mv (Operand.tmp 0)), SOper.mk (some 9) none (SOp.nilCheck (Operand.tmp 8)),
        SOper.mk (some 10) none (SOp.fld 4 (Operand.tmp 9)),
        SOper.mk (some 11) none (SOp.load false 1 (Operand.tmp 10)),
        SOper.mk (some 12) none (SOp.len false (Operand.tmp 11)),
        SOper.mk (some 13) none (SOp.mk 5 1 1 (Value.int IntKind.u8 0) (Operand.tmp 12) (Operand.tmp 12)),
        SOper.mk (some 5) none (SOp.mv (Operand.tmp 13))]
      [0, 1, 5])
    (Stmt.seq
      (Stmt.seq
        (Stmt.region
          [SOper.mk (some 14) none (SOp.mv (Operand.tmp 0)), SOper.mk (some 15) none (SOp.nilCheck (Operand.tmp 14)),
            SOper.mk (some 16) none (SOp.fld 4 (Operand.tmp 15)),
            SOper.mk (some 17) none (SOp.load false 1 (Operand.tmp 16)),
            SOper.mk (some 18) none (SOp.len false (Operand.tmp 17)),
            SOper.mk (some 19) none (SOp.mv (Operand.const (Value.int IntKind.i64 0)))]
          [0, 1, 5, 17, 18, 19])
        (Stmt.block 0 (Stmt.loop S191_3 [19] [0, 1, 5, 17, 18])))
      (Stmt.seq
        (Stmt.region
          [SOper.mk (some 37) none (SOp.mv (Operand.tmp 5)),
            SOper.mk (some 38) none (SOp.q (Qk.cnv 233 9) [Operand.tmp 37]),
            SOper.mk (some 4) none (SOp.mv (Operand.tmp 38))]
          [4])
        Stmt.ret)))
def S191 : FnS := ⟨39, [(4, none)], S191_0⟩
theorem tr191 : trFn Try.prog 191 [] [[0, 1], [0, 1, 5], [0, 1, 5, 17, 18, 19], [19], [0, 1, 5, 17, 18], [0, 1, 5, 17, 18, 19, 20], [], [0, 1, 5, 17, 18, 19], [0, 1, 5, 6, 7, 17, 18, 19], [0, 1, 5, 6, 7, 17, 18, 19], [0, 1, 5, 6, 17, 18, 19, 32], [0, 1, 5, 17, 18, 19], [0, 1, 5, 17, 18, 19], [4]] = some S191 := by kernel_rfl
end Go.Proofs.Ytniobbepliknmaa.V
/- learn.name, table.ask, table.mark walked; no condition. -/
namespace Go.Proofs.Ytniobbepliknmaa.V
open Go
set_option linter.unusedVariables false
set_option linter.unusedSimpArgs false
attribute [local go_sem] e_seq e_region e_quiet e_join e_loop e_cond e_block e_exit e_ret e_skip e_fin e_kseq e_snrm e_sret e_sex e_bnrm e_bret e_bex e_rnrm e_rret e_res e_condC e_nil e_g e_mv g_mv e_pick g_pick pickC_eq e_ibin g_ibin ibinC_eq e_sbin g_sbin e_beq g_beq beqC_eq e_nilq g_nilq nilqC_sl nilqC_pt nilqC_mp e_un g_un unC_not unC_neg e_conv g_conv convC_eq e_fld g_fld fldC_ref fldC_ptr e_nilCheck g_nilCheck nilCheckC_ref nilCheckC_ptr nilCheckC_fun e_field g_field fieldC_eq e_len g_len lenC_sl lenC_str e_extract g_extract extractC_eq e_mkFunc e_build g_build e_idiv g_idiv idivC_eq e_ishift g_ishift ishiftC_eq e_idx g_idx e_idxA g_idxA e_load g_load e_loadB g_loadB atB_ref atB_v g_mkFunc loadC_ref loadC_ptr loadB_eq e_slc g_slc e_box boxC_loc boxC_esc e_alloc allocC_loc allocC_esc e_buildS e_store storeC_ref storeC_ptr storeB_eq e_append e_appz e_mk mkC_eq e_call callC_eq e_fn g_fn fnC_eq fnV_min' fnV_max' fnV_rune' e_q g_q e_a e_n g_call g_box g_alloc g_buildS g_store g_append g_mk g_a g_n g_dead e_dead e_callK e_drawn e_tree e_finJ e_tk e_tfin e_tno e_nbt_q e_nbt_qn e_nbt_a e_nbt_an e_nbt_fin e_drawnB e_bxb_nil e_bxb e_stB_none e_stB_some boxSt_store bs_mv bs_pick bs_ibin bs_idiv bs_ishift bs_sbin bs_beq bs_nilq bs_un bs_conv bs_box bs_alloc bs_build bs_buildS bs_load bs_fld bs_nilCheck bs_idx bs_idxA bs_field bs_slc bs_len bs_append bs_appz bs_mk bs_call bs_extract bs_mkFunc bs_fn bs_q bs_a bs_n bs_loadB bs_dead isBox_box e_early_nil e_early_t e_early_f e_nob_nil e_nob_none e_nob_some isBox_dead isBox_v isBox_ref e_dnil e_dk e_ek e_finB vcOps_vc1 e_dcons e_tq e_ekt e_tearly e_talt e_dearly look_nil look_c proj_nil proj_c looks_nil looks_c zip_nil zip_c val_tmp val_const val_func slv_v slv_box slv_ref slot_tmp slot_const slot_func slotL_v slotL_box slotL_ref put_some put_none updBox_c boxSet_box gd_eq slotVals_nil slotVals_c slotVals_b boxV_box boxOn_box slotsOn_nil slotsOn_c slotsOn_b resV_one resV_two vals_nil vals_c allOn_nil allOn_c partOn_nil partOn_c partVals_nil partVals_c fits_nil fits_c fillL_nil fillL_c mkv_one mkv_agg cellsV_agg cellsV_int cellsV_bool cellsV_slice cellsV_string cellsV_pointer cellsV_func cellsV_nilf cellsV_map one'_nil one'_c oc_int oc_bool oc_slice oc_string oc_pointer oc_func oc_nilf oc_map setC_eq iv_add iv_sub iv_mul iv_eql iv_neq iv_lss iv_leq iv_gtr iv_geq iok_add iok_sub iok_mul iok_eql iok_neq iok_lss iok_leq iok_gtr iok_geq pickV_bool args0_nil args0_c bnd_none bnd_some imp_bt imp_bf imp_ebt imp_ebf imp_eb1 imp_np imp_pp beq_tt beq_tf beq_ft beq_ff cond_or cond_and e_round e_meet Int.le_refl Int.toNat_zero decide_true decide_false Bool.or_false Bool.false_or Bool.true_or Bool.or_true Bool.and_false Bool.false_and Bool.bne_false Bool.bne_true beq_iff_eq Int.cast_ofNat_Int not_false_eq_true not_true_eq_false false_and and_false false_implies true_implies true_and and_true Bool.true_and Bool.and_true Bool.not_true Bool.not_false forall_const implies_true List.take_zero List.drop_zero List.take_succ_cons List.drop_succ_cons List.take_nil List.drop_nil List.length_cons List.length_nil List.nil_append List.append_nil List.cons_append Int.toNat_natCast decide_eq_true_eq decide_eq_false_iff_not cond_true cond_false and_self List.getElem?_cons_zero List.getElem?_cons_succ List.set_cons_zero List.set_cons_succ Option.some.injEq exists_eq_left' Nat.zero_add Nat.add_zero Nat.mul_one imp_self true_or or_true or_false false_or Bool.or_eq_true Bool.or_eq_false_iff Bool.and_eq_true Bool.and_eq_false_iff Bool.not_eq_true' Bool.not_eq_false'

theorem kt_strL {P : Program} {k : TypeId} (hk : P.underlying k = some .string) : KT P k strB (fun l => l.length ≤ 100000) :=
  KT.of (Maps.string_keyed hk) strB_inj fun a ha => ⟨Lit.string a, by simp [strB, keyOf, hk, mapKey, ByteArray.size]; unfold maxLen; omega⟩
theorem learn_name {Γr : Ctx} {W : Option Addr} {d : Nat} {w : List Int} (hw : SlOk (lk Γr) W d w) (hl : w.length ≤ 100000) (hb : ∀ x ∈ w, 0 ≤ x ∧ x < 256) :
    Ret Try.prog 192 [.slice W w.length d] Γr [] (fun v Γ => Γ = [] ∧ v = strB (w.map u8)) := by
  generalize hR : (fun (v : Value) (Γ : Ctx) => Γ = [] ∧ v = _) = R
  refine ret_of_vc tr192 (Nat.le_of_ble_eq_true rfl) ?_
  simp -implicitDefEqProofs only [S192, S192_0, go_sem, Nat.reduceBEq, Nat.reduceAdd, Nat.reduceSub, Nat.reduceMul, Nat.reduceLeDiff, reduceCtorEq, ↓reduceIte, Int.reduceLT, Int.reduceLE, Int.reduceEq, Int.reduceNe]
  refine ⟨by omega, by omega, fun bb => ?_⟩
  refine s_loop (fun f vs Γ => ∃ (k : Nat) (gb : PH) (xs : List By), vs = [.v true (.int .i64 k)] ∧ Γ = [gb] ∧ k + f = w.length ∧ Arr gb bb 5 xs ∧ xs.length = w.length ∧ ∀ i (h : i < xs.length) (h' : i < w.length), i < k → xs[i].n = u8 w[i]) w.length
    (Up.here ⟨0, _, _, rfl, rfl, by omega, Arr.made (⟨0⟩ : By) bb 5 w.length, by simp, fun i _ _ h => by omega⟩) ?_
  rintro f vs Γ ⟨k, gb, xs, rfl, rfl, hkf, hA, hxl, hxs⟩
  simp -implicitDefEqProofs only [S192_1, go_sem, Nat.reduceBEq, Nat.reduceAdd, Nat.reduceSub, Nat.reduceMul, Nat.reduceLeDiff, reduceCtorEq, ↓reduceIte, Int.reduceLT, Int.reduceLE, Int.reduceEq, Int.reduceNe]
  refine ⟨fun hlt => ?_, fun hge => ?_⟩
  · have hk : k < w.length := by omega
    obtain ⟨b1, o1, hA1, hc1⟩ := hw.int hk
    have hx := hb _ (List.getElem_mem hk)
    refine s_idx hA1 (by omega) (by omega) ?_
    simp -implicitDefEqProofs only [go_sem, Nat.reduceBEq, Nat.reduceAdd, Nat.reduceSub, Nat.reduceMul, Nat.reduceLeDiff, reduceCtorEq, ↓reduceIte, Int.reduceLT, Int.reduceLE, Int.reduceEq, Int.reduceNe]
    refine s_ld0 (hc1 _ (lk_r _ _)) (by simp) (by simp) ?_
    simp -implicitDefEqProofs only [go_sem, Nat.reduceBEq, Nat.reduceAdd, Nat.reduceSub, Nat.reduceMul, Nat.reduceLeDiff, reduceCtorEq, ↓reduceIte, Int.reduceLT, Int.reduceLE, Int.reduceEq, Int.reduceNe]
    refine s_idx rfl (by omega) (by omega) ?_
    simp -implicitDefEqProofs only [wrap_by hx.1 hx.2, go_sem, Nat.reduceBEq, Nat.reduceAdd, Nat.reduceSub, Nat.reduceMul, Nat.reduceLeDiff, reduceCtorEq, ↓reduceIte, Int.reduceLT, Int.reduceLE, Int.reduceEq, Int.reduceNe]
    refine s_storeA (ix := 0) (α := By) (⟨u8 w[k]⟩ : By) rfl hA (i := k) (by omega) ?_
    intro gb' hA' _
    simp -implicitDefEqProofs only [go_sem, Nat.reduceBEq, Nat.reduceAdd, Nat.reduceSub, Nat.reduceMul, Nat.reduceLeDiff, reduceCtorEq, ↓reduceIte, Int.reduceLT, Int.reduceLE, Int.reduceEq, Int.reduceNe]
    simp (disch := omega) only [wrap_id]
    refine ⟨f - 1, by omega, Up.here ⟨k + 1, gb', _, rfl, rfl, by omega, hA', by simpa using hxl, fun i h h' hi => ?_⟩⟩
    rw [List.getElem_set]
    split
    · rename_i e; subst e; rfl
    · exact hxs i (by simpa using h) h' (by omega)
  · have hk : k = w.length := by omega
    have hs : SlOk (lk [gb]) (some ⟨bb, 0, none⟩) w.length xs := hA.slok (Mem.le.refl _) (by omega) (by unfold maxLen; omega) (by omega)
    have hq := qr_bytes (P := Try.prog) (Γ := gb :: Γr) (s := 233) (d := 9) (e := 5) (by kernel_rfl) (by kernel_rfl) (by kernel_rfl) hs (lk_sub (by simp))
    rw [hxl] at hq
    refine s_q trivial hq ?_
    simp -implicitDefEqProofs only [go_sem, Nat.reduceBEq, Nat.reduceAdd, Nat.reduceSub, Nat.reduceMul, Nat.reduceLeDiff, reduceCtorEq, ↓reduceIte, Int.reduceLT, Int.reduceLE, Int.reduceEq, Int.reduceNe]
    refine Up.to [] (Ent.nil _) ?_
    subst hR
    refine ⟨rfl, ?_⟩
    have : xs.map (·.n) = w.map u8 := by
      apply List.ext_getElem
      · simp [hxl]
      · intro i h1 h2
        simp only [List.getElem_map]
        simp at h1 h2
        exact hxs i h1 h2 (by omega)
    rw [this]
    rfl
theorem u8_injL {k : Nat} (hk : k ≤ 16) : ∀ {v w : List Int}, okK k v → okK k w → v.map u8 = w.map u8 → v = w
  | [], [], _, _, _ => rfl
  | [], _ :: _, _, _, h => by simp at h
  | _ :: _, [], _, _, h => by simp at h
  | a :: v, b :: w, hv, hw, h => by
    simp only [List.map_cons, List.cons.injEq] at h
    have h1 := hv a (by simp)
    have h2 := hw b (by simp)
    have h3 := congrArg UInt8.toNat h.1
    simp only [u8, UInt8.toNat_ofNat'] at h3
    have : a = b := by omega
    rw [this, u8_injL hk (fun x hx => hv x (by simp [hx])) (fun x hx => hw x (by simp [hx])) h.2]
/-- what was asked before -/
def Known (g : PH) (b k : Nat) (L : List Int → Bool) : Prop := ∃ l : List (List UInt8 × Bool), MapM g b strB Value.bool (fun l => l.length ≤ 100000) l ∧ ∀ p ∈ l, ∃ w, okK k w ∧ p.1 = w.map u8 ∧ p.2 = L w
/-- a function value that answers which words are in a language -/
def MemOk (Γr : Ctx) (fv : Value) (k : Nat) (L : List Int → Bool) : Prop := ∃ f c1 c2, fv = .func (.func f) c1 c2 ∧ ∀ (Γ : Ctx) (w : List Int) (W : Option Addr) (c : Nat), Mem.le (lk Γr) (lk Γ) → SlOk (lk Γ) W c w → okK k w → w.length ≤ 5000 →
  Ret Try.prog f (c1.toList ++ [.slice W w.length c] ++ c2.toList) Γ [] (fun v Γ' => Γ' = [] ∧ v = .bool (L w))
section
variable {Γr : Ctx} {t bk k : Nat} {fv rv ev : Value} {L : List Int → Bool} {gk : PH}
theorem learn_ask (hT : lk Γr t (.cells [.int .i64 (k : Int), fv, .map (some bk), rv, ev].toArray 198 (0, 0))) (hm : MemOk Γr fv k L) (hK : Known gk bk k L) (hk : k ≤ 16) {W : Option Addr} {c : Nat} {w : List Int} (hw : SlOk (lk Γr) W c w) (hok : okK k w) (hl : w.length ≤ 5000) :
    Ret Try.prog 159 [.pointer (some ⟨t, 0, none⟩), .slice W w.length c] Γr [gk] (fun v Γ => ∃ gk', Γ = [gk'] ∧ Known gk' bk k L ∧ v = .bool (L w)) := by
  generalize hR : (fun (v : Value) (Γ : Ctx) => ∃ gk', _) = R
  refine ret_of_vc tr159 (Nat.le_of_ble_eq_true rfl) ?_
  obtain ⟨l, hM, hI⟩ := hK
  have hb : ∀ x ∈ w, 0 ≤ x ∧ x < 256 := fun x hx => by have := hok x hx; omega
  simp -implicitDefEqProofs only [S159, S159_0, go_sem, Nat.reduceBEq, Nat.reduceAdd, Nat.reduceSub, Nat.reduceMul, Nat.reduceLeDiff, reduceCtorEq, ↓reduceIte, Int.reduceLT, Int.reduceLE, Int.reduceEq, Int.reduceNe]
  refine CallVC.read (learn_name (hw.mono (lk_r _ _)) (by omega) hb) ?_
  rintro v Γ' ⟨rfl, rfl⟩
  simp -implicitDefEqProofs only [go_sem, Nat.reduceBEq, Nat.reduceAdd, Nat.reduceSub, Nat.reduceMul, Nat.reduceLeDiff, reduceCtorEq, ↓reduceIte, Int.reduceLT, Int.reduceLE, Int.reduceEq, Int.reduceNe]
  refine s_ld (j := 2) (cells_lk (lk_r _ _ _ _ hT)) (by simp) (by simp) ?_
  simp -implicitDefEqProofs only [go_sem, Nat.reduceBEq, Nat.reduceAdd, Nat.reduceSub, Nat.reduceMul, Nat.reduceLeDiff, reduceCtorEq, ↓reduceIte, Int.reduceLT, Int.reduceLE, Int.reduceEq, Int.reduceNe]
  have hgood : (w.map u8).length ≤ 100000 := by rw [List.length_map]; omega
  refine s_q trivial (qr_look (kt_strL (k := 9) (by kernel_rfl)) (t := 118) (et := 4) (z := .bool false) (by kernel_rfl) (zero_run (by kernel_rfl)) true (hM.l (by simp)) hgood) ?_
  simp -implicitDefEqProofs only [go_sem, Nat.reduceBEq, Nat.reduceAdd, Nat.reduceSub, Nat.reduceMul, Nat.reduceLeDiff, reduceCtorEq, ↓reduceIte, Int.reduceLT, Int.reduceLE, Int.reduceEq, Int.reduceNe]
  refine s_join (fun vs Γ' => vs = [.v true (.bool (L w))] ∧ ∃ gk', Γ' = [gk'] ∧ Known gk' bk k L) ?_ ?_
  · cases hg : mget l (w.map u8) with
    | some v =>
      simp -implicitDefEqProofs only [S159_1, Option.elim_some, Option.isSome_some, go_sem, Nat.reduceBEq, Nat.reduceAdd, Nat.reduceSub, Nat.reduceMul, Nat.reduceLeDiff, reduceCtorEq, ↓reduceIte, Int.reduceLT, Int.reduceLE, Int.reduceEq, Int.reduceNe]
      refine Up.here ⟨?_, gk, rfl, l, hM, hI⟩
      have hin : (w.map u8, v) ∈ l := by
        unfold mget at hg
        obtain ⟨p, h1, h2⟩ := Option.map_eq_some_iff.1 hg
        have h3 := List.find?_some h1
        simp only [decide_eq_true_eq] at h3
        have := List.mem_of_find?_eq_some h1
        rw [← h3, ← h2]
        exact this
      obtain ⟨w', h1, h2, h3⟩ := hI _ hin
      simp only at h2 h3
      rw [h3, u8_injL hk hok h1 h2]
    | none =>
      obtain ⟨f, c1, c2, rfl, hcall⟩ := hm
      simp -implicitDefEqProofs only [S159_1, Option.elim_none, Option.isSome_none, go_sem, Nat.reduceBEq, Nat.reduceAdd, Nat.reduceSub, Nat.reduceMul, Nat.reduceLeDiff, reduceCtorEq, ↓reduceIte, Int.reduceLT, Int.reduceLE, Int.reduceEq, Int.reduceNe]
      refine s_drawn [V.emp] [gk] (Ent.emp [gk]) ?_
      simp -implicitDefEqProofs only [go_sem, Nat.reduceBEq, Nat.reduceAdd, Nat.reduceSub, Nat.reduceMul, Nat.reduceLeDiff, reduceCtorEq, ↓reduceIte, Int.reduceLT, Int.reduceLE, Int.reduceEq, Int.reduceNe]
      refine s_ld (j := 1) (cells_lk (lk_r [gk] _ _ _ hT)) (by simp) (by simp) ?_
      simp -implicitDefEqProofs only [go_sem, Nat.reduceBEq, Nat.reduceAdd, Nat.reduceSub, Nat.reduceMul, Nat.reduceLeDiff, reduceCtorEq, ↓reduceIte, Int.reduceLT, Int.reduceLE, Int.reduceEq, Int.reduceNe]
      refine s_appS (α := Int) (ix := 0) (xs := []) (L := lk []) rfl (Bld.nil _ _ _) (hw.mono (lk_r [V.emp, gk] _)) rfl (lk_sub (by simp)) rfl (by simp; omega) (by simp; unfold maxLen; omega) ?_
      intro vw gw hBw _
      rw [List.nil_append] at hBw
      obtain ⟨Aw, cw, rfl, hSw⟩ := hBw.slok (L' := lk [gw]) (Mem.le.refl _) (fun b o ⟨x, hx, _⟩ => by cases hx) (by omega)
      simp -implicitDefEqProofs only [go_sem, Nat.reduceBEq, Nat.reduceAdd, Nat.reduceSub, Nat.reduceMul, Nat.reduceLeDiff, reduceCtorEq, ↓reduceIte, Int.reduceLT, Int.reduceLE, Int.reduceEq, Int.reduceNe]
      refine CallVC.read (hcall _ w Aw cw (lk_sub fun g hg => by simp [hg]) (hSw.mono (lk_sub fun g hg => by simp at hg; subst hg; simp)) hok hl) ?_
      rintro v Γ' ⟨rfl, rfl⟩
      simp -implicitDefEqProofs only [go_sem, Nat.reduceBEq, Nat.reduceAdd, Nat.reduceSub, Nat.reduceMul, Nat.reduceLeDiff, reduceCtorEq, ↓reduceIte, Int.reduceLT, Int.reduceLE, Int.reduceEq, Int.reduceNe]
      refine s_ld (j := 2) (cells_lk (lk_r _ _ _ _ hT)) (by simp) (by simp) ?_
      simp -implicitDefEqProofs only [go_sem, Nat.reduceBEq, Nat.reduceAdd, Nat.reduceSub, Nat.reduceMul, Nat.reduceLeDiff, reduceCtorEq, ↓reduceIte, Int.reduceLT, Int.reduceLE, Int.reduceEq, Int.reduceNe]
      refine s_upd (kt_strL (k := 9) (by kernel_rfl)) (et := 4) (ix := 1) (eV := Value.bool) (by kernel_rfl) rfl hM (L w) hgood ?_
      intro gk' hM' _
      simp -implicitDefEqProofs only [go_sem, Nat.reduceBEq, Nat.reduceAdd, Nat.reduceSub, Nat.reduceMul, Nat.reduceLeDiff, reduceCtorEq, ↓reduceIte, Int.reduceLT, Int.reduceLE, Int.reduceEq, Int.reduceNe]
      refine Up.skip (Up.here ⟨gk', rfl, _, hM', fun p hp => ?_⟩)
      have hno := mget_none.1 hg
      rw [mput, if_neg hno] at hp
      rcases List.mem_append.1 hp with hp | hp
      · exact hI p hp
      · simp only [List.mem_singleton] at hp
        subst hp
        exact ⟨w, hok, rfl, rfl⟩
  · rintro vs Γ' ⟨rfl, gk', rfl, hK'⟩
    simp -implicitDefEqProofs only [S159_2, go_sem, Nat.reduceBEq, Nat.reduceAdd, Nat.reduceSub, Nat.reduceMul, Nat.reduceLeDiff, reduceCtorEq, ↓reduceIte, Int.reduceLT, Int.reduceLE, Int.reduceEq, Int.reduceNe]
    refine Up.here ?_
    subst hR
    exact ⟨gk', rfl, hK', rfl⟩
def bitB (l : List Bool) : List UInt8 := l.map fun b => if b then 49 else 48
theorem bitB_inj {a b : List Bool} (h : bitB a = bitB b) : a = b := by
  unfold bitB at h
  exact (List.map_inj_right (fun x y q => by cases x <;> cases y <;> simp at q ⊢)).1 h
theorem learn_mark {E : Option Addr} {ce : Nat} {ends : List (List Int)} (hT : lk Γr t (.cells [.int .i64 (k : Int), fv, .map (some bk), rv, .slice E ends.length ce].toArray 198 (0, 0))) (hE : SlOk (lk Γr) E ce ends) (hel : ends.length ≤ 1000) (heok : ∀ e ∈ ends, okK k e ∧ e.length ≤ 2000)
    (hm : MemOk Γr fv k L) (hK : Known gk bk k L) (hk : k ≤ 16) {W : Option Addr} {c : Nat} {w : List Int} (hw : SlOk (lk Γr) W c w) (hok : okK k w) (hl : w.length ≤ 2500) :
    Ret Try.prog 191 [.pointer (some ⟨t, 0, none⟩), .slice W w.length c] Γr [gk] (fun v Γ => ∃ gk', Γ = [gk'] ∧ Known gk' bk k L ∧ v = strB (bitB (markL L ends w))) := by
  generalize hR : (fun (v : Value) (Γ : Ctx) => ∃ gk', _) = R
  refine ret_of_vc tr191 (Nat.le_of_ble_eq_true rfl) ?_
  simp -implicitDefEqProofs only [S191, S191_0, go_sem, Nat.reduceBEq, Nat.reduceAdd, Nat.reduceSub, Nat.reduceMul, Nat.reduceLeDiff, reduceCtorEq, ↓reduceIte, Int.reduceLT, Int.reduceLE, Int.reduceEq, Int.reduceNe]
  refine s_ld (j := 4) (cells_lk (lk_r _ _ _ _ hT)) (by simp) (by simp) ?_
  simp -implicitDefEqProofs only [go_sem, Nat.reduceBEq, Nat.reduceAdd, Nat.reduceSub, Nat.reduceMul, Nat.reduceLeDiff, reduceCtorEq, ↓reduceIte, Int.reduceLT, Int.reduceLE, Int.reduceEq, Int.reduceNe]
  refine ⟨by omega, by omega, fun bb => ?_⟩
  refine s_ld (j := 4) (cells_lk (lk_r _ _ _ _ hT)) (by simp) (by simp) ?_
  simp -implicitDefEqProofs only [go_sem, Nat.reduceBEq, Nat.reduceAdd, Nat.reduceSub, Nat.reduceMul, Nat.reduceLeDiff, reduceCtorEq, ↓reduceIte, Int.reduceLT, Int.reduceLE, Int.reduceEq, Int.reduceNe]
  refine s_loop (fun f vs Γ => ∃ (i : Nat) (gk gb ge : PH) (xs : List By), vs = [.v true (.int .i64 i)] ∧ i + f = ends.length ∧ Γ = [gk, gb, ge] ∧ Known gk bk k L ∧ Arr gb bb 5 xs ∧ xs.length = ends.length ∧ (xs.take i).map (·.n) = bitB (markL L (ends.take i) w)) ends.length
    (Up.sel [[1], [0], []] (by decide) fun _ _ => ⟨0, _, _, _, _, rfl, by omega, rfl, hK, Arr.made (⟨0⟩ : By) bb 5 ends.length, by simp, by simp [bitB, markL]⟩) ?_
  clear hK
  rintro f vs Γ ⟨i, gk, gb, ge, xs, rfl, hif, rfl, hK, hA, hxl, hxs⟩
  simp -implicitDefEqProofs only [S191_3, go_sem, Nat.reduceBEq, Nat.reduceAdd, Nat.reduceSub, Nat.reduceMul, Nat.reduceLeDiff, reduceCtorEq, ↓reduceIte, Int.reduceLT, Int.reduceLE, Int.reduceEq, Int.reduceNe]
  refine ⟨fun hlt => ?_, fun hge => ?_⟩
  · have hi : i < ends.length := by omega
    obtain ⟨b1, o1, hE1, A1, c1, hr1, hc1⟩ := hE.list hi
    obtain ⟨e, he⟩ : ∃ e, e = ends[i] := ⟨_, rfl⟩
    have hem : e ∈ ends := he ▸ List.getElem_mem hi
    have hek := heok e hem
    rw [← he] at hr1 hc1
    have hnext : ∀ x : By, x.n = (if L (w ++ e) then 49 else 48) → ((xs.set i x).take (i + 1)).map (·.n) = bitB (markL L (ends.take (i + 1)) w) := fun x hx => by
      have h1 : (xs.set i x).take (i + 1) = xs.take i ++ [x] := by
        rw [List.take_succ_eq_append_getElem (by simp; omega), List.take_set_of_le (Nat.le_refl i)]
        simp
      have h2 : ends.take (i + 1) = ends.take i ++ [e] := by rw [he]; exact List.take_succ_eq_append_getElem hi
      rw [h1, h2, List.map_append, hxs]
      simp only [markL, bitB, List.map_append, List.map_cons, List.map_nil]
      rw [hx]
    refine s_join (fun vs Γ' => ∃ (gk gb ge : PH) (xs' : List By), Γ' = [gk, gb, ge] ∧ Known gk bk k L ∧ Arr gb bb 5 xs' ∧ xs'.length = ends.length ∧ (xs'.take (i + 1)).map (·.n) = bitB (markL L (ends.take (i + 1)) w)) ?_ ?_
    · simp -implicitDefEqProofs only [S191_1, go_sem, Nat.reduceBEq, Nat.reduceAdd, Nat.reduceSub, Nat.reduceMul, Nat.reduceLeDiff, reduceCtorEq, ↓reduceIte, Int.reduceLT, Int.reduceLE, Int.reduceEq, Int.reduceNe]
      refine s_idx hE1 (by omega) (by omega) ?_
      simp -implicitDefEqProofs only [go_sem, Nat.reduceBEq, Nat.reduceAdd, Nat.reduceSub, Nat.reduceMul, Nat.reduceLeDiff, reduceCtorEq, ↓reduceIte, Int.reduceLT, Int.reduceLE, Int.reduceEq, Int.reduceNe]
      refine s_ld0 (hc1 _ (lk_r _ _)) (by simp) (by simp) ?_
      simp -implicitDefEqProofs only [go_sem, Nat.reduceBEq, Nat.reduceAdd, Nat.reduceSub, Nat.reduceMul, Nat.reduceLeDiff, reduceCtorEq, ↓reduceIte, Int.reduceLT, Int.reduceLE, Int.reduceEq, Int.reduceNe]
      refine s_idx rfl (by omega) (by omega) ?_
      simp -implicitDefEqProofs only [go_sem, Nat.reduceBEq, Nat.reduceAdd, Nat.reduceSub, Nat.reduceMul, Nat.reduceLeDiff, reduceCtorEq, ↓reduceIte, Int.reduceLT, Int.reduceLE, Int.reduceEq, Int.reduceNe]
      refine s_storeA (ix := 1) (α := By) (⟨48⟩ : By) rfl hA (i := i) (by omega) ?_
      intro gb1 hA1 _
      simp -implicitDefEqProofs only [go_sem, Nat.reduceBEq, Nat.reduceAdd, Nat.reduceSub, Nat.reduceMul, Nat.reduceLeDiff, reduceCtorEq, ↓reduceIte, Int.reduceLT, Int.reduceLE, Int.reduceEq, Int.reduceNe]
      refine s_appS (α := Int) (ix := 2) (xs := []) (L := lk []) rfl (Bld.nil ge _ _) (hw.mono (lk_r [gk, gb1, ge] _)) rfl (lk_sub (by simp)) rfl (by simp; omega) (by simp; unfold maxLen; omega) ?_
      intro v1 g1 hB1 _
      rw [List.nil_append] at hB1
      obtain ⟨A2, c2, rfl⟩ := hB1.val
      simp -implicitDefEqProofs only [go_sem, Nat.reduceBEq, Nat.reduceAdd, Nat.reduceSub, Nat.reduceMul, Nat.reduceLeDiff, reduceCtorEq, ↓reduceIte, Int.reduceLT, Int.reduceLE, Int.reduceEq, Int.reduceNe]
      refine s_appS (α := Int) (ix := 2) (L := lk []) rfl hB1 (hr1.mono (lk_r [gk, gb1, g1] _)) rfl (lk_sub (by simp)) rfl (by omega) (by unfold maxLen; omega) ?_
      intro v2 g2 hB2 _
      have hwl : (w ++ e).length ≤ 4500 := by simp; omega
      obtain ⟨A3, c3, rfl, hS3⟩ := hB2.slok (L' := lk [g2]) (Mem.le.refl _) (fun b o ⟨x, hx, _⟩ => by cases hx) (by omega)
      simp -implicitDefEqProofs only [go_sem, Nat.reduceBEq, Nat.reduceAdd, Nat.reduceSub, Nat.reduceMul, Nat.reduceLeDiff, reduceCtorEq, ↓reduceIte, Int.reduceLT, Int.reduceLE, Int.reduceEq, Int.reduceNe]
      refine CallVC.perm (Γm := [gk]) (Γf := [gb1, g2]) (learn_ask (Γr := [gb1, g2] ++ Γr) (lk_r _ _ _ _ hT) (by obtain ⟨f, q1, q2, q3, q4⟩ := hm; exact ⟨f, q1, q2, q3, fun Γ w W c hle => q4 Γ w W c (Mem.le.trans (lk_r _ _) hle)⟩) hK hk (hS3.mono (lk_sub fun g hg => by simp at hg; subst hg; simp)) (okK_app.2 ⟨hok, hek.1⟩) (by omega)) (List.Perm.refl _) (List.Sublist.refl _) ?_
      rintro v Γ' ⟨gk', rfl, hK', rfl⟩
      simp -implicitDefEqProofs only [go_sem, Nat.reduceBEq, Nat.reduceAdd, Nat.reduceSub, Nat.reduceMul, Nat.reduceLeDiff, reduceCtorEq, ↓reduceIte, Int.reduceLT, Int.reduceLE, Int.reduceEq, Int.reduceNe]
      refine ⟨fun hL => ?_, fun hL => Up.here ⟨gk', gb1, g2, _, rfl, hK', hA1, by simpa using hxl, hnext _ (by rw [if_neg (by simpa using hL)])⟩⟩
      refine s_idx rfl (by omega) (by omega) ?_
      simp -implicitDefEqProofs only [go_sem, Nat.reduceBEq, Nat.reduceAdd, Nat.reduceSub, Nat.reduceMul, Nat.reduceLeDiff, reduceCtorEq, ↓reduceIte, Int.reduceLT, Int.reduceLE, Int.reduceEq, Int.reduceNe]
      refine s_storeA (ix := 1) (α := By) (⟨49⟩ : By) rfl hA1 (i := i) (by simp; omega) ?_
      intro gb2 hA2 _
      simp -implicitDefEqProofs only [go_sem, Nat.reduceBEq, Nat.reduceAdd, Nat.reduceSub, Nat.reduceMul, Nat.reduceLeDiff, reduceCtorEq, ↓reduceIte, Int.reduceLT, Int.reduceLE, Int.reduceEq, Int.reduceNe]
      rw [List.set_set] at hA2
      exact Up.here ⟨gk', gb2, g2, _, rfl, hK', hA2, by simpa using hxl, hnext _ (by rw [if_pos hL])⟩
    · rintro vs Γ' ⟨gk, gb, ge, xs', rfl, hK', hA', hxl', hxs'⟩
      simp -implicitDefEqProofs only [S191_2, go_sem, Nat.reduceBEq, Nat.reduceAdd, Nat.reduceSub, Nat.reduceMul, Nat.reduceLeDiff, reduceCtorEq, ↓reduceIte, Int.reduceLT, Int.reduceLE, Int.reduceEq, Int.reduceNe]
      simp (disch := omega) only [wrap_id]
      exact ⟨f - 1, by omega, Up.here ⟨i + 1, gk, gb, ge, xs', rfl, by omega, rfl, hK', hA', hxl', hxs'⟩⟩
  · have hi : i = ends.length := by omega
    rw [hi, List.take_length, List.take_of_length_le (by omega)] at hxs
    have hs : SlOk (lk [gb]) (some ⟨bb, 0, none⟩) ends.length xs := hA.slok (Mem.le.refl _) (by omega) (by unfold maxLen; omega) (by omega)
    have hq := qr_bytes (P := Try.prog) (Γ := [gk, gb, ge] ++ Γr) (s := 233) (d := 9) (e := 5) (by kernel_rfl) (by kernel_rfl) (by kernel_rfl) hs (lk_sub (by simp))
    rw [hxl] at hq
    refine s_q trivial hq ?_
    simp -implicitDefEqProofs only [go_sem, Nat.reduceBEq, Nat.reduceAdd, Nat.reduceSub, Nat.reduceMul, Nat.reduceLeDiff, reduceCtorEq, ↓reduceIte, Int.reduceLT, Int.reduceLE, Int.reduceEq, Int.reduceNe]
    refine Up.sel [[0]] (by decide) fun _ _ => ?_
    subst hR
    exact ⟨gk, rfl, hK, by rw [hxs]; rfl⟩
end
end Go.Proofs.Ytniobbepliknmaa.V
/- The text of parlance/learn.clone as a statement (slots: 0 d, 1 d, 3 out, 4 _, 5 r); no condition. -/
namespace Go.Proofs.Ytniobbepliknmaa.V
open Go
def S157_1 : Stmt :=
  Stmt.seq
  (Stmt.region [SOper.mk (some 16) none (SOp.ibin BinOp.lss (Operand.tmp 15) (Operand.tmp 14))] [2, 3, 13, 14, 15, 16])
  (Stmt.seq (Stmt.cond (Operand.tmp 16) Stmt.skip (Stmt.exit 0))
    (Stmt.seq
      (Stmt.block 1
        (Stmt.seq
          (Stmt.region
            [SOper.mk (some 17) none (SOp.idx 1 (Operand.tmp 13) (Operand.tmp 15)),
              SOper.mk (some 18) none (SOp.load false 1 (Operand.tmp 17)),
              SOper.mk (some 5) none (SOp.mv (Operand.tmp 18))]
            [2, 3, 5, 13, 14, 15])
          (Stmt.tree
            (DT.q (false, SOper.mk (some 19) none (SOp.fld 2 (Operand.tmp 3)))
              (DT.q (false, SOper.mk (some 21) none (SOp.mv (Operand.tmp 5)))
                (DT.alt (false, SOper.mk (some 20) none (SOp.load false 1 (Operand.tmp 19)))
                  (DT.alt
                    (false,
                      SOper.mk (some 22) none
                        (SOp.append 29 3 1 8 (Value.int IntKind.i64 0) (Operand.const (Value.slice none 0 0))
                          (Operand.tmp 21)))
                    (DT.alt
                      (false, SOper.mk (some 23) none (SOp.buildS 29 1 [Value.slice none 0 0] [(0, 1, Operand.tmp 22)]))
                      (DT.alt
                        (false,
                          SOper.mk (some 24) none
                            (SOp.append 65 29 1 24 (Value.slice none 0 0) (Operand.tmp 20) (Operand.tmp 23)))
                        (DT.q (false, SOper.mk (some 25) none (SOp.fld 2 (Operand.tmp 3)))
                          (DT.alt (false, SOper.mk none none (SOp.store 1 (Operand.tmp 25) (Operand.tmp 24))) DT.fin
                            DT.no))
                        DT.no)
                      DT.no)
                    DT.no)
                  (DT.alt
                    (false,
                      SOper.mk (some 22) none
                        (SOp.append 29 3 1 8 (Value.int IntKind.i64 0) (Operand.const (Value.slice none 0 0))
                          (Operand.tmp 21)))
                    (DT.alt (false, SOper.mk (some 20) none (SOp.load false 1 (Operand.tmp 19)))
                      (DT.alt
                        (false,
                          SOper.mk (some 23) none (SOp.buildS 29 1 [Value.slice none 0 0] [(0, 1, Operand.tmp 22)]))
                        (DT.alt
                          (false,
                            SOper.mk (some 24) none
                              (SOp.append 65 29 1 24 (Value.slice none 0 0) (Operand.tmp 20) (Operand.tmp 23)))
                          (DT.q (false, SOper.mk (some 25) none (SOp.fld 2 (Operand.tmp 3)))
                            (DT.alt (false, SOper.mk none none (SOp.store 1 (Operand.tmp 25) (Operand.tmp 24))) DT.fin
                              DT.no))
                          DT.no)
                        DT.no)
                      (DT.alt
                        (false,
                          SOper.mk (some 23) none (SOp.buildS 29 1 [Value.slice none 0 0] [(0, 1, Operand.tmp 22)]))
                        (DT.alt (false, SOper.mk (some 20) none (SOp.load false 1 (Operand.tmp 19)))
                          (DT.alt
                            (false,
                              SOper.mk (some 24) none
                                (SOp.append 65 29 1 24 (Value.slice none 0 0) (Operand.tmp 20) (Operand.tmp 23)))
                            (DT.q (false, SOper.mk (some 25) none (SOp.fld 2 (Operand.tmp 3)))
                              (DT.alt (false, SOper.mk none none (SOp.store 1 (Operand.tmp 25) (Operand.tmp 24))) DT.fin
                                DT.no))
                            DT.no)
                          DT.no)
                        DT.no))
                    DT.no))))
            [2, 3, 13, 14, 15])))
      (Stmt.region
        [SOper.mk (some 26) none (SOp.ibin BinOp.add (Operand.tmp 15) (Operand.const (Value.int IntKind.i64 1))),
          SOper.mk (some 15) none (SOp.mv (Operand.tmp 26))]
        [2, 3, 13, 14, 15])))
def S157_0 : Stmt :=
  Stmt.seq
  (Stmt.region
    [SOper.mk (some 1) none (SOp.box true 67 (Operand.tmp 0)),
      SOper.mk (some 2) none
        (SOp.alloc true 67
          (Value.agg (Array.mk [Value.int IntKind.i64 0, Value.slice none 0 0, Value.slice none 0 0])))]
    [1, 2])
  (Stmt.seq
    (Stmt.tree
      (DT.q (false, SOper.mk (some 6) none (SOp.fld 0 (Operand.tmp 1)))
        (DT.q (false, SOper.mk (some 8) none (SOp.fld 1 (Operand.tmp 1)))
          (DT.q (true, SOper.mk (some 7) none (SOp.load false 1 (Operand.tmp 6)))
            (DT.q (false, SOper.mk (some 9) none (SOp.load false 1 (Operand.tmp 8)))
              (DT.alt
                (false,
                  SOper.mk (some 10) none
                    (SOp.append 29 3 1 8 (Value.int IntKind.i64 0) (Operand.const (Value.slice none 0 0))
                      (Operand.tmp 9)))
                (DT.q
                  (false,
                    SOper.mk (some 11) none
                      (SOp.build 67 [Value.int IntKind.i64 0, Value.slice none 0 0, Value.slice none 0 0]
                        [(0, 1, Operand.tmp 7), (1, 1, Operand.tmp 10)]))
                  (DT.alt
                    (false,
                      SOper.mk (some 3) none
                        (SOp.alloc true 67
                          (Value.agg (Array.mk [Value.int IntKind.i64 0, Value.slice none 0 0, Value.slice none 0 0]))))
                    (DT.alt (false, SOper.mk none none (SOp.store 3 (Operand.tmp 3) (Operand.tmp 11))) DT.fin DT.no)
                    DT.no))
                (DT.alt
                  (false,
                    SOper.mk (some 3) none
                      (SOp.alloc true 67
                        (Value.agg (Array.mk [Value.int IntKind.i64 0, Value.slice none 0 0, Value.slice none 0 0]))))
                  (DT.alt
                    (false,
                      SOper.mk (some 10) none
                        (SOp.append 29 3 1 8 (Value.int IntKind.i64 0) (Operand.const (Value.slice none 0 0))
                          (Operand.tmp 9)))
                    (DT.q
                      (false,
                        SOper.mk (some 11) none
                          (SOp.build 67 [Value.int IntKind.i64 0, Value.slice none 0 0, Value.slice none 0 0]
                            [(0, 1, Operand.tmp 7), (1, 1, Operand.tmp 10)]))
                      (DT.alt (false, SOper.mk none none (SOp.store 3 (Operand.tmp 3) (Operand.tmp 11))) DT.fin DT.no))
                    DT.no)
                  DT.no))))))
      [1, 2, 3])
    (Stmt.seq
      (Stmt.seq
        (Stmt.region
          [SOper.mk (some 12) none (SOp.fld 2 (Operand.tmp 1)),
            SOper.mk (some 13) none (SOp.load false 1 (Operand.tmp 12)),
            SOper.mk (some 14) none (SOp.len false (Operand.tmp 13)),
            SOper.mk (some 15) none (SOp.mv (Operand.const (Value.int IntKind.i64 0)))]
          [2, 3, 13, 14, 15])
        (Stmt.block 0 (Stmt.loop S157_1 [3, 15] [2, 13, 14])))
      (Stmt.seq
        (Stmt.region
          [SOper.mk (some 27) none (SOp.load true 3 (Operand.tmp 3)),
            SOper.mk none none (SOp.store 3 (Operand.tmp 2) (Operand.tmp 27))]
          [2])
        Stmt.ret)))
def S157 : FnS := ⟨28, [(2, some (true, 3))], S157_0⟩
theorem tr157 : trFn Try.prog 157 [1, 2, 3] [[1, 2], [1, 2, 3], [], [2, 0, 2, 2, 2, 1, 2, 3, 3, 4, 2, 5, 3, 6, 3, 7, 0, 1, 1, 3, 6, 3, 4, 2, 5, 3, 7, 0, 1, 1, 1], [1], [], [0], [], [2], [2, 3], [0, 1, 2, 3, 4], [], [0, 1, 2, 3, 4, 5, 6], [2, 3, 13, 14, 15], [3, 15], [2, 13, 14], [2, 3, 13, 14, 15, 16], [2, 3, 5, 13, 14, 15], [2, 3, 13, 14, 15], [], [2, 0, 2, 2, 3, 1, 3, 3, 3, 4, 3, 5, 2, 6, 3, 7, 0, 1, 1, 1, 1, 3, 3, 3, 1, 3, 4, 3, 5, 2, 6, 3, 7, 0, 1, 1, 1, 3, 4, 3, 1, 3, 5, 2, 6, 3, 7, 0, 1, 1, 1, 1, 1], [], [], [0], [], [2], [2, 3], [0, 1, 2, 3, 4], [0, 1, 2, 3, 4, 5], [0, 1, 2, 3, 4, 5, 6], [2, 3, 13, 14, 15], [2]] = some S157 := by kernel_rfl
end Go.Proofs.Ytniobbepliknmaa.V
/- The text of parlance/learn.accepts as a statement (slots: 0 d, 1 w, 2 d, 3 w, 5 s, 6 _, 7 x); no condition. -/
namespace Go.Proofs.Ytniobbepliknmaa.V
open Go
def S158_1 : Stmt :=
  Stmt.block 1
  (Stmt.seq
    (Stmt.region
      [SOper.mk (some 14) none (SOp.idx 1 (Operand.tmp 10) (Operand.tmp 12)),
        SOper.mk (some 15) none (SOp.load false 1 (Operand.tmp 14)), SOper.mk (some 7) none (SOp.mv (Operand.tmp 15))]
      [2, 5, 7, 10, 11, 12])
    (Stmt.seq
      (Stmt.region
        [SOper.mk (some 16) none (SOp.mv (Operand.tmp 5)),
          SOper.mk (some 17) none (SOp.ibin BinOp.geq (Operand.tmp 16) (Operand.const (Value.int IntKind.i64 0)))]
        [2, 5, 7, 10, 11, 12, 17])
      (Stmt.cond (Operand.tmp 17)
        (Stmt.region
          [SOper.mk (some 18) none (SOp.fld 2 (Operand.tmp 2)),
            SOper.mk (some 19) none (SOp.load false 1 (Operand.tmp 18)),
            SOper.mk (some 20) none (SOp.mv (Operand.tmp 5)),
            SOper.mk (some 21) none (SOp.idx 1 (Operand.tmp 19) (Operand.tmp 20)),
            SOper.mk (some 22) none (SOp.load false 1 (Operand.tmp 21)),
            SOper.mk (some 23) none (SOp.mv (Operand.tmp 7)),
            SOper.mk (some 24) none (SOp.idx 1 (Operand.tmp 22) (Operand.tmp 23)),
            SOper.mk (some 25) none (SOp.load false 1 (Operand.tmp 24)),
            SOper.mk (some 5) none (SOp.mv (Operand.tmp 25))]
          [2, 5, 10, 11, 12])
        Stmt.skip)))
def S158_2 : Stmt :=
  Stmt.region
  [SOper.mk (some 26) none (SOp.ibin BinOp.add (Operand.tmp 12) (Operand.const (Value.int IntKind.i64 1))),
    SOper.mk (some 12) none (SOp.mv (Operand.tmp 26))]
  [2, 5, 10, 11, 12]
def S158_3 : Stmt :=
  Stmt.seq
  (Stmt.region [SOper.mk (some 13) none (SOp.ibin BinOp.lss (Operand.tmp 12) (Operand.tmp 11))] [2, 5, 10, 11, 12, 13])
  (Stmt.seq (Stmt.cond (Operand.tmp 13) Stmt.skip (Stmt.exit 0)) (Stmt.join S158_1 S158_2 [5] [2, 10, 11, 12]))
def S158_0 : Stmt :=
  Stmt.seq
  (Stmt.region
    [SOper.mk (some 2) none (SOp.box true 67 (Operand.tmp 0)),
      SOper.mk (some 4) none (SOp.mv (Operand.const (Value.bool false)))]
    [1, 2])
  (Stmt.seq
    (Stmt.region
      [SOper.mk (some 8) none (SOp.fld 0 (Operand.tmp 2)), SOper.mk (some 9) none (SOp.load false 1 (Operand.tmp 8)),
        SOper.mk (some 5) none (SOp.mv (Operand.tmp 9))]
      [1, 2, 5])
    (Stmt.seq
      (Stmt.seq
        (Stmt.region
          [SOper.mk (some 10) none (SOp.mv (Operand.tmp 1)), SOper.mk (some 11) none (SOp.len false (Operand.tmp 10)),
            SOper.mk (some 12) none (SOp.mv (Operand.const (Value.int IntKind.i64 0)))]
          [2, 5, 10, 11, 12])
        (Stmt.block 0 (Stmt.loop S158_3 [5, 12] [2, 10, 11])))
      (Stmt.seq
        (Stmt.region
          [SOper.mk (some 27) none (SOp.mv (Operand.tmp 5)),
            SOper.mk (some 28) none (SOp.ibin BinOp.geq (Operand.tmp 27) (Operand.const (Value.int IntKind.i64 0))),
            SOper.mk (some 29) none (SOp.mv (Operand.tmp 28)),
            SOper.mk (some 30) (some (29, true)) (SOp.fld 1 (Operand.tmp 2)),
            SOper.mk (some 31) (some (29, true)) (SOp.load false 1 (Operand.tmp 30)),
            SOper.mk (some 32) (some (29, true)) (SOp.mv (Operand.tmp 5)),
            SOper.mk (some 33) (some (29, true)) (SOp.idx 1 (Operand.tmp 31) (Operand.tmp 32)),
            SOper.mk (some 34) (some (29, true)) (SOp.load false 1 (Operand.tmp 33)),
            SOper.mk (some 35) (some (29, true))
              (SOp.ibin BinOp.geq (Operand.tmp 34) (Operand.const (Value.int IntKind.i64 0))),
            SOper.mk (some 36) none (SOp.pick (Operand.tmp 29) (Operand.tmp 35) (Operand.const (Value.bool false))),
            SOper.mk (some 4) none (SOp.mv (Operand.tmp 36))]
          [4])
        Stmt.ret)))
def S158 : FnS := ⟨37, [(4, none)], S158_0⟩
theorem tr158 : trFn Try.prog 158 [2] [[1, 2], [1, 2, 5], [2, 5, 10, 11, 12], [5, 12], [2, 10, 11], [2, 5, 10, 11, 12, 13], [5], [2, 10, 11, 12], [2, 5, 7, 10, 11, 12], [2, 5, 7, 10, 11, 12, 17], [2, 5, 10, 11, 12], [2, 5, 10, 11, 12], [4]] = some S158 := by kernel_rfl
end Go.Proofs.Ytniobbepliknmaa.V
/- learn.clone and learn.accepts walked; no condition. -/
namespace Go.Proofs.Ytniobbepliknmaa.V
open Go
set_option linter.unusedVariables false
set_option linter.unusedSimpArgs false
attribute [local go_sem] e_seq e_region e_quiet e_join e_loop e_cond e_block e_exit e_ret e_skip e_fin e_kseq e_snrm e_sret e_sex e_bnrm e_bret e_bex e_rnrm e_rret e_res e_condC e_nil e_g e_mv g_mv e_pick g_pick pickC_eq e_ibin g_ibin ibinC_eq e_sbin g_sbin e_beq g_beq beqC_eq e_nilq g_nilq nilqC_sl nilqC_pt nilqC_mp e_un g_un unC_not unC_neg e_conv g_conv convC_eq e_fld g_fld fldC_ref fldC_ptr e_nilCheck g_nilCheck nilCheckC_ref nilCheckC_ptr nilCheckC_fun e_field g_field fieldC_eq e_len g_len lenC_sl lenC_str e_extract g_extract extractC_eq e_mkFunc e_build g_build e_idiv g_idiv idivC_eq e_ishift g_ishift ishiftC_eq e_idx g_idx e_idxA g_idxA e_load g_load e_loadB g_loadB atB_ref atB_v g_mkFunc loadC_ref loadC_ptr loadB_eq e_slc g_slc e_box boxC_loc boxC_esc e_alloc allocC_loc allocC_esc e_buildS e_store storeC_ref storeC_ptr storeB_eq e_append e_appz e_mk mkC_eq e_call callC_eq e_fn g_fn fnC_eq fnV_min' fnV_max' fnV_rune' e_q g_q e_a e_n g_call g_box g_alloc g_buildS g_store g_append g_mk g_a g_n g_dead e_dead e_callK e_drawn e_tree e_finJ e_tk e_tfin e_tno e_nbt_q e_nbt_qn e_nbt_a e_nbt_an e_nbt_fin e_drawnB e_bxb_nil e_bxb e_stB_none e_stB_some boxSt_store bs_mv bs_pick bs_ibin bs_idiv bs_ishift bs_sbin bs_beq bs_nilq bs_un bs_conv bs_box bs_alloc bs_build bs_buildS bs_load bs_fld bs_nilCheck bs_idx bs_idxA bs_field bs_slc bs_len bs_append bs_appz bs_mk bs_call bs_extract bs_mkFunc bs_fn bs_q bs_a bs_n bs_loadB bs_dead isBox_box e_early_nil e_early_t e_early_f e_nob_nil e_nob_none e_nob_some isBox_dead isBox_v isBox_ref e_dnil e_dk e_ek e_finB vcOps_vc1 e_dcons e_tq e_ekt e_tearly e_talt e_dearly look_nil look_c proj_nil proj_c looks_nil looks_c zip_nil zip_c val_tmp val_const val_func slv_v slv_box slv_ref slot_tmp slot_const slot_func slotL_v slotL_box slotL_ref put_some put_none updBox_c boxSet_box gd_eq slotVals_nil slotVals_c slotVals_b boxV_box boxOn_box slotsOn_nil slotsOn_c slotsOn_b resV_one resV_two vals_nil vals_c allOn_nil allOn_c partOn_nil partOn_c partVals_nil partVals_c fits_nil fits_c fillL_nil fillL_c mkv_one mkv_agg cellsV_agg cellsV_int cellsV_bool cellsV_slice cellsV_string cellsV_pointer cellsV_func cellsV_nilf cellsV_map one'_nil one'_c oc_int oc_bool oc_slice oc_string oc_pointer oc_func oc_nilf oc_map setC_eq iv_add iv_sub iv_mul iv_eql iv_neq iv_lss iv_leq iv_gtr iv_geq iok_add iok_sub iok_mul iok_eql iok_neq iok_lss iok_leq iok_gtr iok_geq pickV_bool args0_nil args0_c bnd_none bnd_some imp_bt imp_bf imp_ebt imp_ebf imp_eb1 imp_np imp_pp beq_tt beq_tf beq_ft beq_ff cond_or cond_and e_round e_meet Int.le_refl Int.toNat_zero decide_true decide_false Bool.or_false Bool.false_or Bool.true_or Bool.or_true Bool.and_false Bool.false_and Bool.bne_false Bool.bne_true beq_iff_eq Int.cast_ofNat_Int not_false_eq_true not_true_eq_false false_and and_false false_implies true_implies true_and and_true Bool.true_and Bool.and_true Bool.not_true Bool.not_false forall_const implies_true List.take_zero List.drop_zero List.take_succ_cons List.drop_succ_cons List.take_nil List.drop_nil List.length_cons List.length_nil List.nil_append List.append_nil List.cons_append Int.toNat_natCast decide_eq_true_eq decide_eq_false_iff_not cond_true cond_false and_self List.getElem?_cons_zero List.getElem?_cons_succ List.set_cons_zero List.set_cons_succ Option.some.injEq exists_eq_left' Nat.zero_add Nat.add_zero Nat.mul_one imp_self true_or or_true or_false false_or Bool.or_eq_true Bool.or_eq_false_iff Bool.and_eq_true Bool.and_eq_false_iff Bool.not_eq_true' Bool.not_eq_false'

theorem MemOk.mono {Γr Γr' : Ctx} {fv : Value} {k : Nat} {L : List Int → Bool} (h : MemOk Γr fv k L) (hl : Mem.le (lk Γr) (lk Γr')) : MemOk Γr' fv k L := by
  obtain ⟨f, q1, q2, q3, q4⟩ := h
  exact ⟨f, q1, q2, q3, fun Γ w W c hle => q4 Γ w W c (Mem.le.trans hl hle)⟩
theorem goD_rng {d : Da} (V : VD d) {w : List Int} (hw : okW d w) : -1 ≤ goD d d.st w ∧ goD d d.st w < d.nx.length := go_rng V (by have := V.st; omega) hw
theorem learn_accepts {Γr : Ctx} {d : Da} (V : VD d) {A B : Option Addr} {c e : Nat} (hA : SlOk (lk Γr) A c d.ac) (hB : SlOk (lk Γr) B e d.nx) {W : Option Addr} {cw : Nat} {w : List Int} (hW : SlOk (lk Γr) W cw w) (hw : okW d w) :
    Ret Try.prog 158 [.agg #[.int .i64 d.st, .slice A d.ac.length c, .slice B d.nx.length e], .slice W w.length cw] Γr [] (fun v Γ => Γ = [] ∧ v = .bool (accP d (goD d d.st w))) := by
  generalize hR : (fun (v : Value) (Γ : Ctx) => Γ = [] ∧ v = _) = R
  refine ret_of_vc tr158 (Nat.le_of_ble_eq_true rfl) ?_
  have hst := V.st
  have hsw := hW.short
  simp -implicitDefEqProofs only [S158, S158_0, go_sem, Nat.reduceBEq, Nat.reduceAdd, Nat.reduceSub, Nat.reduceMul, Nat.reduceLeDiff, reduceCtorEq, ↓reduceIte, Int.reduceLT, Int.reduceLE, Int.reduceEq, Int.reduceNe]
  intro b1
  refine s_loop (fun f vs Γ => ∃ i : Nat, vs = [.v true (.int .i64 (goD d d.st (w.take i))), .v true (.int .i64 i)] ∧ i + f = w.length ∧ Γ = []) w.length
    (Up.here ⟨0, rfl, by omega, rfl⟩) ?_
  rintro f vs Γ ⟨i, rfl, hif, rfl⟩
  have hrng := goD_rng V (w := w.take i) (fun x hx => hw x (List.mem_of_mem_take hx))
  obtain ⟨s, hs⟩ : ∃ s, s = goD d d.st (w.take i) := ⟨_, rfl⟩
  rw [← hs] at hrng ⊢
  simp -implicitDefEqProofs only [S158_3, go_sem, Nat.reduceBEq, Nat.reduceAdd, Nat.reduceSub, Nat.reduceMul, Nat.reduceLeDiff, reduceCtorEq, ↓reduceIte, Int.reduceLT, Int.reduceLE, Int.reduceEq, Int.reduceNe]
  refine ⟨fun hlt => ?_, fun hge => ?_⟩
  · have hi : i < w.length := by omega
    have hx := hw _ (List.getElem_mem hi)
    obtain ⟨x, hxx⟩ : ∃ x, x = w[i] := ⟨_, rfl⟩
    obtain ⟨b2, o2, hA2, hc2⟩ := hW.int hi
    rw [← hxx] at hx hc2
    have hnx : goD d d.st (w.take (i + 1)) = nxt d s x := by
      rw [List.take_succ_eq_append_getElem hi, go_snoc, hs, hxx]
    refine s_join (fun vs Γ' => vs = [.v true (.int .i64 (goD d d.st (w.take (i + 1))))] ∧ Γ' = []) ?_ ?_
    · simp -implicitDefEqProofs only [S158_1, go_sem, Nat.reduceBEq, Nat.reduceAdd, Nat.reduceSub, Nat.reduceMul, Nat.reduceLeDiff, reduceCtorEq, ↓reduceIte, Int.reduceLT, Int.reduceLE, Int.reduceEq, Int.reduceNe]
      refine s_idx hA2 (by omega) (by omega) ?_
      simp -implicitDefEqProofs only [go_sem, Nat.reduceBEq, Nat.reduceAdd, Nat.reduceSub, Nat.reduceMul, Nat.reduceLeDiff, reduceCtorEq, ↓reduceIte, Int.reduceLT, Int.reduceLE, Int.reduceEq, Int.reduceNe]
      refine s_ld0 (hc2 _ (lk_r [] _)) (by simp) (by simp) ?_
      simp -implicitDefEqProofs only [go_sem, Nat.reduceBEq, Nat.reduceAdd, Nat.reduceSub, Nat.reduceMul, Nat.reduceLeDiff, reduceCtorEq, ↓reduceIte, Int.reduceLT, Int.reduceLE, Int.reduceEq, Int.reduceNe]
      refine ⟨fun hpos => ?_, fun hneg => Up.here ?_⟩
      · obtain ⟨sn, hsn⟩ : ∃ sn : Nat, s = sn := ⟨s.toNat, by omega⟩
        obtain ⟨xn, hxn⟩ : ∃ xn : Nat, x = xn := ⟨x.toNat, by omega⟩
        have hsl : sn < d.nx.length := by omega
        have hrl := V.row _ (List.getElem_mem hsl)
        have hxl : xn < d.nx[sn].length := by omega
        have hstep := step_at (d := d) hsl (x := xn) hxl
        have hstep' : stepD d s x = d.nx[sn][xn]'hxl := by rw [← hstep, hsn, hxn]
        obtain ⟨b3, o3, hB3, A3, c3, hr3, hc3⟩ := hB.list hsl
        obtain ⟨b4, o4, hA4, hc4⟩ := hr3.int (i := xn) (by omega)
        rw [hsn, hxn]
        refine s_idx hB3 (by omega) (by omega) ?_
        simp -implicitDefEqProofs only [go_sem, Nat.reduceBEq, Nat.reduceAdd, Nat.reduceSub, Nat.reduceMul, Nat.reduceLeDiff, reduceCtorEq, ↓reduceIte, Int.reduceLT, Int.reduceLE, Int.reduceEq, Int.reduceNe]
        refine s_ld0 (hc3 _ (lk_r [] _)) (by simp) (by simp) ?_
        simp -implicitDefEqProofs only [go_sem, Nat.reduceBEq, Nat.reduceAdd, Nat.reduceSub, Nat.reduceMul, Nat.reduceLeDiff, reduceCtorEq, ↓reduceIte, Int.reduceLT, Int.reduceLE, Int.reduceEq, Int.reduceNe]
        refine s_idx hA4 (by omega) (by omega) ?_
        simp -implicitDefEqProofs only [go_sem, Nat.reduceBEq, Nat.reduceAdd, Nat.reduceSub, Nat.reduceMul, Nat.reduceLeDiff, reduceCtorEq, ↓reduceIte, Int.reduceLT, Int.reduceLE, Int.reduceEq, Int.reduceNe]
        refine s_ld0 (hc4 _ (lk_r [] _)) (by simp) (by simp) ?_
        simp -implicitDefEqProofs only [go_sem, Nat.reduceBEq, Nat.reduceAdd, Nat.reduceSub, Nat.reduceMul, Nat.reduceLeDiff, reduceCtorEq, ↓reduceIte, Int.reduceLT, Int.reduceLE, Int.reduceEq, Int.reduceNe]
        refine Up.here ?_
        rw [hnx, nxt, if_neg (by omega), hstep']
        exact ⟨rfl, rfl⟩
      · rw [hnx, nxt, if_pos (by omega)]
        have : s = -1 := by omega
        rw [this]
        exact ⟨rfl, rfl⟩
    · rintro vs Γ' ⟨rfl, rfl⟩
      simp -implicitDefEqProofs only [S158_2, go_sem, Nat.reduceBEq, Nat.reduceAdd, Nat.reduceSub, Nat.reduceMul, Nat.reduceLeDiff, reduceCtorEq, ↓reduceIte, Int.reduceLT, Int.reduceLE, Int.reduceEq, Int.reduceNe]
      simp (disch := omega) only [wrap_id]
      exact ⟨f - 1, by omega, Up.here ⟨i + 1, rfl, by omega, rfl⟩⟩
  · have hi : i = w.length := by omega
    rw [hi, List.take_length] at hs
    rw [← hs] at hR
    by_cases hpos : 0 ≤ s
    · obtain ⟨sn, hsn⟩ : ∃ sn : Nat, s = sn := ⟨s.toNat, by omega⟩
      have hsl : sn < d.ac.length := by have := V.acc; omega
      obtain ⟨b3, o3, hA3, hc3⟩ := hA.int hsl
      have hd : decide (0 ≤ s) = true := decide_eq_true hpos
      rw [hsn] at hd ⊢
      refine s_idxg (fun _ => ⟨by simp, rfl, hA3, by omega, by omega⟩) ?_
      simp -implicitDefEqProofs only [go_sem, Nat.reduceBEq, Nat.reduceAdd, Nat.reduceSub, Nat.reduceMul, Nat.reduceLeDiff, reduceCtorEq, ↓reduceIte, Int.reduceLT, Int.reduceLE, Int.reduceEq, Int.reduceNe]
      refine s_ldg0 (fun he => by first | exact he | rfl | simp_all) (fun _ => by simpa using hc3 _ (lk_r [] _)) (by simp) (by simp) ?_
      simp -implicitDefEqProofs only [go_sem, Nat.reduceBEq, Nat.reduceAdd, Nat.reduceSub, Nat.reduceMul, Nat.reduceLeDiff, reduceCtorEq, ↓reduceIte, Int.reduceLT, Int.reduceLE, Int.reduceEq, Int.reduceNe]
      refine Up.here ?_
      subst hR
      refine ⟨rfl, ?_⟩
      simp [accP, accD, hsn, hsl, List.getD]
    · have hd : decide (0 ≤ s) = false := decide_eq_false hpos
      simp only [hd]
      refine s_idxg (b := 0) (o := 0) (by simp) ?_
      simp -implicitDefEqProofs only [go_sem, Nat.reduceBEq, Nat.reduceAdd, Nat.reduceSub, Nat.reduceMul, Nat.reduceLeDiff, reduceCtorEq, ↓reduceIte, Int.reduceLT, Int.reduceLE, Int.reduceEq, Int.reduceNe]
      refine s_ldg0 (cs := [.int .i64 0]) (by simp) (by simp) (by simp) (by simp) ?_
      simp -implicitDefEqProofs only [go_sem, Nat.reduceBEq, Nat.reduceAdd, Nat.reduceSub, Nat.reduceMul, Nat.reduceLeDiff, reduceCtorEq, ↓reduceIte, Int.reduceLT, Int.reduceLE, Int.reduceEq, Int.reduceNe]
      refine Up.here ?_
      subst hR
      refine ⟨rfl, ?_⟩
      simp [accP, hd]
theorem learn_clone {Γr : Ctx} {d : Da} {A B : Option Addr} {c e : Nat} (hA : SlOk (lk Γr) A c d.ac) (hB : SlOk (lk Γr) B e d.nx) (ha : d.ac.length ≤ 1000) (hb : d.nx.length ≤ 1000) (hr : ∀ r ∈ d.nx, r.length ≤ 1000) :
    Ret Try.prog 157 [.agg #[.int .i64 d.st, .slice A d.ac.length c, .slice B d.nx.length e]] Γr [] (fun v Γ => ∃ g A c B e, Γ = [g] ∧ v = .agg #[.int .i64 d.st, .slice A d.ac.length c, .slice B d.nx.length e] ∧ SlOk (lk [g]) A c d.ac ∧ SlOk (lk [g]) B e d.nx) := by
  generalize hR : (fun (v : Value) (Γ : Ctx) => ∃ g A c B e, _) = R
  refine ret_of_vc tr157 (Nat.le_of_ble_eq_true rfl) ?_
  simp -implicitDefEqProofs only [S157, S157_0, go_sem, Nat.reduceBEq, Nat.reduceAdd, Nat.reduceSub, Nat.reduceMul, Nat.reduceLeDiff, reduceCtorEq, ↓reduceIte, Int.reduceLT, Int.reduceLE, Int.reduceEq, Int.reduceNe]
  intro b1 b2
  refine ⟨[V.emp], [], fun ψ Γ' => ∃ (b3 : Nat) (va : Value) (ga : PH), ψ = [(1, .box b1 67 [.int .i64 d.st, .slice A d.ac.length c, .slice B d.nx.length e]), (2, .box b2 67 [.int .i64 0, .slice none 0 0, .slice none 0 0]), (3, .box b3 67 [.int .i64 d.st, va, .slice none 0 0])] ∧ Γ' = [ga] ∧ Bld ga (lk []) 3 va d.ac, Ent.emp _, ?_, ?_⟩
  · simp -implicitDefEqProofs only [go_sem, Nat.reduceBEq, Nat.reduceAdd, Nat.reduceSub, Nat.reduceMul, Nat.reduceLeDiff, reduceCtorEq, ↓reduceIte, Int.reduceLT, Int.reduceLE, Int.reduceEq, Int.reduceNe]
    repeat' first
      | with_reducible exact True.intro
      | with_reducible refine And.intro ?_ ?_
      | with_reducible intro bk
      | (refine s_appS (α := Int) (ix := 0) (xs := []) (L := lk []) rfl (Bld.nil V.emp _ _) (hA.mono (lk_sub fun g hg => by simp [hg])) rfl (Mem.le.refl _) rfl (by simp; omega) (by simp; unfold maxLen; omega) ?_; intro vi gi hBi _; rw [List.nil_append] at hBi; obtain ⟨Ai, ci, rfl⟩ := hBi.val)
      | simp -implicitDefEqProofs only [go_sem, Nat.reduceBEq, Nat.reduceAdd, Nat.reduceSub, Nat.reduceMul, Nat.reduceLeDiff, reduceCtorEq, ↓reduceIte, Int.reduceLT, Int.reduceLE, Int.reduceEq, Int.reduceNe]
    all_goals exact Up.here ⟨_, _, _, rfl, rfl, hBi⟩
  · rintro ψ Γ' ⟨b3, va, ga, rfl, rfl, hBa⟩
    simp -implicitDefEqProofs only [go_sem, Nat.reduceBEq, Nat.reduceAdd, Nat.reduceSub, Nat.reduceMul, Nat.reduceLeDiff, reduceCtorEq, ↓reduceIte, Int.reduceLT, Int.reduceLE, Int.reduceEq, Int.reduceNe]
    refine s_loop (fun f vs Γ => ∃ (k bb : Nat) (vn : Value) (ga gn gd : PH), vs = [.box bb 67 [.int .i64 d.st, va, vn], .v true (.int .i64 k)] ∧ k + f = d.nx.length ∧ Γ = [ga, gn, gd] ∧ Bld ga (lk []) 3 va d.ac ∧ Bld gn (lk [gd]) 29 vn (d.nx.take k)) d.nx.length
      (Up.sel [[0], [], []] (by decide) fun _ _ => ⟨0, b3, _, _, _, _, rfl, by omega, rfl, hBa, Bld.nil _ _ _⟩) ?_
    clear hBa
    rintro f vs Γ ⟨k, bb, vn, ga, gn, gd, rfl, hkf, rfl, hBa, hBn⟩
    have htl : (d.nx.take k).length = k := by simp; omega
    obtain ⟨An, cn, rfl⟩ := hBn.val
    simp -implicitDefEqProofs only [S157_1, go_sem, Nat.reduceBEq, Nat.reduceAdd, Nat.reduceSub, Nat.reduceMul, Nat.reduceLeDiff, reduceCtorEq, ↓reduceIte, Int.reduceLT, Int.reduceLE, Int.reduceEq, Int.reduceNe]
    refine ⟨fun hlt => ?_, fun hge => ?_⟩
    · have hk : k < d.nx.length := by omega
      have htk : d.nx.take (k + 1) = d.nx.take k ++ [d.nx[k]] := List.take_succ_eq_append_getElem hk
      have hrl := hr _ (List.getElem_mem hk)
      obtain ⟨b4, o4, hB4, A4, c4, hr4, hc4⟩ := hB.list hk
      obtain ⟨r, hrr⟩ : ∃ r, r = d.nx[k] := ⟨_, rfl⟩
      rw [← hrr] at hr4 hc4 hrl htk
      refine s_idx hB4 (by omega) (by omega) ?_
      simp -implicitDefEqProofs only [go_sem, Nat.reduceBEq, Nat.reduceAdd, Nat.reduceSub, Nat.reduceMul, Nat.reduceLeDiff, reduceCtorEq, ↓reduceIte, Int.reduceLT, Int.reduceLE, Int.reduceEq, Int.reduceNe]
      refine s_ld0 (hc4 _ (lk_r _ _)) (by simp) (by simp) ?_
      simp -implicitDefEqProofs only [go_sem, Nat.reduceBEq, Nat.reduceAdd, Nat.reduceSub, Nat.reduceMul, Nat.reduceLeDiff, reduceCtorEq, ↓reduceIte, Int.reduceLT, Int.reduceLE, Int.reduceEq, Int.reduceNe]
      refine ⟨[ga, gn, gd], [], fun ψ Γ' => ∃ (vn' : Value) (gn' gd' : PH), ψ = [(2, .box b2 67 [.int .i64 0, .slice none 0 0, .slice none 0 0]), (3, .box bb 67 [.int .i64 d.st, va, vn']), (13, .v true (.slice B d.nx.length e)), (14, .v true (.int .i64 d.nx.length)), (15, .v true (.int .i64 k))] ∧ Γ' = [ga, gn', gd'] ∧ Bld gn' (lk [gd']) 29 vn' (d.nx.take k ++ [r]), Ent.refl _, ?_, ?_⟩
      · simp -implicitDefEqProofs only [go_sem, Nat.reduceBEq, Nat.reduceAdd, Nat.reduceSub, Nat.reduceMul, Nat.reduceLeDiff, reduceCtorEq, ↓reduceIte, Int.reduceLT, Int.reduceLE, Int.reduceEq, Int.reduceNe]
        repeat' first
          | with_reducible exact True.intro
          | with_reducible refine And.intro ?_ ?_
          | with_reducible intro bk
          | (refine s_appS (α := Int) (ix := 2) (xs := []) (L := lk []) rfl (Bld.nil gd _ _) (hr4.mono (lk_sub fun g hg => by simp [hg])) rfl (Mem.le.refl _) rfl (by simp; omega) (by simp; unfold maxLen; omega) ?_; intro vi gi hBi hKi; rw [List.nil_append] at hBi; obtain ⟨Ai, ci, rfl, hSi⟩ := hBi.slok (L' := lk [gi]) (Mem.le.refl _) (fun b o ⟨x, hx, _⟩ => by cases hx) (by omega))
          | (refine s_app1 (ix := 2) (x := r) (L' := lk [gi]) rfl hBn (kept_nil hKi) (mk_list hSi) cells_one rfl (by omega) (by unfold maxLen; omega) ?_; intro vo gn' hBo _; obtain ⟨Ao, co, rfl⟩ := hBo.val)
          | simp -implicitDefEqProofs only [go_sem, Nat.reduceBEq, Nat.reduceAdd, Nat.reduceSub, Nat.reduceMul, Nat.reduceLeDiff, reduceCtorEq, ↓reduceIte, Int.reduceLT, Int.reduceLE, Int.reduceEq, Int.reduceNe]
        all_goals exact Up.skip (Up.here ⟨_, _, _, rfl, rfl, hBo⟩)
      · rintro ψ Γ' ⟨vn', gn', gd', rfl, rfl, hBn'⟩
        simp -implicitDefEqProofs only [go_sem, Nat.reduceBEq, Nat.reduceAdd, Nat.reduceSub, Nat.reduceMul, Nat.reduceLeDiff, reduceCtorEq, ↓reduceIte, Int.reduceLT, Int.reduceLE, Int.reduceEq, Int.reduceNe]
        simp (disch := omega) only [wrap_id]
        exact ⟨f - 1, by omega, Up.here ⟨k + 1, bb, vn', ga, gn', gd', rfl, by omega, rfl, hBa, by rw [htk]; exact hBn'⟩⟩
    · have hk : k = d.nx.length := by omega
      rw [hk, List.take_length] at hBn ⊢
      obtain ⟨Aa, ca, rfl⟩ := hBa.val
      refine ⟨rfl, Up.one fun G hG => ?_⟩
      subst hR
      obtain ⟨A8, c8, e8, hS8⟩ := hBa.slok (L' := lk [G]) (Mem.le.trans (lk_sub (by simp)) hG) (fun b o ⟨x, hx, _⟩ => by cases hx) (by omega)
      obtain ⟨A9, c9, e9, hS9⟩ := hBn.slok (L' := lk [G]) (Mem.le.trans (lk_sub (by simp)) hG) (Mem.le.trans (lk_sub (by simp)) hG) (by omega)
      rw [e8, e9]
      exact ⟨G, A8, c8, A9, c9, rfl, rfl, hS8, hS9⟩
end Go.Proofs.Ytniobbepliknmaa.V
/- The text of (*parlance/learn.table).close as a statement (slots: 0 t, 1 t, 3 seen, 4 _, 5 w, 6 i, 7 c, 8 w, 9 k); no condition. -/
namespace Go.Proofs.Ytniobbepliknmaa.V
open Go
def S155_1 : Stmt :=
  Stmt.seq
  (Stmt.region [SOper.mk (some 17) none (SOp.ibin BinOp.lss (Operand.tmp 16) (Operand.tmp 15))] [0, 3, 14, 15, 16, 17])
  (Stmt.seq (Stmt.cond (Operand.tmp 17) Stmt.skip (Stmt.exit 0))
    (Stmt.seq
      (Stmt.block 1
        (Stmt.seq
          (Stmt.region
            [SOper.mk (some 18) none (SOp.idx 1 (Operand.tmp 14) (Operand.tmp 16)),
              SOper.mk (some 19) none (SOp.load false 1 (Operand.tmp 18)),
              SOper.mk (some 5) none (SOp.mv (Operand.tmp 19))]
            [0, 3, 5, 14, 15, 16])
          (Stmt.region
            [SOper.mk (some 20) none (SOp.mv (Operand.tmp 3)), SOper.mk (some 21) none (SOp.mv (Operand.tmp 0)),
              SOper.mk (some 22) none (SOp.mv (Operand.tmp 5)),
              SOper.mk (some 23) none (SOp.call (Operand.func 191) [Operand.tmp 21, Operand.tmp 22]),
              SOper.mk none none (SOp.a (Qk.upd 118) [Operand.tmp 20, Operand.tmp 23, Operand.const (Value.bool true)])]
            [0, 3, 14, 15, 16])))
      (Stmt.region
        [SOper.mk (some 24) none (SOp.ibin BinOp.add (Operand.tmp 16) (Operand.const (Value.int IntKind.i64 1))),
          SOper.mk (some 16) none (SOp.mv (Operand.tmp 24))]
        [0, 3, 14, 15, 16])))
def S155_2 : Stmt :=
  Stmt.seq
  (Stmt.region
    [SOper.mk (some 52) none (SOp.mv (Operand.tmp 0)), SOper.mk (some 53) none (SOp.mv (Operand.tmp 8)),
      SOper.mk (some 54) none (SOp.call (Operand.func 191) [Operand.tmp 52, Operand.tmp 53]),
      SOper.mk (some 9) none (SOp.mv (Operand.tmp 54))]
    [0, 3, 6, 8, 9, 37, 38])
  (Stmt.seq
    (Stmt.region
      [SOper.mk (some 55) none (SOp.mv (Operand.tmp 3)), SOper.mk (some 56) none (SOp.mv (Operand.tmp 9)),
        SOper.mk (some 57) none (SOp.q (Qk.look 118 false) [Operand.tmp 55, Operand.tmp 56]),
        SOper.mk (some 58) none (SOp.un UnOp.not (Operand.tmp 57))]
      [0, 3, 6, 8, 9, 37, 38, 58])
    (Stmt.cond (Operand.tmp 58)
      (Stmt.seq
        (Stmt.region
          [SOper.mk (some 59) none (SOp.mv (Operand.tmp 3)), SOper.mk (some 60) none (SOp.mv (Operand.tmp 9)),
            SOper.mk none none (SOp.a (Qk.upd 118) [Operand.tmp 59, Operand.tmp 60, Operand.const (Value.bool true)])]
          [0, 3, 6, 8, 37, 38])
        (Stmt.region
          [SOper.mk (some 61) none (SOp.mv (Operand.tmp 0)), SOper.mk (some 62) none (SOp.mv (Operand.tmp 0)),
            SOper.mk (some 63) none (SOp.nilCheck (Operand.tmp 62)),
            SOper.mk (some 64) none (SOp.fld 3 (Operand.tmp 63)),
            SOper.mk (some 65) none (SOp.load false 1 (Operand.tmp 64)),
            SOper.mk (some 66) none (SOp.mv (Operand.tmp 8)),
            SOper.mk (some 67) none (SOp.buildS 29 1 [Value.slice none 0 0] [(0, 1, Operand.tmp 66)]),
            SOper.mk (some 68) none (SOp.append 65 29 1 24 (Value.slice none 0 0) (Operand.tmp 65) (Operand.tmp 67)),
            SOper.mk (some 69) none (SOp.nilCheck (Operand.tmp 61)),
            SOper.mk (some 70) none (SOp.fld 3 (Operand.tmp 69)),
            SOper.mk none none (SOp.store 1 (Operand.tmp 70) (Operand.tmp 68))]
          [0, 3, 6, 37, 38]))
      Stmt.skip))
def S155_3 : Stmt :=
  Stmt.seq
  (Stmt.region
    [SOper.mk (some 71) none (SOp.mv (Operand.tmp 0)), SOper.mk (some 72) none (SOp.nilCheck (Operand.tmp 71)),
      SOper.mk (some 73) none (SOp.fld 3 (Operand.tmp 72)), SOper.mk (some 74) none (SOp.load false 1 (Operand.tmp 73)),
      SOper.mk (some 75) none (SOp.len false (Operand.tmp 74)),
      SOper.mk (some 76) none (SOp.ibin BinOp.gtr (Operand.tmp 75) (Operand.const (Value.int IntKind.i64 200)))]
    [0, 3, 6, 37, 38, 76])
  (Stmt.cond (Operand.tmp 76)
    (Stmt.seq (Stmt.region [SOper.mk (some 2) none (SOp.mv (Operand.const (Value.bool false)))] [2]) Stmt.ret)
    Stmt.skip)
def S155_4 : Stmt :=
  Stmt.block 5
  (Stmt.seq
    (Stmt.region [SOper.mk (some 40) none (SOp.mv (Operand.tmp 38)), SOper.mk (some 7) none (SOp.mv (Operand.tmp 40))]
      [0, 3, 6, 7, 37, 38])
    (Stmt.seq
      (Stmt.region
        [SOper.mk (some 41) none (SOp.mv (Operand.tmp 0)), SOper.mk (some 42) none (SOp.nilCheck (Operand.tmp 41)),
          SOper.mk (some 43) none (SOp.fld 3 (Operand.tmp 42)),
          SOper.mk (some 44) none (SOp.load false 1 (Operand.tmp 43)), SOper.mk (some 45) none (SOp.mv (Operand.tmp 6)),
          SOper.mk (some 46) none (SOp.idx 1 (Operand.tmp 44) (Operand.tmp 45)),
          SOper.mk (some 47) none (SOp.load false 1 (Operand.tmp 46)),
          SOper.mk (some 48) none
            (SOp.append 29 3 1 8 (Value.int IntKind.i64 0) (Operand.const (Value.slice none 0 0)) (Operand.tmp 47)),
          SOper.mk (some 49) none (SOp.mv (Operand.tmp 7)),
          SOper.mk (some 50) none (SOp.buildS 3 1 [Value.int IntKind.i64 0] [(0, 1, Operand.tmp 49)]),
          SOper.mk (some 51) none (SOp.append 29 3 1 8 (Value.int IntKind.i64 0) (Operand.tmp 48) (Operand.tmp 50)),
          SOper.mk (some 8) none (SOp.mv (Operand.tmp 51))]
        [0, 3, 6, 8, 37, 38])
      (Stmt.join S155_2 S155_3 [] [0, 3, 6, 37, 38])))
def S155_5 : Stmt :=
  Stmt.region
  [SOper.mk (some 77) none (SOp.ibin BinOp.add (Operand.tmp 38) (Operand.const (Value.int IntKind.i64 1))),
    SOper.mk (some 38) none (SOp.mv (Operand.tmp 77))]
  [0, 3, 6, 37, 38]
def S155_6 : Stmt :=
  Stmt.seq
  (Stmt.region [SOper.mk (some 39) none (SOp.ibin BinOp.lss (Operand.tmp 38) (Operand.tmp 37))] [0, 3, 6, 37, 38, 39])
  (Stmt.seq (Stmt.cond (Operand.tmp 39) Stmt.skip (Stmt.exit 4)) (Stmt.join S155_4 S155_5 [] [0, 3, 6, 37, 38]))
def S155_7 : Stmt :=
  Stmt.seq
  (Stmt.seq
    (Stmt.region
      [SOper.mk (some 25) none (SOp.mv (Operand.tmp 6)), SOper.mk (some 26) none (SOp.mv (Operand.tmp 0)),
        SOper.mk (some 27) none (SOp.nilCheck (Operand.tmp 26)), SOper.mk (some 28) none (SOp.fld 3 (Operand.tmp 27)),
        SOper.mk (some 29) none (SOp.load false 1 (Operand.tmp 28)),
        SOper.mk (some 30) none (SOp.len false (Operand.tmp 29)),
        SOper.mk (some 31) none (SOp.ibin BinOp.lss (Operand.tmp 25) (Operand.tmp 30))]
      [0, 3, 6, 31])
    (Stmt.cond (Operand.tmp 31) Stmt.skip (Stmt.exit 2)))
  (Stmt.seq
    (Stmt.block 3
      (Stmt.seq
        (Stmt.region
          [SOper.mk (some 34) none (SOp.mv (Operand.tmp 0)), SOper.mk (some 35) none (SOp.nilCheck (Operand.tmp 34)),
            SOper.mk (some 36) none (SOp.fld 0 (Operand.tmp 35)),
            SOper.mk (some 37) none (SOp.load false 1 (Operand.tmp 36)),
            SOper.mk (some 38) none (SOp.mv (Operand.const (Value.int IntKind.i64 0)))]
          [0, 3, 6, 37, 38])
        (Stmt.block 4 (Stmt.loop S155_6 [38] [0, 3, 6, 37]))))
    (Stmt.region
      [SOper.mk (some 32) none (SOp.mv (Operand.tmp 6)),
        SOper.mk (some 33) none (SOp.ibin BinOp.add (Operand.tmp 32) (Operand.const (Value.int IntKind.i64 1))),
        SOper.mk (some 6) none (SOp.mv (Operand.tmp 33))]
      [0, 3, 6]))
def S155_0 : Stmt :=
  Stmt.seq (Stmt.region [SOper.mk (some 2) none (SOp.mv (Operand.const (Value.bool false)))] [0])
  (Stmt.seq
    (Stmt.region [SOper.mk (some 10) none (SOp.n (Qk.mkmap 118) []), SOper.mk (some 3) none (SOp.mv (Operand.tmp 10))]
      [0, 3])
    (Stmt.seq
      (Stmt.seq
        (Stmt.region
          [SOper.mk (some 11) none (SOp.mv (Operand.tmp 0)), SOper.mk (some 12) none (SOp.nilCheck (Operand.tmp 11)),
            SOper.mk (some 13) none (SOp.fld 3 (Operand.tmp 12)),
            SOper.mk (some 14) none (SOp.load false 1 (Operand.tmp 13)),
            SOper.mk (some 15) none (SOp.len false (Operand.tmp 14)),
            SOper.mk (some 16) none (SOp.mv (Operand.const (Value.int IntKind.i64 0)))]
          [0, 3, 14, 15, 16])
        (Stmt.block 0 (Stmt.loop S155_1 [16] [0, 3, 14, 15])))
      (Stmt.seq
        (Stmt.seq (Stmt.region [SOper.mk (some 6) none (SOp.mv (Operand.const (Value.int IntKind.i64 0)))] [0, 3, 6])
          (Stmt.block 2 (Stmt.loop S155_7 [6] [0, 3])))
        (Stmt.seq (Stmt.region [SOper.mk (some 2) none (SOp.mv (Operand.const (Value.bool true)))] [2]) Stmt.ret))))
def S155 : FnS := ⟨78, [(2, none)], S155_0⟩
theorem tr155 : trFn Try.prog 155 [] [[0], [0, 3], [0, 3, 14, 15, 16], [16], [0, 3, 14, 15], [0, 3, 14, 15, 16, 17], [0, 3, 5, 14, 15, 16], [0, 3, 14, 15, 16], [0, 3, 14, 15, 16], [0, 3, 6], [6], [0, 3], [0, 3, 6, 31], [0, 3, 6, 37, 38], [38], [0, 3, 6, 37], [0, 3, 6, 37, 38, 39], [], [0, 3, 6, 37, 38], [0, 3, 6, 7, 37, 38], [0, 3, 6, 8, 37, 38], [], [0, 3, 6, 37, 38], [0, 3, 6, 8, 9, 37, 38], [0, 3, 6, 8, 9, 37, 38, 58], [0, 3, 6, 8, 37, 38], [0, 3, 6, 37, 38], [0, 3, 6, 37, 38, 76], [2], [0, 3, 6, 37, 38], [0, 3, 6], [2]] = some S155 := by kernel_rfl
end Go.Proofs.Ytniobbepliknmaa.V
