/- Texts put together, in the order in which they build; each says what it proves; no condition. -/
import Derived.Test.YtniobbepliknmaaM7
import Derived.Test.YtniobbepliknmaaM2
import Derived.Test.YtniobbepliknmaaProg
/- Two automata side by side, by how far they are from a difference: parlref5.Apart walked; no condition. -/
namespace Go.Proofs.Ytniobbepliknmaa.V
open Go
set_option linter.unusedVariables false
set_option linter.unusedSimpArgs false
attribute [local go_sem] e_seq e_region e_quiet e_join e_loop e_cond e_block e_exit e_ret e_skip e_fin e_kseq e_snrm e_sret e_sex e_bnrm e_bret e_bex e_rnrm e_rret e_res e_condC e_nil e_g e_mv g_mv e_pick g_pick pickC_eq e_ibin g_ibin ibinC_eq e_sbin g_sbin e_beq g_beq beqC_eq e_nilq g_nilq nilqC_sl nilqC_pt nilqC_mp e_un g_un unC_not unC_neg e_conv g_conv convC_eq e_fld g_fld fldC_ref fldC_ptr e_nilCheck g_nilCheck nilCheckC_ref nilCheckC_ptr nilCheckC_fun e_field g_field fieldC_eq e_len g_len lenC_sl lenC_str e_extract g_extract extractC_eq e_mkFunc e_build g_build e_idiv g_idiv idivC_eq e_ishift g_ishift ishiftC_eq e_idx g_idx e_idxA g_idxA e_load g_load e_loadB g_loadB atB_ref atB_v g_mkFunc loadC_ref loadC_ptr loadB_eq e_slc g_slc e_box boxC_loc boxC_esc e_alloc allocC_loc allocC_esc e_buildS e_store storeC_ref storeC_ptr storeB_eq e_append e_appz e_mk mkC_eq e_call callC_eq e_fn g_fn fnC_eq fnV_min' fnV_max' fnV_rune' e_q g_q e_a e_n g_call g_box g_alloc g_buildS g_store g_append g_mk g_a g_n g_dead e_dead e_callK e_drawn e_tree e_finJ e_tk e_tfin e_tno e_nbt_q e_nbt_qn e_nbt_a e_nbt_an e_nbt_fin e_drawnB e_bxb_nil e_bxb e_stB_none e_stB_some boxSt_store bs_mv bs_pick bs_ibin bs_idiv bs_ishift bs_sbin bs_beq bs_nilq bs_un bs_conv bs_box bs_alloc bs_build bs_buildS bs_load bs_fld bs_nilCheck bs_idx bs_idxA bs_field bs_slc bs_len bs_append bs_appz bs_mk bs_call bs_extract bs_mkFunc bs_fn bs_q bs_a bs_n bs_loadB bs_dead isBox_box e_early_nil e_early_t e_early_f e_nob_nil e_nob_none e_nob_some isBox_dead isBox_v isBox_ref e_dnil e_dk e_ek e_finB vcOps_vc1 e_dcons e_tq e_ekt e_tearly e_talt e_dearly look_nil look_c proj_nil proj_c looks_nil looks_c zip_nil zip_c val_tmp val_const val_func slv_v slv_box slv_ref slot_tmp slot_const slot_func slotL_v slotL_box slotL_ref put_some put_none updBox_c boxSet_box gd_eq slotVals_nil slotVals_c slotVals_b boxV_box boxOn_box slotsOn_nil slotsOn_c slotsOn_b resV_one resV_two vals_nil vals_c allOn_nil allOn_c partOn_nil partOn_c partVals_nil partVals_c fits_nil fits_c fillL_nil fillL_c mkv_one mkv_agg cellsV_agg cellsV_int cellsV_bool cellsV_slice cellsV_string cellsV_pointer cellsV_func cellsV_nilf cellsV_map one'_nil one'_c oc_int oc_bool oc_slice oc_string oc_pointer oc_func oc_nilf oc_map setC_eq iv_add iv_sub iv_mul iv_eql iv_neq iv_lss iv_leq iv_gtr iv_geq iok_add iok_sub iok_mul iok_eql iok_neq iok_lss iok_leq iok_gtr iok_geq pickV_bool args0_nil args0_c bnd_none bnd_some imp_bt imp_bf imp_ebt imp_ebf imp_eb1 imp_np imp_pp beq_tt beq_tf beq_ft beq_ff cond_or cond_and e_round e_meet Int.le_refl Int.toNat_zero decide_true decide_false Bool.or_false Bool.false_or Bool.true_or Bool.or_true Bool.and_false Bool.false_and Bool.bne_false Bool.bne_true beq_iff_eq Int.cast_ofNat_Int not_false_eq_true not_true_eq_false false_and and_false false_implies true_implies true_and and_true Bool.true_and Bool.and_true Bool.not_true Bool.not_false forall_const implies_true List.take_zero List.drop_zero List.take_succ_cons List.drop_succ_cons List.take_nil List.drop_nil List.length_cons List.length_nil List.nil_append List.append_nil List.cons_append Int.toNat_natCast decide_eq_true_eq decide_eq_false_iff_not cond_true cond_false and_self List.getElem?_cons_zero List.getElem?_cons_succ List.set_cons_zero List.set_cons_succ Option.some.injEq exists_eq_left' Nat.zero_add Nat.add_zero Nat.mul_one imp_self true_or or_true or_false false_or Bool.or_eq_true Bool.or_eq_false_iff Bool.and_eq_true Bool.and_eq_false_iff Bool.not_eq_true' Bool.not_eq_false'

theorem Arr.int {g : PH} {b : Nat} {T : TypeId} {xs : List Int} (h : Arr g b T xs) {i : Nat} (hi : i < xs.length) {Γ : Ctx} (hg : g ∈ Γ) : Cells Γ b i [.int .i64 xs[i]] := h.cell hi hg
def iset2 (F : List (List Int)) (a b : Nat) (v : Int) : List (List Int) := F.set a ((F.getD a []).set b v)
structure Rc (n m : Nat) (F : List (List Int)) : Prop where
  len : F.length = n
  row : ∀ r ∈ F, r.length = m
theorem Rc.at' {n m : Nat} {F : List (List Int)} (h : Rc n m F) {a : Nat} (ha : a < F.length) : F[a].length = m := h.row _ (List.getElem_mem ha)
theorem Rc.set {n m : Nat} {F : List (List Int)} (h : Rc n m F) (a b : Nat) (v : Int) : Rc n m (iset2 F a b v) := by
  refine ⟨by simp [iset2, h.len], fun r hr => ?_⟩
  unfold iset2 at hr
  rcases Nat.lt_or_ge a F.length with ha | ha
  · rcases List.mem_or_eq_of_mem_set hr with q | q
    · exact h.row r q
    · subst q; simp [ha, h.at' ha]
  · rw [List.set_eq_of_length_le ha] at hr
    exact h.row r hr
theorem fr_at {F : List (List Int)} {a b : Nat} (ha : a < F.length) (hb : b < F[a].length) : fr F a b = F[a][b] := by simp [fr, ha, hb]
theorem fr_set {n m : Nat} {F : List (List Int)} (h : Rc n m F) {a b : Nat} (v : Int) (ha : a < n) (hb : b < m) (p q : Nat) : fr (iset2 F a b v) p q = if p = a ∧ q = b then v else fr F p q := by
  have hl := h.len
  have hr := h.at' (a := a) (by omega)
  by_cases e : p = a
  · subst e
    simp only [fr, iset2, List.getD_eq_getElem?_getD, List.getElem?_set_self (show p < F.length by omega), Option.getD_some]
    rw [List.getElem?_eq_getElem (show p < F.length by omega)]
    simp only [Option.getD_some, List.getElem?_set]
    by_cases e' : b = q
    · subst e'
      simp [hr, hb]
    · have : ¬ q = b := fun z => e' z.symm
      simp [e', this]
  · have e'' : ¬ a = p := fun z => e z.symm
    simp [fr, iset2, List.getD_eq_getElem?_getD, List.getElem?_set, e, e'']
theorem iset2_at {F : List (List Int)} {a b : Nat} (ha : a < F.length) (v : Int) : iset2 F a b v = F.set a (F[a].set b v) := by simp [iset2, ha]
def ssum (F : List (List Int)) : Int := (F.map List.sum).sum
theorem sum_set : ∀ {l : List Int} {b : Nat} (hb : b < l.length) (v : Int), (l.set b v).sum = l.sum - l[b] + v
  | x :: l, 0, _, v => by simp; omega
  | x :: l, b + 1, h, v => by
    have := sum_set (l := l) (b := b) (by simpa using h) v
    simp only [List.set_cons_succ, List.sum_cons, this, List.getElem_cons_succ]
    omega
theorem ssum_set : ∀ {F : List (List Int)} {a b : Nat} (ha : a < F.length) (hb : b < F[a].length) (v : Int), ssum (F.set a (F[a].set b v)) = ssum F - F[a][b] + v
  | x :: F, 0, b, _, hb, v => by
    simp only [ssum, List.set_cons_zero, List.map_cons, List.sum_cons, List.getElem_cons_zero]
    rw [sum_set (by simpa using hb)]
    omega
  | x :: F, a + 1, b, ha, hb, v => by
    have := ssum_set (F := F) (a := a) (b := b) (by simpa using ha) (by simpa using hb) v
    simp only [ssum, List.set_cons_succ, List.map_cons, List.sum_cons, List.getElem_cons_succ] at this ⊢
    omega
theorem sum_nonneg' : ∀ {l : List Int}, (∀ x ∈ l, 0 ≤ x) → 0 ≤ l.sum
  | [], _ => by simp
  | x :: l, h => by
    have := sum_nonneg' (l := l) fun y hy => h y (by simp [hy])
    have := h x (by simp)
    simp; omega
theorem ssum_nonneg {F : List (List Int)} (h : ∀ r ∈ F, ∀ x ∈ r, 0 ≤ x) : 0 ≤ ssum F := sum_nonneg' fun x hx => by
  obtain ⟨r, hr, rfl⟩ := List.mem_map.1 hx
  exact sum_nonneg' (h r hr)
section
variable {x y : Da}
theorem FarS.rc {F : List (List Int)} (h : FarS x y F) : Rc (x.nx.length + 1) (y.nx.length + 1) F := ⟨h.len, h.row⟩
theorem FarS.nonneg {F : List (List Int)} (h : FarS x y F) : 0 ≤ ssum F := by
  refine ssum_nonneg fun r hr z hz => ?_
  obtain ⟨a, ha, rfl⟩ := List.getElem_of_mem hr
  obtain ⟨b, hb, rfl⟩ := List.getElem_of_mem hz
  have h1 := h.len
  have h2 := h.row _ hr
  have := (h.lo a b (by omega) (by omega)).1
  rwa [fr_at ha hb] at this
/-- one comes nearer -/
theorem FarS.upd (Vx : VD x) (Vy : VD y) (hxy : colsD x = colsD y) {F : List (List Int)} (h : FarS x y F) {a b : Nat} (ha : a ≤ x.nx.length) (hb : b ≤ y.nx.length) {c : Nat} (hc : (c : Int) < colsD x) (hlt : fr F (gI x a c) (gI y b c) + 1 < fr F a b) : FarS x y (iset2 F a b (fr F (gI x a c) (gI y b c) + 1)) := by
  have hcc : 0 ≤ (c : Int) ∧ (c : Int) < colsD x := ⟨by omega, hc⟩
  have g1 := (stI_g Vx (s := a) hcc).2
  have g2 := (stI_g Vy (s := b) (by rw [← hxy]; exact hcc)).2
  have hlo := h.lo _ _ g1 g2
  have hlo' := h.lo a b ha hb
  have R := h.rc.set a b (fr F (gI x a c) (gI y b c) + 1)
  refine ⟨R.len, R.row, fun p q hp hq => ?_, fun p q hp hq hl => ?_, fun p q hp hq hd => ?_⟩
  · rw [fr_set h.rc _ (by omega) (by omega)]
    split
    · omega
    · exact h.lo p q hp hq
  · rw [fr_set h.rc _ (by omega) (by omega)] at hl ⊢
    split at hl
    · rename_i e
      obtain ⟨rfl, rfl⟩ := e
      rw [if_pos ⟨rfl, rfl⟩]
      obtain ⟨w, h1, h2, h3⟩ := h.snd _ _ g1 g2 (by omega)
      refine ⟨(c : Int) :: w, fun z hz => ?_, by simp; omega, (difI_cons Vx Vy hxy hcc).2 h3⟩
      rcases List.mem_cons.1 hz with rfl | hz
      · exact hcc
      · exact h1 z hz
    · rename_i e
      rw [if_neg e]
      exact h.snd p q hp hq hl
  · rw [fr_set h.rc _ (by omega) (by omega)]
    split
    · rename_i e
      obtain ⟨rfl, rfl⟩ := e
      have := h.zero p q ha hb hd
      omega
    · exact h.zero p q hp hq hd
def difB (x y : Da) (a b : Nat) : Bool := accP x (stI x a) != accP y (stI y b)
theorem difB_iff {a b : Nat} : difB x y a b = true ↔ DifI x y a b [] := by simp [difB, DifI, goD]
/-- how far, at first -/
def far0 (x y : Da) (a b : Nat) : Int := if difB x y a b then 0 else 1099511627776
theorem FarS.init {F : List (List Int)} (hR : Rc (x.nx.length + 1) (y.nx.length + 1) F) (h : ∀ a b, a ≤ x.nx.length → b ≤ y.nx.length → fr F a b = far0 x y a b) : FarS x y F := by
  refine ⟨hR.len, hR.row, fun a b ha hb => ?_, fun a b ha hb hl => ?_, fun a b ha hb hd => ?_⟩
  · rw [h a b ha hb]; unfold far0; split <;> omega
  · rw [h a b ha hb] at hl ⊢
    unfold far0 at hl ⊢
    split at hl
    · rename_i hd
      exact ⟨[], fun z hz => (by cases hz), (by simp [hd]), difB_iff.1 hd⟩
    · omega
  · rw [h a b ha hb]; unfold far0; rw [if_pos (difB_iff.2 hd)]
/-- one place is done -/
def ClA (x y : Da) (F : List (List Int)) (a b c : Nat) : Prop := fr F a b ≤ fr F (gI x a c) (gI y b c) + 1
end
set_option maxHeartbeats 4000000 in
theorem ref_apart {Γr : Ctx} {x y : Da} (Vx : VD x) (Vy : VD y) (hxy : colsD x = colsD y) {A B C D : Option Addr} {ca cb cc cd : Nat} (hA : SlOk (lk Γr) A ca x.ac) (hB : SlOk (lk Γr) B cb x.nx) (hC : SlOk (lk Γr) C cc y.ac) (hD : SlOk (lk Γr) D cd y.nx) :
    Ret Try.prog 53 [.agg #[.int .i64 x.st, .slice A x.ac.length ca, .slice B x.nx.length cb], .agg #[.int .i64 y.st, .slice C y.ac.length cc, .slice D y.nx.length cd]] Γr [] (fun v Γ => ∃ g w b v', Γ = [g] ∧ v = .tuple #[v', .bool b] ∧ Bld g (lk []) 3 v' w ∧ w.length ≤ 1099511627776 ∧ ToldF x y w b) := by
  generalize hR : (fun (v : Value) (Γ : Ctx) => ∃ g w b v', _) = Q
  refine ret_of_vc tr53 (Nat.le_of_ble_eq_true rfl) ?_
  have hlx := Vx.len
  have hly := Vy.len
  have hcx := Vx.cols
  have hsx := Vx.st
  have hsy := Vy.st
  have hpx : 0 < x.nx.length := by omega
  obtain ⟨b1, o1, hB1, A1, c1, hr1, hc1⟩ := hB.list hpx
  rw [cols_at hpx] at hc1
  have hc1' : ∀ Γ : Ctx, Mem.le (lk Γr) (lk Γ) → Cells Γ b1 o1 [.slice A1 (colsD x) c1] := fun Γ h => by simpa using hc1 Γ h
  obtain ⟨N, hN⟩ : ∃ N : Nat, x.nx.length = N := ⟨_, rfl⟩
  obtain ⟨M, hM⟩ : ∃ M : Nat, y.nx.length = M := ⟨_, rfl⟩
  simp -implicitDefEqProofs only [S53, S53_0, go_sem, Nat.reduceBEq, Nat.reduceAdd, Nat.reduceSub, Nat.reduceMul, Nat.reduceLeDiff, reduceCtorEq, ↓reduceIte, Int.reduceLT, Int.reduceLE, Int.reduceEq, Int.reduceNe]
  intro bx by'
  simp (disch := omega) only [wrap_id]
  rw [show (x.nx.length : Int) + 1 = ((N + 1 : Nat) : Int) by omega, show (y.nx.length : Int) + 1 = ((M + 1 : Nat) : Int) by omega]
  refine CallVC.pure (grid_int (Γr := []) (N + 1) (M + 1) (by omega) (by omega)) (List.nil_sublist _) ?_
  rintro v Γ' ⟨gF, bF, rfl, rfl, hG⟩
  simp -implicitDefEqProofs only [go_sem, Nat.reduceBEq, Nat.reduceAdd, Nat.reduceSub, Nat.reduceMul, Nat.reduceLeDiff, reduceCtorEq, ↓reduceIte, Int.reduceLT, Int.reduceLE, Int.reduceEq, Int.reduceNe]
  refine s_loop (fun f vs Γ => ∃ gF, Γ = [gF] ∧ ∃ (a : Nat) (F : List (List Int)), vs = [.v true (.int .i64 a)] ∧ a + f = N + 1 ∧ Grid gF bF 29 3 F ∧ Rc (N + 1) (M + 1) F ∧ ∀ p q, p < a → q ≤ M → fr F p q = far0 x y p q) (N + 1)
    (Up.here ⟨_, rfl, 0, _, rfl, by omega, hG, ⟨by simp, fun r hr => by rw [List.eq_of_mem_replicate hr]; simp⟩, fun p q h => by omega⟩) ?_
  rintro f vs Γ ⟨gF, rfl, a, F, rfl, haf, hG, hRc, hd0⟩
  simp -implicitDefEqProofs only [S53_4, go_sem, Nat.reduceBEq, Nat.reduceAdd, Nat.reduceSub, Nat.reduceMul, Nat.reduceLeDiff, reduceCtorEq, ↓reduceIte, Int.reduceLT, Int.reduceLE, Int.reduceEq, Int.reduceNe]
  refine ⟨fun hlt => ?_, fun hge => ?_⟩
  · have ha : a < N + 1 := by omega
    have hFl := hRc.len
    have hra := hRc.at' (a := a) (by omega)
    obtain ⟨ka, hcell, hArr, hput⟩ := hG.at' (i := a) (by omega) (by omega)
    refine s_idx rfl (by omega) (by omega) ?_
    simp -implicitDefEqProofs only [go_sem, Nat.reduceBEq, Nat.reduceAdd, Nat.reduceSub, Nat.reduceMul, Nat.reduceLeDiff, reduceCtorEq, ↓reduceIte, Int.reduceLT, Int.reduceLE, Int.reduceEq, Int.reduceNe]
    refine s_ld0 (hcell _ (by simp)) (by simp) (by simp) ?_
    simp -implicitDefEqProofs only [go_sem, Nat.reduceBEq, Nat.reduceAdd, Nat.reduceSub, Nat.reduceMul, Nat.reduceLeDiff, reduceCtorEq, ↓reduceIte, Int.reduceLT, Int.reduceLE, Int.reduceEq, Int.reduceNe]
    refine s_loop (fun f2 vs Γ => ∃ gF, Γ = [gF] ∧ ∃ (b : Nat) (F2 : List (List Int)), vs = [.v true (.int .i64 b)] ∧ b + f2 = M + 1 ∧ Grid gF bF 29 3 F2 ∧ Rc (N + 1) (M + 1) F2 ∧ (∀ p q, p < a → q ≤ M → fr F2 p q = far0 x y p q) ∧ ∀ q, q < b → fr F2 a q = far0 x y a q) (M + 1)
      (Up.here ⟨_, rfl, 0, F, rfl, by omega, hG, hRc, hd0, fun q h => by omega⟩) ?_
    rintro f2 vs Γ ⟨gF2, rfl, b, F2, rfl, hbf, hG2, hRc2, hd2, hda⟩
    simp -implicitDefEqProofs only [S53_3, go_sem, Nat.reduceBEq, Nat.reduceAdd, Nat.reduceSub, Nat.reduceMul, Nat.reduceLeDiff, reduceCtorEq, ↓reduceIte, Int.reduceLT, Int.reduceLE, Int.reduceEq, Int.reduceNe]
    refine ⟨fun hlt => ?_, fun hge => ?_⟩
    · have hb : b < M + 1 := by omega
      have hFl2 := hRc2.len
      have hra2 := hRc2.at' (a := a) (by omega)
      obtain ⟨ka2, hcell2, hArr2, hput2⟩ := hG2.at' (i := a) (by omega) (by omega)
      refine s_split ?_
      simp -implicitDefEqProofs only [S53_1, S53_2, go_sem, Nat.reduceBEq, Nat.reduceAdd, Nat.reduceSub, Nat.reduceMul, Nat.reduceLeDiff, reduceCtorEq, ↓reduceIte, Int.reduceLT, Int.reduceLE, Int.reduceEq, Int.reduceNe]
      refine s_idx rfl (by omega) (by omega) ?_
      simp -implicitDefEqProofs only [go_sem, Nat.reduceBEq, Nat.reduceAdd, Nat.reduceSub, Nat.reduceMul, Nat.reduceLeDiff, reduceCtorEq, ↓reduceIte, Int.reduceLT, Int.reduceLE, Int.reduceEq, Int.reduceNe]
      refine s_ld0 (hcell2 _ (by simp)) (by simp) (by simp) ?_
      simp -implicitDefEqProofs only [go_sem, Nat.reduceBEq, Nat.reduceAdd, Nat.reduceSub, Nat.reduceMul, Nat.reduceLeDiff, reduceCtorEq, ↓reduceIte, Int.reduceLT, Int.reduceLE, Int.reduceEq, Int.reduceNe]
      refine s_idx rfl (by omega) (by omega) ?_
      simp -implicitDefEqProofs only [go_sem, Nat.reduceBEq, Nat.reduceAdd, Nat.reduceSub, Nat.reduceMul, Nat.reduceLeDiff, reduceCtorEq, ↓reduceIte, Int.reduceLT, Int.reduceLE, Int.reduceEq, Int.reduceNe]
      refine s_storeA (ix := 0) (α := Int) 1099511627776 rfl hArr2 (i := b) (by omega) ?_
      intro g3 hA3 ho3
      have hG3 := hput2 g3 _ hA3 (by simp) ho3
      rw [← iset2_at (by omega)] at hG3
      have hRc3 := hRc2.set a b 1099511627776
      have hfr3 := fr_set hRc2 1099511627776 ha hb
      generalize iset2 F2 a b 1099511627776 = F3 at *
      simp -implicitDefEqProofs only [go_sem, Nat.reduceBEq, Nat.reduceAdd, Nat.reduceSub, Nat.reduceMul, Nat.reduceLeDiff, reduceCtorEq, ↓reduceIte, Int.reduceLT, Int.reduceLE, Int.reduceEq, Int.reduceNe]
      refine s_drawn [] [g3] (Ent.refl _) ?_
      simp -implicitDefEqProofs only [go_sem, Nat.reduceBEq, Nat.reduceAdd, Nat.reduceSub, Nat.reduceMul, Nat.reduceLeDiff, reduceCtorEq, ↓reduceIte, Int.reduceLT, Int.reduceLE, Int.reduceEq, Int.reduceNe]
      refine CallVC.read (apart_good (d := x) (hA.mono (lk_sub fun g hg => by simp [hg])) Vx (s := a) (by omega)) ?_
      rintro v Γ' ⟨rfl, rfl⟩
      simp -implicitDefEqProofs only [go_sem, Nat.reduceBEq, Nat.reduceAdd, Nat.reduceSub, Nat.reduceMul, Nat.reduceLeDiff, reduceCtorEq, ↓reduceIte, Int.reduceLT, Int.reduceLE, Int.reduceEq, Int.reduceNe]
      refine CallVC.read (apart_good (d := y) (hC.mono (lk_sub fun g hg => by simp [hg])) Vy (s := b) (by omega)) ?_
      rintro v Γ' ⟨rfl, rfl⟩
      simp -implicitDefEqProofs only [go_sem, Nat.reduceBEq, Nat.reduceAdd, Nat.reduceSub, Nat.reduceMul, Nat.reduceLeDiff, reduceCtorEq, ↓reduceIte, Int.reduceLT, Int.reduceLE, Int.reduceEq, Int.reduceNe]
      refine ⟨fun hne => ?_, fun heq => ?_⟩
      · have hFl3 := hRc3.len
        have hra3 := hRc3.at' (a := a) (by omega)
        obtain ⟨ka3, hcell3, hArr3, hput3⟩ := hG3.at' (i := a) (by omega) (by omega)
        refine s_idx rfl (by omega) (by omega) ?_
        simp -implicitDefEqProofs only [go_sem, Nat.reduceBEq, Nat.reduceAdd, Nat.reduceSub, Nat.reduceMul, Nat.reduceLeDiff, reduceCtorEq, ↓reduceIte, Int.reduceLT, Int.reduceLE, Int.reduceEq, Int.reduceNe]
        refine s_ld0 (hcell3 _ (by simp)) (by simp) (by simp) ?_
        simp -implicitDefEqProofs only [go_sem, Nat.reduceBEq, Nat.reduceAdd, Nat.reduceSub, Nat.reduceMul, Nat.reduceLeDiff, reduceCtorEq, ↓reduceIte, Int.reduceLT, Int.reduceLE, Int.reduceEq, Int.reduceNe]
        refine s_idx rfl (by omega) (by omega) ?_
        simp -implicitDefEqProofs only [go_sem, Nat.reduceBEq, Nat.reduceAdd, Nat.reduceSub, Nat.reduceMul, Nat.reduceLeDiff, reduceCtorEq, ↓reduceIte, Int.reduceLT, Int.reduceLE, Int.reduceEq, Int.reduceNe]
        refine s_storeA (ix := 0) (α := Int) 0 rfl hArr3 (i := b) (by omega) ?_
        intro g4 hA4 ho4
        have hG4 := hput3 g4 _ hA4 (by simp) ho4
        rw [← iset2_at (by omega)] at hG4
        have hfr4 := fr_set hRc3 0 ha hb
        have hdif : difB x y a b = true := by simpa [difB] using hne
        simp -implicitDefEqProofs only [go_sem, Nat.reduceBEq, Nat.reduceAdd, Nat.reduceSub, Nat.reduceMul, Nat.reduceLeDiff, reduceCtorEq, ↓reduceIte, Int.reduceLT, Int.reduceLE, Int.reduceEq, Int.reduceNe]
        simp (disch := omega) only [wrap_id]
        refine Up.here ⟨f2 - 1, by omega, Up.here ⟨_, rfl, b + 1, _, rfl, by omega, hG4, hRc3.set a b 0, fun p q hp hq => ?_, fun q hq => ?_⟩⟩
        · rw [hfr4, if_neg (by omega), hfr3, if_neg (by omega)]
          exact hd2 p q hp hq
        · rw [hfr4]
          split
          · rename_i e
            rw [e.2]
            simp [far0, hdif]
          · rename_i e
            rw [hfr3, if_neg e]
            exact hda q (by omega)
      · have hdif : difB x y a b = false := by simpa [difB] using heq
        simp (disch := omega) only [wrap_id]
        refine Up.here ⟨f2 - 1, by omega, Up.here ⟨_, rfl, b + 1, _, rfl, by omega, hG3, hRc3, fun p q hp hq => ?_, fun q hq => ?_⟩⟩
        · rw [hfr3, if_neg (by omega)]
          exact hd2 p q hp hq
        · rw [hfr3]
          split
          · rename_i e
            rw [e.2]
            simp [far0, hdif]
          · exact hda q (by omega)
    · have hb : b = M + 1 := by omega
      simp (disch := omega) only [wrap_id]
      refine ⟨f - 1, by omega, Up.here ⟨_, rfl, a + 1, F2, rfl, by omega, hG2, hRc2, fun p q hp hq => ?_⟩⟩
      by_cases e : p = a
      · subst e; exact hda q (by omega)
      · exact hd2 p q (by omega) hq
  have ha : a = N + 1 := by omega
  have hS0 : FarS x y F := FarS.init (by rw [hN, hM]; exact hRc) fun p q hp hq => hd0 p q (by omega) (by omega)
  have hs0 := hS0.nonneg
  refine s_loop (fun f vs Γ => ∃ gF, Γ = [gF] ∧ ∃ (ag : Bool) (F : List (List Int)), vs = [.v true (.bool ag)] ∧ (f : Int) = ssum F + (if ag then 1 else 0) ∧ Grid gF bF 29 3 F ∧ FarS x y F ∧ (ag = false → FarC x y F)) (ssum F + 1).toNat
    (Up.here ⟨_, rfl, true, F, rfl, by simp; omega, hG, hS0, by simp⟩) ?_
  rintro f vs Γ ⟨gF, rfl, ag, F, rfl, hf, hG, hS, hCl⟩
  simp -implicitDefEqProofs only [S53_10, go_sem, Nat.reduceBEq, Nat.reduceAdd, Nat.reduceSub, Nat.reduceMul, Nat.reduceLeDiff, reduceCtorEq, ↓reduceIte, Int.reduceLT, Int.reduceLE, Int.reduceEq, Int.reduceNe]
  refine ⟨fun hag => ?_, fun hag => ?_⟩
  · subst hag
    have hFl := hS.len
    refine s_loop (fun f2 vs Γ => ∃ gF, Γ = [gF] ∧ ∃ (ag2 : Bool) (a : Nat) (F2 : List (List Int)), vs = [.v true (.bool ag2), .v true (.int .i64 a)] ∧ a + f2 = N + 1 ∧ Grid gF bF 29 3 F2 ∧ FarS x y F2 ∧ ssum F2 ≤ ssum F ∧ (ag2 = true → ssum F2 < ssum F) ∧
        (ag2 = false → F2 = F ∧ ∀ p q, p < a → q ≤ M → ∀ s : Nat, s < colsD x → ClA x y F p q s)) (N + 1)
      (Up.here ⟨_, rfl, false, 0, F, rfl, by omega, hG, hS, by omega, by simp, fun _ => ⟨rfl, fun p q h => by omega⟩⟩) ?_
    rintro f2 vs Γ ⟨gF2, rfl, ag2, a, F2, rfl, haf, hG2, hS2, hle2, ht2, hn2⟩
    simp -implicitDefEqProofs only [S53_9, go_sem, Nat.reduceBEq, Nat.reduceAdd, Nat.reduceSub, Nat.reduceMul, Nat.reduceLeDiff, reduceCtorEq, ↓reduceIte, Int.reduceLT, Int.reduceLE, Int.reduceEq, Int.reduceNe]
    refine ⟨fun hlt => ?_, fun hge => ?_⟩
    · have ha : a < N + 1 := by omega
      have hFl2 := hS2.len
      have hra2 := hS2.rc.at' (a := a) (by omega)
      obtain ⟨ka2, hcell2, hArr2, hput2⟩ := hG2.at' (i := a) (by omega) (by omega)
      refine s_idx rfl (by omega) (by omega) ?_
      simp -implicitDefEqProofs only [go_sem, Nat.reduceBEq, Nat.reduceAdd, Nat.reduceSub, Nat.reduceMul, Nat.reduceLeDiff, reduceCtorEq, ↓reduceIte, Int.reduceLT, Int.reduceLE, Int.reduceEq, Int.reduceNe]
      refine s_ld0 (hcell2 _ (by simp)) (by simp) (by simp) ?_
      simp -implicitDefEqProofs only [go_sem, Nat.reduceBEq, Nat.reduceAdd, Nat.reduceSub, Nat.reduceMul, Nat.reduceLeDiff, reduceCtorEq, ↓reduceIte, Int.reduceLT, Int.reduceLE, Int.reduceEq, Int.reduceNe]
      refine s_loop (fun f3 vs Γ => ∃ gF, Γ = [gF] ∧ ∃ (ag3 : Bool) (b : Nat) (F3 : List (List Int)), vs = [.v true (.bool ag3), .v true (.int .i64 b)] ∧ b + f3 = M + 1 ∧ Grid gF bF 29 3 F3 ∧ FarS x y F3 ∧ ssum F3 ≤ ssum F ∧ (ag3 = true → ssum F3 < ssum F) ∧
          (ag3 = false → F3 = F ∧ (∀ p q, p < a → q ≤ M → ∀ s : Nat, s < colsD x → ClA x y F p q s) ∧ ∀ q, q < b → ∀ s : Nat, s < colsD x → ClA x y F a q s)) (M + 1)
        (Up.here ⟨_, rfl, ag2, 0, F2, rfl, by omega, hG2, hS2, hle2, ht2, fun h => ⟨(hn2 h).1, (hn2 h).2, fun q h => by omega⟩⟩) ?_
      rintro f3 vs Γ ⟨gF3, rfl, ag3, b, F3, rfl, hbf, hG3, hS3, hle3, ht3, hn3⟩
      simp -implicitDefEqProofs only [S53_8, go_sem, Nat.reduceBEq, Nat.reduceAdd, Nat.reduceSub, Nat.reduceMul, Nat.reduceLeDiff, reduceCtorEq, ↓reduceIte, Int.reduceLT, Int.reduceLE, Int.reduceEq, Int.reduceNe]
      refine ⟨fun hlt => ?_, fun hge => ?_⟩
      · have hb : b < M + 1 := by omega
        refine s_idx hB1 (by omega) (by omega) ?_
        simp -implicitDefEqProofs only [go_sem, Nat.reduceBEq, Nat.reduceAdd, Nat.reduceSub, Nat.reduceMul, Nat.reduceLeDiff, reduceCtorEq, ↓reduceIte, Int.reduceLT, Int.reduceLE, Int.reduceEq, Int.reduceNe]
        refine s_ld0 (hc1' _ (lk_r _ _)) (by simp) (by simp) ?_
        simp -implicitDefEqProofs only [go_sem, Nat.reduceBEq, Nat.reduceAdd, Nat.reduceSub, Nat.reduceMul, Nat.reduceLeDiff, reduceCtorEq, ↓reduceIte, Int.reduceLT, Int.reduceLE, Int.reduceEq, Int.reduceNe]
        refine s_loop (fun f4 vs Γ => ∃ gF, Γ = [gF] ∧ ∃ (ag4 : Bool) (c : Nat) (F4 : List (List Int)), vs = [.v true (.bool ag4), .v true (.int .i64 c)] ∧ c + f4 = colsD x ∧ Grid gF bF 29 3 F4 ∧ FarS x y F4 ∧ ssum F4 ≤ ssum F ∧ (ag4 = true → ssum F4 < ssum F) ∧
            (ag4 = false → F4 = F ∧ (∀ p q, p < a → q ≤ M → ∀ s : Nat, s < colsD x → ClA x y F p q s) ∧ (∀ q, q < b → ∀ s : Nat, s < colsD x → ClA x y F a q s) ∧ ∀ s : Nat, s < c → ClA x y F a b s)) (colsD x)
          (Up.here ⟨_, rfl, ag3, 0, F3, rfl, by omega, hG3, hS3, hle3, ht3, fun h => ⟨(hn3 h).1, (hn3 h).2.1, (hn3 h).2.2, fun q h => by omega⟩⟩) ?_
        rintro f4 vs Γ ⟨gF4, rfl, ag4, c, F4, rfl, hcf, hG4, hS4, hle4, ht4, hn4⟩
        simp -implicitDefEqProofs only [S53_7, go_sem, Nat.reduceBEq, Nat.reduceAdd, Nat.reduceSub, Nat.reduceMul, Nat.reduceLeDiff, reduceCtorEq, ↓reduceIte, Int.reduceLT, Int.reduceLE, Int.reduceEq, Int.reduceNe]
        refine ⟨fun hlt => ?_, fun hge => ?_⟩
        · have hc : c < colsD x := by omega
          have hcc : 0 ≤ (c : Int) ∧ (c : Int) < colsD x := by omega
          have hcy : 0 ≤ (c : Int) ∧ (c : Int) < colsD y := by omega
          have g1 := (stI_g Vx (s := a) hcc).2
          have g2 := (stI_g Vy (s := b) hcy).2
          have hupd := hS4.upd Vx Vy hxy (a := a) (b := b) (by omega) (by omega) (c := c) hcc.2
          have hclA : ¬ (fr F4 (gI x a c) (gI y b c) + 1 < fr F4 a b) → ClA x y F4 a b c := fun h => by unfold ClA; omega
          have hlo := hS4.lo _ _ g1 g2
          obtain ⟨p, hp⟩ : ∃ p, gI x a c = p := ⟨_, rfl⟩
          obtain ⟨q, hq⟩ : ∃ q, gI y b c = q := ⟨_, rfl⟩
          rw [hp] at g1 hupd hclA hlo
          rw [hq] at g2 hupd hclA hlo
          have hFl4 := hS4.len
          have hrp := hS4.rc.at' (a := p) (by omega)
          have hra := hS4.rc.at' (a := a) (by omega)
          obtain ⟨kp, hcp, hAp, _⟩ := hG4.at' (i := p) (by omega) (by omega)
          obtain ⟨ka4, hca4, hAa4, hput4⟩ := hG4.at' (i := a) (by omega) (by omega)
          have e1 : fr F4 p q = F4[p][q]'(by omega) := fr_at (by omega) (by omega)
          have e2 : fr F4 a b = F4[a][b]'(by omega) := fr_at (by omega) (by omega)
          refine s_split ?_
          simp -implicitDefEqProofs only [S53_5, S53_6, go_sem, Nat.reduceBEq, Nat.reduceAdd, Nat.reduceSub, Nat.reduceMul, Nat.reduceLeDiff, reduceCtorEq, ↓reduceIte, Int.reduceLT, Int.reduceLE, Int.reduceEq, Int.reduceNe]
          refine s_drawn [] [gF4] (Ent.refl _) ?_
          simp -implicitDefEqProofs only [go_sem, Nat.reduceBEq, Nat.reduceAdd, Nat.reduceSub, Nat.reduceMul, Nat.reduceLeDiff, reduceCtorEq, ↓reduceIte, Int.reduceLT, Int.reduceLE, Int.reduceEq, Int.reduceNe]
          refine CallVC.read (apart_go1 (d := x) (hB.mono (lk_sub fun g hg => by simp [hg])) Vx (s := a) (x := c) (by omega) (by omega)) ?_
          rintro v Γ' ⟨rfl, rfl⟩
          rw [hp]
          simp -implicitDefEqProofs only [go_sem, Nat.reduceBEq, Nat.reduceAdd, Nat.reduceSub, Nat.reduceMul, Nat.reduceLeDiff, reduceCtorEq, ↓reduceIte, Int.reduceLT, Int.reduceLE, Int.reduceEq, Int.reduceNe]
          refine s_idx rfl (by omega) (by omega) ?_
          simp -implicitDefEqProofs only [go_sem, Nat.reduceBEq, Nat.reduceAdd, Nat.reduceSub, Nat.reduceMul, Nat.reduceLeDiff, reduceCtorEq, ↓reduceIte, Int.reduceLT, Int.reduceLE, Int.reduceEq, Int.reduceNe]
          refine s_ld0 (hcp _ (by simp)) (by simp) (by simp) ?_
          simp -implicitDefEqProofs only [go_sem, Nat.reduceBEq, Nat.reduceAdd, Nat.reduceSub, Nat.reduceMul, Nat.reduceLeDiff, reduceCtorEq, ↓reduceIte, Int.reduceLT, Int.reduceLE, Int.reduceEq, Int.reduceNe]
          refine CallVC.read (apart_go1 (d := y) (hD.mono (lk_sub fun g hg => by simp [hg])) Vy (s := b) (x := c) (by omega) (by omega)) ?_
          rintro v Γ' ⟨rfl, rfl⟩
          rw [hq]
          simp -implicitDefEqProofs only [go_sem, Nat.reduceBEq, Nat.reduceAdd, Nat.reduceSub, Nat.reduceMul, Nat.reduceLeDiff, reduceCtorEq, ↓reduceIte, Int.reduceLT, Int.reduceLE, Int.reduceEq, Int.reduceNe]
          refine s_idx rfl (by omega) (by omega) ?_
          simp -implicitDefEqProofs only [go_sem, Nat.reduceBEq, Nat.reduceAdd, Nat.reduceSub, Nat.reduceMul, Nat.reduceLeDiff, reduceCtorEq, ↓reduceIte, Int.reduceLT, Int.reduceLE, Int.reduceEq, Int.reduceNe]
          refine s_ld0 (hAp.int (i := q) (by omega) (by simp)) (by simp) (by simp) ?_
          rw [← e1]
          simp -implicitDefEqProofs only [go_sem, Nat.reduceBEq, Nat.reduceAdd, Nat.reduceSub, Nat.reduceMul, Nat.reduceLeDiff, reduceCtorEq, ↓reduceIte, Int.reduceLT, Int.reduceLE, Int.reduceEq, Int.reduceNe]
          rw [wrap_id (x := fr F4 p q + 1) (by omega) (by omega)]
          refine s_idx rfl (by omega) (by omega) ?_
          simp -implicitDefEqProofs only [go_sem, Nat.reduceBEq, Nat.reduceAdd, Nat.reduceSub, Nat.reduceMul, Nat.reduceLeDiff, reduceCtorEq, ↓reduceIte, Int.reduceLT, Int.reduceLE, Int.reduceEq, Int.reduceNe]
          refine s_ld0 (hca4 _ (by simp)) (by simp) (by simp) ?_
          simp -implicitDefEqProofs only [go_sem, Nat.reduceBEq, Nat.reduceAdd, Nat.reduceSub, Nat.reduceMul, Nat.reduceLeDiff, reduceCtorEq, ↓reduceIte, Int.reduceLT, Int.reduceLE, Int.reduceEq, Int.reduceNe]
          refine s_idx rfl (by omega) (by omega) ?_
          simp -implicitDefEqProofs only [go_sem, Nat.reduceBEq, Nat.reduceAdd, Nat.reduceSub, Nat.reduceMul, Nat.reduceLeDiff, reduceCtorEq, ↓reduceIte, Int.reduceLT, Int.reduceLE, Int.reduceEq, Int.reduceNe]
          refine s_ld0 (hAa4.int (i := b) (by omega) (by simp)) (by simp) (by simp) ?_
          rw [← e2]
          simp -implicitDefEqProofs only [go_sem, Nat.reduceBEq, Nat.reduceAdd, Nat.reduceSub, Nat.reduceMul, Nat.reduceLeDiff, reduceCtorEq, ↓reduceIte, Int.reduceLT, Int.reduceLE, Int.reduceEq, Int.reduceNe]
          refine ⟨fun hlt => ?_, fun hge => ?_⟩
          · refine s_idx rfl (by omega) (by omega) ?_
            simp -implicitDefEqProofs only [go_sem, Nat.reduceBEq, Nat.reduceAdd, Nat.reduceSub, Nat.reduceMul, Nat.reduceLeDiff, reduceCtorEq, ↓reduceIte, Int.reduceLT, Int.reduceLE, Int.reduceEq, Int.reduceNe]
            refine s_ld0 (hca4 _ (by simp)) (by simp) (by simp) ?_
            simp -implicitDefEqProofs only [go_sem, Nat.reduceBEq, Nat.reduceAdd, Nat.reduceSub, Nat.reduceMul, Nat.reduceLeDiff, reduceCtorEq, ↓reduceIte, Int.reduceLT, Int.reduceLE, Int.reduceEq, Int.reduceNe]
            refine s_idx rfl (by omega) (by omega) ?_
            simp -implicitDefEqProofs only [go_sem, Nat.reduceBEq, Nat.reduceAdd, Nat.reduceSub, Nat.reduceMul, Nat.reduceLeDiff, reduceCtorEq, ↓reduceIte, Int.reduceLT, Int.reduceLE, Int.reduceEq, Int.reduceNe]
            refine s_storeA (ix := 0) (α := Int) (fr F4 p q + 1) rfl hAa4 (i := b) (by omega) ?_
            intro g5 hA5 ho5
            have hG5 := hput4 g5 _ hA5 (by simp) ho5
            have hs5 := ssum_set (F := F4) (a := a) (b := b) (by omega) (by omega) (fr F4 p q + 1)
            rw [← iset2_at (by omega)] at hG5 hs5
            simp -implicitDefEqProofs only [go_sem, Nat.reduceBEq, Nat.reduceAdd, Nat.reduceSub, Nat.reduceMul, Nat.reduceLeDiff, reduceCtorEq, ↓reduceIte, Int.reduceLT, Int.reduceLE, Int.reduceEq, Int.reduceNe]
            simp (disch := omega) only [wrap_id]
            refine Up.here ⟨f4 - 1, by omega, Up.here ⟨_, rfl, true, c + 1, _, rfl, by omega, hG5, hupd hlt, by omega, fun _ => by omega, by simp⟩⟩
          · simp (disch := omega) only [wrap_id]
            refine Up.here ⟨f4 - 1, by omega, Up.here ⟨_, rfl, ag4, c + 1, F4, rfl, by omega, hG4, hS4, hle4, ht4, fun h => ?_⟩⟩
            obtain ⟨h1, h2, h3, h4⟩ := hn4 h
            refine ⟨h1, h2, h3, fun s hs => ?_⟩
            by_cases e : s = c
            · subst e; rw [← h1]; exact hclA hge
            · exact h4 s (by omega)
        · have hc : c = colsD x := by omega
          simp (disch := omega) only [wrap_id]
          refine ⟨f3 - 1, by omega, Up.here ⟨_, rfl, ag4, b + 1, F4, rfl, by omega, hG4, hS4, hle4, ht4, fun h => ?_⟩⟩
          obtain ⟨h1, h2, h3, h4⟩ := hn4 h
          refine ⟨h1, h2, fun q hq => ?_⟩
          by_cases e : q = b
          · subst e; rw [← hc]; exact h4
          · exact h3 q (by omega)
      · have hb : b = M + 1 := by omega
        simp (disch := omega) only [wrap_id]
        refine ⟨f2 - 1, by omega, Up.here ⟨_, rfl, ag3, a + 1, F3, rfl, by omega, hG3, hS3, hle3, ht3, fun h => ?_⟩⟩
        obtain ⟨h1, h2, h3⟩ := hn3 h
        refine ⟨h1, fun p q hp hq => ?_⟩
        by_cases e : p = a
        · subst e; exact h3 q (by omega)
        · exact h2 p q (by omega) hq
    · have ha : a = N + 1 := by omega
      have hnn := hS2.nonneg
      refine ⟨(ssum F2 + (if ag2 then 1 else 0)).toNat, ?_, Up.here ⟨_, rfl, ag2, F2, rfl, ?_, hG2, hS2, fun h => ?_⟩⟩
      · cases ag2
        · simp at hf ⊢; omega
        · have := ht2 rfl; simp at hf ⊢; omega
      · cases ag2 <;> simp <;> omega
      · obtain ⟨h1, h2⟩ := hn2 h
        intro p q hp hq c hc
        rw [h1]
        exact h2 p q (by omega) (by omega) c (by omega)
  · subst hag
    have hC' := hCl rfl
    obtain ⟨s0, hs0⟩ : ∃ n : Nat, x.st = n := ⟨x.st.toNat, by omega⟩
    obtain ⟨t0, ht0⟩ : ∃ n : Nat, y.st = n := ⟨y.st.toNat, by omega⟩
    have hFl := hS.len
    have hrs := hS.rc.at' (a := s0) (by omega)
    obtain ⟨ks, hcs, hAs, _⟩ := hG.at' (i := s0) (by omega) (by omega)
    have e0 : fr F s0 t0 = F[s0][t0]'(by omega) := fr_at (by omega) (by omega)
    rw [hs0, ht0]
    refine s_idx rfl (by omega) (by omega) ?_
    simp -implicitDefEqProofs only [go_sem, Nat.reduceBEq, Nat.reduceAdd, Nat.reduceSub, Nat.reduceMul, Nat.reduceLeDiff, reduceCtorEq, ↓reduceIte, Int.reduceLT, Int.reduceLE, Int.reduceEq, Int.reduceNe]
    refine s_ld0 (hcs _ (by simp)) (by simp) (by simp) ?_
    simp -implicitDefEqProofs only [go_sem, Nat.reduceBEq, Nat.reduceAdd, Nat.reduceSub, Nat.reduceMul, Nat.reduceLeDiff, reduceCtorEq, ↓reduceIte, Int.reduceLT, Int.reduceLE, Int.reduceEq, Int.reduceNe]
    refine s_idx rfl (by omega) (by omega) ?_
    simp -implicitDefEqProofs only [go_sem, Nat.reduceBEq, Nat.reduceAdd, Nat.reduceSub, Nat.reduceMul, Nat.reduceLeDiff, reduceCtorEq, ↓reduceIte, Int.reduceLT, Int.reduceLE, Int.reduceEq, Int.reduceNe]
    refine s_ld0 (hAs.int (i := t0) (by omega) (by simp)) (by simp) (by simp) ?_
    rw [← e0]
    simp -implicitDefEqProofs only [go_sem, Nat.reduceBEq, Nat.reduceAdd, Nat.reduceSub, Nat.reduceMul, Nat.reduceLeDiff, reduceCtorEq, ↓reduceIte, Int.reduceLT, Int.reduceLE, Int.reduceEq, Int.reduceNe]
    have hlo0 := hS.lo s0 t0 (by omega) (by omega)
    refine ⟨fun h => Up.one fun g _ => ?_, fun h => ?_⟩
    · subst hR
      exact ⟨g, [], false, _, rfl, rfl, Bld.nil _ _ _, by simp, far_none Vx Vy hxy hS hC' (by rw [hs0, ht0]; exact h)⟩
    refine s_loop (fun f vs Γ => ∃ go, Γ = [go, gF] ∧ ∃ (a b : Nat) (u : List Int) (v : Value), vs = [.v true (.int .i64 a), .v true (.int .i64 b), .v true v] ∧ a ≤ N ∧ b ≤ M ∧ (f : Int) = fr F a b ∧ fr F a b < 1099511627776 ∧ Bld go (lk []) 3 v u ∧ u.length + fr F a b ≤ 1099511627776 ∧
        ∀ w, GrW x y F a b w → GrW x y F s0 t0 (u ++ w)) (fr F s0 t0).toNat
      (Up.sel [[], [0]] (by decide) fun _ _ => ⟨_, rfl, s0, t0, [], _, rfl, by omega, by omega, by omega, by omega, Bld.nil _ _ _, by simp; omega, fun w h => h⟩) ?_
    rintro f vs Γ ⟨go, rfl, a, b, u, v, rfl, ha, hb, hf, hlt, hBo, hul, hgr⟩
    obtain ⟨Ao, co, rfl⟩ := hBo.val
    have hra := hS.rc.at' (a := a) (by omega)
    obtain ⟨ka, hca, hAa, _⟩ := hG.at' (i := a) (by omega) (by omega)
    have eab : fr F a b = F[a][b]'(by omega) := fr_at (by omega) (by omega)
    simp -implicitDefEqProofs only [S53_12, go_sem, Nat.reduceBEq, Nat.reduceAdd, Nat.reduceSub, Nat.reduceMul, Nat.reduceLeDiff, reduceCtorEq, ↓reduceIte, Int.reduceLT, Int.reduceLE, Int.reduceEq, Int.reduceNe]
    refine s_idx rfl (by omega) (by omega) ?_
    simp -implicitDefEqProofs only [go_sem, Nat.reduceBEq, Nat.reduceAdd, Nat.reduceSub, Nat.reduceMul, Nat.reduceLeDiff, reduceCtorEq, ↓reduceIte, Int.reduceLT, Int.reduceLE, Int.reduceEq, Int.reduceNe]
    refine s_ld0 (hca _ (by simp)) (by simp) (by simp) ?_
    simp -implicitDefEqProofs only [go_sem, Nat.reduceBEq, Nat.reduceAdd, Nat.reduceSub, Nat.reduceMul, Nat.reduceLeDiff, reduceCtorEq, ↓reduceIte, Int.reduceLT, Int.reduceLE, Int.reduceEq, Int.reduceNe]
    refine s_idx rfl (by omega) (by omega) ?_
    simp -implicitDefEqProofs only [go_sem, Nat.reduceBEq, Nat.reduceAdd, Nat.reduceSub, Nat.reduceMul, Nat.reduceLeDiff, reduceCtorEq, ↓reduceIte, Int.reduceLT, Int.reduceLE, Int.reduceEq, Int.reduceNe]
    refine s_ld0 (hAa.int (i := b) (by omega) (by simp)) (by simp) (by simp) ?_
    rw [← eab]
    simp -implicitDefEqProofs only [go_sem, Nat.reduceBEq, Nat.reduceAdd, Nat.reduceSub, Nat.reduceMul, Nat.reduceLeDiff, reduceCtorEq, ↓reduceIte, Int.reduceLT, Int.reduceLE, Int.reduceEq, Int.reduceNe]
    refine ⟨fun h0 => ?_, fun h0 => ?_⟩
    · obtain ⟨cn, hcn, hnext⟩ := far_next Vx Vy hxy hS hC' (a := a) (b := b) (by omega) (by omega) h0 hlt
      refine s_idx hB1 (by omega) (by omega) ?_
      simp -implicitDefEqProofs only [go_sem, Nat.reduceBEq, Nat.reduceAdd, Nat.reduceSub, Nat.reduceMul, Nat.reduceLeDiff, reduceCtorEq, ↓reduceIte, Int.reduceLT, Int.reduceLE, Int.reduceEq, Int.reduceNe]
      refine s_ld0 (hc1' _ (lk_r _ _)) (by simp) (by simp) ?_
      simp -implicitDefEqProofs only [go_sem, Nat.reduceBEq, Nat.reduceAdd, Nat.reduceSub, Nat.reduceMul, Nat.reduceLeDiff, reduceCtorEq, ↓reduceIte, Int.reduceLT, Int.reduceLE, Int.reduceEq, Int.reduceNe]
      refine s_loop (fun f2 vs Γ => ∃ c : Nat, Γ = [go, gF] ∧ vs = [.v true (.int .i64 a), .v true (.int .i64 b), .v true (.slice Ao u.length co), .v true (.int .i64 c)] ∧ c + f2 = colsD x ∧ ∀ c' : Nat, c' < c → fr F (gI x a c') (gI y b c') ≠ fr F a b - 1) (colsD x)
        (Up.here ⟨0, rfl, rfl, by omega, fun c' h => by omega⟩) ?_
      rintro f2 vs Γ ⟨c, rfl, rfl, hcf, hmin⟩
      simp -implicitDefEqProofs only [S53_11, go_sem, Nat.reduceBEq, Nat.reduceAdd, Nat.reduceSub, Nat.reduceMul, Nat.reduceLeDiff, reduceCtorEq, ↓reduceIte, Int.reduceLT, Int.reduceLE, Int.reduceEq, Int.reduceNe]
      refine ⟨fun hltc => ?_, fun hge => ?_⟩
      · have hc : c < colsD x := by omega
        have hcc : 0 ≤ (c : Int) ∧ (c : Int) < colsD x := by omega
        have hcy : 0 ≤ (c : Int) ∧ (c : Int) < colsD y := by omega
        have g1 := (stI_g Vx (s := a) hcc).2
        have g2 := (stI_g Vy (s := b) hcy).2
        have hcons : ∀ w, fr F (gI x a c) (gI y b c) = fr F a b - 1 → GrW x y F (gI x a c) (gI y b c) w → GrW x y F a b ((c : Int) :: w) := fun w h1 h2 => .cons (by omega) h0 h1 hmin h2
        have hmin2 : ¬ (fr F (gI x a c) (gI y b c) = fr F a b - 1) → ∀ c' : Nat, c' < c + 1 → fr F (gI x a c') (gI y b c') ≠ fr F a b - 1 := fun h c' hc' => by
          by_cases e : c' = c
          · subst e; exact h
          · exact hmin c' (by omega)
        obtain ⟨p, hp⟩ : ∃ p, gI x a c = p := ⟨_, rfl⟩
        obtain ⟨q, hq⟩ : ∃ q, gI y b c = q := ⟨_, rfl⟩
        rw [hp] at g1 hcons hmin2
        rw [hq] at g2 hcons hmin2
        have hrp := hS.rc.at' (a := p) (by omega)
        obtain ⟨kp, hcp, hAp, _⟩ := hG.at' (i := p) (by omega) (by omega)
        have e1 : fr F p q = F[p][q]'(by omega) := fr_at (by omega) (by omega)
        have k1 := fun (G : Ctx) (hG' : Mem.le (lk Γr) (lk G)) => apart_go1 (d := x) (A := A) (c := ca) (hB.mono hG') Vx (s := a) (x := c) (by omega) (by omega)
        have k2 := fun (G : Ctx) (hG' : Mem.le (lk Γr) (lk G)) => apart_go1 (d := y) (A := C) (c := cc) (hD.mono hG') Vy (s := b) (x := c) (by omega) (by omega)
        simp only [hs0, hp] at k1
        simp only [ht0, hq] at k2
        refine s_drawn [] [go, gF] (Ent.refl _) ?_
        simp -implicitDefEqProofs only [go_sem, Nat.reduceBEq, Nat.reduceAdd, Nat.reduceSub, Nat.reduceMul, Nat.reduceLeDiff, reduceCtorEq, ↓reduceIte, Int.reduceLT, Int.reduceLE, Int.reduceEq, Int.reduceNe]
        refine CallVC.read (k1 _ (lk_sub fun g hg => by simp [hg])) ?_
        rintro v Γ' ⟨rfl, rfl⟩
        simp -implicitDefEqProofs only [go_sem, Nat.reduceBEq, Nat.reduceAdd, Nat.reduceSub, Nat.reduceMul, Nat.reduceLeDiff, reduceCtorEq, ↓reduceIte, Int.reduceLT, Int.reduceLE, Int.reduceEq, Int.reduceNe]
        refine CallVC.read (k2 _ (lk_sub fun g hg => by simp [hg])) ?_
        rintro v Γ' ⟨rfl, rfl⟩
        simp -implicitDefEqProofs only [go_sem, Nat.reduceBEq, Nat.reduceAdd, Nat.reduceSub, Nat.reduceMul, Nat.reduceLeDiff, reduceCtorEq, ↓reduceIte, Int.reduceLT, Int.reduceLE, Int.reduceEq, Int.reduceNe]
        refine s_idx rfl (by omega) (by omega) ?_
        simp -implicitDefEqProofs only [go_sem, Nat.reduceBEq, Nat.reduceAdd, Nat.reduceSub, Nat.reduceMul, Nat.reduceLeDiff, reduceCtorEq, ↓reduceIte, Int.reduceLT, Int.reduceLE, Int.reduceEq, Int.reduceNe]
        refine s_ld0 (hcp _ (by simp)) (by simp) (by simp) ?_
        simp -implicitDefEqProofs only [go_sem, Nat.reduceBEq, Nat.reduceAdd, Nat.reduceSub, Nat.reduceMul, Nat.reduceLeDiff, reduceCtorEq, ↓reduceIte, Int.reduceLT, Int.reduceLE, Int.reduceEq, Int.reduceNe]
        refine s_idx rfl (by omega) (by omega) ?_
        simp -implicitDefEqProofs only [go_sem, Nat.reduceBEq, Nat.reduceAdd, Nat.reduceSub, Nat.reduceMul, Nat.reduceLeDiff, reduceCtorEq, ↓reduceIte, Int.reduceLT, Int.reduceLE, Int.reduceEq, Int.reduceNe]
        refine s_ld0 (hAp.int (i := q) (by omega) (by simp)) (by simp) (by simp) ?_
        rw [← e1]
        simp -implicitDefEqProofs only [go_sem, Nat.reduceBEq, Nat.reduceAdd, Nat.reduceSub, Nat.reduceMul, Nat.reduceLeDiff, reduceCtorEq, ↓reduceIte, Int.reduceLT, Int.reduceLE, Int.reduceEq, Int.reduceNe]
        refine s_idx rfl (by omega) (by omega) ?_
        simp -implicitDefEqProofs only [go_sem, Nat.reduceBEq, Nat.reduceAdd, Nat.reduceSub, Nat.reduceMul, Nat.reduceLeDiff, reduceCtorEq, ↓reduceIte, Int.reduceLT, Int.reduceLE, Int.reduceEq, Int.reduceNe]
        refine s_ld0 (hca _ (by simp)) (by simp) (by simp) ?_
        simp -implicitDefEqProofs only [go_sem, Nat.reduceBEq, Nat.reduceAdd, Nat.reduceSub, Nat.reduceMul, Nat.reduceLeDiff, reduceCtorEq, ↓reduceIte, Int.reduceLT, Int.reduceLE, Int.reduceEq, Int.reduceNe]
        refine s_idx rfl (by omega) (by omega) ?_
        simp -implicitDefEqProofs only [go_sem, Nat.reduceBEq, Nat.reduceAdd, Nat.reduceSub, Nat.reduceMul, Nat.reduceLeDiff, reduceCtorEq, ↓reduceIte, Int.reduceLT, Int.reduceLE, Int.reduceEq, Int.reduceNe]
        refine s_ld0 (hAa.int (i := b) (by omega) (by simp)) (by simp) (by simp) ?_
        rw [← eab]
        simp -implicitDefEqProofs only [go_sem, Nat.reduceBEq, Nat.reduceAdd, Nat.reduceSub, Nat.reduceMul, Nat.reduceLeDiff, reduceCtorEq, ↓reduceIte, Int.reduceLT, Int.reduceLE, Int.reduceEq, Int.reduceNe]
        rw [wrap_id (x := fr F a b - 1) (by omega) (by omega)]
        refine ⟨fun heq => ?_, fun hne => ?_⟩
        · intro b3
          refine s_app1S (ix := 1) (c : Int) rfl hBo cells_one rfl (by omega) (by unfold maxLen; omega) ?_
          intro v' g' hBo' _
          simp -implicitDefEqProofs only [go_sem, Nat.reduceBEq, Nat.reduceAdd, Nat.reduceSub, Nat.reduceMul, Nat.reduceLeDiff, reduceCtorEq, ↓reduceIte, Int.reduceLT, Int.reduceLE, Int.reduceEq, Int.reduceNe]
          have hlo2 := hS.lo p q (by omega) (by omega)
          refine ⟨f - 1, by omega, Up.sel [[1], [2]] (by decide) fun _ _ => ⟨_, rfl, p, q, _, _, rfl, by omega, by omega, by omega, by omega, hBo', by simp; omega, fun w hw => ?_⟩⟩
          rw [List.append_assoc]
          exact hgr _ (hcons w heq hw)
        · simp (disch := omega) only [wrap_id]
          exact ⟨f2 - 1, by omega, Up.here ⟨c + 1, rfl, rfl, by omega, hmin2 hne⟩⟩
      · exact absurd hnext (hmin cn (by omega))
    · have hz := (hS.lo a b (by omega) (by omega)).1
      refine Up.sel [[0]] (by decide) fun _ _ => ?_
      subst hR
      have hfin := hgr [] (.nil (by omega))
      rw [List.append_nil] at hfin
      refine ⟨_, u, true, _, rfl, rfl, hBo, by omega, .inl ⟨rfl, greedy_least Vx Vy hxy hS hC' ?_⟩⟩
      rw [show x.st.toNat = s0 by omega, show y.st.toNat = t0 by omega]
      exact hfin
end Go.Proofs.Ytniobbepliknmaa.V
/- The text of parlance/parllaw5.LearnTells as a statement (slots: 0 d, 1 symbols, 2 d, 3 symbols, 5 one, 6 x, 7 e, 8 k, 9 none, 10 x, 11 e, 12 c, 13 x, 14 e, 15 flat, 16 _, 17 k, 18 y, 19 f); no condition. -/
namespace Go.Proofs.Ytniobbepliknmaa.V
open Go
def S17_1 : Stmt :=
  Stmt.seq
  (Stmt.region [SOper.mk (some 50) none (SOp.ibin BinOp.lss (Operand.tmp 49) (Operand.tmp 48))] [8, 9, 48, 49, 50])
  (Stmt.seq (Stmt.cond (Operand.tmp 50) Stmt.skip (Stmt.exit 0))
    (Stmt.seq
      (Stmt.block 1
        (Stmt.drawn
          [(false, SOper.mk (some 51) none (SOp.fld 2 (Operand.tmp 9))),
            (true, SOper.mk (some 52) none (SOp.load false 1 (Operand.tmp 51))),
            (false, SOper.mk (some 53) none (SOp.fld 2 (Operand.tmp 9))),
            (false, SOper.mk (some 54) none (SOp.load false 1 (Operand.tmp 53))),
            (false, SOper.mk (some 55) none (SOp.idx 1 (Operand.tmp 54) (Operand.const (Value.int IntKind.i64 0)))),
            (false, SOper.mk (some 56) none (SOp.load false 1 (Operand.tmp 55))),
            (false,
              SOper.mk (some 57) none
                (SOp.buildS 3 1 [Value.int IntKind.i64 0] [(0, 1, Operand.const (Value.int IntKind.i64 (-1)))])),
            (false,
              SOper.mk (some 58) none
                (SOp.append 29 3 1 8 (Value.int IntKind.i64 0) (Operand.tmp 56) (Operand.tmp 57))),
            (false, SOper.mk (some 59) none (SOp.idx 1 (Operand.tmp 52) (Operand.const (Value.int IntKind.i64 0)))),
            (false, SOper.mk none none (SOp.store 1 (Operand.tmp 59) (Operand.tmp 58)))]
          [8, 9, 48, 49]))
      (Stmt.region
        [SOper.mk (some 60) none (SOp.ibin BinOp.add (Operand.tmp 49) (Operand.const (Value.int IntKind.i64 1))),
          SOper.mk (some 49) none (SOp.mv (Operand.tmp 60))]
        [8, 9, 48, 49])))
def S17_2 : Stmt :=
  Stmt.seq
  (Stmt.region [SOper.mk (some 121) none (SOp.ibin BinOp.lss (Operand.tmp 120) (Operand.tmp 119))]
    [13, 14, 15, 118, 119, 120, 121])
  (Stmt.seq (Stmt.cond (Operand.tmp 121) Stmt.skip (Stmt.exit 2))
    (Stmt.seq
      (Stmt.block 3
        (Stmt.seq
          (Stmt.region
            [SOper.mk (some 122) none (SOp.idx 1 (Operand.tmp 118) (Operand.tmp 120)),
              SOper.mk (some 123) none (SOp.load false 1 (Operand.tmp 122)),
              SOper.mk (some 17) none (SOp.mv (Operand.tmp 123))]
            [13, 14, 15, 17, 118, 119, 120])
          (Stmt.region
            [SOper.mk (some 124) none (SOp.fld 1 (Operand.tmp 15)),
              SOper.mk (some 125) none (SOp.load false 1 (Operand.tmp 124)),
              SOper.mk (some 126) none (SOp.mv (Operand.tmp 17)),
              SOper.mk (some 127) none (SOp.fn Fk.min [Operand.tmp 126, Operand.const (Value.int IntKind.i64 0)]),
              SOper.mk (some 128) none (SOp.buildS 3 1 [Value.int IntKind.i64 0] [(0, 1, Operand.tmp 127)]),
              SOper.mk (some 129) none
                (SOp.append 29 3 1 8 (Value.int IntKind.i64 0) (Operand.tmp 125) (Operand.tmp 128)),
              SOper.mk (some 130) none (SOp.fld 1 (Operand.tmp 15)),
              SOper.mk none none (SOp.store 1 (Operand.tmp 130) (Operand.tmp 129))]
            [13, 14, 15, 118, 119, 120])))
      (Stmt.region
        [SOper.mk (some 131) none (SOp.ibin BinOp.add (Operand.tmp 120) (Operand.const (Value.int IntKind.i64 1))),
          SOper.mk (some 120) none (SOp.mv (Operand.tmp 131))]
        [13, 14, 15, 118, 119, 120])))
def S17_0 : Stmt :=
  Stmt.seq
  (Stmt.region
    [SOper.mk (some 2) none (SOp.box false 67 (Operand.tmp 0)),
      SOper.mk (some 4) none (SOp.mv (Operand.const (Value.bool false)))]
    [1, 2])
  (Stmt.seq
    (Stmt.region
      [SOper.mk (some 20) none
          (SOp.buildS 3 2 [Value.int IntKind.i64 0, Value.int IntKind.i64 0]
            [(0, 1, Operand.const (Value.int IntKind.i64 (-1))), (1, 1, Operand.const (Value.int IntKind.i64 0))]),
        SOper.mk (some 21) none
          (SOp.buildS 3 1 [Value.int IntKind.i64 0] [(0, 1, Operand.const (Value.int IntKind.i64 1))]),
        SOper.mk (some 22) none
          (SOp.buildS 3 1 [Value.int IntKind.i64 0] [(0, 1, Operand.const (Value.int IntKind.i64 (-1)))]),
        SOper.mk (some 23) none
          (SOp.buildS 29 2 [Value.slice none 0 0, Value.slice none 0 0]
            [(0, 1, Operand.tmp 21), (1, 1, Operand.tmp 22)]),
        SOper.mk (some 24) none
          (SOp.build 67 [Value.int IntKind.i64 0, Value.slice none 0 0, Value.slice none 0 0]
            [(1, 1, Operand.tmp 20), (2, 1, Operand.tmp 23)]),
        SOper.mk (some 5) none
          (SOp.alloc false 67
            (Value.agg (Array.mk [Value.int IntKind.i64 0, Value.slice none 0 0, Value.slice none 0 0]))),
        SOper.mk none none (SOp.store 3 (Operand.tmp 5) (Operand.tmp 24))]
      [1, 2, 5])
    (Stmt.seq
      (Stmt.seq
        (Stmt.region
          [SOper.mk (some 26) none (SOp.mkFunc 91 [Operand.tmp 5]),
            SOper.mk (some 27) none
              (SOp.call (Operand.func 85) [Operand.const (Value.int IntKind.i64 1), Operand.func 90, Operand.tmp 26]),
            SOper.mk (some 25) none (SOp.mv (Operand.tmp 27)), SOper.mk (some 28) none (SOp.extract 0 (Operand.tmp 25)),
            SOper.mk (some 29) none (SOp.extract 1 (Operand.tmp 25)),
            SOper.mk (some 6) none
              (SOp.alloc true 67
                (Value.agg (Array.mk [Value.int IntKind.i64 0, Value.slice none 0 0, Value.slice none 0 0]))),
            SOper.mk none none (SOp.store 3 (Operand.tmp 6) (Operand.tmp 28)),
            SOper.mk (some 7) none (SOp.mv (Operand.tmp 29))]
          [1, 2, 5, 6, 7])
        (Stmt.seq
          (Stmt.region
            [SOper.mk (some 30) none (SOp.mv (Operand.tmp 7)),
              SOper.mk (some 31) none (SOp.ibin BinOp.neq (Operand.tmp 30) (Operand.const (Value.int IntKind.i64 0))),
              SOper.mk (some 32) none (SOp.mv (Operand.tmp 31)),
              SOper.mk (some 33) (some (32, false)) (SOp.fld 2 (Operand.tmp 6)),
              SOper.mk (some 34) (some (32, false)) (SOp.load false 1 (Operand.tmp 33)),
              SOper.mk (some 35) (some (32, false)) (SOp.fld 2 (Operand.tmp 5)),
              SOper.mk (some 36) (some (32, false)) (SOp.load false 1 (Operand.tmp 35)),
              SOper.mk (some 37) (some (32, false))
                (SOp.call (Operand.func 82) [Operand.tmp 34, Operand.tmp 36, Operand.func 28]),
              SOper.mk (some 38) (some (32, false)) (SOp.un UnOp.not (Operand.tmp 37)),
              SOper.mk (some 39) none (SOp.pick (Operand.tmp 32) (Operand.const (Value.bool true)) (Operand.tmp 38))]
            [1, 2, 39])
          (Stmt.cond (Operand.tmp 39)
            (Stmt.seq (Stmt.region [SOper.mk (some 4) none (SOp.mv (Operand.const (Value.bool false)))] [4]) Stmt.ret)
            Stmt.skip)))
      (Stmt.seq
        (Stmt.seq
          (Stmt.region
            [SOper.mk (some 40) none (SOp.load true 3 (Operand.tmp 2)),
              SOper.mk (some 41) none (SOp.call (Operand.func 92) [Operand.tmp 40]),
              SOper.mk (some 42) none (SOp.un UnOp.not (Operand.tmp 41))]
            [1, 2, 42])
          (Stmt.cond (Operand.tmp 42)
            (Stmt.seq
              (Stmt.region
                [SOper.mk (some 43) none (SOp.mv (Operand.tmp 1)),
                  SOper.mk (some 44) none
                    (SOp.idiv BinOp.rem (Operand.tmp 43) (Operand.const (Value.int IntKind.i64 40))),
                  SOper.mk (some 8) none (SOp.mv (Operand.tmp 44))]
                [8])
              (Stmt.seq
                (Stmt.region
                  [SOper.mk (some 45) none
                      (SOp.buildS 3 1 [Value.int IntKind.i64 0] [(0, 1, Operand.const (Value.int IntKind.i64 (-1)))]),
                    SOper.mk (some 46) none
                      (SOp.buildS 29 1 [Value.slice none 0 0] [(0, 1, Operand.const (Value.slice none 0 0))]),
                    SOper.mk (some 47) none
                      (SOp.build 67 [Value.int IntKind.i64 0, Value.slice none 0 0, Value.slice none 0 0]
                        [(1, 1, Operand.tmp 45), (2, 1, Operand.tmp 46)]),
                    SOper.mk (some 9) none
                      (SOp.alloc false 67
                        (Value.agg (Array.mk [Value.int IntKind.i64 0, Value.slice none 0 0, Value.slice none 0 0]))),
                    SOper.mk none none (SOp.store 3 (Operand.tmp 9) (Operand.tmp 47))]
                  [8, 9])
                (Stmt.seq
                  (Stmt.seq
                    (Stmt.region
                      [SOper.mk (some 48) none (SOp.mv (Operand.tmp 8)),
                        SOper.mk (some 49) none (SOp.mv (Operand.const (Value.int IntKind.i64 0)))]
                      [8, 9, 48, 49])
                    (Stmt.block 0 (Stmt.loop S17_1 [49] [8, 9, 48])))
                  (Stmt.seq
                    (Stmt.region
                      [SOper.mk (some 62) none (SOp.mv (Operand.tmp 8)),
                        SOper.mk (some 63) none (SOp.mkFunc 94 [Operand.tmp 9]),
                        SOper.mk (some 64) none
                          (SOp.call (Operand.func 85) [Operand.tmp 62, Operand.func 93, Operand.tmp 63]),
                        SOper.mk (some 61) none (SOp.mv (Operand.tmp 64)),
                        SOper.mk (some 65) none (SOp.extract 0 (Operand.tmp 61)),
                        SOper.mk (some 66) none (SOp.extract 1 (Operand.tmp 61)),
                        SOper.mk (some 10) none
                          (SOp.alloc true 67
                            (Value.agg
                              (Array.mk [Value.int IntKind.i64 0, Value.slice none 0 0, Value.slice none 0 0]))),
                        SOper.mk none none (SOp.store 3 (Operand.tmp 10) (Operand.tmp 65)),
                        SOper.mk (some 11) none (SOp.mv (Operand.tmp 66))]
                      [8, 10, 11])
                    (Stmt.seq
                      (Stmt.seq
                        (Stmt.region
                          [SOper.mk (some 67) none (SOp.mv (Operand.tmp 8)),
                            SOper.mk (some 68) none
                              (SOp.ibin BinOp.lss (Operand.tmp 67) (Operand.const (Value.int IntKind.i64 1))),
                            SOper.mk (some 69) none (SOp.mv (Operand.tmp 68)),
                            SOper.mk (some 70) (some (69, false)) (SOp.mv (Operand.tmp 8)),
                            SOper.mk (some 71) (some (69, false))
                              (SOp.ibin BinOp.gtr (Operand.tmp 70) (Operand.const (Value.int IntKind.i64 16))),
                            SOper.mk (some 72) none
                              (SOp.pick (Operand.tmp 69) (Operand.const (Value.bool true)) (Operand.tmp 71))]
                          [10, 11, 72])
                        (Stmt.cond (Operand.tmp 72)
                          (Stmt.seq
                            (Stmt.region
                              [SOper.mk (some 73) none (SOp.mv (Operand.tmp 11)),
                                SOper.mk (some 74) none
                                  (SOp.ibin BinOp.eql (Operand.tmp 73) (Operand.const (Value.int IntKind.i64 1))),
                                SOper.mk (some 75) none (SOp.mv (Operand.tmp 74)),
                                SOper.mk (some 76) (some (75, true)) (SOp.fld 2 (Operand.tmp 10)),
                                SOper.mk (some 77) (some (75, true)) (SOp.load false 1 (Operand.tmp 76)),
                                SOper.mk (some 78) (some (75, true)) (SOp.len false (Operand.tmp 77)),
                                SOper.mk (some 79) (some (75, true))
                                  (SOp.ibin BinOp.eql (Operand.tmp 78) (Operand.const (Value.int IntKind.i64 0))),
                                SOper.mk (some 80) none
                                  (SOp.pick (Operand.tmp 75) (Operand.tmp 79) (Operand.const (Value.bool false))),
                                SOper.mk (some 4) none (SOp.mv (Operand.tmp 80))]
                              [4])
                            Stmt.ret)
                          Stmt.skip))
                      (Stmt.seq
                        (Stmt.region
                          [SOper.mk (some 81) none (SOp.mv (Operand.tmp 11)),
                            SOper.mk (some 82) none
                              (SOp.ibin BinOp.eql (Operand.tmp 81) (Operand.const (Value.int IntKind.i64 0))),
                            SOper.mk (some 83) none (SOp.mv (Operand.tmp 82)),
                            SOper.mk (some 84) (some (83, true)) (SOp.fld 2 (Operand.tmp 10)),
                            SOper.mk (some 85) (some (83, true)) (SOp.load false 1 (Operand.tmp 84)),
                            SOper.mk (some 86) (some (83, true)) (SOp.len false (Operand.tmp 85)),
                            SOper.mk (some 87) (some (83, true))
                              (SOp.ibin BinOp.eql (Operand.tmp 86) (Operand.const (Value.int IntKind.i64 1))),
                            SOper.mk (some 88) none
                              (SOp.pick (Operand.tmp 83) (Operand.tmp 87) (Operand.const (Value.bool false))),
                            SOper.mk (some 89) none (SOp.mv (Operand.tmp 88)),
                            SOper.mk (some 90) (some (89, true)) (SOp.fld 1 (Operand.tmp 10)),
                            SOper.mk (some 91) (some (89, true)) (SOp.load false 1 (Operand.tmp 90)),
                            SOper.mk (some 92) (some (89, true))
                              (SOp.idx 1 (Operand.tmp 91) (Operand.const (Value.int IntKind.i64 0))),
                            SOper.mk (some 93) (some (89, true)) (SOp.load false 1 (Operand.tmp 92)),
                            SOper.mk (some 94) (some (89, true))
                              (SOp.ibin BinOp.eql (Operand.tmp 93) (Operand.const (Value.int IntKind.i64 (-1)))),
                            SOper.mk (some 95) none
                              (SOp.pick (Operand.tmp 89) (Operand.tmp 94) (Operand.const (Value.bool false))),
                            SOper.mk (some 4) none (SOp.mv (Operand.tmp 95))]
                          [4])
                        Stmt.ret))))))
            Stmt.skip))
        (Stmt.seq
          (Stmt.seq
            (Stmt.region
              [SOper.mk (some 96) none (SOp.fld 2 (Operand.tmp 2)),
                SOper.mk (some 97) none (SOp.load false 1 (Operand.tmp 96)),
                SOper.mk (some 98) none (SOp.len false (Operand.tmp 97)),
                SOper.mk (some 99) none
                  (SOp.ibin BinOp.gtr (Operand.tmp 98) (Operand.const (Value.int IntKind.i64 60)))]
              [2, 99])
            (Stmt.cond (Operand.tmp 99)
              (Stmt.seq (Stmt.region [SOper.mk (some 4) none (SOp.mv (Operand.const (Value.bool true)))] [4]) Stmt.ret)
              Stmt.skip))
          (Stmt.seq
            (Stmt.region
              [SOper.mk (some 100) none (SOp.fld 2 (Operand.tmp 2)),
                SOper.mk (some 101) none (SOp.load false 1 (Operand.tmp 100)),
                SOper.mk (some 102) none (SOp.idx 1 (Operand.tmp 101) (Operand.const (Value.int IntKind.i64 0))),
                SOper.mk (some 103) none (SOp.load false 1 (Operand.tmp 102)),
                SOper.mk (some 104) none (SOp.len false (Operand.tmp 103)),
                SOper.mk (some 12) none (SOp.mv (Operand.tmp 104))]
              [2, 12])
            (Stmt.seq
              (Stmt.region
                [SOper.mk (some 106) none (SOp.mv (Operand.tmp 12)),
                  SOper.mk (some 107) none (SOp.mkFunc 95 [Operand.tmp 2]),
                  SOper.mk (some 108) none (SOp.mkFunc 96 [Operand.tmp 2]),
                  SOper.mk (some 109) none
                    (SOp.call (Operand.func 85) [Operand.tmp 106, Operand.tmp 107, Operand.tmp 108]),
                  SOper.mk (some 105) none (SOp.mv (Operand.tmp 109)),
                  SOper.mk (some 110) none (SOp.extract 0 (Operand.tmp 105)),
                  SOper.mk (some 111) none (SOp.extract 1 (Operand.tmp 105)),
                  SOper.mk (some 13) none
                    (SOp.alloc true 67
                      (Value.agg (Array.mk [Value.int IntKind.i64 0, Value.slice none 0 0, Value.slice none 0 0]))),
                  SOper.mk none none (SOp.store 3 (Operand.tmp 13) (Operand.tmp 110)),
                  SOper.mk (some 14) none (SOp.mv (Operand.tmp 111))]
                [2, 13, 14])
              (Stmt.seq
                (Stmt.region
                  [SOper.mk (some 112) none (SOp.fld 0 (Operand.tmp 2)),
                    SOper.mk (some 113) none (SOp.load false 1 (Operand.tmp 112)),
                    SOper.mk (some 114) none (SOp.fld 2 (Operand.tmp 2)),
                    SOper.mk (some 115) none (SOp.load false 1 (Operand.tmp 114)),
                    SOper.mk (some 116) none
                      (SOp.build 67 [Value.int IntKind.i64 0, Value.slice none 0 0, Value.slice none 0 0]
                        [(0, 1, Operand.tmp 113), (2, 1, Operand.tmp 115)]),
                    SOper.mk (some 15) none
                      (SOp.alloc true 67
                        (Value.agg (Array.mk [Value.int IntKind.i64 0, Value.slice none 0 0, Value.slice none 0 0]))),
                    SOper.mk none none (SOp.store 3 (Operand.tmp 15) (Operand.tmp 116))]
                  [2, 13, 14, 15])
                (Stmt.seq
                  (Stmt.seq
                    (Stmt.region
                      [SOper.mk (some 117) none (SOp.fld 1 (Operand.tmp 2)),
                        SOper.mk (some 118) none (SOp.load false 1 (Operand.tmp 117)),
                        SOper.mk (some 119) none (SOp.len false (Operand.tmp 118)),
                        SOper.mk (some 120) none (SOp.mv (Operand.const (Value.int IntKind.i64 0)))]
                      [13, 14, 15, 118, 119, 120])
                    (Stmt.block 2 (Stmt.loop S17_2 [15, 120] [13, 14, 118, 119])))
                  (Stmt.seq
                    (Stmt.region
                      [SOper.mk (some 133) none (SOp.load true 3 (Operand.tmp 15)),
                        SOper.mk (some 134) none (SOp.call (Operand.func 97) [Operand.tmp 133]),
                        SOper.mk (some 132) none (SOp.mv (Operand.tmp 134)),
                        SOper.mk (some 135) none (SOp.extract 0 (Operand.tmp 132)),
                        SOper.mk (some 136) none (SOp.extract 1 (Operand.tmp 132)),
                        SOper.mk (some 18) none
                          (SOp.alloc true 67
                            (Value.agg
                              (Array.mk [Value.int IntKind.i64 0, Value.slice none 0 0, Value.slice none 0 0]))),
                        SOper.mk none none (SOp.store 3 (Operand.tmp 18) (Operand.tmp 135)),
                        SOper.mk (some 19) none (SOp.mv (Operand.tmp 136))]
                      [13, 14, 18, 19])
                    (Stmt.seq
                      (Stmt.region
                        [SOper.mk (some 137) none (SOp.mv (Operand.tmp 14)),
                          SOper.mk (some 138) none
                            (SOp.ibin BinOp.eql (Operand.tmp 137) (Operand.const (Value.int IntKind.i64 0))),
                          SOper.mk (some 139) none (SOp.mv (Operand.tmp 138)),
                          SOper.mk (some 140) (some (139, true)) (SOp.mv (Operand.tmp 19)),
                          SOper.mk (some 141) (some (139, true))
                            (SOp.ibin BinOp.eql (Operand.tmp 140) (Operand.const (Value.int IntKind.i64 0))),
                          SOper.mk (some 142) none
                            (SOp.pick (Operand.tmp 139) (Operand.tmp 141) (Operand.const (Value.bool false))),
                          SOper.mk (some 143) none (SOp.mv (Operand.tmp 142)),
                          SOper.mk (some 144) (some (143, true)) (SOp.fld 0 (Operand.tmp 13)),
                          SOper.mk (some 145) (some (143, true)) (SOp.load false 1 (Operand.tmp 144)),
                          SOper.mk (some 146) (some (143, true)) (SOp.fld 0 (Operand.tmp 18)),
                          SOper.mk (some 147) (some (143, true)) (SOp.load false 1 (Operand.tmp 146)),
                          SOper.mk (some 148) (some (143, true))
                            (SOp.ibin BinOp.eql (Operand.tmp 145) (Operand.tmp 147)),
                          SOper.mk (some 149) none
                            (SOp.pick (Operand.tmp 143) (Operand.tmp 148) (Operand.const (Value.bool false))),
                          SOper.mk (some 150) none (SOp.mv (Operand.tmp 149)),
                          SOper.mk (some 151) (some (150, true)) (SOp.fld 1 (Operand.tmp 13)),
                          SOper.mk (some 152) (some (150, true)) (SOp.load false 1 (Operand.tmp 151)),
                          SOper.mk (some 153) (some (150, true)) (SOp.fld 1 (Operand.tmp 18)),
                          SOper.mk (some 154) (some (150, true)) (SOp.load false 1 (Operand.tmp 153)),
                          SOper.mk (some 155) (some (150, true))
                            (SOp.call (Operand.func 28) [Operand.tmp 152, Operand.tmp 154]),
                          SOper.mk (some 156) none
                            (SOp.pick (Operand.tmp 150) (Operand.tmp 155) (Operand.const (Value.bool false))),
                          SOper.mk (some 157) none (SOp.mv (Operand.tmp 156)),
                          SOper.mk (some 158) (some (157, true)) (SOp.fld 2 (Operand.tmp 13)),
                          SOper.mk (some 159) (some (157, true)) (SOp.load false 1 (Operand.tmp 158)),
                          SOper.mk (some 160) (some (157, true)) (SOp.fld 2 (Operand.tmp 18)),
                          SOper.mk (some 161) (some (157, true)) (SOp.load false 1 (Operand.tmp 160)),
                          SOper.mk (some 162) (some (157, true))
                            (SOp.call (Operand.func 82) [Operand.tmp 159, Operand.tmp 161, Operand.func 28]),
                          SOper.mk (some 163) none
                            (SOp.pick (Operand.tmp 157) (Operand.tmp 162) (Operand.const (Value.bool false))),
                          SOper.mk (some 4) none (SOp.mv (Operand.tmp 163))]
                        [4])
                      Stmt.ret))))))))))
def S17 : FnS := ⟨164, [(4, none)], S17_0⟩
theorem tr17 : trFn Try.prog 17 [6, 10, 13, 15, 18] [[1, 2], [1, 2, 5], [1, 2, 5, 6, 7], [1, 2, 39], [4], [1, 2, 42], [8], [8, 9], [8, 9, 48, 49], [49], [8, 9, 48], [8, 9, 48, 49, 50], [8, 9, 48, 49], [0, 1, 2, 3, 4, 5, 6, 7, 8, 9], [1], [], [0], [], [2], [2, 3], [2, 3, 4], [], [2, 3, 4, 5, 6], [0, 1, 2, 3, 4, 5, 6, 7], [0, 1, 2, 3, 4, 5, 6, 7, 8], [8, 9, 48, 49], [8, 10, 11], [10, 11, 72], [4], [4], [2, 99], [4], [2, 12], [2, 13, 14], [2, 13, 14, 15], [13, 14, 15, 118, 119, 120], [15, 120], [13, 14, 118, 119], [13, 14, 15, 118, 119, 120, 121], [13, 14, 15, 17, 118, 119, 120], [13, 14, 15, 118, 119, 120], [13, 14, 15, 118, 119, 120], [13, 14, 18, 19], [4]] = some S17 := by kernel_rfl
end Go.Proofs.Ytniobbepliknmaa.V
/- The text of parlance/parllaw5.LearnTells$1 as a statement (slots: 0 w, 1 w); no condition. -/
namespace Go.Proofs.Ytniobbepliknmaa.V
open Go
def S90_0 : Stmt :=
  Stmt.seq (Stmt.region [SOper.mk (some 2) none (SOp.mv (Operand.const (Value.bool false)))] [0])
  (Stmt.seq
    (Stmt.region
      [SOper.mk (some 3) none (SOp.mv (Operand.tmp 0)), SOper.mk (some 4) none (SOp.len false (Operand.tmp 3)),
        SOper.mk (some 5) none (SOp.ibin BinOp.eql (Operand.tmp 4) (Operand.const (Value.int IntKind.i64 1))),
        SOper.mk (some 2) none (SOp.mv (Operand.tmp 5))]
      [2])
    Stmt.ret)
def S90 : FnS := ⟨6, [(2, none)], S90_0⟩
theorem tr90 : trFn Try.prog 90 [] [[0], [2]] = some S90 := by kernel_rfl
end Go.Proofs.Ytniobbepliknmaa.V
/- The text of parlance/parllaw5.LearnTells$2 as a statement (slots: 0 h, 2 h, 5 w, 6 differ); no condition. -/
namespace Go.Proofs.Ytniobbepliknmaa.V
open Go
def S91_0 : Stmt :=
  Stmt.seq
  (Stmt.region
    [SOper.mk (some 2) none (SOp.box true 67 (Operand.tmp 0)),
      SOper.mk (some 3) none (SOp.mv (Operand.const (Value.bool false))),
      SOper.mk (some 4) none (SOp.mv (Operand.const (Value.slice none 0 0)))]
    [1, 2])
  (Stmt.seq
    (Stmt.region
      [SOper.mk (some 8) none (SOp.load true 3 (Operand.tmp 1)),
        SOper.mk (some 9) none (SOp.load true 3 (Operand.tmp 2)),
        SOper.mk (some 10) none (SOp.call (Operand.func 53) [Operand.tmp 8, Operand.tmp 9]),
        SOper.mk (some 7) none (SOp.mv (Operand.tmp 10)), SOper.mk (some 11) none (SOp.extract 0 (Operand.tmp 7)),
        SOper.mk (some 12) none (SOp.extract 1 (Operand.tmp 7)), SOper.mk (some 5) none (SOp.mv (Operand.tmp 11)),
        SOper.mk (some 6) none (SOp.mv (Operand.tmp 12))]
      [5, 6])
    (Stmt.seq
      (Stmt.region
        [SOper.mk (some 13) none (SOp.mv (Operand.tmp 6)), SOper.mk (some 14) none (SOp.un UnOp.not (Operand.tmp 13)),
          SOper.mk (some 15) none (SOp.mv (Operand.tmp 5)), SOper.mk (some 3) none (SOp.mv (Operand.tmp 14)),
          SOper.mk (some 4) none (SOp.mv (Operand.tmp 15))]
        [3, 4])
      Stmt.ret))
def S91 : FnS := ⟨16, [(3, none), (4, none)], S91_0⟩
theorem tr91 : trFn Try.prog 91 [2] [[1, 2], [5, 6], [3, 4]] = some S91 := by kernel_rfl
end Go.Proofs.Ytniobbepliknmaa.V
/- The text of parlance/parllaw5.LearnTells$3 as a statement (slots: 0 w, 1 w); no condition. -/
namespace Go.Proofs.Ytniobbepliknmaa.V
open Go
def S93_0 : Stmt :=
  Stmt.seq (Stmt.region [SOper.mk (some 2) none (SOp.mv (Operand.const (Value.bool false)))] [])
  (Stmt.seq (Stmt.region [SOper.mk (some 2) none (SOp.mv (Operand.const (Value.bool false)))] [2]) Stmt.ret)
def S93 : FnS := ⟨3, [(2, none)], S93_0⟩
theorem tr93 : trFn Try.prog 93 [] [[], [2]] = some S93 := by kernel_rfl
end Go.Proofs.Ytniobbepliknmaa.V
/- The text of parlance/parllaw5.LearnTells$4 as a statement (slots: 0 h, 2 h, 5 w, 6 differ); no condition. -/
namespace Go.Proofs.Ytniobbepliknmaa.V
open Go
def S94_0 : Stmt :=
  Stmt.seq
  (Stmt.region
    [SOper.mk (some 2) none (SOp.box true 67 (Operand.tmp 0)),
      SOper.mk (some 3) none (SOp.mv (Operand.const (Value.bool false))),
      SOper.mk (some 4) none (SOp.mv (Operand.const (Value.slice none 0 0)))]
    [1, 2])
  (Stmt.seq
    (Stmt.region
      [SOper.mk (some 8) none (SOp.load true 3 (Operand.tmp 1)),
        SOper.mk (some 9) none (SOp.load true 3 (Operand.tmp 2)),
        SOper.mk (some 10) none (SOp.call (Operand.func 53) [Operand.tmp 8, Operand.tmp 9]),
        SOper.mk (some 7) none (SOp.mv (Operand.tmp 10)), SOper.mk (some 11) none (SOp.extract 0 (Operand.tmp 7)),
        SOper.mk (some 12) none (SOp.extract 1 (Operand.tmp 7)), SOper.mk (some 5) none (SOp.mv (Operand.tmp 11)),
        SOper.mk (some 6) none (SOp.mv (Operand.tmp 12))]
      [5, 6])
    (Stmt.seq
      (Stmt.region
        [SOper.mk (some 13) none (SOp.mv (Operand.tmp 6)), SOper.mk (some 14) none (SOp.un UnOp.not (Operand.tmp 13)),
          SOper.mk (some 15) none (SOp.mv (Operand.tmp 5)), SOper.mk (some 3) none (SOp.mv (Operand.tmp 14)),
          SOper.mk (some 4) none (SOp.mv (Operand.tmp 15))]
        [3, 4])
      Stmt.ret))
def S94 : FnS := ⟨16, [(3, none), (4, none)], S94_0⟩
theorem tr94 : trFn Try.prog 94 [2] [[1, 2], [5, 6], [3, 4]] = some S94 := by kernel_rfl
end Go.Proofs.Ytniobbepliknmaa.V
/- The text of parlance/parllaw5.LearnTells$5 as a statement (slots: 0 w, 2 w); no condition. -/
namespace Go.Proofs.Ytniobbepliknmaa.V
open Go
def S95_0 : Stmt :=
  Stmt.seq (Stmt.region [SOper.mk (some 3) none (SOp.mv (Operand.const (Value.bool false)))] [0, 1])
  (Stmt.seq
    (Stmt.region
      [SOper.mk (some 4) none (SOp.load true 3 (Operand.tmp 1)), SOper.mk (some 5) none (SOp.mv (Operand.tmp 0)),
        SOper.mk (some 6) none (SOp.call (Operand.func 50) [Operand.tmp 4, Operand.tmp 5]),
        SOper.mk (some 3) none (SOp.mv (Operand.tmp 6))]
      [3])
    Stmt.ret)
def S95 : FnS := ⟨7, [(3, none)], S95_0⟩
theorem tr95 : trFn Try.prog 95 [] [[0, 1], [3]] = some S95 := by kernel_rfl
end Go.Proofs.Ytniobbepliknmaa.V
/- The text of parlance/parllaw5.LearnTells$6 as a statement (slots: 0 h, 2 h, 5 w, 6 differ); no condition. -/
namespace Go.Proofs.Ytniobbepliknmaa.V
open Go
def S96_0 : Stmt :=
  Stmt.seq
  (Stmt.region
    [SOper.mk (some 2) none (SOp.box true 67 (Operand.tmp 0)),
      SOper.mk (some 3) none (SOp.mv (Operand.const (Value.bool false))),
      SOper.mk (some 4) none (SOp.mv (Operand.const (Value.slice none 0 0)))]
    [1, 2])
  (Stmt.seq
    (Stmt.region
      [SOper.mk (some 8) none (SOp.load true 3 (Operand.tmp 1)),
        SOper.mk (some 9) none (SOp.load true 3 (Operand.tmp 2)),
        SOper.mk (some 10) none (SOp.call (Operand.func 53) [Operand.tmp 8, Operand.tmp 9]),
        SOper.mk (some 7) none (SOp.mv (Operand.tmp 10)), SOper.mk (some 11) none (SOp.extract 0 (Operand.tmp 7)),
        SOper.mk (some 12) none (SOp.extract 1 (Operand.tmp 7)), SOper.mk (some 5) none (SOp.mv (Operand.tmp 11)),
        SOper.mk (some 6) none (SOp.mv (Operand.tmp 12))]
      [5, 6])
    (Stmt.seq
      (Stmt.region
        [SOper.mk (some 13) none (SOp.mv (Operand.tmp 6)), SOper.mk (some 14) none (SOp.un UnOp.not (Operand.tmp 13)),
          SOper.mk (some 15) none (SOp.mv (Operand.tmp 5)), SOper.mk (some 3) none (SOp.mv (Operand.tmp 14)),
          SOper.mk (some 4) none (SOp.mv (Operand.tmp 15))]
        [3, 4])
      Stmt.ret))
def S96 : FnS := ⟨16, [(3, none), (4, none)], S96_0⟩
theorem tr96 : trFn Try.prog 96 [2] [[1, 2], [5, 6], [3, 4]] = some S96 := by kernel_rfl
end Go.Proofs.Ytniobbepliknmaa.V
/- The law of parllaw5.LearnTells: it answers true; no condition. -/
namespace Go.Proofs.Ytniobbepliknmaa.V
open Go
set_option linter.unusedVariables false
set_option linter.unusedSimpArgs false
attribute [local go_sem] e_seq e_region e_quiet e_join e_loop e_cond e_block e_exit e_ret e_skip e_fin e_kseq e_snrm e_sret e_sex e_bnrm e_bret e_bex e_rnrm e_rret e_res e_condC e_nil e_g e_mv g_mv e_pick g_pick pickC_eq e_ibin g_ibin ibinC_eq e_sbin g_sbin e_beq g_beq beqC_eq e_nilq g_nilq nilqC_sl nilqC_pt nilqC_mp e_un g_un unC_not unC_neg e_conv g_conv convC_eq e_fld g_fld fldC_ref fldC_ptr e_nilCheck g_nilCheck nilCheckC_ref nilCheckC_ptr nilCheckC_fun e_field g_field fieldC_eq e_len g_len lenC_sl lenC_str e_extract g_extract extractC_eq e_mkFunc e_build g_build e_idiv g_idiv idivC_eq e_ishift g_ishift ishiftC_eq e_idx g_idx e_idxA g_idxA e_load g_load e_loadB g_loadB atB_ref atB_v g_mkFunc loadC_ref loadC_ptr loadB_eq e_slc g_slc e_box boxC_loc boxC_esc e_alloc allocC_loc allocC_esc e_buildS e_store storeC_ref storeC_ptr storeB_eq e_append e_appz e_mk mkC_eq e_call callC_eq e_fn g_fn fnC_eq fnV_min' fnV_max' fnV_rune' e_q g_q e_a e_n g_call g_box g_alloc g_buildS g_store g_append g_mk g_a g_n g_dead e_dead e_callK e_drawn e_tree e_finJ e_tk e_tfin e_tno e_nbt_q e_nbt_qn e_nbt_a e_nbt_an e_nbt_fin e_drawnB e_bxb_nil e_bxb e_stB_none e_stB_some boxSt_store bs_mv bs_pick bs_ibin bs_idiv bs_ishift bs_sbin bs_beq bs_nilq bs_un bs_conv bs_box bs_alloc bs_build bs_buildS bs_load bs_fld bs_nilCheck bs_idx bs_idxA bs_field bs_slc bs_len bs_append bs_appz bs_mk bs_call bs_extract bs_mkFunc bs_fn bs_q bs_a bs_n bs_loadB bs_dead isBox_box e_early_nil e_early_t e_early_f e_nob_nil e_nob_none e_nob_some isBox_dead isBox_v isBox_ref e_dnil e_dk e_ek e_finB vcOps_vc1 e_dcons e_tq e_ekt e_tearly e_talt e_dearly look_nil look_c proj_nil proj_c looks_nil looks_c zip_nil zip_c val_tmp val_const val_func slv_v slv_box slv_ref slot_tmp slot_const slot_func slotL_v slotL_box slotL_ref put_some put_none updBox_c boxSet_box gd_eq slotVals_nil slotVals_c slotVals_b boxV_box boxOn_box slotsOn_nil slotsOn_c slotsOn_b resV_one resV_two vals_nil vals_c allOn_nil allOn_c partOn_nil partOn_c partVals_nil partVals_c fits_nil fits_c fillL_nil fillL_c mkv_one mkv_agg cellsV_agg cellsV_int cellsV_bool cellsV_slice cellsV_string cellsV_pointer cellsV_func cellsV_nilf cellsV_map one'_nil one'_c oc_int oc_bool oc_slice oc_string oc_pointer oc_func oc_nilf oc_map setC_eq iv_add iv_sub iv_mul iv_eql iv_neq iv_lss iv_leq iv_gtr iv_geq iok_add iok_sub iok_mul iok_eql iok_neq iok_lss iok_leq iok_gtr iok_geq pickV_bool args0_nil args0_c bnd_none bnd_some imp_bt imp_bf imp_ebt imp_ebf imp_eb1 imp_np imp_pp beq_tt beq_tf beq_ft beq_ff cond_or cond_and e_round e_meet Int.le_refl Int.toNat_zero decide_true decide_false Bool.or_false Bool.false_or Bool.true_or Bool.or_true Bool.and_false Bool.false_and Bool.bne_false Bool.bne_true beq_iff_eq Int.cast_ofNat_Int not_false_eq_true not_true_eq_false false_and and_false false_implies true_implies true_and and_true Bool.true_and Bool.and_true Bool.not_true Bool.not_false forall_const implies_true List.take_zero List.drop_zero List.take_succ_cons List.drop_succ_cons List.take_nil List.drop_nil List.length_cons List.length_nil List.nil_append List.append_nil List.cons_append Int.toNat_natCast decide_eq_true_eq decide_eq_false_iff_not cond_true cond_false and_self List.getElem?_cons_zero List.getElem?_cons_succ List.set_cons_zero List.set_cons_succ Option.some.injEq exists_eq_left' Nat.zero_add Nat.add_zero Nat.mul_one imp_self true_or or_true or_false false_or Bool.or_eq_true Bool.or_eq_false_iff Bool.and_eq_true Bool.and_eq_false_iff Bool.not_eq_true' Bool.not_eq_false'

theorem of_auto {x : Da} (V : VD x) {k N : Nat} (hk : colsD x = k) {r : Da} {e : Int} {L : List Int → Bool} (hL : ∀ w, okK k w → L w = accL x w) (h : OfS L k N (relA x) r e) : e = 0 ∧ GoodM L k N r ∧ NoW x r := by
  rcases h with ⟨h1, h2, w, h3⟩ | ⟨_, m, w, hG, hr, q⟩
  · refine ⟨h1, h2, ?_⟩
    rcases h3 with ⟨_, h3⟩ | ⟨h3, _⟩
    · exact h3
    · cases h3
  · exfalso
    rcases hr with ⟨h3, _⟩ | ⟨_, hw, hl, hd⟩
    · cases h3
    · have hwk : okK k w := by rw [← hk]; exact hw
      rcases q with ⟨_, q⟩ | ⟨_, _, q⟩ | ⟨_, _, _, q⟩
      · omega
      · exact q hwk
      · obtain ⟨Vm, hcm, _, hst⟩ := hG.valid
        have hwm : okW m w := by rw [okW, hcm]; exact hwk
        have ht := tl_acc Vm hwm
        rw [hst] at ht
        have ht : decide (0 ≤ tlN m 0 w) = accP m (goD m m.st w) := by rw [hst]; exact ht
        rw [ht, hL w hwk] at q
        exact hd q.symm
theorem good_flat {x : Da} (V : VD x) {k N : Nat} (hk : colsD x = k) {r y : Da} {L : List Int → Bool} (hL : ∀ w, okK k w → L w = accL x w) (hG : GoodM L k N r) (hN : NoW x r) (hy : MinS (flatD x) y) : r = y := by
  obtain ⟨Vr, hcr, _, hst⟩ := hG.valid
  obtain ⟨ends, rows, g, T, G, Vg, hM, hb⟩ := hG
  have hgc := G.cols T
  refine hM.uniq Vg (flat_valid V) (by rw [hgc, flat_cols, hk]) (fun w hw => ?_) hy
  have hwk : okK k w := by rw [← hgc]; exact hw
  have hwx : okW x w := by rw [okW, hk]; exact hwk
  have hwr : okW r w := by rw [okW, hcr]; exact hwk
  have hgs := G.st
  have h1 := (hM.valid Vg).2.2 w hw
  rw [hgs] at h1 ⊢
  have h1 : tlN r 0 w = tlN g 0 w := h1
  show tlN g 0 w = tlN (flatD x) x.st.toNat w
  rw [flat_tl V hwx]
  have ht := tl_acc Vr hwr
  rw [hst] at ht
  have ht : decide (0 ≤ tlN r 0 w) = accP r (goD r r.st w) := by rw [hst]; exact ht
  have hacc : accP r (goD r r.st w) = accL x w := by
    have := hN w hwx
    unfold Dif at this
    exact (Classical.not_not.1 this).symm
  rw [h1, hacc] at ht
  have hr0l := (List.getElem?_eq_some_iff.1 T.row0).1
  have hj := G.go T hr0l hwk
  have hv : tlN g 0 w = if L rows[goN g 0 w] then 0 else -1 := G.acc (List.getElem?_eq_getElem hj)
  rw [hv] at ht ⊢
  cases hq : L rows[goN g 0 w]
  · rw [hq] at ht
    simp at ht
    simp [← ht]
  · rw [hq] at ht
    simp at ht
    simp [← ht]
theorem lt_eq2 {Γr : Ctx} {p : Nat} {x : Da} (V : VD x) {A B : Option Addr} {c e : Nat} {T : TypeId} (hp : lk Γr p (.cells [.int .i64 x.st, .slice A x.ac.length c, .slice B x.nx.length e].toArray T (0, 0))) (hA : SlOk (lk Γr) A c x.ac) (hB : SlOk (lk Γr) B e x.nx) {k N : Nat} (hk : colsD x = k) (hN : x.nx.length + N ≤ 1900) :
    EqOk Γr (.func (.func 91) #[] #[.pointer (some ⟨p, 0, none⟩)]) k N (relA x) := by
  refine ⟨91, _, _, rfl, fun Γ m C D c' e' hle hC hD Vm hcm hml hst => ?_⟩
  generalize hR : (fun (v : Value) (Γ' : Ctx) => ∃ g b w W c, _) = R
  refine ret_of_vc tr91 (Nat.le_of_ble_eq_true rfl) ?_
  simp -implicitDefEqProofs only [S91, S91_0, go_sem, Nat.reduceBEq, Nat.reduceAdd, Nat.reduceSub, Nat.reduceMul, Nat.reduceLeDiff, reduceCtorEq, ↓reduceIte, Int.reduceLT, Int.reduceLE, Int.reduceEq, Int.reduceNe]
  intro b2
  refine s_ld0 (cells_lk (by simpa using hle _ _ hp)) (by simp) (by simp) ?_
  simp -implicitDefEqProofs only [go_sem, Nat.reduceBEq, Nat.reduceAdd, Nat.reduceSub, Nat.reduceMul, Nat.reduceLeDiff, reduceCtorEq, ↓reduceIte, Int.reduceLT, Int.reduceLE, Int.reduceEq, Int.reduceNe]
  have hap := ref_apart (Γr := Γ) V Vm (by rw [hk, hcm]) (hA.mono hle) (hB.mono hle) hC hD
  rw [hst] at hap
  refine CallVC.read (Γ := []) hap ?_
  rintro v Γ' ⟨g, w, b, v', rfl, rfl, hBw, hwl, hT⟩
  have hrel : relA x m (!b) w ∧ w.length ≤ 2000 := by
    cases b with
    | true =>
      rcases hT with ⟨_, h⟩ | ⟨h, _⟩
      · have := least_short V Vm (by rw [hk, hcm]) h
        exact ⟨.inr ⟨rfl, h.1, by omega, h.2.1⟩, by omega⟩
      · cases h
    | false =>
      have h := toldF_no V Vm (by rw [hk, hcm]) hT
      rcases hT with ⟨h', _⟩ | ⟨_, rfl, _⟩
      · cases h'
      · exact ⟨.inl ⟨rfl, h⟩, by simp⟩
  obtain ⟨W, cw, rfl, hSw⟩ := hBw.slok (L' := lk [g]) (Mem.le.refl _) (fun b o ⟨x, hx, _⟩ => by cases hx) (by omega)
  simp -implicitDefEqProofs only [go_sem, Nat.reduceBEq, Nat.reduceAdd, Nat.reduceSub, Nat.reduceMul, Nat.reduceLeDiff, reduceCtorEq, ↓reduceIte, Int.reduceLT, Int.reduceLE, Int.reduceEq, Int.reduceNe]
  refine Up.here ?_
  subst hR
  exact ⟨g, !b, w, W, cw, rfl, rfl, hSw.mono (lk_sub fun y hy => by simp at hy; subst hy; simp), by omega, hrel.1⟩
theorem lt_eq4 {Γr : Ctx} {p : Nat} {x : Da} (V : VD x) {A B : Option Addr} {c e : Nat} {T : TypeId} (hp : lk Γr p (.cells [.int .i64 x.st, .slice A x.ac.length c, .slice B x.nx.length e].toArray T (0, 0))) (hA : SlOk (lk Γr) A c x.ac) (hB : SlOk (lk Γr) B e x.nx) {k N : Nat} (hk : colsD x = k) (hN : x.nx.length + N ≤ 1900) :
    EqOk Γr (.func (.func 94) #[] #[.pointer (some ⟨p, 0, none⟩)]) k N (relA x) := by
  refine ⟨94, _, _, rfl, fun Γ m C D c' e' hle hC hD Vm hcm hml hst => ?_⟩
  generalize hR : (fun (v : Value) (Γ' : Ctx) => ∃ g b w W c, _) = R
  refine ret_of_vc tr94 (Nat.le_of_ble_eq_true rfl) ?_
  simp -implicitDefEqProofs only [S94, S94_0, go_sem, Nat.reduceBEq, Nat.reduceAdd, Nat.reduceSub, Nat.reduceMul, Nat.reduceLeDiff, reduceCtorEq, ↓reduceIte, Int.reduceLT, Int.reduceLE, Int.reduceEq, Int.reduceNe]
  intro b2
  refine s_ld0 (cells_lk (by simpa using hle _ _ hp)) (by simp) (by simp) ?_
  simp -implicitDefEqProofs only [go_sem, Nat.reduceBEq, Nat.reduceAdd, Nat.reduceSub, Nat.reduceMul, Nat.reduceLeDiff, reduceCtorEq, ↓reduceIte, Int.reduceLT, Int.reduceLE, Int.reduceEq, Int.reduceNe]
  have hap := ref_apart (Γr := Γ) V Vm (by rw [hk, hcm]) (hA.mono hle) (hB.mono hle) hC hD
  rw [hst] at hap
  refine CallVC.read (Γ := []) hap ?_
  rintro v Γ' ⟨g, w, b, v', rfl, rfl, hBw, hwl, hT⟩
  have hrel : relA x m (!b) w ∧ w.length ≤ 2000 := by
    cases b with
    | true =>
      rcases hT with ⟨_, h⟩ | ⟨h, _⟩
      · have := least_short V Vm (by rw [hk, hcm]) h
        exact ⟨.inr ⟨rfl, h.1, by omega, h.2.1⟩, by omega⟩
      · cases h
    | false =>
      have h := toldF_no V Vm (by rw [hk, hcm]) hT
      rcases hT with ⟨h', _⟩ | ⟨_, rfl, _⟩
      · cases h'
      · exact ⟨.inl ⟨rfl, h⟩, by simp⟩
  obtain ⟨W, cw, rfl, hSw⟩ := hBw.slok (L' := lk [g]) (Mem.le.refl _) (fun b o ⟨x, hx, _⟩ => by cases hx) (by omega)
  simp -implicitDefEqProofs only [go_sem, Nat.reduceBEq, Nat.reduceAdd, Nat.reduceSub, Nat.reduceMul, Nat.reduceLeDiff, reduceCtorEq, ↓reduceIte, Int.reduceLT, Int.reduceLE, Int.reduceEq, Int.reduceNe]
  refine Up.here ?_
  subst hR
  exact ⟨g, !b, w, W, cw, rfl, rfl, hSw.mono (lk_sub fun y hy => by simp at hy; subst hy; simp), by omega, hrel.1⟩
theorem lt_eq6 {Γr : Ctx} {p : Nat} {x : Da} (V : VD x) {A B : Option Addr} {c e : Nat} {T : TypeId} (hp : lk Γr p (.cells [.int .i64 x.st, .slice A x.ac.length c, .slice B x.nx.length e].toArray T (0, 0))) (hA : SlOk (lk Γr) A c x.ac) (hB : SlOk (lk Γr) B e x.nx) {k N : Nat} (hk : colsD x = k) (hN : x.nx.length + N ≤ 1900) :
    EqOk Γr (.func (.func 96) #[] #[.pointer (some ⟨p, 0, none⟩)]) k N (relA x) := by
  refine ⟨96, _, _, rfl, fun Γ m C D c' e' hle hC hD Vm hcm hml hst => ?_⟩
  generalize hR : (fun (v : Value) (Γ' : Ctx) => ∃ g b w W c, _) = R
  refine ret_of_vc tr96 (Nat.le_of_ble_eq_true rfl) ?_
  simp -implicitDefEqProofs only [S96, S96_0, go_sem, Nat.reduceBEq, Nat.reduceAdd, Nat.reduceSub, Nat.reduceMul, Nat.reduceLeDiff, reduceCtorEq, ↓reduceIte, Int.reduceLT, Int.reduceLE, Int.reduceEq, Int.reduceNe]
  intro b2
  refine s_ld0 (cells_lk (by simpa using hle _ _ hp)) (by simp) (by simp) ?_
  simp -implicitDefEqProofs only [go_sem, Nat.reduceBEq, Nat.reduceAdd, Nat.reduceSub, Nat.reduceMul, Nat.reduceLeDiff, reduceCtorEq, ↓reduceIte, Int.reduceLT, Int.reduceLE, Int.reduceEq, Int.reduceNe]
  have hap := ref_apart (Γr := Γ) V Vm (by rw [hk, hcm]) (hA.mono hle) (hB.mono hle) hC hD
  rw [hst] at hap
  refine CallVC.read (Γ := []) hap ?_
  rintro v Γ' ⟨g, w, b, v', rfl, rfl, hBw, hwl, hT⟩
  have hrel : relA x m (!b) w ∧ w.length ≤ 2000 := by
    cases b with
    | true =>
      rcases hT with ⟨_, h⟩ | ⟨h, _⟩
      · have := least_short V Vm (by rw [hk, hcm]) h
        exact ⟨.inr ⟨rfl, h.1, by omega, h.2.1⟩, by omega⟩
      · cases h
    | false =>
      have h := toldF_no V Vm (by rw [hk, hcm]) hT
      rcases hT with ⟨h', _⟩ | ⟨_, rfl, _⟩
      · cases h'
      · exact ⟨.inl ⟨rfl, h⟩, by simp⟩
  obtain ⟨W, cw, rfl, hSw⟩ := hBw.slok (L' := lk [g]) (Mem.le.refl _) (fun b o ⟨x, hx, _⟩ => by cases hx) (by omega)
  simp -implicitDefEqProofs only [go_sem, Nat.reduceBEq, Nat.reduceAdd, Nat.reduceSub, Nat.reduceMul, Nat.reduceLeDiff, reduceCtorEq, ↓reduceIte, Int.reduceLT, Int.reduceLE, Int.reduceEq, Int.reduceNe]
  refine Up.here ?_
  subst hR
  exact ⟨g, !b, w, W, cw, rfl, rfl, hSw.mono (lk_sub fun y hy => by simp at hy; subst hy; simp), by omega, hrel.1⟩
def lenL (w : List Int) : Bool := decide (w.length = 1)
theorem lt_len (Γr : Ctx) (k : Nat) : MemOk Γr (.func (.func 90) #[] #[]) k lenL := by
  refine ⟨90, _, _, rfl, fun Γ w W c _ hw _ _ => ?_⟩
  generalize hR : (fun (v : Value) (Γ : Ctx) => Γ = [] ∧ _) = R
  refine ret_of_vc tr90 (Nat.le_of_ble_eq_true rfl) ?_
  simp -implicitDefEqProofs only [S90, S90_0, go_sem, Nat.reduceBEq, Nat.reduceAdd, Nat.reduceSub, Nat.reduceMul, Nat.reduceLeDiff, reduceCtorEq, ↓reduceIte, Int.reduceLT, Int.reduceLE, Int.reduceEq, Int.reduceNe]
  refine Up.here ?_
  subst hR
  refine ⟨rfl, ?_⟩
  unfold lenL
  congr 1
  have : ((w.length : Int) = 1) ↔ (w.length = 1) := by omega
  simp [this]
theorem lt_none (Γr : Ctx) (k : Nat) : MemOk Γr (.func (.func 93) #[] #[]) k (fun _ => false) := by
  refine ⟨93, _, _, rfl, fun Γ w W c _ hw _ _ => ?_⟩
  generalize hR : (fun (v : Value) (Γ : Ctx) => Γ = [] ∧ _) = R
  refine ret_of_vc tr93 (Nat.le_of_ble_eq_true rfl) ?_
  simp -implicitDefEqProofs only [S93, S93_0, go_sem, Nat.reduceBEq, Nat.reduceAdd, Nat.reduceSub, Nat.reduceMul, Nat.reduceLeDiff, reduceCtorEq, ↓reduceIte, Int.reduceLT, Int.reduceLE, Int.reduceEq, Int.reduceNe]
  refine Up.here ?_
  subst hR
  exact ⟨rfl, rfl⟩
theorem lt_ends {Γr : Ctx} {p : Nat} {x : Da} (V : VD x) {A B : Option Addr} {c e : Nat} {T : TypeId} (hp : lk Γr p (.cells [.int .i64 x.st, .slice A x.ac.length c, .slice B x.nx.length e].toArray T (0, 0))) (hA : SlOk (lk Γr) A c x.ac) (hB : SlOk (lk Γr) B e x.nx) :
    MemOk Γr (.func (.func 95) #[] #[.pointer (some ⟨p, 0, none⟩)]) (colsD x) (accL x) := by
  refine ⟨95, _, _, rfl, fun Γ w W c' hle hw hok _ => ?_⟩
  generalize hR : (fun (v : Value) (Γ : Ctx) => Γ = [] ∧ _) = R
  refine ret_of_vc tr95 (Nat.le_of_ble_eq_true rfl) ?_
  simp -implicitDefEqProofs only [S95, S95_0, go_sem, Nat.reduceBEq, Nat.reduceAdd, Nat.reduceSub, Nat.reduceMul, Nat.reduceLeDiff, reduceCtorEq, ↓reduceIte, Int.reduceLT, Int.reduceLE, Int.reduceEq, Int.reduceNe]
  refine s_ld0 (cells_lk (by simpa using hle _ _ hp)) (by simp) (by simp) ?_
  simp -implicitDefEqProofs only [go_sem, Nat.reduceBEq, Nat.reduceAdd, Nat.reduceSub, Nat.reduceMul, Nat.reduceLeDiff, reduceCtorEq, ↓reduceIte, Int.reduceLT, Int.reduceLE, Int.reduceEq, Int.reduceNe]
  refine CallVC.read (Γ := []) (ref_ends (Γr := Γ) (hA.mono hle) (hB.mono hle) V hw hok) ?_
  rintro v Γ' ⟨rfl, rfl⟩
  simp -implicitDefEqProofs only [go_sem, Nat.reduceBEq, Nat.reduceAdd, Nat.reduceSub, Nat.reduceMul, Nat.reduceLeDiff, reduceCtorEq, ↓reduceIte, Int.reduceLT, Int.reduceLE, Int.reduceEq, Int.reduceNe]
  refine Up.here ?_
  subst hR
  exact ⟨rfl, by rw [ends_go]; rfl⟩
theorem law_learn {Γr : Ctx} {d : Da} {cs : List Value} (hd : Rep.ok (lk Γr) d cs) {n : Int} (hn : -9223372036854775808 ≤ n ∧ n ≤ 9223372036854775807) :
    Ret Try.prog 17 [.agg cs.toArray, .int .i64 n] Γr [] (fun v Γ => Γ = [] ∧ v = .bool true) := by
  obtain ⟨A, ca, B, cb, rfl, hA, hB⟩ := ok_da hd
  generalize hR : (fun (v : Value) (Γ : Ctx) => Γ = [] ∧ v = Value.bool true) = R
  refine ret_of_vc tr17 (Nat.le_of_ble_eq_true rfl) ?_
  simp -implicitDefEqProofs only [S17, S17_0, go_sem, Nat.reduceBEq, Nat.reduceAdd, Nat.reduceSub, Nat.reduceMul, Nat.reduceLeDiff, reduceCtorEq, ↓reduceIte, Int.reduceLT, Int.reduceLE, Int.reduceEq, Int.reduceNe]
  intro p b1 b2 b3 b4 b5
  have hp : (one p (.cells [.int .i64 d.st, .slice A d.ac.length ca, .slice B d.nx.length cb].toArray 67)) p = some (.cells [.int .i64 d.st, .slice A d.ac.length ca, .slice B d.nx.length cb].toArray 67 (0, 0)) := one_self _ _
  have hS1 : SlOk (lk [one b1 (.cells #[.int .i64 (-1), .int .i64 0] 3)]) (some ⟨b1, 0, none⟩) 2 oneD.ac := lit_rep2 (T := 3) (cs := [.int .i64 (-1)]) (ds := [.int .i64 0]) (-1 : Int) (0 : Int) ⟨_, by simp, one_self _ _⟩ rfl rfl rfl
  have hS2 : SlOk (lk [one b4 (.cells #[.slice (some ⟨b2, 0, none⟩) 1 1, .slice (some ⟨b3, 0, none⟩) 1 1] 29), one b3 (.cells #[.int .i64 (-1)] 3), one b2 (.cells #[.int .i64 1] 3)]) (some ⟨b4, 0, none⟩) 2 oneD.nx := by
    refine lit_rep2 (T := 29) (cs := [.slice (some ⟨b2, 0, none⟩) 1 1]) (ds := [.slice (some ⟨b3, 0, none⟩) 1 1]) [1] [-1] ⟨_, List.mem_cons_self .., one_self _ _⟩ rfl ⟨_, _, rfl, ?_⟩ ⟨_, _, rfl, ?_⟩
    · exact lit_rep1 (T := 3) (cs := [.int .i64 1]) (1 : Int) ⟨_, List.mem_cons_of_mem _ (List.mem_cons_of_mem _ (List.mem_cons_self ..)), one_self _ _⟩ rfl
    · exact lit_rep1 (T := 3) (cs := [.int .i64 (-1)]) (-1 : Int) ⟨_, List.mem_cons_of_mem _ (List.mem_cons_self ..), one_self _ _⟩ rfl
  revert hp hS1 hS2
  generalize one p _ = g0
  generalize one b1 _ = g1
  generalize one b2 _ = g2
  generalize one b3 _ = g3
  generalize one b4 _ = g4
  intro hp hS1 hS2
  refine s_storeV (ix := 0) rfl (one_self _ _) rfl rfl ?_
  have h5 : (upd (one b5 (.cells #[.int .i64 0, .slice none 0 0, .slice none 0 0] 67)) b5 (.cells (cellsV (.agg #[.int .i64 0, .slice (some ⟨b1, 0, none⟩) 2 2, .slice (some ⟨b4, 0, none⟩) 2 2])).toArray 67)) b5 = some (.cells [.int .i64 oneD.st, .slice (some ⟨b1, 0, none⟩) oneD.ac.length 2, .slice (some ⟨b4, 0, none⟩) oneD.nx.length 2].toArray 67 (0, 0)) := upd_self _ _ _
  revert h5
  generalize upd (one b5 _) b5 _ = g5
  intro h5
  simp -implicitDefEqProofs only [go_sem, Nat.reduceBEq, Nat.reduceAdd, Nat.reduceSub, Nat.reduceMul, Nat.reduceLeDiff, reduceCtorEq, ↓reduceIte, Int.reduceLT, Int.reduceLE, Int.reduceEq, Int.reduceNe]
  refine CallVC.read (learn_of (k := 1) (N := 3) (by omega) (lt_len _ 1) (lt_eq2 oneD_valid (p := b5) ⟨g5, by simp, h5⟩ (hS1.mono (lk_sub fun g hg => by simp at hg; subst hg; simp)) (hS2.mono (lk_sub fun g hg => by simp at hg; rcases hg with rfl | rfl | rfl <;> simp)) rfl (by decide)) (cls_congr (fun w hw => oneD_acc hw) (cls_auto oneD_valid)) (by omega)) ?_
  rintro v Γ' ⟨gr, r, e, A1, B1, c1, d1, rfl, rfl, hR1, hR2, hO⟩
  obtain ⟨rfl, hG, hN⟩ := of_auto oneD_valid rfl (fun w hw => oneD_acc hw) hO
  have hr : r = oneD := good_flat oneD_valid rfl (fun w hw => oneD_acc hw) hG hN oneD_min
  subst hr
  simp -implicitDefEqProofs only [go_sem, Nat.reduceBEq, Nat.reduceAdd, Nat.reduceSub, Nat.reduceMul, Nat.reduceLeDiff, reduceCtorEq, ↓reduceIte, Int.reduceLT, Int.reduceLE, Int.reduceEq, Int.reduceNe]
  intro b6
  refine s_ld (j := 2) (cells_lk ⟨g5, by simp, h5⟩) (by simp) (by simp) ?_
  simp -implicitDefEqProofs only [go_sem, Nat.reduceBEq, Nat.reduceAdd, Nat.reduceSub, Nat.reduceMul, Nat.reduceLeDiff, reduceCtorEq, ↓reduceIte, Int.reduceLT, Int.reduceLE, Int.reduceEq, Int.reduceNe]
  refine CallVC.read (equal_rows (hR2.mono (lk_sub fun g hg => by simp at hg; subst hg; simp)) (hS2.mono (lk_sub fun g hg => by simp at hg; rcases hg with rfl | rfl | rfl <;> simp))) ?_
  rintro v Γ' ⟨rfl, rfl⟩
  simp -implicitDefEqProofs only [decide_true, go_sem, Nat.reduceBEq, Nat.reduceAdd, Nat.reduceSub, Nat.reduceMul, Nat.reduceLeDiff, reduceCtorEq, ↓reduceIte, Int.reduceLT, Int.reduceLE, Int.reduceEq, Int.reduceNe]
  refine s_ld0 (cells_lk ⟨g0, by simp, hp⟩) (by simp) (by simp) ?_
  simp -implicitDefEqProofs only [go_sem, Nat.reduceBEq, Nat.reduceAdd, Nat.reduceSub, Nat.reduceMul, Nat.reduceLeDiff, reduceCtorEq, ↓reduceIte, Int.reduceLT, Int.reduceLE, Int.reduceEq, Int.reduceNe]
  refine CallVC.read (ref_right (hA.mono (lk_r _ _)) (hB.mono (lk_r _ _))) ?_
  rintro v Γ' ⟨rfl, rfl⟩
  simp -implicitDefEqProofs only [go_sem, Nat.reduceBEq, Nat.reduceAdd, Nat.reduceSub, Nat.reduceMul, Nat.reduceLeDiff, reduceCtorEq, ↓reduceIte, Int.reduceLT, Int.reduceLE, Int.reduceEq, Int.reduceNe]
  refine ⟨fun hbad => ?_, fun hgood => ?_⟩
  · have h1 := Int.tmod_lt_of_pos n (b := 40) (by omega)
    have h2 := Int.lt_tmod_of_pos n (b := 40) (by omega)
    rw [show idivV .rem .i64 n 40 = .int .i64 (n.tmod 40) from rfl]
    generalize n.tmod 40 = k at h1 h2
    intro b7 b8 b9
    refine s_storeV (ix := 0) rfl (one_self _ _) rfl rfl ?_
    have h9 : (upd (one b9 (.cells #[.int .i64 0, .slice none 0 0, .slice none 0 0] 67)) b9 (.cells (cellsV (.agg #[.int .i64 0, .slice (some ⟨b7, 0, none⟩) 1 1, .slice (some ⟨b8, 0, none⟩) 1 1])).toArray 67)) b9 = some (.cells [.int .i64 0, .slice (some ⟨b7, 0, none⟩) 1 1, .slice (some ⟨b8, 0, none⟩) 1 1].toArray 67 (0, 0)) := upd_self _ _ _
    have h8 : (one b8 (.cells #[.slice none 0 0] 29)) b8 = some (.cells [.slice none 0 0].toArray 29 (0, 0)) := one_self _ _
    have h7 : SlOk (lk [one b7 (.cells #[.int .i64 (-1)] 3)]) (some ⟨b7, 0, none⟩) 1 [(-1 : Int)] := lit_rep1 (T := 3) (cs := [.int .i64 (-1)]) (-1 : Int) ⟨_, by simp, one_self _ _⟩ rfl
    revert h9 h8 h7
    generalize upd (one b9 _) b9 _ = g9
    generalize one b8 _ = g8
    generalize one b7 _ = g7
    intro h9 h8 h7
    simp -implicitDefEqProofs only [go_sem, Nat.reduceBEq, Nat.reduceAdd, Nat.reduceSub, Nat.reduceMul, Nat.reduceLeDiff, reduceCtorEq, ↓reduceIte, Int.reduceLT, Int.reduceLE, Int.reduceEq, Int.reduceNe]
    refine s_loop (fun f vs Γ => ∃ (i : Nat) (va : Value) (gv g8 : PH), vs = [.v true (.int .i64 i)] ∧ i + f = k.toNat ∧ Γ = [gv, g8, g9, g7, gr, g5, g4, g3, g2, g1, g0] ∧ Bld gv (lk []) 3 va (List.replicate i (-1 : Int)) ∧ g8 b8 = some (.cells [va].toArray 29 (0, 0))) k.toNat
      (Up.emp (Up.to [V.emp, g8, g9, g7, gr, g5, g4, g3, g2, g1, g0] (Ent.cons _ (Ent.perm (List.Perm.swap ..))) ⟨0, _, _, g8, rfl, by omega, rfl, Bld.nil _ _ _, h8⟩)) ?_
    rintro f vs Γ ⟨i, va, gv, g8, rfl, hif, rfl, hBv, h8⟩
    obtain ⟨Av, cv, rfl⟩ := hBv.val
    rw [List.length_replicate] at h8 hBv
    simp -implicitDefEqProofs only [S17_1, go_sem, Nat.reduceBEq, Nat.reduceAdd, Nat.reduceSub, Nat.reduceMul, Nat.reduceLeDiff, reduceCtorEq, ↓reduceIte, Int.reduceLT, Int.reduceLE, Int.reduceEq, Int.reduceNe]
    refine ⟨fun hlt => ?_, fun hge => ?_⟩
    · refine s_drawn [gv, g8] [g9, g7, gr, g5, g4, g3, g2, g1, g0] (Ent.refl _) ?_
      simp -implicitDefEqProofs only [go_sem, Nat.reduceBEq, Nat.reduceAdd, Nat.reduceSub, Nat.reduceMul, Nat.reduceLeDiff, reduceCtorEq, ↓reduceIte, Int.reduceLT, Int.reduceLE, Int.reduceEq, Int.reduceNe]
      refine s_ld (j := 2) (cells_lk ⟨g9, by simp, h9⟩) (by simp) (by simp) ?_
      simp -implicitDefEqProofs only [go_sem, Nat.reduceBEq, Nat.reduceAdd, Nat.reduceSub, Nat.reduceMul, Nat.reduceLeDiff, reduceCtorEq, ↓reduceIte, Int.reduceLT, Int.reduceLE, Int.reduceEq, Int.reduceNe]
      refine s_ld (j := 2) (cells_lk ⟨g9, by simp, h9⟩) (by simp) (by simp) ?_
      simp -implicitDefEqProofs only [go_sem, Nat.reduceBEq, Nat.reduceAdd, Nat.reduceSub, Nat.reduceMul, Nat.reduceLeDiff, reduceCtorEq, ↓reduceIte, Int.reduceLT, Int.reduceLE, Int.reduceEq, Int.reduceNe]
      refine s_idx rfl (by decide) (by decide) ?_
      simp -implicitDefEqProofs only [go_sem, Nat.reduceBEq, Nat.reduceAdd, Nat.reduceSub, Nat.reduceMul, Nat.reduceLeDiff, reduceCtorEq, ↓reduceIte, Int.reduceLT, Int.reduceLE, Int.reduceEq, Int.reduceNe]
      refine s_ld0 (cells_lk ⟨g8, by simp, h8⟩) (by simp) (by simp) ?_
      simp -implicitDefEqProofs only [go_sem, Nat.reduceBEq, Nat.reduceAdd, Nat.reduceSub, Nat.reduceMul, Nat.reduceLeDiff, reduceCtorEq, ↓reduceIte, Int.reduceLT, Int.reduceLE, Int.reduceEq, Int.reduceNe]
      intro b10
      refine s_app1S (α := Int) (ix := 1) (-1) rfl hBv cells_one rfl (by rw [List.length_replicate]; omega) (by rw [List.length_replicate]; unfold maxLen; omega) ?_
      intro va' gv' hBv' _
      rw [← List.replicate_succ'] at hBv'
      obtain ⟨Av', cv', rfl⟩ := hBv'.val
      simp -implicitDefEqProofs only [go_sem, Nat.reduceBEq, Nat.reduceAdd, Nat.reduceSub, Nat.reduceMul, Nat.reduceLeDiff, reduceCtorEq, ↓reduceIte, Int.reduceLT, Int.reduceLE, Int.reduceEq, Int.reduceNe]
      refine s_idx rfl (by decide) (by decide) ?_
      simp -implicitDefEqProofs only [go_sem, Nat.reduceBEq, Nat.reduceAdd, Nat.reduceSub, Nat.reduceMul, Nat.reduceLeDiff, reduceCtorEq, ↓reduceIte, Int.reduceLT, Int.reduceLE, Int.reduceEq, Int.reduceNe]
      refine s_storeF (ix := 2) (o := 0) (n := 1) rfl h8 (by simp) ?_
      simp -implicitDefEqProofs only [go_sem, Nat.reduceBEq, Nat.reduceAdd, Nat.reduceSub, Nat.reduceMul, Nat.reduceLeDiff, reduceCtorEq, ↓reduceIte, Int.reduceLT, Int.reduceLE, Int.reduceEq, Int.reduceNe]
      simp (disch := omega) only [wrap_id]
      refine ⟨f - 1, by omega, Up.skip (Up.here ⟨i + 1, _, gv', _, rfl, by omega, rfl, hBv', upd_self _ _ _⟩)⟩
    · by_cases hk : k < 1 ∨ 16 < k
      · refine CallVC.read (learn_of_bad hk _ _) ?_
        rintro v Γ' ⟨rfl, rfl⟩
        simp -implicitDefEqProofs only [go_sem, Nat.reduceBEq, Nat.reduceAdd, Nat.reduceSub, Nat.reduceMul, Nat.reduceLeDiff, reduceCtorEq, ↓reduceIte, Int.reduceLT, Int.reduceLE, Int.reduceEq, Int.reduceNe]
        refine fun b => ⟨fun _ => Up.to [] (Ent.nil _) ?_, fun h => absurd hk (by omega)⟩
        subst hR
        exact ⟨rfl, rfl⟩
      · obtain ⟨m, rfl⟩ : ∃ m : Nat, k = m := ⟨k.toNat, by omega⟩
        have hm : 1 ≤ m ∧ m ≤ 16 := by omega
        have hi : i = m := by omega
        subst hi
        obtain ⟨Aw, cw, ew, hSw⟩ := hBv.slok (L' := lk [gv]) (Mem.le.refl _) (fun b o ⟨x, hx, _⟩ => by cases hx) (by simp; omega)
        rw [List.length_replicate] at ew
        simp only [Value.slice.injEq, true_and] at ew
        obtain ⟨rfl, rfl⟩ := ew
        have hS8 : SlOk (lk [gv, g8]) (some ⟨b8, 0, none⟩) 1 (noneD i).nx := by
          refine lit_rep1 (T := 29) (cs := [.slice Av i cv]) (List.replicate i (-1)) ⟨g8, by simp, h8⟩ ⟨_, _, by rw [List.length_replicate], hSw.mono (lk_sub (by simp))⟩
        have hL : ∀ w, okK i w → false = accL (noneD i) w := fun w hw => noneD_acc hm hw
        refine CallVC.read (learn_of (k := i) (N := 2) hm (lt_none _ i) (lt_eq4 (noneD_valid hm) (p := b9) ⟨g9, by simp, h9⟩ (h7.mono (lk_sub fun g hg => by simp at hg; subst hg; simp)) (hS8.mono (lk_sub fun g hg => by simp at hg; rcases hg with rfl | rfl <;> simp)) (noneD_cols i) (by simp [noneD])) (cls_congr hL (by have := cls_auto (noneD_valid hm); rwa [noneD_cols] at this)) (by omega)) ?_
        rintro v Γ' ⟨g10, r, e, A3, B3, c3, d3, rfl, rfl, hN1, hN2, hO2⟩
        obtain ⟨rfl, hG2, hN2⟩ := of_auto (noneD_valid hm) (noneD_cols i) hL hO2
        have hr : r = noneD i := good_flat (noneD_valid hm) (noneD_cols i) hL hG2 hN2 (noneD_min hm)
        subst hr
        have hn1 : (noneD i).nx.length = 1 := rfl
        have ha1 : (noneD i).ac.length = 1 := rfl
        simp -implicitDefEqProofs only [hn1, ha1, go_sem, Nat.reduceBEq, Nat.reduceAdd, Nat.reduceSub, Nat.reduceMul, Nat.reduceLeDiff, reduceCtorEq, ↓reduceIte, Int.reduceLT, Int.reduceLE, Int.reduceEq, Int.reduceNe]
        refine fun b11 => ⟨fun h => absurd h (by omega), fun _ => ?_⟩
        obtain ⟨b12, o12, hA12, hc12⟩ := hN1.int (i := 0) (by rw [ha1]; omega)
        refine s_idx hA12 (by decide) (by decide) ?_
        simp -implicitDefEqProofs only [go_sem, Nat.reduceBEq, Nat.reduceAdd, Nat.reduceSub, Nat.reduceMul, Nat.reduceLeDiff, reduceCtorEq, ↓reduceIte, Int.reduceLT, Int.reduceLE, Int.reduceEq, Int.reduceNe]
        refine s_ld0 (hc12 _ (lk_sub fun g hg => by simp at hg; subst hg; simp)) (by simp) (by simp) ?_
        simp -implicitDefEqProofs only [go_sem, Nat.reduceBEq, Nat.reduceAdd, Nat.reduceSub, Nat.reduceMul, Nat.reduceLeDiff, reduceCtorEq, ↓reduceIte, Int.reduceLT, Int.reduceLE, Int.reduceEq, Int.reduceNe]
        refine Up.to [] (Ent.nil _) ?_
        subst hR
        exact ⟨rfl, rfl⟩
  · have V := dfF_ok hgood
    have hlen := V.len
    have hst := V.st
    have hac := V.acc
    refine s_ld (j := 2) (cells_lk ⟨g0, by simp, hp⟩) (by simp) (by simp) ?_
    simp -implicitDefEqProofs only [go_sem, Nat.reduceBEq, Nat.reduceAdd, Nat.reduceSub, Nat.reduceMul, Nat.reduceLeDiff, reduceCtorEq, ↓reduceIte, Int.reduceLT, Int.reduceLE, Int.reduceEq, Int.reduceNe]
    refine ⟨fun hbig => Up.to [] (Ent.nil _) ?_, fun hsmall => ?_⟩
    · subst hR
      simp
    obtain ⟨b7, o7, hB7, A7, c7, hr7, hc7⟩ := hB.list (i := 0) (by omega)
    rw [cols_at (by omega)] at hc7
    have hcol := V.cols
    refine s_ld (j := 2) (cells_lk ⟨g0, by simp, hp⟩) (by simp) (by simp) ?_
    simp -implicitDefEqProofs only [go_sem, Nat.reduceBEq, Nat.reduceAdd, Nat.reduceSub, Nat.reduceMul, Nat.reduceLeDiff, reduceCtorEq, ↓reduceIte, Int.reduceLT, Int.reduceLE, Int.reduceEq, Int.reduceNe]
    refine s_idx hB7 (by omega) (by omega) ?_
    simp -implicitDefEqProofs only [go_sem, Nat.reduceBEq, Nat.reduceAdd, Nat.reduceSub, Nat.reduceMul, Nat.reduceLeDiff, reduceCtorEq, ↓reduceIte, Int.reduceLT, Int.reduceLE, Int.reduceEq, Int.reduceNe]
    refine s_ld0 (by simpa using hc7 _ (lk_r [gr, g5, g4, g3, g2, g1, g0] _)) (by simp) (by simp) ?_
    simp -implicitDefEqProofs only [go_sem, Nat.reduceBEq, Nat.reduceAdd, Nat.reduceSub, Nat.reduceMul, Nat.reduceLeDiff, reduceCtorEq, ↓reduceIte, Int.reduceLT, Int.reduceLE, Int.reduceEq, Int.reduceNe]
    refine CallVC.read (learn_of (k := colsD d) (N := d.nx.length + 1) (by omega) (lt_ends V (p := p) ⟨g0, by simp, hp⟩ (hA.mono (lk_r _ _)) (hB.mono (lk_r _ _))) (lt_eq6 V (p := p) ⟨g0, by simp, hp⟩ (hA.mono (lk_r _ _)) (hB.mono (lk_r _ _)) rfl (by omega)) (cls_auto V) (by omega)) ?_
    rintro v Γ' ⟨gx, x, e, A2, B2, c2, d2, rfl, rfl, hX1, hX2, hO⟩
    obtain ⟨rfl, hG, hN⟩ := of_auto V rfl (fun w _ => rfl) hO
    obtain ⟨Vx, _, _, hxst⟩ := hG.valid
    simp -implicitDefEqProofs only [go_sem, Nat.reduceBEq, Nat.reduceAdd, Nat.reduceSub, Nat.reduceMul, Nat.reduceLeDiff, reduceCtorEq, ↓reduceIte, Int.reduceLT, Int.reduceLE, Int.reduceEq, Int.reduceNe]
    intro b8
    refine s_ld0 (cells_lk ⟨g0, by simp, hp⟩) (by simp) (by simp) ?_
    simp -implicitDefEqProofs only [go_sem, Nat.reduceBEq, Nat.reduceAdd, Nat.reduceSub, Nat.reduceMul, Nat.reduceLeDiff, reduceCtorEq, ↓reduceIte, Int.reduceLT, Int.reduceLE, Int.reduceEq, Int.reduceNe]
    refine s_ld (j := 2) (cells_lk ⟨g0, by simp, hp⟩) (by simp) (by simp) ?_
    simp -implicitDefEqProofs only [go_sem, Nat.reduceBEq, Nat.reduceAdd, Nat.reduceSub, Nat.reduceMul, Nat.reduceLeDiff, reduceCtorEq, ↓reduceIte, Int.reduceLT, Int.reduceLE, Int.reduceEq, Int.reduceNe]
    intro b9
    refine s_ld (j := 1) (cells_lk ⟨g0, by simp, hp⟩) (by simp) (by simp) ?_
    simp -implicitDefEqProofs only [go_sem, Nat.reduceBEq, Nat.reduceAdd, Nat.reduceSub, Nat.reduceMul, Nat.reduceLeDiff, reduceCtorEq, ↓reduceIte, Int.reduceLT, Int.reduceLE, Int.reduceEq, Int.reduceNe]
    refine s_loop (fun f vs Γ => ∃ (i bb : Nat) (va : Value) (gf : PH), vs = [.box bb 67 [.int .i64 d.st, va, .slice B d.nx.length cb], .v true (.int .i64 i)] ∧ i + f = d.ac.length ∧ Γ = [gf, gx, gr, g5, g4, g3, g2, g1, g0] ∧ Bld gf (lk []) 3 va ((d.ac.take i).map fun k => min k 0)) d.ac.length
      (Up.emp (Up.here ⟨0, b9, _, _, rfl, by omega, rfl, by simpa using Bld.nil _ _ _⟩)) ?_
    rintro f vs Γ ⟨i, bb, va, gf, rfl, hif, rfl, hBf⟩
    obtain ⟨Af, cf, rfl⟩ := hBf.val
    have hfl : ((d.ac.take i).map fun k => min k 0).length ≤ i := by simp; omega
    simp -implicitDefEqProofs only [S17_2, go_sem, Nat.reduceBEq, Nat.reduceAdd, Nat.reduceSub, Nat.reduceMul, Nat.reduceLeDiff, reduceCtorEq, ↓reduceIte, Int.reduceLT, Int.reduceLE, Int.reduceEq, Int.reduceNe]
    refine ⟨fun hlt => ?_, fun hge => ?_⟩
    · have hi : i < d.ac.length := by omega
      obtain ⟨b10, o10, hA10, hc10⟩ := hA.int hi
      have htk : (d.ac.take (i + 1)).map (fun k => min k 0) = (d.ac.take i).map (fun k => min k 0) ++ [min d.ac[i] 0] := by
        rw [List.take_succ_eq_append_getElem hi, List.map_append]
        rfl
      refine s_idx hA10 (by omega) (by omega) ?_
      simp -implicitDefEqProofs only [go_sem, Nat.reduceBEq, Nat.reduceAdd, Nat.reduceSub, Nat.reduceMul, Nat.reduceLeDiff, reduceCtorEq, ↓reduceIte, Int.reduceLT, Int.reduceLE, Int.reduceEq, Int.reduceNe]
      refine s_ld0 (hc10 _ (lk_r _ _)) (by simp) (by simp) ?_
      simp -implicitDefEqProofs only [go_sem, Nat.reduceBEq, Nat.reduceAdd, Nat.reduceSub, Nat.reduceMul, Nat.reduceLeDiff, reduceCtorEq, ↓reduceIte, Int.reduceLT, Int.reduceLE, Int.reduceEq, Int.reduceNe]
      have hmin : (if (0 : Int) < d.ac[i] then 0 else d.ac[i]) = min d.ac[i] 0 := by omega
      rw [hmin]
      intro b11
      refine s_app1S (α := Int) (ix := 1) (min d.ac[i] 0) rfl hBf cells_one rfl (by omega) (by unfold maxLen; omega) ?_
      intro va' gf' hBf' _
      obtain ⟨Ag, cg, rfl⟩ := hBf'.val
      simp -implicitDefEqProofs only [go_sem, Nat.reduceBEq, Nat.reduceAdd, Nat.reduceSub, Nat.reduceMul, Nat.reduceLeDiff, reduceCtorEq, ↓reduceIte, Int.reduceLT, Int.reduceLE, Int.reduceEq, Int.reduceNe]
      simp (disch := omega) only [wrap_id]
      exact ⟨f - 1, by omega, Up.skip (Up.here ⟨i + 1, bb, _, gf', rfl, by omega, rfl, by rw [htk]; exact hBf'⟩)⟩
    · have hi : i = d.ac.length := by omega
      rw [hi, List.take_length] at hBf ⊢
      obtain ⟨Af1, cf1, ef, hSf⟩ := hBf.slok (L' := lk [gf]) (Mem.le.refl _) (fun b o ⟨x, hx, _⟩ => by cases hx) (by simp; omega)
      simp only [Value.slice.injEq, true_and] at ef
      obtain ⟨rfl, rfl⟩ := ef
      have hok : ∀ x ∈ (flatD d).ac, okI x := fun x hx => by
        obtain ⟨y, hy, rfl⟩ := List.mem_map.1 hx
        have := V.ac y hy
        exact wf64 (by omega) (by omega)
      refine CallVC.read (mini_min (d := flatD d) hok (A := Af) (c := cf) (B := B) (e := cb) (hSf.mono (lk_sub fun g hg => by simp at hg; subst hg; simp)) (hB.mono (lk_r _ _))) ?_
      rintro v Γ' (⟨h, _⟩ | ⟨_, gy, y, A4, c4, B4, d4, rfl, rfl, hY1, hY2, hM⟩)
      · exact absurd (flat_valid V).zero h
      have hxy : x = y := good_flat V rfl (fun w _ => rfl) hG hN hM
      subst hxy
      simp -implicitDefEqProofs only [go_sem, Nat.reduceBEq, Nat.reduceAdd, Nat.reduceSub, Nat.reduceMul, Nat.reduceLeDiff, reduceCtorEq, ↓reduceIte, Int.reduceLT, Int.reduceLE, Int.reduceEq, Int.reduceNe]
      intro b12
      refine CallVC.read (slices_equal (hX1.mono (lk_sub fun g hg => by simp at hg; subst hg; simp)) (hY1.mono (lk_sub fun g hg => by simp at hg; subst hg; simp))) ?_
      rintro v Γ' ⟨rfl, rfl⟩
      simp -implicitDefEqProofs only [decide_true, go_sem, Nat.reduceBEq, Nat.reduceAdd, Nat.reduceSub, Nat.reduceMul, Nat.reduceLeDiff, reduceCtorEq, ↓reduceIte, Int.reduceLT, Int.reduceLE, Int.reduceEq, Int.reduceNe]
      refine CallVC.read (equal_rows (hX2.mono (lk_sub fun g hg => by simp at hg; subst hg; simp)) (hY2.mono (lk_sub fun g hg => by simp at hg; rcases hg with rfl | rfl <;> simp))) ?_
      rintro v Γ' ⟨rfl, rfl⟩
      simp -implicitDefEqProofs only [decide_true, go_sem, Nat.reduceBEq, Nat.reduceAdd, Nat.reduceSub, Nat.reduceMul, Nat.reduceLeDiff, reduceCtorEq, ↓reduceIte, Int.reduceLT, Int.reduceLE, Int.reduceEq, Int.reduceNe]
      refine Up.to [] (Ent.nil _) ?_
      subst hR
      simp
end Go.Proofs.Ytniobbepliknmaa.V
