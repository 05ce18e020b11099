/- Texts put together, in the order in which they build; each says what it proves; no condition. -/
import Derived.Test.YtniobbepliknmaaM3
import Derived.Test.YtniobbepliknmaaM4
import Derived.Test.YtniobbepliknmaaM2
import Derived.Test.YtniobbepliknmaaProg
import Derived.ChangeKeysEq
/- Functions of package slices on whole numbers walked: Clone, Concat, Index, Contains, ContainsFunc; no condition. -/
namespace Go.Proofs.Ytniobbepliknmaa.V
open Go
set_option linter.unusedVariables false
set_option linter.unusedSimpArgs false
attribute [local go_sem] e_seq e_region e_quiet e_join e_loop e_cond e_block e_exit e_ret e_skip e_fin e_kseq e_snrm e_sret e_sex e_bnrm e_bret e_bex e_rnrm e_rret e_res e_condC e_nil e_g e_mv g_mv e_pick g_pick pickC_eq e_ibin g_ibin ibinC_eq e_sbin g_sbin e_beq g_beq beqC_eq e_nilq g_nilq nilqC_sl nilqC_pt nilqC_mp e_un g_un unC_not unC_neg e_conv g_conv convC_eq e_fld g_fld fldC_ref fldC_ptr e_nilCheck g_nilCheck nilCheckC_ref nilCheckC_ptr nilCheckC_fun e_field g_field fieldC_eq e_len g_len lenC_sl lenC_str e_extract g_extract extractC_eq e_mkFunc e_build g_build e_idiv g_idiv idivC_eq e_ishift g_ishift ishiftC_eq e_idx g_idx e_idxA g_idxA e_load g_load e_loadB g_loadB atB_ref atB_v g_mkFunc loadC_ref loadC_ptr loadB_eq e_slc g_slc e_box boxC_loc boxC_esc e_alloc allocC_loc allocC_esc e_buildS e_store storeC_ref storeC_ptr storeB_eq e_append e_appz e_mk mkC_eq e_call callC_eq e_fn g_fn fnC_eq fnV_min' fnV_max' fnV_rune' e_q g_q e_a e_n g_call g_box g_alloc g_buildS g_store g_append g_mk g_a g_n g_dead e_dead e_callK e_drawn e_tree e_finJ e_tk e_tfin e_tno e_nbt_q e_nbt_qn e_nbt_a e_nbt_an e_nbt_fin e_drawnB e_bxb_nil e_bxb e_stB_none e_stB_some boxSt_store bs_mv bs_pick bs_ibin bs_idiv bs_ishift bs_sbin bs_beq bs_nilq bs_un bs_conv bs_box bs_alloc bs_build bs_buildS bs_load bs_fld bs_nilCheck bs_idx bs_idxA bs_field bs_slc bs_len bs_append bs_appz bs_mk bs_call bs_extract bs_mkFunc bs_fn bs_q bs_a bs_n bs_loadB bs_dead isBox_box e_early_nil e_early_t e_early_f e_nob_nil e_nob_none e_nob_some isBox_dead isBox_v isBox_ref e_dnil e_dk e_ek e_finB vcOps_vc1 e_dcons e_tq e_ekt e_tearly e_talt e_dearly look_nil look_c proj_nil proj_c looks_nil looks_c zip_nil zip_c val_tmp val_const val_func slv_v slv_box slv_ref slot_tmp slot_const slot_func slotL_v slotL_box slotL_ref put_some put_none updBox_c boxSet_box gd_eq slotVals_nil slotVals_c slotVals_b boxV_box boxOn_box slotsOn_nil slotsOn_c slotsOn_b resV_one resV_two vals_nil vals_c allOn_nil allOn_c partOn_nil partOn_c partVals_nil partVals_c fits_nil fits_c fillL_nil fillL_c mkv_one mkv_agg cellsV_agg cellsV_int cellsV_bool cellsV_slice cellsV_string cellsV_pointer cellsV_func cellsV_nilf cellsV_map one'_nil one'_c oc_int oc_bool oc_slice oc_string oc_pointer oc_func oc_nilf oc_map setC_eq iv_add iv_sub iv_mul iv_eql iv_neq iv_lss iv_leq iv_gtr iv_geq iok_add iok_sub iok_mul iok_eql iok_neq iok_lss iok_leq iok_gtr iok_geq pickV_bool args0_nil args0_c bnd_none bnd_some imp_bt imp_bf imp_ebt imp_ebf imp_eb1 imp_np imp_pp beq_tt beq_tf beq_ft beq_ff cond_or cond_and e_round e_meet Int.le_refl Int.toNat_zero decide_true decide_false Bool.or_false Bool.false_or Bool.true_or Bool.or_true Bool.and_false Bool.false_and Bool.bne_false Bool.bne_true beq_iff_eq Int.cast_ofNat_Int not_false_eq_true not_true_eq_false false_and and_false false_implies true_implies true_and and_true Bool.true_and Bool.and_true Bool.not_true Bool.not_false forall_const implies_true List.take_zero List.drop_zero List.take_succ_cons List.drop_succ_cons List.take_nil List.drop_nil List.length_cons List.length_nil List.nil_append List.append_nil List.cons_append Int.toNat_natCast decide_eq_true_eq decide_eq_false_iff_not cond_true cond_false and_self List.getElem?_cons_zero List.getElem?_cons_succ List.set_cons_zero List.set_cons_succ Option.some.injEq exists_eq_left' Nat.zero_add Nat.add_zero Nat.mul_one imp_self true_or or_true or_false false_or Bool.or_eq_true Bool.or_eq_false_iff Bool.and_eq_true Bool.and_eq_false_iff Bool.not_eq_true' Bool.not_eq_false'

theorem slices_clone {Γr : Ctx} {A : Option Addr} {c : Nat} {xs : List Int} (hx : SlOk (lk Γr) A c xs) (hs : xs.length ≤ 1048576) :
    Ret Try.prog 111 [.slice A xs.length c] Γr [] (fun v Γ => ∃ g, Γ = [g] ∧ Bld g (lk []) 3 v xs) := by
  generalize hR : (fun (v : Value) (Γ : Ctx) => ∃ g, _) = R
  refine ret_of_vc1 tr111 (Nat.le_of_ble_eq_true rfl) ?_
  simp only [S111, S111_0, go_sem, Nat.reduceBEq, Nat.reduceAdd, Nat.reduceSub, Nat.reduceMul, Nat.reduceLeDiff, reduceCtorEq, ↓reduceIte, Int.reduceLT, Int.reduceLE, Int.reduceEq, Int.reduceNe]
  refine ⟨fun hn => Up.here ?_, fun hn => ?_⟩
  · have : A = none := by simpa using hn
    subst this
    have := hx.ofNone
    subst this
    subst hR
    exact ⟨_, rfl, Bld.nil _ _ _⟩
  · intro b
    refine s_appS (α := Int) (xs := []) (ix := 1) (L := lk []) rfl ⟨[], ⟨rfl, .inl ⟨rfl, _, rfl⟩⟩, by simp⟩ hx rfl (lk_r _ _) rfl (by simp; omega) (by simp [maxLen]; omega) ?_
    intro v g hB _
    simp only [go_sem, Nat.reduceBEq, Nat.reduceAdd, Nat.reduceSub, Nat.reduceMul, Nat.reduceLeDiff, reduceCtorEq, ↓reduceIte, Int.reduceLT, Int.reduceLE, Int.reduceEq, Int.reduceNe]
    refine Up.sel [[1]] (by decide) fun _ _ => ?_
    subst hR
    exact ⟨_, rfl, hB⟩

theorem slices_index {Γr : Ctx} {A : Option Addr} {c : Nat} {xs : List Int} (hx : SlOk (lk Γr) A c xs) (x : Int) :
    Ret Try.prog 107 [.slice A xs.length c, .int .i64 x] Γr [] (fun v Γ => Γ = [] ∧ v = .int .i64 (match xs.findIdx? (· == x) with | some i => (i : Int) | none => -1)) := by
  generalize hR : (fun (v : Value) (Γ : Ctx) => Γ = [] ∧ _) = R
  refine ret_of_vc tr107 (Nat.le_of_ble_eq_true rfl) ?_
  have h1 := hx.short
  simp only [S107, S107_0, go_sem, Nat.reduceBEq, Nat.reduceAdd, Nat.reduceSub, Nat.reduceMul, Nat.reduceLeDiff, reduceCtorEq, ↓reduceIte, Int.reduceLT, Int.reduceLE, Int.reduceEq, Int.reduceNe]
  refine s_loop (fun f vs Γ => Γ = [] ∧ ∃ k : Nat, vs = [.v true (.int .i64 k)] ∧ k + f = xs.length ∧ ∀ (j : Nat) (hj : j < xs.length), j < k → xs[j] ≠ x) xs.length (Up.here ⟨rfl, 0, rfl, by omega, by intro j _ h; omega⟩) ?_
  rintro f vs Γ ⟨rfl, k, rfl, hkf, hno⟩
  simp only [S107_1, go_sem, Nat.reduceBEq, Nat.reduceAdd, Nat.reduceSub, Nat.reduceMul, Nat.reduceLeDiff, reduceCtorEq, ↓reduceIte, Int.reduceLT, Int.reduceLE, Int.reduceEq, Int.reduceNe]
  refine ⟨fun hlt => ?_, fun hge => ?_⟩
  · have hk : k < xs.length := by omega
    obtain ⟨b, o, hA, hc1⟩ := hx.int hk
    refine s_idx hA (by omega) (by omega) ?_
    simp only [go_sem, Nat.reduceBEq, Nat.reduceAdd, Nat.reduceSub, Nat.reduceMul, Nat.reduceLeDiff, reduceCtorEq, ↓reduceIte, Int.reduceLT, Int.reduceLE, Int.reduceEq, Int.reduceNe]
    refine s_ld0 (hc1 _ (Mem.le.refl _)) (by simp) (by simp) ?_
    simp only [go_sem, Nat.reduceBEq, Nat.reduceAdd, Nat.reduceSub, Nat.reduceMul, Nat.reduceLeDiff, reduceCtorEq, ↓reduceIte, Int.reduceLT, Int.reduceLE, Int.reduceEq, Int.reduceNe]
    refine ⟨fun he => Up.here ?_, fun hne => ?_⟩
    · subst hR
      refine ⟨rfl, ?_⟩
      have : xs.findIdx? (· == x) = some k := by
        rw [List.findIdx?_eq_some_iff_getElem]
        exact ⟨hk, by simpa using he.symm, fun j hj => by simpa using hno j (by omega) hj⟩
      rw [this]
    · simp (disch := omega) only [wrap_id]
      exact ⟨f - 1, by omega, Up.here ⟨rfl, k + 1, rfl, by omega, fun j hj hjk => by
        by_cases e : j = k
        · subst e; exact fun q => hne q.symm
        · exact hno j hj (by omega)⟩⟩
  · have hk : k = xs.length := by omega
    refine Up.here ?_
    subst hR
    refine ⟨rfl, ?_⟩
    have : xs.findIdx? (· == x) = none := by
      rw [List.findIdx?_eq_none_iff]
      intro y hy
      obtain ⟨j, hj, rfl⟩ := List.getElem_of_mem hy
      simpa using hno j hj (by omega)
    rw [this]
theorem slices_contains {Γr : Ctx} {A : Option Addr} {c : Nat} {xs : List Int} (hx : SlOk (lk Γr) A c xs) (x : Int) :
    Ret Try.prog 32 [.slice A xs.length c, .int .i64 x] Γr [] (fun v Γ => Γ = [] ∧ v = .bool (decide (x ∈ xs))) := by
  generalize hR : (fun (v : Value) (Γ : Ctx) => Γ = [] ∧ _) = R
  refine ret_of_vc tr32 (Nat.le_of_ble_eq_true rfl) ?_
  simp only [S32, S32_0, go_sem, Nat.reduceBEq, Nat.reduceAdd, Nat.reduceSub, Nat.reduceMul, Nat.reduceLeDiff, reduceCtorEq, ↓reduceIte, Int.reduceLT, Int.reduceLE, Int.reduceEq, Int.reduceNe]
  refine CallVC.read (slices_index hx x) ?_
  rintro v Γ' ⟨rfl, rfl⟩
  simp only [go_sem, Nat.reduceBEq, Nat.reduceAdd, Nat.reduceSub, Nat.reduceMul, Nat.reduceLeDiff, reduceCtorEq, ↓reduceIte, Int.reduceLT, Int.reduceLE, Int.reduceEq, Int.reduceNe]
  refine Up.here ?_
  subst hR
  refine ⟨rfl, ?_⟩
  cases hf : xs.findIdx? (· == x) with
  | none =>
    rw [List.findIdx?_eq_none_iff] at hf
    have : x ∉ xs := fun h => by have := hf x h; simp at this
    simp [this]
  | some i =>
    obtain ⟨hi, h1, _⟩ := List.findIdx?_eq_some_iff_getElem.1 hf
    have : x ∈ xs := by
      have : xs[i] = x := by simpa using h1
      rw [← this]
      exact List.getElem_mem _
    simp [this]
end Go.Proofs.Ytniobbepliknmaa.V
/- Components of a grammar: approx.kind, what lies under a nonterminal; no condition. -/
namespace Go.Proofs.Ytniobbepliknmaa.V
open Go
set_option linter.unusedVariables false
set_option linter.unusedSimpArgs false
attribute [local go_sem] e_seq e_region e_quiet e_join e_loop e_cond e_block e_exit e_ret e_skip e_fin e_kseq e_snrm e_sret e_sex e_bnrm e_bret e_bex e_rnrm e_rret e_res e_condC e_nil e_g e_mv g_mv e_pick g_pick pickC_eq e_ibin g_ibin ibinC_eq e_sbin g_sbin e_beq g_beq beqC_eq e_nilq g_nilq nilqC_sl nilqC_pt nilqC_mp e_un g_un unC_not unC_neg e_conv g_conv convC_eq e_fld g_fld fldC_ref fldC_ptr e_nilCheck g_nilCheck nilCheckC_ref nilCheckC_ptr nilCheckC_fun e_field g_field fieldC_eq e_len g_len lenC_sl lenC_str e_extract g_extract extractC_eq e_mkFunc e_build g_build e_idiv g_idiv idivC_eq e_ishift g_ishift ishiftC_eq e_idx g_idx e_idxA g_idxA e_load g_load e_loadB g_loadB atB_ref atB_v g_mkFunc loadC_ref loadC_ptr loadB_eq e_slc g_slc e_box boxC_loc boxC_esc e_alloc allocC_loc allocC_esc e_buildS e_store storeC_ref storeC_ptr storeB_eq e_append e_appz e_mk mkC_eq e_call callC_eq e_fn g_fn fnC_eq fnV_min' fnV_max' fnV_rune' e_q g_q e_a e_n g_call g_box g_alloc g_buildS g_store g_append g_mk g_a g_n g_dead e_dead e_callK e_drawn e_tree e_finJ e_tk e_tfin e_tno e_nbt_q e_nbt_qn e_nbt_a e_nbt_an e_nbt_fin e_drawnB e_bxb_nil e_bxb e_stB_none e_stB_some boxSt_store bs_mv bs_pick bs_ibin bs_idiv bs_ishift bs_sbin bs_beq bs_nilq bs_un bs_conv bs_box bs_alloc bs_build bs_buildS bs_load bs_fld bs_nilCheck bs_idx bs_idxA bs_field bs_slc bs_len bs_append bs_appz bs_mk bs_call bs_extract bs_mkFunc bs_fn bs_q bs_a bs_n bs_loadB bs_dead isBox_box e_early_nil e_early_t e_early_f e_nob_nil e_nob_none e_nob_some isBox_dead isBox_v isBox_ref e_dnil e_dk e_ek e_finB vcOps_vc1 e_dcons e_tq e_ekt e_tearly e_talt e_dearly look_nil look_c proj_nil proj_c looks_nil looks_c zip_nil zip_c val_tmp val_const val_func slv_v slv_box slv_ref slot_tmp slot_const slot_func slotL_v slotL_box slotL_ref put_some put_none updBox_c boxSet_box gd_eq slotVals_nil slotVals_c slotVals_b boxV_box boxOn_box slotsOn_nil slotsOn_c slotsOn_b resV_one resV_two vals_nil vals_c allOn_nil allOn_c partOn_nil partOn_c partVals_nil partVals_c fits_nil fits_c fillL_nil fillL_c mkv_one mkv_agg cellsV_agg cellsV_int cellsV_bool cellsV_slice cellsV_string cellsV_pointer cellsV_func cellsV_nilf cellsV_map one'_nil one'_c oc_int oc_bool oc_slice oc_string oc_pointer oc_func oc_nilf oc_map setC_eq iv_add iv_sub iv_mul iv_eql iv_neq iv_lss iv_leq iv_gtr iv_geq iok_add iok_sub iok_mul iok_eql iok_neq iok_lss iok_leq iok_gtr iok_geq pickV_bool args0_nil args0_c bnd_none bnd_some imp_bt imp_bf imp_ebt imp_ebf imp_eb1 imp_np imp_pp beq_tt beq_tf beq_ft beq_ff cond_or cond_and e_round e_meet Int.le_refl Int.toNat_zero decide_true decide_false Bool.or_false Bool.false_or Bool.true_or Bool.or_true Bool.and_false Bool.false_and Bool.bne_false Bool.bne_true beq_iff_eq Int.cast_ofNat_Int not_false_eq_true not_true_eq_false false_and and_false false_implies true_implies true_and and_true Bool.true_and Bool.and_true Bool.not_true Bool.not_false forall_const implies_true List.take_zero List.drop_zero List.take_succ_cons List.drop_succ_cons List.take_nil List.drop_nil List.length_cons List.length_nil List.nil_append List.append_nil List.cons_append Int.toNat_natCast decide_eq_true_eq decide_eq_false_iff_not cond_true cond_false and_self List.getElem?_cons_zero List.getElem?_cons_succ List.set_cons_zero List.set_cons_succ Option.some.injEq exists_eq_left' Nat.zero_add Nat.add_zero Nat.mul_one imp_self true_or or_true or_false false_or Bool.or_eq_true Bool.or_eq_false_iff Bool.and_eq_true Bool.and_eq_false_iff Bool.not_eq_true' Bool.not_eq_false'

theorem kt_int {P : Program} {k : TypeId} (hk : P.underlying k = some (.int .i64)) : KT P k (fun x : Int => Value.int .i64 x) (fun x => (Lit.int .i64 x).wf = true) :=
  KT.of (Maps.int_keyed hk) (fun a b h => by simpa using h) fun a ha => ⟨Lit.int .i64 a, by simp [keyOf, hk, mapKey, ha]⟩
theorem mset_dup {l : List Int} {x : Int} (h : x ∈ l) : mput (mset id l) x true = mset id l := by
  rw [mput, mset_keys, List.map_id, if_pos h]
  unfold mset
  rw [List.map_map]
  apply List.map_congr_left
  intro y _
  simp only [Function.comp, id]
  split
  · rename_i e; rw [e]
  · rfl
def intV (x : Int) : Value := .int .i64 x
def okI (x : Int) : Prop := (Lit.int .i64 x).wf = true
/-- the map b is the set l -/
def SetM (g : PH) (b : Nat) (l : List Int) : Prop := MapM g b intV Value.bool okI (mset id l)
theorem kt_164 : KT Try.prog 3 intV okI := kt_int (by kernel_rfl)
theorem set_look {Γ : Ctx} {g : PH} {b : Nat} {l : List Int} {x : Int} (h : SetM g b l) (hg : g ∈ Γ) (hx : okI x) : QR Try.prog (.look 164 false) [.map (some b), .int .i64 x] Γ (.bool (decide (x ∈ l))) := by
  have := qr_look kt_164 (t := 164) (et := 4) (z := .bool false) (by kernel_rfl) (zero_run (by kernel_rfl)) false (h.l hg) hx
  rw [mget_set, List.map_id] at this
  by_cases e : x ∈ l
  · rw [if_pos e] at this
    simpa [e, intV] using this
  · rw [if_neg e] at this
    simpa [e, intV] using this
def addS (l : List Int) (x : Int) : List Int := if x ∈ l then l else l ++ [x]
theorem addS_mem {l : List Int} {x y : Int} : y ∈ addS l x ↔ y ∈ l ∨ y = x := by
  unfold addS
  split
  · rename_i h
    exact ⟨.inl, fun q => q.elim id fun e => by rw [e]; exact h⟩
  · simp
theorem s_set {Γr : Ctx} {d : Option Nat} {r : List SOper} {φ : Fr} {Γ : Ctx} {K : Fr → Ctx → Prop} {g : PH} {ix b : Nat} {l : List Int} (hg : Γ[ix]? = some g) (hm : SetM g b l) {x : Int} (hx : okI x)
    (hk : ∀ g', SetM g' b (addS l x) → vcOps Try.prog Γr r (put φ d (.v true undef)) (Γ.set ix g') K) : aC Try.prog Γr d r φ Γ K (.upd 164) [.map (some b), .int .i64 x, .bool true] := by
  refine s_upd kt_164 (t := 164) (et := 4) (eV := Value.bool) (by kernel_rfl) hg hm true hx fun g' h _ => hk g' ?_
  unfold addS
  split
  · rename_i h1
    rw [mset_dup h1] at h
    exact h
  · rename_i h1
    have := mput_set id l x (by simpa using h1)
    simp only [id] at this
    rw [this] at h
    exact h
theorem Und.add {g : Gr} {a : Nat} {m : List Int} (h : Und g a m) {r : Ru} (hr : r ∈ g.rs) (hl : r.l ∈ m) {s : Sy} (hs : s ∈ r.r) (ht : s.t = false) (hn : 0 ≤ s.n) : Und g a (addS m s.n) := by
  refine ⟨?_, addS_mem.2 (.inl h.2.1), fun x hx => ?_⟩
  · unfold addS
    split
    · exact h.1
    · rename_i q
      rw [List.nodup_append]
      refine ⟨h.1, by simp, ?_⟩
      rintro x hx y hy rfl
      simp at hy
      subst hy
      exact q hx
  · rcases addS_mem.1 hx with hx | rfl
    · exact h.2.2 x hx
    · obtain ⟨b, hb, hR⟩ := h.2.2 _ hl
      exact ⟨s.n.toNat, by omega, .step hR ⟨r, hr, hb, s, hs, ht, by omega⟩⟩
theorem okI_of {x : Int} (h : 0 ≤ x ∧ x < 1000) : okI x := wf64 (by omega) (by omega)
end Go.Proofs.Ytniobbepliknmaa.V
/- The text of parlance/mini.begin as a statement (slots: 0 accept, 1 accept, 3 p, 4 index, 5 s, 6 told, 7 b, 8 ok); no condition. -/
namespace Go.Proofs.Ytniobbepliknmaa.V
open Go
def S193_1 : Stmt :=
  Stmt.seq
  (Stmt.region
    [SOper.mk (some 28) none (SOp.mv (Operand.tmp 8)), SOper.mk (some 29) none (SOp.un UnOp.not (Operand.tmp 28))]
    [3, 4, 5, 6, 7, 15, 16, 17, 29])
  (Stmt.cond (Operand.tmp 29)
    (Stmt.seq
      (Stmt.region
        [SOper.mk (some 30) none (SOp.mv (Operand.tmp 3)), SOper.mk (some 31) none (SOp.nilCheck (Operand.tmp 30)),
          SOper.mk (some 32) none (SOp.fld 1 (Operand.tmp 31)),
          SOper.mk (some 33) none (SOp.load false 1 (Operand.tmp 32)),
          SOper.mk (some 34) none (SOp.len false (Operand.tmp 33)), SOper.mk (some 7) none (SOp.mv (Operand.tmp 34))]
        [3, 4, 5, 6, 7, 15, 16, 17])
      (Stmt.seq
        (Stmt.region
          [SOper.mk (some 35) none (SOp.mv (Operand.tmp 4)), SOper.mk (some 36) none (SOp.mv (Operand.tmp 6)),
            SOper.mk (some 37) none (SOp.mv (Operand.tmp 7)),
            SOper.mk none none (SOp.a (Qk.upd 207) [Operand.tmp 35, Operand.tmp 36, Operand.tmp 37])]
          [3, 4, 5, 7, 15, 16, 17])
        (Stmt.region
          [SOper.mk (some 38) none (SOp.mv (Operand.tmp 3)), SOper.mk (some 39) none (SOp.mv (Operand.tmp 3)),
            SOper.mk (some 40) none (SOp.nilCheck (Operand.tmp 39)),
            SOper.mk (some 41) none (SOp.fld 1 (Operand.tmp 40)),
            SOper.mk (some 42) none (SOp.load false 1 (Operand.tmp 41)),
            SOper.mk (some 43) none
              (SOp.buildS 29 1 [Value.slice none 0 0] [(0, 1, Operand.const (Value.slice none 0 0))]),
            SOper.mk (some 44) none (SOp.append 65 29 1 24 (Value.slice none 0 0) (Operand.tmp 42) (Operand.tmp 43)),
            SOper.mk (some 45) none (SOp.nilCheck (Operand.tmp 38)),
            SOper.mk (some 46) none (SOp.fld 1 (Operand.tmp 45)),
            SOper.mk none none (SOp.store 1 (Operand.tmp 46) (Operand.tmp 44))]
          [3, 4, 5, 7, 15, 16, 17])))
    Stmt.skip)
def S193_2 : Stmt :=
  Stmt.drawn
  [(false, SOper.mk (some 47) none (SOp.mv (Operand.tmp 3))),
    (false, SOper.mk (some 48) none (SOp.nilCheck (Operand.tmp 47))),
    (false, SOper.mk (some 49) none (SOp.fld 0 (Operand.tmp 48))),
    (true, SOper.mk (some 50) none (SOp.load false 1 (Operand.tmp 49))),
    (false, SOper.mk (some 51) none (SOp.mv (Operand.tmp 5))),
    (false, SOper.mk (some 52) none (SOp.mv (Operand.tmp 3))),
    (false, SOper.mk (some 53) none (SOp.nilCheck (Operand.tmp 52))),
    (false, SOper.mk (some 54) none (SOp.fld 1 (Operand.tmp 53))),
    (true, SOper.mk (some 55) none (SOp.load false 1 (Operand.tmp 54))),
    (false, SOper.mk (some 56) none (SOp.mv (Operand.tmp 7))),
    (false, SOper.mk (some 57) none (SOp.mv (Operand.tmp 7))),
    (false, SOper.mk (some 58) none (SOp.mv (Operand.tmp 3))),
    (false, SOper.mk (some 59) none (SOp.nilCheck (Operand.tmp 58))),
    (false, SOper.mk (some 60) none (SOp.fld 1 (Operand.tmp 59))),
    (false, SOper.mk (some 61) none (SOp.load false 1 (Operand.tmp 60))),
    (false, SOper.mk (some 62) none (SOp.mv (Operand.tmp 7))),
    (false, SOper.mk (some 63) none (SOp.idx 1 (Operand.tmp 61) (Operand.tmp 62))),
    (false, SOper.mk (some 64) none (SOp.load false 1 (Operand.tmp 63))),
    (false, SOper.mk (some 65) none (SOp.mv (Operand.tmp 5))),
    (false, SOper.mk (some 66) none (SOp.buildS 3 1 [Value.int IntKind.i64 0] [(0, 1, Operand.tmp 65)])),
    (false, SOper.mk (some 67) none (SOp.append 29 3 1 8 (Value.int IntKind.i64 0) (Operand.tmp 64) (Operand.tmp 66))),
    (false, SOper.mk (some 68) none (SOp.idx 1 (Operand.tmp 50) (Operand.tmp 51))),
    (false, SOper.mk none none (SOp.store 1 (Operand.tmp 68) (Operand.tmp 57))),
    (false, SOper.mk (some 69) none (SOp.idx 1 (Operand.tmp 55) (Operand.tmp 56))),
    (false, SOper.mk none none (SOp.store 1 (Operand.tmp 69) (Operand.tmp 67)))]
  [3, 4, 15, 16, 17]
def S193_3 : Stmt :=
  Stmt.block 1
  (Stmt.seq
    (Stmt.region
      [SOper.mk (some 19) none (SOp.mv (Operand.tmp 17)),
        SOper.mk (some 20) none (SOp.idx 1 (Operand.tmp 15) (Operand.tmp 17)),
        SOper.mk (some 21) none (SOp.load false 1 (Operand.tmp 20)), SOper.mk (some 5) none (SOp.mv (Operand.tmp 19)),
        SOper.mk (some 6) none (SOp.mv (Operand.tmp 21))]
      [3, 4, 5, 6, 15, 16, 17])
    (Stmt.seq
      (Stmt.region
        [SOper.mk (some 23) none (SOp.mv (Operand.tmp 4)), SOper.mk (some 24) none (SOp.mv (Operand.tmp 6)),
          SOper.mk (some 25) none (SOp.q (Qk.look 207 true) [Operand.tmp 23, Operand.tmp 24]),
          SOper.mk (some 22) none (SOp.mv (Operand.tmp 25)), SOper.mk (some 26) none (SOp.extract 0 (Operand.tmp 22)),
          SOper.mk (some 27) none (SOp.extract 1 (Operand.tmp 22)), SOper.mk (some 7) none (SOp.mv (Operand.tmp 26)),
          SOper.mk (some 8) none (SOp.mv (Operand.tmp 27))]
        [3, 4, 5, 6, 7, 8, 15, 16, 17])
      (Stmt.join S193_1 S193_2 [7] [3, 4, 5, 15, 16, 17])))
def S193_4 : Stmt :=
  Stmt.region
  [SOper.mk (some 70) none (SOp.ibin BinOp.add (Operand.tmp 17) (Operand.const (Value.int IntKind.i64 1))),
    SOper.mk (some 17) none (SOp.mv (Operand.tmp 70))]
  [3, 4, 15, 16, 17]
def S193_5 : Stmt :=
  Stmt.seq
  (Stmt.region [SOper.mk (some 18) none (SOp.ibin BinOp.lss (Operand.tmp 17) (Operand.tmp 16))] [3, 4, 15, 16, 17, 18])
  (Stmt.seq (Stmt.cond (Operand.tmp 18) Stmt.skip (Stmt.exit 0)) (Stmt.join S193_3 S193_4 [] [3, 4, 15, 16, 17]))
def S193_0 : Stmt :=
  Stmt.seq (Stmt.region [SOper.mk (some 2) none (SOp.mv (Operand.const (Value.pointer none)))] [0])
  (Stmt.seq
    (Stmt.region
      [SOper.mk (some 9) none (SOp.mv (Operand.tmp 0)), SOper.mk (some 10) none (SOp.len false (Operand.tmp 9)),
        SOper.mk (some 11) none (SOp.mk 3 1 8 (Value.int IntKind.i64 0) (Operand.tmp 10) (Operand.tmp 10)),
        SOper.mk (some 12) none (SOp.build 257 [Value.slice none 0 0, Value.slice none 0 0] [(0, 1, Operand.tmp 11)]),
        SOper.mk (some 13) none (SOp.box false 257 (Operand.tmp 12)), SOper.mk (some 3) none (SOp.mv (Operand.tmp 13))]
      [0, 3])
    (Stmt.seq
      (Stmt.region [SOper.mk (some 14) none (SOp.n (Qk.mkmap 207) []), SOper.mk (some 4) none (SOp.mv (Operand.tmp 14))]
        [0, 3, 4])
      (Stmt.seq
        (Stmt.seq
          (Stmt.region
            [SOper.mk (some 15) none (SOp.mv (Operand.tmp 0)), SOper.mk (some 16) none (SOp.len false (Operand.tmp 15)),
              SOper.mk (some 17) none (SOp.mv (Operand.const (Value.int IntKind.i64 0)))]
            [3, 4, 15, 16, 17])
          (Stmt.block 0 (Stmt.loop S193_5 [17] [3, 4, 15, 16])))
        (Stmt.seq
          (Stmt.region
            [SOper.mk (some 71) none (SOp.mv (Operand.tmp 3)), SOper.mk (some 2) none (SOp.mv (Operand.tmp 71))] [2])
          Stmt.ret))))
def S193 : FnS := ⟨72, [(2, none)], S193_0⟩
theorem tr193 : trFn Try.prog 193 [] [[0], [0, 3], [0, 3, 4], [3, 4, 15, 16, 17], [17], [3, 4, 15, 16], [3, 4, 15, 16, 17, 18], [], [3, 4, 15, 16, 17], [3, 4, 5, 6, 15, 16, 17], [3, 4, 5, 6, 7, 8, 15, 16, 17], [7], [3, 4, 5, 15, 16, 17], [3, 4, 5, 6, 7, 15, 16, 17, 29], [3, 4, 5, 6, 7, 15, 16, 17], [3, 4, 5, 7, 15, 16, 17], [3, 4, 5, 7, 15, 16, 17], [3, 4, 15, 16, 17], [0, 1, 2, 3, 4, 5, 6, 7, 8, 9, 10, 11, 12, 13, 14, 15, 16, 17, 18, 19, 20, 21, 22, 23, 24], [3, 8], [], [0], [0, 1], [0, 1, 2], [], [], [5], [5, 6], [5, 6, 7], [], [], [], [11], [11, 12], [11, 12, 13], [], [11, 12, 13, 14, 15], [11, 12, 13, 14, 15, 16], [], [18], [11, 12, 13, 14, 15, 16, 17, 18, 19], [0, 1, 2, 3, 4, 5, 6, 7, 8, 10, 11, 12, 13, 14, 15, 16, 17, 18, 19, 20], [0, 1, 2, 3, 4, 5, 6, 7, 8, 10, 11, 12, 13, 14, 15, 16, 17, 18, 19, 20, 21], [0, 1, 2, 3, 4, 5, 6, 7, 8, 9, 10, 11, 12, 13, 14, 15, 16, 17, 18, 19, 20, 21, 22], [0, 1, 2, 3, 4, 5, 6, 7, 8, 9, 10, 11, 12, 13, 14, 15, 16, 17, 18, 19, 20, 21, 22, 23], [3, 4, 15, 16, 17], [2]] = some S193 := by kernel_rfl
end Go.Proofs.Ytniobbepliknmaa.V
/- mini.begin walked; no condition. -/
namespace Go.Proofs.Ytniobbepliknmaa.V
open Go
set_option linter.unusedVariables false
set_option linter.unusedSimpArgs false
attribute [local go_sem] e_seq e_region e_quiet e_join e_loop e_cond e_block e_exit e_ret e_skip e_fin e_kseq e_snrm e_sret e_sex e_bnrm e_bret e_bex e_rnrm e_rret e_res e_condC e_nil e_g e_mv g_mv e_pick g_pick pickC_eq e_ibin g_ibin ibinC_eq e_sbin g_sbin e_beq g_beq beqC_eq e_nilq g_nilq nilqC_sl nilqC_pt nilqC_mp e_un g_un unC_not unC_neg e_conv g_conv convC_eq e_fld g_fld fldC_ref fldC_ptr e_nilCheck g_nilCheck nilCheckC_ref nilCheckC_ptr nilCheckC_fun e_field g_field fieldC_eq e_len g_len lenC_sl lenC_str e_extract g_extract extractC_eq e_mkFunc e_build g_build e_idiv g_idiv idivC_eq e_ishift g_ishift ishiftC_eq e_idx g_idx e_idxA g_idxA e_load g_load e_loadB g_loadB atB_ref atB_v g_mkFunc loadC_ref loadC_ptr loadB_eq e_slc g_slc e_box boxC_loc boxC_esc e_alloc allocC_loc allocC_esc e_buildS e_store storeC_ref storeC_ptr storeB_eq e_append e_appz e_mk mkC_eq e_call callC_eq e_fn g_fn fnC_eq fnV_min' fnV_max' fnV_rune' e_q g_q e_a e_n g_call g_box g_alloc g_buildS g_store g_append g_mk g_a g_n g_dead e_dead e_callK e_drawn e_tree e_finJ e_tk e_tfin e_tno e_nbt_q e_nbt_qn e_nbt_a e_nbt_an e_nbt_fin e_drawnB e_bxb_nil e_bxb e_stB_none e_stB_some boxSt_store bs_mv bs_pick bs_ibin bs_idiv bs_ishift bs_sbin bs_beq bs_nilq bs_un bs_conv bs_box bs_alloc bs_build bs_buildS bs_load bs_fld bs_nilCheck bs_idx bs_idxA bs_field bs_slc bs_len bs_append bs_appz bs_mk bs_call bs_extract bs_mkFunc bs_fn bs_q bs_a bs_n bs_loadB bs_dead isBox_box e_early_nil e_early_t e_early_f e_nob_nil e_nob_none e_nob_some isBox_dead isBox_v isBox_ref e_dnil e_dk e_ek e_finB vcOps_vc1 e_dcons e_tq e_ekt e_tearly e_talt e_dearly look_nil look_c proj_nil proj_c looks_nil looks_c zip_nil zip_c val_tmp val_const val_func slv_v slv_box slv_ref slot_tmp slot_const slot_func slotL_v slotL_box slotL_ref put_some put_none updBox_c boxSet_box gd_eq slotVals_nil slotVals_c slotVals_b boxV_box boxOn_box slotsOn_nil slotsOn_c slotsOn_b resV_one resV_two vals_nil vals_c allOn_nil allOn_c partOn_nil partOn_c partVals_nil partVals_c fits_nil fits_c fillL_nil fillL_c mkv_one mkv_agg cellsV_agg cellsV_int cellsV_bool cellsV_slice cellsV_string cellsV_pointer cellsV_func cellsV_nilf cellsV_map one'_nil one'_c oc_int oc_bool oc_slice oc_string oc_pointer oc_func oc_nilf oc_map setC_eq iv_add iv_sub iv_mul iv_eql iv_neq iv_lss iv_leq iv_gtr iv_geq iok_add iok_sub iok_mul iok_eql iok_neq iok_lss iok_leq iok_gtr iok_geq pickV_bool args0_nil args0_c bnd_none bnd_some imp_bt imp_bf imp_ebt imp_ebf imp_eb1 imp_np imp_pp beq_tt beq_tf beq_ft beq_ff cond_or cond_and e_round e_meet Int.le_refl Int.toNat_zero decide_true decide_false Bool.or_false Bool.false_or Bool.true_or Bool.or_true Bool.and_false Bool.false_and Bool.bne_false Bool.bne_true beq_iff_eq Int.cast_ofNat_Int not_false_eq_true not_true_eq_false false_and and_false false_implies true_implies true_and and_true Bool.true_and Bool.and_true Bool.not_true Bool.not_false forall_const implies_true List.take_zero List.drop_zero List.take_succ_cons List.drop_succ_cons List.take_nil List.drop_nil List.length_cons List.length_nil List.nil_append List.append_nil List.cons_append Int.toNat_natCast decide_eq_true_eq decide_eq_false_iff_not cond_true cond_false and_self List.getElem?_cons_zero List.getElem?_cons_succ List.set_cons_zero List.set_cons_succ Option.some.injEq exists_eq_left' Nat.zero_add Nat.add_zero Nat.mul_one imp_self true_or or_true or_false false_or Bool.or_eq_true Bool.or_eq_false_iff Bool.and_eq_true Bool.and_eq_false_iff Bool.not_eq_true' Bool.not_eq_false'

def natV (x : Nat) : Value := .int .i64 (x : Int)
theorem zipIdx_snoc (keys : List Int) (x : Int) : (keys ++ [x]).zipIdx = keys.zipIdx ++ [(x, keys.length)] := by simp [List.zipIdx_append]
theorem zipIdx_keys (keys : List Int) : keys.zipIdx.map (·.1) = keys := by simp
theorem mget_keys {keys : List Int} (hn : keys.Nodup) {x : Int} : (x ∉ keys ∧ mget keys.zipIdx x = none) ∨ ∃ b, keys[b]? = some x ∧ mget keys.zipIdx x = some b := by
  by_cases h : x ∈ keys
  · right
    obtain ⟨b, hb⟩ := List.getElem?_of_mem h
    refine ⟨b, hb, ?_⟩
    have h1 : keys.zipIdx[b]? = some (x, b) := by rw [List.getElem?_zipIdx, hb]; simp
    exact mget_at (by rw [zipIdx_keys]; exact hn) h1
  · exact .inl ⟨h, by rw [mget_none, zipIdx_keys]; exact h⟩
theorem set_app0 {α : Type} (gs : List α) (x y : α) (r : List α) : (gs ++ x :: r).set gs.length y = gs ++ y :: r := by
  rw [List.set_append_right _ _ (Nat.le_refl _)]; simp
theorem set_app1 {α : Type} (gs : List α) (x y z : α) (r : List α) : (gs ++ x :: y :: r).set (gs.length + 1) z = gs ++ x :: z :: r := by
  rw [List.set_append_right _ _ (by omega)]; simp
theorem RowsG.snoc {gs : List PH} {hs : List Hd} {xss : List (List Nat)} (h : RowsG gs hs xss) : RowsG (gs ++ [V.emp]) (hs ++ [⟨none, 0, 0⟩]) (xss ++ [[]]) := by
  have h1 := h.1
  have h2 := h.2.1
  refine ⟨by simp [h1], by simp [h2], fun i g y xs q1 q2 q3 => ?_⟩
  rcases Nat.lt_trichotomy i xss.length with q | q | q
  · rw [List.getElem?_append_left (by omega)] at q1 q2 q3
    exact h.2.2 i g y xs q1 q2 q3
  · subst q
    have q1' : (gs ++ [V.emp])[gs.length]? = some g := by rw [h1]; exact q1
    have q2' : (hs ++ [(⟨none, 0, 0⟩ : Hd)])[hs.length]? = some y := by rw [h2]; exact q2
    simp at q1' q2' q3
    subst q1' q2' q3
    exact ⟨rfl, Bld.nil _ _ _⟩
  · rw [List.getElem?_eq_none (by simp; omega)] at q3; cases q3
def blkK (acc keys : List Int) (k : Nat) : List (List Nat) := keys.map fun (x : Int) => (List.range k).filter fun (s : Nat) => acc.getD s 0 == x
theorem blkK_len (acc keys : List Int) (k : Nat) : (blkK acc keys k).length = keys.length := by simp [blkK]
theorem getq_mono' {α : Type} {l : List α} {y x : α} {i : Nat} (h : l[i]? = some x) : (l ++ [y])[i]? = some x := by
  rw [List.getElem?_append_left (List.getElem?_eq_some_iff.1 h).1]; exact h
/-- what has been told so far -/
structure BegI (acc : List Int) (k : Nat) (of : List Nat) (keys : List Int) : Prop where
  nd : keys.Nodup
  len : of.length = acc.length
  of : ∀ s, s < k → keys[of.getD s 0]? = some (acc.getD s 0)
  occ : ∀ x ∈ keys, ∃ s, s < k ∧ acc.getD s 0 = x
/-- the memory of mini.begin -/
def BegW (p bo bm N : Nat) (of : List Nat) (keys : List Int) (bl : List (List Nat)) (Γ : Ctx) : Prop := ∃ (go gb gp gm : PH) (gs : List PH) (vb : Value) (hs : List Hd), Γ = (go :: gb :: gs) ++ [gp, gm] ∧
  gp p = some (.cells [.slice (some ⟨bo, 0, none⟩) N N, vb].toArray 257 (0, 0)) ∧ Arr go bo 3 of ∧ MapM gm bm intV natV okI keys.zipIdx ∧ Bld gb (lk []) 29 vb hs ∧ RowsG gs hs bl
theorem blkK_next {acc keys : List Int} (hn : keys.Nodup) {k b : Nat} (hb : keys[b]? = some (acc.getD k 0)) : (blkK acc keys k).set b (((List.range k).filter fun (s : Nat) => acc.getD s 0 == acc.getD k 0) ++ [k]) = blkK acc keys (k + 1) := by
  have hbl := (List.getElem?_eq_some_iff.1 hb).1
  apply List.ext_getElem?
  intro i
  by_cases e : i = b
  · subst e
    rw [List.getElem?_set_self (by rw [blkK_len]; exact hbl)]
    unfold blkK
    rw [List.getElem?_map, hb]
    simp only [Option.map_some]
    rw [List.range_succ, List.filter_append]
    simp
  · rw [List.getElem?_set_ne (fun q => e q.symm)]
    unfold blkK
    rw [List.getElem?_map, List.getElem?_map]
    cases hi : keys[i]? with
    | none => rfl
    | some x =>
      simp only [Option.map_some]
      rw [List.range_succ, List.filter_append]
      have : ¬ acc.getD k 0 = x := fun q => e (by
        obtain ⟨h1, h2⟩ := List.getElem?_eq_some_iff.1 hi
        obtain ⟨h3, h4⟩ := List.getElem?_eq_some_iff.1 hb
        rcases Nat.lt_trichotomy i b with r | r | r
        · exact absurd (by rw [h2, h4, q]) ((List.pairwise_iff_getElem.1 hn) i b h1 h3 r)
        · exact r
        · exact absurd (by rw [h2, h4, q]) ((List.pairwise_iff_getElem.1 hn) b i h3 h1 r))
      have h5 : List.filter (fun s => acc.getD s 0 == x) [k] = [] := by rw [List.getD_eq_getElem?_getD] at this; simp [List.filter_cons, this]
      rw [h5]
      simp
theorem BegI.prt {acc : List Int} {of : List Nat} {keys : List Int} (h : BegI acc acc.length of keys) : PrtN acc.length of (blkK acc keys acc.length) ∧ ∀ s t, s < acc.length → t < acc.length → (of.getD s 0 = of.getD t 0 ↔ acc.getD s 0 = acc.getD t 0) := by
  have inj : ∀ i j (x : Int), keys[i]? = some x → keys[j]? = some x → i = j := fun i j x h1 h2 => by
    obtain ⟨a1, a2⟩ := List.getElem?_eq_some_iff.1 h1
    obtain ⟨b1, b2⟩ := List.getElem?_eq_some_iff.1 h2
    rcases Nat.lt_trichotomy i j with r | r | r
    · exact absurd (by rw [a2, b2]) ((List.pairwise_iff_getElem.1 h.nd) i j a1 b1 r)
    · exact r
    · exact absurd (by rw [a2, b2]) ((List.pairwise_iff_getElem.1 h.nd) j i b1 a1 r)
  have hget : ∀ b, b < keys.length → ∃ x, keys[b]? = some x ∧ (blkK acc keys acc.length).getD b [] = (List.range acc.length).filter fun (s : Nat) => acc.getD s 0 == x := fun b hb => by
    refine ⟨_, List.getElem?_eq_getElem hb, ?_⟩
    unfold blkK
    rw [List.getD_eq_getElem?_getD, List.getElem?_map, List.getElem?_eq_getElem hb]
    rfl
  refine ⟨⟨h.len, fun s hs => ?_, fun b hb s => ?_, fun b hb => ?_, fun b hb => ?_⟩, fun s t hs ht => ?_⟩
  · rw [blkK_len]; exact (List.getElem?_eq_some_iff.1 (h.of s hs)).1
  · rw [blkK_len] at hb
    obtain ⟨x, h1, h2⟩ := hget b hb
    rw [h2, List.mem_filter, List.mem_range, beq_iff_eq]
    refine and_congr_right fun hs => ?_
    have := h.of s hs
    constructor
    · intro e; rw [e] at this; exact inj _ _ _ this h1
    · intro e; rw [e, h1] at this; cases this; rfl
  · rw [blkK_len] at hb
    obtain ⟨x, h1, h2⟩ := hget b hb
    rw [h2]
    exact List.nodup_range.filter _
  · rw [blkK_len] at hb
    obtain ⟨x, h1, h2⟩ := hget b hb
    obtain ⟨s, h3, h4⟩ := h.occ x (List.mem_of_getElem? h1)
    rw [h2]
    intro e
    have : s ∈ (List.range acc.length).filter fun (s : Nat) => acc.getD s 0 == x := List.mem_filter.2 ⟨List.mem_range.2 h3, by rw [beq_iff_eq]; exact h4⟩
    rw [e] at this
    cases this
  · have h1 := h.of s hs
    have h2 := h.of t ht
    constructor
    · intro e; rw [e, h2] at h1; exact (Option.some.inj h1).symm
    · intro e; rw [e] at h1; exact inj _ _ _ h1 h2
/-- a partition in memory -/
def PartW (p bo N : Nat) (of : List Nat) (bl : List (List Nat)) (Γ : Ctx) : Prop := ∃ (gp go gb gd : PH) (vb : Value) (hs : List Hd), Γ = [gp, go, gb, gd] ∧
  gp p = some (.cells [.slice (some ⟨bo, 0, none⟩) N N, vb].toArray 257 (0, 0)) ∧ Arr go bo 3 of ∧ Bld gb (lk []) 29 vb hs ∧ HdsOk (lk [gd]) hs bl
theorem mini_begin {Γr : Ctx} {acc : List Int} {A : Option Addr} {c : Nat} (hA : SlOk (lk Γr) A c acc) (hl : acc.length ≤ 1000) (hok : ∀ x ∈ acc, okI x) :
    Ret Try.prog 193 [.slice A acc.length c] Γr [] (fun v Γ => ∃ p bo of bl, v = .pointer (some ⟨p, 0, none⟩) ∧ PartW p bo acc.length of bl Γ ∧ PrtN acc.length of bl ∧ ∀ s t, s < acc.length → t < acc.length → (of.getD s 0 = of.getD t 0 ↔ acc.getD s 0 = acc.getD t 0)) := by
  generalize hR : (fun (v : Value) (Γ : Ctx) => ∃ p bo of bl, _) = R
  refine ret_of_vc tr193 (Nat.le_of_ble_eq_true rfl) ?_
  simp -implicitDefEqProofs only [S193, S193_0, go_sem, Nat.reduceBEq, Nat.reduceAdd, Nat.reduceSub, Nat.reduceMul, Nat.reduceLeDiff, reduceCtorEq, ↓reduceIte, Int.reduceLT, Int.reduceLE, Int.reduceEq, Int.reduceNe]
  refine ⟨by omega, by omega, fun bo p => ?_⟩
  have hA0 : Arr (one bo (.cells (zerosL [Value.int .i64 0] acc.length).toArray 3)) bo 3 (List.replicate acc.length (0 : Nat)) := Arr.made (0 : Nat) bo 3 _
  revert hA0
  generalize one bo _ = go0
  intro hA0
  refine s_mkmap fun bm => ?_
  simp -implicitDefEqProofs only [go_sem, Nat.reduceBEq, Nat.reduceAdd, Nat.reduceSub, Nat.reduceMul, Nat.reduceLeDiff, reduceCtorEq, ↓reduceIte, Int.reduceLT, Int.reduceLE, Int.reduceEq, Int.reduceNe]
  refine s_loop (fun f vs Γ => ∃ (k : Nat) (of : List Nat) (keys : List Int), vs = [.v true (.int .i64 k)] ∧ k + f = acc.length ∧ BegW p bo bm acc.length of keys (blkK acc keys k) Γ ∧ BegI acc k of keys) acc.length
    (Up.emp (Up.sel [[3], [0], [2], [1]] (by decide) fun _ _ => ⟨0, List.replicate acc.length 0, [], rfl, by omega, ⟨_, _, _, _, [], _, _, rfl, one_self _ _, hA0, MapM.new _ _ _ _, Bld.nil _ _ _, ⟨rfl, rfl, by simp⟩⟩, ⟨by simp, by simp, by simp, by simp⟩⟩)) ?_
  rintro f vs Γ ⟨k, of, keys, rfl, hkf, ⟨go, gb, gp, gm, gs, vb, hs, rfl, hgp, hAo, hMm, hBb, hRg⟩, hI⟩
  simp -implicitDefEqProofs only [S193_5, go_sem, Nat.reduceBEq, Nat.reduceAdd, Nat.reduceSub, Nat.reduceMul, Nat.reduceLeDiff, reduceCtorEq, ↓reduceIte, Int.reduceLT, Int.reduceLE, Int.reduceEq, Int.reduceNe]
  refine ⟨fun hlt => ?_, fun hge => ?_⟩
  · have hk : k < acc.length := by omega
    obtain ⟨b1, o1, hA1, hc1⟩ := hA.int hk
    have hkk : keys.length ≤ acc.length := nodup_sub hI.nd fun x hx => by
      obtain ⟨s, h1, h2⟩ := hI.occ x hx
      rw [← h2, List.getD_eq_getElem?_getD, List.getElem?_eq_getElem (by omega)]
      exact List.getElem_mem _
    have hak : acc.getD k 0 = acc[k] := by rw [List.getD_eq_getElem?_getD, List.getElem?_eq_getElem hk]; rfl
    have hgood : okI acc[k] := hok _ (List.getElem_mem hk)
    refine s_split ?_
    simp -implicitDefEqProofs only [S193_3, S193_4, go_sem, Nat.reduceBEq, Nat.reduceAdd, Nat.reduceSub, Nat.reduceMul, Nat.reduceLeDiff, reduceCtorEq, ↓reduceIte, Int.reduceLT, Int.reduceLE, Int.reduceEq, Int.reduceNe]
    refine s_idx hA1 (by omega) (by omega) ?_
    simp -implicitDefEqProofs only [go_sem, Nat.reduceBEq, Nat.reduceAdd, Nat.reduceSub, Nat.reduceMul, Nat.reduceLeDiff, reduceCtorEq, ↓reduceIte, Int.reduceLT, Int.reduceLE, Int.reduceEq, Int.reduceNe]
    refine s_ld0 (hc1 _ (lk_sub fun g hg => by simp [hg])) (by simp) (by simp) ?_
    simp -implicitDefEqProofs only [go_sem, Nat.reduceBEq, Nat.reduceAdd, Nat.reduceSub, Nat.reduceMul, Nat.reduceLeDiff, reduceCtorEq, ↓reduceIte, Int.reduceLT, Int.reduceLE, Int.reduceEq, Int.reduceNe]
    have hlook := qr_look (Γ := (go :: gb :: (gs ++ [gp, gm])) ++ Γr) kt_164 (t := 207) (et := 3) (z := .int .i64 0) (by kernel_rfl) (zero_run (by kernel_rfl)) true (hMm.l (by simp)) hgood
    refine s_q (by simp) hlook ?_
    simp -implicitDefEqProofs only [go_sem, Nat.reduceBEq, Nat.reduceAdd, Nat.reduceSub, Nat.reduceMul, Nat.reduceLeDiff, reduceCtorEq, ↓reduceIte, Int.reduceLT, Int.reduceLE, Int.reduceEq, Int.reduceNe]
    refine s_join (fun vs Γ' => ∃ (b : Nat) (keys' : List Int), vs = [.v true (.int .i64 b)] ∧ keys'[b]? = some acc[k] ∧ keys'.length ≤ acc.length ∧ BegW p bo bm acc.length of keys' (blkK acc keys' k) Γ' ∧ keys'.Nodup ∧ (∀ x ∈ keys', ∃ s, s < k + 1 ∧ acc.getD s 0 = x) ∧ (∀ s, s < k → keys'[of.getD s 0]? = some (acc.getD s 0))) ?_ ?_
    · rcases mget_keys (keys := keys) (x := acc[k]) hI.nd with ⟨hno, hg⟩ | ⟨b, hb, hg⟩
      · have hkk' : (keys ++ [acc[k]]).length ≤ acc.length := nodup_sub (List.nodup_append.2 ⟨hI.nd, by simp, fun x hx y hy e => by simp at hy; subst hy; subst e; exact hno hx⟩) fun x hx => by
          rcases List.mem_append.1 hx with hx | hx
          · obtain ⟨s, h1, h2⟩ := hI.occ x hx
            rw [← h2, List.getD_eq_getElem?_getD, List.getElem?_eq_getElem (by omega)]
            exact List.getElem_mem _
          · simp at hx; subst hx; exact List.getElem_mem _
        rw [hg]
        obtain ⟨Ab, cb, rfl⟩ := hBb.val
        have hhl : hs.length = keys.length := by rw [hRg.2.1, blkK_len]
        simp -implicitDefEqProofs only [S193_1, Option.elim_none, Option.isSome_none, go_sem, Nat.reduceBEq, Nat.reduceAdd, Nat.reduceSub, Nat.reduceMul, Nat.reduceLeDiff, reduceCtorEq, ↓reduceIte, Int.reduceLT, Int.reduceLE, Int.reduceEq, Int.reduceNe]
        refine s_ld (j := 1) (cells_lk ⟨gp, by simp, hgp⟩) (by simp) (by simp) ?_
        simp -implicitDefEqProofs only [go_sem, Nat.reduceBEq, Nat.reduceAdd, Nat.reduceSub, Nat.reduceMul, Nat.reduceLeDiff, reduceCtorEq, ↓reduceIte, Int.reduceLT, Int.reduceLE, Int.reduceEq, Int.reduceNe]
        rw [hhl]
        refine s_upd kt_164 (et := 3) (ix := gs.length + 3) (eV := natV) (by kernel_rfl) (by simp) hMm keys.length hgood ?_
        intro gm' hMm' _
        rw [mput, if_neg (by rw [zipIdx_keys]; exact hno), ← zipIdx_snoc] at hMm'
        simp -implicitDefEqProofs only [go_sem, Nat.reduceBEq, Nat.reduceAdd, Nat.reduceSub, Nat.reduceMul, Nat.reduceLeDiff, reduceCtorEq, ↓reduceIte, Int.reduceLT, Int.reduceLE, Int.reduceEq, Int.reduceNe]
        refine s_ld (j := 1) (cells_lk ⟨gp, by simp, hgp⟩) (by simp) (by simp) ?_
        simp -implicitDefEqProofs only [go_sem, Nat.reduceBEq, Nat.reduceAdd, Nat.reduceSub, Nat.reduceMul, Nat.reduceLeDiff, reduceCtorEq, ↓reduceIte, Int.reduceLT, Int.reduceLE, Int.reduceEq, Int.reduceNe]
        rw [set_app1]
        intro b16
        refine s_app1S (α := Hd) (ix := 2) (⟨none, 0, 0⟩ : Hd) rfl hBb cells_one rfl (by omega) (by unfold maxLen; omega) ?_
        intro vb' gb' hBb' _
        obtain ⟨Ab', cb', rfl⟩ := hBb'.val
        simp -implicitDefEqProofs only [go_sem, Nat.reduceBEq, Nat.reduceAdd, Nat.reduceSub, Nat.reduceMul, Nat.reduceLeDiff, reduceCtorEq, ↓reduceIte, Int.reduceLT, Int.reduceLE, Int.reduceEq, Int.reduceNe]
        refine s_storeF (ix := gs.length + 3) (o := 1) (n := 1) (by simp) hgp (by simp) ?_
        simp -implicitDefEqProofs only [go_sem, Nat.reduceBEq, Nat.reduceAdd, Nat.reduceSub, Nat.reduceMul, Nat.reduceLeDiff, reduceCtorEq, ↓reduceIte, Int.reduceLT, Int.reduceLE, Int.reduceEq, Int.reduceNe]
        rw [set_app0]
        refine Up.skip (Up.emp (Up.perm (Γ' := go :: gb' :: ((gs ++ [V.emp]) ++ [upd gp p (.cells (setC [.slice (some ⟨bo, 0, none⟩) acc.length acc.length, .slice Ab hs.length cb] 1 1 (.slice Ab' (hs ++ [(⟨none, 0, 0⟩ : Hd)]).length cb')).toArray 257), gm'])) ?_ (Up.here ?_)))
        · have : (V.emp :: go :: gb' :: (gs ++ [upd gp p (.cells (setC [.slice (some ⟨bo, 0, none⟩) acc.length acc.length, .slice Ab hs.length cb] 1 1 (.slice Ab' (hs ++ [(⟨none, 0, 0⟩ : Hd)]).length cb')).toArray 257), gm'])).Perm (go :: gb' :: (V.emp :: (gs ++ [upd gp p (.cells (setC [.slice (some ⟨bo, 0, none⟩) acc.length acc.length, .slice Ab hs.length cb] 1 1 (.slice Ab' (hs ++ [(⟨none, 0, 0⟩ : Hd)]).length cb')).toArray 257), gm']))) :=
            (List.Perm.swap _ _ _).trans (List.Perm.cons _ (List.Perm.swap _ _ _))
          refine this.trans (List.Perm.cons _ (List.Perm.cons _ ?_))
          rw [List.append_assoc]
          exact List.perm_middle.symm
        refine ⟨keys.length, keys ++ [acc[k]], rfl, by simp, hkk', ⟨go, gb', _, gm', gs ++ [V.emp], _, _, rfl, upd_self _ _ _, hAo, hMm', hBb', ?_⟩, ?_, ?_, ?_⟩
        · have hbk : blkK acc (keys ++ [acc[k]]) k = blkK acc keys k ++ [[]] := by
            unfold blkK
            rw [List.map_append]
            congr 1
            simp only [List.map_cons, List.map_nil, List.cons.injEq, and_true]
            rw [List.filter_eq_nil_iff]
            intro s hs hq
            rw [beq_iff_eq] at hq
            have := hI.of s (List.mem_range.1 hs)
            rw [hq] at this
            exact hno (List.mem_of_getElem? this)
          rw [hbk]
          exact hRg.snoc
        · exact List.nodup_append.2 ⟨hI.nd, by simp, fun x hx y hy e => by simp at hy; subst hy; subst e; exact hno hx⟩
        · intro x hx
          rcases List.mem_append.1 hx with hx | hx
          · obtain ⟨s, h1, h2⟩ := hI.occ x hx
            exact ⟨s, by omega, h2⟩
          · simp at hx; subst hx; exact ⟨k, by omega, hak⟩
        · intro s hs
          exact getq_mono' (hI.of s hs)
      · rw [hg]
        simp -implicitDefEqProofs only [S193_1, Option.elim_some, Option.isSome_some, go_sem, Nat.reduceBEq, Nat.reduceAdd, Nat.reduceSub, Nat.reduceMul, Nat.reduceLeDiff, reduceCtorEq, ↓reduceIte, Int.reduceLT, Int.reduceLE, Int.reduceEq, Int.reduceNe]
        exact Up.here ⟨b, keys, rfl, hb, hkk, ⟨go, gb, gp, gm, gs, vb, hs, rfl, hgp, hAo, hMm, hBb, hRg⟩, hI.nd, fun x hx => let ⟨s, h1, h2⟩ := hI.occ x hx; ⟨s, by omega, h2⟩, hI.of⟩
    · rintro vs Γ' ⟨b, keys', rfl, hb, hkl, ⟨go, gb, gp, gm, gs, vb, hs, rfl, hgp, hAo, hMm, hBb, hRg⟩, hn, hocc, hof⟩
      have hbl := (List.getElem?_eq_some_iff.1 hb).1
      have hhl : hs.length = keys'.length := by rw [hRg.2.1, blkK_len]
      obtain ⟨Ab, cb, rfl⟩ := hBb.val
      obtain ⟨gt, y, hgt, hyt, hyn, hBt⟩ := hRg.at' (i := b) (by rw [blkK_len]; exact hbl)
      have hyc := (List.getElem?_eq_some_iff.1 hyt).2
      have hblk : (blkK acc keys' k)[b]'(by rw [blkK_len]; exact hbl) = (List.range k).filter fun (s : Nat) => acc.getD s 0 == acc.getD k 0 := by
        have h1 := (List.getElem?_eq_some_iff.1 hb).2
        simp only [blkK, List.getElem_map, h1, hak]
      have hlen : ((List.range k).filter fun (s : Nat) => acc.getD s 0 == acc.getD k 0).length ≤ k := by
        have := List.length_filter_le (fun (s : Nat) => acc.getD s 0 == acc.getD k 0) (List.range k)
        simpa using this
      rw [hblk] at hyn hBt
      have hnext := blkK_next (acc := acc) (k := k) hn (b := b) (by rw [hb, hak])
      generalize ((List.range k).filter fun (s : Nat) => acc.getD s 0 == acc.getD k 0) = Lk at hyn hBt hlen hnext
      obtain ⟨Ab2, cb2, eb, hSb⟩ := hBb.slok (L' := lk [gb]) (Mem.le.refl _) (lk_sub (by simp)) (by omega)
      simp only [Value.slice.injEq] at eb
      obtain ⟨rfl, _, rfl⟩ := eb
      obtain ⟨b15, o15, hAb, hc15⟩ := hSb.hd (i := b) (by omega)
      rw [hyc] at hc15
      simp -implicitDefEqProofs only [S193_2, go_sem, Nat.reduceBEq, Nat.reduceAdd, Nat.reduceSub, Nat.reduceMul, Nat.reduceLeDiff, reduceCtorEq, ↓reduceIte, Int.reduceLT, Int.reduceLE, Int.reduceEq, Int.reduceNe]
      refine s_drawn (go :: gb :: gs) [gp, gm] (by simpa using Ent.refl _) ?_
      simp -implicitDefEqProofs only [go_sem, Nat.reduceBEq, Nat.reduceAdd, Nat.reduceSub, Nat.reduceMul, Nat.reduceLeDiff, reduceCtorEq, ↓reduceIte, Int.reduceLT, Int.reduceLE, Int.reduceEq, Int.reduceNe]
      refine s_ld0 (cells_lk ⟨gp, by simp, hgp⟩) (by simp) (by simp) ?_
      simp -implicitDefEqProofs only [go_sem, Nat.reduceBEq, Nat.reduceAdd, Nat.reduceSub, Nat.reduceMul, Nat.reduceLeDiff, reduceCtorEq, ↓reduceIte, Int.reduceLT, Int.reduceLE, Int.reduceEq, Int.reduceNe]
      refine s_ld (j := 1) (cells_lk ⟨gp, by simp, hgp⟩) (by simp) (by simp) ?_
      simp -implicitDefEqProofs only [go_sem, Nat.reduceBEq, Nat.reduceAdd, Nat.reduceSub, Nat.reduceMul, Nat.reduceLeDiff, reduceCtorEq, ↓reduceIte, Int.reduceLT, Int.reduceLE, Int.reduceEq, Int.reduceNe]
      refine s_ld (j := 1) (cells_lk ⟨gp, by simp, hgp⟩) (by simp) (by simp) ?_
      simp -implicitDefEqProofs only [go_sem, Nat.reduceBEq, Nat.reduceAdd, Nat.reduceSub, Nat.reduceMul, Nat.reduceLeDiff, reduceCtorEq, ↓reduceIte, Int.reduceLT, Int.reduceLE, Int.reduceEq, Int.reduceNe]
      refine s_idx hAb (by omega) (by omega) ?_
      simp -implicitDefEqProofs only [go_sem, Nat.reduceBEq, Nat.reduceAdd, Nat.reduceSub, Nat.reduceMul, Nat.reduceLeDiff, reduceCtorEq, ↓reduceIte, Int.reduceLT, Int.reduceLE, Int.reduceEq, Int.reduceNe]
      refine s_ld0 (by simpa using hc15 _ (lk_sub fun g hg => by simp at hg ⊢; simp [hg])) (by simp) (by simp) ?_
      simp -implicitDefEqProofs only [go_sem, Nat.reduceBEq, Nat.reduceAdd, Nat.reduceSub, Nat.reduceMul, Nat.reduceLeDiff, reduceCtorEq, ↓reduceIte, Int.reduceLT, Int.reduceLE, Int.reduceEq, Int.reduceNe]
      intro b16
      refine s_app1S (α := Nat) (ix := b + 3) k (by simpa using hgt) (by simpa [Hd.v] using hBt) cells_one rfl (by omega) (by unfold maxLen; omega) ?_
      intro vt' gt2 hBt' _
      obtain ⟨At', ct', rfl⟩ := hBt'.val
      simp -implicitDefEqProofs only [go_sem, Nat.reduceBEq, Nat.reduceAdd, Nat.reduceSub, Nat.reduceMul, Nat.reduceLeDiff, reduceCtorEq, ↓reduceIte, Int.reduceLT, Int.reduceLE, Int.reduceEq, Int.reduceNe]
      refine s_idx rfl (by omega) (by omega) ?_
      simp -implicitDefEqProofs only [go_sem, Nat.reduceBEq, Nat.reduceAdd, Nat.reduceSub, Nat.reduceMul, Nat.reduceLeDiff, reduceCtorEq, ↓reduceIte, Int.reduceLT, Int.reduceLE, Int.reduceEq, Int.reduceNe]
      refine s_storeA (α := Nat) (ix := 1) b rfl hAo (by rw [hI.len]; omega) ?_
      intro go' hAo' _
      simp -implicitDefEqProofs only [go_sem, Nat.reduceBEq, Nat.reduceAdd, Nat.reduceSub, Nat.reduceMul, Nat.reduceLeDiff, reduceCtorEq, ↓reduceIte, Int.reduceLT, Int.reduceLE, Int.reduceEq, Int.reduceNe]
      refine s_idx hAb (by omega) (by omega) ?_
      simp -implicitDefEqProofs only [go_sem, Nat.reduceBEq, Nat.reduceAdd, Nat.reduceSub, Nat.reduceMul, Nat.reduceLeDiff, reduceCtorEq, ↓reduceIte, Int.reduceLT, Int.reduceLE, Int.reduceEq, Int.reduceNe]
      subst hAb
      refine s_storeB (α := Hd) (ix := 2) (⟨At', _, ct'⟩ : Hd) rfl hBb (by omega) ?_
      intro gb' hBb' _
      simp -implicitDefEqProofs only [go_sem, Nat.reduceBEq, Nat.reduceAdd, Nat.reduceSub, Nat.reduceMul, Nat.reduceLeDiff, reduceCtorEq, ↓reduceIte, Int.reduceLT, Int.reduceLE, Int.reduceEq, Int.reduceNe]
      simp (disch := omega) only [wrap_id]
      refine Up.here ⟨f - 1, by omega, Up.skip (Up.here ⟨k + 1, of.set k b, keys', rfl, by omega, ⟨go', gb', gp, gm, gs.set b gt2, _, hs.set b ⟨At', _, ct'⟩, by simp, hgp, hAo', hMm, hBb', ?_⟩, ⟨hn, by rw [List.length_set]; exact hI.len, fun s hs => ?_, hocc⟩⟩)⟩
      · rw [← hnext]
        exact hRg.put rfl hBt'
      · rw [getD_setL (by rw [hI.len]; omega)]
        by_cases e : s = k
        · subst e; rw [if_pos rfl, hak]; exact hb
        · rw [if_neg e]; exact hof s (by omega)
  · have hk : k = acc.length := by omega
    subst hk
    have hP := hI.prt
    refine Up.perm (Γ' := gs ++ [gp, go, gb, gm]) ?_ (Up.gather (X := gs) (Y := [gp, go, gb, gm]) fun G hG => Up.sel [[1], [2], [3], [0]] (by decide) fun _ _ => ?_)
    · have h1 : (go :: gb :: (gs ++ [gp, gm])).Perm (gs ++ (go :: gb :: [gp, gm])) := by
        have := List.perm_append_comm (l₁ := [go, gb]) (l₂ := gs)
        have := this.append_right [gp, gm]
        simpa using this
      refine h1.trans (List.Perm.append_left _ ?_)
      have : [go, gb, gp, gm].Perm [gp, go, gb, gm] := (List.perm_middle (l₁ := [go, gb]) (l₂ := [gm])).trans (List.Perm.refl _)
      exact this
    · subst hR
      refine ⟨p, bo, of, _, rfl, ⟨gp, go, gb, G, vb, hs, rfl, hgp, hAo, hBb, ?_⟩, hP.1, hP.2⟩
      exact hRg.hds (fun g hg => Mem.le.trans (lk_sub (by intro x hx; simp at hx; subst hx; exact hg)) hG) fun xs hxs => by
        obtain ⟨t, _, rfl⟩ := List.mem_map.1 hxs
        have := List.length_filter_le (fun (s : Nat) => acc.getD s 0 == t) (List.range acc.length)
        simp only [List.length_range] at this
        omega
end Go.Proofs.Ytniobbepliknmaa.V
/- The text of (*parlance/mini.parts).split as a statement (slots: 0 p, 1 l, 2 p, 3 l, 5 in, 6 touched, 7 _, 8 s, 9 out, 10 _, 11 b, 12 yes, 13 no, 14 _, 15 s, 16 n, 17 _, 18 s); no condition. -/
namespace Go.Proofs.Ytniobbepliknmaa.V
open Go
def S194_1 : Stmt :=
  Stmt.block 1
  (Stmt.seq
    (Stmt.region
      [SOper.mk (some 24) none (SOp.idx 1 (Operand.tmp 20) (Operand.tmp 22)),
        SOper.mk (some 25) none (SOp.load false 1 (Operand.tmp 24)), SOper.mk (some 8) none (SOp.mv (Operand.tmp 25))]
      [0, 5, 6, 8, 20, 21, 22])
    (Stmt.seq
      (Stmt.region
        [SOper.mk (some 26) none (SOp.mv (Operand.tmp 5)), SOper.mk (some 27) none (SOp.mv (Operand.tmp 8)),
          SOper.mk none none (SOp.a (Qk.upd 164) [Operand.tmp 26, Operand.tmp 27, Operand.const (Value.bool true)])]
        [0, 5, 6, 8, 20, 21, 22])
      (Stmt.seq
        (Stmt.region
          [SOper.mk (some 28) none (SOp.mv (Operand.tmp 6)), SOper.mk (some 29) none (SOp.mv (Operand.tmp 0)),
            SOper.mk (some 30) none (SOp.nilCheck (Operand.tmp 29)),
            SOper.mk (some 31) none (SOp.fld 0 (Operand.tmp 30)),
            SOper.mk (some 32) none (SOp.load false 1 (Operand.tmp 31)),
            SOper.mk (some 33) none (SOp.mv (Operand.tmp 8)),
            SOper.mk (some 34) none (SOp.idx 1 (Operand.tmp 32) (Operand.tmp 33)),
            SOper.mk (some 35) none (SOp.load false 1 (Operand.tmp 34)),
            SOper.mk (some 36) none (SOp.call (Operand.func 32) [Operand.tmp 28, Operand.tmp 35]),
            SOper.mk (some 37) none (SOp.un UnOp.not (Operand.tmp 36))]
          [0, 5, 6, 8, 20, 21, 22, 37])
        (Stmt.cond (Operand.tmp 37)
          (Stmt.region
            [SOper.mk (some 38) none (SOp.mv (Operand.tmp 6)), SOper.mk (some 39) none (SOp.mv (Operand.tmp 0)),
              SOper.mk (some 40) none (SOp.nilCheck (Operand.tmp 39)),
              SOper.mk (some 41) none (SOp.fld 0 (Operand.tmp 40)),
              SOper.mk (some 42) none (SOp.load false 1 (Operand.tmp 41)),
              SOper.mk (some 43) none (SOp.mv (Operand.tmp 8)),
              SOper.mk (some 44) none (SOp.idx 1 (Operand.tmp 42) (Operand.tmp 43)),
              SOper.mk (some 45) none (SOp.load false 1 (Operand.tmp 44)),
              SOper.mk (some 46) none (SOp.buildS 3 1 [Value.int IntKind.i64 0] [(0, 1, Operand.tmp 45)]),
              SOper.mk (some 47) none (SOp.append 29 3 1 8 (Value.int IntKind.i64 0) (Operand.tmp 38) (Operand.tmp 46)),
              SOper.mk (some 6) none (SOp.mv (Operand.tmp 47))]
            [0, 5, 6, 20, 21, 22])
          Stmt.skip))))
def S194_2 : Stmt :=
  Stmt.region
  [SOper.mk (some 48) none (SOp.ibin BinOp.add (Operand.tmp 22) (Operand.const (Value.int IntKind.i64 1))),
    SOper.mk (some 22) none (SOp.mv (Operand.tmp 48))]
  [0, 5, 6, 20, 21, 22]
def S194_3 : Stmt :=
  Stmt.seq
  (Stmt.region [SOper.mk (some 23) none (SOp.ibin BinOp.lss (Operand.tmp 22) (Operand.tmp 21))]
    [0, 5, 6, 20, 21, 22, 23])
  (Stmt.seq (Stmt.cond (Operand.tmp 23) Stmt.skip (Stmt.exit 0)) (Stmt.join S194_1 S194_2 [6] [0, 5, 20, 21, 22]))
def S194_4 : Stmt :=
  Stmt.block 5
  (Stmt.seq
    (Stmt.region
      [SOper.mk (some 65) none (SOp.idx 1 (Operand.tmp 61) (Operand.tmp 63)),
        SOper.mk (some 66) none (SOp.load false 1 (Operand.tmp 65)), SOper.mk (some 15) none (SOp.mv (Operand.tmp 66))]
      [0, 5, 9, 11, 12, 13, 15, 49, 50, 51, 61, 62, 63])
    (Stmt.seq
      (Stmt.region
        [SOper.mk (some 67) none (SOp.mv (Operand.tmp 5)), SOper.mk (some 68) none (SOp.mv (Operand.tmp 15)),
          SOper.mk (some 69) none (SOp.q (Qk.look 164 false) [Operand.tmp 67, Operand.tmp 68])]
        [0, 5, 9, 11, 12, 13, 15, 49, 50, 51, 61, 62, 63, 69])
      (Stmt.cond (Operand.tmp 69)
        (Stmt.region
          [SOper.mk (some 70) none (SOp.mv (Operand.tmp 12)), SOper.mk (some 71) none (SOp.mv (Operand.tmp 15)),
            SOper.mk (some 72) none (SOp.buildS 3 1 [Value.int IntKind.i64 0] [(0, 1, Operand.tmp 71)]),
            SOper.mk (some 73) none (SOp.append 29 3 1 8 (Value.int IntKind.i64 0) (Operand.tmp 70) (Operand.tmp 72)),
            SOper.mk (some 12) none (SOp.mv (Operand.tmp 73))]
          [0, 5, 9, 11, 12, 13, 49, 50, 51, 61, 62, 63])
        (Stmt.region
          [SOper.mk (some 74) none (SOp.mv (Operand.tmp 13)), SOper.mk (some 75) none (SOp.mv (Operand.tmp 15)),
            SOper.mk (some 76) none (SOp.buildS 3 1 [Value.int IntKind.i64 0] [(0, 1, Operand.tmp 75)]),
            SOper.mk (some 77) none (SOp.append 29 3 1 8 (Value.int IntKind.i64 0) (Operand.tmp 74) (Operand.tmp 76)),
            SOper.mk (some 13) none (SOp.mv (Operand.tmp 77))]
          [0, 5, 9, 11, 12, 13, 49, 50, 51, 61, 62, 63]))))
def S194_5 : Stmt :=
  Stmt.region
  [SOper.mk (some 78) none (SOp.ibin BinOp.add (Operand.tmp 63) (Operand.const (Value.int IntKind.i64 1))),
    SOper.mk (some 63) none (SOp.mv (Operand.tmp 78))]
  [0, 5, 9, 11, 12, 13, 49, 50, 51, 61, 62, 63]
def S194_6 : Stmt :=
  Stmt.seq
  (Stmt.region [SOper.mk (some 64) none (SOp.ibin BinOp.lss (Operand.tmp 63) (Operand.tmp 62))]
    [0, 5, 9, 11, 12, 13, 49, 50, 51, 61, 62, 63, 64])
  (Stmt.seq (Stmt.cond (Operand.tmp 64) Stmt.skip (Stmt.exit 4))
    (Stmt.join S194_4 S194_5 [12, 13] [0, 5, 9, 11, 49, 50, 51, 61, 62, 63]))
def S194_7 : Stmt :=
  Stmt.seq
  (Stmt.region [SOper.mk (some 107) none (SOp.ibin BinOp.lss (Operand.tmp 106) (Operand.tmp 105))]
    [0, 5, 9, 11, 16, 49, 50, 51, 104, 105, 106, 107])
  (Stmt.seq (Stmt.cond (Operand.tmp 107) Stmt.skip (Stmt.exit 6))
    (Stmt.seq
      (Stmt.block 7
        (Stmt.seq
          (Stmt.region
            [SOper.mk (some 108) none (SOp.idx 1 (Operand.tmp 104) (Operand.tmp 106)),
              SOper.mk (some 109) none (SOp.load false 1 (Operand.tmp 108)),
              SOper.mk (some 18) none (SOp.mv (Operand.tmp 109))]
            [0, 5, 9, 11, 16, 18, 49, 50, 51, 104, 105, 106])
          (Stmt.region
            [SOper.mk (some 110) none (SOp.mv (Operand.tmp 0)),
              SOper.mk (some 111) none (SOp.nilCheck (Operand.tmp 110)),
              SOper.mk (some 112) none (SOp.fld 0 (Operand.tmp 111)),
              SOper.mk (some 113) none (SOp.load false 1 (Operand.tmp 112)),
              SOper.mk (some 114) none (SOp.mv (Operand.tmp 18)), SOper.mk (some 115) none (SOp.mv (Operand.tmp 16)),
              SOper.mk (some 116) none (SOp.idx 1 (Operand.tmp 113) (Operand.tmp 114)),
              SOper.mk none none (SOp.store 1 (Operand.tmp 116) (Operand.tmp 115))]
            [0, 5, 9, 11, 16, 49, 50, 51, 104, 105, 106])))
      (Stmt.region
        [SOper.mk (some 117) none (SOp.ibin BinOp.add (Operand.tmp 106) (Operand.const (Value.int IntKind.i64 1))),
          SOper.mk (some 106) none (SOp.mv (Operand.tmp 117))]
        [0, 5, 9, 11, 16, 49, 50, 51, 104, 105, 106])))
def S194_8 : Stmt :=
  Stmt.block 3
  (Stmt.seq
    (Stmt.region
      [SOper.mk (some 53) none (SOp.idx 1 (Operand.tmp 49) (Operand.tmp 51)),
        SOper.mk (some 54) none (SOp.load false 1 (Operand.tmp 53)), SOper.mk (some 11) none (SOp.mv (Operand.tmp 54))]
      [0, 5, 9, 11, 49, 50, 51])
    (Stmt.seq
      (Stmt.region
        [SOper.mk (some 12) none (SOp.mv (Operand.const (Value.slice none 0 0))),
          SOper.mk (some 13) none (SOp.mv (Operand.const (Value.slice none 0 0)))]
        [0, 5, 9, 11, 12, 13, 49, 50, 51])
      (Stmt.seq
        (Stmt.seq
          (Stmt.region
            [SOper.mk (some 55) none (SOp.mv (Operand.tmp 0)), SOper.mk (some 56) none (SOp.nilCheck (Operand.tmp 55)),
              SOper.mk (some 57) none (SOp.fld 1 (Operand.tmp 56)),
              SOper.mk (some 58) none (SOp.load false 1 (Operand.tmp 57)),
              SOper.mk (some 59) none (SOp.mv (Operand.tmp 11)),
              SOper.mk (some 60) none (SOp.idx 1 (Operand.tmp 58) (Operand.tmp 59)),
              SOper.mk (some 61) none (SOp.load false 1 (Operand.tmp 60)),
              SOper.mk (some 62) none (SOp.len false (Operand.tmp 61)),
              SOper.mk (some 63) none (SOp.mv (Operand.const (Value.int IntKind.i64 0)))]
            [0, 5, 9, 11, 12, 13, 49, 50, 51, 61, 62, 63])
          (Stmt.block 4 (Stmt.loop S194_6 [12, 13, 63] [0, 5, 9, 11, 49, 50, 51, 61, 62])))
        (Stmt.seq
          (Stmt.seq
            (Stmt.region
              [SOper.mk (some 79) none (SOp.mv (Operand.tmp 13)),
                SOper.mk (some 80) none (SOp.len false (Operand.tmp 79)),
                SOper.mk (some 81) none (SOp.ibin BinOp.eql (Operand.tmp 80) (Operand.const (Value.int IntKind.i64 0)))]
              [0, 5, 9, 11, 12, 13, 49, 50, 51, 81])
            (Stmt.cond (Operand.tmp 81) (Stmt.exit 3) Stmt.skip))
          (Stmt.seq
            (Stmt.region
              [SOper.mk (some 82) none (SOp.mv (Operand.tmp 0)),
                SOper.mk (some 83) none (SOp.nilCheck (Operand.tmp 82)),
                SOper.mk (some 84) none (SOp.fld 1 (Operand.tmp 83)),
                SOper.mk (some 85) none (SOp.load false 1 (Operand.tmp 84)),
                SOper.mk (some 86) none (SOp.len false (Operand.tmp 85)),
                SOper.mk (some 16) none (SOp.mv (Operand.tmp 86))]
              [0, 5, 9, 11, 12, 13, 16, 49, 50, 51])
            (Stmt.seq
              (Stmt.region
                [SOper.mk (some 87) none (SOp.mv (Operand.tmp 0)),
                  SOper.mk (some 88) none (SOp.nilCheck (Operand.tmp 87)),
                  SOper.mk (some 89) none (SOp.fld 1 (Operand.tmp 88)),
                  SOper.mk (some 90) none (SOp.load false 1 (Operand.tmp 89)),
                  SOper.mk (some 91) none (SOp.mv (Operand.tmp 11)), SOper.mk (some 92) none (SOp.mv (Operand.tmp 12)),
                  SOper.mk (some 93) none (SOp.idx 1 (Operand.tmp 90) (Operand.tmp 91)),
                  SOper.mk none none (SOp.store 1 (Operand.tmp 93) (Operand.tmp 92))]
                [0, 5, 9, 11, 13, 16, 49, 50, 51])
              (Stmt.seq
                (Stmt.region
                  [SOper.mk (some 94) none (SOp.mv (Operand.tmp 0)), SOper.mk (some 95) none (SOp.mv (Operand.tmp 0)),
                    SOper.mk (some 96) none (SOp.nilCheck (Operand.tmp 95)),
                    SOper.mk (some 97) none (SOp.fld 1 (Operand.tmp 96)),
                    SOper.mk (some 98) none (SOp.load false 1 (Operand.tmp 97)),
                    SOper.mk (some 99) none (SOp.mv (Operand.tmp 13)),
                    SOper.mk (some 100) none (SOp.buildS 29 1 [Value.slice none 0 0] [(0, 1, Operand.tmp 99)]),
                    SOper.mk (some 101) none
                      (SOp.append 65 29 1 24 (Value.slice none 0 0) (Operand.tmp 98) (Operand.tmp 100)),
                    SOper.mk (some 102) none (SOp.nilCheck (Operand.tmp 94)),
                    SOper.mk (some 103) none (SOp.fld 1 (Operand.tmp 102)),
                    SOper.mk none none (SOp.store 1 (Operand.tmp 103) (Operand.tmp 101))]
                  [0, 5, 9, 11, 13, 16, 49, 50, 51])
                (Stmt.seq
                  (Stmt.seq
                    (Stmt.region
                      [SOper.mk (some 104) none (SOp.mv (Operand.tmp 13)),
                        SOper.mk (some 105) none (SOp.len false (Operand.tmp 104)),
                        SOper.mk (some 106) none (SOp.mv (Operand.const (Value.int IntKind.i64 0)))]
                      [0, 5, 9, 11, 16, 49, 50, 51, 104, 105, 106])
                    (Stmt.block 6 (Stmt.loop S194_7 [106] [0, 5, 9, 11, 16, 49, 50, 51, 104, 105])))
                  (Stmt.region
                    [SOper.mk (some 118) none (SOp.mv (Operand.tmp 9)),
                      SOper.mk (some 119) none (SOp.mv (Operand.tmp 11)),
                      SOper.mk (some 120) none (SOp.mv (Operand.tmp 16)),
                      SOper.mk (some 121) none
                        (SOp.build 228 [Value.int IntKind.i64 0, Value.int IntKind.i64 0]
                          [(0, 1, Operand.tmp 119), (1, 1, Operand.tmp 120)]),
                      SOper.mk (some 122) none
                        (SOp.buildS 228 1 [Value.int IntKind.i64 0, Value.int IntKind.i64 0] [(0, 2, Operand.tmp 121)]),
                      SOper.mk (some 123) none
                        (SOp.append 260 228 2 16
                          (Value.agg (Array.mk [Value.int IntKind.i64 0, Value.int IntKind.i64 0])) (Operand.tmp 118)
                          (Operand.tmp 122)),
                      SOper.mk (some 9) none (SOp.mv (Operand.tmp 123))]
                    [0, 5, 9, 49, 50, 51])))))))))
def S194_9 : Stmt :=
  Stmt.region
  [SOper.mk (some 124) none (SOp.ibin BinOp.add (Operand.tmp 51) (Operand.const (Value.int IntKind.i64 1))),
    SOper.mk (some 51) none (SOp.mv (Operand.tmp 124))]
  [0, 5, 9, 49, 50, 51]
def S194_10 : Stmt :=
  Stmt.seq
  (Stmt.region [SOper.mk (some 52) none (SOp.ibin BinOp.lss (Operand.tmp 51) (Operand.tmp 50))]
    [0, 5, 9, 49, 50, 51, 52])
  (Stmt.seq (Stmt.cond (Operand.tmp 52) Stmt.skip (Stmt.exit 2)) (Stmt.join S194_8 S194_9 [9] [0, 5, 49, 50, 51]))
def S194_0 : Stmt :=
  Stmt.seq (Stmt.region [SOper.mk (some 4) none (SOp.mv (Operand.const (Value.slice none 0 0)))] [0, 1])
  (Stmt.seq
    (Stmt.region [SOper.mk (some 19) none (SOp.n (Qk.mkmap 164) []), SOper.mk (some 5) none (SOp.mv (Operand.tmp 19))]
      [0, 1, 5])
    (Stmt.seq (Stmt.region [SOper.mk (some 6) none (SOp.mv (Operand.const (Value.slice none 0 0)))] [0, 1, 5, 6])
      (Stmt.seq
        (Stmt.seq
          (Stmt.region
            [SOper.mk (some 20) none (SOp.mv (Operand.tmp 1)), SOper.mk (some 21) none (SOp.len false (Operand.tmp 20)),
              SOper.mk (some 22) none (SOp.mv (Operand.const (Value.int IntKind.i64 0)))]
            [0, 5, 6, 20, 21, 22])
          (Stmt.block 0 (Stmt.loop S194_3 [6, 22] [0, 5, 20, 21])))
        (Stmt.seq (Stmt.region [SOper.mk (some 9) none (SOp.mv (Operand.const (Value.slice none 0 0)))] [0, 5, 6, 9])
          (Stmt.seq
            (Stmt.seq
              (Stmt.region
                [SOper.mk (some 49) none (SOp.mv (Operand.tmp 6)),
                  SOper.mk (some 50) none (SOp.len false (Operand.tmp 49)),
                  SOper.mk (some 51) none (SOp.mv (Operand.const (Value.int IntKind.i64 0)))]
                [0, 5, 9, 49, 50, 51])
              (Stmt.block 2 (Stmt.loop S194_10 [9, 51] [0, 5, 49, 50])))
            (Stmt.seq
              (Stmt.region
                [SOper.mk (some 125) none (SOp.mv (Operand.tmp 9)), SOper.mk (some 4) none (SOp.mv (Operand.tmp 125))]
                [4])
              Stmt.ret))))))
def S194 : FnS := ⟨126, [(4, none)], S194_0⟩
theorem tr194 : trFn Try.prog 194 [] [[0, 1], [0, 1, 5], [0, 1, 5, 6], [0, 5, 6, 20, 21, 22], [6, 22], [0, 5, 20, 21], [0, 5, 6, 20, 21, 22, 23], [6], [0, 5, 20, 21, 22], [0, 5, 6, 8, 20, 21, 22], [0, 5, 6, 8, 20, 21, 22], [0, 5, 6, 8, 20, 21, 22, 37], [0, 5, 6, 20, 21, 22], [0, 5, 6, 20, 21, 22], [0, 5, 6, 9], [0, 5, 9, 49, 50, 51], [9, 51], [0, 5, 49, 50], [0, 5, 9, 49, 50, 51, 52], [9], [0, 5, 49, 50, 51], [0, 5, 9, 11, 49, 50, 51], [0, 5, 9, 11, 12, 13, 49, 50, 51], [0, 5, 9, 11, 12, 13, 49, 50, 51, 61, 62, 63], [12, 13, 63], [0, 5, 9, 11, 49, 50, 51, 61, 62], [0, 5, 9, 11, 12, 13, 49, 50, 51, 61, 62, 63, 64], [12, 13], [0, 5, 9, 11, 49, 50, 51, 61, 62, 63], [0, 5, 9, 11, 12, 13, 15, 49, 50, 51, 61, 62, 63], [0, 5, 9, 11, 12, 13, 15, 49, 50, 51, 61, 62, 63, 69], [0, 5, 9, 11, 12, 13, 49, 50, 51, 61, 62, 63], [0, 5, 9, 11, 12, 13, 49, 50, 51, 61, 62, 63], [0, 5, 9, 11, 12, 13, 49, 50, 51, 61, 62, 63], [0, 5, 9, 11, 12, 13, 49, 50, 51, 81], [0, 5, 9, 11, 12, 13, 16, 49, 50, 51], [0, 5, 9, 11, 13, 16, 49, 50, 51], [0, 5, 9, 11, 13, 16, 49, 50, 51], [0, 5, 9, 11, 16, 49, 50, 51, 104, 105, 106], [106], [0, 5, 9, 11, 16, 49, 50, 51, 104, 105], [0, 5, 9, 11, 16, 49, 50, 51, 104, 105, 106, 107], [0, 5, 9, 11, 16, 18, 49, 50, 51, 104, 105, 106], [0, 5, 9, 11, 16, 49, 50, 51, 104, 105, 106], [0, 5, 9, 11, 16, 49, 50, 51, 104, 105, 106], [0, 5, 9, 49, 50, 51], [0, 5, 9, 49, 50, 51], [4]] = some S194 := by kernel_rfl
end Go.Proofs.Ytniobbepliknmaa.V
/- mini.parts.split walked; no condition. -/
namespace Go.Proofs.Ytniobbepliknmaa.V
open Go
set_option linter.unusedVariables false
set_option linter.unusedSimpArgs false
attribute [local go_sem] e_seq e_region e_quiet e_join e_loop e_cond e_block e_exit e_ret e_skip e_fin e_kseq e_snrm e_sret e_sex e_bnrm e_bret e_bex e_rnrm e_rret e_res e_condC e_nil e_g e_mv g_mv e_pick g_pick pickC_eq e_ibin g_ibin ibinC_eq e_sbin g_sbin e_beq g_beq beqC_eq e_nilq g_nilq nilqC_sl nilqC_pt nilqC_mp e_un g_un unC_not unC_neg e_conv g_conv convC_eq e_fld g_fld fldC_ref fldC_ptr e_nilCheck g_nilCheck nilCheckC_ref nilCheckC_ptr nilCheckC_fun e_field g_field fieldC_eq e_len g_len lenC_sl lenC_str e_extract g_extract extractC_eq e_mkFunc e_build g_build e_idiv g_idiv idivC_eq e_ishift g_ishift ishiftC_eq e_idx g_idx e_idxA g_idxA e_load g_load e_loadB g_loadB atB_ref atB_v g_mkFunc loadC_ref loadC_ptr loadB_eq e_slc g_slc e_box boxC_loc boxC_esc e_alloc allocC_loc allocC_esc e_buildS e_store storeC_ref storeC_ptr storeB_eq e_append e_appz e_mk mkC_eq e_call callC_eq e_fn g_fn fnC_eq fnV_min' fnV_max' fnV_rune' e_q g_q e_a e_n g_call g_box g_alloc g_buildS g_store g_append g_mk g_a g_n g_dead e_dead e_callK e_drawn e_tree e_finJ e_tk e_tfin e_tno e_nbt_q e_nbt_qn e_nbt_a e_nbt_an e_nbt_fin e_drawnB e_bxb_nil e_bxb e_stB_none e_stB_some boxSt_store bs_mv bs_pick bs_ibin bs_idiv bs_ishift bs_sbin bs_beq bs_nilq bs_un bs_conv bs_box bs_alloc bs_build bs_buildS bs_load bs_fld bs_nilCheck bs_idx bs_idxA bs_field bs_slc bs_len bs_append bs_appz bs_mk bs_call bs_extract bs_mkFunc bs_fn bs_q bs_a bs_n bs_loadB bs_dead isBox_box e_early_nil e_early_t e_early_f e_nob_nil e_nob_none e_nob_some isBox_dead isBox_v isBox_ref e_dnil e_dk e_ek e_finB vcOps_vc1 e_dcons e_tq e_ekt e_tearly e_talt e_dearly look_nil look_c proj_nil proj_c looks_nil looks_c zip_nil zip_c val_tmp val_const val_func slv_v slv_box slv_ref slot_tmp slot_const slot_func slotL_v slotL_box slotL_ref put_some put_none updBox_c boxSet_box gd_eq slotVals_nil slotVals_c slotVals_b boxV_box boxOn_box slotsOn_nil slotsOn_c slotsOn_b resV_one resV_two vals_nil vals_c allOn_nil allOn_c partOn_nil partOn_c partVals_nil partVals_c fits_nil fits_c fillL_nil fillL_c mkv_one mkv_agg cellsV_agg cellsV_int cellsV_bool cellsV_slice cellsV_string cellsV_pointer cellsV_func cellsV_nilf cellsV_map one'_nil one'_c oc_int oc_bool oc_slice oc_string oc_pointer oc_func oc_nilf oc_map setC_eq iv_add iv_sub iv_mul iv_eql iv_neq iv_lss iv_leq iv_gtr iv_geq iok_add iok_sub iok_mul iok_eql iok_neq iok_lss iok_leq iok_gtr iok_geq pickV_bool args0_nil args0_c bnd_none bnd_some imp_bt imp_bf imp_ebt imp_ebf imp_eb1 imp_np imp_pp beq_tt beq_tf beq_ft beq_ff cond_or cond_and e_round e_meet Int.le_refl Int.toNat_zero decide_true decide_false Bool.or_false Bool.false_or Bool.true_or Bool.or_true Bool.and_false Bool.false_and Bool.bne_false Bool.bne_true beq_iff_eq Int.cast_ofNat_Int not_false_eq_true not_true_eq_false false_and and_false false_implies true_implies true_and and_true Bool.true_and Bool.and_true Bool.not_true Bool.not_false forall_const implies_true List.take_zero List.drop_zero List.take_succ_cons List.drop_succ_cons List.take_nil List.drop_nil List.length_cons List.length_nil List.nil_append List.append_nil List.cons_append Int.toNat_natCast decide_eq_true_eq decide_eq_false_iff_not cond_true cond_false and_self List.getElem?_cons_zero List.getElem?_cons_succ List.set_cons_zero List.set_cons_succ Option.some.injEq exists_eq_left' Nat.zero_add Nat.add_zero Nat.mul_one imp_self true_or or_true or_false false_or Bool.or_eq_true Bool.or_eq_false_iff Bool.and_eq_true Bool.and_eq_false_iff Bool.not_eq_true' Bool.not_eq_false'

/-- two numbers side by side -/
instance : Rep (Nat × Nat) where
  sz := 2
  ok _ x cs := cs = [.int .i64 (x.1 : Int), .int .i64 (x.2 : Int)]
  len h := by subst h; rfl
  one h := by subst h; simp [one', Value.oneCell']
  mono h _ := h
theorem SlOk.toInt {h : Mem} {A : Option Addr} {c : Nat} {xs : List Nat} (q : SlOk h A c xs) : SlOk h A c (xs.map fun (x : Nat) => (x : Int)) := by
  refine ⟨by simpa using q.cap, q.max, by simpa using q.short, ?_⟩
  rcases q.at' with q | ⟨b, o, cells, T, fr, hA, hb, hx⟩
  · exact .inl (by rw [q]; rfl)
  · refine .inr ⟨b, o, cells, T, fr, hA, hb, fun i x hi => ?_⟩
    rw [List.getElem?_map] at hi
    cases hy : xs[i]? with
    | none => rw [hy] at hi; simp at hi
    | some y =>
      rw [hy] at hi
      simp at hi
      subst hi
      exact hx i y hy
theorem slices_containsN {Γr : Ctx} {A : Option Addr} {c : Nat} {xs : List Nat} (hx : SlOk (lk Γr) A c xs) (x : Nat) :
    Ret Try.prog 32 [.slice A xs.length c, .int .i64 (x : Int)] Γr [] (fun v Γ => Γ = [] ∧ v = .bool (decide (x ∈ xs))) := by
  have := slices_contains hx.toInt (x : Int)
  rw [List.length_map] at this
  refine this.mono fun v Γ h => ⟨h.1, ?_⟩
  rw [h.2]
  congr 1
  simp only [List.mem_map, decide_eq_decide]
  exact ⟨fun ⟨a, h1, h2⟩ => by have : a = x := by omega
                               exact this ▸ h1, fun h => ⟨x, h, rfl⟩⟩
/-- of, where what is in l is set to n -/
def setsN (of l : List Nat) (n : Nat) : List Nat := l.foldl (fun o s => o.set s n) of
theorem setsN_len (of l : List Nat) (n : Nat) : (setsN of l n).length = of.length := by
  unfold setsN
  induction l generalizing of with
  | nil => rfl
  | cons x r ih => simp only [List.foldl_cons]; rw [ih]; simp
theorem setsN_snoc (of l : List Nat) (x n : Nat) : setsN of (l ++ [x]) n = (setsN of l n).set x n := by simp [setsN, List.foldl_append]
theorem setsN_get {of l : List Nat} {n s : Nat} (hl : ∀ x ∈ l, x < of.length) : (setsN of l n).getD s 0 = if s ∈ l then n else of.getD s 0 := by
  unfold setsN
  induction l generalizing of with
  | nil => simp
  | cons x r ih =>
    simp only [List.foldl_cons]
    rw [ih (fun y hy => by rw [List.length_set]; exact hl y (by simp [hy])), getD_setL (hl x (by simp))]
    by_cases h1 : s ∈ r
    · simp [h1]
    · by_cases h2 : s = x
      · simp [h2]
      · simp [h1, h2]
theorem parts_split {Γr : Ctx} {p bo N : Nat} {of : List Nat} {bl : List (List Nat)} {Γ0 : Ctx} (hW : PartW p bo N of bl Γ0) (hP : PrtN N of bl) (hN : N ≤ 1000) {l : List Nat} {A : Option Addr} {c : Nat} (hl : SlOk (lk Γr) A c l) (hlN : ∀ s ∈ l, s < N) (hll : l.length ≤ 1000000) :
    Ret Try.prog 194 [.pointer (some ⟨p, 0, none⟩), .slice A l.length c] Γr Γ0 (fun v Γ => ∃ Γ1 gq of' bl' T out, Γ = gq :: Γ1 ∧ PartW p bo N of' bl' Γ1 ∧ Bld gq (lk []) 228 v out ∧ Spl N l of bl.length T of' bl' out ∧ ∀ s, s < N → s ∈ l → of.getD s 0 ∈ T) := by
  generalize hR : (fun (v : Value) (Γ : Ctx) => ∃ Γ1 gq of' bl' T out, _) = R
  refine ret_of_vc tr194 (Nat.le_of_ble_eq_true rfl) ?_
  obtain ⟨gp, go, gb, gd, vb, hs, rfl, hgp, hAo, hBb, hHd⟩ := hW
  have hcnt := hP.count
  simp -implicitDefEqProofs only [S194, S194_0, go_sem, Nat.reduceBEq, Nat.reduceAdd, Nat.reduceSub, Nat.reduceMul, Nat.reduceLeDiff, reduceCtorEq, ↓reduceIte, Int.reduceLT, Int.reduceLE, Int.reduceEq, Int.reduceNe]
  refine s_mkmap fun bm => ?_
  simp -implicitDefEqProofs only [go_sem, Nat.reduceBEq, Nat.reduceAdd, Nat.reduceSub, Nat.reduceMul, Nat.reduceLeDiff, reduceCtorEq, ↓reduceIte, Int.reduceLT, Int.reduceLE, Int.reduceEq, Int.reduceNe]
  refine s_loop (fun f vs Γ => ∃ (i : Nat) (X : List Int) (T : List Nat) (vt : Value) (gm gt : PH), vs = [.v true vt, .v true (.int .i64 i)] ∧ i + f = l.length ∧ Γ = [gm, gt, gp, go, gb, gd] ∧ SetM gm bm X ∧ (∀ s : Nat, (s : Int) ∈ X ↔ s ∈ l.take i) ∧ Bld gt (lk []) 3 vt T ∧ T.Nodup ∧
      (∀ b ∈ T, ∃ s ∈ l, of.getD s 0 = b) ∧ ∀ s ∈ l.take i, of.getD s 0 ∈ T) l.length
    (Up.sel [[0], [], [1], [2], [3], [4]] (by decide) fun _ _ => ⟨0, [], [], _, _, _, rfl, by omega, rfl, MapM.new _ _ _ _, by simp, Bld.nil _ _ _, by simp, by simp, by simp⟩) ?_
  rintro f vs Γ ⟨i, X, T, vt, gm, gt, rfl, hif, rfl, hM, hX, hBt, hTn, hTs, hTc⟩
  have hTb : ∀ b ∈ T, b < bl.length := fun b hb => by
    obtain ⟨s, h1, rfl⟩ := hTs b hb
    exact hP.lt s (hlN s h1)
  have hTl : T.length ≤ bl.length := nodup_bound _ _ hTn hTb
  obtain ⟨At, ct, et, hSt⟩ := hBt.slok (L' := lk [gt]) (Mem.le.refl _) (lk_sub (by simp)) (by omega)
  subst et
  simp -implicitDefEqProofs only [S194_3, go_sem, Nat.reduceBEq, Nat.reduceAdd, Nat.reduceSub, Nat.reduceMul, Nat.reduceLeDiff, reduceCtorEq, ↓reduceIte, Int.reduceLT, Int.reduceLE, Int.reduceEq, Int.reduceNe]
  refine ⟨fun hlt => ?_, fun hge => ?_⟩
  · have hi : i < l.length := by omega
    have hsN := hlN _ (List.getElem_mem hi)
    obtain ⟨b1, o1, hA1, hc1⟩ := hl.nat hi
    refine s_split ?_
    simp -implicitDefEqProofs only [S194_1, S194_2, go_sem, Nat.reduceBEq, Nat.reduceAdd, Nat.reduceSub, Nat.reduceMul, Nat.reduceLeDiff, reduceCtorEq, ↓reduceIte, Int.reduceLT, Int.reduceLE, Int.reduceEq, Int.reduceNe]
    refine s_idx hA1 (by omega) (by omega) ?_
    simp -implicitDefEqProofs only [go_sem, Nat.reduceBEq, Nat.reduceAdd, Nat.reduceSub, Nat.reduceMul, Nat.reduceLeDiff, reduceCtorEq, ↓reduceIte, Int.reduceLT, Int.reduceLE, Int.reduceEq, Int.reduceNe]
    refine s_ld0 (hc1 _ (lk_r [gm, gt, gp, go, gb, gd] _)) (by simp) (by simp) ?_
    simp -implicitDefEqProofs only [go_sem, Nat.reduceBEq, Nat.reduceAdd, Nat.reduceSub, Nat.reduceMul, Nat.reduceLeDiff, reduceCtorEq, ↓reduceIte, Int.reduceLT, Int.reduceLE, Int.reduceEq, Int.reduceNe]
    refine s_set (ix := 0) rfl hM (okI_of (by omega)) ?_
    intro gm' hM'
    simp -implicitDefEqProofs only [go_sem, Nat.reduceBEq, Nat.reduceAdd, Nat.reduceSub, Nat.reduceMul, Nat.reduceLeDiff, reduceCtorEq, ↓reduceIte, Int.reduceLT, Int.reduceLE, Int.reduceEq, Int.reduceNe]
    refine s_ld0 (cells_lk ⟨gp, by simp, hgp⟩) (by simp) (by simp) ?_
    simp -implicitDefEqProofs only [go_sem, Nat.reduceBEq, Nat.reduceAdd, Nat.reduceSub, Nat.reduceMul, Nat.reduceLeDiff, reduceCtorEq, ↓reduceIte, Int.reduceLT, Int.reduceLE, Int.reduceEq, Int.reduceNe]
    refine s_idx rfl (by omega) (by omega) ?_
    simp -implicitDefEqProofs only [go_sem, Nat.reduceBEq, Nat.reduceAdd, Nat.reduceSub, Nat.reduceMul, Nat.reduceLeDiff, reduceCtorEq, ↓reduceIte, Int.reduceLT, Int.reduceLE, Int.reduceEq, Int.reduceNe]
    refine s_ld0 (by simpa [Sc.enc] using hAo.cell (i := l[i]) (by rw [hP.len]; exact hsN) (Γ := [gm', gt, gp, go, gb, gd] ++ Γr) (by simp)) (by simp) (by simp) ?_
    simp -implicitDefEqProofs only [go_sem, Nat.reduceBEq, Nat.reduceAdd, Nat.reduceSub, Nat.reduceMul, Nat.reduceLeDiff, reduceCtorEq, ↓reduceIte, Int.reduceLT, Int.reduceLE, Int.reduceEq, Int.reduceNe]
    have hof : of.getD l[i] 0 = of[l[i]]'(by rw [hP.len]; exact hsN) := by rw [List.getD_eq_getElem?_getD, List.getElem?_eq_getElem (by rw [hP.len]; exact hsN)]; rfl
    have hX' : ∀ s : Nat, (s : Int) ∈ addS X (l[i] : Int) ↔ s ∈ l.take (i + 1) := fun s => by
      rw [addS_mem, hX, List.take_succ_eq_append_getElem hi]
      simp only [List.mem_append, List.mem_singleton]
      exact or_congr_right ⟨fun h => by omega, fun h => by omega⟩
    rw [← hof]
    refine CallVC.read (slices_containsN (hSt.mono (lk_sub fun g hg => by simp at hg; subst hg; simp)) (of.getD l[i] 0)) ?_
    rintro v Γ' ⟨rfl, rfl⟩
    simp -implicitDefEqProofs only [go_sem, Nat.reduceBEq, Nat.reduceAdd, Nat.reduceSub, Nat.reduceMul, Nat.reduceLeDiff, reduceCtorEq, ↓reduceIte, Int.reduceLT, Int.reduceLE, Int.reduceEq, Int.reduceNe]
    refine ⟨fun hno => ?_, fun hyes => ?_⟩
    · refine s_ld0 (cells_lk ⟨gp, by simp, hgp⟩) (by simp) (by simp) ?_
      simp -implicitDefEqProofs only [go_sem, Nat.reduceBEq, Nat.reduceAdd, Nat.reduceSub, Nat.reduceMul, Nat.reduceLeDiff, reduceCtorEq, ↓reduceIte, Int.reduceLT, Int.reduceLE, Int.reduceEq, Int.reduceNe]
      refine s_idx rfl (by omega) (by omega) ?_
      simp -implicitDefEqProofs only [go_sem, Nat.reduceBEq, Nat.reduceAdd, Nat.reduceSub, Nat.reduceMul, Nat.reduceLeDiff, reduceCtorEq, ↓reduceIte, Int.reduceLT, Int.reduceLE, Int.reduceEq, Int.reduceNe]
      refine s_ld0 (by simpa [Sc.enc] using hAo.cell (i := l[i]) (by rw [hP.len]; exact hsN) (Γ := [gm', gt, gp, go, gb, gd] ++ Γr) (by simp)) (by simp) (by simp) ?_
      simp -implicitDefEqProofs only [go_sem, Nat.reduceBEq, Nat.reduceAdd, Nat.reduceSub, Nat.reduceMul, Nat.reduceLeDiff, reduceCtorEq, ↓reduceIte, Int.reduceLT, Int.reduceLE, Int.reduceEq, Int.reduceNe]
      rw [← hof]
      intro b9
      refine s_app1S (α := Nat) (ix := 2) (of.getD l[i] 0) rfl hBt cells_one rfl (by omega) (by unfold maxLen; omega) ?_
      intro vt' gt' hBt' _
      simp -implicitDefEqProofs only [go_sem, Nat.reduceBEq, Nat.reduceAdd, Nat.reduceSub, Nat.reduceMul, Nat.reduceLeDiff, reduceCtorEq, ↓reduceIte, Int.reduceLT, Int.reduceLE, Int.reduceEq, Int.reduceNe]
      simp (disch := omega) only [wrap_id]
      refine Up.sel [[1], [2], [3], [4], [5], [6]] (by decide) fun _ _ => ⟨f - 1, by omega, Up.here ⟨i + 1, _, T ++ [of.getD l[i] 0], vt', _, _, rfl, by omega, rfl, hM', hX', hBt', ?_, ?_, ?_⟩⟩
      · exact List.nodup_append.2 ⟨hTn, by simp, fun x hx y hy e => by simp at hy; subst hy; subst e; exact hno hx⟩
      · intro b hb
        rcases List.mem_append.1 hb with hb | hb
        · exact hTs b hb
        · simp only [List.mem_singleton] at hb; exact ⟨_, List.getElem_mem hi, hb.symm⟩
      · intro s hs
        rw [List.take_succ_eq_append_getElem hi] at hs
        rcases List.mem_append.1 hs with hs | hs
        · exact List.mem_append_left _ (hTc s hs)
        · simp only [List.mem_singleton] at hs; subst hs; simp
    · simp (disch := omega) only [wrap_id]
      refine Up.here ⟨f - 1, by omega, Up.here ⟨i + 1, _, T, _, gm', gt, rfl, by omega, rfl, hM', hX', hBt, hTn, hTs, fun s hs => ?_⟩⟩
      rw [List.take_succ_eq_append_getElem hi] at hs
      rcases List.mem_append.1 hs with hs | hs
      · exact hTc s hs
      · simp only [List.mem_singleton] at hs; subst hs; exact hyes
  have hi : i = l.length := by omega
  subst hi
  rw [List.take_length] at hX hTc
  have h0 : ∀ s, s < N → of.getD s 0 < bl.length := hP.lt
  refine s_loop (fun f vs Γ => ∃ (j : Nat) (of' : List Nat) (bl' : List (List Nat)) (out : List (Nat × Nat)) (vo : Value) (Γ1 : Ctx) (gq : PH), vs = [.v true vo, .v true (.int .i64 j)] ∧ j + f = T.length ∧ Γ = Γ1 ++ [gq, gm, gt] ∧ PartW p bo N of' bl' Γ1 ∧ Bld gq (lk []) 228 vo out ∧
      Spl N l of bl.length (T.take j) of' bl' out) T.length
    (Up.sel [[2], [3], [4], [5], [], [0], [1]] (by decide) fun _ _ => ⟨0, of, bl, [], _, [gp, go, gb, gd], _, rfl, by omega, rfl, ⟨gp, go, gb, gd, vb, hs, rfl, hgp, hAo, hBb, hHd⟩, Bld.nil _ _ _, by simpa using Spl.init hP⟩) ?_
  clear hgp hAo hBb hHd
  clear gp go gb gd vb hs
  rintro f vs Γ ⟨j, of', bl', out, vo, Γ1, gq, rfl, hjf, rfl, ⟨gp, go, gb, gd, vb, hs, rfl, hgp, hAo, hBb, hHd⟩, hBq, hS⟩
  simp -implicitDefEqProofs only [S194_10, go_sem, Nat.reduceBEq, Nat.reduceAdd, Nat.reduceSub, Nat.reduceMul, Nat.reduceLeDiff, reduceCtorEq, ↓reduceIte, Int.reduceLT, Int.reduceLE, Int.reduceEq, Int.reduceNe]
  refine ⟨fun hlt => ?_, fun hge => ?_⟩
  · have hj : j < T.length := by omega
    obtain ⟨b1, o1, hAt, hc1⟩ := hSt.nat hj
    obtain ⟨b, hbb⟩ : ∃ b, b = T[j] := ⟨_, rfl⟩
    have hbm : b ∈ T := hbb ▸ List.getElem_mem hj
    have hbT : b < bl.length := hTb _ hbm
    have hcl := hS.cnt
    have hbn : b ∉ T.take j := fun q => by
      obtain ⟨m, hm⟩ := List.getElem?_of_mem q
      have hmj : m < j := by
        have := (List.getElem?_eq_some_iff.1 hm).1
        simp at this
        omega
      rw [List.getElem?_take, if_pos hmj] at hm
      obtain ⟨h1, h2⟩ := List.getElem?_eq_some_iff.1 hm
      exact absurd (h2.trans hbb) ((List.pairwise_iff_getElem.1 hTn) m j h1 hj hmj)
    have htk : T.take (j + 1) = T.take j ++ [b] := by rw [hbb]; exact List.take_succ_eq_append_getElem hj
    rw [← hbb] at hc1
    have hocc := hTs b hbm
    have hbl' : b < bl'.length := by omega
    have hbk := hS.blk h0 hbT hbn
    have hblN := hS.prt.short hbl'
    have hbcnt := hS.prt.count
    have hhl : hs.length = bl'.length := hHd.1
    obtain ⟨Ab, cb, eb, hSb⟩ := hBb.slok (L' := lk [gb]) (Mem.le.refl _) (lk_sub (by simp)) (by omega)
    subst eb
    obtain ⟨b2, o2, hAb, hc2⟩ := hSb.hd (i := b) (by omega)
    obtain ⟨hyn, hyS⟩ := hHd.2 b _ _ (List.getElem?_eq_getElem (by omega)) (List.getElem?_eq_getElem hbl')
    have hgd : bl'.getD b [] = bl'[b] := by rw [List.getD_eq_getElem?_getD, List.getElem?_eq_getElem hbl']; rfl
    obtain ⟨Lb, hLb⟩ : ∃ Lb, Lb = bl'.getD b [] := ⟨_, rfl⟩
    rw [← hLb] at hbk hblN hgd
    rw [← hgd] at hyn hyS
    generalize hs[b]'(by omega) = y at *
    obtain ⟨yA, yn, yc⟩ := y
    simp only at hyn hyS hc2
    subst hyn
    refine s_split ?_
    simp -implicitDefEqProofs only [S194_8, S194_9, go_sem, Nat.reduceBEq, Nat.reduceAdd, Nat.reduceSub, Nat.reduceMul, Nat.reduceLeDiff, reduceCtorEq, ↓reduceIte, Int.reduceLT, Int.reduceLE, Int.reduceEq, Int.reduceNe]
    refine s_idx hAt (by omega) (by omega) ?_
    simp -implicitDefEqProofs only [go_sem, Nat.reduceBEq, Nat.reduceAdd, Nat.reduceSub, Nat.reduceMul, Nat.reduceLeDiff, reduceCtorEq, ↓reduceIte, Int.reduceLT, Int.reduceLE, Int.reduceEq, Int.reduceNe]
    refine s_ld0 (hc1 _ (lk_sub fun g hg => by simp at hg; subst hg; simp)) (by simp) (by simp) ?_
    simp -implicitDefEqProofs only [go_sem, Nat.reduceBEq, Nat.reduceAdd, Nat.reduceSub, Nat.reduceMul, Nat.reduceLeDiff, reduceCtorEq, ↓reduceIte, Int.reduceLT, Int.reduceLE, Int.reduceEq, Int.reduceNe]
    refine s_ld (j := 1) (cells_lk ⟨gp, by simp, hgp⟩) (by simp) (by simp) ?_
    simp -implicitDefEqProofs only [go_sem, Nat.reduceBEq, Nat.reduceAdd, Nat.reduceSub, Nat.reduceMul, Nat.reduceLeDiff, reduceCtorEq, ↓reduceIte, Int.reduceLT, Int.reduceLE, Int.reduceEq, Int.reduceNe]
    refine s_idx hAb (by omega) (by omega) ?_
    simp -implicitDefEqProofs only [go_sem, Nat.reduceBEq, Nat.reduceAdd, Nat.reduceSub, Nat.reduceMul, Nat.reduceLeDiff, reduceCtorEq, ↓reduceIte, Int.reduceLT, Int.reduceLE, Int.reduceEq, Int.reduceNe]
    refine s_ld0 (hc2 _ (lk_sub fun g hg => by simp at hg; subst hg; simp)) (by simp) (by simp) ?_
    simp -implicitDefEqProofs only [go_sem, Nat.reduceBEq, Nat.reduceAdd, Nat.reduceSub, Nat.reduceMul, Nat.reduceLeDiff, reduceCtorEq, ↓reduceIte, Int.reduceLT, Int.reduceLE, Int.reduceEq, Int.reduceNe]
    refine s_loop (fun f vs Γ => ∃ (k : Nat) (v1 v2 : Value) (gy gn : PH), vs = [.v true v1, .v true v2, .v true (.int .i64 k)] ∧ k + f = Lb.length ∧ Γ = [gp, go, gb, gd, gq, gm, gt, gy, gn] ∧
      Bld gy (lk []) 3 v1 ((Lb.take k).filter fun (s : Nat) => decide (s ∈ l)) ∧ Bld gn (lk []) 3 v2 ((Lb.take k).filter fun (s : Nat) => !decide (s ∈ l))) Lb.length
      (Up.sel [[0], [1], [2], [3], [4], [5], [6], [], []] (by decide) fun _ _ => ⟨0, _, _, _, _, rfl, by omega, rfl, by simpa using Bld.nil _ _ _, by simpa using Bld.nil _ _ _⟩) ?_
    rintro f2 vs Γ ⟨k, v1, v2, gy, gn, rfl, hkf, rfl, hBy, hBn⟩
    simp -implicitDefEqProofs only [S194_6, go_sem, Nat.reduceBEq, Nat.reduceAdd, Nat.reduceSub, Nat.reduceMul, Nat.reduceLeDiff, reduceCtorEq, ↓reduceIte, Int.reduceLT, Int.reduceLE, Int.reduceEq, Int.reduceNe]
    refine ⟨fun hlt2 => ?_, fun hge2 => ?_⟩
    · have hk : k < Lb.length := by omega
      obtain ⟨b3, o3, hA3, hc3⟩ := hyS.nat hk
      obtain ⟨x, hx⟩ : ∃ x, x = Lb[k] := ⟨_, rfl⟩
      have hsN : x < N := ((hbk _).1 (hx ▸ List.getElem_mem hk)).1
      have htl1 : (Lb.take k).length = k := by simp; omega
      have htk1 : Lb.take (k + 1) = Lb.take k ++ [x] := by rw [hx]; exact List.take_succ_eq_append_getElem hk
      have hl1 : ((Lb.take k).filter fun (s : Nat) => decide (s ∈ l)).length ≤ k := Nat.le_trans (List.length_filter_le _ _) (by omega)
      have hl2 : ((Lb.take k).filter fun (s : Nat) => !decide (s ∈ l)).length ≤ k := Nat.le_trans (List.length_filter_le _ _) (by omega)
      have hnx1 : (Lb.take (k + 1)).filter (fun (s : Nat) => decide (s ∈ l)) = (Lb.take k).filter (fun (s : Nat) => decide (s ∈ l)) ++ (if x ∈ l then [x] else []) := by
        rw [htk1, List.filter_append]
        congr 1
        by_cases q : x ∈ l <;> simp [q]
      have hnx2 : (Lb.take (k + 1)).filter (fun (s : Nat) => !decide (s ∈ l)) = (Lb.take k).filter (fun (s : Nat) => !decide (s ∈ l)) ++ (if x ∈ l then [] else [x]) := by
        rw [htk1, List.filter_append]
        congr 1
        by_cases q : x ∈ l <;> simp [q]
      rw [← hx] at hc3
      obtain ⟨ys, hys⟩ : ∃ ys, ys = (Lb.take k).filter fun (s : Nat) => decide (s ∈ l) := ⟨_, rfl⟩
      obtain ⟨ns, hns⟩ : ∃ ns, ns = (Lb.take k).filter fun (s : Nat) => !decide (s ∈ l) := ⟨_, rfl⟩
      rw [← hys] at hBy hnx1 hl1
      rw [← hns] at hBn hnx2 hl2
      obtain ⟨A5, c5, rfl⟩ := hBy.val
      obtain ⟨A6, c6, rfl⟩ := hBn.val
      refine s_split ?_
      simp -implicitDefEqProofs only [S194_4, S194_5, go_sem, Nat.reduceBEq, Nat.reduceAdd, Nat.reduceSub, Nat.reduceMul, Nat.reduceLeDiff, reduceCtorEq, ↓reduceIte, Int.reduceLT, Int.reduceLE, Int.reduceEq, Int.reduceNe]
      refine s_idx hA3 (by omega) (by omega) ?_
      simp -implicitDefEqProofs only [go_sem, Nat.reduceBEq, Nat.reduceAdd, Nat.reduceSub, Nat.reduceMul, Nat.reduceLeDiff, reduceCtorEq, ↓reduceIte, Int.reduceLT, Int.reduceLE, Int.reduceEq, Int.reduceNe]
      refine s_ld0 (hc3 _ (lk_sub fun g hg => by simp at hg; subst hg; simp)) (by simp) (by simp) ?_
      simp -implicitDefEqProofs only [go_sem, Nat.reduceBEq, Nat.reduceAdd, Nat.reduceSub, Nat.reduceMul, Nat.reduceLeDiff, reduceCtorEq, ↓reduceIte, Int.reduceLT, Int.reduceLE, Int.reduceEq, Int.reduceNe]
      refine s_q trivial (set_look hM (by simp) (okI_of (by omega))) ?_
      rw [show decide ((x : Int) ∈ X) = decide (x ∈ l) from decide_eq_decide.2 (hX x)]
      simp -implicitDefEqProofs only [go_sem, Nat.reduceBEq, Nat.reduceAdd, Nat.reduceSub, Nat.reduceMul, Nat.reduceLeDiff, reduceCtorEq, ↓reduceIte, Int.reduceLT, Int.reduceLE, Int.reduceEq, Int.reduceNe]
      by_cases hq : x ∈ l
      · rw [if_pos hq] at hnx1 hnx2
        refine And.intro ?_ (fun h => absurd hq h)
        intro _ b9
        refine s_app1S (α := Nat) (ix := 8) x rfl hBy cells_one rfl (by omega) (by unfold maxLen; omega) ?_
        intro v1' gy' hBy' _
        simp -implicitDefEqProofs only [go_sem, Nat.reduceBEq, Nat.reduceAdd, Nat.reduceSub, Nat.reduceMul, Nat.reduceLeDiff, reduceCtorEq, ↓reduceIte, Int.reduceLT, Int.reduceLE, Int.reduceEq, Int.reduceNe]
        simp (disch := omega) only [wrap_id]
        refine Up.skip (Up.here ⟨f2 - 1, by omega, Up.here ⟨k + 1, v1', _, gy', gn, rfl, by omega, rfl, by rw [hnx1]; exact hBy', by rw [hnx2, List.append_nil]; exact hBn⟩⟩)
      · rw [if_neg hq] at hnx1 hnx2
        refine And.intro (fun h => absurd h hq) ?_
        intro _ b9
        refine s_app1S (α := Nat) (ix := 9) x rfl hBn cells_one rfl (by omega) (by unfold maxLen; omega) ?_
        intro v2' gn' hBn' _
        simp -implicitDefEqProofs only [go_sem, Nat.reduceBEq, Nat.reduceAdd, Nat.reduceSub, Nat.reduceMul, Nat.reduceLeDiff, reduceCtorEq, ↓reduceIte, Int.reduceLT, Int.reduceLE, Int.reduceEq, Int.reduceNe]
        simp (disch := omega) only [wrap_id]
        refine Up.skip (Up.here ⟨f2 - 1, by omega, Up.here ⟨k + 1, _, v2', gy, gn', rfl, by omega, rfl, by rw [hnx1, List.append_nil]; exact hBy, by rw [hnx2]; exact hBn'⟩⟩)
    · have hk : k = Lb.length := by omega
      subst hk
      rw [List.take_length] at hBy hBn
      have hl1 : (Lb.filter fun (s : Nat) => decide (s ∈ l)).length ≤ Lb.length := List.length_filter_le _ _
      have hl2 : (Lb.filter fun (s : Nat) => !decide (s ∈ l)).length ≤ Lb.length := List.length_filter_le _ _
      have hyes : (Lb.filter fun (s : Nat) => decide (s ∈ l)) ≠ [] := by
        obtain ⟨s, h1, h2⟩ := hocc
        have : s ∈ Lb.filter fun (s : Nat) => decide (s ∈ l) := List.mem_filter.2 ⟨(hbk s).2 ⟨hlN s h1, h2⟩, by simpa using h1⟩
        intro e
        rw [e] at this
        cases this
      have hnoL : ∀ x ∈ Lb.filter (fun (s : Nat) => !decide (s ∈ l)), x < N := fun x hx => ((hbk x).1 (List.mem_filter.1 hx).1).1
      have hdefy : (Lb.filter fun (s : Nat) => decide (s ∈ l)) = (bl'.getD b []).filter (fun s => decide (s ∈ l)) := by rw [hLb]
      have hdefn : (Lb.filter fun (s : Nat) => !decide (s ∈ l)) = (bl'.getD b []).filter (fun s => !decide (s ∈ l)) := by rw [hLb]
      generalize (Lb.filter fun (s : Nat) => decide (s ∈ l)) = ys at *
      generalize (Lb.filter fun (s : Nat) => !decide (s ∈ l)) = ns at *
      obtain ⟨A5, c5, e5, hSy⟩ := hBy.slok (L' := lk [gy]) (Mem.le.refl _) (fun b o ⟨x, hx, _⟩ => by cases hx) (by omega)
      obtain ⟨A6, c6, e6, hSn⟩ := hBn.slok (L' := lk [gn]) (Mem.le.refl _) (fun b o ⟨x, hx, _⟩ => by cases hx) (by omega)
      subst e5 e6
      simp -implicitDefEqProofs only [go_sem, Nat.reduceBEq, Nat.reduceAdd, Nat.reduceSub, Nat.reduceMul, Nat.reduceLeDiff, reduceCtorEq, ↓reduceIte, Int.reduceLT, Int.reduceLE, Int.reduceEq, Int.reduceNe]
      refine ⟨fun hno => ?_, fun hnn => ?_⟩
      · have hns : ns = [] := List.eq_nil_of_length_eq_zero (by omega)
        simp (disch := omega) only [wrap_id]
        refine Up.sel [[0], [1], [2], [3], [4], [5], [6]] (by decide) fun _ _ => ⟨f - 1, by omega, Up.here ⟨j + 1, of', bl', out, vo, [gp, go, gb, gd], gq, rfl, by omega, rfl, ⟨gp, go, gb, gd, _, hs, rfl, hgp, hAo, hBb, hHd⟩, hBq, ?_⟩⟩
        rw [htk]
        exact hS.same h0 hbT hbn (by rw [← hdefn]; exact hns)
      · have hns : ns ≠ [] := fun e => hnn (by rw [e]; rfl)
        refine s_ld (j := 1) (cells_lk ⟨gp, by simp, hgp⟩) (by simp) (by simp) ?_
        simp -implicitDefEqProofs only [go_sem, Nat.reduceBEq, Nat.reduceAdd, Nat.reduceSub, Nat.reduceMul, Nat.reduceLeDiff, reduceCtorEq, ↓reduceIte, Int.reduceLT, Int.reduceLE, Int.reduceEq, Int.reduceNe]
        refine s_ld (j := 1) (cells_lk ⟨gp, by simp, hgp⟩) (by simp) (by simp) ?_
        simp -implicitDefEqProofs only [go_sem, Nat.reduceBEq, Nat.reduceAdd, Nat.reduceSub, Nat.reduceMul, Nat.reduceLeDiff, reduceCtorEq, ↓reduceIte, Int.reduceLT, Int.reduceLE, Int.reduceEq, Int.reduceNe]
        refine s_idx hAb (by omega) (by omega) ?_
        simp -implicitDefEqProofs only [go_sem, Nat.reduceBEq, Nat.reduceAdd, Nat.reduceSub, Nat.reduceMul, Nat.reduceLeDiff, reduceCtorEq, ↓reduceIte, Int.reduceLT, Int.reduceLE, Int.reduceEq, Int.reduceNe]
        subst hAb
        refine s_storeB (α := Hd) (ix := 2) (⟨A5, ys.length, c5⟩ : Hd) rfl hBb (by omega) ?_
        intro gb1 hBb1 _
        simp -implicitDefEqProofs only [go_sem, Nat.reduceBEq, Nat.reduceAdd, Nat.reduceSub, Nat.reduceMul, Nat.reduceLeDiff, reduceCtorEq, ↓reduceIte, Int.reduceLT, Int.reduceLE, Int.reduceEq, Int.reduceNe]
        refine s_ld (j := 1) (cells_lk ⟨gp, by simp, hgp⟩) (by simp) (by simp) ?_
        simp -implicitDefEqProofs only [go_sem, Nat.reduceBEq, Nat.reduceAdd, Nat.reduceSub, Nat.reduceMul, Nat.reduceLeDiff, reduceCtorEq, ↓reduceIte, Int.reduceLT, Int.reduceLE, Int.reduceEq, Int.reduceNe]
        intro b9
        have hBb1' : Bld gb1 (lk []) 29 (.slice (some ⟨b2, o2, none⟩) hs.length cb) (hs.set b ⟨A5, ys.length, c5⟩) := hBb1
        refine s_app1S (α := Hd) (ix := 3) (⟨A6, ns.length, c6⟩ : Hd) rfl hBb1' cells_one rfl (by simp; omega) (by simp; unfold maxLen; omega) ?_
        intro vb2 gb2 hBb2 _
        obtain ⟨Ab2, cb2, rfl⟩ := hBb2.val
        simp -implicitDefEqProofs only [go_sem, Nat.reduceBEq, Nat.reduceAdd, Nat.reduceSub, Nat.reduceMul, Nat.reduceLeDiff, reduceCtorEq, ↓reduceIte, Int.reduceLT, Int.reduceLE, Int.reduceEq, Int.reduceNe]
        refine s_storeF (ix := 1) (o := 1) (n := 1) rfl hgp (by simp) ?_
        simp -implicitDefEqProofs only [go_sem, Nat.reduceBEq, Nat.reduceAdd, Nat.reduceSub, Nat.reduceMul, Nat.reduceLeDiff, reduceCtorEq, ↓reduceIte, Int.reduceLT, Int.reduceLE, Int.reduceEq, Int.reduceNe]
        have hgp1 : (upd gp p (.cells #[.slice (some ⟨bo, 0, none⟩) N N, .slice Ab2 (hs.set b ⟨A5, ys.length, c5⟩ ++ [(⟨A6, ns.length, c6⟩ : Hd)]).length cb2] 257)) p = some (.cells [.slice (some ⟨bo, 0, none⟩) N N, .slice Ab2 (hs.set b ⟨A5, ys.length, c5⟩ ++ [(⟨A6, ns.length, c6⟩ : Hd)]).length cb2].toArray 257 (0, 0)) := upd_self _ _ _
        revert hgp1
        generalize hgq1 : upd gp p _ = gp1
        clear hgq1
        generalize one b9 _ = g9
        intro hgp1
        have hle2 : (hs.set b ⟨A5, ys.length, c5⟩ ++ [(⟨A6, ns.length, c6⟩ : Hd)]).length = hs.length + 1 := by simp
        rw [hle2] at hgp1 hBb2
        have hof'l : of'.length = N := hS.prt.len
        refine s_loop (fun f vs Γ => ∃ (i : Nat) (go : PH), vs = [.v true (.int .i64 i)] ∧ i + f = ns.length ∧ Γ = [g9, gp1, go, gb2, gd, gq, gm, gt, gy, gn] ∧ Arr go bo 3 (setsN of' (ns.take i) hs.length)) ns.length
          (Up.here ⟨0, go, rfl, by omega, rfl, by simpa [setsN] using hAo⟩) ?_
        clear hAo
        clear go
        rintro f2 vs Γ ⟨i, go, rfl, hif2, rfl, hAo⟩
        simp -implicitDefEqProofs only [S194_7, go_sem, Nat.reduceBEq, Nat.reduceAdd, Nat.reduceSub, Nat.reduceMul, Nat.reduceLeDiff, reduceCtorEq, ↓reduceIte, Int.reduceLT, Int.reduceLE, Int.reduceEq, Int.reduceNe]
        refine ⟨fun hlt2 => ?_, fun hge2 => ?_⟩
        · have hi : i < ns.length := by omega
          obtain ⟨x, hx⟩ : ∃ x, x = ns[i] := ⟨_, rfl⟩
          have hxN : x < N := hx ▸ hnoL _ (List.getElem_mem hi)
          obtain ⟨b3, o3, hA3, hc3⟩ := hSn.nat hi
          rw [← hx] at hc3
          refine s_idx hA3 (by omega) (by omega) ?_
          simp -implicitDefEqProofs only [go_sem, Nat.reduceBEq, Nat.reduceAdd, Nat.reduceSub, Nat.reduceMul, Nat.reduceLeDiff, reduceCtorEq, ↓reduceIte, Int.reduceLT, Int.reduceLE, Int.reduceEq, Int.reduceNe]
          refine s_ld0 (hc3 _ (lk_sub fun g hg => by simp at hg; subst hg; simp)) (by simp) (by simp) ?_
          simp -implicitDefEqProofs only [go_sem, Nat.reduceBEq, Nat.reduceAdd, Nat.reduceSub, Nat.reduceMul, Nat.reduceLeDiff, reduceCtorEq, ↓reduceIte, Int.reduceLT, Int.reduceLE, Int.reduceEq, Int.reduceNe]
          refine s_ld0 (cells_lk ⟨gp1, by simp, hgp1⟩) (by simp) (by simp) ?_
          simp -implicitDefEqProofs only [go_sem, Nat.reduceBEq, Nat.reduceAdd, Nat.reduceSub, Nat.reduceMul, Nat.reduceLeDiff, reduceCtorEq, ↓reduceIte, Int.reduceLT, Int.reduceLE, Int.reduceEq, Int.reduceNe]
          refine s_idx rfl (by omega) (by omega) ?_
          simp -implicitDefEqProofs only [go_sem, Nat.reduceBEq, Nat.reduceAdd, Nat.reduceSub, Nat.reduceMul, Nat.reduceLeDiff, reduceCtorEq, ↓reduceIte, Int.reduceLT, Int.reduceLE, Int.reduceEq, Int.reduceNe]
          refine s_storeA (α := Nat) (ix := 2) (hs.length) rfl hAo (by rw [setsN_len]; omega) ?_
          intro go' hAo' _
          simp -implicitDefEqProofs only [go_sem, Nat.reduceBEq, Nat.reduceAdd, Nat.reduceSub, Nat.reduceMul, Nat.reduceLeDiff, reduceCtorEq, ↓reduceIte, Int.reduceLT, Int.reduceLE, Int.reduceEq, Int.reduceNe]
          simp (disch := omega) only [wrap_id]
          refine ⟨f2 - 1, by omega, Up.here ⟨i + 1, go', rfl, by omega, rfl, ?_⟩⟩
          rw [List.take_succ_eq_append_getElem hi, ← hx, setsN_snoc]
          exact hAo'
        · have hi : i = ns.length := by omega
          subst hi
          rw [List.take_length] at hAo
          obtain ⟨Aq, cq, rfl⟩ := hBq.val
          have houtl : out.length ≤ N := by omega
          intro b10
          refine s_app1 (α := Nat × Nat) (ix := 6) (L' := lk []) (x := (b, hs.length)) rfl hBq (Mem.le.refl _) rfl cells_one rfl (by omega) (by unfold maxLen; omega) ?_
          intro vo' gq' hBq' _
          simp -implicitDefEqProofs only [go_sem, Nat.reduceBEq, Nat.reduceAdd, Nat.reduceSub, Nat.reduceMul, Nat.reduceLeDiff, reduceCtorEq, ↓reduceIte, Int.reduceLT, Int.reduceLE, Int.reduceEq, Int.reduceNe]
          simp (disch := omega) only [wrap_id]
          refine Up.sel [[2], [3], [4], [5, 9, 10], [6], [7], [8]] (by decide) fun _ hm => ?_
          have hle := hm [5, 9, 10] (by simp)
          refine ⟨f - 1, by omega, Up.here ⟨j + 1, setsN of' ns hs.length, bl'.set b ys ++ [ns], out ++ [(b, hs.length)], vo', [_, _, _, _], _, rfl, by omega, rfl, ⟨_, _, _, _, _, _, rfl, hgp1, hAo, hBb2, ?_⟩, hBq', ?_⟩⟩
          · refine HdsOk.snoc (HdsOk.set b hHd (Mem.le.trans (lk_sub (by simp [sel])) hle) rfl (hSy.mono (Mem.le.trans (lk_sub (by simp [sel])) hle))) (Mem.le.refl _) rfl (hSn.mono (Mem.le.trans (lk_sub (by simp [sel])) hle))
          · rw [htk, hhl]
            refine hS.part h0 hbT hbn hdefy hdefn hyes hns (by rw [setsN_len]; exact hof'l) fun s hs => ?_
            exact setsN_get fun x hx => by rw [hof'l]; exact hnoL x hx
  · have hj : j = T.length := by omega
    subst hj
    rw [List.take_length] at hS
    refine Up.sel [[4], [0], [1], [2], [3]] (by decide) fun _ _ => ?_
    subst hR
    exact ⟨_, _, of', bl', T, out, rfl, ⟨gp, go, gb, gd, vb, hs, rfl, hgp, hAo, hBb, hHd⟩, hBq, hS, fun s h1 h2 => hTc s h2⟩
end Go.Proofs.Ytniobbepliknmaa.V
/- The text of slices.Equal[[]int,int] as a statement (slots: 0 s1, 1 s2, 2 s1, 3 s2, 5 i); no condition. -/
namespace Go.Proofs.Ytniobbepliknmaa.V
open Go
def S28_1 : Stmt :=
  Stmt.seq
  (Stmt.region [SOper.mk (some 14) none (SOp.ibin BinOp.lss (Operand.tmp 13) (Operand.tmp 12))] [0, 1, 12, 13, 14])
  (Stmt.seq (Stmt.cond (Operand.tmp 14) Stmt.skip (Stmt.exit 0))
    (Stmt.seq
      (Stmt.block 1
        (Stmt.seq
          (Stmt.region
            [SOper.mk (some 15) none (SOp.mv (Operand.tmp 13)), SOper.mk (some 5) none (SOp.mv (Operand.tmp 15))]
            [0, 1, 5, 12, 13])
          (Stmt.seq
            (Stmt.quiet
              [SOper.mk (some 16) none (SOp.mv (Operand.tmp 0)), SOper.mk (some 17) none (SOp.mv (Operand.tmp 5)),
                SOper.mk (some 18) none (SOp.idx 1 (Operand.tmp 16) (Operand.tmp 17)),
                SOper.mk (some 19) none (SOp.load false 1 (Operand.tmp 18)),
                SOper.mk (some 20) none (SOp.mv (Operand.tmp 1)), SOper.mk (some 21) none (SOp.mv (Operand.tmp 5)),
                SOper.mk (some 22) none (SOp.idx 1 (Operand.tmp 20) (Operand.tmp 21)),
                SOper.mk (some 23) none (SOp.load false 1 (Operand.tmp 22)),
                SOper.mk (some 24) none (SOp.ibin BinOp.neq (Operand.tmp 19) (Operand.tmp 23))]
              [0, 1, 12, 13, 24])
            (Stmt.cond (Operand.tmp 24)
              (Stmt.seq (Stmt.region [SOper.mk (some 4) none (SOp.mv (Operand.const (Value.bool false)))] [4]) Stmt.ret)
              Stmt.skip))))
      (Stmt.region
        [SOper.mk (some 25) none (SOp.ibin BinOp.add (Operand.tmp 13) (Operand.const (Value.int IntKind.i64 1))),
          SOper.mk (some 13) none (SOp.mv (Operand.tmp 25))]
        [0, 1, 12, 13])))
def S28_0 : Stmt :=
  Stmt.seq (Stmt.region [SOper.mk (some 4) none (SOp.mv (Operand.const (Value.bool false)))] [0, 1])
  (Stmt.seq
    (Stmt.seq
      (Stmt.region
        [SOper.mk (some 6) none (SOp.mv (Operand.tmp 0)), SOper.mk (some 7) none (SOp.len false (Operand.tmp 6)),
          SOper.mk (some 8) none (SOp.mv (Operand.tmp 1)), SOper.mk (some 9) none (SOp.len false (Operand.tmp 8)),
          SOper.mk (some 10) none (SOp.ibin BinOp.neq (Operand.tmp 7) (Operand.tmp 9))]
        [0, 1, 10])
      (Stmt.cond (Operand.tmp 10)
        (Stmt.seq (Stmt.region [SOper.mk (some 4) none (SOp.mv (Operand.const (Value.bool false)))] [4]) Stmt.ret)
        Stmt.skip))
    (Stmt.seq
      (Stmt.seq
        (Stmt.region
          [SOper.mk (some 11) none (SOp.mv (Operand.tmp 0)), SOper.mk (some 12) none (SOp.len false (Operand.tmp 11)),
            SOper.mk (some 13) none (SOp.mv (Operand.const (Value.int IntKind.i64 0)))]
          [0, 1, 12, 13])
        (Stmt.block 0 (Stmt.loop S28_1 [13] [0, 1, 12])))
      (Stmt.seq (Stmt.region [SOper.mk (some 4) none (SOp.mv (Operand.const (Value.bool true)))] [4]) Stmt.ret)))
def S28 : FnS := ⟨26, [(4, none)], S28_0⟩
theorem tr28 : trFn Try.prog 28 [] [[0, 1], [0, 1, 10], [4], [0, 1, 12, 13], [13], [0, 1, 12], [0, 1, 12, 13, 14], [0, 1, 5, 12, 13], [0, 1, 12, 13, 24], [4], [0, 1, 12, 13], [4]] = some S28 := by kernel_rfl
end Go.Proofs.Ytniobbepliknmaa.V
/- Orders by coins: slices.Equal, slices.Delete and draw.Order walked; no condition. -/
namespace Go.Proofs.Ytniobbepliknmaa.V
open Go
set_option linter.unusedVariables false
set_option linter.unusedSimpArgs false
attribute [local go_sem] e_seq e_region e_quiet e_join e_loop e_cond e_block e_exit e_ret e_skip e_fin e_kseq e_snrm e_sret e_sex e_bnrm e_bret e_bex e_rnrm e_rret e_res e_condC e_nil e_g e_mv g_mv e_pick g_pick pickC_eq e_ibin g_ibin ibinC_eq e_sbin g_sbin e_beq g_beq beqC_eq e_nilq g_nilq nilqC_sl nilqC_pt nilqC_mp e_un g_un unC_not unC_neg e_conv g_conv convC_eq e_fld g_fld fldC_ref fldC_ptr e_nilCheck g_nilCheck nilCheckC_ref nilCheckC_ptr nilCheckC_fun e_field g_field fieldC_eq e_len g_len lenC_sl lenC_str e_extract g_extract extractC_eq e_mkFunc e_build g_build e_idiv g_idiv idivC_eq e_ishift g_ishift ishiftC_eq e_idx g_idx e_idxA g_idxA e_load g_load e_loadB g_loadB atB_ref atB_v g_mkFunc loadC_ref loadC_ptr loadB_eq e_slc g_slc e_box boxC_loc boxC_esc e_alloc allocC_loc allocC_esc e_buildS e_store storeC_ref storeC_ptr storeB_eq e_append e_appz e_mk mkC_eq e_call callC_eq e_fn g_fn fnC_eq fnV_min' fnV_max' fnV_rune' e_q g_q e_a e_n g_call g_box g_alloc g_buildS g_store g_append g_mk g_a g_n g_dead e_dead e_callK e_drawn e_tree e_finJ e_tk e_tfin e_tno e_nbt_q e_nbt_qn e_nbt_a e_nbt_an e_nbt_fin e_drawnB e_bxb_nil e_bxb e_stB_none e_stB_some boxSt_store bs_mv bs_pick bs_ibin bs_idiv bs_ishift bs_sbin bs_beq bs_nilq bs_un bs_conv bs_box bs_alloc bs_build bs_buildS bs_load bs_fld bs_nilCheck bs_idx bs_idxA bs_field bs_slc bs_len bs_append bs_appz bs_mk bs_call bs_extract bs_mkFunc bs_fn bs_q bs_a bs_n bs_loadB bs_dead isBox_box e_early_nil e_early_t e_early_f e_nob_nil e_nob_none e_nob_some isBox_dead isBox_v isBox_ref e_dnil e_dk e_ek e_finB vcOps_vc1 e_dcons e_tq e_ekt e_tearly e_talt e_dearly look_nil look_c proj_nil proj_c looks_nil looks_c zip_nil zip_c val_tmp val_const val_func slv_v slv_box slv_ref slot_tmp slot_const slot_func slotL_v slotL_box slotL_ref put_some put_none updBox_c boxSet_box gd_eq slotVals_nil slotVals_c slotVals_b boxV_box boxOn_box slotsOn_nil slotsOn_c slotsOn_b resV_one resV_two vals_nil vals_c allOn_nil allOn_c partOn_nil partOn_c partVals_nil partVals_c fits_nil fits_c fillL_nil fillL_c mkv_one mkv_agg cellsV_agg cellsV_int cellsV_bool cellsV_slice cellsV_string cellsV_pointer cellsV_func cellsV_nilf cellsV_map one'_nil one'_c oc_int oc_bool oc_slice oc_string oc_pointer oc_func oc_nilf oc_map setC_eq iv_add iv_sub iv_mul iv_eql iv_neq iv_lss iv_leq iv_gtr iv_geq iok_add iok_sub iok_mul iok_eql iok_neq iok_lss iok_leq iok_gtr iok_geq pickV_bool args0_nil args0_c bnd_none bnd_some imp_bt imp_bf imp_ebt imp_ebf imp_eb1 imp_np imp_pp beq_tt beq_tf beq_ft beq_ff cond_or cond_and e_round e_meet Int.le_refl Int.toNat_zero decide_true decide_false Bool.or_false Bool.false_or Bool.true_or Bool.or_true Bool.and_false Bool.false_and Bool.bne_false Bool.bne_true beq_iff_eq Int.cast_ofNat_Int not_false_eq_true not_true_eq_false false_and and_false false_implies true_implies true_and and_true Bool.true_and Bool.and_true Bool.not_true Bool.not_false forall_const implies_true List.take_zero List.drop_zero List.take_succ_cons List.drop_succ_cons List.take_nil List.drop_nil List.length_cons List.length_nil List.nil_append List.append_nil List.cons_append Int.toNat_natCast decide_eq_true_eq decide_eq_false_iff_not cond_true cond_false and_self List.getElem?_cons_zero List.getElem?_cons_succ List.set_cons_zero List.set_cons_succ Option.some.injEq exists_eq_left' Nat.zero_add Nat.add_zero Nat.mul_one imp_self true_or or_true or_false false_or Bool.or_eq_true Bool.or_eq_false_iff Bool.and_eq_true Bool.and_eq_false_iff Bool.not_eq_true' Bool.not_eq_false'

theorem take_eq_succ {α : Type} {xs ys : List α} {k : Nat} (hk : k < xs.length) (hk' : k < ys.length) (h : xs.take k = ys.take k) (e : xs[k] = ys[k]) : xs.take (k + 1) = ys.take (k + 1) := by
  rw [List.take_succ_eq_append_getElem hk, List.take_succ_eq_append_getElem hk', h, e]

theorem slices_equal {Γr : Ctx} {A B : Option Addr} {c d : Nat} {xs ys : List Int} (hx : SlOk (lk Γr) A c xs) (hy : SlOk (lk Γr) B d ys) :
    Ret Try.prog 28 [.slice A xs.length c, .slice B ys.length d] Γr [] (fun v Γ => Γ = [] ∧ v = .bool (decide (xs = ys))) := by
  generalize hR : (fun v Γ => Γ = [] ∧ v = _) = R
  refine ret_of_vc tr28 (Nat.le_of_ble_eq_true rfl) ?_
  have h1 := hx.short
  have h2 := hy.short
  simp only [S28, S28_0, go_sem, Nat.reduceBEq, Nat.reduceAdd, Nat.reduceSub, Nat.reduceMul, Nat.reduceLeDiff, reduceCtorEq, ↓reduceIte, Int.reduceLT, Int.reduceLE, Int.reduceEq, Int.reduceNe]
  refine ⟨fun hne => Up.here ?_, fun heq => ?_⟩
  · subst hR
    refine ⟨rfl, ?_⟩
    have : xs ≠ ys := fun e => by subst e; exact hne rfl
    simp [this]
  have hl : xs.length = ys.length := by omega
  refine s_loop (fun f vs Γ => Γ = [] ∧ ∃ k : Nat, vs = [.v true (.int .i64 k)] ∧ k + f = xs.length ∧ xs.take k = ys.take k) xs.length (Up.here ⟨rfl, 0, rfl, by omega, by simp⟩) ?_
  rintro f vs Γ ⟨rfl, k, rfl, hkf, htk⟩
  simp only [S28_1, go_sem, Nat.reduceBEq, Nat.reduceAdd, Nat.reduceSub, Nat.reduceMul, Nat.reduceLeDiff, reduceCtorEq, ↓reduceIte, Int.reduceLT, Int.reduceLE, Int.reduceEq, Int.reduceNe]
  refine ⟨fun hlt => ?_, fun hge => ?_⟩
  · have hk : k < xs.length := by omega
    have hk' : k < ys.length := by omega
    obtain ⟨b, o, hA, hc1⟩ := hx.int hk
    obtain ⟨b', o', hB, hc2⟩ := hy.int hk'
    refine s_idx hA (by omega) (by omega) ?_
    simp only [go_sem, Nat.reduceBEq, Nat.reduceAdd, Nat.reduceSub, Nat.reduceMul, Nat.reduceLeDiff, reduceCtorEq, ↓reduceIte, Int.reduceLT, Int.reduceLE, Int.reduceEq, Int.reduceNe]
    refine s_ld0 (hc1 _ (Mem.le.refl _)) (by simp) (by simp) ?_
    simp only [go_sem, Nat.reduceBEq, Nat.reduceAdd, Nat.reduceSub, Nat.reduceMul, Nat.reduceLeDiff, reduceCtorEq, ↓reduceIte, Int.reduceLT, Int.reduceLE, Int.reduceEq, Int.reduceNe]
    refine s_idx hB (by omega) (by omega) ?_
    simp only [go_sem, Nat.reduceBEq, Nat.reduceAdd, Nat.reduceSub, Nat.reduceMul, Nat.reduceLeDiff, reduceCtorEq, ↓reduceIte, Int.reduceLT, Int.reduceLE, Int.reduceEq, Int.reduceNe]
    refine s_ld0 (hc2 _ (Mem.le.refl _)) (by simp) (by simp) ?_
    simp only [go_sem, Nat.reduceBEq, Nat.reduceAdd, Nat.reduceSub, Nat.reduceMul, Nat.reduceLeDiff, reduceCtorEq, ↓reduceIte, Int.reduceLT, Int.reduceLE, Int.reduceEq, Int.reduceNe]
    refine ⟨fun hne => Up.here ?_, fun heq => ?_⟩
    · subst hR
      refine ⟨rfl, ?_⟩
      have : xs ≠ ys := fun e => by subst e; exact hne rfl
      simp [this]
    · simp (disch := omega) only [wrap_id]
      exact ⟨f - 1, by omega, Up.here ⟨rfl, k + 1, rfl, by omega, take_eq_succ hk hk' htk heq⟩⟩
  · have hk : k = xs.length := by omega
    refine Up.here ?_
    subst hR
    refine ⟨rfl, ?_⟩
    have : xs = ys := by
      rw [hk, List.take_length, hl, List.take_length] at htk
      exact htk
    simp [this]

/-! the order that coins draw -/
end Go.Proofs.Ytniobbepliknmaa.V
/- Symbols, rules and lists of them are the same; no condition. -/
namespace Go.Proofs.Ytniobbepliknmaa.V
open Go
set_option linter.unusedVariables false
set_option linter.unusedSimpArgs false
attribute [local go_sem] e_seq e_region e_quiet e_join e_loop e_cond e_block e_exit e_ret e_skip e_fin e_kseq e_snrm e_sret e_sex e_bnrm e_bret e_bex e_rnrm e_rret e_res e_condC e_nil e_g e_mv g_mv e_pick g_pick pickC_eq e_ibin g_ibin ibinC_eq e_sbin g_sbin e_beq g_beq beqC_eq e_nilq g_nilq nilqC_sl nilqC_pt nilqC_mp e_un g_un unC_not unC_neg e_conv g_conv convC_eq e_fld g_fld fldC_ref fldC_ptr e_nilCheck g_nilCheck nilCheckC_ref nilCheckC_ptr nilCheckC_fun e_field g_field fieldC_eq e_len g_len lenC_sl lenC_str e_extract g_extract extractC_eq e_mkFunc e_build g_build e_idiv g_idiv idivC_eq e_ishift g_ishift ishiftC_eq e_idx g_idx e_idxA g_idxA e_load g_load e_loadB g_loadB atB_ref atB_v g_mkFunc loadC_ref loadC_ptr loadB_eq e_slc g_slc e_box boxC_loc boxC_esc e_alloc allocC_loc allocC_esc e_buildS e_store storeC_ref storeC_ptr storeB_eq e_append e_appz e_mk mkC_eq e_call callC_eq e_fn g_fn fnC_eq fnV_min' fnV_max' fnV_rune' e_q g_q e_a e_n g_call g_box g_alloc g_buildS g_store g_append g_mk g_a g_n g_dead e_dead e_callK e_drawn e_tree e_finJ e_tk e_tfin e_tno e_nbt_q e_nbt_qn e_nbt_a e_nbt_an e_nbt_fin e_drawnB e_bxb_nil e_bxb e_stB_none e_stB_some boxSt_store bs_mv bs_pick bs_ibin bs_idiv bs_ishift bs_sbin bs_beq bs_nilq bs_un bs_conv bs_box bs_alloc bs_build bs_buildS bs_load bs_fld bs_nilCheck bs_idx bs_idxA bs_field bs_slc bs_len bs_append bs_appz bs_mk bs_call bs_extract bs_mkFunc bs_fn bs_q bs_a bs_n bs_loadB bs_dead isBox_box e_early_nil e_early_t e_early_f e_nob_nil e_nob_none e_nob_some isBox_dead isBox_v isBox_ref e_dnil e_dk e_ek e_finB vcOps_vc1 e_dcons e_tq e_ekt e_tearly e_talt e_dearly look_nil look_c proj_nil proj_c looks_nil looks_c zip_nil zip_c val_tmp val_const val_func slv_v slv_box slv_ref slot_tmp slot_const slot_func slotL_v slotL_box slotL_ref put_some put_none updBox_c boxSet_box gd_eq slotVals_nil slotVals_c slotVals_b boxV_box boxOn_box slotsOn_nil slotsOn_c slotsOn_b resV_one resV_two vals_nil vals_c allOn_nil allOn_c partOn_nil partOn_c partVals_nil partVals_c fits_nil fits_c fillL_nil fillL_c mkv_one mkv_agg cellsV_agg cellsV_int cellsV_bool cellsV_slice cellsV_string cellsV_pointer cellsV_func cellsV_nilf cellsV_map one'_nil one'_c oc_int oc_bool oc_slice oc_string oc_pointer oc_func oc_nilf oc_map setC_eq iv_add iv_sub iv_mul iv_eql iv_neq iv_lss iv_leq iv_gtr iv_geq iok_add iok_sub iok_mul iok_eql iok_neq iok_lss iok_leq iok_gtr iok_geq pickV_bool args0_nil args0_c bnd_none bnd_some imp_bt imp_bf imp_ebt imp_ebf imp_eb1 imp_np imp_pp beq_tt beq_tf beq_ft beq_ff cond_or cond_and e_round e_meet Int.le_refl Int.toNat_zero decide_true decide_false Bool.or_false Bool.false_or Bool.true_or Bool.or_true Bool.and_false Bool.false_and Bool.bne_false Bool.bne_true beq_iff_eq Int.cast_ofNat_Int not_false_eq_true not_true_eq_false false_and and_false false_implies true_implies true_and and_true Bool.true_and Bool.and_true Bool.not_true Bool.not_false forall_const implies_true List.take_zero List.drop_zero List.take_succ_cons List.drop_succ_cons List.take_nil List.drop_nil List.length_cons List.length_nil List.nil_append List.append_nil List.cons_append Int.toNat_natCast decide_eq_true_eq decide_eq_false_iff_not cond_true cond_false and_self List.getElem?_cons_zero List.getElem?_cons_succ List.set_cons_zero List.set_cons_succ Option.some.injEq exists_eq_left' Nat.zero_add Nat.add_zero Nat.mul_one imp_self true_or or_true or_false false_or Bool.or_eq_true Bool.or_eq_false_iff Bool.and_eq_true Bool.and_eq_false_iff Bool.not_eq_true' Bool.not_eq_false'

theorem two_fields {fs : List Field} {a b : TypeId} {n m : Nat} (h : fs.map (fun f => (f.name != "_", f.type, f.offset)) = [(true, a, n), (true, b, m)]) : ∃ f g, fs = [f, g] ∧ f.name ≠ "_" ∧ g.name ≠ "_" ∧ f.type = a ∧ f.offset = n ∧ g.type = b ∧ g.offset = m := by
  have hl := congrArg List.length h
  simp at hl
  obtain ⟨f, g, rfl⟩ : ∃ f g, fs = [f, g] := by
    cases fs with
    | nil => simp at hl
    | cons f r =>
      cases r with
      | nil => simp at hl
      | cons g r =>
        cases r with
        | nil => exact ⟨f, g, rfl⟩
        | cons _ _ => simp at hl
  simp only [List.map_cons, List.map_nil, List.cons.injEq, Prod.mk.injEq, bne_iff_ne, ne_eq, and_true] at h
  exact ⟨f, g, rfl, h.1.1, h.2.1, h.1.2.1, h.1.2.2, h.2.2.1, h.2.2.2⟩
end Go.Proofs.Ytniobbepliknmaa.V
/- The text of slices.Contains[[]parlance/mini.task,parlance/mini.task] as a statement (slots: 0 s, 1 v, 2 s, 3 v); no condition. -/
namespace Go.Proofs.Ytniobbepliknmaa.V
open Go
def S195_0 : Stmt :=
  Stmt.seq
  (Stmt.region
    [SOper.mk (some 3) none (SOp.box true 259 (Operand.tmp 1)),
      SOper.mk (some 4) none (SOp.mv (Operand.const (Value.bool false)))]
    [0, 3])
  (Stmt.seq
    (Stmt.region
      [SOper.mk (some 5) none (SOp.mv (Operand.tmp 0)), SOper.mk (some 6) none (SOp.load true 2 (Operand.tmp 3)),
        SOper.mk (some 7) none (SOp.call (Operand.func 208) [Operand.tmp 5, Operand.tmp 6]),
        SOper.mk (some 8) none (SOp.ibin BinOp.geq (Operand.tmp 7) (Operand.const (Value.int IntKind.i64 0))),
        SOper.mk (some 4) none (SOp.mv (Operand.tmp 8))]
      [4])
    Stmt.ret)
def S195 : FnS := ⟨9, [(4, none)], S195_0⟩
theorem tr195 : trFn Try.prog 195 [3] [[0, 3], [4]] = some S195 := by kernel_rfl
end Go.Proofs.Ytniobbepliknmaa.V
/- The text of slices.Index[[]parlance/mini.task,parlance/mini.task] as a statement (slots: 0 s, 1 v, 2 s, 3 v, 5 i); no condition. -/
namespace Go.Proofs.Ytniobbepliknmaa.V
open Go
def S208_1 : Stmt :=
  Stmt.seq (Stmt.region [SOper.mk (some 9) none (SOp.ibin BinOp.lss (Operand.tmp 8) (Operand.tmp 7))] [0, 3, 7, 8, 9])
  (Stmt.seq (Stmt.cond (Operand.tmp 9) Stmt.skip (Stmt.exit 0))
    (Stmt.seq
      (Stmt.block 1
        (Stmt.seq
          (Stmt.region
            [SOper.mk (some 10) none (SOp.mv (Operand.tmp 8)), SOper.mk (some 5) none (SOp.mv (Operand.tmp 10))]
            [0, 3, 5, 7, 8])
          (Stmt.seq
            (Stmt.quiet
              [SOper.mk (some 11) none (SOp.load true 2 (Operand.tmp 3)),
                SOper.mk (some 12) none (SOp.mv (Operand.tmp 0)), SOper.mk (some 13) none (SOp.mv (Operand.tmp 5)),
                SOper.mk (some 14) none (SOp.idx 2 (Operand.tmp 12) (Operand.tmp 13)),
                SOper.mk (some 15) none (SOp.load true 2 (Operand.tmp 14)),
                SOper.mk (some 16) none
                  (SOp.q (Qk.bin BinOp.eql 259 (Operand.tmp 11) (Operand.tmp 15)) [Operand.tmp 11, Operand.tmp 15])]
              [0, 3, 5, 7, 8, 16])
            (Stmt.cond (Operand.tmp 16)
              (Stmt.seq
                (Stmt.region
                  [SOper.mk (some 17) none (SOp.mv (Operand.tmp 5)), SOper.mk (some 4) none (SOp.mv (Operand.tmp 17))]
                  [4])
                Stmt.ret)
              Stmt.skip))))
      (Stmt.region
        [SOper.mk (some 18) none (SOp.ibin BinOp.add (Operand.tmp 8) (Operand.const (Value.int IntKind.i64 1))),
          SOper.mk (some 8) none (SOp.mv (Operand.tmp 18))]
        [0, 3, 7, 8])))
def S208_0 : Stmt :=
  Stmt.seq
  (Stmt.region
    [SOper.mk (some 3) none (SOp.box true 259 (Operand.tmp 1)),
      SOper.mk (some 4) none (SOp.mv (Operand.const (Value.int IntKind.i64 0)))]
    [0, 3])
  (Stmt.seq
    (Stmt.seq
      (Stmt.region
        [SOper.mk (some 6) none (SOp.mv (Operand.tmp 0)), SOper.mk (some 7) none (SOp.len false (Operand.tmp 6)),
          SOper.mk (some 8) none (SOp.mv (Operand.const (Value.int IntKind.i64 0)))]
        [0, 3, 7, 8])
      (Stmt.block 0 (Stmt.loop S208_1 [8] [0, 3, 7])))
    (Stmt.seq (Stmt.region [SOper.mk (some 4) none (SOp.mv (Operand.const (Value.int IntKind.i64 (-1))))] [4])
      Stmt.ret))
def S208 : FnS := ⟨19, [(4, none)], S208_0⟩
theorem tr208 : trFn Try.prog 208 [3] [[0, 3], [0, 3, 7, 8], [8], [0, 3, 7], [0, 3, 7, 8, 9], [0, 3, 5, 7, 8], [0, 3, 5, 7, 8, 16], [4], [0, 3, 7, 8], [4]] = some S208 := by kernel_rfl
end Go.Proofs.Ytniobbepliknmaa.V
/- slices.Contains of tasks; no condition. -/
namespace Go.Proofs.Ytniobbepliknmaa.V
open Go
set_option linter.unusedVariables false
set_option linter.unusedSimpArgs false
attribute [local go_sem] e_seq e_region e_quiet e_join e_loop e_cond e_block e_exit e_ret e_skip e_fin e_kseq e_snrm e_sret e_sex e_bnrm e_bret e_bex e_rnrm e_rret e_res e_condC e_nil e_g e_mv g_mv e_pick g_pick pickC_eq e_ibin g_ibin ibinC_eq e_sbin g_sbin e_beq g_beq beqC_eq e_nilq g_nilq nilqC_sl nilqC_pt nilqC_mp e_un g_un unC_not unC_neg e_conv g_conv convC_eq e_fld g_fld fldC_ref fldC_ptr e_nilCheck g_nilCheck nilCheckC_ref nilCheckC_ptr nilCheckC_fun e_field g_field fieldC_eq e_len g_len lenC_sl lenC_str e_extract g_extract extractC_eq e_mkFunc e_build g_build e_idiv g_idiv idivC_eq e_ishift g_ishift ishiftC_eq e_idx g_idx e_idxA g_idxA e_load g_load e_loadB g_loadB atB_ref atB_v g_mkFunc loadC_ref loadC_ptr loadB_eq e_slc g_slc e_box boxC_loc boxC_esc e_alloc allocC_loc allocC_esc e_buildS e_store storeC_ref storeC_ptr storeB_eq e_append e_appz e_mk mkC_eq e_call callC_eq e_fn g_fn fnC_eq fnV_min' fnV_max' fnV_rune' e_q g_q e_a e_n g_call g_box g_alloc g_buildS g_store g_append g_mk g_a g_n g_dead e_dead e_callK e_drawn e_tree e_finJ e_tk e_tfin e_tno e_nbt_q e_nbt_qn e_nbt_a e_nbt_an e_nbt_fin e_drawnB e_bxb_nil e_bxb e_stB_none e_stB_some boxSt_store bs_mv bs_pick bs_ibin bs_idiv bs_ishift bs_sbin bs_beq bs_nilq bs_un bs_conv bs_box bs_alloc bs_build bs_buildS bs_load bs_fld bs_nilCheck bs_idx bs_idxA bs_field bs_slc bs_len bs_append bs_appz bs_mk bs_call bs_extract bs_mkFunc bs_fn bs_q bs_a bs_n bs_loadB bs_dead isBox_box e_early_nil e_early_t e_early_f e_nob_nil e_nob_none e_nob_some isBox_dead isBox_v isBox_ref e_dnil e_dk e_ek e_finB vcOps_vc1 e_dcons e_tq e_ekt e_tearly e_talt e_dearly look_nil look_c proj_nil proj_c looks_nil looks_c zip_nil zip_c val_tmp val_const val_func slv_v slv_box slv_ref slot_tmp slot_const slot_func slotL_v slotL_box slotL_ref put_some put_none updBox_c boxSet_box gd_eq slotVals_nil slotVals_c slotVals_b boxV_box boxOn_box slotsOn_nil slotsOn_c slotsOn_b resV_one resV_two vals_nil vals_c allOn_nil allOn_c partOn_nil partOn_c partVals_nil partVals_c fits_nil fits_c fillL_nil fillL_c mkv_one mkv_agg cellsV_agg cellsV_int cellsV_bool cellsV_slice cellsV_string cellsV_pointer cellsV_func cellsV_nilf cellsV_map one'_nil one'_c oc_int oc_bool oc_slice oc_string oc_pointer oc_func oc_nilf oc_map setC_eq iv_add iv_sub iv_mul iv_eql iv_neq iv_lss iv_leq iv_gtr iv_geq iok_add iok_sub iok_mul iok_eql iok_neq iok_lss iok_leq iok_gtr iok_geq pickV_bool args0_nil args0_c bnd_none bnd_some imp_bt imp_bf imp_ebt imp_ebf imp_eb1 imp_np imp_pp beq_tt beq_tf beq_ft beq_ff cond_or cond_and e_round e_meet Int.le_refl Int.toNat_zero decide_true decide_false Bool.or_false Bool.false_or Bool.true_or Bool.or_true Bool.and_false Bool.false_and Bool.bne_false Bool.bne_true beq_iff_eq Int.cast_ofNat_Int not_false_eq_true not_true_eq_false false_and and_false false_implies true_implies true_and and_true Bool.true_and Bool.and_true Bool.not_true Bool.not_false forall_const implies_true List.take_zero List.drop_zero List.take_succ_cons List.drop_succ_cons List.take_nil List.drop_nil List.length_cons List.length_nil List.nil_append List.append_nil List.cons_append Int.toNat_natCast decide_eq_true_eq decide_eq_false_iff_not cond_true cond_false and_self List.getElem?_cons_zero List.getElem?_cons_succ List.set_cons_zero List.set_cons_succ Option.some.injEq exists_eq_left' Nat.zero_add Nat.add_zero Nat.mul_one imp_self true_or or_true or_false false_or Bool.or_eq_true Bool.or_eq_false_iff Bool.and_eq_true Bool.and_eq_false_iff Bool.not_eq_true' Bool.not_eq_false'

def pv (x : Nat × Nat) : Value := .agg #[.int .i64 (x.1 : Int), .int .i64 (x.2 : Int)]
theorem task_fields : (Try.prog.fieldsOf 259).toList.map (fun f => (f.name != "_", f.type, f.offset)) = [(true, 3, 0), (true, 3, 1)] := by kernel_rfl
theorem qr_eqtask (x y : Nat × Nat) (Γ : Ctx) (ox oy : Operand) : QR Try.prog (.bin .eql 259 ox oy) [pv x, pv y] Γ (.bool (decide (x = y))) := by
  intro w _
  obtain ⟨f, g, hf, n1, n2, t1, o1, t2, o2⟩ := two_fields task_fields
  have h0 : Try.prog.underlying 259 = some (.struct (Try.prog.fieldsOf 259)) := by kernel_rfl
  have h1 : Try.prog.stoodInHeld 259 = false := by kernel_rfl
  have h2 : Try.prog.eqGuardType Try.prog.depth 259 = false := by kernel_rfl
  have h4 : Try.prog.underlying 3 = some (.int .i64) := by kernel_rfl
  have k4 : Try.prog.plainKey 3 = true := by kernel_rfl
  have p1 : ∀ (m n : Int), (Go.part 3 #[.int .i64 m, .int .i64 n] 0).run Try.prog w = .ok (.int .i64 m) w := fun m n => run_part_plain w k4 (by simp)
  have p2 : ∀ (m n : Int), (Go.part 3 #[.int .i64 m, .int .i64 n] 1).run Try.prog w = .ok (.int .i64 n) w := fun m n => run_part_plain w k4 (by simp)
  simp only [qsem, pv, Sem.run_bind]
  rw [run_eqGuard_agg w .eql 259 ox oy _ _ h2]
  simp only [Result.andThen_ok]
  rw [run_eql_struct, run_equalIn_agg w 9999 259 _ _ h0 h1, hf]
  simp only [Op.eqFields, if_pos n1, if_pos n2, t1, t2, o1, o2, Sem.run_bind, p1, p2, Result.andThen_ok, run_equalIn_int w 9998 3 _ _ _ _ h4]
  obtain ⟨xt, xn⟩ := x
  obtain ⟨yt, yn⟩ := y
  have c1 : ((xt : Int) = (yt : Int)) ↔ xt = yt := by omega
  have c2 : ((xn : Int) = (yn : Int)) ↔ xn = yn := by omega
  by_cases e1 : xt = yt <;> by_cases e2 : xn = yn <;> simp [c1, c2, e1, e2, Op.eqFields, p2, run_equalIn_int w 9998 3 .i64 .i64 _ _ h4]
theorem SlOk.pr {h : Mem} {A : Option Addr} {c : Nat} {xs : List (Nat × Nat)} (q : SlOk h A c xs) {i : Nat} (hi : i < xs.length) :
    ∃ b o, A = some ⟨b, o, none⟩ ∧ ∀ Γ : Ctx, Mem.le h (lk Γ) → Cells Γ b (o + i * 2) [.int .i64 (xs[i].1 : Int), .int .i64 (xs[i].2 : Int)] := by
  obtain ⟨b, o, hA, cs, h1, h2⟩ := q.get hi
  have h1 : cs = [.int .i64 (xs[i].1 : Int), .int .i64 (xs[i].2 : Int)] := h1
  subst h1
  exact ⟨b, o, hA, fun Γ h => h2 Γ h⟩
theorem index_task {Γr : Ctx} {A : Option Addr} {c : Nat} {xs : List (Nat × Nat)} (hx : SlOk (lk Γr) A c xs) (x : Nat × Nat) :
    Ret Try.prog 208 [.slice A xs.length c, pv x] Γr [] (fun v Γ => Γ = [] ∧ ∃ n : Int, v = .int .i64 n ∧ (0 ≤ n ↔ x ∈ xs)) := by
  generalize hR : (fun (v : Value) (Γ : Ctx) => Γ = [] ∧ _) = R
  refine ret_of_vc tr208 (Nat.le_of_ble_eq_true rfl) ?_
  have h1 := hx.short
  simp -implicitDefEqProofs only [S208, S208_0, pv, go_sem, Nat.reduceBEq, Nat.reduceAdd, Nat.reduceSub, Nat.reduceMul, Nat.reduceLeDiff, reduceCtorEq, ↓reduceIte, Int.reduceLT, Int.reduceLE, Int.reduceEq, Int.reduceNe]
  intro b
  refine s_loop (fun f vs Γ => Γ = [] ∧ ∃ k : Nat, vs = [.v true (.int .i64 k)] ∧ k + f = xs.length ∧ x ∉ xs.take k) xs.length (Up.here ⟨rfl, 0, rfl, by omega, by simp⟩) ?_
  rintro f vs Γ ⟨rfl, k, rfl, hkf, hno⟩
  simp -implicitDefEqProofs only [S208_1, go_sem, Nat.reduceBEq, Nat.reduceAdd, Nat.reduceSub, Nat.reduceMul, Nat.reduceLeDiff, reduceCtorEq, ↓reduceIte, Int.reduceLT, Int.reduceLE, Int.reduceEq, Int.reduceNe]
  refine ⟨fun hlt => ?_, fun hge => ?_⟩
  · have hk : k < xs.length := by omega
    obtain ⟨b, o, hA, hc1⟩ := hx.pr hk
    refine s_idx hA (by omega) (by omega) ?_
    simp -implicitDefEqProofs only [go_sem, Nat.reduceBEq, Nat.reduceAdd, Nat.reduceSub, Nat.reduceMul, Nat.reduceLeDiff, reduceCtorEq, ↓reduceIte, Int.reduceLT, Int.reduceLE, Int.reduceEq, Int.reduceNe]
    refine s_ld0 (by simpa using hc1 _ (Mem.le.refl _)) (by simp) (by simp) ?_
    simp -implicitDefEqProofs only [go_sem, Nat.reduceBEq, Nat.reduceAdd, Nat.reduceSub, Nat.reduceMul, Nat.reduceLeDiff, reduceCtorEq, ↓reduceIte, Int.reduceLT, Int.reduceLE, Int.reduceEq, Int.reduceNe]
    refine s_q trivial (qr_eqtask x xs[k] _ _ _) ?_
    simp -implicitDefEqProofs only [go_sem, Nat.reduceBEq, Nat.reduceAdd, Nat.reduceSub, Nat.reduceMul, Nat.reduceLeDiff, reduceCtorEq, ↓reduceIte, Int.reduceLT, Int.reduceLE, Int.reduceEq, Int.reduceNe]
    refine ⟨fun he => Up.here ?_, fun hne => ?_⟩
    · subst hR
      exact ⟨rfl, k, rfl, ⟨fun _ => by rw [he]; exact List.getElem_mem _, fun _ => by omega⟩⟩
    · simp (disch := omega) only [wrap_id]
      refine ⟨f - 1, by omega, Up.here ⟨rfl, k + 1, rfl, by omega, ?_⟩⟩
      rw [List.take_succ_eq_append_getElem hk]
      simp only [List.mem_append, List.mem_singleton, not_or]
      exact ⟨hno, hne⟩
  · have hk : k = xs.length := by omega
    refine Up.here ?_
    subst hR
    rw [hk, List.take_length] at hno
    exact ⟨rfl, -1, rfl, ⟨fun h => by omega, fun h => absurd h hno⟩⟩
theorem contains_task {Γr : Ctx} {A : Option Addr} {c : Nat} {xs : List (Nat × Nat)} (hx : SlOk (lk Γr) A c xs) (x : Nat × Nat) :
    Ret Try.prog 195 [.slice A xs.length c, pv x] Γr [] (fun v Γ => Γ = [] ∧ v = .bool (decide (x ∈ xs))) := by
  generalize hR : (fun (v : Value) (Γ : Ctx) => Γ = [] ∧ _) = R
  refine ret_of_vc tr195 (Nat.le_of_ble_eq_true rfl) ?_
  simp -implicitDefEqProofs only [S195, S195_0, pv, go_sem, Nat.reduceBEq, Nat.reduceAdd, Nat.reduceSub, Nat.reduceMul, Nat.reduceLeDiff, reduceCtorEq, ↓reduceIte, Int.reduceLT, Int.reduceLE, Int.reduceEq, Int.reduceNe]
  intro b
  refine CallVC.read (index_task hx x) ?_
  rintro v Γ' ⟨rfl, n, rfl, hn⟩
  simp -implicitDefEqProofs only [go_sem, Nat.reduceBEq, Nat.reduceAdd, Nat.reduceSub, Nat.reduceMul, Nat.reduceLeDiff, reduceCtorEq, ↓reduceIte, Int.reduceLT, Int.reduceLE, Int.reduceEq, Int.reduceNe]
  refine Up.here ?_
  subst hR
  exact ⟨rfl, by rw [decide_eq_decide.2 hn]⟩
end Go.Proofs.Ytniobbepliknmaa.V
/- The text of slices.Repeat[[]int,int] as a statement (slots: 0 x, 1 count, 2 x, 3 count, 5 hi, 6 lo, 7 newslice, 8 n); no condition. -/
namespace Go.Proofs.Ytniobbepliknmaa.V
open Go
def S163_1 : Stmt :=
  Stmt.seq
  (Stmt.region
    [SOper.mk (some 9) none (SOp.mv (Operand.tmp 1)),
      SOper.mk (some 10) none (SOp.ibin BinOp.lss (Operand.tmp 9) (Operand.const (Value.int IntKind.i64 0)))]
    [0, 1, 10])
  (Stmt.cond (Operand.tmp 10) (Stmt.region [SOper.mk (some 11) none SOp.dead, SOper.mk none none SOp.dead] [0, 1])
    Stmt.skip)
def S163_2 : Stmt :=
  Stmt.seq
  (Stmt.region
    [SOper.mk (some 21) none (SOp.mv (Operand.tmp 5)),
      SOper.mk (some 22) none (SOp.ibin BinOp.gtr (Operand.tmp 21) (Operand.const (Value.int IntKind.u64 0))),
      SOper.mk (some 23) none (SOp.mv (Operand.tmp 22)), SOper.mk (some 24) (some (23, false)) (SOp.mv (Operand.tmp 6)),
      SOper.mk (some 25) (some (23, false))
        (SOp.ibin BinOp.gtr (Operand.tmp 24) (Operand.const (Value.int IntKind.u64 9223372036854775807))),
      SOper.mk (some 26) none (SOp.pick (Operand.tmp 23) (Operand.const (Value.bool true)) (Operand.tmp 25))]
    [0, 6, 26])
  (Stmt.cond (Operand.tmp 26) (Stmt.region [SOper.mk (some 27) none SOp.dead, SOper.mk none none SOp.dead] [0, 6])
    Stmt.skip)
def S163_3 : Stmt :=
  Stmt.seq
  (Stmt.seq
    (Stmt.region
      [SOper.mk (some 34) none (SOp.mv (Operand.tmp 8)), SOper.mk (some 35) none (SOp.mv (Operand.tmp 7)),
        SOper.mk (some 36) none (SOp.len false (Operand.tmp 35)),
        SOper.mk (some 37) none (SOp.ibin BinOp.lss (Operand.tmp 34) (Operand.tmp 36))]
      [7, 8, 37])
    (Stmt.cond (Operand.tmp 37) Stmt.skip (Stmt.exit 0)))
  (Stmt.block 1
    (Stmt.drawn
      [(false, SOper.mk (some 38) none (SOp.mv (Operand.tmp 8))),
        (false, SOper.mk (some 39) none (SOp.mv (Operand.tmp 7))),
        (false, SOper.mk (some 40) none (SOp.mv (Operand.tmp 8))),
        (false, SOper.mk (some 41) none (SOp.slc 1 (Operand.tmp 39) (some (Operand.tmp 40)) none none)),
        (false, SOper.mk (some 42) none (SOp.mv (Operand.tmp 7))),
        (false, SOper.mk (some 43) none (SOp.mv (Operand.tmp 8))),
        (false, SOper.mk (some 44) none (SOp.slc 1 (Operand.tmp 42) none (some (Operand.tmp 43)) none)),
        (false, SOper.mk (some 45) none (SOp.a (Qk.bi 2 [29, 29]) [Operand.tmp 41, Operand.tmp 44])),
        (false, SOper.mk (some 46) none (SOp.ibin BinOp.add (Operand.tmp 38) (Operand.tmp 45))),
        (false, SOper.mk (some 8) none (SOp.mv (Operand.tmp 46)))]
      [7, 8]))
def S163_4 : Stmt :=
  Stmt.seq
  (Stmt.region
    [SOper.mk (some 28) none (SOp.mv (Operand.tmp 6)), SOper.mk (some 29) none (SOp.conv IntKind.i64 (Operand.tmp 28)),
      SOper.mk (some 30) none (SOp.mk 3 1 8 (Value.int IntKind.i64 0) (Operand.tmp 29) (Operand.tmp 29)),
      SOper.mk (some 7) none (SOp.mv (Operand.tmp 30))]
    [0, 7])
  (Stmt.seq
    (Stmt.region
      [SOper.mk (some 31) none (SOp.mv (Operand.tmp 7)), SOper.mk (some 32) none (SOp.mv (Operand.tmp 0)),
        SOper.mk (some 33) none (SOp.a (Qk.bi 2 [29, 29]) [Operand.tmp 31, Operand.tmp 32]),
        SOper.mk (some 8) none (SOp.mv (Operand.tmp 33))]
      [7, 8])
    (Stmt.seq (Stmt.block 0 (Stmt.loop S163_3 [8] [7]))
      (Stmt.seq
        (Stmt.region
          [SOper.mk (some 47) none (SOp.mv (Operand.tmp 7)), SOper.mk (some 4) none (SOp.mv (Operand.tmp 47))] [4])
        Stmt.ret)))
def S163_5 : Stmt :=
  Stmt.seq
  (Stmt.region
    [SOper.mk (some 13) none (SOp.mv (Operand.tmp 0)), SOper.mk (some 14) none (SOp.len false (Operand.tmp 13)),
      SOper.mk (some 15) none (SOp.conv IntKind.u64 (Operand.tmp 14)), SOper.mk (some 16) none (SOp.mv (Operand.tmp 1)),
      SOper.mk (some 17) none (SOp.conv IntKind.u64 (Operand.tmp 16)),
      SOper.mk (some 18) none (SOp.call (Operand.func 196) [Operand.tmp 15, Operand.tmp 17]),
      SOper.mk (some 12) none (SOp.mv (Operand.tmp 18)), SOper.mk (some 19) none (SOp.extract 0 (Operand.tmp 12)),
      SOper.mk (some 20) none (SOp.extract 1 (Operand.tmp 12)), SOper.mk (some 5) none (SOp.mv (Operand.tmp 19)),
      SOper.mk (some 6) none (SOp.mv (Operand.tmp 20))]
    [0, 5, 6])
  (Stmt.join S163_2 S163_4 [] [0, 6])
def S163_0 : Stmt :=
  Stmt.seq (Stmt.region [SOper.mk (some 4) none (SOp.mv (Operand.const (Value.slice none 0 0)))] [0, 1])
  (Stmt.join S163_1 S163_5 [] [0, 1])
def S163 : FnS := ⟨48, [(4, none)], S163_0⟩
theorem tr163 : trFn Try.prog 163 [] [[0, 1], [], [0, 1], [0, 1, 10], [0, 1], [0, 5, 6], [], [0, 6], [0, 6, 26], [0, 6], [0, 7], [7, 8], [8], [7], [7, 8, 37], [7, 8], [0, 1, 2, 3, 4, 5, 6, 7, 8, 9], [], [], [], [], [1, 2], [], [], [4, 5], [1, 2, 3, 4, 5, 6], [0, 1, 2, 3, 4, 5, 6, 7], [0, 1, 2, 3, 4, 5, 6, 7, 8], [4]] = some S163 := by kernel_rfl
end Go.Proofs.Ytniobbepliknmaa.V
/- The text of math/bits.Mul as a statement (slots: 0 x, 1 y, 2 x, 3 y, 4 hi, 5 lo, 6 h, 7 l, 8 h, 9 l); no condition. -/
namespace Go.Proofs.Ytniobbepliknmaa.V
open Go
def S196_0 : Stmt :=
  Stmt.seq
  (Stmt.region
    [SOper.mk (some 4) none (SOp.mv (Operand.const (Value.int IntKind.u64 0))),
      SOper.mk (some 5) none (SOp.mv (Operand.const (Value.int IntKind.u64 0)))]
    [0, 1])
  (Stmt.seq
    (Stmt.cond (Operand.const (Value.bool false))
      (Stmt.seq
        (Stmt.region
          [SOper.mk (some 11) none (SOp.mv (Operand.tmp 0)),
            SOper.mk (some 12) none (SOp.conv IntKind.u32 (Operand.tmp 11)),
            SOper.mk (some 13) none (SOp.mv (Operand.tmp 1)),
            SOper.mk (some 14) none (SOp.conv IntKind.u32 (Operand.tmp 13)),
            SOper.mk (some 15) none (SOp.call (Operand.func 209) [Operand.tmp 12, Operand.tmp 14]),
            SOper.mk (some 10) none (SOp.mv (Operand.tmp 15)), SOper.mk (some 16) none (SOp.extract 0 (Operand.tmp 10)),
            SOper.mk (some 17) none (SOp.extract 1 (Operand.tmp 10)), SOper.mk (some 6) none (SOp.mv (Operand.tmp 16)),
            SOper.mk (some 7) none (SOp.mv (Operand.tmp 17))]
          [6, 7])
        (Stmt.seq
          (Stmt.region
            [SOper.mk (some 18) none (SOp.mv (Operand.tmp 6)),
              SOper.mk (some 19) none (SOp.conv IntKind.u64 (Operand.tmp 18)),
              SOper.mk (some 20) none (SOp.mv (Operand.tmp 7)),
              SOper.mk (some 21) none (SOp.conv IntKind.u64 (Operand.tmp 20)),
              SOper.mk (some 4) none (SOp.mv (Operand.tmp 19)), SOper.mk (some 5) none (SOp.mv (Operand.tmp 21))]
            [4, 5])
          Stmt.ret))
      Stmt.skip)
    (Stmt.seq
      (Stmt.region
        [SOper.mk (some 23) none (SOp.mv (Operand.tmp 0)), SOper.mk (some 24) none (SOp.mv (Operand.tmp 1)),
          SOper.mk (some 25) none (SOp.call (Operand.func 210) [Operand.tmp 23, Operand.tmp 24]),
          SOper.mk (some 22) none (SOp.mv (Operand.tmp 25)), SOper.mk (some 26) none (SOp.extract 0 (Operand.tmp 22)),
          SOper.mk (some 27) none (SOp.extract 1 (Operand.tmp 22)), SOper.mk (some 8) none (SOp.mv (Operand.tmp 26)),
          SOper.mk (some 9) none (SOp.mv (Operand.tmp 27))]
        [8, 9])
      (Stmt.seq
        (Stmt.region
          [SOper.mk (some 28) none (SOp.mv (Operand.tmp 8)), SOper.mk (some 29) none (SOp.mv (Operand.tmp 9)),
            SOper.mk (some 4) none (SOp.mv (Operand.tmp 28)), SOper.mk (some 5) none (SOp.mv (Operand.tmp 29))]
          [4, 5])
        Stmt.ret)))
def S196 : FnS := ⟨30, [(4, none), (5, none)], S196_0⟩
theorem tr196 : trFn Try.prog 196 [] [[0, 1], [6, 7], [4, 5], [8, 9], [4, 5]] = some S196 := by kernel_rfl
end Go.Proofs.Ytniobbepliknmaa.V
/- The text of math/bits.Mul64 as a statement (slots: 0 x, 1 y, 2 x, 3 y, 4 hi, 5 lo, 6 x0, 7 x1, 8 y0, 9 y1, 10 w0, 11 t, 12 w1, 13 w2); no condition. -/
namespace Go.Proofs.Ytniobbepliknmaa.V
open Go
def S210_0 : Stmt :=
  Stmt.seq
  (Stmt.region
    [SOper.mk (some 4) none (SOp.mv (Operand.const (Value.int IntKind.u64 0))),
      SOper.mk (some 5) none (SOp.mv (Operand.const (Value.int IntKind.u64 0)))]
    [0, 1])
  (Stmt.seq
    (Stmt.region
      [SOper.mk (some 14) none (SOp.mv (Operand.tmp 0)),
        SOper.mk (some 15) none
          (SOp.fn (Fk.bits BinOp.and) [Operand.tmp 14, Operand.const (Value.int IntKind.u64 4294967295)]),
        SOper.mk (some 6) none (SOp.mv (Operand.tmp 15))]
      [0, 1, 6])
    (Stmt.seq
      (Stmt.region
        [SOper.mk (some 16) none (SOp.mv (Operand.tmp 0)),
          SOper.mk (some 17) none (SOp.ishift BinOp.shr (Operand.tmp 16) (Operand.const (Value.int IntKind.u64 32))),
          SOper.mk (some 7) none (SOp.mv (Operand.tmp 17))]
        [0, 1, 6, 7])
      (Stmt.seq
        (Stmt.region
          [SOper.mk (some 18) none (SOp.mv (Operand.tmp 1)),
            SOper.mk (some 19) none
              (SOp.fn (Fk.bits BinOp.and) [Operand.tmp 18, Operand.const (Value.int IntKind.u64 4294967295)]),
            SOper.mk (some 8) none (SOp.mv (Operand.tmp 19))]
          [0, 1, 6, 7, 8])
        (Stmt.seq
          (Stmt.region
            [SOper.mk (some 20) none (SOp.mv (Operand.tmp 1)),
              SOper.mk (some 21) none
                (SOp.ishift BinOp.shr (Operand.tmp 20) (Operand.const (Value.int IntKind.u64 32))),
              SOper.mk (some 9) none (SOp.mv (Operand.tmp 21))]
            [0, 1, 6, 7, 8, 9])
          (Stmt.seq
            (Stmt.region
              [SOper.mk (some 22) none (SOp.mv (Operand.tmp 6)), SOper.mk (some 23) none (SOp.mv (Operand.tmp 8)),
                SOper.mk (some 24) none (SOp.ibin BinOp.mul (Operand.tmp 22) (Operand.tmp 23)),
                SOper.mk (some 10) none (SOp.mv (Operand.tmp 24))]
              [0, 1, 6, 7, 8, 9, 10])
            (Stmt.seq
              (Stmt.region
                [SOper.mk (some 25) none (SOp.mv (Operand.tmp 7)), SOper.mk (some 26) none (SOp.mv (Operand.tmp 8)),
                  SOper.mk (some 27) none (SOp.ibin BinOp.mul (Operand.tmp 25) (Operand.tmp 26)),
                  SOper.mk (some 28) none (SOp.mv (Operand.tmp 10)),
                  SOper.mk (some 29) none
                    (SOp.ishift BinOp.shr (Operand.tmp 28) (Operand.const (Value.int IntKind.u64 32))),
                  SOper.mk (some 30) none (SOp.ibin BinOp.add (Operand.tmp 27) (Operand.tmp 29)),
                  SOper.mk (some 11) none (SOp.mv (Operand.tmp 30))]
                [0, 1, 6, 7, 9, 11])
              (Stmt.seq
                (Stmt.region
                  [SOper.mk (some 31) none (SOp.mv (Operand.tmp 11)),
                    SOper.mk (some 32) none
                      (SOp.fn (Fk.bits BinOp.and) [Operand.tmp 31, Operand.const (Value.int IntKind.u64 4294967295)]),
                    SOper.mk (some 12) none (SOp.mv (Operand.tmp 32))]
                  [0, 1, 6, 7, 9, 11, 12])
                (Stmt.seq
                  (Stmt.region
                    [SOper.mk (some 33) none (SOp.mv (Operand.tmp 11)),
                      SOper.mk (some 34) none
                        (SOp.ishift BinOp.shr (Operand.tmp 33) (Operand.const (Value.int IntKind.u64 32))),
                      SOper.mk (some 13) none (SOp.mv (Operand.tmp 34))]
                    [0, 1, 6, 7, 9, 12, 13])
                  (Stmt.seq
                    (Stmt.region
                      [SOper.mk (some 35) none (SOp.mv (Operand.tmp 12)),
                        SOper.mk (some 36) none (SOp.mv (Operand.tmp 6)),
                        SOper.mk (some 37) none (SOp.mv (Operand.tmp 9)),
                        SOper.mk (some 38) none (SOp.ibin BinOp.mul (Operand.tmp 36) (Operand.tmp 37)),
                        SOper.mk (some 39) none (SOp.ibin BinOp.add (Operand.tmp 35) (Operand.tmp 38)),
                        SOper.mk (some 12) none (SOp.mv (Operand.tmp 39))]
                      [0, 1, 7, 9, 12, 13])
                    (Stmt.seq
                      (Stmt.region
                        [SOper.mk (some 40) none (SOp.mv (Operand.tmp 7)),
                          SOper.mk (some 41) none (SOp.mv (Operand.tmp 9)),
                          SOper.mk (some 42) none (SOp.ibin BinOp.mul (Operand.tmp 40) (Operand.tmp 41)),
                          SOper.mk (some 43) none (SOp.mv (Operand.tmp 13)),
                          SOper.mk (some 44) none (SOp.ibin BinOp.add (Operand.tmp 42) (Operand.tmp 43)),
                          SOper.mk (some 45) none (SOp.mv (Operand.tmp 12)),
                          SOper.mk (some 46) none
                            (SOp.ishift BinOp.shr (Operand.tmp 45) (Operand.const (Value.int IntKind.u64 32))),
                          SOper.mk (some 47) none (SOp.ibin BinOp.add (Operand.tmp 44) (Operand.tmp 46)),
                          SOper.mk (some 4) none (SOp.mv (Operand.tmp 47))]
                        [0, 1, 4])
                      (Stmt.seq
                        (Stmt.region
                          [SOper.mk (some 48) none (SOp.mv (Operand.tmp 0)),
                            SOper.mk (some 49) none (SOp.mv (Operand.tmp 1)),
                            SOper.mk (some 50) none (SOp.ibin BinOp.mul (Operand.tmp 48) (Operand.tmp 49)),
                            SOper.mk (some 5) none (SOp.mv (Operand.tmp 50))]
                          [4, 5])
                        Stmt.ret)))))))))))
def S210 : FnS := ⟨51, [(4, none), (5, none)], S210_0⟩
theorem tr210 : trFn Try.prog 210 [] [[0, 1], [0, 1, 6], [0, 1, 6, 7], [0, 1, 6, 7, 8], [0, 1, 6, 7, 8, 9], [0, 1, 6, 7, 8, 9, 10], [0, 1, 6, 7, 9, 11], [0, 1, 6, 7, 9, 11, 12], [0, 1, 6, 7, 9, 12, 13], [0, 1, 7, 9, 12, 13], [0, 1, 4], [4, 5]] = some S210 := by kernel_rfl
end Go.Proofs.Ytniobbepliknmaa.V
/- math/bits.Mul64 and Mul of small numbers, slices.Repeat of one number; no condition. -/
namespace Go.Proofs.Ytniobbepliknmaa.V
open Go
set_option linter.unusedVariables false
set_option linter.unusedSimpArgs false
attribute [local go_sem] e_seq e_region e_quiet e_join e_loop e_cond e_block e_exit e_ret e_skip e_fin e_kseq e_snrm e_sret e_sex e_bnrm e_bret e_bex e_rnrm e_rret e_res e_condC e_nil e_g e_mv g_mv e_pick g_pick pickC_eq e_ibin g_ibin ibinC_eq e_sbin g_sbin e_beq g_beq beqC_eq e_nilq g_nilq nilqC_sl nilqC_pt nilqC_mp e_un g_un unC_not unC_neg e_conv g_conv convC_eq e_fld g_fld fldC_ref fldC_ptr e_nilCheck g_nilCheck nilCheckC_ref nilCheckC_ptr nilCheckC_fun e_field g_field fieldC_eq e_len g_len lenC_sl lenC_str e_extract g_extract extractC_eq e_mkFunc e_build g_build e_idiv g_idiv idivC_eq e_ishift g_ishift ishiftC_eq e_idx g_idx e_idxA g_idxA e_load g_load e_loadB g_loadB atB_ref atB_v g_mkFunc loadC_ref loadC_ptr loadB_eq e_slc g_slc e_box boxC_loc boxC_esc e_alloc allocC_loc allocC_esc e_buildS e_store storeC_ref storeC_ptr storeB_eq e_append e_appz e_mk mkC_eq e_call callC_eq e_fn g_fn fnC_eq fnV_min' fnV_max' fnV_rune' e_q g_q e_a e_n g_call g_box g_alloc g_buildS g_store g_append g_mk g_a g_n g_dead e_dead e_callK e_drawn e_tree e_finJ e_tk e_tfin e_tno e_nbt_q e_nbt_qn e_nbt_a e_nbt_an e_nbt_fin e_drawnB e_bxb_nil e_bxb e_stB_none e_stB_some boxSt_store bs_mv bs_pick bs_ibin bs_idiv bs_ishift bs_sbin bs_beq bs_nilq bs_un bs_conv bs_box bs_alloc bs_build bs_buildS bs_load bs_fld bs_nilCheck bs_idx bs_idxA bs_field bs_slc bs_len bs_append bs_appz bs_mk bs_call bs_extract bs_mkFunc bs_fn bs_q bs_a bs_n bs_loadB bs_dead isBox_box e_early_nil e_early_t e_early_f e_nob_nil e_nob_none e_nob_some isBox_dead isBox_v isBox_ref e_dnil e_dk e_ek e_finB vcOps_vc1 e_dcons e_tq e_ekt e_tearly e_talt e_dearly look_nil look_c proj_nil proj_c looks_nil looks_c zip_nil zip_c val_tmp val_const val_func slv_v slv_box slv_ref slot_tmp slot_const slot_func slotL_v slotL_box slotL_ref put_some put_none updBox_c boxSet_box gd_eq slotVals_nil slotVals_c slotVals_b boxV_box boxOn_box slotsOn_nil slotsOn_c slotsOn_b resV_one resV_two vals_nil vals_c allOn_nil allOn_c partOn_nil partOn_c partVals_nil partVals_c fits_nil fits_c fillL_nil fillL_c mkv_one mkv_agg cellsV_agg cellsV_int cellsV_bool cellsV_slice cellsV_string cellsV_pointer cellsV_func cellsV_nilf cellsV_map one'_nil one'_c oc_int oc_bool oc_slice oc_string oc_pointer oc_func oc_nilf oc_map setC_eq iv_add iv_sub iv_mul iv_eql iv_neq iv_lss iv_leq iv_gtr iv_geq iok_add iok_sub iok_mul iok_eql iok_neq iok_lss iok_leq iok_gtr iok_geq pickV_bool args0_nil args0_c bnd_none bnd_some imp_bt imp_bf imp_ebt imp_ebf imp_eb1 imp_np imp_pp beq_tt beq_tf beq_ft beq_ff cond_or cond_and e_round e_meet Int.le_refl Int.toNat_zero decide_true decide_false Bool.or_false Bool.false_or Bool.true_or Bool.or_true Bool.and_false Bool.false_and Bool.bne_false Bool.bne_true beq_iff_eq Int.cast_ofNat_Int not_false_eq_true not_true_eq_false false_and and_false false_implies true_implies true_and and_true Bool.true_and Bool.and_true Bool.not_true Bool.not_false forall_const implies_true List.take_zero List.drop_zero List.take_succ_cons List.drop_succ_cons List.take_nil List.drop_nil List.length_cons List.length_nil List.nil_append List.append_nil List.cons_append Int.toNat_natCast decide_eq_true_eq decide_eq_false_iff_not cond_true cond_false and_self List.getElem?_cons_zero List.getElem?_cons_succ List.set_cons_zero List.set_cons_succ Option.some.injEq exists_eq_left' Nat.zero_add Nat.add_zero Nat.mul_one imp_self true_or or_true or_false false_or Bool.or_eq_true Bool.or_eq_false_iff Bool.and_eq_true Bool.and_eq_false_iff Bool.not_eq_true' Bool.not_eq_false'

theorem mask_small {x : Nat} (h : x < 4294967296) : fnV (.bits .and) [.int .u64 x, .int .u64 4294967295] = some (.int .u64 (x : Int)) := by
  have := bit_and (k := .u64) (.inr rfl) (x := x) (y := 4294967295) h (by omega)
  rw [show x &&& 4294967295 = x from by
    have := Nat.and_two_pow_sub_one_eq_mod (x := x) (n := 32)
    simp at this
    rw [this]; omega] at this
  exact this
theorem shr_small {x : Nat} (h : x < 4294967296) : ishiftV .shr .u64 (x : Int) 32 = .int .u64 0 := by
  simp only [ishiftV, IntKind.bits]
  rw [show min (32 : Int).toNat 64 = 32 from rfl]
  congr 1
  rw [Int.fdiv_eq_ediv_of_nonneg _ (by omega)]
  omega
theorem bits_mul64 {Γr : Ctx} (x y : Nat) (hx : x < 65536) (hy : y < 65536) : Ret Try.prog 210 [.int .u64 x, .int .u64 y] Γr [] (fun v Γ => Γ = [] ∧ v = .tuple #[.int .u64 0, .int .u64 ((x * y : Nat) : Int)]) := by
  generalize hR : (fun (v : Value) (Γ : Ctx) => Γ = [] ∧ v = _) = R
  refine ret_of_vc tr210 (Nat.le_of_ble_eq_true rfl) ?_
  have hxy : x * y < 4294967296 := by
    calc x * y ≤ 65535 * y := Nat.mul_le_mul_right _ (by omega)
      _ < 4294967296 := by omega
  have e1 : IntKind.u64.wrap ((x : Int) * (y : Int)) = ((x * y : Nat) : Int) := by rw [← Int.natCast_mul]; exact wrapU (.inr rfl) hxy
  have e0 : IntKind.u64.wrap 0 = 0 := rfl
  have e2 : ishiftV .shr .u64 0 32 = .int .u64 0 := rfl
  have m0 : fnV (.bits .and) [.int .u64 0, .int .u64 4294967295] = some (.int .u64 0) := mask_small (x := 0) (by omega)
  simp -implicitDefEqProofs only [S210, S210_0, go_sem, Nat.reduceBEq, Nat.reduceAdd, Nat.reduceSub, Nat.reduceMul, Nat.reduceLeDiff, reduceCtorEq, ↓reduceIte, Int.reduceLT, Int.reduceLE, Int.reduceEq, Int.reduceNe]
  refine ⟨_, fun _ => ⟨trivial, mask_small (by omega)⟩, ?_⟩
  simp -implicitDefEqProofs only [shr_small (x := x) (by omega), go_sem, Nat.reduceBEq, Nat.reduceAdd, Nat.reduceSub, Nat.reduceMul, Nat.reduceLeDiff, reduceCtorEq, ↓reduceIte, Int.reduceLT, Int.reduceLE, Int.reduceEq, Int.reduceNe]
  refine ⟨_, fun _ => ⟨trivial, mask_small (by omega)⟩, ?_⟩
  simp -implicitDefEqProofs only [shr_small (x := y) (by omega), e1, shr_small (x := x * y) hxy, Int.zero_mul, Int.mul_zero, Int.add_zero, e0, e2, go_sem, Nat.reduceBEq, Nat.reduceAdd, Nat.reduceSub, Nat.reduceMul, Nat.reduceLeDiff, reduceCtorEq, ↓reduceIte, Int.reduceLT, Int.reduceLE, Int.reduceEq, Int.reduceNe]
  refine ⟨_, fun _ => ⟨trivial, m0⟩, ?_⟩
  simp -implicitDefEqProofs only [Int.zero_mul, Int.mul_zero, Int.add_zero, e0, e2, e1, go_sem, Nat.reduceBEq, Nat.reduceAdd, Nat.reduceSub, Nat.reduceMul, Nat.reduceLeDiff, reduceCtorEq, ↓reduceIte, Int.reduceLT, Int.reduceLE, Int.reduceEq, Int.reduceNe]
  refine Up.here ?_
  subst hR
  exact ⟨rfl, rfl⟩
theorem bits_mul {Γr : Ctx} (x y : Nat) (hx : x < 65536) (hy : y < 65536) : Ret Try.prog 196 [.int .u64 x, .int .u64 y] Γr [] (fun v Γ => Γ = [] ∧ v = .tuple #[.int .u64 0, .int .u64 ((x * y : Nat) : Int)]) := by
  generalize hR : (fun (v : Value) (Γ : Ctx) => Γ = [] ∧ v = _) = R
  refine ret_of_vc tr196 (Nat.le_of_ble_eq_true rfl) ?_
  simp -implicitDefEqProofs only [S196, S196_0, go_sem, Nat.reduceBEq, Nat.reduceAdd, Nat.reduceSub, Nat.reduceMul, Nat.reduceLeDiff, reduceCtorEq, ↓reduceIte, Int.reduceLT, Int.reduceLE, Int.reduceEq, Int.reduceNe]
  refine CallVC.read (bits_mul64 x y hx hy) ?_
  rintro v Γ' ⟨rfl, rfl⟩
  simp -implicitDefEqProofs only [go_sem, Nat.reduceBEq, Nat.reduceAdd, Nat.reduceSub, Nat.reduceMul, Nat.reduceLeDiff, reduceCtorEq, ↓reduceIte, Int.reduceLT, Int.reduceLE, Int.reduceEq, Int.reduceNe]
  refine Up.here ?_
  subst hR
  exact ⟨rfl, rfl⟩
/-- one number, so many times -/
theorem slices_repeat1 {Γr : Ctx} {A : Option Addr} {c : Nat} {x : Int} (hx : SlOk (lk Γr) A c [x]) (n : Nat) (hn : n ≤ 1000) :
    Ret Try.prog 163 [.slice A 1 c, .int .i64 n] Γr [] (fun v Γ => ∃ g b, Γ = [g] ∧ v = .slice (some ⟨b, 0, none⟩) n n ∧ Arr g b 3 (List.replicate n x)) := by
  generalize hR : (fun (v : Value) (Γ : Ctx) => ∃ g b, _) = R
  refine ret_of_vc tr163 (Nat.le_of_ble_eq_true rfl) ?_
  have w1 : IntKind.u64.wrap 1 = ((1 : Nat) : Int) := rfl
  have w2 : IntKind.u64.wrap (n : Int) = (n : Int) := wrapU (.inr rfl) (by omega)
  obtain ⟨b0, o0, hA, hc0⟩ := hx.int (i := 0) (by simp)
  simp -implicitDefEqProofs only [S163, S163_0, go_sem, Nat.reduceBEq, Nat.reduceAdd, Nat.reduceSub, Nat.reduceMul, Nat.reduceLeDiff, reduceCtorEq, ↓reduceIte, Int.reduceLT, Int.reduceLE, Int.reduceEq, Int.reduceNe]
  refine s_split ?_
  simp -implicitDefEqProofs only [S163_1, go_sem, Nat.reduceBEq, Nat.reduceAdd, Nat.reduceSub, Nat.reduceMul, Nat.reduceLeDiff, reduceCtorEq, ↓reduceIte, Int.reduceLT, Int.reduceLE, Int.reduceEq, Int.reduceNe]
  refine ⟨fun h => by omega, fun _ => ?_⟩
  simp -implicitDefEqProofs only [S163_5, w1, w2, go_sem, Nat.reduceBEq, Nat.reduceAdd, Nat.reduceSub, Nat.reduceMul, Nat.reduceLeDiff, reduceCtorEq, ↓reduceIte, Int.reduceLT, Int.reduceLE, Int.reduceEq, Int.reduceNe]
  refine Up.here ?_
  refine CallVC.read (bits_mul 1 n (by omega) (by omega)) ?_
  rintro v Γ' ⟨rfl, rfl⟩
  simp -implicitDefEqProofs only [go_sem, Nat.reduceBEq, Nat.reduceAdd, Nat.reduceSub, Nat.reduceMul, Nat.reduceLeDiff, reduceCtorEq, ↓reduceIte, Int.reduceLT, Int.reduceLE, Int.reduceEq, Int.reduceNe]
  refine s_split ?_
  simp -implicitDefEqProofs only [S163_2, go_sem, Nat.reduceBEq, Nat.reduceAdd, Nat.reduceSub, Nat.reduceMul, Nat.reduceLeDiff, reduceCtorEq, ↓reduceIte, Int.reduceLT, Int.reduceLE, Int.reduceEq, Int.reduceNe]
  refine ⟨fun h => by omega, fun _ => Up.here ?_⟩
  have c1 : IntKind.i64.wrap ((1 * n : Nat) : Int) = (n : Int) := by rw [Nat.one_mul]; exact wrap_id (by omega) (by omega)
  simp -implicitDefEqProofs only [S163_4, c1, go_sem, Nat.reduceBEq, Nat.reduceAdd, Nat.reduceSub, Nat.reduceMul, Nat.reduceLeDiff, reduceCtorEq, ↓reduceIte, Int.reduceLT, Int.reduceLE, Int.reduceEq, Int.reduceNe]
  refine ⟨by omega, by omega, fun b => ?_⟩
  have hA0 : Arr (one b (.cells (zerosL [Value.int .i64 0] n).toArray 3)) b 3 (List.replicate n (0 : Int)) := Arr.made (0 : Int) b 3 n
  revert hA0
  generalize one b _ = g0
  intro hA0
  refine s_copy (α := Int) (T := 3) (e := 3) (ix := 0) (xs := List.replicate n (0 : Int)) (ys := if n = 0 then [] else [x]) (by kernel_rfl) (by kernel_rfl) rfl hA0 (by simp) (by split <;> simp <;> omega) (fun h => ⟨b0, o0, hA, ?_⟩) (fun _ => .inr ⟨b0, o0, hA⟩) fun g1 hA1 _ => ?_
  · rw [if_neg (by rintro rfl; simp at h)]
    simpa [Sc.enc] using hc0 (g0 :: Γr) (lk_r [g0] Γr)
  have hA1' : Arr g1 b 3 (List.replicate (min 1 n) x ++ List.replicate (n - min 1 n) (0 : Int)) := by
    by_cases h : n = 0
    · subst h; simpa using hA1
    · rw [if_neg h] at hA1
      simpa [show min 1 n = 1 by omega] using hA1
  have hl1 : ((if n = 0 then [] else [x]).length : Nat) = min 1 n := by split <;> simp <;> omega
  rw [hl1]
  simp -implicitDefEqProofs only [go_sem, Nat.reduceBEq, Nat.reduceAdd, Nat.reduceSub, Nat.reduceMul, Nat.reduceLeDiff, reduceCtorEq, ↓reduceIte, Int.reduceLT, Int.reduceLE, Int.reduceEq, Int.reduceNe]
  refine s_loop (fun f vs Γ => ∃ (k : Nat) (g : PH), vs = [.v true (.int .i64 k)] ∧ k + f = n ∧ min 1 n ≤ k ∧ Γ = [g] ∧ Arr g b 3 (List.replicate k x ++ List.replicate (n - k) (0 : Int))) (n - min 1 n)
    (Up.here ⟨min 1 n, g1, rfl, by omega, Nat.le_refl _, rfl, hA1'⟩) ?_
  rintro f vs Γ ⟨k, g, rfl, hkf, hk1, rfl, hA2⟩
  simp -implicitDefEqProofs only [S163_3, go_sem, Nat.reduceBEq, Nat.reduceAdd, Nat.reduceSub, Nat.reduceMul, Nat.reduceLeDiff, reduceCtorEq, ↓reduceIte, Int.reduceLT, Int.reduceLE, Int.reduceEq, Int.reduceNe]
  refine ⟨fun hlt => ?_, fun hge => ?_⟩
  · refine s_lo k (by simp -implicitDefEqProofs only [go_sem, Nat.reduceBEq, Nat.reduceAdd, Nat.reduceSub, Nat.reduceMul, Nat.reduceLeDiff, reduceCtorEq, ↓reduceIte, Int.reduceLT, Int.reduceLE, Int.reduceEq, Int.reduceNe]; exact ⟨_, rfl⟩) (by omega) (by omega) ?_
    intro A7 hA7
    have hA7' : A7 = some ⟨b, k, none⟩ := by rw [hA7, if_neg (by omega)]; simp [add_mk]
    subst hA7'
    simp -implicitDefEqProofs only [go_sem, Nat.reduceBEq, Nat.reduceAdd, Nat.reduceSub, Nat.reduceMul, Nat.reduceLeDiff, reduceCtorEq, ↓reduceIte, Int.reduceLT, Int.reduceLE, Int.reduceEq, Int.reduceNe]
    refine s_hi k (by simp -implicitDefEqProofs only [go_sem, Nat.reduceBEq, Nat.reduceAdd, Nat.reduceSub, Nat.reduceMul, Nat.reduceLeDiff, reduceCtorEq, ↓reduceIte, Int.reduceLT, Int.reduceLE, Int.reduceEq, Int.reduceNe]; exact ⟨_, rfl⟩) (by omega) ?_
    simp -implicitDefEqProofs only [go_sem, Nat.reduceBEq, Nat.reduceAdd, Nat.reduceSub, Nat.reduceMul, Nat.reduceLeDiff, reduceCtorEq, ↓reduceIte, Int.reduceLT, Int.reduceLE, Int.reduceEq, Int.reduceNe]
    refine s_copy (α := Int) (T := 3) (e := 3) (ix := 0) (ys := List.replicate (min k (n - k)) x) (by kernel_rfl) (by kernel_rfl) rfl hA2 (by simp) (by simp) (fun h => ⟨b, 0, rfl, ?_⟩) (fun _ => .inr ⟨b, 0, rfl⟩) fun g3 hA3 _ => ?_
    · refine ⟨g, by simp, _, 3, _, hA2, fun j hj => ?_⟩
      have hj : j < min k (n - k) := by simpa using hj
      simp [List.getElem?_append, List.getElem?_replicate, hj, show j < k by omega]
    simp -implicitDefEqProofs only [go_sem, Nat.reduceBEq, Nat.reduceAdd, Nat.reduceSub, Nat.reduceMul, Nat.reduceLeDiff, reduceCtorEq, ↓reduceIte, Int.reduceLT, Int.reduceLE, Int.reduceEq, Int.reduceNe]
    rw [List.length_replicate, wrap_id (by omega) (by omega)]
    refine ⟨f - min k (n - k), by omega, Up.here ⟨k + min k (n - k), g3, by simp, by omega, by omega, rfl, ?_⟩⟩
    have e1 : (List.replicate k x ++ List.replicate (n - k) (0 : Int)).take k = List.replicate k x := by
      rw [List.take_append_of_le_length (by simp)]
      simp
    have e2 : (List.replicate k x ++ List.replicate (n - k) (0 : Int)).drop (k + (List.replicate (min k (n - k)) x).length) = List.replicate (n - (k + min k (n - k))) (0 : Int) := by
      rw [List.drop_append]
      simp
      omega
    rw [e1, e2] at hA3
    rwa [← List.replicate_append_replicate]
  · have hk : k = n := by omega
    subst hk
    refine Up.here ?_
    subst hR
    refine ⟨g, b, rfl, rfl, by simpa using hA2⟩
end Go.Proofs.Ytniobbepliknmaa.V
/- The text of parlance/mini.complete as a statement (slots: 0 d, 1 d, 3 n, 4 cols, 5 f, 6 s, 7 row, 8 c, 9 t, 10 c, 11 s, 12 t); no condition. -/
namespace Go.Proofs.Ytniobbepliknmaa.V
open Go
def S161_1 : Stmt :=
  Stmt.block 3
  (Stmt.seq
    (Stmt.region
      [SOper.mk (some 47) none (SOp.mv (Operand.tmp 45)),
        SOper.mk (some 48) none (SOp.idx 1 (Operand.tmp 43) (Operand.tmp 45)),
        SOper.mk (some 49) none (SOp.load false 1 (Operand.tmp 48)), SOper.mk (some 8) none (SOp.mv (Operand.tmp 47)),
        SOper.mk (some 9) none (SOp.mv (Operand.tmp 49))]
      [1, 2, 3, 4, 5, 7, 8, 9, 28, 29, 43, 44, 45])
    (Stmt.seq
      (Stmt.region
        [SOper.mk (some 50) none (SOp.mv (Operand.tmp 9)),
          SOper.mk (some 51) none (SOp.ibin BinOp.geq (Operand.tmp 50) (Operand.const (Value.int IntKind.i64 0)))]
        [1, 2, 3, 4, 5, 7, 8, 9, 28, 29, 43, 44, 45, 51])
      (Stmt.cond (Operand.tmp 51)
        (Stmt.region
          [SOper.mk (some 52) none (SOp.mv (Operand.tmp 7)), SOper.mk (some 53) none (SOp.mv (Operand.tmp 8)),
            SOper.mk (some 54) none (SOp.mv (Operand.tmp 9)),
            SOper.mk (some 55) none (SOp.idx 1 (Operand.tmp 52) (Operand.tmp 53)),
            SOper.mk none none (SOp.store 1 (Operand.tmp 55) (Operand.tmp 54))]
          [1, 2, 3, 4, 5, 7, 28, 29, 43, 44, 45])
        Stmt.skip)))
def S161_2 : Stmt :=
  Stmt.region
  [SOper.mk (some 56) none (SOp.ibin BinOp.add (Operand.tmp 45) (Operand.const (Value.int IntKind.i64 1))),
    SOper.mk (some 45) none (SOp.mv (Operand.tmp 56))]
  [1, 2, 3, 4, 5, 7, 28, 29, 43, 44, 45]
def S161_3 : Stmt :=
  Stmt.seq
  (Stmt.region [SOper.mk (some 46) none (SOp.ibin BinOp.lss (Operand.tmp 45) (Operand.tmp 44))]
    [1, 2, 3, 4, 5, 7, 28, 29, 43, 44, 45, 46])
  (Stmt.seq (Stmt.cond (Operand.tmp 46) Stmt.skip (Stmt.exit 2))
    (Stmt.join S161_1 S161_2 [] [1, 2, 3, 4, 5, 7, 28, 29, 43, 44, 45]))
def S161_4 : Stmt :=
  Stmt.seq
  (Stmt.region
    [SOper.mk (some 36) none (SOp.mv (Operand.tmp 6)), SOper.mk (some 37) none (SOp.mv (Operand.tmp 3)),
      SOper.mk (some 38) none (SOp.ibin BinOp.lss (Operand.tmp 36) (Operand.tmp 37))]
    [1, 2, 3, 4, 5, 6, 7, 28, 29, 38])
  (Stmt.cond (Operand.tmp 38)
    (Stmt.seq
      (Stmt.region
        [SOper.mk (some 39) none (SOp.fld 2 (Operand.tmp 1)),
          SOper.mk (some 40) none (SOp.load false 1 (Operand.tmp 39)), SOper.mk (some 41) none (SOp.mv (Operand.tmp 6)),
          SOper.mk (some 42) none (SOp.idx 1 (Operand.tmp 40) (Operand.tmp 41)),
          SOper.mk (some 43) none (SOp.load false 1 (Operand.tmp 42)),
          SOper.mk (some 44) none (SOp.len false (Operand.tmp 43)),
          SOper.mk (some 45) none (SOp.mv (Operand.const (Value.int IntKind.i64 0)))]
        [1, 2, 3, 4, 5, 7, 28, 29, 43, 44, 45])
      (Stmt.block 2 (Stmt.loop S161_3 [45] [1, 2, 3, 4, 5, 7, 28, 29, 43, 44])))
    Stmt.skip)
def S161_5 : Stmt :=
  Stmt.region
  [SOper.mk (some 57) none (SOp.fld 1 (Operand.tmp 5)), SOper.mk (some 58) none (SOp.load false 1 (Operand.tmp 57)),
    SOper.mk (some 59) none (SOp.mv (Operand.tmp 7)),
    SOper.mk (some 60) none (SOp.buildS 29 1 [Value.slice none 0 0] [(0, 1, Operand.tmp 59)]),
    SOper.mk (some 61) none (SOp.append 65 29 1 24 (Value.slice none 0 0) (Operand.tmp 58) (Operand.tmp 60)),
    SOper.mk (some 62) none (SOp.fld 1 (Operand.tmp 5)),
    SOper.mk none none (SOp.store 1 (Operand.tmp 62) (Operand.tmp 61))]
  [1, 2, 3, 4, 5, 28, 29]
def S161_6 : Stmt :=
  Stmt.block 1
  (Stmt.seq
    (Stmt.region [SOper.mk (some 31) none (SOp.mv (Operand.tmp 29)), SOper.mk (some 6) none (SOp.mv (Operand.tmp 31))]
      [1, 2, 3, 4, 5, 6, 28, 29])
    (Stmt.seq
      (Stmt.region
        [SOper.mk (some 32) none (SOp.mv (Operand.tmp 3)),
          SOper.mk (some 33) none (SOp.buildS 3 1 [Value.int IntKind.i64 0] [(0, 1, Operand.tmp 32)]),
          SOper.mk (some 34) none (SOp.mv (Operand.tmp 4)),
          SOper.mk (some 35) none (SOp.call (Operand.func 163) [Operand.tmp 33, Operand.tmp 34]),
          SOper.mk (some 7) none (SOp.mv (Operand.tmp 35))]
        [1, 2, 3, 4, 5, 6, 7, 28, 29])
      (Stmt.join S161_4 S161_5 [] [1, 2, 3, 4, 5, 7, 28, 29])))
def S161_7 : Stmt :=
  Stmt.region
  [SOper.mk (some 63) none (SOp.ibin BinOp.add (Operand.tmp 29) (Operand.const (Value.int IntKind.i64 1))),
    SOper.mk (some 29) none (SOp.mv (Operand.tmp 63))]
  [1, 2, 3, 4, 5, 28, 29]
def S161_8 : Stmt :=
  Stmt.seq
  (Stmt.region [SOper.mk (some 30) none (SOp.ibin BinOp.lss (Operand.tmp 29) (Operand.tmp 28))]
    [1, 2, 3, 4, 5, 28, 29, 30])
  (Stmt.seq (Stmt.cond (Operand.tmp 30) Stmt.skip (Stmt.exit 0)) (Stmt.join S161_6 S161_7 [5] [1, 2, 3, 4, 28, 29]))
def S161_9 : Stmt :=
  Stmt.seq
  (Stmt.region [SOper.mk (some 80) none (SOp.ibin BinOp.lss (Operand.tmp 79) (Operand.tmp 78))]
    [2, 3, 5, 10, 64, 65, 78, 79, 80])
  (Stmt.seq (Stmt.cond (Operand.tmp 80) Stmt.skip (Stmt.exit 6))
    (Stmt.seq
      (Stmt.block 7
        (Stmt.seq
          (Stmt.region
            [SOper.mk (some 81) none (SOp.mv (Operand.tmp 79)), SOper.mk (some 11) none (SOp.mv (Operand.tmp 81))]
            [2, 3, 5, 10, 11, 64, 65, 78, 79])
          (Stmt.seq
            (Stmt.region
              [SOper.mk (some 82) none (SOp.fld 1 (Operand.tmp 5)),
                SOper.mk (some 83) none (SOp.load false 1 (Operand.tmp 82)),
                SOper.mk (some 84) none (SOp.mv (Operand.tmp 11)),
                SOper.mk (some 85) none (SOp.idx 1 (Operand.tmp 83) (Operand.tmp 84)),
                SOper.mk (some 86) none (SOp.load false 1 (Operand.tmp 85)),
                SOper.mk (some 87) none (SOp.mv (Operand.tmp 10)),
                SOper.mk (some 88) none (SOp.idx 1 (Operand.tmp 86) (Operand.tmp 87)),
                SOper.mk (some 89) none (SOp.load false 1 (Operand.tmp 88)),
                SOper.mk (some 12) none (SOp.mv (Operand.tmp 89))]
              [2, 3, 5, 10, 11, 12, 64, 65, 78, 79])
            (Stmt.drawn
              [(false, SOper.mk (some 90) none (SOp.fld 2 (Operand.tmp 5))),
                (true, SOper.mk (some 91) none (SOp.load false 1 (Operand.tmp 90))),
                (false, SOper.mk (some 92) none (SOp.mv (Operand.tmp 10))),
                (false, SOper.mk (some 93) none (SOp.idx 1 (Operand.tmp 91) (Operand.tmp 92))),
                (true, SOper.mk (some 94) none (SOp.load false 1 (Operand.tmp 93))),
                (false, SOper.mk (some 95) none (SOp.mv (Operand.tmp 12))),
                (false, SOper.mk (some 96) none (SOp.fld 2 (Operand.tmp 5))),
                (false, SOper.mk (some 97) none (SOp.load false 1 (Operand.tmp 96))),
                (false, SOper.mk (some 98) none (SOp.mv (Operand.tmp 10))),
                (false, SOper.mk (some 99) none (SOp.idx 1 (Operand.tmp 97) (Operand.tmp 98))),
                (false, SOper.mk (some 100) none (SOp.load false 1 (Operand.tmp 99))),
                (false, SOper.mk (some 101) none (SOp.mv (Operand.tmp 12))),
                (false, SOper.mk (some 102) none (SOp.idx 1 (Operand.tmp 100) (Operand.tmp 101))),
                (false, SOper.mk (some 103) none (SOp.load false 1 (Operand.tmp 102))),
                (false, SOper.mk (some 104) none (SOp.mv (Operand.tmp 11))),
                (false, SOper.mk (some 105) none (SOp.buildS 3 1 [Value.int IntKind.i64 0] [(0, 1, Operand.tmp 104)])),
                (false,
                  SOper.mk (some 106) none
                    (SOp.append 29 3 1 8 (Value.int IntKind.i64 0) (Operand.tmp 103) (Operand.tmp 105))),
                (false, SOper.mk (some 107) none (SOp.idx 1 (Operand.tmp 94) (Operand.tmp 95))),
                (false, SOper.mk none none (SOp.store 1 (Operand.tmp 107) (Operand.tmp 106)))]
              [2, 3, 5, 10, 64, 65, 78, 79]))))
      (Stmt.region
        [SOper.mk (some 108) none (SOp.ibin BinOp.add (Operand.tmp 79) (Operand.const (Value.int IntKind.i64 1))),
          SOper.mk (some 79) none (SOp.mv (Operand.tmp 108))]
        [2, 3, 5, 10, 64, 65, 78, 79])))
def S161_10 : Stmt :=
  Stmt.seq
  (Stmt.region [SOper.mk (some 66) none (SOp.ibin BinOp.lss (Operand.tmp 65) (Operand.tmp 64))] [2, 3, 5, 64, 65, 66])
  (Stmt.seq (Stmt.cond (Operand.tmp 66) Stmt.skip (Stmt.exit 4))
    (Stmt.seq
      (Stmt.block 5
        (Stmt.seq
          (Stmt.region
            [SOper.mk (some 67) none (SOp.mv (Operand.tmp 65)), SOper.mk (some 10) none (SOp.mv (Operand.tmp 67))]
            [2, 3, 5, 10, 64, 65])
          (Stmt.seq
            (Stmt.drawn
              [(false, SOper.mk (some 68) none (SOp.fld 2 (Operand.tmp 5))),
                (false, SOper.mk (some 69) none (SOp.load false 1 (Operand.tmp 68))),
                (false, SOper.mk (some 70) none (SOp.mv (Operand.tmp 3))),
                (false,
                  SOper.mk (some 71) none
                    (SOp.ibin BinOp.add (Operand.tmp 70) (Operand.const (Value.int IntKind.i64 1)))),
                (false,
                  SOper.mk (some 72) none (SOp.mk 29 1 24 (Value.slice none 0 0) (Operand.tmp 71) (Operand.tmp 71))),
                (false, SOper.mk (some 73) none (SOp.buildS 65 1 [Value.slice none 0 0] [(0, 1, Operand.tmp 72)])),
                (false,
                  SOper.mk (some 74) none
                    (SOp.append 170 65 1 24 (Value.slice none 0 0) (Operand.tmp 69) (Operand.tmp 73))),
                (false, SOper.mk (some 75) none (SOp.fld 2 (Operand.tmp 5))),
                (false, SOper.mk none none (SOp.store 1 (Operand.tmp 75) (Operand.tmp 74)))]
              [2, 3, 5, 10, 64, 65])
            (Stmt.seq
              (Stmt.region
                [SOper.mk (some 76) none (SOp.fld 1 (Operand.tmp 5)),
                  SOper.mk (some 77) none (SOp.load false 1 (Operand.tmp 76)),
                  SOper.mk (some 78) none (SOp.len false (Operand.tmp 77)),
                  SOper.mk (some 79) none (SOp.mv (Operand.const (Value.int IntKind.i64 0)))]
                [2, 3, 5, 10, 64, 65, 78, 79])
              (Stmt.block 6 (Stmt.loop S161_9 [79] [2, 3, 5, 10, 64, 65, 78]))))))
      (Stmt.region
        [SOper.mk (some 109) none (SOp.ibin BinOp.add (Operand.tmp 65) (Operand.const (Value.int IntKind.i64 1))),
          SOper.mk (some 65) none (SOp.mv (Operand.tmp 109))]
        [2, 3, 5, 64, 65])))
def S161_0 : Stmt :=
  Stmt.seq
  (Stmt.region
    [SOper.mk (some 1) none (SOp.box true 67 (Operand.tmp 0)),
      SOper.mk (some 2) none
        (SOp.alloc true 204 (Value.agg (Array.mk [Value.slice none 0 0, Value.slice none 0 0, Value.slice none 0 0])))]
    [1, 2])
  (Stmt.seq
    (Stmt.quiet
      [SOper.mk (some 13) none (SOp.fld 2 (Operand.tmp 1)), SOper.mk (some 14) none (SOp.load false 1 (Operand.tmp 13)),
        SOper.mk (some 15) none (SOp.len false (Operand.tmp 14)), SOper.mk (some 16) none (SOp.fld 2 (Operand.tmp 1)),
        SOper.mk (some 17) none (SOp.load false 1 (Operand.tmp 16)),
        SOper.mk (some 18) none (SOp.idx 1 (Operand.tmp 17) (Operand.const (Value.int IntKind.i64 0))),
        SOper.mk (some 19) none (SOp.load false 1 (Operand.tmp 18)),
        SOper.mk (some 20) none (SOp.len false (Operand.tmp 19)), SOper.mk (some 3) none (SOp.mv (Operand.tmp 15)),
        SOper.mk (some 4) none (SOp.mv (Operand.tmp 20))]
      [1, 2, 3, 4])
    (Stmt.seq
      (Stmt.region
        [SOper.mk (some 21) none (SOp.fld 1 (Operand.tmp 1)),
          SOper.mk (some 22) none (SOp.load false 1 (Operand.tmp 21)),
          SOper.mk (some 23) none (SOp.call (Operand.func 111) [Operand.tmp 22]),
          SOper.mk (some 24) none
            (SOp.buildS 3 1 [Value.int IntKind.i64 0] [(0, 1, Operand.const (Value.int IntKind.i64 (-1)))]),
          SOper.mk (some 25) none (SOp.append 29 3 1 8 (Value.int IntKind.i64 0) (Operand.tmp 23) (Operand.tmp 24)),
          SOper.mk (some 26) none
            (SOp.build 204 [Value.slice none 0 0, Value.slice none 0 0, Value.slice none 0 0] [(0, 1, Operand.tmp 25)]),
          SOper.mk (some 5) none
            (SOp.alloc true 204
              (Value.agg (Array.mk [Value.slice none 0 0, Value.slice none 0 0, Value.slice none 0 0]))),
          SOper.mk none none (SOp.store 3 (Operand.tmp 5) (Operand.tmp 26))]
        [1, 2, 3, 4, 5])
      (Stmt.seq
        (Stmt.seq
          (Stmt.region
            [SOper.mk (some 27) none (SOp.mv (Operand.tmp 3)),
              SOper.mk (some 28) none (SOp.ibin BinOp.add (Operand.tmp 27) (Operand.const (Value.int IntKind.i64 1))),
              SOper.mk (some 29) none (SOp.mv (Operand.const (Value.int IntKind.i64 0)))]
            [1, 2, 3, 4, 5, 28, 29])
          (Stmt.block 0 (Stmt.loop S161_8 [5, 29] [1, 2, 3, 4, 28])))
        (Stmt.seq
          (Stmt.seq
            (Stmt.region
              [SOper.mk (some 64) none (SOp.mv (Operand.tmp 4)),
                SOper.mk (some 65) none (SOp.mv (Operand.const (Value.int IntKind.i64 0)))]
              [2, 3, 5, 64, 65])
            (Stmt.block 4 (Stmt.loop S161_10 [5, 65] [2, 3, 64])))
          (Stmt.seq
            (Stmt.region
              [SOper.mk (some 110) none (SOp.load true 3 (Operand.tmp 5)),
                SOper.mk none none (SOp.store 3 (Operand.tmp 2) (Operand.tmp 110))]
              [2])
            Stmt.ret)))))
def S161 : FnS := ⟨111, [(2, some (true, 3))], S161_0⟩
theorem tr161 : trFn Try.prog 161 [1, 2, 5] [[1, 2], [1, 2, 3, 4], [1, 2, 3, 4, 5], [1, 2, 3, 4, 5, 28, 29], [5, 29], [1, 2, 3, 4, 28], [1, 2, 3, 4, 5, 28, 29, 30], [5], [1, 2, 3, 4, 28, 29], [1, 2, 3, 4, 5, 6, 28, 29], [1, 2, 3, 4, 5, 6, 7, 28, 29], [], [1, 2, 3, 4, 5, 7, 28, 29], [1, 2, 3, 4, 5, 6, 7, 28, 29, 38], [1, 2, 3, 4, 5, 7, 28, 29, 43, 44, 45], [45], [1, 2, 3, 4, 5, 7, 28, 29, 43, 44], [1, 2, 3, 4, 5, 7, 28, 29, 43, 44, 45, 46], [], [1, 2, 3, 4, 5, 7, 28, 29, 43, 44, 45], [1, 2, 3, 4, 5, 7, 8, 9, 28, 29, 43, 44, 45], [1, 2, 3, 4, 5, 7, 8, 9, 28, 29, 43, 44, 45, 51], [1, 2, 3, 4, 5, 7, 28, 29, 43, 44, 45], [1, 2, 3, 4, 5, 7, 28, 29, 43, 44, 45], [1, 2, 3, 4, 5, 28, 29], [1, 2, 3, 4, 5, 28, 29], [2, 3, 5, 64, 65], [5, 65], [2, 3, 64], [2, 3, 5, 64, 65, 66], [2, 3, 5, 10, 64, 65], [2, 3, 5, 10, 64, 65], [0, 1, 2, 3, 4, 5, 6, 7, 8], [], [], [0], [], [2], [2, 3], [2, 3, 4], [0, 1, 2, 3, 4, 5], [0, 1, 2, 3, 4, 5, 6], [0, 1, 2, 3, 4, 5, 6, 7], [2, 3, 5, 10, 64, 65, 78, 79], [79], [2, 3, 5, 10, 64, 65, 78], [2, 3, 5, 10, 64, 65, 78, 79, 80], [2, 3, 5, 10, 11, 64, 65, 78, 79], [2, 3, 5, 10, 11, 12, 64, 65, 78, 79], [2, 3, 5, 10, 64, 65, 78, 79], [0, 1, 2, 3, 4, 5, 6, 7, 8, 9, 10, 11, 12, 13, 14, 15, 16, 17, 18], [1, 4], [], [0], [], [0, 1, 2], [0, 1, 2, 3], [], [], [6], [], [6, 7, 8], [6, 7, 8, 9], [], [6, 7, 8, 9, 10, 11], [6, 7, 8, 9, 10, 11, 12], [], [14], [6, 7, 8, 9, 10, 11, 12, 13, 14, 15], [0, 1, 2, 3, 4, 5, 6, 7, 8, 9, 10, 11, 12, 13, 14, 15, 16], [0, 1, 2, 3, 4, 5, 6, 7, 8, 9, 10, 11, 12, 13, 14, 15, 16, 17], [2, 3, 5, 10, 64, 65, 78, 79], [2, 3, 5, 64, 65], [2]] = some S161 := by kernel_rfl
end Go.Proofs.Ytniobbepliknmaa.V
/- mini.complete walked; no condition. -/
namespace Go.Proofs.Ytniobbepliknmaa.V
open Go
set_option linter.unusedVariables false
set_option linter.unusedSimpArgs false
attribute [local go_sem] e_seq e_region e_quiet e_join e_loop e_cond e_block e_exit e_ret e_skip e_fin e_kseq e_snrm e_sret e_sex e_bnrm e_bret e_bex e_rnrm e_rret e_res e_condC e_nil e_g e_mv g_mv e_pick g_pick pickC_eq e_ibin g_ibin ibinC_eq e_sbin g_sbin e_beq g_beq beqC_eq e_nilq g_nilq nilqC_sl nilqC_pt nilqC_mp e_un g_un unC_not unC_neg e_conv g_conv convC_eq e_fld g_fld fldC_ref fldC_ptr e_nilCheck g_nilCheck nilCheckC_ref nilCheckC_ptr nilCheckC_fun e_field g_field fieldC_eq e_len g_len lenC_sl lenC_str e_extract g_extract extractC_eq e_mkFunc e_build g_build e_idiv g_idiv idivC_eq e_ishift g_ishift ishiftC_eq e_idx g_idx e_idxA g_idxA e_load g_load e_loadB g_loadB atB_ref atB_v g_mkFunc loadC_ref loadC_ptr loadB_eq e_slc g_slc e_box boxC_loc boxC_esc e_alloc allocC_loc allocC_esc e_buildS e_store storeC_ref storeC_ptr storeB_eq e_append e_appz e_mk mkC_eq e_call callC_eq e_fn g_fn fnC_eq fnV_min' fnV_max' fnV_rune' e_q g_q e_a e_n g_call g_box g_alloc g_buildS g_store g_append g_mk g_a g_n g_dead e_dead e_callK e_drawn e_tree e_finJ e_tk e_tfin e_tno e_nbt_q e_nbt_qn e_nbt_a e_nbt_an e_nbt_fin e_drawnB e_bxb_nil e_bxb e_stB_none e_stB_some boxSt_store bs_mv bs_pick bs_ibin bs_idiv bs_ishift bs_sbin bs_beq bs_nilq bs_un bs_conv bs_box bs_alloc bs_build bs_buildS bs_load bs_fld bs_nilCheck bs_idx bs_idxA bs_field bs_slc bs_len bs_append bs_appz bs_mk bs_call bs_extract bs_mkFunc bs_fn bs_q bs_a bs_n bs_loadB bs_dead isBox_box e_early_nil e_early_t e_early_f e_nob_nil e_nob_none e_nob_some isBox_dead isBox_v isBox_ref e_dnil e_dk e_ek e_finB vcOps_vc1 e_dcons e_tq e_ekt e_tearly e_talt e_dearly look_nil look_c proj_nil proj_c looks_nil looks_c zip_nil zip_c val_tmp val_const val_func slv_v slv_box slv_ref slot_tmp slot_const slot_func slotL_v slotL_box slotL_ref put_some put_none updBox_c boxSet_box gd_eq slotVals_nil slotVals_c slotVals_b boxV_box boxOn_box slotsOn_nil slotsOn_c slotsOn_b resV_one resV_two vals_nil vals_c allOn_nil allOn_c partOn_nil partOn_c partVals_nil partVals_c fits_nil fits_c fillL_nil fillL_c mkv_one mkv_agg cellsV_agg cellsV_int cellsV_bool cellsV_slice cellsV_string cellsV_pointer cellsV_func cellsV_nilf cellsV_map one'_nil one'_c oc_int oc_bool oc_slice oc_string oc_pointer oc_func oc_nilf oc_map setC_eq iv_add iv_sub iv_mul iv_eql iv_neq iv_lss iv_leq iv_gtr iv_geq iok_add iok_sub iok_mul iok_eql iok_neq iok_lss iok_leq iok_gtr iok_geq pickV_bool args0_nil args0_c bnd_none bnd_some imp_bt imp_bf imp_ebt imp_ebf imp_eb1 imp_np imp_pp beq_tt beq_tf beq_ft beq_ff cond_or cond_and e_round e_meet Int.le_refl Int.toNat_zero decide_true decide_false Bool.or_false Bool.false_or Bool.true_or Bool.or_true Bool.and_false Bool.false_and Bool.bne_false Bool.bne_true beq_iff_eq Int.cast_ofNat_Int not_false_eq_true not_true_eq_false false_and and_false false_implies true_implies true_and and_true Bool.true_and Bool.and_true Bool.not_true Bool.not_false forall_const implies_true List.take_zero List.drop_zero List.take_succ_cons List.drop_succ_cons List.take_nil List.drop_nil List.length_cons List.length_nil List.nil_append List.append_nil List.cons_append Int.toNat_natCast decide_eq_true_eq decide_eq_false_iff_not cond_true cond_false and_self List.getElem?_cons_zero List.getElem?_cons_succ List.set_cons_zero List.set_cons_succ Option.some.injEq exists_eq_left' Nat.zero_add Nat.add_zero Nat.mul_one imp_self true_or or_true or_false false_or Bool.or_eq_true Bool.or_eq_false_iff Bool.and_eq_true Bool.and_eq_false_iff Bool.not_eq_true' Bool.not_eq_false'

def nextF (d : Da) : List (List Nat) := (List.range (d.nx.length + 1)).map fun (s : Nat) => (List.range (colsD d)).map fun (c : Nat) => gI d s (c : Int)
def colF (d : Da) (c m : Nat) : List (List Nat) := (List.range (d.nx.length + 1)).map fun (t : Nat) => (List.range m).filter fun (s : Nat) => gI d s (c : Int) == t
def prevF (d : Da) : List (List (List Nat)) := (List.range (colsD d)).map fun (c : Nat) => colF d c (d.nx.length + 1)
def rowP (d : Da) (k m : Nat) : List Nat := (List.range (colsD d)).map fun (c : Nat) => if c < m then gI d k (c : Int) else d.nx.length
theorem colF_len (d : Da) (c m : Nat) : (colF d c m).length = d.nx.length + 1 := by simp [colF]
theorem colF_zero (d : Da) (c : Nat) : colF d c 0 = List.replicate (d.nx.length + 1) [] := by
  unfold colF
  apply List.ext_getElem?
  intro i
  by_cases h : i < d.nx.length + 1
  · simp [h]
  · simp [List.getElem?_eq_none, h]
theorem colF_at (d : Da) (c m : Nat) {t : Nat} (ht : t < d.nx.length + 1) : (colF d c m)[t]'(by rw [colF_len]; exact ht) = (List.range m).filter fun (s : Nat) => gI d s (c : Int) == t := by simp [colF]
theorem colF_set {d : Da} {c m : Nat} (hm : gI d m (c : Int) < d.nx.length + 1) : (colF d c m).set (gI d m (c : Int)) (((List.range m).filter fun (s : Nat) => gI d s (c : Int) == gI d m (c : Int)) ++ [m]) = colF d c (m + 1) := by
  apply List.ext_getElem?
  intro i
  by_cases e : i = gI d m (c : Int)
  · subst e
    rw [List.getElem?_set_self (by rw [colF_len]; exact hm)]
    simp only [colF, List.getElem?_map, List.getElem?_range hm, Option.map_some]
    rw [List.range_succ (n := m), List.filter_append]
    simp
  · rw [List.getElem?_set_ne (fun q => e q.symm)]
    unfold colF
    by_cases h : i < d.nx.length + 1
    · simp only [List.getElem?_map, List.getElem?_range h, Option.map_some]
      rw [List.range_succ (n := m), List.filter_append]
      have : ¬ gI d m (c : Int) = i := fun q => e q.symm
      simp [this]
    · simp [List.getElem?_eq_none, h]
theorem rowP_len (d : Da) (k m : Nat) : (rowP d k m).length = colsD d := by simp [rowP]
theorem rowP_zero (d : Da) (k : Nat) : rowP d k 0 = List.replicate (colsD d) d.nx.length := by
  unfold rowP
  apply List.ext_getElem?
  intro i
  by_cases h : i < colsD d
  · simp [h]
  · simp [List.getElem?_eq_none, h]
theorem rowP_full (d : Da) (k : Nat) : rowP d k (colsD d) = (List.range (colsD d)).map fun (c : Nat) => gI d k (c : Int) := by
  unfold rowP
  apply List.map_congr_left
  intro c hc
  rw [if_pos (List.mem_range.1 hc)]
theorem rowP_dead (d : Da) (m : Nat) : rowP d d.nx.length m = (List.range (colsD d)).map fun (c : Nat) => gI d d.nx.length (c : Int) := by
  unfold rowP
  apply List.map_congr_left
  intro c hc
  have : gI d d.nx.length (c : Int) = d.nx.length := by unfold gI; rw [if_neg (by omega)]
  rw [this]
  split <;> rfl
theorem rowP_set {d : Da} {k m : Nat} (hm : m < colsD d) : (rowP d k m).set m (gI d k (m : Int)) = rowP d k (m + 1) := by
  apply List.ext_getElem?
  intro i
  by_cases e : i = m
  · subst e
    rw [List.getElem?_set_self (by rw [rowP_len]; exact hm)]
    simp [rowP, hm]
  · rw [List.getElem?_set_ne (fun q => e q.symm)]
    unfold rowP
    by_cases h : i < colsD d
    · simp only [List.getElem?_map, List.getElem?_range h, Option.map_some]
      by_cases h2 : i < m
      · rw [if_pos h2, if_pos (by omega)]
      · rw [if_neg h2, if_neg (by omega)]
    · simp [List.getElem?_eq_none, h]
theorem rowP_same {d : Da} {k m : Nat} (h : gI d k (m : Int) = d.nx.length) : rowP d k m = rowP d k (m + 1) := by
  unfold rowP
  apply List.map_congr_left
  intro c hc
  by_cases e : c = m
  · subst e; simp [h]
  · by_cases h2 : c < m
    · rw [if_pos h2, if_pos (by omega)]
    · rw [if_neg h2, if_neg (by omega)]
theorem mini_complete {Γr : Ctx} {d : Da} (V : VD d) {A B : Option Addr} {c e : Nat} (hA : SlOk (lk Γr) A c d.ac) (hB : SlOk (lk Γr) B e d.nx) :
    Ret Try.prog 161 [.agg #[.int .i64 d.st, .slice A d.ac.length c, .slice B d.nx.length e]] Γr [] (fun v Γ => ∃ g A1 c1 A2 c2 A3 c3, Γ = [g] ∧ v = .agg #[.slice A1 (d.nx.length + 1) c1, .slice A2 (d.nx.length + 1) c2, .slice A3 (colsD d) c3] ∧
      SlOk (lk [g]) A1 c1 (d.ac ++ [-1]) ∧ SlOk (lk [g]) A2 c2 (nextF d) ∧ SlOk (lk [g]) A3 c3 (prevF d)) := by
  generalize hR : (fun (v : Value) (Γ : Ctx) => ∃ g A1 c1 A2 c2 A3 c3, _) = R
  refine ret_of_vc tr161 (Nat.le_of_ble_eq_true rfl) ?_
  have hl := V.len
  have hac := V.acc
  have hcol := V.cols
  have hpos : 0 < d.nx.length := by omega
  obtain ⟨b1, o1, hB1, A1, c1, hr1, hc1⟩ := hB.list hpos
  rw [cols_at hpos] at hc1
  simp -implicitDefEqProofs only [S161, S161_0, go_sem, Nat.reduceBEq, Nat.reduceAdd, Nat.reduceSub, Nat.reduceMul, Nat.reduceLeDiff, reduceCtorEq, ↓reduceIte, Int.reduceLT, Int.reduceLE, Int.reduceEq, Int.reduceNe]
  intro b5 b6
  refine s_idx hB1 (by omega) (by omega) ?_
  simp -implicitDefEqProofs only [go_sem, Nat.reduceBEq, Nat.reduceAdd, Nat.reduceSub, Nat.reduceMul, Nat.reduceLeDiff, reduceCtorEq, ↓reduceIte, Int.reduceLT, Int.reduceLE, Int.reduceEq, Int.reduceNe]
  refine s_ld0 (by simpa using hc1 _ (lk_r [] _)) (by simp) (by simp) ?_
  simp -implicitDefEqProofs only [go_sem, Nat.reduceBEq, Nat.reduceAdd, Nat.reduceSub, Nat.reduceMul, Nat.reduceLeDiff, reduceCtorEq, ↓reduceIte, Int.reduceLT, Int.reduceLE, Int.reduceEq, Int.reduceNe]
  refine CallVC.read (slices_clone hA (by omega)) ?_
  rintro v Γ' ⟨ga, rfl, hBa⟩
  obtain ⟨Aa, ca, rfl⟩ := hBa.val
  simp -implicitDefEqProofs only [go_sem, Nat.reduceBEq, Nat.reduceAdd, Nat.reduceSub, Nat.reduceMul, Nat.reduceLeDiff, reduceCtorEq, ↓reduceIte, Int.reduceLT, Int.reduceLE, Int.reduceEq, Int.reduceNe]
  intro b7
  refine s_app1S (ix := 1) (-1 : Int) rfl hBa cells_one rfl (by omega) (by unfold maxLen; omega) ?_
  intro va ga1 hBa1 _
  obtain ⟨Aa1, ca1, rfl⟩ := hBa1.val
  have hla : (d.ac ++ [-1]).length = d.nx.length + 1 := by simp [hac]
  rw [hla] at hBa1 ⊢
  simp -implicitDefEqProofs only [go_sem, Nat.reduceBEq, Nat.reduceAdd, Nat.reduceSub, Nat.reduceMul, Nat.reduceLeDiff, reduceCtorEq, ↓reduceIte, Int.reduceLT, Int.reduceLE, Int.reduceEq, Int.reduceNe]
  intro b8
  rw [wrap_id (x := (d.nx.length : Int) + 1) (by omega) (by omega)]
  have hnl : (nextF d).length = d.nx.length + 1 := by simp [nextF]
  refine s_loop (fun f vs Γ => ∃ (k : Nat) (bb : Nat) (ga gn gd : PH) (vn : Value), vs = [.box bb 204 [.slice Aa1 (d.nx.length + 1) ca1, vn, .slice none 0 0], .v true (.int .i64 k)] ∧ k + f = d.nx.length + 1 ∧ Γ = [ga, gn, gd] ∧ Bld ga (lk []) 3 (.slice Aa1 (d.nx.length + 1) ca1) (d.ac ++ [-1]) ∧ Bld gn (lk [gd]) 29 vn ((nextF d).take k)) (d.nx.length + 1)
    (Up.sel [[1], [], []] (by decide) fun _ _ => ⟨0, _, _, _, _, _, rfl, by omega, rfl, hBa1, Bld.nil _ _ _⟩) ?_
  rintro f vs Γ ⟨k, bb, ga, gn, gd, vn, rfl, hkf, rfl, hBa2, hBn⟩
  obtain ⟨An, cn, rfl⟩ := hBn.val
  simp -implicitDefEqProofs only [S161_8, go_sem, Nat.reduceBEq, Nat.reduceAdd, Nat.reduceSub, Nat.reduceMul, Nat.reduceLeDiff, reduceCtorEq, ↓reduceIte, Int.reduceLT, Int.reduceLE, Int.reduceEq, Int.reduceNe]
  refine ⟨fun hlt => ?_, fun hge => ?_⟩
  · have hk : k < d.nx.length + 1 := by omega
    have htl : ((nextF d).take k).length = k := by simp; omega
    refine s_split ?_
    simp -implicitDefEqProofs only [S161_6, S161_7, go_sem, Nat.reduceBEq, Nat.reduceAdd, Nat.reduceSub, Nat.reduceMul, Nat.reduceLeDiff, reduceCtorEq, ↓reduceIte, Int.reduceLT, Int.reduceLE, Int.reduceEq, Int.reduceNe]
    intro b9
    refine CallVC.read (slices_repeat1 (x := (d.nx.length : Int)) (A := some ⟨b9, 0, none⟩) (c := 1) ?_ (colsD d) (by omega)) ?_
    · exact lit_rep1 (T := 3) (cs := [.int .i64 (d.nx.length : Int)]) (d.nx.length : Int) ⟨_, by simp, one_self _ _⟩ rfl
    rintro v Γ' ⟨gr, br, rfl, rfl, hAr⟩
    have hAr0 : Arr gr br 3 (List.replicate (colsD d) d.nx.length) := by
      unfold Arr at hAr ⊢
      rw [hAr]
      simp [Sc.enc]
    clear hAr
    simp -implicitDefEqProofs only [go_sem, Nat.reduceBEq, Nat.reduceAdd, Nat.reduceSub, Nat.reduceMul, Nat.reduceLeDiff, reduceCtorEq, ↓reduceIte, Int.reduceLT, Int.reduceLE, Int.reduceEq, Int.reduceNe]
    generalize one b9 _ = gx
    refine s_join (fun vs Γ' => vs = [] ∧ ∃ gr gx : PH, Γ' = [gr, gx, ga, gn, gd] ∧ Arr gr br 3 ((List.range (colsD d)).map fun (c : Nat) => gI d k (c : Int))) ?_ ?_
    · simp -implicitDefEqProofs only [S161_4, go_sem, Nat.reduceBEq, Nat.reduceAdd, Nat.reduceSub, Nat.reduceMul, Nat.reduceLeDiff, reduceCtorEq, ↓reduceIte, Int.reduceLT, Int.reduceLE, Int.reduceEq, Int.reduceNe]
      refine ⟨fun h1 => ?_, fun h1 => ?_⟩
      · have hkn : k < d.nx.length := by omega
        obtain ⟨b3, o3, hB3, A3, c3, hr3, hc3⟩ := hB.list hkn
        have hrl := V.row _ (List.getElem_mem hkn)
        refine s_idx hB3 (by omega) (by omega) ?_
        simp -implicitDefEqProofs only [go_sem, Nat.reduceBEq, Nat.reduceAdd, Nat.reduceSub, Nat.reduceMul, Nat.reduceLeDiff, reduceCtorEq, ↓reduceIte, Int.reduceLT, Int.reduceLE, Int.reduceEq, Int.reduceNe]
        refine s_ld0 (by simpa using hc3 _ (lk_r [gr, gx, ga, gn, gd] _)) (by simp) (by simp) ?_
        simp -implicitDefEqProofs only [go_sem, Nat.reduceBEq, Nat.reduceAdd, Nat.reduceSub, Nat.reduceMul, Nat.reduceLeDiff, reduceCtorEq, ↓reduceIte, Int.reduceLT, Int.reduceLE, Int.reduceEq, Int.reduceNe]
        refine s_loop (fun f vs Γ => ∃ (m : Nat) (gr : PH), vs = [.v true (.int .i64 m)] ∧ m + f = colsD d ∧ Γ = [gr, gx, ga, gn, gd] ∧ Arr gr br 3 (rowP d k m)) (colsD d)
          (Up.here ⟨0, gr, rfl, by omega, rfl, by rw [rowP_zero]; exact hAr0⟩) ?_
        clear hAr0
        clear gr
        rintro f2 vs Γ ⟨m, gr, rfl, hmf, rfl, hAr⟩
        simp -implicitDefEqProofs only [S161_3, go_sem, Nat.reduceBEq, Nat.reduceAdd, Nat.reduceSub, Nat.reduceMul, Nat.reduceLeDiff, reduceCtorEq, ↓reduceIte, Int.reduceLT, Int.reduceLE, Int.reduceEq, Int.reduceNe]
        refine ⟨fun hlt2 => ?_, fun hge2 => ?_⟩
        · have hm : m < colsD d := by omega
          have hsx := step_at hkn (x := m) (by omega)
          have hto := V.to _ (List.getElem_mem hkn) _ (List.getElem_mem (n := m) (by omega))
          obtain ⟨b4, o4, hA4, hc4⟩ := hr3.int (i := m) (by omega)
          refine s_join (fun vs Γ' => vs = [] ∧ ∃ gr : PH, Γ' = [gr, gx, ga, gn, gd] ∧ Arr gr br 3 (rowP d k (m + 1))) ?_ ?_
          · simp -implicitDefEqProofs only [S161_1, go_sem, Nat.reduceBEq, Nat.reduceAdd, Nat.reduceSub, Nat.reduceMul, Nat.reduceLeDiff, reduceCtorEq, ↓reduceIte, Int.reduceLT, Int.reduceLE, Int.reduceEq, Int.reduceNe]
            refine s_idx hA4 (by omega) (by omega) ?_
            simp -implicitDefEqProofs only [go_sem, Nat.reduceBEq, Nat.reduceAdd, Nat.reduceSub, Nat.reduceMul, Nat.reduceLeDiff, reduceCtorEq, ↓reduceIte, Int.reduceLT, Int.reduceLE, Int.reduceEq, Int.reduceNe]
            refine s_ld0 (by simpa using hc4 _ (lk_r [gr, gx, ga, gn, gd] _)) (by simp) (by simp) ?_
            simp -implicitDefEqProofs only [go_sem, Nat.reduceBEq, Nat.reduceAdd, Nat.reduceSub, Nat.reduceMul, Nat.reduceLeDiff, reduceCtorEq, ↓reduceIte, Int.reduceLT, Int.reduceLE, Int.reduceEq, Int.reduceNe]
            rw [← hsx] at hto ⊢
            refine ⟨fun h2 => ?_, fun h2 => Up.here ⟨gr, rfl, ?_⟩⟩
            · refine s_idx rfl (by omega) (by omega) ?_
              simp -implicitDefEqProofs only [go_sem, Nat.reduceBEq, Nat.reduceAdd, Nat.reduceSub, Nat.reduceMul, Nat.reduceLeDiff, reduceCtorEq, ↓reduceIte, Int.reduceLT, Int.reduceLE, Int.reduceEq, Int.reduceNe]
              have hg : gI d k (m : Int) = (stepD d k m).toNat := by unfold gI; rw [if_pos ⟨hkn, h2⟩]
              have hv : stepD d k m = (gI d k (m : Int) : Int) := by omega
              rw [hv]
              refine s_storeA (α := Nat) (ix := 0) (gI d k (m : Int)) rfl hAr (by rw [rowP_len]; exact hm) ?_
              intro gr' hAr' _
              rw [rowP_set hm] at hAr'
              simp -implicitDefEqProofs only [go_sem, Nat.reduceBEq, Nat.reduceAdd, Nat.reduceSub, Nat.reduceMul, Nat.reduceLeDiff, reduceCtorEq, ↓reduceIte, Int.reduceLT, Int.reduceLE, Int.reduceEq, Int.reduceNe]
              exact Up.here ⟨gr', rfl, hAr'⟩
            · have hg : gI d k (m : Int) = d.nx.length := by unfold gI; rw [if_neg (by omega)]
              rw [← rowP_same hg]
              exact hAr
          · rintro vs Γ' ⟨rfl, gr', rfl, hAr'⟩
            simp -implicitDefEqProofs only [S161_2, go_sem, Nat.reduceBEq, Nat.reduceAdd, Nat.reduceSub, Nat.reduceMul, Nat.reduceLeDiff, reduceCtorEq, ↓reduceIte, Int.reduceLT, Int.reduceLE, Int.reduceEq, Int.reduceNe]
            simp (disch := omega) only [wrap_id]
            exact ⟨f2 - 1, by omega, Up.here ⟨m + 1, gr', rfl, by omega, rfl, hAr'⟩⟩
        · have hm : m = colsD d := by omega
          subst hm
          rw [rowP_full] at hAr
          exact Up.here ⟨gr, gx, rfl, hAr⟩
      · have hkn : k = d.nx.length := by omega
        refine Up.here ⟨gr, gx, rfl, ?_⟩
        rw [hkn, ← rowP_dead d 0, rowP_zero]
        exact hAr0
    · rintro vs Γ' ⟨rfl, gr, gx, rfl, hAr⟩
      simp -implicitDefEqProofs only [S161_5, go_sem, Nat.reduceBEq, Nat.reduceAdd, Nat.reduceSub, Nat.reduceMul, Nat.reduceLeDiff, reduceCtorEq, ↓reduceIte, Int.reduceLT, Int.reduceLE, Int.reduceEq, Int.reduceNe]
      intro b10
      have hSr : SlOk (lk [gr]) (some ⟨br, 0, none⟩) (colsD d) ((List.range (colsD d)).map fun (c : Nat) => gI d k (c : Int)) := hAr.slok (Mem.le.refl _) (by simp) (by unfold maxLen; omega) (by simp; omega)
      refine s_app1 (ix := 4) (L' := lk [gr, gd]) (x := (List.range (colsD d)).map fun (c : Nat) => gI d k (c : Int)) rfl hBn (lk_sub (by simp)) (by simpa using mk_list (hSr.mono (lk_sub (by simp)))) cells_one rfl (by omega) (by unfold maxLen; omega) ?_
      intro vn' gn' hBn' _
      have htk : (nextF d).take (k + 1) = (nextF d).take k ++ [(List.range (colsD d)).map fun (c : Nat) => gI d k (c : Int)] := by
        rw [List.take_succ_eq_append_getElem (by omega)]
        simp [nextF]
      rw [← htk] at hBn'
      obtain ⟨An', cn', rfl⟩ := hBn'.val
      simp -implicitDefEqProofs only [go_sem, Nat.reduceBEq, Nat.reduceAdd, Nat.reduceSub, Nat.reduceMul, Nat.reduceLeDiff, reduceCtorEq, ↓reduceIte, Int.reduceLT, Int.reduceLE, Int.reduceEq, Int.reduceNe]
      simp (disch := omega) only [wrap_id]
      refine Up.sel [[3], [4], [1, 5]] (by decide) fun _ hm => ?_
      exact ⟨f - 1, by omega, Up.here ⟨k + 1, bb, _, _, _, _, rfl, by omega, rfl, hBa2, hBn'.mono (Mem.le.refl _) (hm [1, 5] (by simp))⟩⟩
  · have hk : k = d.nx.length + 1 := by omega
    rw [show (nextF d).take k = nextF d from List.take_of_length_le (by omega)] at hBn ⊢
    have hpl : (prevF d).length = colsD d := by simp [prevF]
    refine s_loop (fun f vs Γ => ∃ (k : Nat) (bb : Nat) (ga gn gd gp ge : PH) (vp : Value) (hs : List Hd), vs = [.box bb 204 [.slice Aa1 (d.nx.length + 1) ca1, .slice An (nextF d).length cn, vp], .v true (.int .i64 k)] ∧ k + f = colsD d ∧ Γ = [ga, gn, gd, gp, ge] ∧
      Bld ga (lk []) 3 (.slice Aa1 (d.nx.length + 1) ca1) (d.ac ++ [-1]) ∧ Bld gn (lk [gd]) 29 (.slice An (nextF d).length cn) (nextF d) ∧ Bld gp (lk []) 65 vp hs ∧ HdsOk (lk [ge]) hs ((prevF d).take k)) (colsD d)
      (Up.sel [[0], [1], [2], [], []] (by decide) fun _ _ => ⟨0, bb, _, _, _, _, _, _, [], rfl, by omega, rfl, hBa2, hBn, Bld.nil _ _ _, ⟨rfl, by simp⟩⟩) ?_
    clear hBa2 hBn
    rintro f vs Γ ⟨k, bb, ga, gn, gd, gp, ge, vp, hs, rfl, hkf, rfl, hBa2, hBn, hBp, hHp⟩
    obtain ⟨Ap, cp, rfl⟩ := hBp.val
    simp -implicitDefEqProofs only [S161_10, go_sem, Nat.reduceBEq, Nat.reduceAdd, Nat.reduceSub, Nat.reduceMul, Nat.reduceLeDiff, reduceCtorEq, ↓reduceIte, Int.reduceLT, Int.reduceLE, Int.reduceEq, Int.reduceNe]
    refine ⟨fun hlt => ?_, fun hge => ?_⟩
    · have hk : k < colsD d := by omega
      have hw1 : IntKind.i64.wrap ((d.nx.length : Int) + 1) = ((d.nx.length + 1 : Nat) : Int) := by rw [wrap_id (by omega) (by omega)]; omega
      simp only [hw1, Int.toNat_natCast]
      refine ⟨by omega, by omega, fun b b11 => ?_⟩
      have hA0 : Arr (one b (.cells (zerosL [Value.slice none 0 0] (d.nx.length + 1)).toArray 29)) b 29 (List.replicate (d.nx.length + 1) (⟨none, 0, 0⟩ : Hd)) := Arr.made (⟨none, 0, 0⟩ : Hd) b 29 _
      revert hA0
      generalize one b _ = gc
      intro hA0
      have hhl : hs.length = k := by rw [hHp.1]; simp; omega
      refine s_app1S (ix := 5) (⟨some ⟨b, 0, none⟩, d.nx.length + 1, d.nx.length + 1⟩ : Hd) rfl hBp cells_one rfl (by omega) (by unfold maxLen; omega) ?_
      intro vp' gp' hBp' _
      obtain ⟨Ap', cp', rfl⟩ := hBp'.val
      simp -implicitDefEqProofs only [go_sem, Nat.reduceBEq, Nat.reduceAdd, Nat.reduceSub, Nat.reduceMul, Nat.reduceLeDiff, reduceCtorEq, ↓reduceIte, Int.reduceLT, Int.reduceLE, Int.reduceEq, Int.reduceNe]
      refine s_loop (fun f vs Γ => ∃ (m : Nat) (gc : PH) (gs : List PH) (cs : List Hd), vs = [.v true (.int .i64 m)] ∧ m + f = d.nx.length + 1 ∧ Γ = (gc :: gs) ++ [ga, gn, gd, gp', ge] ∧ Arr gc b 29 cs ∧ RowsG gs cs (colF d k m)) (d.nx.length + 1)
        (Up.skip (Up.to _ (Ent.cons gc (Ent.emps [ga, gn, gd, gp', ge] (d.nx.length + 1))) ⟨0, gc, _, _, rfl, by omega, rfl, hA0, by rw [colF_zero]; exact RowsG.made _⟩)) ?_
      clear hA0
      clear gc
      rintro f2 vs Γ ⟨m, gc, gs, cs, rfl, hmf, rfl, hAc, hRg⟩
      simp -implicitDefEqProofs only [S161_9, go_sem, Nat.reduceBEq, Nat.reduceAdd, Nat.reduceSub, Nat.reduceMul, Nat.reduceLeDiff, reduceCtorEq, ↓reduceIte, Int.reduceLT, Int.reduceLE, Int.reduceEq, Int.reduceNe]
      refine ⟨fun hlt2 => ?_, fun hge2 => ?_⟩
      · have hm : m < (nextF d).length := by omega
        obtain ⟨An2, cn2, en, hSn⟩ := hBn.slok (L' := lk [gn, gd]) (lk_sub (by simp)) (lk_sub (by simp)) (by omega)
        simp only [Value.slice.injEq] at en
        obtain ⟨rfl, _, rfl⟩ := en
        obtain ⟨b12, o12, hAn, A13, c13, hr13, hc13⟩ := hSn.list hm
        have hrow : (nextF d)[m] = (List.range (colsD d)).map fun (c : Nat) => gI d m (c : Int) := by simp [nextF]
        rw [hrow] at hr13 hc13
        obtain ⟨b14, o14, hA13, hc14⟩ := hr13.nat (i := k) (by simpa using hk)
        simp only [List.length_map, List.length_range, List.getElem_map, List.getElem_range] at hc13 hc14
        have hgt : gI d m (k : Int) ≤ d.nx.length := gI_le V hk
        refine s_idx hAn (by omega) (by omega) ?_
        simp -implicitDefEqProofs only [go_sem, Nat.reduceBEq, Nat.reduceAdd, Nat.reduceSub, Nat.reduceMul, Nat.reduceLeDiff, reduceCtorEq, ↓reduceIte, Int.reduceLT, Int.reduceLE, Int.reduceEq, Int.reduceNe]
        refine s_ld0 (hc13 _ (lk_sub fun g hg => by simp at hg ⊢; rcases hg with rfl | rfl <;> simp)) (by simp) (by simp) ?_
        simp -implicitDefEqProofs only [go_sem, Nat.reduceBEq, Nat.reduceAdd, Nat.reduceSub, Nat.reduceMul, Nat.reduceLeDiff, reduceCtorEq, ↓reduceIte, Int.reduceLT, Int.reduceLE, Int.reduceEq, Int.reduceNe]
        refine s_idx hA13 (by omega) (by omega) ?_
        simp -implicitDefEqProofs only [go_sem, Nat.reduceBEq, Nat.reduceAdd, Nat.reduceSub, Nat.reduceMul, Nat.reduceLeDiff, reduceCtorEq, ↓reduceIte, Int.reduceLT, Int.reduceLE, Int.reduceEq, Int.reduceNe]
        refine s_ld0 (hc14 _ (lk_sub fun g hg => by simp at hg ⊢; rcases hg with rfl | rfl <;> simp)) (by simp) (by simp) ?_
        simp -implicitDefEqProofs only [go_sem, Nat.reduceBEq, Nat.reduceAdd, Nat.reduceSub, Nat.reduceMul, Nat.reduceLeDiff, reduceCtorEq, ↓reduceIte, Int.reduceLT, Int.reduceLE, Int.reduceEq, Int.reduceNe]
        generalize htt : gI d m (k : Int) = t at *
        obtain ⟨Ap2, cp2, ep, hSp⟩ := hBp'.slok (L' := lk [gp']) (Mem.le.refl _) (lk_sub (by simp)) (by simp; omega)
        simp only [Value.slice.injEq] at ep
        obtain ⟨rfl, _, rfl⟩ := ep
        obtain ⟨b15, o15, hAp, hc15⟩ := hSp.hd (i := k) (by simp; omega)
        have hlast : (hs ++ [(⟨some ⟨b, 0, none⟩, d.nx.length + 1, d.nx.length + 1⟩ : Hd)])[k]'(by simp; omega) = ⟨some ⟨b, 0, none⟩, d.nx.length + 1, d.nx.length + 1⟩ := by
          rw [List.getElem_append_right (by omega)]
          simp
        rw [hlast] at hc15
        refine s_drawn (gc :: gs) [ga, gn, gd, gp', ge] (by simpa using Ent.refl _) ?_
        simp -implicitDefEqProofs only [go_sem, Nat.reduceBEq, Nat.reduceAdd, Nat.reduceSub, Nat.reduceMul, Nat.reduceLeDiff, reduceCtorEq, ↓reduceIte, Int.reduceLT, Int.reduceLE, Int.reduceEq, Int.reduceNe]
        have htc : t < (colF d k m).length := by rw [colF_len]; omega
        obtain ⟨gt, y, hgt', hyt, hyn, hBt⟩ := hRg.at' htc
        have hcl : cs.length = d.nx.length + 1 := by rw [hRg.2.1, colF_len]
        have hyc := (List.getElem?_eq_some_iff.1 hyt).2
        have hcat : (colF d k m)[t] = (List.range m).filter fun (s : Nat) => gI d s (k : Int) == t := colF_at d k m (by omega)
        have hlen : ((List.range m).filter fun (s : Nat) => gI d s (k : Int) == t).length ≤ m := by
          have := List.length_filter_le (fun (s : Nat) => gI d s (k : Int) == t) (List.range m)
          simpa using this
        rw [hcat] at hyn hBt
        have hcellc := hAc.cell (i := t) (by omega) (Γ := gc :: gs ++ ([ga, gn, gd, gp', ge] ++ Γr)) (by simp)
        rw [hyc] at hcellc
        refine s_idx hAp (by omega) (by simp; omega) ?_
        simp -implicitDefEqProofs only [go_sem, Nat.reduceBEq, Nat.reduceAdd, Nat.reduceSub, Nat.reduceMul, Nat.reduceLeDiff, reduceCtorEq, ↓reduceIte, Int.reduceLT, Int.reduceLE, Int.reduceEq, Int.reduceNe]
        refine s_ld0 (by simpa using hc15 _ (lk_sub fun g hg => by simp at hg ⊢; rcases hg with rfl; simp)) (by simp) (by simp) ?_
        simp -implicitDefEqProofs only [go_sem, Nat.reduceBEq, Nat.reduceAdd, Nat.reduceSub, Nat.reduceMul, Nat.reduceLeDiff, reduceCtorEq, ↓reduceIte, Int.reduceLT, Int.reduceLE, Int.reduceEq, Int.reduceNe]
        refine s_idx hAp (by omega) (by simp; omega) ?_
        simp -implicitDefEqProofs only [go_sem, Nat.reduceBEq, Nat.reduceAdd, Nat.reduceSub, Nat.reduceMul, Nat.reduceLeDiff, reduceCtorEq, ↓reduceIte, Int.reduceLT, Int.reduceLE, Int.reduceEq, Int.reduceNe]
        refine s_ld0 (by simpa using hc15 _ (lk_sub fun g hg => by simp at hg ⊢; rcases hg with rfl; simp)) (by simp) (by simp) ?_
        simp -implicitDefEqProofs only [go_sem, Nat.reduceBEq, Nat.reduceAdd, Nat.reduceSub, Nat.reduceMul, Nat.reduceLeDiff, reduceCtorEq, ↓reduceIte, Int.reduceLT, Int.reduceLE, Int.reduceEq, Int.reduceNe]
        refine s_idx rfl (by omega) (by omega) ?_
        simp -implicitDefEqProofs only [go_sem, Nat.reduceBEq, Nat.reduceAdd, Nat.reduceSub, Nat.reduceMul, Nat.reduceLeDiff, reduceCtorEq, ↓reduceIte, Int.reduceLT, Int.reduceLE, Int.reduceEq, Int.reduceNe]
        refine s_ld0 (by simpa [Sc.enc] using hcellc) (by simp) (by simp) ?_
        simp -implicitDefEqProofs only [go_sem, Nat.reduceBEq, Nat.reduceAdd, Nat.reduceSub, Nat.reduceMul, Nat.reduceLeDiff, reduceCtorEq, ↓reduceIte, Int.reduceLT, Int.reduceLE, Int.reduceEq, Int.reduceNe]
        intro b16
        refine s_app1S (α := Nat) (ix := t + 2) m (by simpa using hgt') (by simpa using hBt) cells_one rfl (by omega) (by unfold maxLen; omega) ?_
        intro vt' gt2 hBt' _
        obtain ⟨At', ct', rfl⟩ := hBt'.val
        simp -implicitDefEqProofs only [go_sem, Nat.reduceBEq, Nat.reduceAdd, Nat.reduceSub, Nat.reduceMul, Nat.reduceLeDiff, reduceCtorEq, ↓reduceIte, Int.reduceLT, Int.reduceLE, Int.reduceEq, Int.reduceNe]
        refine s_idx rfl (by omega) (by omega) ?_
        simp -implicitDefEqProofs only [go_sem, Nat.reduceBEq, Nat.reduceAdd, Nat.reduceSub, Nat.reduceMul, Nat.reduceLeDiff, reduceCtorEq, ↓reduceIte, Int.reduceLT, Int.reduceLE, Int.reduceEq, Int.reduceNe]
        refine s_storeA (α := Hd) (ix := 1) (T := 29) (⟨At', _, ct'⟩ : Hd) rfl hAc (by omega) ?_
        intro gc' hAc' _
        simp -implicitDefEqProofs only [go_sem, Nat.reduceBEq, Nat.reduceAdd, Nat.reduceSub, Nat.reduceMul, Nat.reduceLeDiff, reduceCtorEq, ↓reduceIte, Int.reduceLT, Int.reduceLE, Int.reduceEq, Int.reduceNe]
        simp (disch := omega) only [wrap_id]
        refine ⟨f2 - 1, by omega, Up.skip (Up.here ⟨m + 1, gc', gs.set t gt2, cs.set t ⟨At', _, ct'⟩, rfl, by omega, rfl, hAc', ?_⟩)⟩
        have := hRg.put (i := t) (y := ⟨At', _, ct'⟩) (ys := ((List.range m).filter fun (s : Nat) => gI d s (k : Int) == t) ++ [m]) rfl hBt'
        rw [← htt] at this ⊢
        rwa [colF_set (by omega)] at this
      · have hm : m = d.nx.length + 1 := by omega
        subst hm
        simp (disch := omega) only [wrap_id]
        refine ⟨f - 1, by omega, ?_⟩
        have hcl : cs.length = d.nx.length + 1 := by rw [hRg.2.1, colF_len]
        refine Up.gather (X := gc :: gs) (Y := [ga, gn, gd, gp', ge]) fun G hG => ?_
        refine Up.sel [[1], [2], [3], [4], [0, 5]] (by decide) fun _ hm => ?_
        have hle := hm [0, 5] (by simp)
        have hG1 : Mem.le (lk [G]) (lk [unis (sel [G, ga, gn, gd, gp', ge] [0, 5])]) := Mem.le.trans (lk_sub (by simp [sel])) hle
        have hge2 : Mem.le (lk [ge]) (lk [unis (sel [G, ga, gn, gd, gp', ge] [0, 5])]) := Mem.le.trans (lk_sub (by simp [sel])) hle
        have hsl : SlOk (lk [unis (sel [G, ga, gn, gd, gp', ge] [0, 5])]) (some ⟨b, 0, none⟩) (d.nx.length + 1) cs := hAc.slok (Mem.le.trans (Mem.le.trans (lk_sub (by simp)) hG) hG1) (by omega) (by unfold maxLen; omega) (by omega)
        have hcols : HdsOk (lk [unis (sel [G, ga, gn, gd, gp', ge] [0, 5])]) cs (colF d k (d.nx.length + 1)) := hRg.hds (fun g hg => Mem.le.trans (Mem.le.trans (lk_sub (by intro x hx; simp at hx; subst hx; simp [hg])) hG) hG1) (fun xs hxs => by
          obtain ⟨t, _, rfl⟩ := List.mem_map.1 hxs
          have := List.length_filter_le (fun (s : Nat) => gI d s (k : Int) == t) (List.range (d.nx.length + 1))
          simp only [List.length_range] at this
          omega)
        have hcol := HdsOk.slok hsl hcols (Mem.le.refl _) (Mem.le.refl _)
        have hpt : (prevF d).take (k + 1) = (prevF d).take k ++ [colF d k (d.nx.length + 1)] := by
          rw [List.take_succ_eq_append_getElem (by omega)]
          simp [prevF]
        refine ⟨k + 1, bb, ga, gn, gd, gp', _, _, _, rfl, by omega, rfl, hBa2, hBn, hBp', ?_⟩
        rw [hpt]
        exact hHp.snoc hge2 (by simp [colF_len]) hcol
    · have hk : k = colsD d := by omega
      subst hk
      rw [show (prevF d).take (colsD d) = prevF d from List.take_of_length_le (by omega)] at hHp
      refine Up.one fun G hG => ?_
      subst hR
      have hhl : hs.length = colsD d := by rw [hHp.1, hpl]
      obtain ⟨A1, c1, e1, hS1⟩ := hBa2.slok (L' := lk [G]) (Mem.le.trans (lk_sub (by simp)) hG) (fun b o ⟨x, hx, _⟩ => by cases hx) (by simp; omega)
      obtain ⟨A2, c2, e2, hS2⟩ := hBn.slok (L' := lk [G]) (Mem.le.trans (lk_sub (by simp)) hG) (Mem.le.trans (lk_sub (by simp)) hG) (by omega)
      obtain ⟨A3, c3, e3, hS3⟩ := hBp.slok (L' := lk [G]) (Mem.le.trans (lk_sub (by simp)) hG) (fun b o ⟨x, hx, _⟩ => by cases hx) (by omega)
      have hS4 := HdsOk.slok (L := lk [G]) hS3 (hHp.mono (Mem.le.trans (lk_sub (by simp)) hG)) (Mem.le.refl _) (Mem.le.refl _)
      simp only [Value.slice.injEq] at e1 e2 e3
      obtain ⟨rfl, _, rfl⟩ := e1
      obtain ⟨rfl, _, rfl⟩ := e2
      obtain ⟨rfl, _, rfl⟩ := e3
      exact ⟨G, _, _, _, _, _, _, rfl, by rw [hnl, hhl], hS1, hS2, hS4⟩
end Go.Proofs.Ytniobbepliknmaa.V
/- The text of parlance/mini.hopcroft as a statement (slots: 0 f, 1 f, 3 p, 4 todo, 5 b, 6 c, 7 t, 8 l, 9 _, 10 s, 11 _, 12 x, 13 c, 14 small); no condition. -/
namespace Go.Proofs.Ytniobbepliknmaa.V
open Go
def S162_1 : Stmt :=
  Stmt.seq
  (Stmt.region [SOper.mk (some 30) none (SOp.ibin BinOp.lss (Operand.tmp 29) (Operand.tmp 28))]
    [1, 3, 4, 5, 22, 23, 28, 29, 30])
  (Stmt.seq (Stmt.cond (Operand.tmp 30) Stmt.skip (Stmt.exit 2))
    (Stmt.seq
      (Stmt.block 3
        (Stmt.seq
          (Stmt.region
            [SOper.mk (some 31) none (SOp.mv (Operand.tmp 29)), SOper.mk (some 6) none (SOp.mv (Operand.tmp 31))]
            [1, 3, 4, 5, 6, 22, 23, 28, 29])
          (Stmt.region
            [SOper.mk (some 32) none (SOp.mv (Operand.tmp 4)), SOper.mk (some 33) none (SOp.mv (Operand.tmp 5)),
              SOper.mk (some 34) none (SOp.mv (Operand.tmp 6)),
              SOper.mk (some 35) none
                (SOp.build 259 [Value.int IntKind.i64 0, Value.int IntKind.i64 0]
                  [(0, 1, Operand.tmp 33), (1, 1, Operand.tmp 34)]),
              SOper.mk (some 36) none
                (SOp.buildS 259 1 [Value.int IntKind.i64 0, Value.int IntKind.i64 0] [(0, 2, Operand.tmp 35)]),
              SOper.mk (some 37) none
                (SOp.append 255 259 2 16 (Value.agg (Array.mk [Value.int IntKind.i64 0, Value.int IntKind.i64 0]))
                  (Operand.tmp 32) (Operand.tmp 36)),
              SOper.mk (some 4) none (SOp.mv (Operand.tmp 37))]
            [1, 3, 4, 5, 22, 23, 28, 29])))
      (Stmt.region
        [SOper.mk (some 38) none (SOp.ibin BinOp.add (Operand.tmp 29) (Operand.const (Value.int IntKind.i64 1))),
          SOper.mk (some 29) none (SOp.mv (Operand.tmp 38))]
        [1, 3, 4, 5, 22, 23, 28, 29])))
def S162_2 : Stmt :=
  Stmt.seq
  (Stmt.region [SOper.mk (some 24) none (SOp.ibin BinOp.lss (Operand.tmp 23) (Operand.tmp 22))] [1, 3, 4, 22, 23, 24])
  (Stmt.seq (Stmt.cond (Operand.tmp 24) Stmt.skip (Stmt.exit 0))
    (Stmt.seq
      (Stmt.block 1
        (Stmt.seq
          (Stmt.region
            [SOper.mk (some 25) none (SOp.mv (Operand.tmp 23)), SOper.mk (some 5) none (SOp.mv (Operand.tmp 25))]
            [1, 3, 4, 5, 22, 23])
          (Stmt.seq
            (Stmt.region
              [SOper.mk (some 26) none (SOp.fld 2 (Operand.tmp 1)),
                SOper.mk (some 27) none (SOp.load false 1 (Operand.tmp 26)),
                SOper.mk (some 28) none (SOp.len false (Operand.tmp 27)),
                SOper.mk (some 29) none (SOp.mv (Operand.const (Value.int IntKind.i64 0)))]
              [1, 3, 4, 5, 22, 23, 28, 29])
            (Stmt.block 2 (Stmt.loop S162_1 [4, 29] [1, 3, 5, 22, 23, 28])))))
      (Stmt.region
        [SOper.mk (some 39) none (SOp.ibin BinOp.add (Operand.tmp 23) (Operand.const (Value.int IntKind.i64 1))),
          SOper.mk (some 23) none (SOp.mv (Operand.tmp 39))]
        [1, 3, 4, 22, 23])))
def S162_3 : Stmt :=
  Stmt.seq
  (Stmt.region [SOper.mk (some 64) none (SOp.ibin BinOp.lss (Operand.tmp 63) (Operand.tmp 62))]
    [1, 3, 4, 7, 8, 61, 62, 63, 64])
  (Stmt.seq (Stmt.cond (Operand.tmp 64) Stmt.skip (Stmt.exit 6))
    (Stmt.seq
      (Stmt.block 7
        (Stmt.seq
          (Stmt.region
            [SOper.mk (some 65) none (SOp.idx 1 (Operand.tmp 61) (Operand.tmp 63)),
              SOper.mk (some 66) none (SOp.load false 1 (Operand.tmp 65)),
              SOper.mk (some 10) none (SOp.mv (Operand.tmp 66))]
            [1, 3, 4, 7, 8, 10, 61, 62, 63])
          (Stmt.region
            [SOper.mk (some 67) none (SOp.mv (Operand.tmp 8)), SOper.mk (some 68) none (SOp.fld 2 (Operand.tmp 1)),
              SOper.mk (some 69) none (SOp.load false 1 (Operand.tmp 68)),
              SOper.mk (some 70) none (SOp.fld 1 (Operand.tmp 7)),
              SOper.mk (some 71) none (SOp.load false 1 (Operand.tmp 70)),
              SOper.mk (some 72) none (SOp.idx 1 (Operand.tmp 69) (Operand.tmp 71)),
              SOper.mk (some 73) none (SOp.load false 1 (Operand.tmp 72)),
              SOper.mk (some 74) none (SOp.mv (Operand.tmp 10)),
              SOper.mk (some 75) none (SOp.idx 1 (Operand.tmp 73) (Operand.tmp 74)),
              SOper.mk (some 76) none (SOp.load false 1 (Operand.tmp 75)),
              SOper.mk (some 77) none (SOp.append 29 3 1 8 (Value.int IntKind.i64 0) (Operand.tmp 67) (Operand.tmp 76)),
              SOper.mk (some 8) none (SOp.mv (Operand.tmp 77))]
            [1, 3, 4, 7, 8, 61, 62, 63])))
      (Stmt.region
        [SOper.mk (some 78) none (SOp.ibin BinOp.add (Operand.tmp 63) (Operand.const (Value.int IntKind.i64 1))),
          SOper.mk (some 63) none (SOp.mv (Operand.tmp 78))]
        [1, 3, 4, 7, 8, 61, 62, 63])))
def S162_4 : Stmt :=
  Stmt.seq
  (Stmt.drawn
    [(false, SOper.mk (some 95) none (SOp.mv (Operand.tmp 3))),
      (false, SOper.mk (some 96) none (SOp.nilCheck (Operand.tmp 95))),
      (false, SOper.mk (some 97) none (SOp.fld 1 (Operand.tmp 96))),
      (false, SOper.mk (some 98) none (SOp.load false 1 (Operand.tmp 97))),
      (false, SOper.mk (some 99) none (SOp.idxA 2 1 (Operand.tmp 12) (Operand.const (Value.int IntKind.i64 0)))),
      (false, SOper.mk (some 100) none (SOp.load false 1 (Operand.tmp 99))),
      (false, SOper.mk (some 101) none (SOp.idx 1 (Operand.tmp 98) (Operand.tmp 100))),
      (false, SOper.mk (some 102) none (SOp.load false 1 (Operand.tmp 101))),
      (false, SOper.mk (some 103) none (SOp.len false (Operand.tmp 102))),
      (false, SOper.mk (some 104) none (SOp.mv (Operand.tmp 3))),
      (false, SOper.mk (some 105) none (SOp.nilCheck (Operand.tmp 104))),
      (false, SOper.mk (some 106) none (SOp.fld 1 (Operand.tmp 105))),
      (false, SOper.mk (some 107) none (SOp.load false 1 (Operand.tmp 106))),
      (false, SOper.mk (some 108) none (SOp.idxA 2 1 (Operand.tmp 12) (Operand.const (Value.int IntKind.i64 1)))),
      (false, SOper.mk (some 109) none (SOp.load false 1 (Operand.tmp 108))),
      (false, SOper.mk (some 110) none (SOp.idx 1 (Operand.tmp 107) (Operand.tmp 109))),
      (false, SOper.mk (some 111) none (SOp.load false 1 (Operand.tmp 110))),
      (false, SOper.mk (some 112) none (SOp.len false (Operand.tmp 111))),
      (false, SOper.mk (some 113) none (SOp.ibin BinOp.lss (Operand.tmp 103) (Operand.tmp 112))),
      (false, SOper.mk (some 114) none (SOp.mv (Operand.tmp 113))),
      (false, SOper.mk (some 115) (some (114, true)) (SOp.mv (Operand.tmp 4))),
      (false,
        SOper.mk (some 116) (some (114, true))
          (SOp.idxA 2 1 (Operand.tmp 12) (Operand.const (Value.int IntKind.i64 0)))),
      (false, SOper.mk (some 117) (some (114, true)) (SOp.load false 1 (Operand.tmp 116))),
      (false, SOper.mk (some 118) (some (114, true)) (SOp.mv (Operand.tmp 13))),
      (false,
        SOper.mk (some 119) (some (114, true))
          (SOp.build 259 [Value.int IntKind.i64 0, Value.int IntKind.i64 0]
            [(0, 1, Operand.tmp 117), (1, 1, Operand.tmp 118)])),
      (false, SOper.mk (some 120) (some (114, true)) (SOp.call (Operand.func 195) [Operand.tmp 115, Operand.tmp 119])),
      (false, SOper.mk (some 121) (some (114, true)) (SOp.un UnOp.not (Operand.tmp 120))),
      (false,
        SOper.mk (some 122) none (SOp.pick (Operand.tmp 114) (Operand.tmp 121) (Operand.const (Value.bool false))))]
    [1, 3, 4, 12, 13, 14, 81, 82, 83, 89, 90, 122])
  (Stmt.cond (Operand.tmp 122)
    (Stmt.region
      [SOper.mk (some 123) none (SOp.idxA 2 1 (Operand.tmp 12) (Operand.const (Value.int IntKind.i64 0))),
        SOper.mk (some 124) none (SOp.load false 1 (Operand.tmp 123)),
        SOper.mk (some 14) none (SOp.mv (Operand.tmp 124))]
      [1, 3, 4, 12, 13, 14, 81, 82, 83, 89, 90])
    Stmt.skip)
def S162_5 : Stmt :=
  Stmt.region
  [SOper.mk (some 125) none (SOp.mv (Operand.tmp 4)), SOper.mk (some 126) none (SOp.mv (Operand.tmp 14)),
    SOper.mk (some 127) none (SOp.mv (Operand.tmp 13)),
    SOper.mk (some 128) none
      (SOp.build 259 [Value.int IntKind.i64 0, Value.int IntKind.i64 0]
        [(0, 1, Operand.tmp 126), (1, 1, Operand.tmp 127)]),
    SOper.mk (some 129) none
      (SOp.buildS 259 1 [Value.int IntKind.i64 0, Value.int IntKind.i64 0] [(0, 2, Operand.tmp 128)]),
    SOper.mk (some 130) none
      (SOp.append 255 259 2 16 (Value.agg (Array.mk [Value.int IntKind.i64 0, Value.int IntKind.i64 0]))
        (Operand.tmp 125) (Operand.tmp 129)),
    SOper.mk (some 4) none (SOp.mv (Operand.tmp 130))]
  [1, 3, 4, 12, 81, 82, 83, 89, 90]
def S162_6 : Stmt :=
  Stmt.block 11
  (Stmt.seq
    (Stmt.region [SOper.mk (some 92) none (SOp.mv (Operand.tmp 90)), SOper.mk (some 13) none (SOp.mv (Operand.tmp 92))]
      [1, 3, 4, 12, 13, 81, 82, 83, 89, 90])
    (Stmt.seq
      (Stmt.region
        [SOper.mk (some 93) none (SOp.idxA 2 1 (Operand.tmp 12) (Operand.const (Value.int IntKind.i64 1))),
          SOper.mk (some 94) none (SOp.load false 1 (Operand.tmp 93)),
          SOper.mk (some 14) none (SOp.mv (Operand.tmp 94))]
        [1, 3, 4, 12, 13, 14, 81, 82, 83, 89, 90])
      (Stmt.join S162_4 S162_5 [14] [1, 3, 4, 12, 13, 81, 82, 83, 89, 90])))
def S162_7 : Stmt :=
  Stmt.region
  [SOper.mk (some 131) none (SOp.ibin BinOp.add (Operand.tmp 90) (Operand.const (Value.int IntKind.i64 1))),
    SOper.mk (some 90) none (SOp.mv (Operand.tmp 131))]
  [1, 3, 4, 12, 81, 82, 83, 89, 90]
def S162_8 : Stmt :=
  Stmt.seq
  (Stmt.region [SOper.mk (some 91) none (SOp.ibin BinOp.lss (Operand.tmp 90) (Operand.tmp 89))]
    [1, 3, 4, 12, 81, 82, 83, 89, 90, 91])
  (Stmt.seq (Stmt.cond (Operand.tmp 91) Stmt.skip (Stmt.exit 10))
    (Stmt.join S162_6 S162_7 [4] [1, 3, 12, 81, 82, 83, 89, 90]))
def S162_9 : Stmt :=
  Stmt.seq
  (Stmt.region [SOper.mk (some 84) none (SOp.ibin BinOp.lss (Operand.tmp 83) (Operand.tmp 82))]
    [1, 3, 4, 81, 82, 83, 84])
  (Stmt.seq (Stmt.cond (Operand.tmp 84) Stmt.skip (Stmt.exit 8))
    (Stmt.seq
      (Stmt.block 9
        (Stmt.seq
          (Stmt.region
            [SOper.mk (some 85) none (SOp.idx 2 (Operand.tmp 81) (Operand.tmp 83)),
              SOper.mk (some 86) none (SOp.load true 2 (Operand.tmp 85)),
              SOper.mk (some 12) none
                (SOp.alloc true 228 (Value.agg (Array.mk [Value.int IntKind.i64 0, Value.int IntKind.i64 0]))),
              SOper.mk none none (SOp.store 2 (Operand.tmp 12) (Operand.tmp 86))]
            [1, 3, 4, 12, 81, 82, 83])
          (Stmt.seq
            (Stmt.region
              [SOper.mk (some 87) none (SOp.fld 2 (Operand.tmp 1)),
                SOper.mk (some 88) none (SOp.load false 1 (Operand.tmp 87)),
                SOper.mk (some 89) none (SOp.len false (Operand.tmp 88)),
                SOper.mk (some 90) none (SOp.mv (Operand.const (Value.int IntKind.i64 0)))]
              [1, 3, 4, 12, 81, 82, 83, 89, 90])
            (Stmt.block 10 (Stmt.loop S162_8 [4, 90] [1, 3, 12, 81, 82, 83, 89])))))
      (Stmt.region
        [SOper.mk (some 132) none (SOp.ibin BinOp.add (Operand.tmp 83) (Operand.const (Value.int IntKind.i64 1))),
          SOper.mk (some 83) none (SOp.mv (Operand.tmp 132))]
        [1, 3, 4, 81, 82, 83])))
def S162_10 : Stmt :=
  Stmt.seq
  (Stmt.seq
    (Stmt.region
      [SOper.mk (some 40) none (SOp.mv (Operand.tmp 4)), SOper.mk (some 41) none (SOp.len false (Operand.tmp 40)),
        SOper.mk (some 42) none (SOp.ibin BinOp.gtr (Operand.tmp 41) (Operand.const (Value.int IntKind.i64 0)))]
      [1, 3, 4, 42])
    (Stmt.cond (Operand.tmp 42) Stmt.skip (Stmt.exit 4)))
  (Stmt.block 5
    (Stmt.seq
      (Stmt.region
        [SOper.mk (some 43) none (SOp.mv (Operand.tmp 4)), SOper.mk (some 44) none (SOp.mv (Operand.tmp 4)),
          SOper.mk (some 45) none (SOp.len false (Operand.tmp 44)),
          SOper.mk (some 46) none (SOp.ibin BinOp.sub (Operand.tmp 45) (Operand.const (Value.int IntKind.i64 1))),
          SOper.mk (some 47) none (SOp.idx 2 (Operand.tmp 43) (Operand.tmp 46)),
          SOper.mk (some 48) none (SOp.load true 2 (Operand.tmp 47)),
          SOper.mk (some 7) none
            (SOp.alloc true 259 (Value.agg (Array.mk [Value.int IntKind.i64 0, Value.int IntKind.i64 0]))),
          SOper.mk none none (SOp.store 2 (Operand.tmp 7) (Operand.tmp 48))]
        [1, 3, 4, 7])
      (Stmt.seq
        (Stmt.region
          [SOper.mk (some 49) none (SOp.mv (Operand.tmp 4)), SOper.mk (some 50) none (SOp.mv (Operand.tmp 4)),
            SOper.mk (some 51) none (SOp.len false (Operand.tmp 50)),
            SOper.mk (some 52) none (SOp.ibin BinOp.sub (Operand.tmp 51) (Operand.const (Value.int IntKind.i64 1))),
            SOper.mk (some 53) none (SOp.slc 2 (Operand.tmp 49) none (some (Operand.tmp 52)) none),
            SOper.mk (some 4) none (SOp.mv (Operand.tmp 53))]
          [1, 3, 4, 7])
        (Stmt.seq (Stmt.region [SOper.mk (some 8) none (SOp.mv (Operand.const (Value.slice none 0 0)))] [1, 3, 4, 7, 8])
          (Stmt.seq
            (Stmt.seq
              (Stmt.quiet
                [SOper.mk (some 54) none (SOp.mv (Operand.tmp 3)),
                  SOper.mk (some 55) none (SOp.nilCheck (Operand.tmp 54)),
                  SOper.mk (some 56) none (SOp.fld 1 (Operand.tmp 55)),
                  SOper.mk (some 57) none (SOp.load false 1 (Operand.tmp 56)),
                  SOper.mk (some 58) none (SOp.fld 0 (Operand.tmp 7)),
                  SOper.mk (some 59) none (SOp.load false 1 (Operand.tmp 58)),
                  SOper.mk (some 60) none (SOp.idx 1 (Operand.tmp 57) (Operand.tmp 59)),
                  SOper.mk (some 61) none (SOp.load false 1 (Operand.tmp 60)),
                  SOper.mk (some 62) none (SOp.len false (Operand.tmp 61)),
                  SOper.mk (some 63) none (SOp.mv (Operand.const (Value.int IntKind.i64 0)))]
                [1, 3, 4, 7, 8, 61, 62, 63])
              (Stmt.block 6 (Stmt.loop S162_3 [8, 63] [1, 3, 4, 7, 61, 62])))
            (Stmt.seq
              (Stmt.region
                [SOper.mk (some 79) none (SOp.mv (Operand.tmp 3)), SOper.mk (some 80) none (SOp.mv (Operand.tmp 8)),
                  SOper.mk (some 81) none (SOp.call (Operand.func 194) [Operand.tmp 79, Operand.tmp 80]),
                  SOper.mk (some 82) none (SOp.len false (Operand.tmp 81)),
                  SOper.mk (some 83) none (SOp.mv (Operand.const (Value.int IntKind.i64 0)))]
                [1, 3, 4, 81, 82, 83])
              (Stmt.block 8 (Stmt.loop S162_9 [4, 83] [1, 3, 81, 82]))))))))
def S162_0 : Stmt :=
  Stmt.seq
  (Stmt.region
    [SOper.mk (some 1) none (SOp.box true 204 (Operand.tmp 0)),
      SOper.mk (some 2) none (SOp.mv (Operand.const (Value.slice none 0 0)))]
    [1])
  (Stmt.seq
    (Stmt.region
      [SOper.mk (some 15) none (SOp.fld 0 (Operand.tmp 1)), SOper.mk (some 16) none (SOp.load false 1 (Operand.tmp 15)),
        SOper.mk (some 17) none (SOp.call (Operand.func 193) [Operand.tmp 16]),
        SOper.mk (some 3) none (SOp.mv (Operand.tmp 17))]
      [1, 3])
    (Stmt.seq (Stmt.region [SOper.mk (some 4) none (SOp.mv (Operand.const (Value.slice none 0 0)))] [1, 3, 4])
      (Stmt.seq
        (Stmt.seq
          (Stmt.region
            [SOper.mk (some 18) none (SOp.mv (Operand.tmp 3)), SOper.mk (some 19) none (SOp.nilCheck (Operand.tmp 18)),
              SOper.mk (some 20) none (SOp.fld 1 (Operand.tmp 19)),
              SOper.mk (some 21) none (SOp.load false 1 (Operand.tmp 20)),
              SOper.mk (some 22) none (SOp.len false (Operand.tmp 21)),
              SOper.mk (some 23) none (SOp.mv (Operand.const (Value.int IntKind.i64 0)))]
            [1, 3, 4, 22, 23])
          (Stmt.block 0 (Stmt.loop S162_2 [4, 23] [1, 3, 22])))
        (Stmt.seq (Stmt.block 4 (Stmt.loop S162_10 [4] [1, 3]))
          (Stmt.seq
            (Stmt.region
              [SOper.mk (some 133) none (SOp.mv (Operand.tmp 3)),
                SOper.mk (some 134) none (SOp.nilCheck (Operand.tmp 133)),
                SOper.mk (some 135) none (SOp.fld 0 (Operand.tmp 134)),
                SOper.mk (some 136) none (SOp.load false 1 (Operand.tmp 135)),
                SOper.mk (some 2) none (SOp.mv (Operand.tmp 136))]
              [2])
            Stmt.ret)))))
def S162 : FnS := ⟨137, [(2, none)], S162_0⟩
theorem tr162 : trFn Try.prog 162 [1, 7, 12] [[1], [1, 3], [1, 3, 4], [1, 3, 4, 22, 23], [4, 23], [1, 3, 22], [1, 3, 4, 22, 23, 24], [1, 3, 4, 5, 22, 23], [1, 3, 4, 5, 22, 23, 28, 29], [4, 29], [1, 3, 5, 22, 23, 28], [1, 3, 4, 5, 22, 23, 28, 29, 30], [1, 3, 4, 5, 6, 22, 23, 28, 29], [1, 3, 4, 5, 22, 23, 28, 29], [1, 3, 4, 5, 22, 23, 28, 29], [1, 3, 4, 22, 23], [4], [1, 3], [1, 3, 4, 42], [1, 3, 4, 7], [1, 3, 4, 7], [1, 3, 4, 7, 8], [1, 3, 4, 7, 8, 61, 62, 63], [8, 63], [1, 3, 4, 7, 61, 62], [1, 3, 4, 7, 8, 61, 62, 63, 64], [1, 3, 4, 7, 8, 10, 61, 62, 63], [1, 3, 4, 7, 8, 61, 62, 63], [1, 3, 4, 7, 8, 61, 62, 63], [1, 3, 4, 81, 82, 83], [4, 83], [1, 3, 81, 82], [1, 3, 4, 81, 82, 83, 84], [1, 3, 4, 12, 81, 82, 83], [1, 3, 4, 12, 81, 82, 83, 89, 90], [4, 90], [1, 3, 12, 81, 82, 83, 89], [1, 3, 4, 12, 81, 82, 83, 89, 90, 91], [4], [1, 3, 12, 81, 82, 83, 89, 90], [1, 3, 4, 12, 13, 81, 82, 83, 89, 90], [1, 3, 4, 12, 13, 14, 81, 82, 83, 89, 90], [14], [1, 3, 4, 12, 13, 81, 82, 83, 89, 90], [1, 3, 4, 12, 13, 14, 81, 82, 83, 89, 90, 122], [0, 1, 2, 3, 4, 5, 6, 7, 8, 9, 10, 11, 12, 13, 14, 15, 16, 17, 18, 19, 20, 21, 22, 23, 24, 25, 26, 27], [], [], [0], [0, 1], [0, 1, 2], [], [4], [0, 1, 2, 3, 4, 5], [0, 1, 2, 3, 4, 5, 6], [0, 1, 2, 3, 4, 5, 6, 7], [], [9], [9, 10], [9, 10, 11], [], [13], [9, 10, 11, 12, 13, 14], [9, 10, 11, 12, 13, 14, 15], [9, 10, 11, 12, 13, 14, 15, 16], [0, 1, 2, 3, 4, 5, 6, 7, 8, 9, 10, 11, 12, 13, 14, 15, 16, 17], [0, 1, 2, 3, 4, 5, 6, 7, 8, 9, 10, 11, 12, 13, 14, 15, 16, 17, 18], [0, 1, 2, 3, 4, 5, 6, 7, 8, 9, 10, 11, 12, 13, 14, 15, 16, 17, 18, 19], [0, 1, 2, 3, 4, 5, 6, 7, 8, 9, 10, 11, 12, 13, 14, 15, 16, 17, 18, 19], [0, 1, 2, 3, 4, 5, 6, 7, 8, 9, 10, 11, 12, 13, 14, 15, 16, 17, 18, 19, 21], [0, 1, 2, 3, 4, 5, 6, 7, 8, 9, 10, 11, 12, 13, 14, 15, 16, 17, 18, 19], [0, 1, 2, 3, 4, 5, 6, 7, 8, 9, 10, 11, 12, 13, 14, 15, 16, 17, 18, 19, 21, 22, 23], [0, 1, 2, 3, 4, 5, 6, 7, 8, 9, 10, 11, 12, 13, 14, 15, 16, 17, 18, 19, 20, 21, 22, 23, 24], [0, 1, 2, 3, 4, 5, 6, 7, 8, 9, 10, 11, 12, 13, 14, 15, 16, 17, 18, 19, 20, 21, 22, 23, 24, 25], [0, 1, 2, 3, 4, 5, 6, 7, 8, 9, 10, 11, 12, 13, 14, 15, 16, 17, 18, 19, 20, 21, 22, 23, 24, 25, 26], [1, 3, 4, 12, 13, 14, 81, 82, 83, 89, 90], [1, 3, 4, 12, 81, 82, 83, 89, 90], [1, 3, 4, 12, 81, 82, 83, 89, 90], [1, 3, 4, 81, 82, 83], [2]] = some S162 := by kernel_rfl
end Go.Proofs.Ytniobbepliknmaa.V
