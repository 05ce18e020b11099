/- Texts put together, in the order in which they build; each says what it proves; no condition. -/
import Derived.Test.YtniobbepliknmaaM7
import Derived.Test.YtniobbepliknmaaM4
import Derived.Test.YtniobbepliknmaaM2
import Derived.Test.YtniobbepliknmaaProg
namespace Go.Proofs.Ytniobbepliknmaa.V
open Go
set_option linter.unusedVariables false
set_option linter.unusedSimpArgs false
/- parlref5.lister: fits walked; no condition. -/
attribute [local go_sem] e_seq e_region e_quiet e_join e_loop e_cond e_block e_exit e_ret e_skip e_fin e_kseq e_snrm e_sret e_sex e_bnrm e_bret e_bex e_rnrm e_rret e_res e_condC e_nil e_g e_mv g_mv e_pick g_pick pickC_eq e_ibin g_ibin ibinC_eq e_sbin g_sbin e_beq g_beq beqC_eq e_nilq g_nilq nilqC_sl nilqC_pt nilqC_mp e_un g_un unC_not unC_neg e_conv g_conv convC_eq e_fld g_fld fldC_ref fldC_ptr e_nilCheck g_nilCheck nilCheckC_ref nilCheckC_ptr nilCheckC_fun e_field g_field fieldC_eq e_len g_len lenC_sl lenC_str e_extract g_extract extractC_eq e_mkFunc e_build g_build e_idiv g_idiv idivC_eq e_ishift g_ishift ishiftC_eq e_idx g_idx e_idxA g_idxA e_load g_load e_loadB g_loadB atB_ref atB_v g_mkFunc loadC_ref loadC_ptr loadB_eq e_slc g_slc e_box boxC_loc boxC_esc e_alloc allocC_loc allocC_esc e_buildS e_store storeC_ref storeC_ptr storeB_eq e_append e_appz e_mk mkC_eq e_call callC_eq e_fn g_fn fnC_eq fnV_min' fnV_max' fnV_rune' e_q g_q e_a e_n g_call g_box g_alloc g_buildS g_store g_append g_mk g_a g_n g_dead e_dead e_callK e_drawn e_tree e_finJ e_tk e_tfin e_tno e_nbt_q e_nbt_qn e_nbt_a e_nbt_an e_nbt_fin e_drawnB e_bxb_nil e_bxb e_stB_none e_stB_some boxSt_store bs_mv bs_pick bs_ibin bs_idiv bs_ishift bs_sbin bs_beq bs_nilq bs_un bs_conv bs_box bs_alloc bs_build bs_buildS bs_load bs_fld bs_nilCheck bs_idx bs_idxA bs_field bs_slc bs_len bs_append bs_appz bs_mk bs_call bs_extract bs_mkFunc bs_fn bs_q bs_a bs_n bs_loadB bs_dead isBox_box e_early_nil e_early_t e_early_f e_nob_nil e_nob_none e_nob_some isBox_dead isBox_v isBox_ref e_dnil e_dk e_ek e_finB vcOps_vc1 e_dcons e_tq e_ekt e_tearly e_talt e_dearly look_nil look_c proj_nil proj_c looks_nil looks_c zip_nil zip_c val_tmp val_const val_func slv_v slv_box slv_ref slot_tmp slot_const slot_func slotL_v slotL_box slotL_ref put_some put_none updBox_c boxSet_box gd_eq slotVals_nil slotVals_c slotVals_b boxV_box boxOn_box slotsOn_nil slotsOn_c slotsOn_b resV_one resV_two vals_nil vals_c allOn_nil allOn_c partOn_nil partOn_c partVals_nil partVals_c fits_nil fits_c fillL_nil fillL_c mkv_one mkv_agg cellsV_agg cellsV_int cellsV_bool cellsV_slice cellsV_string cellsV_pointer cellsV_func cellsV_nilf cellsV_map one'_nil one'_c oc_int oc_bool oc_slice oc_string oc_pointer oc_func oc_nilf oc_map setC_eq iv_add iv_sub iv_mul iv_eql iv_neq iv_lss iv_leq iv_gtr iv_geq iok_add iok_sub iok_mul iok_eql iok_neq iok_lss iok_leq iok_gtr iok_geq pickV_bool args0_nil args0_c bnd_none bnd_some imp_bt imp_bf imp_ebt imp_ebf imp_eb1 imp_np imp_pp beq_tt beq_tf beq_ft beq_ff cond_or cond_and e_round e_meet Int.le_refl Int.toNat_zero decide_true decide_false Bool.or_false Bool.false_or Bool.true_or Bool.or_true Bool.and_false Bool.false_and Bool.bne_false Bool.bne_true beq_iff_eq Int.cast_ofNat_Int not_false_eq_true not_true_eq_false false_and and_false false_implies true_implies true_and and_true Bool.true_and Bool.and_true Bool.not_true Bool.not_false forall_const implies_true List.take_zero List.drop_zero List.take_succ_cons List.drop_succ_cons List.take_nil List.drop_nil List.length_cons List.length_nil List.nil_append List.append_nil List.cons_append Int.toNat_natCast decide_eq_true_eq decide_eq_false_iff_not cond_true cond_false and_self List.getElem?_cons_zero List.getElem?_cons_succ List.set_cons_zero List.set_cons_succ Option.some.injEq exists_eq_left' Nat.zero_add Nat.add_zero Nat.mul_one imp_self true_or or_true or_false false_or Bool.or_eq_true Bool.or_eq_false_iff Bool.and_eq_true Bool.and_eq_false_iff Bool.not_eq_true' Bool.not_eq_false'

def lsC (g : Gr) (R : Option Addr) (cR bc most : Nat) : List Value :=
  [.int .i64 g.ts, .int .i64 g.ns, .int .i64 g.st, .slice R g.rs.length cR, .slice (some ⟨bc, 0, none⟩) g.ns.toNat g.ns.toNat, .int .i64 (most : Int)]
/-- a lister; can tells which lengths up to n there are -/
structure LsK (L : Mem) (b : Nat) (g : Gr) (n : Nat) (R : Option Addr) (cR bc most : Nat) (rows : List (List Bool)) : Prop where
  out : L b (.cells (lsC g R cR bc most).toArray 216 (0, 0))
  rs : SlOk L R cR g.rs
  can : SlOk L (some ⟨bc, 0, none⟩) g.ns.toNat rows
  len : rows.length = g.ns.toNat
  tells : ∀ a : Nat, a < rows.length → Tells n (rows.getD a []) (HasD g a)
theorem LsK.mono {L L' : Mem} {b : Nat} {g : Gr} {n : Nat} {R : Option Addr} {cR bc most : Nat} {rows : List (List Bool)} (h : LsK L b g n R cR bc most rows) (hl : Mem.le L L') : LsK L' b g n R cR bc most rows := ⟨hl _ _ h.out, h.rs.mono hl, h.can.mono hl, h.len, h.tells⟩
theorem tells_iff {g : Gr} {n : Nat} {rows : List (List Bool)} (ht : ∀ a : Nat, a < rows.length → Tells n (rows.getD a []) (HasD g a)) {a k : Nat} (ha : a < rows.length) (hk : k ≤ n) : (rows.getD a []).getD k false = true ↔ HasD g a k := by
  obtain ⟨h1, h2⟩ := ht a ha
  have := h2 k (by omega)
  rw [← this]
  simp [List.getD_eq_getElem?_getD, show k < (rows[a]?.getD []).length by simpa [List.getD_eq_getElem?_getD] using (show k < (rows.getD a []).length by omega)]
theorem sums_iff {g : Gr} (V : VG g) {n : Nat} {rows : List (List Bool)} (hlen : rows.length = g.ns.toNat) (ht : ∀ a : Nat, a < rows.length → Tells n (rows.getD a []) (HasD g a)) : ∀ {l : List Sy} {k : Nat}, (∀ s ∈ l, s.t = false → 0 ≤ s.n ∧ s.n < g.ns) → k ≤ n → (SumP rows l k ↔ 0 < rowT (cntT g (mostN g n)) l k)
  | [], k, _, _ => by
    show k = 0 ↔ 0 < (if k = 0 then 1 else 0)
    by_cases e : k = 0 <;> simp [e]
  | s :: l, k, hs, hk => by
    rw [row_pos]
    have one : ∀ j, j ≤ k → (oneL rows s j = true ↔ 0 < symT (cntT g (mostN g n)) s j) := fun j hj => by
      have hs0 := hs s (by simp)
      obtain ⟨st, sn⟩ := s
      cases st with
      | true =>
        simp only [oneL, symT, if_true]
        by_cases e : j = 1 <;> simp [e]
      | false =>
        obtain ⟨q1, q2⟩ := hs0 rfl
        obtain ⟨a, rfl⟩ : ∃ a : Nat, sn = a := ⟨sn.toNat, by simp at q1; omega⟩
        have := tells_iff ht (a := a) (k := j) (by simp at q2; omega) (by omega)
        rw [has_cnt V (n := n) (by omega)] at this
        simpa [oneL, symT] using this
    have hrec := fun j (hj : j ≤ k) => sums_iff V hlen ht (l := l) (k := k - j) (fun s q => hs s (by simp [q])) (by omega)
    constructor
    · rintro ⟨j, h1, h2, h3⟩
      exact ⟨j, h1, (one j h1).1 h2, (hrec j h1).1 h3⟩
    · rintro ⟨j, h1, h2, h3⟩
      exact ⟨j, h1, (one j h1).2 h2, (hrec j h1).2 h3⟩
set_option maxHeartbeats 1600000 in
theorem ref_fits {Γr : Ctx} {b : Nat} {g : Gr} (V : VG g) {N : Nat} (hN : N ≤ 400) {R : Option Addr} {cR bc most : Nat} {rows : List (List Bool)} (hB : LsK (lk Γr) b g N R cR bc most rows) {l : List Sy} {A : Option Addr} {c : Nat} (hl : SlOk (lk Γr) A c l) (hin : ∀ s ∈ l, s.t = false → 0 ≤ s.n ∧ s.n < g.ns) {n : Nat} (hn : n ≤ N) :
    Ret Try.prog 199 [.pointer (some ⟨b, 0, none⟩), .slice A l.length c, .int .i64 (n : Int)] Γr [] (fun v Γ => Γ = [] ∧ v = .bool (decide (0 < rowT (cntT g (mostN g N)) l n))) := by
  generalize hR : (fun (v : Value) (Γ : Ctx) => Γ = [] ∧ v = _) = R'
  refine ret_of_vc tr199 (Nat.le_of_ble_eq_true rfl) ?_
  have hls := hl.short
  have hr := hB.can
  have hrs := hr.short
  have hlen := hB.len
  have hrow : ∀ a (h : a < rows.length), rows[a].length = N + 1 := fun a h => by
    have := (hB.tells a h).1
    simpa [List.getD_eq_getElem?_getD, h] using this
  have hw : IntKind.i64.wrap ((n : Int) + 1) = ((n + 1 : Nat) : Int) := by rw [wrap_id (by omega) (by omega)]; rfl
  simp -implicitDefEqProofs only [S199, S199_0, hw, go_sem, Nat.reduceBEq, Nat.reduceAdd, Nat.reduceSub, Nat.reduceMul, Nat.reduceLeDiff, reduceCtorEq, ↓reduceIte, Int.reduceLT, Int.reduceLE, Int.reduceEq, Int.reduceNe]
  refine ⟨by omega, by omega, fun bA => ?_⟩
  refine s_idx rfl (by omega) (by omega) ?_
  simp -implicitDefEqProofs only [go_sem, Nat.reduceBEq, Nat.reduceAdd, Nat.reduceSub, Nat.reduceMul, Nat.reduceLeDiff, reduceCtorEq, ↓reduceIte, Int.reduceLT, Int.reduceLE, Int.reduceEq, Int.reduceNe]
  refine s_storeA (ix := 0) true rfl (Arr.made false bA 4 (n + 1)) (by simp) ?_
  intro g0 hA0 _
  simp -implicitDefEqProofs only [go_sem, Nat.reduceBEq, Nat.reduceAdd, Nat.reduceSub, Nat.reduceMul, Nat.reduceLeDiff, reduceCtorEq, ↓reduceIte, Int.reduceLT, Int.reduceLE, Int.reduceEq, Int.reduceNe]
  refine s_loop (fun f vs Γ => ∃ g, Γ = [g] ∧ ∃ (k b : Nat) (xs : List Bool), vs = [.v true (.slice (some ⟨b, 0, none⟩) (n + 1) (n + 1)), .v true (.int .i64 k)] ∧ k + f = l.length ∧ Arr g b 4 xs ∧ Tells n xs (SumP rows (l.take k))) l.length
    (Up.here ⟨_, rfl, 0, bA, _, rfl, by omega, hA0, Tells.set (p := fun _ => False) ⟨by simp, fun m hm => by simp⟩ (by simp) (by simp [SumP]) (fun m hm => by simpa [SumP] using hm)⟩) ?_
  rintro f vs Γ ⟨ga, rfl, k, ba, at', rfl, hkf, hA, hT⟩
  simp -implicitDefEqProofs only [S199_3, go_sem, Nat.reduceBEq, Nat.reduceAdd, Nat.reduceSub, Nat.reduceMul, Nat.reduceLeDiff, reduceCtorEq, ↓reduceIte, Int.reduceLT, Int.reduceLE, Int.reduceEq, Int.reduceNe]
  refine ⟨fun hlt => ?_, fun hge => ?_⟩
  · have hk : k < l.length := by omega
    obtain ⟨b1, o1, hA1, hc1⟩ := hl.sy hk
    refine s_idx hA1 (by omega) (by omega) ?_
    simp -implicitDefEqProofs only [go_sem, Nat.reduceBEq, Nat.reduceAdd, Nat.reduceSub, Nat.reduceMul, Nat.reduceLeDiff, reduceCtorEq, ↓reduceIte, Int.reduceLT, Int.reduceLE, Int.reduceEq, Int.reduceNe]
    refine s_ld0 (hc1 _ (lk_r _ _)) (by simp) (by simp) ?_
    simp -implicitDefEqProofs only [hw, go_sem, Nat.reduceBEq, Nat.reduceAdd, Nat.reduceSub, Nat.reduceMul, Nat.reduceLeDiff, reduceCtorEq, ↓reduceIte, Int.reduceLT, Int.reduceLE, Int.reduceEq, Int.reduceNe]
    intro b2
    refine ⟨by omega, by omega, fun b3 => ?_⟩
    have hal := hT.1
    refine s_loop (fun f' vs Γ => ∃ gx g, Γ = [gx, g] ∧ Arr g ba 4 at' ∧ ∃ (i : Nat) (xs : List Bool), vs = [.v true (.int .i64 i)] ∧ i + f' = n + 1 ∧ Arr gx b3 4 xs ∧ Tells n xs (QP rows l[k] at' i 0)) (n + 1)
      (Up.here ⟨_, _, rfl, hA, 0, _, rfl, by omega, Arr.made false b3 4 (n + 1), ⟨by simp, fun m hm => by simp [QP]⟩⟩) ?_
    rintro f' vs Γ ⟨gx, ga, rfl, hA, i, xs, rfl, hif, hX, hTx⟩
    have hxl := hTx.1
    simp -implicitDefEqProofs only [S199_2, go_sem, Nat.reduceBEq, Nat.reduceAdd, Nat.reduceSub, Nat.reduceMul, Nat.reduceLeDiff, reduceCtorEq, ↓reduceIte, Int.reduceLT, Int.reduceLE, Int.reduceEq, Int.reduceNe]
    refine ⟨fun hlt => ?_, fun hge => ?_⟩
    · have hi : i < at'.length := by omega
      refine s_idx rfl (by omega) (by omega) ?_
      simp -implicitDefEqProofs only [go_sem, Nat.reduceBEq, Nat.reduceAdd, Nat.reduceSub, Nat.reduceMul, Nat.reduceLeDiff, reduceCtorEq, ↓reduceIte, Int.reduceLT, Int.reduceLE, Int.reduceEq, Int.reduceNe]
      refine s_ld0 (hA.bool hi (by simp)) (by simp) (by simp) ?_
      simp -implicitDefEqProofs only [go_sem, Nat.reduceBEq, Nat.reduceAdd, Nat.reduceSub, Nat.reduceMul, Nat.reduceLeDiff, reduceCtorEq, ↓reduceIte, Int.reduceLT, Int.reduceLE, Int.reduceEq, Int.reduceNe]
      have hgd : at'.getD i false = at'[i] := by simp [hi]
      generalize hok : at'[i] = ok at *
      cases ok with
      | false =>
        refine s_loop (fun f2 vs Γ => Γ = [gx, ga] ∧ vs = [.v true (.int .i64 0)]) 0 (Up.here ⟨rfl, rfl⟩) ?_
        rintro f2 vs Γ ⟨rfl, rfl⟩
        simp -implicitDefEqProofs only [S199_1, go_sem, Nat.reduceBEq, Nat.reduceAdd, Nat.reduceSub, Nat.reduceMul, Nat.reduceLeDiff, reduceCtorEq, ↓reduceIte, Int.reduceLT, Int.reduceLE, Int.reduceEq, Int.reduceNe]
        simp (disch := omega) only [wrap_id]
        exact ⟨f' - 1, by omega, Up.here ⟨_, _, rfl, hA, i + 1, _, rfl, by omega, hX, hTx.congr fun m _ => QP_skip hgd⟩⟩
      | true =>
        refine s_loop (fun f2 vs Γ => ∃ gx g, Γ = [gx, g] ∧ Arr g ba 4 at' ∧ ∃ (j : Nat) (xs : List Bool), vs = [.v true (.int .i64 j)] ∧ j + f2 = n + 1 - i ∧ Arr gx b3 4 xs ∧ Tells n xs (QP rows l[k] at' i j)) (n + 1 - i)
          (Up.here ⟨_, _, rfl, hA, 0, _, rfl, by omega, hX, hTx⟩) ?_
        rintro f2 vs Γ ⟨gx, ga, rfl, hA, j, xs, rfl, hjf, hX, hTx⟩
        have hxl := hTx.1
        have hwij : IntKind.i64.wrap ((i : Int) + (j : Int)) = ((i + j : Nat) : Int) := by rw [wrap_id (by omega) (by omega)]; rfl
        simp -implicitDefEqProofs only [S199_1, hwij, go_sem, Nat.reduceBEq, Nat.reduceAdd, Nat.reduceSub, Nat.reduceMul, Nat.reduceLeDiff, reduceCtorEq, ↓reduceIte, Int.reduceLT, Int.reduceLE, Int.reduceEq, Int.reduceNe]
        refine ⟨fun hlt => ?_, fun hge => ?_⟩
        · have hij : i + j < xs.length := by omega
          refine s_idx rfl (by omega) (by omega) ?_
          simp -implicitDefEqProofs only [go_sem, Nat.reduceBEq, Nat.reduceAdd, Nat.reduceSub, Nat.reduceMul, Nat.reduceLeDiff, reduceCtorEq, ↓reduceIte, Int.reduceLT, Int.reduceLE, Int.reduceEq, Int.reduceNe]
          refine s_ld0 (hX.bool hij (by simp)) (by simp) (by simp) ?_
          have hstep : ∀ x : Bool, (x = true ↔ xs[i + j] = true ∨ oneL rows l[k] j = true) → Tells n (xs.set (i + j) x) (QP rows l[k] at' i (j + 1)) := fun x hx => by
            refine hTx.set hij ?_ fun m hm => ?_
            · rw [QP_step hgd, hx, hTx.2 _ hij]
              simp
            · rw [QP_step hgd]
              exact ⟨.inl, fun q => q.resolve_right fun q => hm q.1⟩
          generalize hxo : xs[i + j] = o at hstep ⊢
          have hlk : l[k] ∈ l := List.getElem_mem hk
          generalize hls' : l[k] = s at *
          obtain ⟨t, sn⟩ := s
          cases o with
          | true =>
            cases t
            all_goals
              simp -implicitDefEqProofs only [go_sem, Nat.reduceBEq, Nat.reduceAdd, Nat.reduceSub, Nat.reduceMul, Nat.reduceLeDiff, reduceCtorEq, ↓reduceIte, Int.reduceLT, Int.reduceLE, Int.reduceEq, Int.reduceNe]
            · refine s_ldg0 (cs := [.slice none 0 0]) (by simp) (by simp) (by simp) (by simp) ?_
              simp -implicitDefEqProofs only [go_sem, Nat.reduceBEq, Nat.reduceAdd, Nat.reduceSub, Nat.reduceMul, Nat.reduceLeDiff, reduceCtorEq, ↓reduceIte, Int.reduceLT, Int.reduceLE, Int.reduceEq, Int.reduceNe]
              refine s_idxg (b := 0) (o := 0) (by simp) ?_
              simp -implicitDefEqProofs only [go_sem, Nat.reduceBEq, Nat.reduceAdd, Nat.reduceSub, Nat.reduceMul, Nat.reduceLeDiff, reduceCtorEq, ↓reduceIte, Int.reduceLT, Int.reduceLE, Int.reduceEq, Int.reduceNe]
              refine s_ldg0 (cs := [.slice none 0 0]) (by simp) (by simp) (by simp) (by simp) ?_
              simp -implicitDefEqProofs only [go_sem, Nat.reduceBEq, Nat.reduceAdd, Nat.reduceSub, Nat.reduceMul, Nat.reduceLeDiff, reduceCtorEq, ↓reduceIte, Int.reduceLT, Int.reduceLE, Int.reduceEq, Int.reduceNe]
              refine s_idxg (b := 0) (o := 0) (by simp) ?_
              simp -implicitDefEqProofs only [go_sem, Nat.reduceBEq, Nat.reduceAdd, Nat.reduceSub, Nat.reduceMul, Nat.reduceLeDiff, reduceCtorEq, ↓reduceIte, Int.reduceLT, Int.reduceLE, Int.reduceEq, Int.reduceNe]
              refine s_ldg0 (cs := [.bool false]) (by simp) (by simp) (by simp) (by simp) ?_
              simp -implicitDefEqProofs only [go_sem, Nat.reduceBEq, Nat.reduceAdd, Nat.reduceSub, Nat.reduceMul, Nat.reduceLeDiff, reduceCtorEq, ↓reduceIte, Int.reduceLT, Int.reduceLE, Int.reduceEq, Int.reduceNe]
              refine s_idx rfl (by omega) (by omega) ?_
              simp -implicitDefEqProofs only [go_sem, Nat.reduceBEq, Nat.reduceAdd, Nat.reduceSub, Nat.reduceMul, Nat.reduceLeDiff, reduceCtorEq, ↓reduceIte, Int.reduceLT, Int.reduceLE, Int.reduceEq, Int.reduceNe]
              refine s_storeA (ix := 0) (true) rfl hX (i := i + j) hij ?_
              intro gx' hX' _
              simp -implicitDefEqProofs only [go_sem, Nat.reduceBEq, Nat.reduceAdd, Nat.reduceSub, Nat.reduceMul, Nat.reduceLeDiff, reduceCtorEq, ↓reduceIte, Int.reduceLT, Int.reduceLE, Int.reduceEq, Int.reduceNe]
              simp (disch := omega) only [wrap_id]
              exact ⟨f2 - 1, by omega, Up.here ⟨_, _, rfl, hA, j + 1, _, rfl, by omega, hX', hstep _ (by simp)⟩⟩
            · refine s_ldg0 (cs := [.slice none 0 0]) (by simp) (by simp) (by simp) (by simp) ?_
              simp -implicitDefEqProofs only [go_sem, Nat.reduceBEq, Nat.reduceAdd, Nat.reduceSub, Nat.reduceMul, Nat.reduceLeDiff, reduceCtorEq, ↓reduceIte, Int.reduceLT, Int.reduceLE, Int.reduceEq, Int.reduceNe]
              refine s_idxg (b := 0) (o := 0) (by simp) ?_
              simp -implicitDefEqProofs only [go_sem, Nat.reduceBEq, Nat.reduceAdd, Nat.reduceSub, Nat.reduceMul, Nat.reduceLeDiff, reduceCtorEq, ↓reduceIte, Int.reduceLT, Int.reduceLE, Int.reduceEq, Int.reduceNe]
              refine s_ldg0 (cs := [.slice none 0 0]) (by simp) (by simp) (by simp) (by simp) ?_
              simp -implicitDefEqProofs only [go_sem, Nat.reduceBEq, Nat.reduceAdd, Nat.reduceSub, Nat.reduceMul, Nat.reduceLeDiff, reduceCtorEq, ↓reduceIte, Int.reduceLT, Int.reduceLE, Int.reduceEq, Int.reduceNe]
              refine s_idxg (b := 0) (o := 0) (by simp) ?_
              simp -implicitDefEqProofs only [go_sem, Nat.reduceBEq, Nat.reduceAdd, Nat.reduceSub, Nat.reduceMul, Nat.reduceLeDiff, reduceCtorEq, ↓reduceIte, Int.reduceLT, Int.reduceLE, Int.reduceEq, Int.reduceNe]
              refine s_ldg0 (cs := [.bool false]) (by simp) (by simp) (by simp) (by simp) ?_
              simp -implicitDefEqProofs only [go_sem, Nat.reduceBEq, Nat.reduceAdd, Nat.reduceSub, Nat.reduceMul, Nat.reduceLeDiff, reduceCtorEq, ↓reduceIte, Int.reduceLT, Int.reduceLE, Int.reduceEq, Int.reduceNe]
              refine s_idx rfl (by omega) (by omega) ?_
              simp -implicitDefEqProofs only [go_sem, Nat.reduceBEq, Nat.reduceAdd, Nat.reduceSub, Nat.reduceMul, Nat.reduceLeDiff, reduceCtorEq, ↓reduceIte, Int.reduceLT, Int.reduceLE, Int.reduceEq, Int.reduceNe]
              refine s_storeA (ix := 0) (true) rfl hX (i := i + j) hij ?_
              intro gx' hX' _
              simp -implicitDefEqProofs only [go_sem, Nat.reduceBEq, Nat.reduceAdd, Nat.reduceSub, Nat.reduceMul, Nat.reduceLeDiff, reduceCtorEq, ↓reduceIte, Int.reduceLT, Int.reduceLE, Int.reduceEq, Int.reduceNe]
              simp (disch := omega) only [wrap_id]
              exact ⟨f2 - 1, by omega, Up.here ⟨_, _, rfl, hA, j + 1, _, rfl, by omega, hX', hstep _ (by simp)⟩⟩
          | false =>
            cases t with
            | true =>
              simp -implicitDefEqProofs only [go_sem, Nat.reduceBEq, Nat.reduceAdd, Nat.reduceSub, Nat.reduceMul, Nat.reduceLeDiff, reduceCtorEq, ↓reduceIte, Int.reduceLT, Int.reduceLE, Int.reduceEq, Int.reduceNe]
              refine s_ldg0 (cs := [.slice none 0 0]) (by simp) (by simp) (by simp) (by simp) ?_
              simp -implicitDefEqProofs only [go_sem, Nat.reduceBEq, Nat.reduceAdd, Nat.reduceSub, Nat.reduceMul, Nat.reduceLeDiff, reduceCtorEq, ↓reduceIte, Int.reduceLT, Int.reduceLE, Int.reduceEq, Int.reduceNe]
              refine s_idxg (b := 0) (o := 0) (by simp) ?_
              simp -implicitDefEqProofs only [go_sem, Nat.reduceBEq, Nat.reduceAdd, Nat.reduceSub, Nat.reduceMul, Nat.reduceLeDiff, reduceCtorEq, ↓reduceIte, Int.reduceLT, Int.reduceLE, Int.reduceEq, Int.reduceNe]
              refine s_ldg0 (cs := [.slice none 0 0]) (by simp) (by simp) (by simp) (by simp) ?_
              simp -implicitDefEqProofs only [go_sem, Nat.reduceBEq, Nat.reduceAdd, Nat.reduceSub, Nat.reduceMul, Nat.reduceLeDiff, reduceCtorEq, ↓reduceIte, Int.reduceLT, Int.reduceLE, Int.reduceEq, Int.reduceNe]
              refine s_idxg (b := 0) (o := 0) (by simp) ?_
              simp -implicitDefEqProofs only [go_sem, Nat.reduceBEq, Nat.reduceAdd, Nat.reduceSub, Nat.reduceMul, Nat.reduceLeDiff, reduceCtorEq, ↓reduceIte, Int.reduceLT, Int.reduceLE, Int.reduceEq, Int.reduceNe]
              refine s_ldg0 (cs := [.bool false]) (by simp) (by simp) (by simp) (by simp) ?_
              simp -implicitDefEqProofs only [go_sem, Nat.reduceBEq, Nat.reduceAdd, Nat.reduceSub, Nat.reduceMul, Nat.reduceLeDiff, reduceCtorEq, ↓reduceIte, Int.reduceLT, Int.reduceLE, Int.reduceEq, Int.reduceNe]
              refine s_idx rfl (by omega) (by omega) ?_
              simp -implicitDefEqProofs only [go_sem, Nat.reduceBEq, Nat.reduceAdd, Nat.reduceSub, Nat.reduceMul, Nat.reduceLeDiff, reduceCtorEq, ↓reduceIte, Int.reduceLT, Int.reduceLE, Int.reduceEq, Int.reduceNe]
              refine s_storeA (ix := 0) (decide ((j : Int) = 1)) rfl hX (i := i + j) hij ?_
              intro gx' hX' _
              simp -implicitDefEqProofs only [go_sem, Nat.reduceBEq, Nat.reduceAdd, Nat.reduceSub, Nat.reduceMul, Nat.reduceLeDiff, reduceCtorEq, ↓reduceIte, Int.reduceLT, Int.reduceLE, Int.reduceEq, Int.reduceNe]
              simp (disch := omega) only [wrap_id]
              exact ⟨f2 - 1, by omega, Up.here ⟨_, _, rfl, hA, j + 1, _, rfl, by omega, hX', hstep _ (by simp [oneL]; omega)⟩⟩
            | false =>
              simp -implicitDefEqProofs only [go_sem, Nat.reduceBEq, Nat.reduceAdd, Nat.reduceSub, Nat.reduceMul, Nat.reduceLeDiff, reduceCtorEq, ↓reduceIte, Int.reduceLT, Int.reduceLE, Int.reduceEq, Int.reduceNe]
              have hsn := hin _ hlk rfl
              simp only at hsn
              have hsn2 : sn.toNat < rows.length := by omega
              have hrl := hrow sn.toNat hsn2
              obtain ⟨b5, o5, hA5, A6, c6, hs6, hc6⟩ := hr.list hsn2
              obtain ⟨b7, o7, hA7, hc7⟩ := hs6.bool (i := j) (by omega)
              refine s_ld (j := 4) (cells_lk (lk_r [gx, ga] _ _ _ hB.out)) (by simp [lsC]) (by simp) ?_
              simp -implicitDefEqProofs only [lsC, go_sem, Nat.reduceBEq, Nat.reduceAdd, Nat.reduceSub, Nat.reduceMul, Nat.reduceLeDiff, reduceCtorEq, ↓reduceIte, Int.reduceLT, Int.reduceLE, Int.reduceEq, Int.reduceNe]
              refine s_idx hA5 (by omega) (by omega) ?_
              simp -implicitDefEqProofs only [go_sem, Nat.reduceBEq, Nat.reduceAdd, Nat.reduceSub, Nat.reduceMul, Nat.reduceLeDiff, reduceCtorEq, ↓reduceIte, Int.reduceLT, Int.reduceLE, Int.reduceEq, Int.reduceNe]
              refine s_ld0 (hc6 _ (lk_r [gx, ga] _)) (by simp) (by simp) ?_
              simp -implicitDefEqProofs only [go_sem, Nat.reduceBEq, Nat.reduceAdd, Nat.reduceSub, Nat.reduceMul, Nat.reduceLeDiff, reduceCtorEq, ↓reduceIte, Int.reduceLT, Int.reduceLE, Int.reduceEq, Int.reduceNe]
              refine s_idx hA7 (by omega) (by omega) ?_
              simp -implicitDefEqProofs only [go_sem, Nat.reduceBEq, Nat.reduceAdd, Nat.reduceSub, Nat.reduceMul, Nat.reduceLeDiff, reduceCtorEq, ↓reduceIte, Int.reduceLT, Int.reduceLE, Int.reduceEq, Int.reduceNe]
              refine s_ld0 (hc7 _ (lk_r [gx, ga] _)) (by simp) (by simp) ?_
              simp -implicitDefEqProofs only [go_sem, Nat.reduceBEq, Nat.reduceAdd, Nat.reduceSub, Nat.reduceMul, Nat.reduceLeDiff, reduceCtorEq, ↓reduceIte, Int.reduceLT, Int.reduceLE, Int.reduceEq, Int.reduceNe]
              refine s_idx rfl (by omega) (by omega) ?_
              simp -implicitDefEqProofs only [go_sem, Nat.reduceBEq, Nat.reduceAdd, Nat.reduceSub, Nat.reduceMul, Nat.reduceLeDiff, reduceCtorEq, ↓reduceIte, Int.reduceLT, Int.reduceLE, Int.reduceEq, Int.reduceNe]
              refine s_storeA (ix := 0) (rows[sn.toNat][j]) rfl hX (i := i + j) hij ?_
              intro gx' hX' _
              simp -implicitDefEqProofs only [go_sem, Nat.reduceBEq, Nat.reduceAdd, Nat.reduceSub, Nat.reduceMul, Nat.reduceLeDiff, reduceCtorEq, ↓reduceIte, Int.reduceLT, Int.reduceLE, Int.reduceEq, Int.reduceNe]
              simp (disch := omega) only [wrap_id]
              exact ⟨f2 - 1, by omega, Up.here ⟨_, _, rfl, hA, j + 1, _, rfl, by omega, hX', hstep _ (by simp [oneL, hsn2, show j < rows[sn.toNat].length by omega])⟩⟩
        · have hj : j = n + 1 - i := by omega
          subst hj
          simp (disch := omega) only [wrap_id]
          exact ⟨f' - 1, by omega, Up.here ⟨_, _, rfl, hA, i + 1, _, rfl, by omega, hX, hTx.congr fun m hm => QP_end hm (by omega)⟩⟩
    · have hi : i = n + 1 := by omega
      subst hi
      simp (disch := omega) only [wrap_id]
      refine ⟨f - 1, by omega, Up.sel [[0]] (by decide) fun _ _ => ⟨_, rfl, k + 1, b3, xs, rfl, by omega, hX, hTx.congr fun m hm => ?_⟩⟩
      rw [QP_all hm hT, List.take_succ_eq_append_getElem hk, SumP_snoc]
  · have hk : k = l.length := by omega
    rw [hk, List.take_length] at hT
    have hal := hT.1
    refine s_idx rfl (by omega) (by omega) ?_
    simp -implicitDefEqProofs only [go_sem, Nat.reduceBEq, Nat.reduceAdd, Nat.reduceSub, Nat.reduceMul, Nat.reduceLeDiff, reduceCtorEq, ↓reduceIte, Int.reduceLT, Int.reduceLE, Int.reduceEq, Int.reduceNe]
    refine s_ld0 (hA.bool (i := n) (by omega) (by simp)) (by simp) (by simp) ?_
    simp -implicitDefEqProofs only [go_sem, Nat.reduceBEq, Nat.reduceAdd, Nat.reduceSub, Nat.reduceMul, Nat.reduceLeDiff, reduceCtorEq, ↓reduceIte, Int.reduceLT, Int.reduceLE, Int.reduceEq, Int.reduceNe]
    refine Up.to [] (Ent.nil _) ?_
    subst hR
    refine ⟨rfl, ?_⟩
    have h1 := hT.2 n (by omega)
    rw [sums_iff V hlen hB.tells hin hn] at h1
    rw [show at'[n] = decide (0 < rowT (cntT g (mostN g N)) l n) from by rw [Bool.eq_iff_iff, h1]; simp]
end Go.Proofs.Ytniobbepliknmaa.V
/- The text of (*parlance/parlref5.lister).rows as a statement (slots: 0 l, 1 syms, 2 n, 3 deep, 4 l, 5 syms, 6 n, 7 deep, 10 out, 11 j, 12 a, 13 ok, 14 b, 15 _, 16 x, 17 _, 18 y); no condition. -/
namespace Go.Proofs.Ytniobbepliknmaa.V
open Go
def S200_1 : Stmt :=
 .seq
 (.region [.mk (some 80) none (.ibin .lss (.tmp 79) (.tmp 78))]
 [0,1,2,3,10,11,14,16,71,72,73,77,78,79,80])
 (.seq (.cond (.tmp 80) .skip (.exit 4))
 (.seq
 (.block 5
 (.seq
 (.region
 [.mk (some 81) none (.idx 1 (.tmp 77) (.tmp 79)),
 .mk (some 82) none (.load false 1 (.tmp 81)),
 .mk (some 18) none (.mv (.tmp 82))]
 [0,1,2,3,10,11,14,16,18,71,72,73,77,78,79])
 (.region
 [.mk (some 83) none (.mv (.tmp 10)),
 .mk (some 84) none (.load true 3 (.tmp 16)),
 .mk (some 85) none
 (.buildS 106 1 [.int .i64 0,.int .i64 0,.slice none 0 0]
 [(0,3,.tmp 84)]),
 .mk (some 86) none (.mv (.tmp 18)),
 .mk (some 87) none
 (.append 104 106 3 40
 (.agg (Array.mk [.int .i64 0,.int .i64 0,.slice none 0 0]))
 (.tmp 85) (.tmp 86)),
 .mk (some 88) none (.buildS 104 1 [.slice none 0 0] [(0,1,.tmp 87)]),
 .mk (some 89) none
 (.append 271 104 1 24 (.slice none 0 0) (.tmp 83) (.tmp 88)),
 .mk (some 10) none (.mv (.tmp 89))]
 [0,1,2,3,10,11,14,16,71,72,73,77,78,79])))
 (.region
 [.mk (some 90) none (.ibin .add (.tmp 79) (.const (.int .i64 1))),
 .mk (some 79) none (.mv (.tmp 90))]
 [0,1,2,3,10,11,14,16,71,72,73,77,78,79])))
def S200_2 : Stmt :=
 .seq
 (.region [.mk (some 74) none (.ibin .lss (.tmp 73) (.tmp 72))]
 [0,1,2,3,10,11,14,71,72,73,74])
 (.seq (.cond (.tmp 74) .skip (.exit 2))
 (.seq
 (.block 3
 (.seq
 (.region
 [.mk (some 75) none (.idx 3 (.tmp 71) (.tmp 73)),
 .mk (some 76) none (.load true 3 (.tmp 75)),
 .mk (some 16) none
 (.alloc true 106
 (.agg (Array.mk [.int .i64 0,.int .i64 0,.slice none 0 0]))),
 .mk none none (.store 3 (.tmp 16) (.tmp 76))]
 [0,1,2,3,10,11,14,16,71,72,73])
 (.seq
 (.region
 [.mk (some 77) none (.mv (.tmp 14)),
 .mk (some 78) none (.len false (.tmp 77)),
 .mk (some 79) none (.mv (.const (.int .i64 0)))]
 [0,1,2,3,10,11,14,16,71,72,73,77,78,79])
 (.block 4 (.loop S200_1 [10,79] [0,1,2,3,11,14,16,71,72,73,77,78])))))
 (.region
 [.mk (some 91) none (.ibin .add (.tmp 73) (.const (.int .i64 1))),
 .mk (some 73) none (.mv (.tmp 91))]
 [0,1,2,3,10,11,14,71,72,73])))
def S200_3 : Stmt :=
 .block 1
 (.seq
 (.seq
 (.region
 [.mk (some 30) none (.mv (.tmp 0)),.mk (some 31) none (.mv (.tmp 1)),
 .mk (some 32) none
 (.slc 2 (.tmp 31) none (some (.const (.int .i64 1))) none),
 .mk (some 33) none (.mv (.tmp 11)),
 .mk (some 34) none (.call (.func 199) [.tmp 30,.tmp 32,.tmp 33]),
 .mk (some 35) none (.un .not (.tmp 34)),.mk (some 36) none (.mv (.tmp 35)),
 .mk (some 37) (some (36,false)) (.mv (.tmp 0)),
 .mk (some 38) (some (36,false)) (.mv (.tmp 1)),
 .mk (some 39) (some (36,false))
 (.slc 2 (.tmp 38) (some (.const (.int .i64 1))) none none),
 .mk (some 40) (some (36,false)) (.mv (.tmp 2)),
 .mk (some 41) (some (36,false)) (.mv (.tmp 11)),
 .mk (some 42) (some (36,false)) (.ibin .sub (.tmp 40) (.tmp 41)),
 .mk (some 43) (some (36,false))
 (.call (.func 199) [.tmp 37,.tmp 39,.tmp 42]),
 .mk (some 44) (some (36,false)) (.un .not (.tmp 43)),
 .mk (some 45) none (.pick (.tmp 36) (.const (.bool true)) (.tmp 44))]
 [0,1,2,3,10,11,45])
 (.cond (.tmp 45) (.exit 1) .skip))
 (.seq
 (.region
 [.mk (some 47) none (.mv (.tmp 0)),.mk (some 48) none (.mv (.tmp 1)),
 .mk (some 49) none (.idx 2 (.tmp 48) (.const (.int .i64 0))),
 .mk (some 50) none (.load true 2 (.tmp 49)),.mk (some 51) none (.mv (.tmp 11)),
 .mk (some 52) none (.mv (.tmp 3)),
 .mk (some 53) none
 (.call (.func 167) [.tmp 47,.tmp 50,.tmp 51,.tmp 52]),
 .mk (some 46) none (.mv (.tmp 53)),.mk (some 54) none (.extract 0 (.tmp 46)),
 .mk (some 55) none (.extract 1 (.tmp 46)),.mk (some 12) none (.mv (.tmp 54)),
 .mk (some 13) none (.mv (.tmp 55))]
 [0,1,2,3,10,11,12,13])
 (.seq
 (.seq
 (.region
 [.mk (some 56) none (.mv (.tmp 13)),
 .mk (some 57) none (.un .not (.tmp 56))]
 [0,1,2,3,10,11,12,57])
 (.cond (.tmp 57)
 (.seq
 (.region
 [.mk (some 8) none (.mv (.const (.slice none 0 0))),
 .mk (some 9) none (.mv (.const (.bool false)))]
 [8,9])
 .ret)
 .skip))
 (.seq
 (.region
 [.mk (some 59) none (.mv (.tmp 0)),.mk (some 60) none (.mv (.tmp 1)),
 .mk (some 61) none
 (.slc 2 (.tmp 60) (some (.const (.int .i64 1))) none none),
 .mk (some 62) none (.mv (.tmp 2)),.mk (some 63) none (.mv (.tmp 11)),
 .mk (some 64) none (.ibin .sub (.tmp 62) (.tmp 63)),
 .mk (some 65) none (.mv (.tmp 3)),
 .mk (some 66) none
 (.call (.func 200) [.tmp 59,.tmp 61,.tmp 64,.tmp 65]),
 .mk (some 58) none (.mv (.tmp 66)),
 .mk (some 67) none (.extract 0 (.tmp 58)),
 .mk (some 68) none (.extract 1 (.tmp 58)),
 .mk (some 14) none (.mv (.tmp 67)),.mk (some 13) none (.mv (.tmp 68))]
 [0,1,2,3,10,11,12,13,14])
 (.seq
 (.seq
 (.region
 [.mk (some 69) none (.mv (.tmp 13)),
 .mk (some 70) none (.un .not (.tmp 69))]
 [0,1,2,3,10,11,12,14,70])
 (.cond (.tmp 70)
 (.seq
 (.region
 [.mk (some 8) none (.mv (.const (.slice none 0 0))),
 .mk (some 9) none (.mv (.const (.bool false)))]
 [8,9])
 .ret)
 .skip))
 (.seq
 (.seq
 (.region
 [.mk (some 71) none (.mv (.tmp 12)),
 .mk (some 72) none (.len false (.tmp 71)),
 .mk (some 73) none (.mv (.const (.int .i64 0)))]
 [0,1,2,3,10,11,14,71,72,73])
 (.block 2 (.loop S200_2 [10,73] [0,1,2,3,11,14,71,72])))
 (.seq
 (.region
 [.mk (some 92) none (.mv (.tmp 10)),
 .mk (some 93) none (.len false (.tmp 92)),
 .mk (some 94) none (.mv (.tmp 0)),
 .mk (some 95) none (.nilCheck (.tmp 94)),
 .mk (some 96) none (.fld 5 (.tmp 95)),
 .mk (some 97) none (.load false 1 (.tmp 96)),
 .mk (some 98) none (.ibin .gtr (.tmp 93) (.tmp 97))]
 [0,1,2,3,10,11,98])
 (.cond (.tmp 98)
 (.seq
 (.region
 [.mk (some 8) none (.mv (.const (.slice none 0 0))),
 .mk (some 9) none (.mv (.const (.bool false)))]
 [8,9])
 .ret)
 .skip))))))))
def S200_4 : Stmt :=
 .region
 [.mk (some 28) none (.mv (.tmp 11)),
 .mk (some 29) none (.ibin .add (.tmp 28) (.const (.int .i64 1))),
 .mk (some 11) none (.mv (.tmp 29))]
 [0,1,2,3,10,11]
def S200_5 : Stmt :=
 .seq
 (.seq
 (.region
 [.mk (some 25) none (.mv (.tmp 11)),.mk (some 26) none (.mv (.tmp 2)),
 .mk (some 27) none (.ibin .leq (.tmp 25) (.tmp 26))]
 [0,1,2,3,10,11,27])
 (.cond (.tmp 27) .skip (.exit 0)))
 (.join S200_3 S200_4 [10] [0,1,2,3,11])
def S200_0 : Stmt :=
 .seq
 (.region
 [.mk (some 8) none (.mv (.const (.slice none 0 0))),
 .mk (some 9) none (.mv (.const (.bool false)))]
 [0,1,2,3])
 (.seq
 (.seq
 (.region
 [.mk (some 19) none (.mv (.tmp 1)),.mk (some 20) none (.len false (.tmp 19)),
 .mk (some 21) none (.ibin .eql (.tmp 20) (.const (.int .i64 0)))]
 [0,1,2,3,21])
 (.cond (.tmp 21)
 (.seq
 (.region
 [.mk (some 22) none
 (.buildS 104 1 [.slice none 0 0] [(0,1,.const (.slice none 0 0))]),
 .mk (some 23) none (.mv (.tmp 2)),
 .mk (some 24) none (.ibin .eql (.tmp 23) (.const (.int .i64 0))),
 .mk (some 8) none (.mv (.tmp 22)),.mk (some 9) none (.mv (.tmp 24))]
 [8,9])
 .ret)
 .skip))
 (.seq (.region [.mk (some 10) none (.mv (.const (.slice none 0 0)))] [0,1,2,3,10])
 (.seq
 (.seq
 (.region [.mk (some 11) none (.mv (.const (.int .i64 0)))]
 [0,1,2,3,10,11])
 (.block 0 (.loop S200_5 [10,11] [0,1,2,3])))
 (.seq
 (.region
 [.mk (some 99) none (.mv (.tmp 10)),.mk (some 8) none (.mv (.tmp 99)),
 .mk (some 9) none (.mv (.const (.bool true)))]
 [8,9])
 .ret))))
def S200 : FnS := ⟨100,[(8,none),(9,none)],S200_0⟩
theorem tr200 : trFn Try.prog 200 [16] [[0,1,2,3],[0,1,2,3,21],[8,9],[0,1,2,3,10],[0,1,2,3,10,11],[10,11],[0,1,2,3],[0,1,2,3,10,11,27],[10],[0,1,2,3,11],[0,1,2,3,10,11,45],[0,1,2,3,10,11,12,13],[0,1,2,3,10,11,12,57],[8,9],[0,1,2,3,10,11,12,13,14],[0,1,2,3,10,11,12,14,70],[8,9],[0,1,2,3,10,11,14,71,72,73],[10,73],[0,1,2,3,11,14,71,72],[0,1,2,3,10,11,14,71,72,73,74],[0,1,2,3,10,11,14,16,71,72,73],[0,1,2,3,10,11,14,16,71,72,73,77,78,79],[10,79],[0,1,2,3,11,14,16,71,72,73,77,78],[0,1,2,3,10,11,14,16,71,72,73,77,78,79,80],[0,1,2,3,10,11,14,16,18,71,72,73,77,78,79],[0,1,2,3,10,11,14,16,71,72,73,77,78,79],[0,1,2,3,10,11,14,16,71,72,73,77,78,79],[0,1,2,3,10,11,14,71,72,73],[0,1,2,3,10,11,98],[8,9],[0,1,2,3,10,11],[8,9]] = some S200 := by kernel_rfl
end Go.Proofs.Ytniobbepliknmaa.V
/- The text of (*parlance/parlref5.lister).trees as a statement (slots: 0 l, 1 s, 2 n, 3 deep, 4 l, 5 s, 6 n, 7 deep, 10 out, 11 i, 12 r, 13 rows, 14 ok, 15 _, 16 k); no condition. -/
namespace Go.Proofs.Ytniobbepliknmaa.V
open Go
def S167_1 : Stmt :=
 .seq
 (.region [.mk (some 66) none (.ibin .lss (.tmp 65) (.tmp 64))]
 [0,2,3,5,10,11,31,32,33,63,64,65,66])
 (.seq (.cond (.tmp 66) .skip (.exit 2))
 (.seq
 (.block 3
 (.seq
 (.region
 [.mk (some 67) none (.idx 1 (.tmp 63) (.tmp 65)),
 .mk (some 68) none (.load false 1 (.tmp 67)),
 .mk (some 16) none (.mv (.tmp 68))]
 [0,2,3,5,10,11,16,31,32,33,63,64,65])
 (.region
 [.mk (some 69) none (.mv (.tmp 10)),.mk (some 70) none (.mv (.tmp 11)),
 .mk (some 71) none (.mv (.tmp 16)),
 .mk (some 72) none
 (.build 106 [.int .i64 0,.int .i64 0,.slice none 0 0]
 [(0,1,.tmp 70),(2,1,.tmp 71)]),
 .mk (some 73) none
 (.buildS 106 1 [.int .i64 0,.int .i64 0,.slice none 0 0]
 [(0,3,.tmp 72)]),
 .mk (some 74) none
 (.append 104 106 3 40
 (.agg (Array.mk [.int .i64 0,.int .i64 0,.slice none 0 0]))
 (.tmp 69) (.tmp 73)),
 .mk (some 10) none (.mv (.tmp 74))]
 [0,2,3,5,10,11,31,32,33,63,64,65])))
 (.region
 [.mk (some 75) none (.ibin .add (.tmp 65) (.const (.int .i64 1))),
 .mk (some 65) none (.mv (.tmp 75))]
 [0,2,3,5,10,11,31,32,33,63,64,65])))
def S167_2 : Stmt :=
 .block 1
 (.seq
 (.region
 [.mk (some 35) none (.mv (.tmp 33)),
 .mk (some 36) none (.idx 2 (.tmp 31) (.tmp 33)),
 .mk (some 37) none (.load true 2 (.tmp 36)),
 .mk (some 12) none
 (.alloc true 37 (.agg (Array.mk [.int .i64 0,.slice none 0 0]))),
 .mk (some 11) none (.mv (.tmp 35)),
 .mk none none (.store 2 (.tmp 12) (.tmp 37))]
 [0,2,3,5,10,11,12,31,32,33])
 (.seq
 (.seq
 (.region
 [.mk (some 38) none (.fld 0 (.tmp 12)),
 .mk (some 39) none (.load false 1 (.tmp 38)),
 .mk (some 40) none (.fld 1 (.tmp 5)),
 .mk (some 41) none (.load false 1 (.tmp 40)),
 .mk (some 42) none (.ibin .neq (.tmp 39) (.tmp 41)),
 .mk (some 43) none (.mv (.tmp 42)),
 .mk (some 44) (some (43,false)) (.mv (.tmp 0)),
 .mk (some 45) (some (43,false)) (.fld 1 (.tmp 12)),
 .mk (some 46) (some (43,false)) (.load false 1 (.tmp 45)),
 .mk (some 47) (some (43,false)) (.mv (.tmp 2)),
 .mk (some 48) (some (43,false))
 (.call (.func 199) [.tmp 44,.tmp 46,.tmp 47]),
 .mk (some 49) (some (43,false)) (.un .not (.tmp 48)),
 .mk (some 50) none (.pick (.tmp 43) (.const (.bool true)) (.tmp 49))]
 [0,2,3,5,10,11,12,31,32,33,50])
 (.cond (.tmp 50) (.exit 1) .skip))
 (.seq
 (.region
 [.mk (some 52) none (.mv (.tmp 0)),.mk (some 53) none (.fld 1 (.tmp 12)),
 .mk (some 54) none (.load false 1 (.tmp 53)),
 .mk (some 55) none (.mv (.tmp 2)),.mk (some 56) none (.mv (.tmp 3)),
 .mk (some 57) none (.ibin .sub (.tmp 56) (.const (.int .i64 1))),
 .mk (some 58) none
 (.call (.func 200) [.tmp 52,.tmp 54,.tmp 55,.tmp 57]),
 .mk (some 51) none (.mv (.tmp 58)),.mk (some 59) none (.extract 0 (.tmp 51)),
 .mk (some 60) none (.extract 1 (.tmp 51)),.mk (some 13) none (.mv (.tmp 59)),
 .mk (some 14) none (.mv (.tmp 60))]
 [0,2,3,5,10,11,13,14,31,32,33])
 (.seq
 (.seq
 (.region
 [.mk (some 61) none (.mv (.tmp 14)),
 .mk (some 62) none (.un .not (.tmp 61))]
 [0,2,3,5,10,11,13,31,32,33,62])
 (.cond (.tmp 62)
 (.seq
 (.region
 [.mk (some 8) none (.mv (.const (.slice none 0 0))),
 .mk (some 9) none (.mv (.const (.bool false)))]
 [8,9])
 .ret)
 .skip))
 (.seq
 (.seq
 (.region
 [.mk (some 63) none (.mv (.tmp 13)),
 .mk (some 64) none (.len false (.tmp 63)),
 .mk (some 65) none (.mv (.const (.int .i64 0)))]
 [0,2,3,5,10,11,31,32,33,63,64,65])
 (.block 2 (.loop S167_1 [10,65] [0,2,3,5,11,31,32,33,63,64])))
 (.seq
 (.region
 [.mk (some 76) none (.mv (.tmp 10)),
 .mk (some 77) none (.len false (.tmp 76)),
 .mk (some 78) none (.mv (.tmp 0)),
 .mk (some 79) none (.nilCheck (.tmp 78)),
 .mk (some 80) none (.fld 5 (.tmp 79)),
 .mk (some 81) none (.load false 1 (.tmp 80)),
 .mk (some 82) none (.ibin .gtr (.tmp 77) (.tmp 81))]
 [0,2,3,5,10,31,32,33,82])
 (.cond (.tmp 82)
 (.seq
 (.region
 [.mk (some 8) none (.mv (.const (.slice none 0 0))),
 .mk (some 9) none (.mv (.const (.bool false)))]
 [8,9])
 .ret)
 .skip)))))))
def S167_3 : Stmt :=
 .region
 [.mk (some 83) none (.ibin .add (.tmp 33) (.const (.int .i64 1))),
 .mk (some 33) none (.mv (.tmp 83))]
 [0,2,3,5,10,31,32,33]
def S167_4 : Stmt :=
 .seq
 (.region [.mk (some 34) none (.ibin .lss (.tmp 33) (.tmp 32))]
 [0,2,3,5,10,31,32,33,34])
 (.seq (.cond (.tmp 34) .skip (.exit 0))
 (.join S167_2 S167_3 [10] [0,2,3,5,31,32,33]))
def S167_0 : Stmt :=
 .seq
 (.region
 [.mk (some 5) none (.box true 39 (.tmp 1)),
 .mk (some 8) none (.mv (.const (.slice none 0 0))),
 .mk (some 9) none (.mv (.const (.bool false)))]
 [0,2,3,5])
 (.seq
 (.seq
 (.region
 [.mk (some 17) none (.fld 0 (.tmp 5)),
 .mk (some 18) none (.load false 1 (.tmp 17))]
 [0,2,3,5,18])
 (.cond (.tmp 18)
 (.seq
 (.seq
 (.region
 [.mk (some 19) none (.mv (.tmp 2)),
 .mk (some 20) none (.ibin .eql (.tmp 19) (.const (.int .i64 1)))]
 [5,20])
 (.cond (.tmp 20)
 (.seq
 (.region
 [.mk (some 21) none (.fld 1 (.tmp 5)),
 .mk (some 22) none (.load false 1 (.tmp 21)),
 .mk (some 23) none
 (.build 106 [.int .i64 0,.int .i64 0,.slice none 0 0]
 [(0,1,.const (.int .i64 (-1))),(1,1,.tmp 22)]),
 .mk (some 24) none
 (.buildS 106 1 [.int .i64 0,.int .i64 0,.slice none 0 0]
 [(0,3,.tmp 23)]),
 .mk (some 8) none (.mv (.tmp 24)),
 .mk (some 9) none (.mv (.const (.bool true)))]
 [8,9])
 .ret)
 .skip))
 (.seq
 (.region
 [.mk (some 8) none (.mv (.const (.slice none 0 0))),
 .mk (some 9) none (.mv (.const (.bool true)))]
 [8,9])
 .ret))
 .skip))
 (.seq
 (.seq
 (.region
 [.mk (some 25) none (.mv (.tmp 3)),
 .mk (some 26) none (.ibin .eql (.tmp 25) (.const (.int .i64 0)))]
 [0,2,3,5,26])
 (.cond (.tmp 26)
 (.seq
 (.region
 [.mk (some 8) none (.mv (.const (.slice none 0 0))),
 .mk (some 9) none (.mv (.const (.bool false)))]
 [8,9])
 .ret)
 .skip))
 (.seq (.region [.mk (some 10) none (.mv (.const (.slice none 0 0)))] [0,2,3,5,10])
 (.seq
 (.seq
 (.region
 [.mk (some 27) none (.mv (.tmp 0)),
 .mk (some 28) none (.nilCheck (.tmp 27)),
 .mk (some 29) none (.fld 0 (.tmp 28)),
 .mk (some 30) none (.fld 3 (.tmp 29)),
 .mk (some 31) none (.load false 1 (.tmp 30)),
 .mk (some 32) none (.len false (.tmp 31)),
 .mk (some 33) none (.mv (.const (.int .i64 0)))]
 [0,2,3,5,10,31,32,33])
 (.block 0 (.loop S167_4 [10,33] [0,2,3,5,31,32])))
 (.seq
 (.region
 [.mk (some 84) none (.mv (.tmp 10)),.mk (some 8) none (.mv (.tmp 84)),
 .mk (some 9) none (.mv (.const (.bool true)))]
 [8,9])
 .ret)))))
def S167 : FnS := ⟨85,[(8,none),(9,none)],S167_0⟩
theorem tr167 : trFn Try.prog 167 [5,12] [[0,2,3,5],[0,2,3,5,18],[5,20],[8,9],[8,9],[0,2,3,5,26],[8,9],[0,2,3,5,10],[0,2,3,5,10,31,32,33],[10,33],[0,2,3,5,31,32],[0,2,3,5,10,31,32,33,34],[10],[0,2,3,5,31,32,33],[0,2,3,5,10,11,12,31,32,33],[0,2,3,5,10,11,12,31,32,33,50],[0,2,3,5,10,11,13,14,31,32,33],[0,2,3,5,10,11,13,31,32,33,62],[8,9],[0,2,3,5,10,11,31,32,33,63,64,65],[10,65],[0,2,3,5,11,31,32,33,63,64],[0,2,3,5,10,11,31,32,33,63,64,65,66],[0,2,3,5,10,11,16,31,32,33,63,64,65],[0,2,3,5,10,11,31,32,33,63,64,65],[0,2,3,5,10,11,31,32,33,63,64,65],[0,2,3,5,10,31,32,33,82],[8,9],[0,2,3,5,10,31,32,33],[8,9]] = some S167 := by kernel_rfl
end Go.Proofs.Ytniobbepliknmaa.V
namespace Go.Proofs.Ytniobbepliknmaa.V
open Go
set_option linter.unusedVariables false
set_option linter.unusedSimpArgs false
/- parlref5.lister: rows, trees walked; no condition. -/
attribute [local go_sem] e_seq e_region e_quiet e_join e_loop e_cond e_block e_exit e_ret e_skip e_fin e_kseq e_snrm e_sret e_sex e_bnrm e_bret e_bex e_rnrm e_rret e_res e_condC e_nil e_g e_mv g_mv e_pick g_pick pickC_eq e_ibin g_ibin ibinC_eq e_sbin g_sbin e_beq g_beq beqC_eq e_nilq g_nilq nilqC_sl nilqC_pt nilqC_mp e_un g_un unC_not unC_neg e_conv g_conv convC_eq e_fld g_fld fldC_ref fldC_ptr e_nilCheck g_nilCheck nilCheckC_ref nilCheckC_ptr nilCheckC_fun e_field g_field fieldC_eq e_len g_len lenC_sl lenC_str e_extract g_extract extractC_eq e_mkFunc e_build g_build e_idiv g_idiv idivC_eq e_ishift g_ishift ishiftC_eq e_idx g_idx e_idxA g_idxA e_load g_load e_loadB g_loadB atB_ref atB_v g_mkFunc loadC_ref loadC_ptr loadB_eq e_slc g_slc e_box boxC_loc boxC_esc e_alloc allocC_loc allocC_esc e_buildS e_store storeC_ref storeC_ptr storeB_eq e_append e_appz e_mk mkC_eq e_call callC_eq e_fn g_fn fnC_eq fnV_min' fnV_max' fnV_rune' e_q g_q e_a e_n g_call g_box g_alloc g_buildS g_store g_append g_mk g_a g_n g_dead e_dead e_callK e_drawn e_tree e_finJ e_tk e_tfin e_tno e_nbt_q e_nbt_qn e_nbt_a e_nbt_an e_nbt_fin e_drawnB e_bxb_nil e_bxb e_stB_none e_stB_some boxSt_store bs_mv bs_pick bs_ibin bs_idiv bs_ishift bs_sbin bs_beq bs_nilq bs_un bs_conv bs_box bs_alloc bs_build bs_buildS bs_load bs_fld bs_nilCheck bs_idx bs_idxA bs_field bs_slc bs_len bs_append bs_appz bs_mk bs_call bs_extract bs_mkFunc bs_fn bs_q bs_a bs_n bs_loadB bs_dead isBox_box e_early_nil e_early_t e_early_f e_nob_nil e_nob_none e_nob_some isBox_dead isBox_v isBox_ref e_dnil e_dk e_ek e_finB vcOps_vc1 e_dcons e_tq e_ekt e_tearly e_talt e_dearly look_nil look_c proj_nil proj_c looks_nil looks_c zip_nil zip_c val_tmp val_const val_func slv_v slv_box slv_ref slot_tmp slot_const slot_func slotL_v slotL_box slotL_ref put_some put_none updBox_c boxSet_box gd_eq slotVals_nil slotVals_c slotVals_b boxV_box boxOn_box slotsOn_nil slotsOn_c slotsOn_b resV_one resV_two vals_nil vals_c allOn_nil allOn_c partOn_nil partOn_c partVals_nil partVals_c fits_nil fits_c fillL_nil fillL_c mkv_one mkv_agg cellsV_agg cellsV_int cellsV_bool cellsV_slice cellsV_string cellsV_pointer cellsV_func cellsV_nilf cellsV_map one'_nil one'_c oc_int oc_bool oc_slice oc_string oc_pointer oc_func oc_nilf oc_map setC_eq iv_add iv_sub iv_mul iv_eql iv_neq iv_lss iv_leq iv_gtr iv_geq iok_add iok_sub iok_mul iok_eql iok_neq iok_lss iok_leq iok_gtr iok_geq pickV_bool args0_nil args0_c bnd_none bnd_some imp_bt imp_bf imp_ebt imp_ebf imp_eb1 imp_np imp_pp beq_tt beq_tf beq_ft beq_ff cond_or cond_and e_round e_meet Int.le_refl Int.toNat_zero decide_true decide_false Bool.or_false Bool.false_or Bool.true_or Bool.or_true Bool.and_false Bool.false_and Bool.bne_false Bool.bne_true beq_iff_eq Int.cast_ofNat_Int not_false_eq_true not_true_eq_false false_and and_false false_implies true_implies true_and and_true Bool.true_and Bool.and_true Bool.not_true Bool.not_false forall_const implies_true List.take_zero List.drop_zero List.take_succ_cons List.drop_succ_cons List.take_nil List.drop_nil List.length_cons List.length_nil List.nil_append List.append_nil List.cons_append Int.toNat_natCast decide_eq_true_eq decide_eq_false_iff_not cond_true cond_false and_self List.getElem?_cons_zero List.getElem?_cons_succ List.set_cons_zero List.set_cons_succ Option.some.injEq exists_eq_left' Nat.zero_add Nat.add_zero Nat.mul_one imp_self true_or or_true or_false false_or Bool.or_eq_true Bool.or_eq_false_iff Bool.and_eq_true Bool.and_eq_false_iff Bool.not_eq_true' Bool.not_eq_false'

theorem lit_one {α : Type} [Rep α] {b : Nat} {T : TypeId} {cs : List Value} {L : Mem} (x : α) (hx : Rep.ok L x cs) : Bld (one b (.cells cs.toArray T)) L T (.slice (some ⟨b, 0, none⟩) 1 1) [x] := by
  have hl := Rep.len hx
  refine ⟨cs, ⟨by rw [hl]; simp, .inr ⟨b, 0, 0, _, rfl, by simp, by simp [maxLen], one_self _ _, by simp [hl], ?_⟩⟩, fun i y hi => ?_⟩
  · simp only [List.toList_toArray, List.drop_zero, List.length_cons, List.length_nil, Nat.zero_add, Nat.one_mul]
    rw [← hl, List.take_length]
  · cases i with
    | zero => simp at hi; subst hi; exact ⟨cs, hx, fun j hj => by simp⟩
    | succ i => simp at hi
theorem SlOk.hi {α : Type} [Rep α] {h : Mem} {A : Option Addr} {c : Nat} {xs : List α} (q : SlOk h A c xs) {m : Nat} (hm : m ≤ xs.length) : SlOk h A c (xs.take m) := by
  have := q.slice (Nat.zero_le m) hm
  rw [List.drop_zero, Nat.sub_zero] at this
  have e : (if c = 0 then A else A.map (·.add (0 * Rep.sz α))) = A := by
    split
    · rfl
    · cases A with
      | none => rfl
      | some a => simp [Addr.add]
  rwa [e] at this
theorem row_one (T : Int → Nat → Nat) (s : Sy) (j : Nat) : rowT T [s] j = symT T s j := by
  rw [← preT_one]
  show convT T oneT s j = _
  unfold convT
  rw [sumN_front, sumN_congr (g := fun _ => 0) (fun x _ => by simp [oneT]), sumN_zero]
  simp [oneT]
def TrsQ (g : Gr) (s : Sy) (k d most : Nat) (v : Value) (Γ : Ctx) : Prop := (Γ = [] ∧ v = .tuple #[.slice none 0 0, .bool false]) ∨
  (∃ gt A c out, Γ = [gt] ∧ v = .tuple #[.slice A out.length c, .bool true] ∧ SlOk (lk [gt]) A c out ∧ out.length ≤ most + 1 ∧ ∀ h, d ≤ h → symL (lstT g h) s k = out)
def RwsQ (g : Gr) (l : List Sy) (k d most : Nat) (v : Value) (Γ : Ctx) : Prop := (Γ = [] ∧ v = .tuple #[.slice none 0 0, .bool false]) ∨
  (∃ gt A c out, Γ = [gt] ∧ v = .tuple #[.slice A out.length c, .bool true] ∧ SlOk (lk [gt]) A c out ∧ out.length ≤ most + 1 ∧ ∀ h, d ≤ h → rowL (lstT g h) l k = out)
def TrsC (g : Gr) (N b : Nat) (R : Option Addr) (cR bc most : Nat) (rows : List (List Bool)) (d : Nat) : Prop := ∀ {s : Sy} {k : Nat}, k ≤ N → (s.t = false → 0 ≤ s.n ∧ s.n < g.ns) → ∀ {Γr : Ctx}, LsK (lk Γr) b g N R cR bc most rows →
  Ret Try.prog 167 [.pointer (some ⟨b, 0, none⟩), .agg #[.bool s.t, .int .i64 s.n], .int .i64 (k : Int), .int .i64 (d : Int)] Γr [] (TrsQ g s k d most)
def RwsC (g : Gr) (N b : Nat) (R : Option Addr) (cR bc most : Nat) (rows : List (List Bool)) (d : Nat) (l : List Sy) : Prop := ∀ {k : Nat}, k ≤ N → (∀ s ∈ l, s.t = false → 0 ≤ s.n ∧ s.n < g.ns) → 0 < rowT (cntT g (mostN g N)) l k → ∀ {Γr : Ctx} {A : Option Addr} {c : Nat}, LsK (lk Γr) b g N R cR bc most rows → SlOk (lk Γr) A c l →
  Ret Try.prog 200 [.pointer (some ⟨b, 0, none⟩), .slice A l.length c, .int .i64 (k : Int), .int .i64 (d : Int)] Γr [] (RwsQ g l k d most)
set_option maxHeartbeats 3200000 in
theorem lister_rows {g : Gr} (V : VG g) {N : Nat} (hN : N ≤ 400) {b : Nat} {R : Option Addr} {cR bc most : Nat} (hmost : most ≤ 1000) {rows : List (List Bool)} {d : Nat} (hd : d ≤ 1000) (hT : TrsC g N b R cR bc most rows d) : ∀ (l : List Sy), l.length ≤ 4 → RwsC g N b R cR bc most rows d l := by
  intro l
  induction l with
  | nil =>
    intro _ k hk _ hpos Γr A c hB hA
    generalize hRR : RwsQ g [] k d most = R'
    refine ret_of_vc tr200 (Nat.le_of_ble_eq_true rfl) ?_
    simp -implicitDefEqProofs only [S200, S200_0, go_sem, Nat.reduceBEq, Nat.reduceAdd, Nat.reduceSub, Nat.reduceMul, Nat.reduceLeDiff, reduceCtorEq, ↓reduceIte, Int.reduceLT, Int.reduceLE, Int.reduceEq, Int.reduceNe]
    intro b1
    have hk0 : k = 0 := by
      simp only [rowT] at hpos
      split at hpos
      · assumption
      · omega
    subst hk0
    obtain ⟨A1, c1, e1, hS1⟩ := (lit_one (b := b1) (T := 104) (L := lk []) (cs := [.slice none 0 0]) ([] : List Tr) (show Rep.ok (lk []) ([] : List Tr) [.slice none 0 0] from ⟨none, 0, rfl, SlOk.nil⟩)).slok (L' := lk [one b1 (.cells #[Value.slice none 0 0] 104)]) (Mem.le.refl _) (fun b o ⟨x, hx, _⟩ => by cases hx) (by simp)
    simp only [Value.slice.injEq] at e1
    obtain ⟨rfl, _, rfl⟩ := e1
    refine Up.here ?_
    subst hRR
    exact .inr ⟨_, _, _, [[]], rfl, rfl, hS1, by simp, fun h _ => rfl⟩
  | cons s l ih =>
    intro hlen k hk hin hpos Γr A c hB hA
    have ih : RwsC g N b R cR bc most rows d l := ih (by simp at hlen; omega)
    have hlk : (s :: l).length = l.length + 1 := rfl
    have hdr := hA.drop (l := 1) (by simp)
    simp only [List.drop_succ_cons, List.drop_zero] at hdr
    have hhi := hA.hi (m := 1) (by simp)
    simp only [List.take_succ_cons, List.take_zero] at hhi
    obtain ⟨b3, o3, h3, hc3⟩ := hA.sy (i := 0) (by simp)
    simp only [List.getElem_cons_zero] at hc3
    have hcap := hA.cap
    generalize hRR : RwsQ g (s :: l) k d most = R'
    refine ret_of_vc tr200 (Nat.le_of_ble_eq_true rfl) ?_
    simp -implicitDefEqProofs only [S200, S200_0, go_sem, Nat.reduceBEq, Nat.reduceAdd, Nat.reduceSub, Nat.reduceMul, Nat.reduceLeDiff, reduceCtorEq, ↓reduceIte, Int.reduceLT, Int.reduceLE, Int.reduceEq, Int.reduceNe]
    refine ⟨fun h => absurd h (by omega), fun _ => ?_⟩
    refine s_loop (fun f vs Γ => ∃ (go gl : PH) (v : Value) (j : Nat) (out : List (List Tr)), vs = [.v true v, .v true (.int .i64 (j : Int))] ∧ Γ = [go, gl] ∧ j + f = k + 1 ∧ Bld go (lk [gl]) 104 v out ∧ out.length ≤ most ∧ ∀ h, d ≤ h → rowsT (lstT g h) s l k j = out) (k + 1)
      (Up.emp (Up.emp (Up.here ⟨_, _, _, 0, [], rfl, rfl, by omega, Bld.nil _ _ _, Nat.zero_le _, fun h _ => rfl⟩))) ?_
    rintro f vs Γ ⟨go, gl, v, j, out, rfl, rfl, hjf, hO, hol, hout⟩
    obtain ⟨Ao, co, rfl⟩ := hO.val
    simp -implicitDefEqProofs only [S200_5, go_sem, Nat.reduceBEq, Nat.reduceAdd, Nat.reduceSub, Nat.reduceMul, Nat.reduceLeDiff, reduceCtorEq, ↓reduceIte, Int.reduceLT, Int.reduceLE, Int.reduceEq, Int.reduceNe]
    refine ⟨fun hlt => ?_, fun hge => ?_⟩
    · have hj : j ≤ k := by omega
      refine s_join (fun vs Γ => ∃ (go gl : PH) (v : Value) (out : List (List Tr)), vs = [.v true v] ∧ Γ = [go, gl] ∧ Bld go (lk [gl]) 104 v out ∧ out.length ≤ most ∧ ∀ h, d ≤ h → rowsT (lstT g h) s l k (j + 1) = out) ?_ ?_
      · simp -implicitDefEqProofs only [S200_3, go_sem, Nat.reduceBEq, Nat.reduceAdd, Nat.reduceSub, Nat.reduceMul, Nat.reduceLeDiff, reduceCtorEq, ↓reduceIte, Int.reduceLT, Int.reduceLE, Int.reduceEq, Int.reduceNe]
        refine s_hi 1 (by simp -implicitDefEqProofs only [go_sem, Nat.reduceBEq, Nat.reduceAdd, Nat.reduceSub, Nat.reduceMul, Nat.reduceLeDiff, reduceCtorEq, ↓reduceIte, Int.reduceLT, Int.reduceLE, Int.reduceEq, Int.reduceNe]; exact ⟨_, rfl⟩) (by simp at hcap; omega) ?_
        simp -implicitDefEqProofs only [go_sem, Nat.reduceBEq, Nat.reduceAdd, Nat.reduceSub, Nat.reduceMul, Nat.reduceLeDiff, reduceCtorEq, ↓reduceIte, Int.reduceLT, Int.reduceLE, Int.reduceEq, Int.reduceNe]
        refine CallVC.read (ref_fits V hN (hB.mono (lk_r [go, gl] Γr)) (hhi.mono (lk_r [go, gl] Γr)) (fun x hx => hin x (by simp at hx; simp [hx])) (n := j) (by omega)) ?_
        rintro v Γ' ⟨rfl, rfl⟩
        rw [row_one]
        by_cases h1 : 0 < symT (cntT g (mostN g N)) s j
        · have hd1 : decide (0 < symT (cntT g (mostN g N)) s j) = true := decide_eq_true h1
          rw [hd1]
          simp -implicitDefEqProofs only [go_sem, Nat.reduceBEq, Nat.reduceAdd, Nat.reduceSub, Nat.reduceMul, Nat.reduceLeDiff, reduceCtorEq, ↓reduceIte, Int.reduceLT, Int.reduceLE, Int.reduceEq, Int.reduceNe]
          refine s_lo 1 (by simp -implicitDefEqProofs only [go_sem, Nat.reduceBEq, Nat.reduceAdd, Nat.reduceSub, Nat.reduceMul, Nat.reduceLeDiff, reduceCtorEq, ↓reduceIte, Int.reduceLT, Int.reduceLE, Int.reduceEq, Int.reduceNe]; exact ⟨_, rfl⟩) (by simp) (by simp at hcap; omega) ?_
          intro A' hA'
          rw [show Rep.sz Sy = 2 from rfl, ← hA'] at hdr
          rw [show l.length + 1 - 1 = l.length by omega]
          have hwkj : IntKind.i64.wrap ((k : Int) - (j : Int)) = ((k - j : Nat) : Int) := by rw [wrap_id (by omega) (by omega)]; omega
          simp -implicitDefEqProofs only [hwkj, go_sem, Nat.reduceBEq, Nat.reduceAdd, Nat.reduceSub, Nat.reduceMul, Nat.reduceLeDiff, reduceCtorEq, ↓reduceIte, Int.reduceLT, Int.reduceLE, Int.reduceEq, Int.reduceNe]
          refine CallVC.read (ref_fits V hN (hB.mono (lk_r [go, gl] Γr)) (hdr.mono (lk_r [go, gl] Γr)) (fun x hx => hin x (by simp [hx])) (n := k - j) (by omega)) ?_
          rintro v Γ' ⟨rfl, rfl⟩
          by_cases h2 : 0 < rowT (cntT g (mostN g N)) l (k - j)
          · have hd2 : decide (0 < rowT (cntT g (mostN g N)) l (k - j)) = true := decide_eq_true h2
            rw [hd2]
            simp -implicitDefEqProofs only [go_sem, Nat.reduceBEq, Nat.reduceAdd, Nat.reduceSub, Nat.reduceMul, Nat.reduceLeDiff, reduceCtorEq, ↓reduceIte, Int.reduceLT, Int.reduceLE, Int.reduceEq, Int.reduceNe]
            refine s_idx h3 (by simp) (by simp) ?_
            simp -implicitDefEqProofs only [go_sem, Nat.reduceBEq, Nat.reduceAdd, Nat.reduceSub, Nat.reduceMul, Nat.reduceLeDiff, reduceCtorEq, ↓reduceIte, Int.reduceLT, Int.reduceLE, Int.reduceEq, Int.reduceNe]
            refine s_ld0 (by simpa using hc3 _ (lk_r [go, gl] _)) (by simp) (by simp) ?_
            simp -implicitDefEqProofs only [go_sem, Nat.reduceBEq, Nat.reduceAdd, Nat.reduceSub, Nat.reduceMul, Nat.reduceLeDiff, reduceCtorEq, ↓reduceIte, Int.reduceLT, Int.reduceLE, Int.reduceEq, Int.reduceNe]
            refine CallVC.read (hT (s := s) (k := j) (by omega) (hin s (by simp)) (hB.mono (lk_r [go, gl] Γr))) ?_
            rintro v Γ' (⟨rfl, rfl⟩ | ⟨ga, Aa, ca, outa, rfl, rfl, hSa, hla, houta⟩)
            · simp -implicitDefEqProofs only [go_sem, Nat.reduceBEq, Nat.reduceAdd, Nat.reduceSub, Nat.reduceMul, Nat.reduceLeDiff, reduceCtorEq, ↓reduceIte, Int.reduceLT, Int.reduceLE, Int.reduceEq, Int.reduceNe]
              refine Up.to [] (Ent.nil _) ?_
              subst hRR
              exact .inl ⟨rfl, rfl⟩
            simp -implicitDefEqProofs only [go_sem, Nat.reduceBEq, Nat.reduceAdd, Nat.reduceSub, Nat.reduceMul, Nat.reduceLeDiff, reduceCtorEq, ↓reduceIte, Int.reduceLT, Int.reduceLE, Int.reduceEq, Int.reduceNe]
            refine s_lo 1 (by simp -implicitDefEqProofs only [go_sem, Nat.reduceBEq, Nat.reduceAdd, Nat.reduceSub, Nat.reduceMul, Nat.reduceLeDiff, reduceCtorEq, ↓reduceIte, Int.reduceLT, Int.reduceLE, Int.reduceEq, Int.reduceNe]; exact ⟨_, rfl⟩) (by simp) (by simp at hcap; omega) ?_
            intro A'' hA''
            rw [← hA'] at hA''
            subst hA''
            rw [show l.length + 1 - 1 = l.length by omega]
            simp -implicitDefEqProofs only [hwkj, go_sem, Nat.reduceBEq, Nat.reduceAdd, Nat.reduceSub, Nat.reduceMul, Nat.reduceLeDiff, reduceCtorEq, ↓reduceIte, Int.reduceLT, Int.reduceLE, Int.reduceEq, Int.reduceNe]
            refine CallVC.read (ih (k := k - j) (by omega) (fun x hx => hin x (by simp [hx])) h2 (hB.mono (lk_r [ga, go, gl] Γr)) (hdr.mono (lk_r [ga, go, gl] Γr))) ?_
            rintro v Γ' (⟨rfl, rfl⟩ | ⟨gb, Ab, cb, outb, rfl, rfl, hSb, hlb, houtb⟩)
            · simp -implicitDefEqProofs only [go_sem, Nat.reduceBEq, Nat.reduceAdd, Nat.reduceSub, Nat.reduceMul, Nat.reduceLeDiff, reduceCtorEq, ↓reduceIte, Int.reduceLT, Int.reduceLE, Int.reduceEq, Int.reduceNe]
              refine Up.to [] (Ent.nil _) ?_
              subst hRR
              exact .inl ⟨rfl, rfl⟩
            simp -implicitDefEqProofs only [go_sem, Nat.reduceBEq, Nat.reduceAdd, Nat.reduceSub, Nat.reduceMul, Nat.reduceLeDiff, reduceCtorEq, ↓reduceIte, Int.reduceLT, Int.reduceLE, Int.reduceEq, Int.reduceNe]
            have hSa := hSa
            refine s_loop (fun f1 vs Γ => ∃ (go gl : PH) (v : Value) (i1 : Nat), vs = [.v true v, .v true (.int .i64 (i1 : Int))] ∧ Γ = [go, gl, ga, gb] ∧ i1 + f1 = outa.length ∧ Bld go (lk [gl, ga, gb]) 104 v (out ++ (outa.take i1).flatMap fun x => outb.map (x :: ·))) outa.length
              (Up.sel [[2], [3], [1], [0]] (by decide) fun _ _ => ⟨go, gl, _, 0, rfl, rfl, by omega, by simpa using hO.mono (Mem.le.refl _) (lk_sub (by simp))⟩) ?_
            clear hO
            rintro f1 vs Γ ⟨go, gl, v, i1, rfl, rfl, hi1, hO⟩
            obtain ⟨Ao, co, rfl⟩ := hO.val
            simp -implicitDefEqProofs only [S200_2, go_sem, Nat.reduceBEq, Nat.reduceAdd, Nat.reduceSub, Nat.reduceMul, Nat.reduceLeDiff, reduceCtorEq, ↓reduceIte, Int.reduceLT, Int.reduceLE, Int.reduceEq, Int.reduceNe]
            refine ⟨fun hlt => ?_, fun hge => ?_⟩
            · have hi : i1 < outa.length := by omega
              obtain ⟨b5, o5, h5, A5, c5, hs5, hc5⟩ := hSa.tr hi
              have hxok : Rep.ok (lk [ga]) outa[i1] [.int .i64 outa[i1].rule, .int .i64 outa[i1].term, .slice A5 outa[i1].kids.length c5] := ok_tr.2 ⟨A5, c5, rfl, hs5⟩
              have htk : outa.take (i1 + 1) = outa.take i1 ++ [outa[i1]] := List.take_succ_eq_append_getElem hi
              generalize outa[i1] = x at *
              refine s_idx h5 (by omega) (by omega) ?_
              simp -implicitDefEqProofs only [go_sem, Nat.reduceBEq, Nat.reduceAdd, Nat.reduceSub, Nat.reduceMul, Nat.reduceLeDiff, reduceCtorEq, ↓reduceIte, Int.reduceLT, Int.reduceLE, Int.reduceEq, Int.reduceNe]
              refine s_ld0 (by simpa using hc5 _ (lk_sub (by simp))) (by simp) (by simp) ?_
              simp -implicitDefEqProofs only [go_sem, Nat.reduceBEq, Nat.reduceAdd, Nat.reduceSub, Nat.reduceMul, Nat.reduceLeDiff, reduceCtorEq, ↓reduceIte, Int.reduceLT, Int.reduceLE, Int.reduceEq, Int.reduceNe]
              intro b16
              have hfl : ((outa.take i1).flatMap fun x => outb.map (x :: ·)).length = i1 * outb.length := by
                rw [fm_const (c := outb.length) (fun z _ => by rw [List.length_map]), List.length_take, Nat.min_eq_left (by omega)]
              have hib : i1 * outb.length ≤ 1001 * 1001 := Nat.mul_le_mul (by omega) (by omega)
              generalize hbase : out ++ ((outa.take i1).flatMap fun x => outb.map (x :: ·)) = base at *
              have hbl : base.length ≤ 1100000 := by rw [← hbase, List.length_append, hfl]; omega
              refine s_loop (fun f2 vs Γ => ∃ (go gl : PH) (v : Value) (k1 : Nat), vs = [.v true v, .v true (.int .i64 (k1 : Int))] ∧ Γ = [go, gl, ga, gb] ∧ k1 + f2 = outb.length ∧ Bld go (lk [gl, ga, gb]) 104 v (base ++ (outb.take k1).map (x :: ·))) outb.length
                (Up.here ⟨go, gl, _, 0, rfl, rfl, by omega, by simpa using hO⟩) ?_
              clear hO
              rintro f2 vs Γ ⟨go, gl, v, k1, rfl, rfl, hk1, hO⟩
              obtain ⟨Ao, co, rfl⟩ := hO.val
              simp -implicitDefEqProofs only [S200_1, go_sem, Nat.reduceBEq, Nat.reduceAdd, Nat.reduceSub, Nat.reduceMul, Nat.reduceLeDiff, reduceCtorEq, ↓reduceIte, Int.reduceLT, Int.reduceLE, Int.reduceEq, Int.reduceNe]
              refine ⟨fun hlt => ?_, fun hge => ?_⟩
              · have hkb : k1 < outb.length := by omega
                obtain ⟨b6, o6, h6, A6, c6, hs6, hc6⟩ := hSb.list hkb
                have htk2 : outb.take (k1 + 1) = outb.take k1 ++ [outb[k1]] := List.take_succ_eq_append_getElem hkb
                have hyl : outb[k1].length = l.length := by
                  have := houtb d (Nat.le_refl d)
                  exact rowL_each (L := lstT g d) (k := k - j) (by rw [this]; exact List.getElem_mem hkb)
                generalize outb[k1] = y at *
                refine s_idx h6 (by omega) (by omega) ?_
                simp -implicitDefEqProofs only [go_sem, Nat.reduceBEq, Nat.reduceAdd, Nat.reduceSub, Nat.reduceMul, Nat.reduceLeDiff, reduceCtorEq, ↓reduceIte, Int.reduceLT, Int.reduceLE, Int.reduceEq, Int.reduceNe]
                refine s_ld0 (by simpa using hc6 _ (lk_sub (by simp))) (by simp) (by simp) ?_
                simp -implicitDefEqProofs only [go_sem, Nat.reduceBEq, Nat.reduceAdd, Nat.reduceSub, Nat.reduceMul, Nat.reduceLeDiff, reduceCtorEq, ↓reduceIte, Int.reduceLT, Int.reduceLE, Int.reduceEq, Int.reduceNe]
                intro b1
                refine s_appL (α := Tr) (ix := 0) (L := lk [ga]) (L' := lk [ga, gb]) (L2 := lk [gb]) rfl (lit_tree hxok) (lk_sub (by simp)) hs6 (lk_sub (by simp)) (lk_sub (by simp)) rfl (by simp; omega) (by simp; unfold maxLen; omega) ?_
                intro v' g1 hB' _
                obtain ⟨A2, c2, rfl, hS2⟩ := hB'.slok (L' := lk [g1, ga, gb]) (lk_sub (by simp)) (lk_sub (by simp)) (by simp; omega)
                simp -implicitDefEqProofs only [go_sem, Nat.reduceBEq, Nat.reduceAdd, Nat.reduceSub, Nat.reduceMul, Nat.reduceLeDiff, reduceCtorEq, ↓reduceIte, Int.reduceLT, Int.reduceLE, Int.reduceEq, Int.reduceNe]
                intro b2
                have hbk : (base ++ (outb.take k1).map (x :: ·)).length ≤ 1200000 := by rw [List.length_append, List.length_map, List.length_take]; omega
                refine s_app1 (α := List Tr) (ix := 2) (L := lk [gl, ga, gb]) (L' := lk [g1, gl, ga, gb]) (x := x :: y) (cs := [.slice A2 (y.length + 1) c2]) rfl hO (lk_sub (by simp)) ⟨A2, c2, rfl, hS2.mono (lk_sub (by simp))⟩ cells_one rfl (by omega) (by unfold maxLen; omega) ?_
                intro v2 go2 hO2 _
                obtain ⟨Ao2, co2, rfl⟩ := hO2.val
                simp -implicitDefEqProofs only [go_sem, Nat.reduceBEq, Nat.reduceAdd, Nat.reduceSub, Nat.reduceMul, Nat.reduceLeDiff, reduceCtorEq, ↓reduceIte, Int.reduceLT, Int.reduceLE, Int.reduceEq, Int.reduceNe]
                simp (disch := omega) only [wrap_id]
                refine ⟨f2 - 1, by omega, Up.skip (Up.sel [[1], [0, 2], [3], [4]] (by decide) fun _ hle => ⟨go2, _, _, k1 + 1, rfl, rfl, by omega, ?_⟩)⟩
                rw [htk2, List.map_append, ← List.append_assoc]
                exact hO2.mono (Mem.le.refl _) (lk_ctx (Γr := [ga, gb]) (hle [0, 2] (by simp)))
              · have hke : k1 = outb.length := by omega
                subst hke
                simp (disch := omega) only [wrap_id]
                refine ⟨f1 - 1, by omega, Up.here ⟨go, gl, _, i1 + 1, rfl, rfl, by omega, ?_⟩⟩
                rw [List.take_length, ← hbase] at hO
                rw [htk, List.flatMap_append, ← List.append_assoc]
                simpa [List.take_length, ← hbase] using hO
            · have hie : i1 = outa.length := by omega
              subst hie
              have hfl : ((outa.take outa.length).flatMap fun x => outb.map (x :: ·)).length = outa.length * outb.length := by
                rw [fm_const (c := outb.length) (fun z _ => by rw [List.length_map]), List.length_take, Nat.min_self]
              have hib : outa.length * outb.length ≤ 1001 * 1001 := Nat.mul_le_mul (by omega) (by omega)
              refine s_ld (j := 5) (cells_lk (lk_r [go, gl, ga, gb] _ _ _ hB.out)) (by simp [lsC]) (by simp) ?_
              simp -implicitDefEqProofs only [lsC, go_sem, Nat.reduceBEq, Nat.reduceAdd, Nat.reduceSub, Nat.reduceMul, Nat.reduceLeDiff, reduceCtorEq, ↓reduceIte, Int.reduceLT, Int.reduceLE, Int.reduceEq, Int.reduceNe]
              refine ⟨fun hbig => ?_, fun hsm => ?_⟩
              · refine Up.to [] (Ent.nil _) ?_
                subst hRR
                exact .inl ⟨rfl, rfl⟩
              · refine Up.sel [[0], [1, 2, 3]] (by decide) fun _ hle => ⟨go, _, _, _, rfl, rfl, hO.mono (Mem.le.refl _) (hle [1, 2, 3] (by simp)), by omega, fun h hh => ?_⟩
                rw [rowsT_succ, hout h hh, houta h hh, houtb h hh, List.take_length]
          · have hd2 : decide (0 < rowT (cntT g (mostN g N)) l (k - j)) = false := decide_eq_false h2
            rw [hd2]
            simp -implicitDefEqProofs only [go_sem, Nat.reduceBEq, Nat.reduceAdd, Nat.reduceSub, Nat.reduceMul, Nat.reduceLeDiff, reduceCtorEq, ↓reduceIte, Int.reduceLT, Int.reduceLE, Int.reduceEq, Int.reduceNe]
            refine Up.here ⟨go, gl, _, out, rfl, rfl, hO, hol, fun h hh => ?_⟩
            rw [rowsT_succ, hout h hh, row_none V (show k - j ≤ N by omega) h2 h]
            simp
        · have hd1 : decide (0 < symT (cntT g (mostN g N)) s j) = false := decide_eq_false h1
          rw [hd1]
          simp -implicitDefEqProofs only [go_sem, Nat.reduceBEq, Nat.reduceAdd, Nat.reduceSub, Nat.reduceMul, Nat.reduceLeDiff, reduceCtorEq, ↓reduceIte, Int.reduceLT, Int.reduceLE, Int.reduceEq, Int.reduceNe]
          refine ⟨0, 0, fun h => absurd h (by decide), ?_⟩
          simp -implicitDefEqProofs only [go_sem, Nat.reduceBEq, Nat.reduceAdd, Nat.reduceSub, Nat.reduceMul, Nat.reduceLeDiff, reduceCtorEq, ↓reduceIte, Int.reduceLT, Int.reduceLE, Int.reduceEq, Int.reduceNe]
          refine ⟨.bool false, ?_⟩
          simp -implicitDefEqProofs only [go_sem, Nat.reduceBEq, Nat.reduceAdd, Nat.reduceSub, Nat.reduceMul, Nat.reduceLeDiff, reduceCtorEq, ↓reduceIte, Int.reduceLT, Int.reduceLE, Int.reduceEq, Int.reduceNe]
          refine Up.here ⟨go, gl, _, out, rfl, rfl, hO, hol, fun h hh => ?_⟩
          rw [rowsT_succ, hout h hh, sym_none V (show j ≤ N by omega) h1 h]
          simp
      · rintro vs Γ' ⟨go, gl, v, out, rfl, rfl, hO, hol, hout⟩
        obtain ⟨Ao, co, rfl⟩ := hO.val
        simp -implicitDefEqProofs only [S200_4, go_sem, Nat.reduceBEq, Nat.reduceAdd, Nat.reduceSub, Nat.reduceMul, Nat.reduceLeDiff, reduceCtorEq, ↓reduceIte, Int.reduceLT, Int.reduceLE, Int.reduceEq, Int.reduceNe]
        simp (disch := omega) only [wrap_id]
        exact ⟨f - 1, by omega, Up.here ⟨go, gl, _, j + 1, out, rfl, rfl, by omega, hO, hol, hout⟩⟩
    · have hje : j = k + 1 := by omega
      subst hje
      obtain ⟨A1, c1, e1, hS1⟩ := hO.slok (L' := lk [go, gl]) (lk_sub (by simp)) (lk_sub (by simp)) (by omega)
      simp only [Value.slice.injEq, true_and] at e1
      obtain ⟨rfl, rfl⟩ := e1
      refine Up.one fun G hG => ?_
      subst hRR
      exact .inr ⟨G, _, _, out, rfl, rfl, hS1.mono hG, by omega, fun h hh => by rw [← rowsT_all, hout h hh]⟩
/- parlref5.lister: trees walked; no condition. -/
set_option maxHeartbeats 3200000 in
theorem lister_trees {g : Gr} (V : VG g) {N : Nat} (hN : N ≤ 400) {b : Nat} {R : Option Addr} {cR bc most : Nat} (hmost : most ≤ 1000) {rows : List (List Bool)} : ∀ (d : Nat), d ≤ 1000 → TrsC g N b R cR bc most rows d := by
  intro d
  induction d with
  | zero =>
    intro _ s k hk hin Γr hB
    generalize hRR : TrsQ g s k 0 most = R'
    refine ret_of_vc tr167 (Nat.le_of_ble_eq_true rfl) ?_
    obtain ⟨st, sn⟩ := s
    cases st with
    | true =>
      simp -implicitDefEqProofs only [S167, S167_0, go_sem, Nat.reduceBEq, Nat.reduceAdd, Nat.reduceSub, Nat.reduceMul, Nat.reduceLeDiff, reduceCtorEq, ↓reduceIte, Int.reduceLT, Int.reduceLE, Int.reduceEq, Int.reduceNe]
      refine ⟨fun h1 b1 => ?_, fun h1 => ?_⟩
      · have hk1 : k = 1 := by omega
        obtain ⟨A1, c1, e1, hS1⟩ := (lit_one (b := b1) (T := 106) (L := lk []) (cs := [.int .i64 (-1), .int .i64 sn, .slice none 0 0]) (⟨-1, sn, []⟩ : Tr) (ok_tr.2 ⟨none, 0, rfl, SlOk.nil⟩)).slok (L' := lk [one b1 (.cells #[Value.int .i64 (-1), .int .i64 sn, .slice none 0 0] 106)]) (Mem.le.refl _) (fun b o ⟨x, hx, _⟩ => by cases hx) (by simp)
        simp only [Value.slice.injEq] at e1
        obtain ⟨rfl, _, rfl⟩ := e1
        refine Up.here ?_
        subst hRR
        exact .inr ⟨_, _, _, [⟨-1, sn, []⟩], rfl, rfl, hS1, by simp, fun h _ => by simp [symL, hk1]⟩
      · have hk1 : ¬ k = 1 := by omega
        refine Up.emp (Up.here ?_)
        subst hRR
        exact .inr ⟨_, none, 0, [], rfl, rfl, SlOk.nil, by simp, fun h _ => by simp [symL, hk1]⟩
    | false =>
      simp -implicitDefEqProofs only [S167, S167_0, go_sem, Nat.reduceBEq, Nat.reduceAdd, Nat.reduceSub, Nat.reduceMul, Nat.reduceLeDiff, reduceCtorEq, ↓reduceIte, Int.reduceLT, Int.reduceLE, Int.reduceEq, Int.reduceNe]
      refine Up.here ?_
      subst hRR
      exact .inl ⟨rfl, rfl⟩
  | succ d ih =>
    intro hd1 s k hk hin Γr hB
    have hrw := lister_rows V hN hmost (show d ≤ 1000 by omega) (ih (by omega))
    generalize hRR : TrsQ g s k (d + 1) most = R'
    refine ret_of_vc tr167 (Nat.le_of_ble_eq_true rfl) ?_
    obtain ⟨st, sn⟩ := s
    cases st with
    | true =>
      simp -implicitDefEqProofs only [S167, S167_0, go_sem, Nat.reduceBEq, Nat.reduceAdd, Nat.reduceSub, Nat.reduceMul, Nat.reduceLeDiff, reduceCtorEq, ↓reduceIte, Int.reduceLT, Int.reduceLE, Int.reduceEq, Int.reduceNe]
      refine ⟨fun h1 b1 => ?_, fun h1 => ?_⟩
      · have hk1 : k = 1 := by omega
        obtain ⟨A1, c1, e1, hS1⟩ := (lit_one (b := b1) (T := 106) (L := lk []) (cs := [.int .i64 (-1), .int .i64 sn, .slice none 0 0]) (⟨-1, sn, []⟩ : Tr) (ok_tr.2 ⟨none, 0, rfl, SlOk.nil⟩)).slok (L' := lk [one b1 (.cells #[Value.int .i64 (-1), .int .i64 sn, .slice none 0 0] 106)]) (Mem.le.refl _) (fun b o ⟨x, hx, _⟩ => by cases hx) (by simp)
        simp only [Value.slice.injEq] at e1
        obtain ⟨rfl, _, rfl⟩ := e1
        refine Up.here ?_
        subst hRR
        exact .inr ⟨_, _, _, [⟨-1, sn, []⟩], rfl, rfl, hS1, by simp, fun h _ => by simp [symL, hk1]⟩
      · have hk1 : ¬ k = 1 := by omega
        refine Up.emp (Up.here ?_)
        subst hRR
        exact .inr ⟨_, none, 0, [], rfl, rfl, SlOk.nil, by simp, fun h _ => by simp [symL, hk1]⟩
    | false =>
      simp -implicitDefEqProofs only [S167, S167_0, go_sem, Nat.reduceBEq, Nat.reduceAdd, Nat.reduceSub, Nat.reduceMul, Nat.reduceLeDiff, reduceCtorEq, ↓reduceIte, Int.reduceLT, Int.reduceLE, Int.reduceEq, Int.reduceNe]
      intro b5
      refine ⟨fun h => absurd h (by omega), fun _ => ?_⟩
      have hsh := hB.rs.short
      have hvl := V.len
      refine s_ld (j := 3) (cells_lk hB.out) (by simp [lsC]) (by simp) ?_
      simp -implicitDefEqProofs only [lsC, go_sem, Nat.reduceBEq, Nat.reduceAdd, Nat.reduceSub, Nat.reduceMul, Nat.reduceLeDiff, reduceCtorEq, ↓reduceIte, Int.reduceLT, Int.reduceLE, Int.reduceEq, Int.reduceNe]
      refine s_loop (fun f vs Γ => ∃ (go gl : PH) (v : Value) (i : Nat) (out : List Tr), vs = [.v true v, .v true (.int .i64 (i : Int))] ∧ Γ = [go, gl] ∧ i + f = g.rs.length ∧ Bld go (lk [gl]) 106 v out ∧ out.length ≤ most ∧ ∀ h, d ≤ h → rulsT g (lstT g h) sn k i = out) g.rs.length
        (Up.emp (Up.emp (Up.here ⟨_, _, _, 0, [], rfl, rfl, by omega, Bld.nil _ _ _, Nat.zero_le _, fun h _ => rfl⟩))) ?_
      rintro f vs Γ ⟨go, gl, v, i, out, rfl, rfl, hif, hO, hol, hout⟩
      obtain ⟨Ao, co, rfl⟩ := hO.val
      simp -implicitDefEqProofs only [S167_4, go_sem, Nat.reduceBEq, Nat.reduceAdd, Nat.reduceSub, Nat.reduceMul, Nat.reduceLeDiff, reduceCtorEq, ↓reduceIte, Int.reduceLT, Int.reduceLE, Int.reduceEq, Int.reduceNe]
      refine ⟨fun hlt => ?_, fun hge => ?_⟩
      · have hi : i < g.rs.length := by omega
        obtain ⟨b0, o0, h0, A1, c1, hr1, hcr⟩ := hB.rs.ru hi
        have hsucc := fun h => rulsT_succ (lstT g h) sn k hi
        have hr4 := V.right _ (List.getElem_mem hi)
        have hsym := V.sym _ (List.getElem_mem hi)
        refine s_join (fun vs Γ => ∃ (go gl : PH) (v : Value) (out : List Tr), vs = [.v true v] ∧ Γ = [go, gl] ∧ Bld go (lk [gl]) 106 v out ∧ out.length ≤ most ∧ ∀ h, d ≤ h → rulsT g (lstT g h) sn k (i + 1) = out) ?_ ?_
        · generalize g.rs[i] = r at *
          simp -implicitDefEqProofs only [S167_2, go_sem, Nat.reduceBEq, Nat.reduceAdd, Nat.reduceSub, Nat.reduceMul, Nat.reduceLeDiff, reduceCtorEq, ↓reduceIte, Int.reduceLT, Int.reduceLE, Int.reduceEq, Int.reduceNe]
          refine s_idx h0 (by omega) (by omega) ?_
          simp -implicitDefEqProofs only [go_sem, Nat.reduceBEq, Nat.reduceAdd, Nat.reduceSub, Nat.reduceMul, Nat.reduceLeDiff, reduceCtorEq, ↓reduceIte, Int.reduceLT, Int.reduceLE, Int.reduceEq, Int.reduceNe]
          refine s_ld0 (by simpa using hcr _ (lk_r [go, gl] _)) (by simp) (by simp) ?_
          simp -implicitDefEqProofs only [go_sem, Nat.reduceBEq, Nat.reduceAdd, Nat.reduceSub, Nat.reduceMul, Nat.reduceLeDiff, reduceCtorEq, ↓reduceIte, Int.reduceLT, Int.reduceLE, Int.reduceEq, Int.reduceNe]
          intro b12
          by_cases hl : r.l = sn
          · have hdl : (!decide (r.l = sn)) = false := by simp [hl]
            simp only [hdl]
            refine ⟨fun h => ⟨h, ?_⟩, fun h => absurd h (by decide)⟩
            refine CallVC.read (ref_fits V hN (hB.mono (lk_r [go, gl] Γr)) (hr1.mono (lk_r [go, gl] Γr)) (fun x hx h => ⟨(hsym x hx).1, (hsym x hx).2.2 h⟩) (n := k) hk) ?_
            rintro v Γ' ⟨rfl, rfl⟩
            by_cases h2 : 0 < rowT (cntT g (mostN g N)) r.r k
            · have hd2 : decide (0 < rowT (cntT g (mostN g N)) r.r k) = true := decide_eq_true h2
              rw [hd2]
              have hwd : IntKind.i64.wrap (((d + 1 : Nat) : Int) - 1) = (d : Int) := by rw [wrap_id (by omega) (by omega)]; omega
              simp -implicitDefEqProofs only [hwd, go_sem, Nat.reduceBEq, Nat.reduceAdd, Nat.reduceSub, Nat.reduceMul, Nat.reduceLeDiff, reduceCtorEq, ↓reduceIte, Int.reduceLT, Int.reduceLE, Int.reduceEq, Int.reduceNe]
              refine CallVC.read (hrw r.r hr4 (k := k) hk (fun x hx h => ⟨(hsym x hx).1, (hsym x hx).2.2 h⟩) h2 (hB.mono (lk_r [go, gl] Γr)) (hr1.mono (lk_r [go, gl] Γr))) ?_
              rintro v Γ' (⟨rfl, rfl⟩ | ⟨gr, Ar, cr, outr, rfl, rfl, hSr, hlr, houtr⟩)
              · simp -implicitDefEqProofs only [go_sem, Nat.reduceBEq, Nat.reduceAdd, Nat.reduceSub, Nat.reduceMul, Nat.reduceLeDiff, reduceCtorEq, ↓reduceIte, Int.reduceLT, Int.reduceLE, Int.reduceEq, Int.reduceNe]
                refine Up.to [] (Ent.nil _) ?_
                subst hRR
                exact .inl ⟨rfl, rfl⟩
              simp -implicitDefEqProofs only [go_sem, Nat.reduceBEq, Nat.reduceAdd, Nat.reduceSub, Nat.reduceMul, Nat.reduceLeDiff, reduceCtorEq, ↓reduceIte, Int.reduceLT, Int.reduceLE, Int.reduceEq, Int.reduceNe]
              refine s_loop (fun f1 vs Γ => ∃ (go gl : PH) (v : Value) (i1 : Nat), vs = [.v true v, .v true (.int .i64 (i1 : Int))] ∧ Γ = [go, gl, gr] ∧ i1 + f1 = outr.length ∧ Bld go (lk [gl, gr]) 106 v (out ++ (outr.take i1).map fun ks => (⟨(i : Int), 0, ks⟩ : Tr))) outr.length
                (Up.sel [[1], [2], [0]] (by decide) fun _ _ => ⟨go, gl, _, 0, rfl, rfl, by omega, by simpa using hO.mono (Mem.le.refl _) (lk_sub (by simp))⟩) ?_
              clear hO
              rintro f1 vs Γ ⟨go, gl, v, i1, rfl, rfl, hi1, hO⟩
              obtain ⟨Ao, co, rfl⟩ := hO.val
              simp -implicitDefEqProofs only [S167_1, go_sem, Nat.reduceBEq, Nat.reduceAdd, Nat.reduceSub, Nat.reduceMul, Nat.reduceLeDiff, reduceCtorEq, ↓reduceIte, Int.reduceLT, Int.reduceLE, Int.reduceEq, Int.reduceNe]
              refine ⟨fun hlt => ?_, fun hge => ?_⟩
              · have hir : i1 < outr.length := by omega
                obtain ⟨b6, o6, h6, A6, c6, hs6, hc6⟩ := hSr.list hir
                have htk2 : outr.take (i1 + 1) = outr.take i1 ++ [outr[i1]] := List.take_succ_eq_append_getElem hir
                generalize outr[i1] = y at *
                refine s_idx h6 (by omega) (by omega) ?_
                simp -implicitDefEqProofs only [go_sem, Nat.reduceBEq, Nat.reduceAdd, Nat.reduceSub, Nat.reduceMul, Nat.reduceLeDiff, reduceCtorEq, ↓reduceIte, Int.reduceLT, Int.reduceLE, Int.reduceEq, Int.reduceNe]
                refine s_ld0 (by simpa using hc6 _ (lk_sub (by simp))) (by simp) (by simp) ?_
                simp -implicitDefEqProofs only [go_sem, Nat.reduceBEq, Nat.reduceAdd, Nat.reduceSub, Nat.reduceMul, Nat.reduceLeDiff, reduceCtorEq, ↓reduceIte, Int.reduceLT, Int.reduceLE, Int.reduceEq, Int.reduceNe]
                intro b2
                have hbk : (out ++ (outr.take i1).map fun ks => (⟨(i : Int), 0, ks⟩ : Tr)).length ≤ 1200000 := by rw [List.length_append, List.length_map, List.length_take]; omega
                refine s_app1 (α := Tr) (ix := 1) (L := lk [gl, gr]) (L' := lk [gl, gr]) (x := ⟨(i : Int), 0, y⟩) (cs := [.int .i64 (i : Int), .int .i64 0, .slice A6 y.length c6]) rfl hO (Mem.le.refl _) (ok_tr.2 ⟨A6, c6, rfl, hs6.mono (lk_sub (by simp))⟩) cells_one rfl (by omega) (by unfold maxLen; omega) ?_
                intro v2 go2 hO2 _
                obtain ⟨Ao2, co2, rfl⟩ := hO2.val
                simp -implicitDefEqProofs only [go_sem, Nat.reduceBEq, Nat.reduceAdd, Nat.reduceSub, Nat.reduceMul, Nat.reduceLeDiff, reduceCtorEq, ↓reduceIte, Int.reduceLT, Int.reduceLE, Int.reduceEq, Int.reduceNe]
                simp (disch := omega) only [wrap_id]
                refine ⟨f1 - 1, by omega, Up.skip (Up.here ⟨go2, gl, _, i1 + 1, rfl, rfl, by omega, ?_⟩)⟩
                rw [htk2, List.map_append, ← List.append_assoc]
                exact hO2
              · have hie : i1 = outr.length := by omega
                subst hie
                refine s_ld (j := 5) (cells_lk (lk_r [go, gl, gr] _ _ _ hB.out)) (by simp [lsC]) (by simp) ?_
                simp -implicitDefEqProofs only [lsC, go_sem, Nat.reduceBEq, Nat.reduceAdd, Nat.reduceSub, Nat.reduceMul, Nat.reduceLeDiff, reduceCtorEq, ↓reduceIte, Int.reduceLT, Int.reduceLE, Int.reduceEq, Int.reduceNe]
                refine ⟨fun hbig => ?_, fun hsm => ?_⟩
                · refine Up.to [] (Ent.nil _) ?_
                  subst hRR
                  exact .inl ⟨rfl, rfl⟩
                · refine Up.sel [[0], [1, 2]] (by decide) fun _ hle => ⟨go, _, _, _, rfl, rfl, hO.mono (Mem.le.refl _) (hle [1, 2] (by simp)), by omega, fun h hh => ?_⟩
                  rw [hsucc, if_pos hl, hout h hh, houtr h hh, List.take_length]
            · have hd2 : decide (0 < rowT (cntT g (mostN g N)) r.r k) = false := decide_eq_false h2
              rw [hd2]
              simp -implicitDefEqProofs only [go_sem, Nat.reduceBEq, Nat.reduceAdd, Nat.reduceSub, Nat.reduceMul, Nat.reduceLeDiff, reduceCtorEq, ↓reduceIte, Int.reduceLT, Int.reduceLE, Int.reduceEq, Int.reduceNe]
              refine Up.here ⟨go, gl, _, out, rfl, rfl, hO, hol, fun h hh => ?_⟩
              rw [hsucc, hout h hh, row_none V hk h2 h]
              simp
          · have hdl : (!decide (r.l = sn)) = true := by simp [hl]
            simp only [hdl]
            refine ⟨fun h => absurd h hl, fun _ => ⟨.bool false, ?_⟩⟩
            simp -implicitDefEqProofs only [go_sem, Nat.reduceBEq, Nat.reduceAdd, Nat.reduceSub, Nat.reduceMul, Nat.reduceLeDiff, reduceCtorEq, ↓reduceIte, Int.reduceLT, Int.reduceLE, Int.reduceEq, Int.reduceNe]
            refine Up.here ⟨go, gl, _, out, rfl, rfl, hO, hol, fun h hh => ?_⟩
            rw [hsucc, hout h hh, if_neg hl]
            simp
        · rintro vs Γ' ⟨go, gl, v, out, rfl, rfl, hO, hol, hout⟩
          obtain ⟨Ao, co, rfl⟩ := hO.val
          simp -implicitDefEqProofs only [S167_3, go_sem, Nat.reduceBEq, Nat.reduceAdd, Nat.reduceSub, Nat.reduceMul, Nat.reduceLeDiff, reduceCtorEq, ↓reduceIte, Int.reduceLT, Int.reduceLE, Int.reduceEq, Int.reduceNe]
          simp (disch := omega) only [wrap_id]
          exact ⟨f - 1, by omega, Up.here ⟨go, gl, _, i + 1, out, rfl, rfl, by omega, hO, hol, hout⟩⟩
      · have hie : i = g.rs.length := by omega
        subst hie
        obtain ⟨A1, c1, e1, hS1⟩ := hO.slok (L' := lk [go, gl]) (lk_sub (by simp)) (lk_sub (by simp)) (by omega)
        simp only [Value.slice.injEq, true_and] at e1
        obtain ⟨rfl, rfl⟩ := e1
        refine Up.one fun G hG => ?_
        subst hRR
        refine .inr ⟨G, _, _, out, rfl, rfl, hS1.mono hG, by omega, fun h hh => ?_⟩
        obtain ⟨h', rfl⟩ : ∃ h', h = h' + 1 := ⟨h - 1, by omega⟩
        rw [← hout h' (by omega), rulsT_all]
        rfl
end Go.Proofs.Ytniobbepliknmaa.V
/- The text of parlance/parlref5.lengthsOf as a statement (slots: 0 g, 1 n, 2 g, 3 n, 5 can, 6 seen, 7 all, 8 row, 9 add, 10 i, 11 x, 12 r, 13 _, 14 y, 15 q, 16 s, 17 k, 18 ok); no condition. -/
namespace Go.Proofs.Ytniobbepliknmaa.V
open Go
def S114_1 : Stmt :=
 .seq
 (.region [.mk (some 30) none (.ibin .lss (.tmp 29) (.tmp 28))]
 [2,5,7,8,9,28,29,30])
 (.seq (.cond (.tmp 30) .skip (.exit 0))
 (.seq
 (.block 1
 (.seq
 (.region
 [.mk (some 31) none (.mv (.tmp 29)),.mk (some 10) none (.mv (.tmp 31))]
 [2,5,7,8,9,10,28,29])
 (.region
 [.mk (some 32) none (.mv (.tmp 9)),.mk (some 33) none (.mv (.tmp 10)),
 .mk (some 34) none
 (.build 223 [.int .i64 0,.int .i64 0,.int .i64 0]
 [(0,1,.tmp 33),(1,1,.const (.int .i64 0)),
 (2,1,.const (.int .i64 0))]),
 .mk (some 35) none (.call (.tmp 32) [.tmp 34])]
 [2,5,7,8,9,28,29])))
 (.region
 [.mk (some 36) none (.ibin .add (.tmp 29) (.const (.int .i64 1))),
 .mk (some 29) none (.mv (.tmp 36))]
 [2,5,7,8,9,28,29])))
def S114_2 : Stmt :=
 .block 5
 (.seq
 (.region
 [.mk (some 79) none (.idx 3 (.tmp 75) (.tmp 77)),
 .mk (some 80) none (.load true 3 (.tmp 79)),
 .mk (some 14) none
 (.alloc true 223
 (.agg (Array.mk [.int .i64 0,.int .i64 0,.int .i64 0]))),
 .mk none none (.store 3 (.tmp 14) (.tmp 80))]
 [2,5,7,8,9,11,12,14,75,76,77])
 (.seq
 (.region
 [.mk (some 81) none (.fld 3 (.tmp 2)),
 .mk (some 82) none (.load false 1 (.tmp 81)),
 .mk (some 83) none (.fld 0 (.tmp 14)),
 .mk (some 84) none (.load false 1 (.tmp 83)),
 .mk (some 85) none (.idx 2 (.tmp 82) (.tmp 84)),
 .mk (some 86) none (.fld 1 (.tmp 85)),
 .mk (some 87) none (.load false 1 (.tmp 86)),
 .mk (some 15) none (.mv (.tmp 87))]
 [2,5,7,8,9,11,12,14,15,75,76,77])
 (.seq
 (.quiet
 [.mk (some 88) none (.fld 1 (.tmp 14)),
 .mk (some 89) none (.load false 1 (.tmp 88)),
 .mk (some 90) none (.mv (.tmp 15)),.mk (some 91) none (.len false (.tmp 90)),
 .mk (some 92) none (.ibin .lss (.tmp 89) (.tmp 91)),
 .mk (some 93) none (.mv (.tmp 92)),
 .mk (some 94) (some (93,true)) (.mv (.tmp 15)),
 .mk (some 95) (some (93,true)) (.fld 1 (.tmp 14)),
 .mk (some 96) (some (93,true)) (.load false 1 (.tmp 95)),
 .mk (some 97) (some (93,true)) (.idx 2 (.tmp 94) (.tmp 96)),
 .mk (some 98) (some (93,true)) (.fld 0 (.tmp 97)),
 .mk (some 99) (some (93,true)) (.load false 1 (.tmp 98)),
 .mk (some 100) (some (93,true)) (.un .not (.tmp 99)),
 .mk (some 101) none (.pick (.tmp 93) (.tmp 100) (.const (.bool false))),
 .mk (some 102) none (.mv (.tmp 101)),
 .mk (some 103) (some (102,true)) (.mv (.tmp 15)),
 .mk (some 104) (some (102,true)) (.fld 1 (.tmp 14)),
 .mk (some 105) (some (102,true)) (.load false 1 (.tmp 104)),
 .mk (some 106) (some (102,true)) (.idx 2 (.tmp 103) (.tmp 105)),
 .mk (some 107) (some (102,true)) (.fld 1 (.tmp 106)),
 .mk (some 108) (some (102,true)) (.load false 1 (.tmp 107)),
 .mk (some 109) (some (102,true)) (.fld 0 (.tmp 12)),
 .mk (some 110) (some (102,true)) (.load false 1 (.tmp 109)),
 .mk (some 111) (some (102,true)) (.ibin .eql (.tmp 108) (.tmp 110)),
 .mk (some 112) none (.pick (.tmp 102) (.tmp 111) (.const (.bool false)))]
 [2,5,7,8,9,11,12,14,75,76,77,112])
 (.cond (.tmp 112)
 (.region
 [.mk (some 113) none (.mv (.tmp 9)),.mk (some 114) none (.fld 0 (.tmp 14)),
 .mk (some 115) none (.load false 1 (.tmp 114)),
 .mk (some 116) none (.fld 1 (.tmp 14)),
 .mk (some 117) none (.load false 1 (.tmp 116)),
 .mk (some 118) none (.ibin .add (.tmp 117) (.const (.int .i64 1))),
 .mk (some 119) none (.fld 2 (.tmp 14)),
 .mk (some 120) none (.load false 1 (.tmp 119)),
 .mk (some 121) none (.fld 2 (.tmp 11)),
 .mk (some 122) none (.load false 1 (.tmp 121)),
 .mk (some 123) none (.ibin .add (.tmp 120) (.tmp 122)),
 .mk (some 124) none
 (.build 223 [.int .i64 0,.int .i64 0,.int .i64 0]
 [(0,1,.tmp 115),(1,1,.tmp 118),(2,1,.tmp 123)]),
 .mk (some 125) none (.call (.tmp 113) [.tmp 124])]
 [2,5,7,8,9,11,12,75,76,77])
 .skip))))
def S114_3 : Stmt :=
 .region
 [.mk (some 126) none (.ibin .add (.tmp 77) (.const (.int .i64 1))),
 .mk (some 77) none (.mv (.tmp 126))]
 [2,5,7,8,9,11,12,75,76,77]
def S114_4 : Stmt :=
 .seq
 (.region [.mk (some 78) none (.ibin .lss (.tmp 77) (.tmp 76))]
 [2,5,7,8,9,11,12,75,76,77,78])
 (.seq (.cond (.tmp 78) .skip (.exit 4))
 (.join S114_2 S114_3 [] [2,5,7,8,9,11,12,75,76,77]))
def S114_5 : Stmt :=
 .seq
 (.quiet
 [.mk (some 57) none (.mv (.tmp 5)),.mk (some 58) none (.fld 0 (.tmp 12)),
 .mk (some 59) none (.load false 1 (.tmp 58)),
 .mk (some 60) none (.idx 1 (.tmp 57) (.tmp 59)),
 .mk (some 61) none (.load false 1 (.tmp 60)),.mk (some 62) none (.fld 2 (.tmp 11)),
 .mk (some 63) none (.load false 1 (.tmp 62)),
 .mk (some 64) none (.idx 1 (.tmp 61) (.tmp 63)),
 .mk (some 65) none (.load false 1 (.tmp 64)),
 .mk (some 66) none (.un .not (.tmp 65))]
 [2,5,7,8,9,11,12,66])
 (.cond (.tmp 66)
 (.seq
 (.drawn
 [(false,.mk (some 67) none (.mv (.tmp 5))),
 (false,.mk (some 68) none (.fld 0 (.tmp 12))),
 (false,.mk (some 69) none (.load false 1 (.tmp 68))),
 (false,.mk (some 70) none (.idx 1 (.tmp 67) (.tmp 69))),
 (false,.mk (some 71) none (.load false 1 (.tmp 70))),
 (false,.mk (some 72) none (.fld 2 (.tmp 11))),
 (false,.mk (some 73) none (.load false 1 (.tmp 72))),
 (false,.mk (some 74) none (.idx 1 (.tmp 71) (.tmp 73))),
 (false,.mk none none (.store 1 (.tmp 74) (.const (.bool true))))]
 [2,5,7,8,9,11,12])
 (.seq
 (.region
 [.mk (some 75) none (.load false 1 (.tmp 7)),
 .mk (some 76) none (.len false (.tmp 75)),
 .mk (some 77) none (.mv (.const (.int .i64 0)))]
 [2,5,7,8,9,11,12,75,76,77])
 (.block 4 (.loop S114_4 [77] [2,5,7,8,9,11,12,75,76]))))
 .skip)
def S114_6 : Stmt :=
 .exit 3
def S114_7 : Stmt :=
 .block 7
 (.seq
 (.region
 [.mk (some 154) none (.mv (.tmp 152)),
 .mk (some 155) none (.idx 1 (.tmp 150) (.tmp 152)),
 .mk (some 156) none (.load false 1 (.tmp 155)),
 .mk (some 17) none (.mv (.tmp 154)),.mk (some 18) none (.mv (.tmp 156))]
 [2,5,7,8,9,11,17,18,150,151,152])
 (.seq
 (.region [.mk (some 157) none (.mv (.tmp 18))] [2,5,7,8,9,11,17,150,151,152,157])
 (.cond (.tmp 157)
 (.region
 [.mk (some 158) none (.mv (.tmp 9)),.mk (some 159) none (.fld 0 (.tmp 11)),
 .mk (some 160) none (.load false 1 (.tmp 159)),
 .mk (some 161) none (.fld 1 (.tmp 11)),
 .mk (some 162) none (.load false 1 (.tmp 161)),
 .mk (some 163) none (.ibin .add (.tmp 162) (.const (.int .i64 1))),
 .mk (some 164) none (.fld 2 (.tmp 11)),
 .mk (some 165) none (.load false 1 (.tmp 164)),
 .mk (some 166) none (.mv (.tmp 17)),
 .mk (some 167) none (.ibin .add (.tmp 165) (.tmp 166)),
 .mk (some 168) none
 (.build 223 [.int .i64 0,.int .i64 0,.int .i64 0]
 [(0,1,.tmp 160),(1,1,.tmp 163),(2,1,.tmp 167)]),
 .mk (some 169) none (.call (.tmp 158) [.tmp 168])]
 [2,5,7,8,9,11,150,151,152])
 .skip)))
def S114_8 : Stmt :=
 .region
 [.mk (some 170) none (.ibin .add (.tmp 152) (.const (.int .i64 1))),
 .mk (some 152) none (.mv (.tmp 170))]
 [2,5,7,8,9,11,150,151,152]
def S114_9 : Stmt :=
 .seq
 (.region [.mk (some 153) none (.ibin .lss (.tmp 152) (.tmp 151))]
 [2,5,7,8,9,11,150,151,152,153])
 (.seq (.cond (.tmp 153) .skip (.exit 6))
 (.join S114_7 S114_8 [] [2,5,7,8,9,11,150,151,152]))
def S114_10 : Stmt :=
 .seq
 (.seq
 (.region
 [.mk (some 37) none (.load false 1 (.tmp 8)),
 .mk (some 38) none (.len false (.tmp 37)),
 .mk (some 39) none (.ibin .gtr (.tmp 38) (.const (.int .i64 0)))]
 [2,5,7,8,9,39])
 (.cond (.tmp 39) .skip (.exit 2)))
 (.block 3
 (.seq
 (.region
 [.mk (some 40) none (.load false 1 (.tmp 8)),
 .mk (some 41) none (.idx 3 (.tmp 40) (.const (.int .i64 0))),
 .mk (some 42) none (.load true 3 (.tmp 41)),
 .mk (some 11) none
 (.alloc true 223
 (.agg (Array.mk [.int .i64 0,.int .i64 0,.int .i64 0]))),
 .mk none none (.store 3 (.tmp 11) (.tmp 42))]
 [2,5,7,8,9,11])
 (.seq
 (.region
 [.mk (some 43) none (.load false 1 (.tmp 8)),
 .mk (some 44) none
 (.slc 3 (.tmp 43) (some (.const (.int .i64 1))) none none),
 .mk none none (.store 1 (.tmp 8) (.tmp 44))]
 [2,5,7,8,9,11])
 (.seq
 (.region
 [.mk (some 45) none (.fld 3 (.tmp 2)),
 .mk (some 46) none (.load false 1 (.tmp 45)),
 .mk (some 47) none (.fld 0 (.tmp 11)),
 .mk (some 48) none (.load false 1 (.tmp 47)),
 .mk (some 49) none (.idx 2 (.tmp 46) (.tmp 48)),
 .mk (some 50) none (.load true 2 (.tmp 49)),
 .mk (some 12) none
 (.alloc true 37 (.agg (Array.mk [.int .i64 0,.slice none 0 0]))),
 .mk none none (.store 2 (.tmp 12) (.tmp 50))]
 [2,5,7,8,9,11,12])
 (.seq
 (.seq
 (.region
 [.mk (some 51) none (.fld 1 (.tmp 11)),
 .mk (some 52) none (.load false 1 (.tmp 51)),
 .mk (some 53) none (.fld 1 (.tmp 12)),
 .mk (some 54) none (.load false 1 (.tmp 53)),
 .mk (some 55) none (.len false (.tmp 54)),
 .mk (some 56) none (.ibin .eql (.tmp 52) (.tmp 55))]
 [2,5,7,8,9,11,12,56])
 (.cond (.tmp 56) (.join S114_5 S114_6 [] [2,5,7,8,9]) .skip))
 (.seq
 (.region
 [.mk (some 127) none (.fld 1 (.tmp 12)),
 .mk (some 128) none (.load false 1 (.tmp 127)),
 .mk (some 129) none (.fld 1 (.tmp 11)),
 .mk (some 130) none (.load false 1 (.tmp 129)),
 .mk (some 131) none (.idx 2 (.tmp 128) (.tmp 130)),
 .mk (some 132) none (.load true 2 (.tmp 131)),
 .mk (some 16) none
 (.alloc true 39 (.agg (Array.mk [.bool false,.int .i64 0]))),
 .mk none none (.store 2 (.tmp 16) (.tmp 132))]
 [2,5,7,8,9,11,16])
 (.seq
 (.seq
 (.region
 [.mk (some 133) none (.fld 0 (.tmp 16)),
 .mk (some 134) none (.load false 1 (.tmp 133))]
 [2,5,7,8,9,11,16,134])
 (.cond (.tmp 134)
 (.seq
 (.region
 [.mk (some 135) none (.mv (.tmp 9)),
 .mk (some 136) none (.fld 0 (.tmp 11)),
 .mk (some 137) none (.load false 1 (.tmp 136)),
 .mk (some 138) none (.fld 1 (.tmp 11)),
 .mk (some 139) none (.load false 1 (.tmp 138)),
 .mk (some 140) none
 (.ibin .add (.tmp 139) (.const (.int .i64 1))),
 .mk (some 141) none (.fld 2 (.tmp 11)),
 .mk (some 142) none (.load false 1 (.tmp 141)),
 .mk (some 143) none
 (.ibin .add (.tmp 142) (.const (.int .i64 1))),
 .mk (some 144) none
 (.build 223 [.int .i64 0,.int .i64 0,.int .i64 0]
 [(0,1,.tmp 137),(1,1,.tmp 140),(2,1,.tmp 143)]),
 .mk (some 145) none (.call (.tmp 135) [.tmp 144])]
 [2,5,7,8,9])
 (.exit 3))
 .skip))
 (.seq
 (.region
 [.mk (some 146) none (.mv (.tmp 5)),
 .mk (some 147) none (.fld 1 (.tmp 16)),
 .mk (some 148) none (.load false 1 (.tmp 147)),
 .mk (some 149) none (.idx 1 (.tmp 146) (.tmp 148)),
 .mk (some 150) none (.load false 1 (.tmp 149)),
 .mk (some 151) none (.len false (.tmp 150)),
 .mk (some 152) none (.mv (.const (.int .i64 0)))]
 [2,5,7,8,9,11,150,151,152])
 (.block 6 (.loop S114_9 [152] [2,5,7,8,9,11,150,151]))))))))))
def S114_0 : Stmt :=
 .seq
 (.region
 [.mk (some 2) none (.box true 57 (.tmp 0)),.mk (some 3) none (.box false 3 (.tmp 1)),
 .mk (some 4) none (.mv (.const (.slice none 0 0)))]
 [2,3])
 (.seq
 (.region
 [.mk (some 19) none (.fld 1 (.tmp 2)),.mk (some 20) none (.load false 1 (.tmp 19)),
 .mk (some 21) none (.load false 1 (.tmp 3)),
 .mk (some 22) none (.ibin .add (.tmp 21) (.const (.int .i64 1))),
 .mk (some 23) none (.call (.func 151) [.tmp 20,.tmp 22]),
 .mk (some 5) none (.mv (.tmp 23))]
 [2,3,5])
 (.seq
 (.region
 [.mk (some 24) none (.n (Qk.mkmap 220) []),
 .mk (some 6) none (.alloc false 220 (.map none)),
 .mk none none (.store 1 (.tmp 6) (.tmp 24))]
 [2,3,5,6])
 (.seq
 (.region
 [.mk (some 7) none (.alloc false 221 (.slice none 0 0)),
 .mk (some 8) none (.alloc false 221 (.slice none 0 0))]
 [2,3,5,6,7,8])
 (.seq
 (.region
 [.mk (some 25) none (.mkFunc 173 [.tmp 3,.tmp 6,.tmp 7,.tmp 8]),
 .mk (some 9) none (.mv (.tmp 25))]
 [2,5,7,8,9])
 (.seq
 (.seq
 (.region
 [.mk (some 26) none (.fld 3 (.tmp 2)),
 .mk (some 27) none (.load false 1 (.tmp 26)),
 .mk (some 28) none (.len false (.tmp 27)),
 .mk (some 29) none (.mv (.const (.int .i64 0)))]
 [2,5,7,8,9,28,29])
 (.block 0 (.loop S114_1 [29] [2,5,7,8,9,28])))
 (.seq (.block 2 (.loop S114_10 [8] [2,5,7,9]))
 (.seq
 (.region
 [.mk (some 171) none (.mv (.tmp 5)),.mk (some 4) none (.mv (.tmp 171))]
 [4])
 .ret)))))))
def S114 : FnS := ⟨172,[(4,none)],S114_0⟩
theorem tr114 : trFn Try.prog 114 [2,11,12,14,16] [[2,3],[2,3,5],[2,3,5,6],[2,3,5,6,7,8],[2,5,7,8,9],[2,5,7,8,9,28,29],[29],[2,5,7,8,9,28],[2,5,7,8,9,28,29,30],[2,5,7,8,9,10,28,29],[2,5,7,8,9,28,29],[2,5,7,8,9,28,29],[8],[2,5,7,9],[2,5,7,8,9,39],[2,5,7,8,9,11],[2,5,7,8,9,11],[2,5,7,8,9,11,12],[2,5,7,8,9,11,12,56],[],[2,5,7,8,9],[2,5,7,8,9,11,12,66],[2,5,7,8,9,11,12],[0,1,2,3,4,5,6,7,8],[],[],[],[1],[0,1,2],[0,1,2,3],[],[5],[0,1,2,3,4,5,6],[0,1,2,3,4,5,6,7],[2,5,7,8,9,11,12,75,76,77],[77],[2,5,7,8,9,11,12,75,76],[2,5,7,8,9,11,12,75,76,77,78],[],[2,5,7,8,9,11,12,75,76,77],[2,5,7,8,9,11,12,14,75,76,77],[2,5,7,8,9,11,12,14,15,75,76,77],[2,5,7,8,9,11,12,14,75,76,77,112],[2,5,7,8,9,11,12,75,76,77],[2,5,7,8,9,11,12,75,76,77],[2,5,7,8,9,11,16],[2,5,7,8,9,11,16,134],[2,5,7,8,9],[2,5,7,8,9,11,150,151,152],[152],[2,5,7,8,9,11,150,151],[2,5,7,8,9,11,150,151,152,153],[],[2,5,7,8,9,11,150,151,152],[2,5,7,8,9,11,17,18,150,151,152],[2,5,7,8,9,11,17,150,151,152,157],[2,5,7,8,9,11,150,151,152],[2,5,7,8,9,11,150,151,152],[4]] = some S114 := by kernel_rfl
end Go.Proofs.Ytniobbepliknmaa.V
namespace Go.Proofs.Ytniobbepliknmaa.V
open Go
set_option linter.unusedVariables false
set_option linter.unusedSimpArgs false
/- Lengths of words, item by item: parlref5.lengthsOf walked; no condition. -/
attribute [local go_sem] e_seq e_region e_quiet e_join e_loop e_cond e_block e_exit e_ret e_skip e_fin e_kseq e_snrm e_sret e_sex e_bnrm e_bret e_bex e_rnrm e_rret e_res e_condC e_nil e_g e_mv g_mv e_pick g_pick pickC_eq e_ibin g_ibin ibinC_eq e_sbin g_sbin e_beq g_beq beqC_eq e_nilq g_nilq nilqC_sl nilqC_pt nilqC_mp e_un g_un unC_not unC_neg e_conv g_conv convC_eq e_fld g_fld fldC_ref fldC_ptr e_nilCheck g_nilCheck nilCheckC_ref nilCheckC_ptr nilCheckC_fun e_field g_field fieldC_eq e_len g_len lenC_sl lenC_str e_extract g_extract extractC_eq e_mkFunc e_build g_build e_idiv g_idiv idivC_eq e_ishift g_ishift ishiftC_eq e_idx g_idx e_idxA g_idxA e_load g_load e_loadB g_loadB atB_ref atB_v g_mkFunc loadC_ref loadC_ptr loadB_eq e_slc g_slc e_box boxC_loc boxC_esc e_alloc allocC_loc allocC_esc e_buildS e_store storeC_ref storeC_ptr storeB_eq e_append e_appz e_mk mkC_eq e_call callC_eq e_fn g_fn fnC_eq fnV_min' fnV_max' fnV_rune' e_q g_q e_a e_n g_call g_box g_alloc g_buildS g_store g_append g_mk g_a g_n g_dead e_dead e_callK e_drawn e_tree e_finJ e_tk e_tfin e_tno e_nbt_q e_nbt_qn e_nbt_a e_nbt_an e_nbt_fin e_drawnB e_bxb_nil e_bxb e_stB_none e_stB_some boxSt_store bs_mv bs_pick bs_ibin bs_idiv bs_ishift bs_sbin bs_beq bs_nilq bs_un bs_conv bs_box bs_alloc bs_build bs_buildS bs_load bs_fld bs_nilCheck bs_idx bs_idxA bs_field bs_slc bs_len bs_append bs_appz bs_mk bs_call bs_extract bs_mkFunc bs_fn bs_q bs_a bs_n bs_loadB bs_dead isBox_box e_early_nil e_early_t e_early_f e_nob_nil e_nob_none e_nob_some isBox_dead isBox_v isBox_ref e_dnil e_dk e_ek e_finB vcOps_vc1 e_dcons e_tq e_ekt e_tearly e_talt e_dearly look_nil look_c proj_nil proj_c looks_nil looks_c zip_nil zip_c val_tmp val_const val_func slv_v slv_box slv_ref slot_tmp slot_const slot_func slotL_v slotL_box slotL_ref put_some put_none updBox_c boxSet_box gd_eq slotVals_nil slotVals_c slotVals_b boxV_box boxOn_box slotsOn_nil slotsOn_c slotsOn_b resV_one resV_two vals_nil vals_c allOn_nil allOn_c partOn_nil partOn_c partVals_nil partVals_c fits_nil fits_c fillL_nil fillL_c mkv_one mkv_agg cellsV_agg cellsV_int cellsV_bool cellsV_slice cellsV_string cellsV_pointer cellsV_func cellsV_nilf cellsV_map one'_nil one'_c oc_int oc_bool oc_slice oc_string oc_pointer oc_func oc_nilf oc_map setC_eq iv_add iv_sub iv_mul iv_eql iv_neq iv_lss iv_leq iv_gtr iv_geq iok_add iok_sub iok_mul iok_eql iok_neq iok_lss iok_leq iok_gtr iok_geq pickV_bool args0_nil args0_c bnd_none bnd_some imp_bt imp_bf imp_ebt imp_ebf imp_eb1 imp_np imp_pp beq_tt beq_tf beq_ft beq_ff cond_or cond_and e_round e_meet Int.le_refl Int.toNat_zero decide_true decide_false Bool.or_false Bool.false_or Bool.true_or Bool.or_true Bool.and_false Bool.false_and Bool.bne_false Bool.bne_true beq_iff_eq Int.cast_ofNat_Int not_false_eq_true not_true_eq_false false_and and_false false_implies true_implies true_and and_true Bool.true_and Bool.and_true Bool.not_true Bool.not_false forall_const implies_true List.take_zero List.drop_zero List.take_succ_cons List.drop_succ_cons List.take_nil List.drop_nil List.length_cons List.length_nil List.nil_append List.append_nil List.cons_append Int.toNat_natCast decide_eq_true_eq decide_eq_false_iff_not cond_true cond_false and_self List.getElem?_cons_zero List.getElem?_cons_succ List.set_cons_zero List.set_cons_succ Option.some.injEq exists_eq_left' Nat.zero_add Nat.add_zero Nat.mul_one imp_self true_or or_true or_false false_or Bool.or_eq_true Bool.or_eq_false_iff Bool.and_eq_true Bool.and_eq_false_iff Bool.not_eq_true' Bool.not_eq_false'

/-- what all was earlier -/
def SnapO (S : Option (Value × List It)) (ra : PH) (va : Value) (all : List It) : Prop := ∀ v0 xs0, S = some (v0, xs0) → Snap ra (lk []) 223 v0 va xs0 all
/-- where the work list, what was seen and what is told lie -/
def WS (S : Option (Value × List It)) (pn pm pa pr bm b3 n : Nat) (gg : PH) (all row : List It) (rows : List (List Bool)) (Γ : Ctx) : Prop := ∃ hm ca ra cr rr cm cn va vr, Γ = [hm, ca, ra, cr, rr, cm, gg, cn] ∧
  MapM hm bm itK Value.bool okIt (mset id all) ∧ ca pa = some (.cells [va].toArray 221 (0, 0)) ∧ Bld ra (lk []) 223 va all ∧ cr pr = some (.cells [vr].toArray 221 (0, 0)) ∧ Bld rr (lk []) 223 vr row ∧
  cm pm = some (.cells [.map (some bm)].toArray 220 (0, 0)) ∧ Grid gg b3 22 4 rows ∧ cn pn = some (.cells [.int .i64 n].toArray 3 (0, 0)) ∧ SnapO S ra va all
/-- what holds of the work list -/
structure WI (g : Gr) (n a : Nat) (all row : List It) (rows : List (List Bool)) : Prop where
  nodup : all.Nodup
  snd : ∀ x ∈ all, ItS g n x
  rin : ∀ x ∈ row, x ∈ all
  len : row.length ≤ all.length
  init : ∀ i : Nat, i < g.rs.length → (⟨i, 0, 0⟩ : It) ∈ all
  told : SoundL g rows
  dim : rows.length = a
  wide : ∀ x ∈ rows, x.length = n + 1
  cl : ∀ x ∈ all, x ∈ row ∨ ItC g n rows all x
theorem WI.bound {g : Gr} {n a : Nat} {all row : List It} {rows : List (List Bool)} (V : VG g) (h : WI g n a all row rows) : all.length ≤ 160 * (n + 1) := by
  have hlen := V.len
  refine items_bound h.nodup fun x hx => ?_
  obtain ⟨h1, h2, h3, h4, r, h5, h6, h7⟩ := h.snd x hx
  have h8 := V.right r (List.mem_of_getElem? h5)
  have h9 := (List.getElem?_eq_some_iff.1 h5).1
  omega
/-- the same while an item is worked on: that one is exempt -/
structure WJ (g : Gr) (n a c : Nat) (x : It) (all row : List It) (rows : List (List Bool)) : Prop where
  nodup : all.Nodup
  snd : ∀ x ∈ all, ItS g n x
  rin : ∀ x ∈ row, x ∈ all
  len : all.length = row.length + c
  init : ∀ i : Nat, i < g.rs.length → (⟨i, 0, 0⟩ : It) ∈ all
  told : SoundL g rows
  dim : rows.length = a
  wide : ∀ x ∈ rows, x.length = n + 1
  cl : ∀ y ∈ all, y ∈ row ∨ y = x ∨ ItC g n rows all y
theorem WJ.bound {g : Gr} {n a c : Nat} {x : It} {all row : List It} {rows : List (List Bool)} (V : VG g) (h : WJ g n a c x all row rows) : all.length ≤ 160 * (n + 1) := by
  have hlen := V.len
  refine items_bound h.nodup fun x hx => ?_
  obtain ⟨h1, h2, h3, h4, r, h5, h6, h7⟩ := h.snd x hx
  have h8 := V.right r (List.mem_of_getElem? h5)
  have h9 := (List.getElem?_eq_some_iff.1 h5).1
  omega
theorem ItC.mono {g : Gr} {n : Nat} {rows : List (List Bool)} {all all' : List It} {x : It} (h : ItC g n rows all x) (hs : ∀ y ∈ all, y ∈ all') : ItC g n rows all' x := fun r hr =>
  ⟨(h r hr).1, fun s hs' => ⟨fun h1 h2 => hs _ (((h r hr).2 s hs').1 h1 h2), fun h1 k h2 h3 => hs _ (((h r hr).2 s hs').2 h1 k h2 h3)⟩⟩
def addA (n : Nat) (all : List It) (y : It) : List It := if y.n ≤ n ∧ y ∉ all then all ++ [y] else all
def addR (n : Nat) (all row : List It) (y : It) : List It := if y.n ≤ n ∧ y ∉ all then row ++ [y] else row
theorem addA_sub {n : Nat} {all : List It} {y : It} : ∀ z ∈ all, z ∈ addA n all y := fun z hz => by unfold addA; split <;> simp [hz]
theorem addA_in {n : Nat} {all : List It} {y : It} (h : y.n ≤ n) : y ∈ addA n all y := by
  unfold addA
  by_cases hy : y ∈ all
  · rw [if_neg (by simp [hy])]; exact hy
  · rw [if_pos ⟨h, hy⟩]; simp
theorem WJ.add {g : Gr} {n a c : Nat} {x : It} {all row : List It} {rows : List (List Bool)} (h : WJ g n a c x all row rows) {y : It} (hy : y.n ≤ n → ItS g n y) : WJ g n a c x (addA n all y) (addR n all row y) rows := by
  have hsub := addA_sub (n := n) (all := all) (y := y)
  by_cases hc : y.n ≤ n ∧ y ∉ all
  · have e1 : addA n all y = all ++ [y] := if_pos hc
    have e2 : addR n all row y = row ++ [y] := if_pos hc
    rw [e1] at hsub
    rw [e1, e2]
    refine ⟨?_, ?_, ?_, by simp [h.len]; omega, fun i hi => hsub _ (h.init i hi), h.told, h.dim, h.wide, ?_⟩
    · rw [List.nodup_append]
      refine ⟨h.nodup, by simp, ?_⟩
      rintro z hz w hw rfl
      simp at hw
      subst hw
      exact hc.2 hz
    · intro z hz
      simp at hz
      rcases hz with hz | rfl
      · exact h.snd z hz
      · exact hy hc.1
    · intro z hz
      simp at hz ⊢
      rcases hz with hz | rfl
      · exact .inl (h.rin z hz)
      · exact .inr rfl
    · intro z hz
      simp at hz
      rcases hz with hz | rfl
      · rcases h.cl z hz with q | q | q
        · exact .inl (by simp [q])
        · exact .inr (.inl q)
        · exact .inr (.inr (q.mono hsub))
      · exact .inl (by simp)
  · have e1 : addA n all y = all := if_neg hc
    have e2 : addR n all row y = row := if_neg hc
    rw [e1, e2]
    exact h
/-- the item is done -/
theorem WJ.done {g : Gr} {n a c : Nat} {x : It} {all row : List It} {rows : List (List Bool)} (h : WJ g n a c x all row rows) (hx : ItC g n rows all x) : WI g n a all row rows :=
  ⟨h.nodup, h.snd, h.rin, by have := h.len; omega, h.init, h.told, h.dim, h.wide, fun y hy => by
    rcases h.cl y hy with q | rfl | q
    · exact .inl q
    · exact .inr hx
    · exact .inr q⟩
theorem call_add {Γr : Ctx} {S : Option (Value × List It)} {pn pm pa pr bm b3 n : Nat} {gg : PH} {all row : List It} {rows : List (List Bool)} {Γ : Ctx} {k : Value → Ctx → Prop} (h : WS S pn pm pa pr bm b3 n gg all row rows Γ) (x : It) (hx : okIt x) (hal : all.length ≤ 1000000) (hrl : row.length ≤ 1000000)
    (hk : ∀ v Γ', WS S pn pm pa pr bm b3 n gg (if x.n ≤ n ∧ x ∉ all then all ++ [x] else all) (if x.n ≤ n ∧ x ∉ all then row ++ [x] else row) rows Γ' → k v Γ') :
    CallVC Try.prog Γr 173 [.agg #[.int .i64 x.r, .int .i64 x.d, .int .i64 x.n], .pointer (some ⟨pn, 0, none⟩), .pointer (some ⟨pm, 0, none⟩), .pointer (some ⟨pa, 0, none⟩), .pointer (some ⟨pr, 0, none⟩)] Γ k := by
  obtain ⟨hm, ca, ra, cr, rr, cm, cn, va, vr, rfl, hM, hca, hra, hcr, hrr, hcm, hG, hcn, hsn⟩ := h
  refine CallVC.perm (Γm := [hm, ca, ra, cr, rr]) (Γf := [cm, gg, cn]) (lens_add (Γr := [cm, gg, cn] ++ Γr) x hx (n := n) ⟨cn, by simp, hcn⟩ ⟨cm, by simp, hcm⟩ hM hca hra hcr hrr hal hrl) (List.Perm.refl _) (List.Sublist.refl _) ?_
  rintro v Γ' ⟨hm', ca', ra', cr', rr', va', vr', rfl, h1, h2, h3, h4, h5, h6⟩
  exact hk _ _ ⟨hm', ca', ra', cr', rr', cm, cn, va', vr', rfl, h1, h2, h3, h4, h5, hcm, hG, hcn, fun v0 xs0 q => h6 v0 xs0 (hsn v0 xs0 q)⟩
theorem ref_lengths {Γr : Ctx} {g : Gr} {A : Option Addr} {c : Nat} (hx : SlOk (lk Γr) A c g.rs) (V : VG g) (n : Nat) (hn : n ≤ 400) :
    Ret Try.prog 114 [.agg #[.int .i64 g.ts, .int .i64 g.ns, .int .i64 g.st, .slice A g.rs.length c], .int .i64 n] Γr [] (fun v Γ => ∃ g' b rows, Γ = [g'] ∧ v = .slice (some ⟨b, 0, none⟩) g.ns.toNat g.ns.toNat ∧ rows.length = g.ns.toNat ∧ Grid g' b 22 4 rows ∧
      ∀ a : Nat, a < rows.length → Tells n (rows.getD a []) (HasD g a)) := by
  generalize hR : (fun (v : Value) (Γ : Ctx) => ∃ g' b rows, _) = R
  refine ret_of_vc tr114 (Nat.le_of_ble_eq_true rfl) ?_
  have hns := V.ns
  obtain ⟨a, ha⟩ : ∃ a : Nat, g.ns = a := ⟨g.ns.toNat, by omega⟩
  have ha10 : a ≤ 10 := by omega
  rw [ha]
  simp -implicitDefEqProofs only [S114, S114_0, go_sem, Nat.reduceBEq, Nat.reduceAdd, Nat.reduceSub, Nat.reduceMul, Nat.reduceLeDiff, reduceCtorEq, ↓reduceIte, Int.reduceLT, Int.reduceLE, Int.reduceEq, Int.reduceNe]
  intro b1 pn
  refine s_ld0 cells_one (by simp) (by simp) ?_
  simp -implicitDefEqProofs only [go_sem, Nat.reduceBEq, Nat.reduceAdd, Nat.reduceSub, Nat.reduceMul, Nat.reduceLeDiff, reduceCtorEq, ↓reduceIte, Int.reduceLT, Int.reduceLE, Int.reduceEq, Int.reduceNe]
  rw [wrap_id (x := (n : Int) + 1) (by omega) (by omega), show (n : Int) + 1 = ((n + 1 : Nat) : Int) by omega]
  refine CallVC.read (grid_bool a (n + 1) (by omega) (by omega)) ?_
  rintro v Γ' ⟨g1, b3, rfl, rfl, hG⟩
  simp -implicitDefEqProofs only [go_sem, Nat.reduceBEq, Nat.reduceAdd, Nat.reduceSub, Nat.reduceMul, Nat.reduceLeDiff, reduceCtorEq, ↓reduceIte, Int.reduceLT, Int.reduceLE, Int.reduceEq, Int.reduceNe]
  refine s_mkmap fun bm => ?_
  simp -implicitDefEqProofs only [go_sem, Nat.reduceBEq, Nat.reduceAdd, Nat.reduceSub, Nat.reduceMul, Nat.reduceLeDiff, reduceCtorEq, ↓reduceIte, Int.reduceLT, Int.reduceLE, Int.reduceEq, Int.reduceNe]
  intro pm
  refine s_storeV (ix := 0) rfl (one_self _ _) rfl rfl ?_
  simp -implicitDefEqProofs only [go_sem, Nat.reduceBEq, Nat.reduceAdd, Nat.reduceSub, Nat.reduceMul, Nat.reduceLeDiff, reduceCtorEq, ↓reduceIte, Int.reduceLT, Int.reduceLE, Int.reduceEq, Int.reduceNe]
  intro pa pr
  refine s_loop (fun f vs Γ => ∃ k : Nat, vs = [.v true (.int .i64 k)] ∧ k + f = g.rs.length ∧ ∃ (l : List It) (gg : PH), l = (List.range k).map (fun i : Nat => (⟨i, 0, 0⟩ : It)) ∧ WS none pn pm pa pr bm b3 n gg l l (List.replicate a (List.replicate (n + 1) false)) Γ) g.rs.length
    (Up.sel [[3], [1], [], [0], [], [2], [4], [5]] (by decide) fun _ _ => ⟨0, rfl, by omega, [], _, rfl, _, _, _, _, _, _, _, _, _, rfl, MapM.new _ _ _ _, ?_, Bld.nil _ _ _, ?_, Bld.nil _ _ _, ?_, ?_, ?_, by intro _ _ h; cases h⟩) ?_
  · exact one_self _ _
  · exact one_self _ _
  · exact upd_self _ _ _
  · exact hG
  · exact one_self _ _
  rintro f vs Γ ⟨k, rfl, hkf, l, gg, hl, hW⟩
  have hlen := V.len
  have hll : l.length = k := by rw [hl]; simp
  simp -implicitDefEqProofs only [S114_1, go_sem, Nat.reduceBEq, Nat.reduceAdd, Nat.reduceSub, Nat.reduceMul, Nat.reduceLeDiff, reduceCtorEq, ↓reduceIte, Int.reduceLT, Int.reduceLE, Int.reduceEq, Int.reduceNe]
  refine ⟨fun hlt => ?_, fun hge => ?_⟩
  · have hk : k < g.rs.length := by omega
    refine call_add hW ⟨k, 0, 0⟩ ⟨rfl, fun x hx => ?_⟩ (by omega) (by omega) ?_
    · simp at hx
      rcases hx with rfl | rfl <;> exact wf64 (by omega) (by omega)
    · intro v Γ' hW'
      have hno : (⟨k, 0, 0⟩ : It) ∉ l := by
        rw [hl]
        simp
        omega
      rw [if_pos ⟨by simp, hno⟩] at hW'
      simp -implicitDefEqProofs only [go_sem, Nat.reduceBEq, Nat.reduceAdd, Nat.reduceSub, Nat.reduceMul, Nat.reduceLeDiff, reduceCtorEq, ↓reduceIte, Int.reduceLT, Int.reduceLE, Int.reduceEq, Int.reduceNe]
      simp (disch := omega) only [wrap_id]
      exact ⟨f - 1, by omega, Up.here ⟨k + 1, rfl, by omega, l ++ [⟨k, 0, 0⟩], gg, by rw [hl, List.range_succ]; simp, hW'⟩⟩
  have hk : k = g.rs.length := by omega
  subst hk
  refine s_loop (fun f vs Γ => ∃ all row rows gg, vs = [.v true (.pointer (some ⟨pr, 0, none⟩))] ∧ f + (all.length - row.length) = 160 * (n + 1) ∧ WS none pn pm pa pr bm b3 n gg all row rows Γ ∧ WI g n a all row rows) (160 * (n + 1))
    (Up.here ⟨l, l, _, gg, rfl, by omega, hW, ⟨?_, ?_, fun x h => h, Nat.le_refl _, ?_, rep_false g _ _, by simp, fun x hx => by rw [List.eq_of_mem_replicate hx]; simp, fun x h => .inl h⟩⟩) ?_
  · rw [hl, List.Nodup, List.pairwise_map]
    exact List.nodup_range.imp fun h e => h (by simp at e; omega)
  · intro x hx
    rw [hl] at hx
    obtain ⟨i, hi, rfl⟩ := List.mem_map.1 hx
    have hi : i < g.rs.length := by simpa using hi
    refine ⟨by simp, by simp, by simp, by simp, g.rs[i], by simp [hi], by simp, ?_⟩
    simpa using LenD.nil
  · intro i hi
    rw [hl]
    exact List.mem_map.2 ⟨i, by simpa using hi, rfl⟩
  rintro f vs Γ ⟨all, row, rows, gg, rfl, hf, hW, hI⟩
  have hbd := hI.bound V
  obtain ⟨hm, ca, ra, cr, rr, cm, cn, va, vr, rfl, hM, hca, hra, hcr, hrr, hcm, hG, hcn, hsn⟩ := id hW
  obtain ⟨A2, c2, rfl⟩ := hrr.val
  simp -implicitDefEqProofs only [S114_10, go_sem, Nat.reduceBEq, Nat.reduceAdd, Nat.reduceSub, Nat.reduceMul, Nat.reduceLeDiff, reduceCtorEq, ↓reduceIte, Int.reduceLT, Int.reduceLE, Int.reduceEq, Int.reduceNe]
  refine s_ld0 (cells_lk ⟨cr, by simp, hcr⟩) (by simp) (by simp) ?_
  simp -implicitDefEqProofs only [go_sem, Nat.reduceBEq, Nat.reduceAdd, Nat.reduceSub, Nat.reduceMul, Nat.reduceLeDiff, reduceCtorEq, ↓reduceIte, Int.reduceLT, Int.reduceLE, Int.reduceEq, Int.reduceNe]
  refine ⟨fun hpos => ?_, fun hz => ?_⟩
  · obtain ⟨x, row', rfl⟩ : ∃ x row', row = x :: row' := by
      cases row with
      | nil => simp at hpos
      | cons x row' => exact ⟨x, row', rfl⟩
    have hsl : SlOk (lk [rr]) A2 c2 (x :: row') := by
      obtain ⟨A', c', e, h⟩ := hrr.slok (L' := lk [rr]) (Mem.le.refl _) (lk_sub (by simp)) (by have := hI.len; omega)
      simp only [Value.slice.injEq, true_and] at e
      obtain ⟨rfl, rfl⟩ := e
      exact h
    obtain ⟨b5, o5, hA5, cs5, hok, hc5⟩ := hsl.get (i := 0) (by simp)
    refine s_ld0 (cells_lk ⟨cr, by simp, hcr⟩) (by simp) (by simp) ?_
    simp -implicitDefEqProofs only [go_sem, Nat.reduceBEq, Nat.reduceAdd, Nat.reduceSub, Nat.reduceMul, Nat.reduceLeDiff, reduceCtorEq, ↓reduceIte, Int.reduceLT, Int.reduceLE, Int.reduceEq, Int.reduceNe]
    refine s_idx hA5 (by omega) (by simp) ?_
    simp -implicitDefEqProofs only [go_sem, Nat.reduceBEq, Nat.reduceAdd, Nat.reduceSub, Nat.reduceMul, Nat.reduceLeDiff, reduceCtorEq, ↓reduceIte, Int.reduceLT, Int.reduceLE, Int.reduceEq, Int.reduceNe]
    have hcs : cs5 = [.int .i64 x.r, .int .i64 x.d, .int .i64 x.n] := hok
    subst hcs
    have hcell : Cells ([hm, ca, ra, cr, rr, cm, gg, cn] ++ Γr) b5 o5 [.int .i64 x.r, .int .i64 x.d, .int .i64 x.n] := by simpa using hc5 _ (lk_sub (by simp))
    refine s_ld0 hcell (by simp) (by simp) ?_
    simp -implicitDefEqProofs only [go_sem, Nat.reduceBEq, Nat.reduceAdd, Nat.reduceSub, Nat.reduceMul, Nat.reduceLeDiff, reduceCtorEq, ↓reduceIte, Int.reduceLT, Int.reduceLE, Int.reduceEq, Int.reduceNe]
    intro b6
    refine s_ld0 (cells_lk ⟨cr, by simp, hcr⟩) (by simp) (by simp) ?_
    simp -implicitDefEqProofs only [go_sem, Nat.reduceBEq, Nat.reduceAdd, Nat.reduceSub, Nat.reduceMul, Nat.reduceLeDiff, reduceCtorEq, ↓reduceIte, Int.reduceLT, Int.reduceLE, Int.reduceEq, Int.reduceNe]
    refine s_lo 1 (by simp -implicitDefEqProofs only [go_sem, Nat.reduceBEq, Nat.reduceAdd, Nat.reduceSub, Nat.reduceMul, Nat.reduceLeDiff, reduceCtorEq, ↓reduceIte, Int.reduceLT, Int.reduceLE, Int.reduceEq, Int.reduceNe]; exact ⟨_, rfl⟩) (by simp) (by simpa using hsl.cap) ?_
    intro A7 hA7
    have hdr := hrr.drop (k := 1) (by simp)
    rw [show (if c2 = 1 then A2 else A2.map (·.add (1 * Rep.sz It))) = A7 from hA7.symm] at hdr
    simp -implicitDefEqProofs only [go_sem, Nat.reduceBEq, Nat.reduceAdd, Nat.reduceSub, Nat.reduceMul, Nat.reduceLeDiff, reduceCtorEq, ↓reduceIte, Int.reduceLT, Int.reduceLE, Int.reduceEq, Int.reduceNe]
    refine s_storeV (ix := 3) rfl hcr rfl rfl ?_
    simp -implicitDefEqProofs only [go_sem, Nat.reduceBEq, Nat.reduceAdd, Nat.reduceSub, Nat.reduceMul, Nat.reduceLeDiff, reduceCtorEq, ↓reduceIte, Int.reduceLT, Int.reduceLE, Int.reduceEq, Int.reduceNe]
    have hW1 : WS none pn pm pa pr bm b3 n gg all row' rows [hm, ca, ra, upd cr pr (.cells [.slice A7 (row'.length + 1 - 1) (c2 - 1)].toArray 221), rr, cm, gg, cn] :=
      ⟨hm, ca, ra, _, rr, cm, cn, _, _, rfl, hM, hca, hra, upd_self _ _ _, hdr, hcm, hG, hcn, hsn⟩
    have hxin : x ∈ all := hI.rin x (by simp)
    obtain ⟨hx1, hx2, hx3, hx4, r, hxr, hxd, hxl⟩ := hI.snd x hxin
    obtain ⟨ri, hri⟩ : ∃ ri : Nat, x.r = ri := ⟨x.r.toNat, by omega⟩
    obtain ⟨di, hdi⟩ : ∃ di : Nat, x.d = di := ⟨x.d.toNat, by omega⟩
    obtain ⟨ni, hni⟩ : ∃ ni : Nat, x.n = ni := ⟨x.n.toNat, by omega⟩
    rw [hri, Int.toNat_natCast] at hxr
    rw [hdi, Int.toNat_natCast] at hxd hxl
    rw [hni, Int.toNat_natCast] at hxl
    have hrig : ri < g.rs.length := (List.getElem?_eq_some_iff.1 hxr).1
    have hre : g.rs[ri] = r := (List.getElem?_eq_some_iff.1 hxr).2
    obtain ⟨b7, o7, hA8, A8, c8, hr8, hc8⟩ := hx.ru hrig
    rw [hre] at hr8 hc8
    generalize [hm, ca, ra, upd cr pr (.cells [.slice A7 (row'.length + 1 - 1) (c2 - 1)].toArray 221), rr, cm, gg, cn] = Γ1 at hW1 ⊢
    rw [hri, hdi, hni]
    refine s_idx hA8 (by omega) (by omega) ?_
    simp -implicitDefEqProofs only [go_sem, Nat.reduceBEq, Nat.reduceAdd, Nat.reduceSub, Nat.reduceMul, Nat.reduceLeDiff, reduceCtorEq, ↓reduceIte, Int.reduceLT, Int.reduceLE, Int.reduceEq, Int.reduceNe]
    refine s_ld0 (hc8 _ (lk_r _ _)) (by simp) (by simp) ?_
    simp -implicitDefEqProofs only [go_sem, Nat.reduceBEq, Nat.reduceAdd, Nat.reduceSub, Nat.reduceMul, Nat.reduceLeDiff, reduceCtorEq, ↓reduceIte, Int.reduceLT, Int.reduceLE, Int.reduceEq, Int.reduceNe]
    intro b8
    refine ⟨fun hend => ?_, fun hnend => ?_⟩
    · have hdl : di = r.r.length := by omega
      subst hdl
      have hlr := hI.len
      simp only [List.length_cons] at hlr hf
      have hrm : r ∈ g.rs := List.mem_of_getElem? hxr
      have hr4 := V.right r hrm
      have hlf := V.left r hrm
      have hhas : HasD g r.l ni := ⟨r, hrm, rfl, by simpa using hxl⟩
      have hJ : WJ g n a (all.length - row'.length) x all row' rows := ⟨hI.nodup, hI.snd, fun z hz => hI.rin z (by simp [hz]), by omega, hI.init, hI.told, hI.dim, hI.wide, fun z hz => by
        rcases hI.cl z hz with q | q
        · simp at q
          rcases q with rfl | q
          · exact .inr (.inl rfl)
          · exact .inl q
        · exact .inr (.inr q)⟩
      obtain ⟨sn, hsn⟩ : ∃ sn : Nat, r.l = sn := ⟨r.l.toNat, by omega⟩
      have hsa : sn < rows.length := by rw [hI.dim]; omega
      have hwd : rows[sn].length = n + 1 := hI.wide _ (List.getElem_mem hsa)
      have hni1 : ni < rows[sn].length := by omega
      obtain ⟨kb, hcell, hArr, hput⟩ := hG.at' hsa (by omega)
      have hggin : ∀ {S al rw' rows Γ}, WS S pn pm pa pr bm b3 n gg al rw' rows Γ → gg ∈ Γ := fun h => by
        obtain ⟨hm, ca, ra, cr, rr, cm, cn, va, vr, rfl, _⟩ := h
        simp
      rw [hsn]
      refine s_split ?_
      simp -implicitDefEqProofs only [S114_5, S114_6, go_sem, Nat.reduceBEq, Nat.reduceAdd, Nat.reduceSub, Nat.reduceMul, Nat.reduceLeDiff, reduceCtorEq, ↓reduceIte, Int.reduceLT, Int.reduceLE, Int.reduceEq, Int.reduceNe]
      refine s_idx rfl (by omega) (by have := hI.dim; omega) ?_
      simp -implicitDefEqProofs only [go_sem, Nat.reduceBEq, Nat.reduceAdd, Nat.reduceSub, Nat.reduceMul, Nat.reduceLeDiff, reduceCtorEq, ↓reduceIte, Int.reduceLT, Int.reduceLE, Int.reduceEq, Int.reduceNe]
      refine s_ld0 (hcell _ (by simp [hggin hW1])) (by simp) (by simp) ?_
      simp -implicitDefEqProofs only [go_sem, Nat.reduceBEq, Nat.reduceAdd, Nat.reduceSub, Nat.reduceMul, Nat.reduceLeDiff, reduceCtorEq, ↓reduceIte, Int.reduceLT, Int.reduceLE, Int.reduceEq, Int.reduceNe]
      refine s_idx rfl (by omega) (by omega) ?_
      simp -implicitDefEqProofs only [go_sem, Nat.reduceBEq, Nat.reduceAdd, Nat.reduceSub, Nat.reduceMul, Nat.reduceLeDiff, reduceCtorEq, ↓reduceIte, Int.reduceLT, Int.reduceLE, Int.reduceEq, Int.reduceNe]
      refine s_ld0 (hArr.bool hni1 (by simp [hggin hW1])) (by simp) (by simp) ?_
      simp -implicitDefEqProofs only [go_sem, Nat.reduceBEq, Nat.reduceAdd, Nat.reduceSub, Nat.reduceMul, Nat.reduceLeDiff, reduceCtorEq, ↓reduceIte, Int.reduceLT, Int.reduceLE, Int.reduceEq, Int.reduceNe]
      refine ⟨fun hno => ?_, fun hyes => ?_⟩
      · refine s_idx rfl (by omega) (by have := hI.dim; omega) ?_
        simp -implicitDefEqProofs only [go_sem, Nat.reduceBEq, Nat.reduceAdd, Nat.reduceSub, Nat.reduceMul, Nat.reduceLeDiff, reduceCtorEq, ↓reduceIte, Int.reduceLT, Int.reduceLE, Int.reduceEq, Int.reduceNe]
        refine s_ld0 (hcell _ (by simp [hggin hW1])) (by simp) (by simp) ?_
        simp -implicitDefEqProofs only [go_sem, Nat.reduceBEq, Nat.reduceAdd, Nat.reduceSub, Nat.reduceMul, Nat.reduceLeDiff, reduceCtorEq, ↓reduceIte, Int.reduceLT, Int.reduceLE, Int.reduceEq, Int.reduceNe]
        refine s_idx rfl (by omega) (by omega) ?_
        simp -implicitDefEqProofs only [go_sem, Nat.reduceBEq, Nat.reduceAdd, Nat.reduceSub, Nat.reduceMul, Nat.reduceLeDiff, reduceCtorEq, ↓reduceIte, Int.reduceLT, Int.reduceLE, Int.reduceEq, Int.reduceNe]
        obtain ⟨hm, ca, ra, cr, rr, cm, cn, va, vr, rfl, hM, hca, hra, hcr, hrr, hcm, hG1, hcn, _⟩ := hW1
        obtain ⟨Aa, caa, rfl⟩ := hra.val
        refine s_storeA (ix := 6) true rfl hArr hni1 ?_
        intro g9 hA9 ho9
        have hG9 := hput g9 _ hA9 (by simp) ho9
        simp -implicitDefEqProofs only [go_sem, Nat.reduceBEq, Nat.reduceAdd, Nat.reduceSub, Nat.reduceMul, Nat.reduceLeDiff, reduceCtorEq, ↓reduceIte, Int.reduceLT, Int.reduceLE, Int.reduceEq, Int.reduceNe]
        refine s_ld0 (cells_lk ⟨ca, by simp, hca⟩) (by simp) (by simp) ?_
        simp -implicitDefEqProofs only [go_sem, Nat.reduceBEq, Nat.reduceAdd, Nat.reduceSub, Nat.reduceMul, Nat.reduceLeDiff, reduceCtorEq, ↓reduceIte, Int.reduceLT, Int.reduceLE, Int.reduceEq, Int.reduceNe]
        refine s_loop (fun f2 vs Γ => ∃ (all2 row2 : List It) (k : Nat), vs = [.v true (.int .i64 k)] ∧ k + f2 = all.length ∧ WS (some (.slice Aa all.length caa, all)) pn pm pa pr bm b3 n g9 all2 row2 (rows.set sn (rows[sn].set ni true)) Γ ∧ WJ g n a (all.length - row'.length) x all2 row2 rows ∧ (∀ y ∈ all2, y ∈ all ∨ y ∈ row2) ∧
          (∀ (j : Nat) (hj : j < all.length), j < k → ∀ q, g.rs[all[j].r.toNat]? = some q → ∀ s, q.r[all[j].d.toNat]? = some s → s.t = false → s.n = sn → all[j].n + ni ≤ n → (⟨all[j].r, all[j].d + 1, all[j].n + ni⟩ : It) ∈ all2)) all.length
          (Up.here ⟨all, row', 0, rfl, by omega, ⟨hm, ca, ra, cr, rr, cm, cn, _, _, rfl, hM, hca, hra, hcr, hrr, hcm, hG9, hcn, fun v0 xs0 e => ?_⟩, hJ, fun y hy => .inl hy, by intro j _ h; omega⟩) ?_
        · simp only [Option.some.injEq, Prod.mk.injEq] at e
          obtain ⟨rfl, rfl⟩ := e
          exact Snap.refl hra
        rintro f2 vs Γ ⟨all2, row2, k, rfl, hkf2, hW2, hJ2, hfrom, hdone⟩
        simp -implicitDefEqProofs only [S114_4, go_sem, Nat.reduceBEq, Nat.reduceAdd, Nat.reduceSub, Nat.reduceMul, Nat.reduceLeDiff, reduceCtorEq, ↓reduceIte, Int.reduceLT, Int.reduceLE, Int.reduceEq, Int.reduceNe]
        refine ⟨fun hlt => ?_, fun hge => ?_⟩
        · refine s_split ?_
          simp -implicitDefEqProofs only [S114_2, S114_3, go_sem, Nat.reduceBEq, Nat.reduceAdd, Nat.reduceSub, Nat.reduceMul, Nat.reduceLeDiff, reduceCtorEq, ↓reduceIte, Int.reduceLT, Int.reduceLE, Int.reduceEq, Int.reduceNe]
          have hk : k < all.length := by omega
          have hslG : SlOk (lk Γ) Aa caa all := by
            obtain ⟨hm, ca, ra, cr, rr, cm, cn, va, vr, rfl, _, _, _, _, _, _, _, _, hsn2⟩ := hW2
            obtain ⟨A', c', e, h⟩ := (hsn2 _ _ rfl).old.slok (L' := lk [hm, ca, ra, cr, rr, cm, g9, cn]) (lk_sub (by simp)) (lk_sub (by simp)) (by omega)
            simp only [Value.slice.injEq, true_and] at e
            obtain ⟨rfl, rfl⟩ := e
            exact h
          obtain ⟨b9, o9, hA9', cs9, hok9, hc9⟩ := hslG.get hk
          have hcs9 : cs9 = [.int .i64 all[k].r, .int .i64 all[k].d, .int .i64 all[k].n] := hok9
          subst hcs9
          refine s_idx hA9' (by omega) (by omega) ?_
          simp -implicitDefEqProofs only [go_sem, Nat.reduceBEq, Nat.reduceAdd, Nat.reduceSub, Nat.reduceMul, Nat.reduceLeDiff, reduceCtorEq, ↓reduceIte, Int.reduceLT, Int.reduceLE, Int.reduceEq, Int.reduceNe]
          refine s_ld0 (hc9 _ (lk_l _ _)) (by simp) (by simp) ?_
          simp -implicitDefEqProofs only [go_sem, Nat.reduceBEq, Nat.reduceAdd, Nat.reduceSub, Nat.reduceMul, Nat.reduceLeDiff, reduceCtorEq, ↓reduceIte, Int.reduceLT, Int.reduceLE, Int.reduceEq, Int.reduceNe]
          intro b11
          obtain ⟨hy1, hy2, hy3, hy4, q, hyq, hyd, hyl⟩ := hI.snd _ (List.getElem_mem hk)
          have hstep : ∀ all3 : List It, (∀ z ∈ all2, z ∈ all3) → (∀ q, g.rs[all[k].r.toNat]? = some q → ∀ s, q.r[all[k].d.toNat]? = some s → s.t = false → s.n = sn → all[k].n + ni ≤ n → (⟨all[k].r, all[k].d + 1, all[k].n + ni⟩ : It) ∈ all3) →
              ∀ (j : Nat) (hj : j < all.length), j < k + 1 → ∀ q, g.rs[all[j].r.toNat]? = some q → ∀ s, q.r[all[j].d.toNat]? = some s → s.t = false → s.n = sn → all[j].n + ni ≤ n → (⟨all[j].r, all[j].d + 1, all[j].n + ni⟩ : It) ∈ all3 := by
            intro all3 h1 h2 j hj hjk
            by_cases e : j = k
            · subst e; exact h2
            · intro q' a1 s a2 a3 a4 a5; exact h1 _ (hdone j hj (by omega) q' a1 s a2 a3 a4 a5)
          generalize all[k] = y at *
          obtain ⟨yr, hyr⟩ : ∃ m : Nat, y.r = m := ⟨y.r.toNat, by omega⟩
          obtain ⟨yd, hydd⟩ : ∃ m : Nat, y.d = m := ⟨y.d.toNat, by omega⟩
          obtain ⟨yn, hyn⟩ : ∃ m : Nat, y.n = m := ⟨y.n.toNat, by omega⟩
          rw [hyr, Int.toNat_natCast] at hyq
          rw [hydd, Int.toNat_natCast] at hyd hyl
          rw [hyn, Int.toNat_natCast] at hyl
          rw [hyr, hydd, hyn] at hstep
          simp only [Int.toNat_natCast] at hstep
          have hyrg : yr < g.rs.length := (List.getElem?_eq_some_iff.1 hyq).1
          have hqe : g.rs[yr] = q := (List.getElem?_eq_some_iff.1 hyq).2
          have hqm : q ∈ g.rs := List.mem_of_getElem? hyq
          have hq4 := V.right q hqm
          obtain ⟨b12, o12, hA12, A12, c12, hr12, hc12⟩ := hx.ru hyrg
          rw [hqe] at hr12 hc12
          rw [hyr, hydd, hyn]
          refine s_idx hA12 (by omega) (by omega) ?_
          simp -implicitDefEqProofs only [go_sem, Nat.reduceBEq, Nat.reduceAdd, Nat.reduceSub, Nat.reduceMul, Nat.reduceLeDiff, reduceCtorEq, ↓reduceIte, Int.reduceLT, Int.reduceLE, Int.reduceEq, Int.reduceNe]
          refine s_ld (j := 1) (hc12 _ (lk_r _ _)) (by simp) (by simp) ?_
          simp -implicitDefEqProofs only [go_sem, Nat.reduceBEq, Nat.reduceAdd, Nat.reduceSub, Nat.reduceMul, Nat.reduceLeDiff, reduceCtorEq, ↓reduceIte, Int.reduceLT, Int.reduceLE, Int.reduceEq, Int.reduceNe]
          by_cases hlt2 : yd < q.r.length
          · have e1 : decide ((yd : Int) < (q.r.length : Int)) = true := by simpa using hlt2
            simp only [e1]
            simp -implicitDefEqProofs only [go_sem, Nat.reduceBEq, Nat.reduceAdd, Nat.reduceSub, Nat.reduceMul, Nat.reduceLeDiff, reduceCtorEq, ↓reduceIte, Int.reduceLT, Int.reduceLE, Int.reduceEq, Int.reduceNe]
            obtain ⟨b13, o13, hA13, hc13⟩ := hr12.sy hlt2
            refine s_idx hA13 (by omega) (by omega) ?_
            simp -implicitDefEqProofs only [go_sem, Nat.reduceBEq, Nat.reduceAdd, Nat.reduceSub, Nat.reduceMul, Nat.reduceLeDiff, reduceCtorEq, ↓reduceIte, Int.reduceLT, Int.reduceLE, Int.reduceEq, Int.reduceNe]
            refine s_ld0 (hc13 _ (lk_r _ _)) (by simp) (by simp) ?_
            cases ht : q.r[yd].t with
            | true =>
              simp -implicitDefEqProofs only [go_sem, Nat.reduceBEq, Nat.reduceAdd, Nat.reduceSub, Nat.reduceMul, Nat.reduceLeDiff, reduceCtorEq, ↓reduceIte, Int.reduceLT, Int.reduceLE, Int.reduceEq, Int.reduceNe]
              refine s_idxg (b := 0) (o := 0) (by simp) ?_
              simp -implicitDefEqProofs only [go_sem, Nat.reduceBEq, Nat.reduceAdd, Nat.reduceSub, Nat.reduceMul, Nat.reduceLeDiff, reduceCtorEq, ↓reduceIte, Int.reduceLT, Int.reduceLE, Int.reduceEq, Int.reduceNe]
              refine s_ldg0 (cs := [.int .i64 0]) (by simp) (by simp) (by simp) (by simp) ?_
              simp -implicitDefEqProofs only [go_sem, Nat.reduceBEq, Nat.reduceAdd, Nat.reduceSub, Nat.reduceMul, Nat.reduceLeDiff, reduceCtorEq, ↓reduceIte, Int.reduceLT, Int.reduceLE, Int.reduceEq, Int.reduceNe]
              simp (disch := omega) only [wrap_id]
              refine Up.here ⟨f2 - 1, by omega, Up.here ⟨all2, row2, k + 1, rfl, by omega, hW2, hJ2, hfrom, hstep all2 (fun z hz => hz) fun q' hq' s hs1 hs2 hs3 => ?_⟩⟩
              rw [hyq] at hq'
              cases hq'
              rw [List.getElem?_eq_getElem hlt2] at hs1
              cases hs1
              rw [ht] at hs2
              cases hs2
            | false =>
              simp -implicitDefEqProofs only [go_sem, Nat.reduceBEq, Nat.reduceAdd, Nat.reduceSub, Nat.reduceMul, Nat.reduceLeDiff, reduceCtorEq, ↓reduceIte, Int.reduceLT, Int.reduceLE, Int.reduceEq, Int.reduceNe]
              refine s_idx hA13 (by omega) (by omega) ?_
              simp -implicitDefEqProofs only [go_sem, Nat.reduceBEq, Nat.reduceAdd, Nat.reduceSub, Nat.reduceMul, Nat.reduceLeDiff, reduceCtorEq, ↓reduceIte, Int.reduceLT, Int.reduceLE, Int.reduceEq, Int.reduceNe]
              refine s_ld (j := 1) (hc13 _ (lk_r _ _)) (by simp) (by simp) ?_
              simp -implicitDefEqProofs only [go_sem, Nat.reduceBEq, Nat.reduceAdd, Nat.reduceSub, Nat.reduceMul, Nat.reduceLeDiff, reduceCtorEq, ↓reduceIte, Int.reduceLT, Int.reduceLE, Int.reduceEq, Int.reduceNe]
              refine ⟨fun heq => ?_, fun hne => ?_⟩
              · have hb2 := hJ2.bound V
                have hl2 := hJ2.len
                simp (disch := omega) only [wrap_id]
                refine call_add hW2 ⟨yr, (yd : Int) + 1, (yn : Int) + ni⟩ ⟨rfl, fun z hz => ?_⟩ (by omega) (by omega) ?_
                · simp at hz
                  rcases hz with rfl | rfl | rfl <;> exact wf64 (by omega) (by omega)
                · intro v Γ' hW'
                  have hadd := hJ2.add (y := ⟨yr, (yd : Int) + 1, (yn : Int) + ni⟩) (fun hle => by
                    refine ⟨by simp, by simp; omega, by simp; omega, hle, q, by simpa using hyq, by simp; omega, ?_⟩
                    have := hyl.snocN (a := q.r[yd].n) (j := ni) (by rw [heq, ← hsn]; exact hhas)
                    have e : q.r[yd] = ⟨false, q.r[yd].n⟩ := by rw [← ht]
                    rw [← e, ← List.take_succ_eq_append_getElem hlt2] at this
                    rw [show ((yn : Int) + ni).toNat = yn + ni by omega]
                    simpa using this)
                  simp -implicitDefEqProofs only [go_sem, Nat.reduceBEq, Nat.reduceAdd, Nat.reduceSub, Nat.reduceMul, Nat.reduceLeDiff, reduceCtorEq, ↓reduceIte, Int.reduceLT, Int.reduceLE, Int.reduceEq, Int.reduceNe]
                  refine Up.here ⟨f2 - 1, by omega, Up.here ⟨_, _, k + 1, rfl, by omega, hW', hadd, fun z hz => ?_, hstep _ addA_sub fun q' hq' s hs1 hs2 hs3 hle => addA_in hle⟩⟩
                  unfold addA at hz
                  by_cases hc : (yn : Int) + ni ≤ n ∧ (⟨yr, (yd : Int) + 1, (yn : Int) + ni⟩ : It) ∉ all2
                  · rw [if_pos hc] at hz ⊢
                    rcases List.mem_append.1 hz with hz | hz
                    · rcases hfrom z hz with q1 | q1
                      · exact .inl q1
                      · exact .inr (by simp [q1])
                    · exact .inr (by simp at hz; simp [hz])
                  · rw [if_neg hc] at hz ⊢
                    exact hfrom z hz
              · simp (disch := omega) only [wrap_id]
                refine Up.here ⟨f2 - 1, by omega, Up.here ⟨all2, row2, k + 1, rfl, by omega, hW2, hJ2, hfrom, hstep all2 (fun z hz => hz) fun q' hq' s hs1 hs2 hs3 => ?_⟩⟩
                rw [hyq] at hq'
                cases hq'
                rw [List.getElem?_eq_getElem hlt2] at hs1
                cases hs1
                exact absurd hs3 hne
          · have e1 : decide ((yd : Int) < (q.r.length : Int)) = false := by simpa using hlt2
            simp only [e1]
            simp -implicitDefEqProofs only [go_sem, Nat.reduceBEq, Nat.reduceAdd, Nat.reduceSub, Nat.reduceMul, Nat.reduceLeDiff, reduceCtorEq, ↓reduceIte, Int.reduceLT, Int.reduceLE, Int.reduceEq, Int.reduceNe]
            refine s_idxg (b := 0) (o := 0) (by simp) ?_
            simp -implicitDefEqProofs only [go_sem, Nat.reduceBEq, Nat.reduceAdd, Nat.reduceSub, Nat.reduceMul, Nat.reduceLeDiff, reduceCtorEq, ↓reduceIte, Int.reduceLT, Int.reduceLE, Int.reduceEq, Int.reduceNe]
            refine s_ldg0 (cs := [.bool false]) (by simp) (by simp) (by simp) (by simp) ?_
            simp -implicitDefEqProofs only [go_sem, Nat.reduceBEq, Nat.reduceAdd, Nat.reduceSub, Nat.reduceMul, Nat.reduceLeDiff, reduceCtorEq, ↓reduceIte, Int.reduceLT, Int.reduceLE, Int.reduceEq, Int.reduceNe]
            refine s_idxg (b := 0) (o := 0) (by simp) ?_
            simp -implicitDefEqProofs only [go_sem, Nat.reduceBEq, Nat.reduceAdd, Nat.reduceSub, Nat.reduceMul, Nat.reduceLeDiff, reduceCtorEq, ↓reduceIte, Int.reduceLT, Int.reduceLE, Int.reduceEq, Int.reduceNe]
            refine s_ldg0 (cs := [.int .i64 0]) (by simp) (by simp) (by simp) (by simp) ?_
            simp -implicitDefEqProofs only [go_sem, Nat.reduceBEq, Nat.reduceAdd, Nat.reduceSub, Nat.reduceMul, Nat.reduceLeDiff, reduceCtorEq, ↓reduceIte, Int.reduceLT, Int.reduceLE, Int.reduceEq, Int.reduceNe]
            simp (disch := omega) only [wrap_id]
            refine Up.here ⟨f2 - 1, by omega, Up.here ⟨all2, row2, k + 1, rfl, by omega, hW2, hJ2, hfrom, hstep all2 (fun z hz => hz) fun q' hq' s hs1 hs2 hs3 => ?_⟩⟩
            rw [hyq] at hq'
            cases hq'
            rw [List.getElem?_eq_none (by omega)] at hs1
            cases hs1
        · have hk : k = all.length := by omega
          have hl2 := hJ2.len
          have hW3 : WS none pn pm pa pr bm b3 n g9 all2 row2 (rows.set sn (rows[sn].set ni true)) Γ := by
            obtain ⟨hm, ca, ra, cr, rr, cm, cn, va, vr, q1, q2, q3, q4, q5, q6, q7, q8, q9, _⟩ := hW2
            exact ⟨hm, ca, ra, cr, rr, cm, cn, va, vr, q1, q2, q3, q4, q5, q6, q7, q8, q9, by intro _ _ h; cases h⟩
          have htold : ∀ b j, toldL (rows.set sn (rows[sn].set ni true)) b j → toldL rows b j ∨ (b.toNat = sn ∧ j = ni) := by
            intro b j h
            by_cases e : b.toNat = sn ∧ j = ni
            · exact .inr e
            · refine .inl ?_
              unfold toldL at h ⊢
              by_cases e1 : sn = b.toNat
              · subst e1
                have e2 : ¬ ni = j := fun q => e ⟨rfl, q.symm⟩
                simpa [List.getD_eq_getElem?_getD, hsa, List.getElem?_set, e2] using h
              · simpa [List.getD_eq_getElem?_getD, List.getElem?_set, e1] using h
          have hup : ∀ b j, toldL rows b j → toldL (rows.set sn (rows[sn].set ni true)) b j := by
            intro b j h
            unfold toldL at h ⊢
            by_cases e1 : sn = b.toNat
            · subst e1
              by_cases e2 : ni = j
              · subst e2
                simp [hsa, hni1]
              · simpa [List.getD_eq_getElem?_getD, hsa, List.getElem?_set, e2] using h
            · simpa [List.getD_eq_getElem?_getD, List.getElem?_set, e1] using h
          refine Up.here ⟨f - 1, by omega, Up.here ⟨all2, row2, _, g9, by omega, hW3, hJ2.nodup, hJ2.snd, hJ2.rin, by omega, hJ2.init, sound_set hI.told hsa (by rw [← hsn]; exact hhas), by simpa using hI.dim, fun z hz => ?_, fun y hy => ?_⟩⟩
          · rcases List.mem_or_eq_of_mem_set hz with h | h
            · exact hI.wide z h
            · rw [h]; simpa using hwd
          · rcases hJ2.cl y hy with q | q | q
            · exact .inl q
            · refine .inr fun r' hr' => ?_
              have er : r' = r := by rw [q, hri] at hr'; simpa [hxr] using hr'.symm
              subst er
              rw [q, hdi, hni]
              simp only [Int.toNat_natCast]
              refine ⟨fun _ => ?_, fun s hs => ?_⟩
              · simp [toldL, hsn, hsa, hni1]
              · rw [List.getElem?_eq_none (by omega)] at hs
                cases hs
            · rcases hfrom y hy with hya | hya
              · refine .inr fun r' hr' => ⟨fun h => hup _ _ ((q r' hr').1 h), fun s hs => ⟨((q r' hr').2 s hs).1, fun h1 k' h2 h3 => ?_⟩⟩
                rcases htold _ _ h2 with h4 | ⟨h4, rfl⟩
                · exact ((q r' hr').2 s hs).2 h1 k' h4 h3
                · obtain ⟨j, hj, rfl⟩ := List.getElem_of_mem hya
                  have hs0 := (V.sym r' (List.mem_of_getElem? hr') s (List.mem_of_getElem? hs)).1
                  exact hdone j hj (by omega) r' hr' s hs h1 (by omega) h3
              · exact .inl hya
      · refine Up.here ⟨f - 1, by omega, Up.here ⟨all, row', rows, gg, by omega, hW1, hJ.done fun r' hr' => ?_⟩⟩
        have er : r' = r := by rw [hri] at hr'; simpa [hxr] using hr'.symm
        subst er
        rw [hdi, hni]
        simp only [Int.toNat_natCast]
        refine ⟨fun _ => ?_, fun s hs => ?_⟩
        · simp [toldL, hsn, hsa, hni1, hyes]
        · rw [List.getElem?_eq_none (by omega)] at hs
          cases hs
    · have hdl : di < r.r.length := by omega
      obtain ⟨b9, o9, hA9, hc9⟩ := hr8.sy hdl
      refine s_idx hA9 (by omega) (by omega) ?_
      simp -implicitDefEqProofs only [go_sem, Nat.reduceBEq, Nat.reduceAdd, Nat.reduceSub, Nat.reduceMul, Nat.reduceLeDiff, reduceCtorEq, ↓reduceIte, Int.reduceLT, Int.reduceLE, Int.reduceEq, Int.reduceNe]
      refine s_ld0 (hc9 _ (lk_r _ _)) (by simp) (by simp) ?_
      simp -implicitDefEqProofs only [go_sem, Nat.reduceBEq, Nat.reduceAdd, Nat.reduceSub, Nat.reduceMul, Nat.reduceLeDiff, reduceCtorEq, ↓reduceIte, Int.reduceLT, Int.reduceLE, Int.reduceEq, Int.reduceNe]
      have hlr := hI.len
      simp only [List.length_cons] at hlr hf
      have hJ : WJ g n a (all.length - row'.length) x all row' rows := ⟨hI.nodup, hI.snd, fun z hz => hI.rin z (by simp [hz]), by omega, hI.init, hI.told, hI.dim, hI.wide, fun z hz => by
        rcases hI.cl z hz with q | q
        · simp at q
          rcases q with rfl | q
          · exact .inr (.inl rfl)
          · exact .inl q
        · exact .inr (.inr q)⟩
      have hrm : r ∈ g.rs := List.mem_of_getElem? hxr
      have hr4 := V.right r hrm
      intro b10
      simp (disch := omega) only [wrap_id]
      refine ⟨fun ht => ?_, fun ht => ?_⟩
      · refine call_add hW1 ⟨ri, di + 1, ni + 1⟩ ⟨rfl, fun z hz => ?_⟩ (by omega) (by omega) ?_
        · simp at hz
          rcases hz with rfl | rfl | rfl <;> exact wf64 (by omega) (by omega)
        · intro v Γ' hW'
          have hadd := hJ.add (y := ⟨ri, di + 1, ni + 1⟩) (fun hle => by
            refine ⟨by simp, by simp; omega, by simp; omega, hle, r, by simpa using hxr, by simp; omega, ?_⟩
            have := hxl.snocT (n := r.r[di].n)
            have e : r.r[di] = ⟨true, r.r[di].n⟩ := by rw [← ht]
            rw [← e, ← List.take_succ_eq_append_getElem hdl] at this
            simpa using this)
          have hal := hadd.len
          simp -implicitDefEqProofs only [go_sem, Nat.reduceBEq, Nat.reduceAdd, Nat.reduceSub, Nat.reduceMul, Nat.reduceLeDiff, reduceCtorEq, ↓reduceIte, Int.reduceLT, Int.reduceLE, Int.reduceEq, Int.reduceNe]
          refine ⟨f - 1, by omega, Up.here ⟨_, _, rows, gg, ?_, hW', hadd.done fun r' hr' => ?_⟩⟩
          · show f - 1 + ((addA n all _).length - (addR n all row' _).length) = _
            omega
          · have er : r' = r := by rw [hri] at hr'; simpa [hxr] using hr'.symm
            subst er
            rw [hdi, Int.toNat_natCast]
            refine ⟨fun q => by omega, fun s hs => ?_⟩
            have es : s = r'.r[di] := by rw [List.getElem?_eq_getElem hdl] at hs; simpa using hs.symm
            subst es
            refine ⟨fun _ hle => ?_, fun q => by rw [ht] at q; cases q⟩
            rw [hri, hdi, hni] at *
            exact addA_in (by simpa using hle)
      · have hsy := V.sym r hrm r.r[di] (List.getElem_mem hdl)
        obtain ⟨sn, hsn⟩ : ∃ sn : Nat, r.r[di].n = sn := ⟨r.r[di].n.toNat, by omega⟩
        have hsa : sn < rows.length := by have := hsy.2.2 ht; rw [hI.dim]; omega
        rw [hsn]
        have hwd : rows[sn].length = n + 1 := hI.wide _ (List.getElem_mem hsa)
        obtain ⟨kb, hcell, hArr, _⟩ := hG.at' hsa (by omega)
        have hggin : ∀ {al rw' Γ}, WS none pn pm pa pr bm b3 n gg al rw' rows Γ → gg ∈ Γ := fun h => by
          obtain ⟨hm, ca, ra, cr, rr, cm, cn, va, vr, rfl, _⟩ := h
          simp
        refine s_idx rfl (by omega) (by have := hI.dim; omega) ?_
        simp -implicitDefEqProofs only [go_sem, Nat.reduceBEq, Nat.reduceAdd, Nat.reduceSub, Nat.reduceMul, Nat.reduceLeDiff, reduceCtorEq, ↓reduceIte, Int.reduceLT, Int.reduceLE, Int.reduceEq, Int.reduceNe]
        refine s_ld0 (hcell _ (by simp [hggin hW1])) (by simp) (by simp) ?_
        simp -implicitDefEqProofs only [go_sem, Nat.reduceBEq, Nat.reduceAdd, Nat.reduceSub, Nat.reduceMul, Nat.reduceLeDiff, reduceCtorEq, ↓reduceIte, Int.reduceLT, Int.reduceLE, Int.reduceEq, Int.reduceNe]
        refine s_loop (fun f2 vs Γ => ∃ (all2 row2 : List It) (k : Nat), vs = [.v true (.int .i64 k)] ∧ k + f2 = n + 1 ∧ WS none pn pm pa pr bm b3 n gg all2 row2 rows Γ ∧ WJ g n a (all.length - row'.length) x all2 row2 rows ∧
          (∀ k' : Nat, k' < k → toldL rows sn k' → (ni : Int) + k' ≤ n → (⟨ri, di + 1, (ni : Int) + k'⟩ : It) ∈ all2)) (n + 1) (Up.here ⟨all, row', 0, rfl, by omega, hW1, hJ, by intro k' h; omega⟩) ?_
        rintro f2 vs Γ ⟨all2, row2, k, rfl, hkf2, hW2, hJ2, hdone⟩
        simp -implicitDefEqProofs only [S114_9, go_sem, Nat.reduceBEq, Nat.reduceAdd, Nat.reduceSub, Nat.reduceMul, Nat.reduceLeDiff, reduceCtorEq, ↓reduceIte, Int.reduceLT, Int.reduceLE, Int.reduceEq, Int.reduceNe]
        refine ⟨fun hlt => ?_, fun hge => ?_⟩
        · refine s_split ?_
          simp -implicitDefEqProofs only [S114_7, S114_8, go_sem, Nat.reduceBEq, Nat.reduceAdd, Nat.reduceSub, Nat.reduceMul, Nat.reduceLeDiff, reduceCtorEq, ↓reduceIte, Int.reduceLT, Int.reduceLE, Int.reduceEq, Int.reduceNe]
          refine s_idx rfl (by omega) (by omega) ?_
          simp -implicitDefEqProofs only [go_sem, Nat.reduceBEq, Nat.reduceAdd, Nat.reduceSub, Nat.reduceMul, Nat.reduceLeDiff, reduceCtorEq, ↓reduceIte, Int.reduceLT, Int.reduceLE, Int.reduceEq, Int.reduceNe]
          have hkr : k < rows[sn].length := by omega
          refine s_ld0 (hArr.bool hkr (by simp [hggin hW2])) (by simp) (by simp) ?_
          simp -implicitDefEqProofs only [go_sem, Nat.reduceBEq, Nat.reduceAdd, Nat.reduceSub, Nat.reduceMul, Nat.reduceLeDiff, reduceCtorEq, ↓reduceIte, Int.reduceLT, Int.reduceLE, Int.reduceEq, Int.reduceNe]
          simp (disch := omega) only [wrap_id]
          refine ⟨fun htl => ?_, fun htl => ?_⟩
          · have hb2 := hJ2.bound V
            have hl2 := hJ2.len
            refine call_add hW2 ⟨ri, di + 1, (ni : Int) + k⟩ ⟨rfl, fun z hz => ?_⟩ (by omega) (by omega) ?_
            · simp at hz
              rcases hz with rfl | rfl | rfl <;> exact wf64 (by omega) (by omega)
            · intro v Γ' hW'
              have hadd := hJ2.add (y := ⟨ri, di + 1, (ni : Int) + k⟩) (fun hle => by
                refine ⟨by simp, by simp; omega, by simp; omega, hle, r, by simpa using hxr, by simp; omega, ?_⟩
                have := hxl.snocN (a := r.r[di].n) (j := k) (by rw [hsn]; exact hJ2.told sn k (by simp [hsa, hkr, htl]))
                have e : r.r[di] = ⟨false, r.r[di].n⟩ := by rw [← ht]
                rw [← e, ← List.take_succ_eq_append_getElem hdl] at this
                rw [show ((ni : Int) + k).toNat = ni + k by omega]
                simpa using this)
              simp -implicitDefEqProofs only [go_sem, Nat.reduceBEq, Nat.reduceAdd, Nat.reduceSub, Nat.reduceMul, Nat.reduceLeDiff, reduceCtorEq, ↓reduceIte, Int.reduceLT, Int.reduceLE, Int.reduceEq, Int.reduceNe]
              refine Up.here ⟨f2 - 1, by omega, Up.here ⟨_, _, k + 1, rfl, by omega, hW', hadd, fun k' hk' ht' hle => ?_⟩⟩
              by_cases e : k' = k
              · subst e
                exact addA_in hle
              · exact addA_sub _ (hdone k' (by omega) ht' hle)
          · refine Up.here ⟨f2 - 1, by omega, Up.here ⟨all2, row2, k + 1, rfl, by omega, hW2, hJ2, fun k' hk' ht' hle => ?_⟩⟩
            by_cases e : k' = k
            · subst e
              simp [toldL, hsa, hkr, htl] at ht'
            · exact hdone k' (by omega) ht' hle
        · have hl2 := hJ2.len
          refine ⟨f - 1, by omega, Up.here ⟨all2, row2, rows, gg, by omega, hW2, hJ2.done fun r' hr' => ?_⟩⟩
          have er : r' = r := by rw [hri] at hr'; simpa [hxr] using hr'.symm
          subst er
          rw [hdi, Int.toNat_natCast]
          refine ⟨fun q => by omega, fun s hs => ?_⟩
          have es : s = r'.r[di] := by rw [List.getElem?_eq_getElem hdl] at hs; simpa using hs.symm
          subst es
          refine ⟨fun q => (by rw [ht] at q; cases q), fun _ k' htl hle => ?_⟩
          rw [hsn] at htl
          rw [hri, hni] at *
          refine hdone k' ?_ htl hle
          rcases Nat.lt_or_ge k' k with q | q
          · exact q
          · have hk1 : k' < n + 1 := by omega
            omega
  · have hrow : row = [] := List.eq_nil_of_length_eq_zero (by omega)
    subst hrow
    have hcl : ∀ x ∈ all, ItC g n rows all x := fun x hx => (hI.cl x hx).resolve_left (by simp)
    refine Up.sel [[6]] (by decide) fun _ _ => ?_
    subst hR
    have hag : g.ns.toNat = a := by omega
    rw [hag]
    refine ⟨_, b3, rows, rfl, rfl, hI.dim, hG, fun b hb => ?_⟩
    have hw := hI.wide _ (List.getElem_mem hb)
    rw [show rows.getD b [] = rows[b] by simp [hb]]
    refine ⟨hw, fun m hm => ⟨fun h => hI.told b m (by simp [hb, hm, h]), fun h => ?_⟩⟩
    have := work_told hI.init hcl (a := (b : Int)) (k := m) (by omega) h
    simpa [toldL, hb, hm] using this
end Go.Proofs.Ytniobbepliknmaa.V
/- The text of parlance/parlref5.Listed as a statement (slots: 0 g, 1 n, 2 most, 3 deep, 4 g, 5 n, 6 most, 7 deep, 10 l); no condition. -/
namespace Go.Proofs.Ytniobbepliknmaa.V
open Go
def S102_0 : Stmt :=
 .seq
 (.region
 [.mk (some 4) none (.box true 57 (.tmp 0)),
 .mk (some 8) none (.mv (.const (.slice none 0 0))),
 .mk (some 9) none (.mv (.const (.bool false)))]
 [1,2,3,4])
 (.seq
 (.drawn
 [(true,.mk (some 11) none (.load true 4 (.tmp 4))),
 (false,.mk (some 12) none (.load true 4 (.tmp 4))),
 (false,.mk (some 13) none (.mv (.tmp 1))),
 (false,.mk (some 15) none (.mv (.tmp 2))),
 (false,.mk (some 14) none (.call (.func 114) [.tmp 12,.tmp 13])),
 (false,
 .mk (some 16) none
 (.build 216
 [.int .i64 0,.int .i64 0,.int .i64 0,.slice none 0 0,
 .slice none 0 0,.int .i64 0]
 [(0,4,.tmp 11),(4,1,.tmp 14),(5,1,.tmp 15)])),
 (false,.mk (some 17) none (.box false 216 (.tmp 16))),
 (false,.mk (some 10) none (.mv (.tmp 17)))]
 [1,3,4,10])
 (.seq
 (.region
 [.mk (some 18) none (.mv (.tmp 10)),.mk (some 19) none (.fld 2 (.tmp 4)),
 .mk (some 20) none (.load false 1 (.tmp 19)),
 .mk (some 21) none (.build 39 [.bool false,.int .i64 0] [(1,1,.tmp 20)]),
 .mk (some 22) none (.mv (.tmp 1)),.mk (some 23) none (.mv (.tmp 3)),
 .mk (some 24) none
 (.call (.func 167) [.tmp 18,.tmp 21,.tmp 22,.tmp 23]),
 .mk (some 25) none (.extract 0 (.tmp 24)),
 .mk (some 26) none (.extract 1 (.tmp 24)),.mk (some 8) none (.mv (.tmp 25)),
 .mk (some 9) none (.mv (.tmp 26))]
 [8,9])
 .ret))
def S102 : FnS := ⟨27,[(8,none),(9,none)],S102_0⟩
theorem tr102 : trFn Try.prog 102 [4] [[1,2,3,4],[1,3,4,10],[0,1,2,4,3,5,6,7],[0],[],[],[],[1,2],[],[0,1,2,3,4],[0,1,2,3,4,5],[0,1,2,3,4,5,6],[8,9]] = some S102 := by kernel_rfl
end Go.Proofs.Ytniobbepliknmaa.V
namespace Go.Proofs.Ytniobbepliknmaa.V
open Go
set_option linter.unusedVariables false
set_option linter.unusedSimpArgs false
/- parlref5.Listed walked; no condition. -/
attribute [local go_sem] e_seq e_region e_quiet e_join e_loop e_cond e_block e_exit e_ret e_skip e_fin e_kseq e_snrm e_sret e_sex e_bnrm e_bret e_bex e_rnrm e_rret e_res e_condC e_nil e_g e_mv g_mv e_pick g_pick pickC_eq e_ibin g_ibin ibinC_eq e_sbin g_sbin e_beq g_beq beqC_eq e_nilq g_nilq nilqC_sl nilqC_pt nilqC_mp e_un g_un unC_not unC_neg e_conv g_conv convC_eq e_fld g_fld fldC_ref fldC_ptr e_nilCheck g_nilCheck nilCheckC_ref nilCheckC_ptr nilCheckC_fun e_field g_field fieldC_eq e_len g_len lenC_sl lenC_str e_extract g_extract extractC_eq e_mkFunc e_build g_build e_idiv g_idiv idivC_eq e_ishift g_ishift ishiftC_eq e_idx g_idx e_idxA g_idxA e_load g_load e_loadB g_loadB atB_ref atB_v g_mkFunc loadC_ref loadC_ptr loadB_eq e_slc g_slc e_box boxC_loc boxC_esc e_alloc allocC_loc allocC_esc e_buildS e_store storeC_ref storeC_ptr storeB_eq e_append e_appz e_mk mkC_eq e_call callC_eq e_fn g_fn fnC_eq fnV_min' fnV_max' fnV_rune' e_q g_q e_a e_n g_call g_box g_alloc g_buildS g_store g_append g_mk g_a g_n g_dead e_dead e_callK e_drawn e_tree e_finJ e_tk e_tfin e_tno e_nbt_q e_nbt_qn e_nbt_a e_nbt_an e_nbt_fin e_drawnB e_bxb_nil e_bxb e_stB_none e_stB_some boxSt_store bs_mv bs_pick bs_ibin bs_idiv bs_ishift bs_sbin bs_beq bs_nilq bs_un bs_conv bs_box bs_alloc bs_build bs_buildS bs_load bs_fld bs_nilCheck bs_idx bs_idxA bs_field bs_slc bs_len bs_append bs_appz bs_mk bs_call bs_extract bs_mkFunc bs_fn bs_q bs_a bs_n bs_loadB bs_dead isBox_box e_early_nil e_early_t e_early_f e_nob_nil e_nob_none e_nob_some isBox_dead isBox_v isBox_ref e_dnil e_dk e_ek e_finB vcOps_vc1 e_dcons e_tq e_ekt e_tearly e_talt e_dearly look_nil look_c proj_nil proj_c looks_nil looks_c zip_nil zip_c val_tmp val_const val_func slv_v slv_box slv_ref slot_tmp slot_const slot_func slotL_v slotL_box slotL_ref put_some put_none updBox_c boxSet_box gd_eq slotVals_nil slotVals_c slotVals_b boxV_box boxOn_box slotsOn_nil slotsOn_c slotsOn_b resV_one resV_two vals_nil vals_c allOn_nil allOn_c partOn_nil partOn_c partVals_nil partVals_c fits_nil fits_c fillL_nil fillL_c mkv_one mkv_agg cellsV_agg cellsV_int cellsV_bool cellsV_slice cellsV_string cellsV_pointer cellsV_func cellsV_nilf cellsV_map one'_nil one'_c oc_int oc_bool oc_slice oc_string oc_pointer oc_func oc_nilf oc_map setC_eq iv_add iv_sub iv_mul iv_eql iv_neq iv_lss iv_leq iv_gtr iv_geq iok_add iok_sub iok_mul iok_eql iok_neq iok_lss iok_leq iok_gtr iok_geq pickV_bool args0_nil args0_c bnd_none bnd_some imp_bt imp_bf imp_ebt imp_ebf imp_eb1 imp_np imp_pp beq_tt beq_tf beq_ft beq_ff cond_or cond_and e_round e_meet Int.le_refl Int.toNat_zero decide_true decide_false Bool.or_false Bool.false_or Bool.true_or Bool.or_true Bool.and_false Bool.false_and Bool.bne_false Bool.bne_true beq_iff_eq Int.cast_ofNat_Int not_false_eq_true not_true_eq_false false_and and_false false_implies true_implies true_and and_true Bool.true_and Bool.and_true Bool.not_true Bool.not_false forall_const implies_true List.take_zero List.drop_zero List.take_succ_cons List.drop_succ_cons List.take_nil List.drop_nil List.length_cons List.length_nil List.nil_append List.append_nil List.cons_append Int.toNat_natCast decide_eq_true_eq decide_eq_false_iff_not cond_true cond_false and_self List.getElem?_cons_zero List.getElem?_cons_succ List.set_cons_zero List.set_cons_succ Option.some.injEq exists_eq_left' Nat.zero_add Nat.add_zero Nat.mul_one imp_self true_or or_true or_false false_or Bool.or_eq_true Bool.or_eq_false_iff Bool.and_eq_true Bool.and_eq_false_iff Bool.not_eq_true' Bool.not_eq_false'

theorem ref_listed {Γr : Ctx} {g : Gr} {R : Option Addr} {cR : Nat} (hx : SlOk (lk Γr) R cR g.rs) (V : VG g) {n most deep : Nat} (hn : n ≤ 400) (hm : most ≤ 1000) (hd : deep ≤ 1000) :
    Ret Try.prog 102 [.agg #[.int .i64 g.ts, .int .i64 g.ns, .int .i64 g.st, .slice R g.rs.length cR], .int .i64 (n : Int), .int .i64 (most : Int), .int .i64 (deep : Int)] Γr [] (TrsQ g ⟨false, g.st⟩ n deep most) := by
  generalize hR : TrsQ g ⟨false, g.st⟩ n deep most = R'
  refine ret_of_vc tr102 (Nat.le_of_ble_eq_true rfl) ?_
  have hst := V.st
  simp -implicitDefEqProofs only [S102, S102_0, go_sem, Nat.reduceBEq, Nat.reduceAdd, Nat.reduceSub, Nat.reduceMul, Nat.reduceLeDiff, reduceCtorEq, ↓reduceIte, Int.reduceLT, Int.reduceLE, Int.reduceEq, Int.reduceNe]
  intro bg
  refine s_drawn [] [] (Ent.refl _) ?_
  simp -implicitDefEqProofs only [go_sem, Nat.reduceBEq, Nat.reduceAdd, Nat.reduceSub, Nat.reduceMul, Nat.reduceLeDiff, reduceCtorEq, ↓reduceIte, Int.reduceLT, Int.reduceLE, Int.reduceEq, Int.reduceNe]
  refine CallVC.read (ref_lengths (hx.mono (lk_sub (by simp))) V n hn) ?_
  rintro v Γ' ⟨gc, bc, rows, rfl, rfl, hrl, hG, htell⟩
  simp -implicitDefEqProofs only [go_sem, Nat.reduceBEq, Nat.reduceAdd, Nat.reduceSub, Nat.reduceMul, Nat.reduceLeDiff, reduceCtorEq, ↓reduceIte, Int.reduceLT, Int.reduceLE, Int.reduceEq, Int.reduceNe]
  intro b
  have hS := hG.slok (L := lk [one b (.cells (lsC g R cR bc most).toArray 216), gc]) (lk_sub (by simp))
  rw [hrl] at hS
  have hB : LsK (lk ([one b (.cells (lsC g R cR bc most).toArray 216), gc] ++ Γr)) b g n R cR bc most rows := ⟨⟨_, List.mem_cons_self .., one_self _ _⟩, hx.mono (lk_r _ Γr), hS.mono (lk_l _ Γr), hrl, htell⟩
  refine CallVC.read (lister_trees V hn hm deep hd (s := ⟨false, g.st⟩) (Nat.le_refl n) (fun _ => hst) hB) ?_
  rintro v Γ' (⟨rfl, rfl⟩ | ⟨gt, A, c, out, rfl, rfl, hSo, hol, hout⟩)
  · simp -implicitDefEqProofs only [go_sem, Nat.reduceBEq, Nat.reduceAdd, Nat.reduceSub, Nat.reduceMul, Nat.reduceLeDiff, reduceCtorEq, ↓reduceIte, Int.reduceLT, Int.reduceLE, Int.reduceEq, Int.reduceNe]
    refine Up.to [] (Ent.nil _) ?_
    subst hR
    exact .inl ⟨rfl, rfl⟩
  · simp -implicitDefEqProofs only [go_sem, Nat.reduceBEq, Nat.reduceAdd, Nat.reduceSub, Nat.reduceMul, Nat.reduceLeDiff, reduceCtorEq, ↓reduceIte, Int.reduceLT, Int.reduceLE, Int.reduceEq, Int.reduceNe]
    refine Up.sel [[0]] (by decide) fun _ _ => ?_
    subst hR
    exact .inr ⟨gt, A, c, out, rfl, rfl, hSo, hol, hout⟩
end Go.Proofs.Ytniobbepliknmaa.V
/- The text of parlance/tree.rules as a statement (slots: 0 out, 1 t, 2 out, 3 t, 5 _, 6 k); no condition. -/
namespace Go.Proofs.Ytniobbepliknmaa.V
open Go
def S168_1 : Stmt :=
 .seq
 (.region [.mk (some 19) none (.ibin .lss (.tmp 18) (.tmp 17))] [0,16,17,18,19])
 (.seq (.cond (.tmp 19) .skip (.exit 0))
 (.seq
 (.block 1
 (.seq
 (.region
 [.mk (some 20) none (.idx 3 (.tmp 16) (.tmp 18)),
 .mk (some 21) none (.load true 3 (.tmp 20)),
 .mk (some 6) none
 (.alloc true 106
 (.agg (Array.mk [.int .i64 0,.int .i64 0,.slice none 0 0]))),
 .mk none none (.store 3 (.tmp 6) (.tmp 21))]
 [0,6,16,17,18])
 (.region
 [.mk (some 22) none (.mv (.tmp 0)),
 .mk (some 23) none (.load true 3 (.tmp 6)),
 .mk (some 24) none (.call (.func 168) [.tmp 22,.tmp 23]),
 .mk (some 0) none (.mv (.tmp 24))]
 [0,16,17,18])))
 (.region
 [.mk (some 25) none (.ibin .add (.tmp 18) (.const (.int .i64 1))),
 .mk (some 18) none (.mv (.tmp 25))]
 [0,16,17,18])))
def S168_0 : Stmt :=
 .seq
 (.region
 [.mk (some 3) none (.box true 106 (.tmp 1)),
 .mk (some 4) none (.mv (.const (.slice none 0 0)))]
 [0,3])
 (.seq
 (.region
 [.mk (some 7) none (.mv (.tmp 0)),.mk (some 8) none (.fld 0 (.tmp 3)),
 .mk (some 9) none (.load false 1 (.tmp 8)),
 .mk (some 10) none (.buildS 3 1 [.int .i64 0] [(0,1,.tmp 9)]),
 .mk (some 11) none (.append 29 3 1 8 (.int .i64 0) (.tmp 7) (.tmp 10)),
 .mk (some 0) none (.mv (.tmp 11))]
 [0,3])
 (.seq
 (.seq
 (.region
 [.mk (some 12) none (.load true 3 (.tmp 3)),
 .mk (some 13) none (.call (.func 139) [.tmp 12])]
 [0,3,13])
 (.cond (.tmp 13)
 (.seq
 (.region
 [.mk (some 14) none (.mv (.tmp 0)),.mk (some 4) none (.mv (.tmp 14))] [4])
 .ret)
 .skip))
 (.seq
 (.seq
 (.region
 [.mk (some 15) none (.fld 2 (.tmp 3)),
 .mk (some 16) none (.load false 1 (.tmp 15)),
 .mk (some 17) none (.len false (.tmp 16)),
 .mk (some 18) none (.mv (.const (.int .i64 0)))]
 [0,16,17,18])
 (.block 0 (.loop S168_1 [0,18] [16,17])))
 (.seq
 (.region
 [.mk (some 26) none (.mv (.tmp 0)),.mk (some 4) none (.mv (.tmp 26))] [4])
 .ret))))
def S168 : FnS := ⟨27,[(4,none)],S168_0⟩
theorem tr168 : trFn Try.prog 168 [3,6] [[0,3],[0,3],[0,3,13],[4],[0,16,17,18],[0,18],[16,17],[0,16,17,18,19],[0,6,16,17,18],[0,16,17,18],[0,16,17,18],[4]] = some S168 := by kernel_rfl
end Go.Proofs.Ytniobbepliknmaa.V
/- The text of parlance/tree.Compare as a statement (slots: 0 a, 1 b, 2 a, 3 b, 5 c, 6 c); no condition. -/
namespace Go.Proofs.Ytniobbepliknmaa.V
open Go
def S103_0 : Stmt :=
 .seq
 (.region
 [.mk (some 2) none (.box true 106 (.tmp 0)),
 .mk (some 3) none (.box true 106 (.tmp 1)),
 .mk (some 4) none (.mv (.const (.int .i64 0)))]
 [2,3])
 (.seq
 (.seq
 (.drawn
 [(false,.mk (some 7) none (.load true 3 (.tmp 2))),
 (true,.mk (some 9) none (.load true 3 (.tmp 3))),
 (false,.mk (some 8) none (.call (.func 67) [.tmp 7])),
 (false,.mk (some 10) none (.call (.func 67) [.tmp 9])),
 (false,.mk (some 11) none (.call (.func 105) [.tmp 8,.tmp 10])),
 (false,.mk (some 5) none (.mv (.tmp 11)))]
 [2,3,5])
 (.seq
 (.region
 [.mk (some 12) none (.mv (.tmp 5)),
 .mk (some 13) none (.ibin .neq (.tmp 12) (.const (.int .i64 0)))]
 [2,3,5,13])
 (.cond (.tmp 13)
 (.seq
 (.region
 [.mk (some 14) none (.mv (.tmp 5)),.mk (some 4) none (.mv (.tmp 14))] [4])
 .ret)
 .skip)))
 (.seq
 (.seq
 (.drawn
 [(false,.mk (some 15) none (.load true 3 (.tmp 2))),
 (true,.mk (some 17) none (.load true 3 (.tmp 3))),
 (false,
 .mk (some 16) none
 (.call (.func 168) [.const (.slice none 0 0),.tmp 15])),
 (false,
 .mk (some 18) none
 (.call (.func 168) [.const (.slice none 0 0),.tmp 17])),
 (false,.mk (some 19) none (.call (.func 26) [.tmp 16,.tmp 18])),
 (false,.mk (some 6) none (.mv (.tmp 19)))]
 [2,3,6])
 (.seq
 (.region
 [.mk (some 20) none (.mv (.tmp 6)),
 .mk (some 21) none (.ibin .neq (.tmp 20) (.const (.int .i64 0)))]
 [2,3,6,21])
 (.cond (.tmp 21)
 (.seq
 (.region
 [.mk (some 22) none (.mv (.tmp 6)),.mk (some 4) none (.mv (.tmp 22))]
 [4])
 .ret)
 .skip)))
 (.seq
 (.drawn
 [(false,.mk (some 23) none (.load true 3 (.tmp 2))),
 (true,.mk (some 25) none (.load true 3 (.tmp 3))),
 (false,.mk (some 24) none (.call (.func 100) [.tmp 23])),
 (false,.mk (some 26) none (.call (.func 100) [.tmp 25])),
 (false,.mk (some 27) none (.call (.func 26) [.tmp 24,.tmp 26])),
 (false,.mk (some 4) none (.mv (.tmp 27)))]
 [4])
 .ret)))
def S103 : FnS := ⟨28,[(4,none)],S103_0⟩
theorem tr103 : trFn Try.prog 103 [2,3] [[2,3],[2,3,5],[0,2,1,3,4,5],[2],[],[0],[],[0,1,2],[0,1,2,3],[0,1,2,3,4],[2,3,5,13],[4],[2,3,6],[0,2,1,3,4,5],[2],[],[0],[],[0,1,2],[0,1,2,3],[0,1,2,3,4],[2,3,6,21],[4],[4],[0,2,1,3,4,5],[2],[],[0],[],[0,1,2],[0,1,2,3],[0,1,2,3,4]] = some S103 := by kernel_rfl
end Go.Proofs.Ytniobbepliknmaa.V
namespace Go.Proofs.Ytniobbepliknmaa.V
open Go
set_option linter.unusedVariables false
set_option linter.unusedSimpArgs false
/- Trees compared: tree.rules, tree.Compare of a tree with itself; no condition. -/
attribute [local go_sem] e_seq e_region e_quiet e_join e_loop e_cond e_block e_exit e_ret e_skip e_fin e_kseq e_snrm e_sret e_sex e_bnrm e_bret e_bex e_rnrm e_rret e_res e_condC e_nil e_g e_mv g_mv e_pick g_pick pickC_eq e_ibin g_ibin ibinC_eq e_sbin g_sbin e_beq g_beq beqC_eq e_nilq g_nilq nilqC_sl nilqC_pt nilqC_mp e_un g_un unC_not unC_neg e_conv g_conv convC_eq e_fld g_fld fldC_ref fldC_ptr e_nilCheck g_nilCheck nilCheckC_ref nilCheckC_ptr nilCheckC_fun e_field g_field fieldC_eq e_len g_len lenC_sl lenC_str e_extract g_extract extractC_eq e_mkFunc e_build g_build e_idiv g_idiv idivC_eq e_ishift g_ishift ishiftC_eq e_idx g_idx e_idxA g_idxA e_load g_load e_loadB g_loadB atB_ref atB_v g_mkFunc loadC_ref loadC_ptr loadB_eq e_slc g_slc e_box boxC_loc boxC_esc e_alloc allocC_loc allocC_esc e_buildS e_store storeC_ref storeC_ptr storeB_eq e_append e_appz e_mk mkC_eq e_call callC_eq e_fn g_fn fnC_eq fnV_min' fnV_max' fnV_rune' e_q g_q e_a e_n g_call g_box g_alloc g_buildS g_store g_append g_mk g_a g_n g_dead e_dead e_callK e_drawn e_tree e_finJ e_tk e_tfin e_tno e_nbt_q e_nbt_qn e_nbt_a e_nbt_an e_nbt_fin e_drawnB e_bxb_nil e_bxb e_stB_none e_stB_some boxSt_store bs_mv bs_pick bs_ibin bs_idiv bs_ishift bs_sbin bs_beq bs_nilq bs_un bs_conv bs_box bs_alloc bs_build bs_buildS bs_load bs_fld bs_nilCheck bs_idx bs_idxA bs_field bs_slc bs_len bs_append bs_appz bs_mk bs_call bs_extract bs_mkFunc bs_fn bs_q bs_a bs_n bs_loadB bs_dead isBox_box e_early_nil e_early_t e_early_f e_nob_nil e_nob_none e_nob_some isBox_dead isBox_v isBox_ref e_dnil e_dk e_ek e_finB vcOps_vc1 e_dcons e_tq e_ekt e_tearly e_talt e_dearly look_nil look_c proj_nil proj_c looks_nil looks_c zip_nil zip_c val_tmp val_const val_func slv_v slv_box slv_ref slot_tmp slot_const slot_func slotL_v slotL_box slotL_ref put_some put_none updBox_c boxSet_box gd_eq slotVals_nil slotVals_c slotVals_b boxV_box boxOn_box slotsOn_nil slotsOn_c slotsOn_b resV_one resV_two vals_nil vals_c allOn_nil allOn_c partOn_nil partOn_c partVals_nil partVals_c fits_nil fits_c fillL_nil fillL_c mkv_one mkv_agg cellsV_agg cellsV_int cellsV_bool cellsV_slice cellsV_string cellsV_pointer cellsV_func cellsV_nilf cellsV_map one'_nil one'_c oc_int oc_bool oc_slice oc_string oc_pointer oc_func oc_nilf oc_map setC_eq iv_add iv_sub iv_mul iv_eql iv_neq iv_lss iv_leq iv_gtr iv_geq iok_add iok_sub iok_mul iok_eql iok_neq iok_lss iok_leq iok_gtr iok_geq pickV_bool args0_nil args0_c bnd_none bnd_some imp_bt imp_bf imp_ebt imp_ebf imp_eb1 imp_np imp_pp beq_tt beq_tf beq_ft beq_ff cond_or cond_and e_round e_meet Int.le_refl Int.toNat_zero decide_true decide_false Bool.or_false Bool.false_or Bool.true_or Bool.or_true Bool.and_false Bool.false_and Bool.bne_false Bool.bne_true beq_iff_eq Int.cast_ofNat_Int not_false_eq_true not_true_eq_false false_and and_false false_implies true_implies true_and and_true Bool.true_and Bool.and_true Bool.not_true Bool.not_false forall_const implies_true List.take_zero List.drop_zero List.take_succ_cons List.drop_succ_cons List.take_nil List.drop_nil List.length_cons List.length_nil List.nil_append List.append_nil List.cons_append Int.toNat_natCast decide_eq_true_eq decide_eq_false_iff_not cond_true cond_false and_self List.getElem?_cons_zero List.getElem?_cons_succ List.set_cons_zero List.set_cons_succ Option.some.injEq exists_eq_left' Nat.zero_add Nat.add_zero Nat.mul_one imp_self true_or or_true or_false false_or Bool.or_eq_true Bool.or_eq_false_iff Bool.and_eq_true Bool.and_eq_false_iff Bool.not_eq_true' Bool.not_eq_false'

mutual
/-- the rules of a tree in preorder -/
def rlT : Tr → List Int
  | ⟨r, t, ks⟩ => r :: (if r = -1 then [] else rlL ks)
def rlL : List Tr → List Int
  | [] => []
  | k :: ks => rlT k ++ rlL ks
end
theorem rlT_eq (x : Tr) : rlT x = x.rule :: (if x.rule = -1 then [] else rlL x.kids) := by
  cases x
  simp only [rlT, Tr.rule, Tr.kids]
  congr
theorem rlL_append (a b : List Tr) : rlL (a ++ b) = rlL a ++ rlL b := by
  induction a with
  | nil => simp [rlL]
  | cons k a ih => simp only [List.cons_append, rlL, ih, List.append_assoc]
theorem rlL_le {ks : List Tr} (h : ∀ k ∈ ks, (rlT k).length ≤ numT k) : (rlL ks).length ≤ numL ks := by
  induction ks with
  | nil => simp [rlL, numL]
  | cons k ks ih =>
    have := h k (by simp)
    have := ih fun x hx => h x (by simp [hx])
    simp only [rlL, numL, List.length_append]
    omega
theorem rlT_le (x : Tr) : (rlT x).length ≤ numT x := by
  refine Tr.ind (p := fun x => (rlT x).length ≤ numT x) (fun x ih => ?_) x
  rw [rlT_eq, numT_eq]
  split
  · simp
  · have := rlL_le ih
    simp only [List.length_cons]
    omega
theorem tree_rules {Γr : Ctx} (x : Tr) : ∀ {A : Option Addr} {c : Nat}, SlOk (lk Γr) A c x.kids → numT x ≤ 20000000000 → ∀ {go : PH} {v : Value} {xs : List Int}, Bld go (lk []) 3 v xs → xs.length + numT x ≤ 40000000000 →
    Ret Try.prog 168 [v, .agg #[.int .i64 x.rule, .int .i64 x.term, .slice A x.kids.length c]] Γr [go] (fun v Γ => ∃ go', Γ = [go'] ∧ Bld go' (lk []) 3 v (xs ++ rlT x)) := by
  refine Tr.ind (p := fun x => ∀ {A : Option Addr} {c : Nat}, SlOk (lk Γr) A c x.kids → numT x ≤ 20000000000 → ∀ {go : PH} {v : Value} {xs : List Int}, Bld go (lk []) 3 v xs → xs.length + numT x ≤ 40000000000 →
    Ret Try.prog 168 [v, .agg #[.int .i64 x.rule, .int .i64 x.term, .slice A x.kids.length c]] Γr [go] (fun v Γ => ∃ go', Γ = [go'] ∧ Bld go' (lk []) 3 v (xs ++ rlT x))) (fun x ih A c hx hn go v xs hB hb => ?_) x
  generalize hR : (fun (v : Value) (Γ : Ctx) => ∃ go', _) = R
  obtain ⟨A0, c0, rfl⟩ := hB.val
  refine ret_of_vc tr168 (Nat.le_of_ble_eq_true rfl) ?_
  have hn1 := numT_eq x
  have hlen := numL_len x.kids
  simp -implicitDefEqProofs only [S168, S168_0, go_sem, Nat.reduceBEq, Nat.reduceAdd, Nat.reduceSub, Nat.reduceMul, Nat.reduceLeDiff, reduceCtorEq, ↓reduceIte, Int.reduceLT, Int.reduceLE, Int.reduceEq, Int.reduceNe]
  intro b1
  intro bk
  refine s_app1S (α := Int) (ix := 1) x.rule rfl hB cells_one rfl (by omega) (by unfold maxLen; omega) ?_
  intro v' go' hB' _
  obtain ⟨A0, c0, rfl⟩ := hB'.val
  simp -implicitDefEqProofs only [go_sem, Nat.reduceBEq, Nat.reduceAdd, Nat.reduceSub, Nat.reduceMul, Nat.reduceLeDiff, reduceCtorEq, ↓reduceIte, Int.reduceLT, Int.reduceLE, Int.reduceEq, Int.reduceNe]
  refine CallVC.read (tree_leaf _ _ _ _ _) ?_
  rintro v Γ' ⟨rfl, rfl⟩
  simp -implicitDefEqProofs only [go_sem, Nat.reduceBEq, Nat.reduceAdd, Nat.reduceSub, Nat.reduceMul, Nat.reduceLeDiff, reduceCtorEq, ↓reduceIte, Int.reduceLT, Int.reduceLE, Int.reduceEq, Int.reduceNe]
  refine ⟨fun h => ?_, fun h => ?_⟩
  · refine Up.skip (Up.here ?_)
    subst hR
    rw [rlT_eq, if_pos h]
    exact ⟨go', rfl, hB'⟩
  · refine s_loop (fun f vs Γ => ∃ (go : PH) (v : Value) (k : Nat), vs = [.v true v, .v true (.int .i64 k)] ∧ Γ = [go] ∧ k + f = x.kids.length ∧ Bld go (lk []) 3 v ((xs ++ [x.rule]) ++ rlL (x.kids.take k))) x.kids.length
      (Up.skip (Up.here ⟨go', _, 0, rfl, rfl, by omega, by simpa [rlL] using hB'⟩)) ?_
    clear hB'
    clear hB
    rintro f vs Γ ⟨go, v, k, rfl, rfl, hkf, hB⟩
    obtain ⟨A0, c0, rfl⟩ := hB.val
    simp -implicitDefEqProofs only [S168_1, go_sem, Nat.reduceBEq, Nat.reduceAdd, Nat.reduceSub, Nat.reduceMul, Nat.reduceLeDiff, reduceCtorEq, ↓reduceIte, Int.reduceLT, Int.reduceLE, Int.reduceEq, Int.reduceNe]
    refine ⟨fun hlt => ?_, fun hge => ?_⟩
    · have hk : k < x.kids.length := by omega
      obtain ⟨b, o, hA, A', c', hs', hc⟩ := hx.tr hk
      have hm := List.getElem_mem hk
      have hst : rlL (x.kids.take (k + 1)) = rlL (x.kids.take k) ++ rlT x.kids[k] := by
        rw [List.take_succ_eq_append_getElem hk, rlL_append]
        simp [rlL]
      have hnk := numL_mem hm
      have hle : numL (x.kids.take k) + numT x.kids[k] ≤ numL x.kids := by
        have h1 : numL (x.kids.take (k + 1)) = numL (x.kids.take k) + numT x.kids[k] := by
          rw [List.take_succ_eq_append_getElem hk, numL_append]
          simp [numL]
        have h2 := numL_append (x.kids.take (k + 1)) (x.kids.drop (k + 1))
        rw [List.take_append_drop] at h2
        omega
      have hs1 : (rlL (x.kids.take k)).length ≤ numL (x.kids.take k) := rlL_le fun y _ => rlT_le y
      refine s_idx hA (by omega) (by omega) ?_
      simp -implicitDefEqProofs only [go_sem, Nat.reduceBEq, Nat.reduceAdd, Nat.reduceSub, Nat.reduceMul, Nat.reduceLeDiff, reduceCtorEq, ↓reduceIte, Int.reduceLT, Int.reduceLE, Int.reduceEq, Int.reduceNe]
      refine s_ld0 (hc _ (lk_r [go] _)) (by simp) (by simp) ?_
      simp -implicitDefEqProofs only [go_sem, Nat.reduceBEq, Nat.reduceAdd, Nat.reduceSub, Nat.reduceMul, Nat.reduceLeDiff, reduceCtorEq, ↓reduceIte, Int.reduceLT, Int.reduceLE, Int.reduceEq, Int.reduceNe]
      intro b5
      refine CallVC.perm (Γm := [go]) (Γf := []) (ih _ hm hs' (by omega) hB (by rw [List.length_append, List.length_append, List.length_singleton]; omega)) (List.Perm.refl _) (List.Sublist.refl _) ?_
      rintro v Γ' ⟨go', rfl, hB'⟩
      rw [List.append_assoc, ← hst] at hB'
      obtain ⟨A0, c0, rfl⟩ := hB'.val
      simp -implicitDefEqProofs only [go_sem, Nat.reduceBEq, Nat.reduceAdd, Nat.reduceSub, Nat.reduceMul, Nat.reduceLeDiff, reduceCtorEq, ↓reduceIte, Int.reduceLT, Int.reduceLE, Int.reduceEq, Int.reduceNe]
      simp (disch := omega) only [wrap_id]
      exact ⟨f - 1, by omega, Up.here ⟨go', _, k + 1, rfl, rfl, by omega, hB'⟩⟩
    · have hk : k = x.kids.length := by omega
      have he : rlL (x.kids.take k) = rlL x.kids := by rw [hk, List.take_length]
      refine Up.here ?_
      subst hR
      rw [rlT_eq, if_neg h, ← he]
      exact ⟨go, rfl, by have := hB; simp only [List.append_assoc, List.singleton_append] at this ⊢; exact this⟩
theorem cmpI_self (a : Int) : cmpI a a = 0 := by simp [cmpI]
theorem cmpL_self : ∀ (xs : List Int), cmpL xs xs = 0
  | [] => rfl
  | x :: xs => by
    have := cmpL_self xs
    simp [cmpL, cmpI_self, this]
/-- a tree compared with itself -/
theorem tree_compare {Γr : Ctx} (x : Tr) {A B : Option Addr} {c d : Nat} (hx : SlOk (lk Γr) A c x.kids) (hy : SlOk (lk Γr) B d x.kids) (hn : numT x ≤ 20000000000) :
    Ret Try.prog 103 [.agg #[.int .i64 x.rule, .int .i64 x.term, .slice A x.kids.length c], .agg #[.int .i64 x.rule, .int .i64 x.term, .slice B x.kids.length d]] Γr [] (fun v Γ => Γ = [] ∧ v = .int .i64 0) := by
  generalize hR : (fun (v : Value) (Γ : Ctx) => Γ = [] ∧ v = Value.int .i64 0) = R
  refine ret_of_vc tr103 (Nat.le_of_ble_eq_true rfl) ?_
  have hr := rlT_le x
  have hw := wdT_le x
  simp -implicitDefEqProofs only [S103, S103_0, go_sem, Nat.reduceBEq, Nat.reduceAdd, Nat.reduceSub, Nat.reduceMul, Nat.reduceLeDiff, reduceCtorEq, ↓reduceIte, Int.reduceLT, Int.reduceLE, Int.reduceEq, Int.reduceNe]
  intro b2 b3
  refine s_drawn [] [] (Ent.refl _) ?_
  simp -implicitDefEqProofs only [go_sem, Nat.reduceBEq, Nat.reduceAdd, Nat.reduceSub, Nat.reduceMul, Nat.reduceLeDiff, reduceCtorEq, ↓reduceIte, Int.reduceLT, Int.reduceLE, Int.reduceEq, Int.reduceNe]
  refine CallVC.read (tree_sizeB x (hx.mono (lk_sub (by simp))) hn) ?_
  rintro v Γ' ⟨rfl, rfl⟩
  simp -implicitDefEqProofs only [go_sem, Nat.reduceBEq, Nat.reduceAdd, Nat.reduceSub, Nat.reduceMul, Nat.reduceLeDiff, reduceCtorEq, ↓reduceIte, Int.reduceLT, Int.reduceLE, Int.reduceEq, Int.reduceNe]
  refine CallVC.read (tree_sizeB x (hy.mono (lk_sub (by simp))) hn) ?_
  rintro v Γ' ⟨rfl, rfl⟩
  simp -implicitDefEqProofs only [go_sem, Nat.reduceBEq, Nat.reduceAdd, Nat.reduceSub, Nat.reduceMul, Nat.reduceLeDiff, reduceCtorEq, ↓reduceIte, Int.reduceLT, Int.reduceLE, Int.reduceEq, Int.reduceNe]
  refine CallVC.read (cmp_compare _ _) ?_
  rintro v Γ' ⟨rfl, rfl⟩
  rw [cmpI_self]
  simp -implicitDefEqProofs only [go_sem, Nat.reduceBEq, Nat.reduceAdd, Nat.reduceSub, Nat.reduceMul, Nat.reduceLeDiff, reduceCtorEq, ↓reduceIte, Int.reduceLT, Int.reduceLE, Int.reduceEq, Int.reduceNe]
  refine s_drawn [] [] (Ent.refl _) ?_
  simp -implicitDefEqProofs only [go_sem, Nat.reduceBEq, Nat.reduceAdd, Nat.reduceSub, Nat.reduceMul, Nat.reduceLeDiff, reduceCtorEq, ↓reduceIte, Int.reduceLT, Int.reduceLE, Int.reduceEq, Int.reduceNe]
  refine CallVC.read (Ret.emp (tree_rules x (hx.mono (lk_sub (by simp))) hn (Bld.nil V.emp (lk []) 3) (by simp; omega))) ?_
  rintro v Γ' ⟨g1, rfl, hB1⟩
  obtain ⟨A1, c1, rfl, hS1⟩ := hB1.slok (L' := lk [g1]) (Mem.le.refl _) (fun b o ⟨x, hx, _⟩ => by cases hx) (by simp; omega)
  rw [List.nil_append] at hS1 ⊢
  simp -implicitDefEqProofs only [go_sem, Nat.reduceBEq, Nat.reduceAdd, Nat.reduceSub, Nat.reduceMul, Nat.reduceLeDiff, reduceCtorEq, ↓reduceIte, Int.reduceLT, Int.reduceLE, Int.reduceEq, Int.reduceNe]
  refine CallVC.read (Ret.emp (tree_rules x (hy.mono (lk_sub fun g hg => by simp [hg])) hn (Bld.nil V.emp (lk []) 3) (by simp; omega))) ?_
  rintro v Γ' ⟨g2, rfl, hB2⟩
  obtain ⟨A2, c2, rfl, hS2⟩ := hB2.slok (L' := lk [g2]) (Mem.le.refl _) (fun b o ⟨x, hx, _⟩ => by cases hx) (by simp; omega)
  rw [List.nil_append] at hS2 ⊢
  simp -implicitDefEqProofs only [go_sem, Nat.reduceBEq, Nat.reduceAdd, Nat.reduceSub, Nat.reduceMul, Nat.reduceLeDiff, reduceCtorEq, ↓reduceIte, Int.reduceLT, Int.reduceLE, Int.reduceEq, Int.reduceNe]
  refine CallVC.read (slices_compare (hS1.mono (lk_sub fun g hg => by simp at hg; subst hg; simp)) (hS2.mono (lk_sub fun g hg => by simp at hg; subst hg; simp))) ?_
  rintro v Γ' ⟨rfl, rfl⟩
  rw [cmpL_self]
  simp -implicitDefEqProofs only [go_sem, Nat.reduceBEq, Nat.reduceAdd, Nat.reduceSub, Nat.reduceMul, Nat.reduceLeDiff, reduceCtorEq, ↓reduceIte, Int.reduceLT, Int.reduceLE, Int.reduceEq, Int.reduceNe]
  refine s_drawn [] [g2, g1] (Ent.refl _) ?_
  simp -implicitDefEqProofs only [go_sem, Nat.reduceBEq, Nat.reduceAdd, Nat.reduceSub, Nat.reduceMul, Nat.reduceLeDiff, reduceCtorEq, ↓reduceIte, Int.reduceLT, Int.reduceLE, Int.reduceEq, Int.reduceNe]
  refine CallVC.read (tree_wordB x (hx.mono (lk_sub fun g hg => by simp [hg])) hn) ?_
  rintro v Γ' ⟨g3, rfl, hB3⟩
  obtain ⟨A3, c3, rfl, hS3⟩ := hB3.slok (L' := lk [g3]) (Mem.le.refl _) (fun b o ⟨x, hx, _⟩ => by cases hx) (by omega)
  simp -implicitDefEqProofs only [go_sem, Nat.reduceBEq, Nat.reduceAdd, Nat.reduceSub, Nat.reduceMul, Nat.reduceLeDiff, reduceCtorEq, ↓reduceIte, Int.reduceLT, Int.reduceLE, Int.reduceEq, Int.reduceNe]
  refine CallVC.read (tree_wordB x (hy.mono (lk_sub fun g hg => by simp [hg])) hn) ?_
  rintro v Γ' ⟨g4, rfl, hB4⟩
  obtain ⟨A4, c4, rfl, hS4⟩ := hB4.slok (L' := lk [g4]) (Mem.le.refl _) (fun b o ⟨x, hx, _⟩ => by cases hx) (by omega)
  simp -implicitDefEqProofs only [go_sem, Nat.reduceBEq, Nat.reduceAdd, Nat.reduceSub, Nat.reduceMul, Nat.reduceLeDiff, reduceCtorEq, ↓reduceIte, Int.reduceLT, Int.reduceLE, Int.reduceEq, Int.reduceNe]
  refine CallVC.read (slices_compare (hS3.mono (lk_sub fun g hg => by simp at hg; subst hg; simp)) (hS4.mono (lk_sub fun g hg => by simp at hg; subst hg; simp))) ?_
  rintro v Γ' ⟨rfl, rfl⟩
  rw [cmpL_self]
  simp -implicitDefEqProofs only [go_sem, Nat.reduceBEq, Nat.reduceAdd, Nat.reduceSub, Nat.reduceMul, Nat.reduceLeDiff, reduceCtorEq, ↓reduceIte, Int.reduceLT, Int.reduceLE, Int.reduceEq, Int.reduceNe]
  refine Up.to [] (Ent.nil _) ?_
  subst hR
  exact ⟨rfl, rfl⟩
end Go.Proofs.Ytniobbepliknmaa.V
/- The text of parlance/parllaw5.plain as a statement (slots: ); no condition. -/
namespace Go.Proofs.Ytniobbepliknmaa.V
open Go
def S40_0 : Stmt :=
 .seq
 (.region
 [.mk (some 0) none
 (.alloc true 57
 (.agg
 (Array.mk
 [.int .i64 0,.int .i64 0,.int .i64 0,.slice none 0 0])))]
 [0])
 (.seq
 (.region
 [.mk (some 1) none
 (.build 39 [.bool false,.int .i64 0] [(0,1,.const (.bool true))]),
 .mk (some 2) none (.buildS 39 1 [.bool false,.int .i64 0] [(0,2,.tmp 1)]),
 .mk (some 3) none (.build 37 [.int .i64 0,.slice none 0 0] [(1,1,.tmp 2)]),
 .mk (some 4) none
 (.build 39 [.bool false,.int .i64 0]
 [(0,1,.const (.bool true)),(1,1,.const (.int .i64 1))]),
 .mk (some 5) none (.build 39 [.bool false,.int .i64 0] []),
 .mk (some 6) none
 (.buildS 39 2 [.bool false,.int .i64 0,.bool false,.int .i64 0]
 [(0,2,.tmp 4),(2,2,.tmp 5)]),
 .mk (some 7) none (.build 37 [.int .i64 0,.slice none 0 0] [(1,1,.tmp 6)]),
 .mk (some 8) none
 (.buildS 37 2
 [.int .i64 0,.slice none 0 0,.int .i64 0,.slice none 0 0]
 [(0,2,.tmp 3),(2,2,.tmp 7)]),
 .mk (some 9) none
 (.build 57
 [.int .i64 0,.int .i64 0,.int .i64 0,.slice none 0 0]
 [(0,1,.const (.int .i64 2)),(1,1,.const (.int .i64 1)),
 (3,1,.tmp 8)]),
 .mk none none (.store 4 (.tmp 0) (.tmp 9))]
 [0])
 .ret)
def S40 : FnS := ⟨10,[(0,some (true,4))],S40_0⟩
theorem tr40 : trFn Try.prog 40 [0] [[0],[0]] = some S40 := by kernel_rfl
end Go.Proofs.Ytniobbepliknmaa.V
namespace Go.Proofs.Ytniobbepliknmaa.V
open Go
set_option linter.unusedVariables false
set_option linter.unusedSimpArgs false
/- parllaw5.plain and slices.Equal of bools walked; no condition. -/
attribute [local go_sem] e_seq e_region e_quiet e_join e_loop e_cond e_block e_exit e_ret e_skip e_fin e_kseq e_snrm e_sret e_sex e_bnrm e_bret e_bex e_rnrm e_rret e_res e_condC e_nil e_g e_mv g_mv e_pick g_pick pickC_eq e_ibin g_ibin ibinC_eq e_sbin g_sbin e_beq g_beq beqC_eq e_nilq g_nilq nilqC_sl nilqC_pt nilqC_mp e_un g_un unC_not unC_neg e_conv g_conv convC_eq e_fld g_fld fldC_ref fldC_ptr e_nilCheck g_nilCheck nilCheckC_ref nilCheckC_ptr nilCheckC_fun e_field g_field fieldC_eq e_len g_len lenC_sl lenC_str e_extract g_extract extractC_eq e_mkFunc e_build g_build e_idiv g_idiv idivC_eq e_ishift g_ishift ishiftC_eq e_idx g_idx e_idxA g_idxA e_load g_load e_loadB g_loadB atB_ref atB_v g_mkFunc loadC_ref loadC_ptr loadB_eq e_slc g_slc e_box boxC_loc boxC_esc e_alloc allocC_loc allocC_esc e_buildS e_store storeC_ref storeC_ptr storeB_eq e_append e_appz e_mk mkC_eq e_call callC_eq e_fn g_fn fnC_eq fnV_min' fnV_max' fnV_rune' e_q g_q e_a e_n g_call g_box g_alloc g_buildS g_store g_append g_mk g_a g_n g_dead e_dead e_callK e_drawn e_tree e_finJ e_tk e_tfin e_tno e_nbt_q e_nbt_qn e_nbt_a e_nbt_an e_nbt_fin e_drawnB e_bxb_nil e_bxb e_stB_none e_stB_some boxSt_store bs_mv bs_pick bs_ibin bs_idiv bs_ishift bs_sbin bs_beq bs_nilq bs_un bs_conv bs_box bs_alloc bs_build bs_buildS bs_load bs_fld bs_nilCheck bs_idx bs_idxA bs_field bs_slc bs_len bs_append bs_appz bs_mk bs_call bs_extract bs_mkFunc bs_fn bs_q bs_a bs_n bs_loadB bs_dead isBox_box e_early_nil e_early_t e_early_f e_nob_nil e_nob_none e_nob_some isBox_dead isBox_v isBox_ref e_dnil e_dk e_ek e_finB vcOps_vc1 e_dcons e_tq e_ekt e_tearly e_talt e_dearly look_nil look_c proj_nil proj_c looks_nil looks_c zip_nil zip_c val_tmp val_const val_func slv_v slv_box slv_ref slot_tmp slot_const slot_func slotL_v slotL_box slotL_ref put_some put_none updBox_c boxSet_box gd_eq slotVals_nil slotVals_c slotVals_b boxV_box boxOn_box slotsOn_nil slotsOn_c slotsOn_b resV_one resV_two vals_nil vals_c allOn_nil allOn_c partOn_nil partOn_c partVals_nil partVals_c fits_nil fits_c fillL_nil fillL_c mkv_one mkv_agg cellsV_agg cellsV_int cellsV_bool cellsV_slice cellsV_string cellsV_pointer cellsV_func cellsV_nilf cellsV_map one'_nil one'_c oc_int oc_bool oc_slice oc_string oc_pointer oc_func oc_nilf oc_map setC_eq iv_add iv_sub iv_mul iv_eql iv_neq iv_lss iv_leq iv_gtr iv_geq iok_add iok_sub iok_mul iok_eql iok_neq iok_lss iok_leq iok_gtr iok_geq pickV_bool args0_nil args0_c bnd_none bnd_some imp_bt imp_bf imp_ebt imp_ebf imp_eb1 imp_np imp_pp beq_tt beq_tf beq_ft beq_ff cond_or cond_and e_round e_meet Int.le_refl Int.toNat_zero decide_true decide_false Bool.or_false Bool.false_or Bool.true_or Bool.or_true Bool.and_false Bool.false_and Bool.bne_false Bool.bne_true beq_iff_eq Int.cast_ofNat_Int not_false_eq_true not_true_eq_false false_and and_false false_implies true_implies true_and and_true Bool.true_and Bool.and_true Bool.not_true Bool.not_false forall_const implies_true List.take_zero List.drop_zero List.take_succ_cons List.drop_succ_cons List.take_nil List.drop_nil List.length_cons List.length_nil List.nil_append List.append_nil List.cons_append Int.toNat_natCast decide_eq_true_eq decide_eq_false_iff_not cond_true cond_false and_self List.getElem?_cons_zero List.getElem?_cons_succ List.set_cons_zero List.set_cons_succ Option.some.injEq exists_eq_left' Nat.zero_add Nat.add_zero Nat.mul_one imp_self true_or or_true or_false false_or Bool.or_eq_true Bool.or_eq_false_iff Bool.and_eq_true Bool.and_eq_false_iff Bool.not_eq_true' Bool.not_eq_false'

def plainG : Gr := ⟨2, 1, 0, [⟨0, [⟨true, 0⟩]⟩, ⟨0, [⟨true, 1⟩, ⟨false, 0⟩]⟩]⟩
theorem plain_ {Γr : Ctx} : Ret Try.prog 40 [] Γr [] (fun v Γ => ∃ g A c, Γ = [g] ∧ SlOk (lk [g]) A c plainG.rs ∧ v = .agg #[.int .i64 2, .int .i64 1, .int .i64 0, .slice A 2 c]) := by
  generalize hR : (fun (v : Value) (Γ : Ctx) => ∃ g A c, _) = R
  refine ret_of_vc tr40 (Nat.le_of_ble_eq_true rfl) ?_
  simp -implicitDefEqProofs only [S40, S40_0, go_sem, Nat.reduceBEq, Nat.reduceAdd, Nat.reduceSub, Nat.reduceMul, Nat.reduceLeDiff, reduceCtorEq, ↓reduceIte, Int.reduceLT, Int.reduceLE, Int.reduceEq, Int.reduceNe]
  intro b b1 b2
  refine Up.one fun g hg => ?_
  subst hR
  refine ⟨g, _, 2, rfl, ?_, rfl⟩
  refine lit_rep2 (cs := [.int .i64 0, .slice (some ⟨b, 0, none⟩) 1 1]) (ds := [.int .i64 0, .slice (some ⟨b1, 0, none⟩) 2 2]) _ _ (hg _ _ lk_head) rfl ⟨_, _, rfl, ?_⟩ ⟨_, _, rfl, ?_⟩
  · exact lit_rep1 (cs := [.bool true, .int .i64 0]) (⟨true, 0⟩ : Sy) (hg _ _ (lk_tail (lk_tail lk_head))) rfl
  · exact lit_rep2 (cs := [.bool true, .int .i64 1]) (ds := [.bool false, .int .i64 0]) (⟨true, 1⟩ : Sy) (⟨false, 0⟩ : Sy) (hg _ _ (lk_tail lk_head)) rfl rfl rfl
/- How many nodes the trees of a start symbol have of which there are not too many: the plain law; no condition. -/
/-- trees of no terminals, of at most e levels -/
def epsS : Nat → Nat
  | 0 => 0
  | e + 1 => 1 + 4 * epsS e
theorem epsS_ten : epsS 10 = 349525 := by decide
/-- one kid's bound: W = 1500000 for each tenth -/
def KidB (F K : Nat) (x : Tr) (j : Nat) : Prop := (j = 0 → numT x ≤ 349525) ∧ (1 ≤ j → numT x + 15000000 ≤ 45000000 * j) ∧ (j = K → 1 ≤ j → numT x ≤ F)
theorem addB {a b u v w z A B : Nat} (h1 : b + w ≤ v + z) (b2 : a + A ≤ u) : a + b + (w + A) ≤ u + v + (z + B) := by omega
theorem row_size {L : Int → Nat → List Tr} {T : Int → Nat → Nat} (hL : LenL L T) {F K : Nat} : ∀ {l : List Sy} {k : Nat} {ks : List Tr}, ks ∈ rowL L l k → (∀ s ∈ l, s.t = true → ∀ j x, x ∈ symL L s j → KidB F K x j) → (∀ b j x, EdR T l k b j → x ∈ L b j → x ∈ ks → KidB F K x j) →
    ∃ c, numL ks + 15000000 * c ≤ 45000000 * k + 349525 * l.length ∧ (c = 0 → k = 0 ∧ numL ks ≤ 349525 * l.length) ∧ (c = 1 → k = K → numL ks ≤ F + 349525 * l.length)
  | [], k, ks, h, _, _ => by
    simp only [rowL] at h
    split at h
    · rename_i e
      simp only [List.mem_singleton] at h
      subst h e
      exact ⟨0, by simp [numL], fun _ => ⟨rfl, by simp [numL]⟩, fun h => by omega⟩
    · simp at h
  | s :: l, k, ks, h, ht, he => by
    rw [rowL] at h
    obtain ⟨j, hj, h⟩ := List.mem_flatMap.1 h
    obtain ⟨x, hx, h⟩ := List.mem_flatMap.1 h
    obtain ⟨y, hy, rfl⟩ := List.mem_map.1 h
    have hj : j ≤ k := by have := List.mem_range.1 hj; omega
    have hsp : 0 < symT T s j := by rw [← symL_len hL]; exact List.length_pos_of_mem hx
    have hrp : 0 < rowT T l (k - j) := by rw [← rowL_len hL]; exact List.length_pos_of_mem hy
    have hB : KidB F K x j := by
      obtain ⟨st, sn⟩ := s
      cases st with
      | true => exact ht _ (by simp) rfl j x hx
      | false => exact he sn j x ⟨j, hj, hsp, hrp, .inl ⟨rfl, rfl, rfl⟩⟩ hx (by simp)
    obtain ⟨c, h1, h2, h3⟩ := row_size hL hy (fun s' hs' => ht s' (by simp [hs'])) (fun b i z hz hm hz2 => he b i z ⟨j, hj, hsp, hrp, .inr hz⟩ hm (by simp [hz2]))
    obtain ⟨b1, b2, b3⟩ := hB
    have hnl : numL (x :: y) = numT x + numL y := rfl
    rw [hnl]
    simp only [List.length_cons]
    rcases Nat.eq_zero_or_pos j with e | e
    · subst e
      have b1 := b1 rfl
      rw [Nat.sub_zero] at h1 h2 h3
      refine ⟨c, by omega, fun hc => ?_, fun hc hk => ?_⟩
      · obtain ⟨q1, q2⟩ := h2 hc
        exact ⟨q1, by omega⟩
      · have := h3 hc hk
        omega
    · have b2 := b2 (by omega)
      refine ⟨c + 1, ?_, fun hc => by omega, fun hc hk => ?_⟩
      · obtain ⟨i, hi⟩ : ∃ i, k - j = i := ⟨_, rfl⟩
        rw [hi] at h1
        have hk : k = j + i := by omega
        have e1 : 15000000 * (c + 1) = 15000000 * c + 15000000 := Nat.mul_succ _ _
        have e2 : 45000000 * k = 45000000 * j + 45000000 * i := by rw [hk, Nat.mul_add]
        have e3 : 349525 * (l.length + 1) = 349525 * l.length + 349525 := Nat.mul_succ _ _
        rw [e1, e2, e3]
        exact addB h1 b2
      · obtain ⟨q1, q2⟩ := h2 (by omega)
        have := b3 (by omega) (by omega)
        omega
theorem row_eps {L : Int → Nat → List Tr} {T : Int → Nat → Nat} (hL : LenL L T) {S : Nat} : ∀ {l : List Sy} {ks : List Tr}, ks ∈ rowL L l 0 → (∀ b x, EdR T l 0 b 0 → x ∈ L b 0 → x ∈ ks → numT x ≤ S) → numL ks ≤ S * l.length
  | [], ks, h, _ => by
    simp only [rowL, if_true, List.mem_singleton] at h
    subst h
    simp [numL]
  | s :: l, ks, h, he => by
    rw [rowL] at h
    obtain ⟨j, hj, h⟩ := List.mem_flatMap.1 h
    obtain ⟨x, hx, h⟩ := List.mem_flatMap.1 h
    obtain ⟨y, hy, rfl⟩ := List.mem_map.1 h
    obtain rfl : j = 0 := by have := List.mem_range.1 hj; omega
    have hsp : 0 < symT T s 0 := by rw [← symL_len hL]; exact List.length_pos_of_mem hx
    have hrp : 0 < rowT T l (0 - 0) := by rw [← rowL_len hL]; exact List.length_pos_of_mem hy
    have h1 := row_eps hL hy (fun b z hz hm hz2 => he b z ⟨0, Nat.le_refl _, hsp, hrp, .inr hz⟩ hm (by simp [hz2]))
    have h2 : numT x ≤ S := by
      obtain ⟨st, sn⟩ := s
      cases st with
      | true => simp [symL] at hx
      | false => exact he sn x ⟨0, Nat.le_refl _, hsp, hrp, .inl ⟨rfl, rfl, rfl⟩⟩ hx (by simp)
    have hnl : numL (x :: y) = numT x + numL y := rfl
    rw [hnl, List.length_cons, Nat.mul_succ]
    omega
theorem cap_arith {e S W : Nat} (h : 4 * S + 1 ≤ W) {numL len : Nat} (hl : len ≤ 4) (h1 : numL ≤ S * len) : 1 + numL ≤ W := by
  have : S * len ≤ S * 4 := Nat.mul_le_mul_left _ hl
  omega
/-- a bound for trees of k terminals, where so many nonterminals may still follow with as many terminals -/
def capS (k e : Nat) : Nat := if k = 0 then epsS e else 45000000 * k - 30000000 + 1500000 * e
theorem size_all {g : Gr} (V : VG g) {n : Nat} (x : Tr) : ∀ (a k : Nat) (X : List Nat), k ≤ n → ¬ LpC g n (a : Int) k → x ∈ lstT g (mostN g n) (a : Int) k → X.Nodup → (∀ b ∈ X, (b : Int) < g.ns ∧ EdP g (mostN g n) (b : Int) k (a : Int) k) → X.length ≤ 9 ∧ numT x ≤ capS k (10 - X.length) := by
  refine Tr.ind (p := fun x => ∀ (a k : Nat) (X : List Nat), k ≤ n → ¬ LpC g n (a : Int) k → x ∈ lstT g (mostN g n) (a : Int) k → X.Nodup → (∀ b ∈ X, (b : Int) < g.ns ∧ EdP g (mostN g n) (b : Int) k (a : Int) k) → X.length ≤ 9 ∧ numT x ≤ capS k (10 - X.length)) (fun x ih a k X hk hL hx hn hX => ?_) x
  have S := loop_ex g n
  have hns := V.ns
  have hpos : 0 < cntT g (mostN g n) (a : Int) k := by rw [← lstT_len g]; exact List.length_pos_of_mem hx
  have hin := cnt_in V hk hpos
  have hnot : a ∉ X := fun hm => hL (S.cyc _ _ hk (hX a hm).2)
  have hnd : (a :: X).Nodup := List.nodup_cons.2 ⟨hnot, hn⟩
  have hlen := nodup_bound g.ns.toNat (a :: X) hnd (fun y hy => by
    have h1 := hin.2.1
    rcases List.mem_cons.1 hy with e | e
    · omega
    · have := (hX y e).1
      omega)
  simp only [List.length_cons] at hlen
  have hx2 : x ∈ rulL (lstT g (mostN g n)) (a : Int) k 0 g.rs := (lstT_sub1 g (mostN g n) (a : Int) k).subset hx
  obtain ⟨i, hi⟩ := List.mem_iff_getElem?.1 hx2
  obtain ⟨p, y, ks, hp, hpl, hy, hie, hks, rfl⟩ := rulL_at (lstT_len g (mostN g n)) hi
  have hmem := List.getElem_mem hp
  have hr4 := V.right _ hmem
  have hksm := List.mem_of_getElem? hks
  have hnum : numT (⟨(p : Int), 0, ks⟩ : Tr) = 1 + numL ks := by rw [numT_eq]; rfl
  refine ⟨by omega, ?_⟩
  rw [hnum]
  have kid : ∀ (b : Int) j z, EdR (cntT g (mostN g n)) g.rs[p].r k b j → z ∈ lstT g (mostN g n) b j → z ∈ ks → numT z ≤ (if j = k then capS k (9 - X.length) else capS j 10) := by
    intro b j z he hz hzk
    have hed : Ed g (mostN g n) (a : Int) k b j := ⟨_, hmem, hpl, he⟩
    have hjk := hed.le
    have hzpos : 0 < cntT g (mostN g n) b j := by rw [← lstT_len g]; exact List.length_pos_of_mem hz
    have hbin := cnt_in V (show j ≤ n by omega) hzpos
    obtain ⟨b, rfl⟩ : ∃ b' : Nat, b = b' := ⟨b.toNat, by have := hbin.1; omega⟩
    have hLb : ¬ LpC g n (b : Int) j := fun q => hL (S.pre _ _ _ _ hk hed q)
    split
    · rename_i e
      subst e
      have := (ih z hzk b j (a :: X) hk hLb hz hnd (fun c hc => by
        rcases List.mem_cons.1 hc with e | e
        · subst e
          exact ⟨hin.2.1, .one hed⟩
        · exact ⟨(hX c e).1, .step (hX c e).2 hed⟩)).2
      rw [List.length_cons, show 10 - (X.length + 1) = 9 - X.length by omega] at this
      exact this
    · have := (ih z hzk b j [] (by omega) hLb hz List.nodup_nil (fun c hc => by simp at hc)).2
      simpa using this
  rcases Nat.eq_zero_or_pos k with e | e
  · subst e
    have h1 := row_eps (lstT_len g (mostN g n)) hksm (S := epsS (9 - X.length)) (fun b z he hz hzk => by
      have := kid b 0 z he hz hzk
      rw [if_pos rfl] at this
      exact this)
    show 1 + numL ks ≤ epsS (10 - X.length)
    refine cap_arith (S := epsS (9 - X.length)) (e := 0) ?_ hr4 h1
    rw [show 10 - X.length = (9 - X.length) + 1 by omega, epsS]
    omega
  · have hk0 : k ≠ 0 := by omega
    have hcapk : capS k (9 - X.length) = 45000000 * k - 30000000 + 1500000 * (9 - X.length) := if_neg hk0
    have hcapk2 : capS k (10 - X.length) = 45000000 * k - 30000000 + 1500000 * (10 - X.length) := if_neg hk0
    obtain ⟨c, h1, h2, h3⟩ := row_size (lstT_len g (mostN g n)) (F := capS k (9 - X.length)) (K := k) hksm (fun s hs ht j z hz => by
      have hz1 : numT z = 1 ∧ j = 1 := by
        unfold symL at hz
        rw [if_pos ht] at hz
        split at hz
        · rename_i q
          simp only [List.mem_singleton] at hz
          subst hz
          exact ⟨by rw [numT_eq]; rfl, q⟩
        · simp at hz
      refine ⟨fun q => by omega, fun q => by omega, fun q _ => ?_⟩
      rw [hcapk]
      omega) (fun b j z he hz hzk => by
      have hz1 := kid b j z he hz hzk
      refine ⟨fun q => ?_, fun q => ?_, fun q q2 => ?_⟩
      · subst q
        rw [if_neg (by omega)] at hz1
        have : capS 0 10 = 349525 := epsS_ten
        omega
      · by_cases q2 : j = k
        · rw [if_pos q2, hcapk] at hz1
          omega
        · have : capS j 10 = 45000000 * j - 30000000 + 1500000 * 10 := if_neg (by omega)
          rw [if_neg q2, this] at hz1
          omega
      · rw [if_pos q] at hz1
        exact hz1)
    rw [hcapk2]
    rcases Nat.lt_or_ge c 2 with q | q
    · rcases Nat.eq_zero_or_pos c with q2 | q2
      · exact absurd (h2 q2).1 hk0
      · have h4 := h3 (by omega) rfl
        rw [hcapk] at h4
        omega
    · omega
theorem size_start {g : Gr} {n : Nat} (F : Fine g n) (hn : n ≤ 24) {x : Tr} (hx : x ∈ lstT g (mostN g n) g.st n) : numT x ≤ 20000000000 := by
  have hst := F.V.st
  obtain ⟨s, hs⟩ : ∃ s : Nat, g.st = s := ⟨g.st.toNat, by omega⟩
  have hL := InS.free F (Nat.le_refl n) (InS.self g g.st n)
  rw [hs] at hx hL
  obtain ⟨_, h⟩ := size_all F.V x s n [] (Nat.le_refl n) hL hx List.nodup_nil (fun b hb => by simp at hb)
  unfold capS at h
  simp only [List.length_nil, Nat.sub_zero] at h
  split at h
  · have := epsS_ten
    omega
  · omega
end Go.Proofs.Ytniobbepliknmaa.V
/- The text of parlance/parllaw5.DrawTrees as a statement (slots: 0 g, 1 n, 2 coins, 3 g, 4 n, 5 coins, 7 t, 8 k, 9 e, 10 t, 11 k, 12 e, 13 all, 14 f, 15 i, 16 j, 17 ok, 18 l, 19 fine); no condition. -/
namespace Go.Proofs.Ytniobbepliknmaa.V
open Go
def S19_1 : Stmt :=
 .seq
 (.region
 [.mk (some 51) none (.mv (.tmp 14)),
 .mk (some 52) none (.ibin .eql (.tmp 51) (.const (.int .i64 0))),
 .mk (some 53) none (.mv (.tmp 52)),.mk (some 54) (some (53,true)) (.mv (.tmp 13)),
 .mk (some 55) (some (53,true))
 (.ibin .eql (.tmp 54) (.const (.int .i64 0))),
 .mk (some 56) none (.pick (.tmp 53) (.tmp 55) (.const (.bool false)))]
 [1,2,3,10,11,12,13,14,56])
 (.cond (.tmp 56)
 (.region [.mk (some 14) none (.mv (.const (.int .i64 10)))]
 [1,2,3,10,11,12,13,14])
 .skip)
def S19_2 : Stmt :=
 .seq
 (.seq
 (.region
 [.mk (some 57) none (.mv (.tmp 14)),
 .mk (some 58) none (.ibin .neq (.tmp 57) (.const (.int .i64 0)))]
 [1,2,3,10,11,12,13,14,58])
 (.cond (.tmp 58)
 (.seq
 (.region
 [.mk (some 59) none (.mv (.tmp 12)),.mk (some 60) none (.mv (.tmp 14)),
 .mk (some 61) none (.ibin .eql (.tmp 59) (.tmp 60)),
 .mk (some 62) none (.mv (.tmp 61)),
 .mk (some 63) (some (62,true)) (.mv (.tmp 11)),
 .mk (some 64) (some (62,true))
 (.ibin .eql (.tmp 63) (.const (.int .i64 0))),
 .mk (some 65) none (.pick (.tmp 62) (.tmp 64) (.const (.bool false))),
 .mk (some 6) none (.mv (.tmp 65))]
 [6])
 .ret)
 .skip))
 (.seq
 (.region
 [.mk (some 67) none (.mv (.tmp 13)),.mk (some 68) none (.mv (.tmp 2)),
 .mk (some 69) none (.call (.func 22) [.tmp 67,.tmp 68]),
 .mk (some 66) none (.mv (.tmp 69)),.mk (some 70) none (.extract 0 (.tmp 66)),
 .mk (some 71) none (.extract 1 (.tmp 66)),
 .mk (some 72) none (.extract 2 (.tmp 66)),.mk (some 15) none (.mv (.tmp 70)),
 .mk (some 16) none (.mv (.tmp 71)),.mk (some 17) none (.mv (.tmp 72))]
 [1,3,10,11,12,15,16,17])
 (.seq
 (.seq
 (.region
 [.mk (some 73) none (.mv (.tmp 17)),
 .mk (some 74) none (.un .not (.tmp 73))]
 [1,3,10,11,12,15,16,74])
 (.cond (.tmp 74)
 (.seq
 (.region
 [.mk (some 75) none (.mv (.tmp 12)),
 .mk (some 76) none (.ibin .eql (.tmp 75) (.const (.int .i64 5))),
 .mk (some 77) none (.mv (.tmp 76)),
 .mk (some 78) (some (77,true)) (.mv (.tmp 11)),
 .mk (some 79) (some (77,true))
 (.ibin .eql (.tmp 78) (.const (.int .i64 0))),
 .mk (some 80) none (.pick (.tmp 77) (.tmp 79) (.const (.bool false))),
 .mk (some 6) none (.mv (.tmp 80))]
 [6])
 .ret)
 .skip))
 (.seq
 (.region
 [.mk (some 82) none (.load true 4 (.tmp 3)),.mk (some 83) none (.mv (.tmp 1)),
 .mk (some 84) none
 (.call (.func 102)
 [.tmp 82,.tmp 83,.const (.int .i64 200),
 .const (.int .i64 60)]),
 .mk (some 81) none (.mv (.tmp 84)),.mk (some 85) none (.extract 0 (.tmp 81)),
 .mk (some 86) none (.extract 1 (.tmp 81)),.mk (some 18) none (.mv (.tmp 85)),
 .mk (some 19) none (.mv (.tmp 86))]
 [10,11,12,15,16,18,19])
 (.seq
 (.drawn
 [(false,.mk (some 87) none (.mv (.tmp 12))),
 (false,
 .mk (some 88) none
 (.ibin .eql (.tmp 87) (.const (.int .i64 0)))),
 (false,.mk (some 89) none (.mv (.tmp 88))),
 (false,.mk (some 90) (some (89,true)) (.mv (.tmp 11))),
 (false,.mk (some 91) (some (89,true)) (.mv (.tmp 16))),
 (false,.mk (some 92) (some (89,true)) (.ibin .eql (.tmp 90) (.tmp 91))),
 (false,
 .mk (some 93) none
 (.pick (.tmp 89) (.tmp 92) (.const (.bool false)))),
 (false,.mk (some 94) none (.mv (.tmp 93))),
 (false,.mk (some 95) (some (94,true)) (.mv (.tmp 19))),
 (false,.mk (some 96) (some (94,true)) (.un .not (.tmp 95))),
 (false,.mk (some 97) (some (94,true)) (.mv (.tmp 96))),
 (false,.mk (some 98) (some (97,false)) (.mv (.tmp 15))),
 (false,.mk (some 99) (some (97,false)) (.mv (.tmp 18))),
 (false,.mk (some 100) (some (97,false)) (.len false (.tmp 99))),
 (false,.mk (some 101) (some (97,false)) (.ibin .lss (.tmp 98) (.tmp 100))),
 (false,.mk (some 102) (some (97,false)) (.mv (.tmp 101))),
 (false,.mk (some 103) (some (102,true)) (.load true 3 (.tmp 10))),
 (false,.mk (some 104) (some (102,true)) (.mv (.tmp 18))),
 (false,.mk (some 105) (some (102,true)) (.mv (.tmp 15))),
 (false,.mk (some 106) (some (102,true)) (.idx 3 (.tmp 104) (.tmp 105))),
 (false,.mk (some 107) (some (102,true)) (.load true 3 (.tmp 106))),
 (false,
 .mk (some 108) (some (102,true))
 (.call (.func 103) [.tmp 103,.tmp 107])),
 (false,
 .mk (some 109) (some (102,true))
 (.ibin .eql (.tmp 108) (.const (.int .i64 0)))),
 (false,
 .mk (some 110) (some (97,false))
 (.pick (.tmp 102) (.tmp 109) (.const (.bool false)))),
 (false,
 .mk (some 111) (some (94,true))
 (.pick (.tmp 97) (.const (.bool true)) (.tmp 110))),
 (false,
 .mk (some 112) none
 (.pick (.tmp 94) (.tmp 111) (.const (.bool false)))),
 (false,.mk (some 6) none (.mv (.tmp 112)))]
 [6])
 .ret))))
def S19_0 : Stmt :=
 .seq
 (.region
 [.mk (some 3) none (.box true 57 (.tmp 0)),
 .mk (some 6) none (.mv (.const (.bool false)))]
 [1,2,3])
 (.seq
 (.seq
 (.region
 [.mk (some 21) none (.call (.func 40) []),
 .mk (some 22) none
 (.call (.func 101)
 [.tmp 21,.const (.int .i64 1),.const (.slice none 0 0)]),
 .mk (some 20) none (.mv (.tmp 22)),.mk (some 23) none (.extract 0 (.tmp 20)),
 .mk (some 24) none (.extract 1 (.tmp 20)),
 .mk (some 25) none (.extract 2 (.tmp 20)),
 .mk (some 7) none
 (.alloc true 106
 (.agg (Array.mk [.int .i64 0,.int .i64 0,.slice none 0 0]))),
 .mk none none (.store 3 (.tmp 7) (.tmp 23)),
 .mk (some 8) none (.mv (.tmp 24)),.mk (some 9) none (.mv (.tmp 25))]
 [1,2,3,7,8,9])
 (.seq
 (.region
 [.mk (some 26) none (.mv (.tmp 9)),
 .mk (some 27) none (.ibin .neq (.tmp 26) (.const (.int .i64 0))),
 .mk (some 28) none (.mv (.tmp 27)),
 .mk (some 29) (some (28,false)) (.mv (.tmp 8)),
 .mk (some 30) (some (28,false))
 (.ibin .neq (.tmp 29) (.const (.int .i64 0))),
 .mk (some 31) none (.pick (.tmp 28) (.const (.bool true)) (.tmp 30)),
 .mk (some 32) none (.mv (.tmp 31)),
 .mk (some 33) (some (32,false)) (.load true 3 (.tmp 7)),
 .mk (some 34) (some (32,false)) (.call (.func 67) [.tmp 33]),
 .mk (some 35) (some (32,false))
 (.ibin .neq (.tmp 34) (.const (.int .i64 2))),
 .mk (some 36) none (.pick (.tmp 32) (.const (.bool true)) (.tmp 35))]
 [1,2,3,36])
 (.cond (.tmp 36)
 (.seq (.region [.mk (some 6) none (.mv (.const (.bool false)))] [6]) .ret)
 .skip)))
 (.seq
 (.region
 [.mk (some 38) none (.load true 4 (.tmp 3)),.mk (some 39) none (.mv (.tmp 1)),
 .mk (some 40) none (.mv (.tmp 2)),
 .mk (some 41) none (.call (.func 101) [.tmp 38,.tmp 39,.tmp 40]),
 .mk (some 37) none (.mv (.tmp 41)),.mk (some 42) none (.extract 0 (.tmp 37)),
 .mk (some 43) none (.extract 1 (.tmp 37)),
 .mk (some 44) none (.extract 2 (.tmp 37)),
 .mk (some 10) none
 (.alloc true 106
 (.agg (Array.mk [.int .i64 0,.int .i64 0,.slice none 0 0]))),
 .mk none none (.store 3 (.tmp 10) (.tmp 42)),
 .mk (some 11) none (.mv (.tmp 43)),.mk (some 12) none (.mv (.tmp 44))]
 [1,2,3,10,11,12])
 (.seq
 (.region
 [.mk (some 46) none (.load true 4 (.tmp 3)),.mk (some 47) none (.mv (.tmp 1)),
 .mk (some 48) none (.call (.func 98) [.tmp 46,.tmp 47]),
 .mk (some 45) none (.mv (.tmp 48)),.mk (some 49) none (.extract 0 (.tmp 45)),
 .mk (some 50) none (.extract 1 (.tmp 45)),.mk (some 13) none (.mv (.tmp 49)),
 .mk (some 14) none (.mv (.tmp 50))]
 [1,2,3,10,11,12,13,14])
 (.join S19_1 S19_2 [14] [1,2,3,10,11,12,13]))))
def S19 : FnS := ⟨113,[(6,none)],S19_0⟩
theorem tr19 : trFn Try.prog 19 [3,7,10] [[1,2,3],[1,2,3,7,8,9],[1,2,3,36],[6],[1,2,3,10,11,12],[1,2,3,10,11,12,13,14],[14],[1,2,3,10,11,12,13],[1,2,3,10,11,12,13,14,56],[1,2,3,10,11,12,13,14],[1,2,3,10,11,12,13,14,58],[6],[1,3,10,11,12,15,16,17],[1,3,10,11,12,15,16,74],[6],[10,11,12,15,16,18,19],[6],[0,1,2,3,4,5,6,7,8,9,10,11,12,13,14,15,16,17,18,19,20,21,22,23,24,25,26],[],[],[0],[0,1],[0,1,2],[0,1,2],[0,1,2,3,4],[0,1,2,3,4,5],[0,1,2,3,4,5,6],[0,1,2,3,4,5,6,7],[0,1,2,3,4,5,6,7,8],[0,1,2,3,4,5,6,7,8,9],[0,1,2,3,4,5,6,7,8,9,10],[0,1,2,3,4,5,6,7,8,9,10],[0,1,2,3,4,5,6,7,8,9,10,12],[0,1,2,3,4,5,6,7,8,9,10,11,12,13],[0,1,2,3,4,5,6,7,8,9,10,11,12,13,14],[0,1,2,3,4,5,6,7,8,9,10,11,12,13,14,15],[0,1,2,3,4,5,6,7,8,9,10,11,12,13,14,15],[0,1,2,3,4,5,6,7,8,9,10,11,12,13,14,15],[0,1,2,3,4,5,6,7,8,9,10,11,12,13,14,15,17,18],[0,1,2,3,4,5,6,7,8,9,10,11,12,13,14,15,17,18,19],[0,1,2,3,4,5,6,7,8,9,10,11,12,13,14,15,16,17,18,19,20],[0,1,2,3,4,5,6,7,8,9,10,11,12,13,14,15,16,17,18,19,20,21],[0,1,2,3,4,5,6,7,8,9,10,11,12,13,14,15,16,17,18,19,20,21,22],[0,1,2,3,4,5,6,7,8,9,10,11,12,13,14,15,16,17,18,19,20,21,22,23],[0,1,2,3,4,5,6,7,8,9,10,11,12,13,14,15,16,17,18,19,20,21,22,23,24],[0,1,2,3,4,5,6,7,8,9,10,11,12,13,14,15,16,17,18,19,20,21,22,23,24,25]] = some S19 := by kernel_rfl
end Go.Proofs.Ytniobbepliknmaa.V
namespace Go.Proofs.Ytniobbepliknmaa.V
open Go
set_option linter.unusedVariables false
set_option linter.unusedSimpArgs false
/- The law of parllaw5.DrawTrees; no condition. -/
attribute [local go_sem] e_seq e_region e_quiet e_join e_loop e_cond e_block e_exit e_ret e_skip e_fin e_kseq e_snrm e_sret e_sex e_bnrm e_bret e_bex e_rnrm e_rret e_res e_condC e_nil e_g e_mv g_mv e_pick g_pick pickC_eq e_ibin g_ibin ibinC_eq e_sbin g_sbin e_beq g_beq beqC_eq e_nilq g_nilq nilqC_sl nilqC_pt nilqC_mp e_un g_un unC_not unC_neg e_conv g_conv convC_eq e_fld g_fld fldC_ref fldC_ptr e_nilCheck g_nilCheck nilCheckC_ref nilCheckC_ptr nilCheckC_fun e_field g_field fieldC_eq e_len g_len lenC_sl lenC_str e_extract g_extract extractC_eq e_mkFunc e_build g_build e_idiv g_idiv idivC_eq e_ishift g_ishift ishiftC_eq e_idx g_idx e_idxA g_idxA e_load g_load e_loadB g_loadB atB_ref atB_v g_mkFunc loadC_ref loadC_ptr loadB_eq e_slc g_slc e_box boxC_loc boxC_esc e_alloc allocC_loc allocC_esc e_buildS e_store storeC_ref storeC_ptr storeB_eq e_append e_appz e_mk mkC_eq e_call callC_eq e_fn g_fn fnC_eq fnV_min' fnV_max' fnV_rune' e_q g_q e_a e_n g_call g_box g_alloc g_buildS g_store g_append g_mk g_a g_n g_dead e_dead e_callK e_drawn e_tree e_finJ e_tk e_tfin e_tno e_nbt_q e_nbt_qn e_nbt_a e_nbt_an e_nbt_fin e_drawnB e_bxb_nil e_bxb e_stB_none e_stB_some boxSt_store bs_mv bs_pick bs_ibin bs_idiv bs_ishift bs_sbin bs_beq bs_nilq bs_un bs_conv bs_box bs_alloc bs_build bs_buildS bs_load bs_fld bs_nilCheck bs_idx bs_idxA bs_field bs_slc bs_len bs_append bs_appz bs_mk bs_call bs_extract bs_mkFunc bs_fn bs_q bs_a bs_n bs_loadB bs_dead isBox_box e_early_nil e_early_t e_early_f e_nob_nil e_nob_none e_nob_some isBox_dead isBox_v isBox_ref e_dnil e_dk e_ek e_finB vcOps_vc1 e_dcons e_tq e_ekt e_tearly e_talt e_dearly look_nil look_c proj_nil proj_c looks_nil looks_c zip_nil zip_c val_tmp val_const val_func slv_v slv_box slv_ref slot_tmp slot_const slot_func slotL_v slotL_box slotL_ref put_some put_none updBox_c boxSet_box gd_eq slotVals_nil slotVals_c slotVals_b boxV_box boxOn_box slotsOn_nil slotsOn_c slotsOn_b resV_one resV_two vals_nil vals_c allOn_nil allOn_c partOn_nil partOn_c partVals_nil partVals_c fits_nil fits_c fillL_nil fillL_c mkv_one mkv_agg cellsV_agg cellsV_int cellsV_bool cellsV_slice cellsV_string cellsV_pointer cellsV_func cellsV_nilf cellsV_map one'_nil one'_c oc_int oc_bool oc_slice oc_string oc_pointer oc_func oc_nilf oc_map setC_eq iv_add iv_sub iv_mul iv_eql iv_neq iv_lss iv_leq iv_gtr iv_geq iok_add iok_sub iok_mul iok_eql iok_neq iok_lss iok_leq iok_gtr iok_geq pickV_bool args0_nil args0_c bnd_none bnd_some imp_bt imp_bf imp_ebt imp_ebf imp_eb1 imp_np imp_pp beq_tt beq_tf beq_ft beq_ff cond_or cond_and e_round e_meet Int.le_refl Int.toNat_zero decide_true decide_false Bool.or_false Bool.false_or Bool.true_or Bool.or_true Bool.and_false Bool.false_and Bool.bne_false Bool.bne_true beq_iff_eq Int.cast_ofNat_Int not_false_eq_true not_true_eq_false false_and and_false false_implies true_implies true_and and_true Bool.true_and Bool.and_true Bool.not_true Bool.not_false forall_const implies_true List.take_zero List.drop_zero List.take_succ_cons List.drop_succ_cons List.take_nil List.drop_nil List.length_cons List.length_nil List.nil_append List.append_nil List.cons_append Int.toNat_natCast decide_eq_true_eq decide_eq_false_iff_not cond_true cond_false and_self List.getElem?_cons_zero List.getElem?_cons_succ List.set_cons_zero List.set_cons_succ Option.some.injEq exists_eq_left' Nat.zero_add Nat.add_zero Nat.mul_one imp_self true_or or_true or_false false_or Bool.or_eq_true Bool.or_eq_false_iff Bool.and_eq_true Bool.and_eq_false_iff Bool.not_eq_true' Bool.not_eq_false'

theorem plain_draw : opE plainG 1 = 0 ∧ cntT plainG (mostN plainG 1) plainG.st 1 = 1 := by decide +kernel
theorem plain_coins : coinsF 1 [] = some (0, 0) := by decide +kernel
theorem plain_size : (lstT plainG (mostN plainG 1) plainG.st 1).map szT = [2] := by decide +kernel
theorem law_drawTrees {Γr : Ctx} {g : Gr} {cs : List Value} (hg : Rep.ok (lk Γr) g cs) {n : Int} (hn : -9223372036854775808 ≤ n ∧ n ≤ 9223372036854775807) {A : Option Addr} {c : Nat} {coins : List Bool} (hc : SlOk (lk Γr) A c coins) :
    Ret Try.prog 19 [.agg cs.toArray, .int .i64 n, .slice A coins.length c] Γr [] (fun v Γ => Γ = [] ∧ v = .bool true) := by
  obtain ⟨R, cR, rfl, hx⟩ := ok_gr hg
  generalize hR : (fun (v : Value) (Γ : Ctx) => Γ = [] ∧ v = Value.bool true) = R'
  refine ret_of_vc tr19 (Nat.le_of_ble_eq_true rfl) ?_
  simp -implicitDefEqProofs only [S19, S19_0, go_sem, Nat.reduceBEq, Nat.reduceAdd, Nat.reduceSub, Nat.reduceMul, Nat.reduceLeDiff, reduceCtorEq, ↓reduceIte, Int.reduceLT, Int.reduceLE, Int.reduceEq, Int.reduceNe]
  intro bg
  refine CallVC.read (plain_ (Γr := [] ++ Γr)) ?_
  rintro v Γ' ⟨gp, Ap, cp, rfl, hp, rfl⟩
  simp -implicitDefEqProofs only [go_sem, Nat.reduceBEq, Nat.reduceAdd, Nat.reduceSub, Nat.reduceMul, Nat.reduceLeDiff, reduceCtorEq, ↓reduceIte, Int.reduceLT, Int.reduceLE, Int.reduceEq, Int.reduceNe]
  refine CallVC.read (Γ := [gp]) (draw_tree (g := plainG) (Γr := [gp] ++ Γr) (n := 1) (hp.mono (lk_l [gp] Γr)) (by omega) (A := none) (c := 0) (coins := []) SlOk.nil) ?_
  rintro v Γ' (⟨hne, _⟩ | ⟨_, m, hm, _, F1, ⟨hz, _⟩ | ⟨_, ⟨hz, _⟩ | ⟨k, u, x, gk, A1, c1, hcf, hxk, rfl, rfl, hS⟩⟩⟩)
  · exact absurd plain_draw.1 hne
  · obtain rfl : m = 1 := by omega
    rw [plain_draw.2] at hz
    omega
  · obtain rfl : m = 1 := by omega
    rw [plain_draw.2, plain_coins] at hz
    cases hz
  obtain rfl : m = 1 := by omega
  rw [plain_draw.2, plain_coins] at hcf
  simp only [Option.some.injEq, Prod.mk.injEq] at hcf
  obtain ⟨rfl, rfl⟩ := hcf
  have hsz : szT x = 2 := by
    have h1 := plain_size
    have h2 : ((lstT plainG (mostN plainG 1) plainG.st 1).map szT)[0]? = some (szT x) := by rw [List.getElem?_map, hxk]; rfl
    rw [h1] at h2
    simpa using h2.symm
  have hnx := size_start F1 (by omega) (List.mem_of_getElem? hxk)
  simp -implicitDefEqProofs only [go_sem, Nat.reduceBEq, Nat.reduceAdd, Nat.reduceSub, Nat.reduceMul, Nat.reduceLeDiff, reduceCtorEq, ↓reduceIte, Int.reduceLT, Int.reduceLE, Int.reduceEq, Int.reduceNe]
  intro b7
  refine CallVC.read (tree_sizeB x (hS.mono (lk_sub fun g hg => by simp at hg; subst hg; simp)) hnx) ?_
  rintro v Γ' ⟨rfl, rfl⟩
  rw [hsz]
  simp -implicitDefEqProofs only [decide_true, go_sem, Nat.reduceBEq, Nat.reduceAdd, Nat.reduceSub, Nat.reduceMul, Nat.reduceLeDiff, reduceCtorEq, ↓reduceIte, Int.reduceLT, Int.reduceLE, Int.reduceEq, Int.reduceNe]
  clear hsz hnx hxk F1 hS
  have hcount := rank_count (Γr := [gk, gp] ++ Γr) (hx.mono (lk_r [gk, gp] Γr)) hn
  refine CallVC.read (draw_tree (hx.mono (lk_r [gk, gp] Γr)) hn (hc.mono (lk_r [gk, gp] Γr))) ?_
  rintro v Γ' (⟨hne, rfl, rfl⟩ | ⟨h0, m, rfl, hm, F, ⟨hz, rfl, rfl⟩ | ⟨hpos, ⟨hcf, rfl, rfl⟩ | ⟨k, u, x, gx, A2, c2, hcf, hxk, rfl, rfl, hS⟩⟩⟩)
  · simp -implicitDefEqProofs only [go_sem, Nat.reduceBEq, Nat.reduceAdd, Nat.reduceSub, Nat.reduceMul, Nat.reduceLeDiff, reduceCtorEq, ↓reduceIte, Int.reduceLT, Int.reduceLE, Int.reduceEq, Int.reduceNe]
    intro bz
    refine CallVC.read hcount ?_
    rintro v Γ' ⟨rfl, ⟨_, rfl⟩ | ⟨h0, _⟩⟩
    · simp -implicitDefEqProofs only [decide_true, go_sem, Nat.reduceBEq, Nat.reduceAdd, Nat.reduceSub, Nat.reduceMul, Nat.reduceLeDiff, reduceCtorEq, ↓reduceIte, Int.reduceLT, Int.reduceLE, Int.reduceEq, Int.reduceNe]
      refine s_split ?_
      simp -implicitDefEqProofs only [S19_1, decide_true, go_sem, Nat.reduceBEq, Nat.reduceAdd, Nat.reduceSub, Nat.reduceMul, Nat.reduceLeDiff, reduceCtorEq, ↓reduceIte, Int.reduceLT, Int.reduceLE, Int.reduceEq, Int.reduceNe]
      refine ⟨fun h => absurd h hne, fun _ => Up.here ?_⟩
      simp -implicitDefEqProofs only [S19_2, decide_true, go_sem, Nat.reduceBEq, Nat.reduceAdd, Nat.reduceSub, Nat.reduceMul, Nat.reduceLeDiff, reduceCtorEq, ↓reduceIte, Int.reduceLT, Int.reduceLE, Int.reduceEq, Int.reduceNe]
      refine ⟨fun _ => Up.to [] (Ent.nil _) ?_, fun h => absurd h hne⟩
      subst hR
      exact ⟨rfl, rfl⟩
    · exact absurd h0 hne
  · simp -implicitDefEqProofs only [go_sem, Nat.reduceBEq, Nat.reduceAdd, Nat.reduceSub, Nat.reduceMul, Nat.reduceLeDiff, reduceCtorEq, ↓reduceIte, Int.reduceLT, Int.reduceLE, Int.reduceEq, Int.reduceNe]
    intro bz
    refine CallVC.read hcount ?_
    rintro v Γ' ⟨rfl, ⟨hne, _⟩ | ⟨_, m', hmm, _, _, rfl⟩⟩
    · exact absurd h0 hne
    obtain rfl : m' = m := by omega
    rw [hz]
    simp -implicitDefEqProofs only [decide_true, go_sem, Nat.reduceBEq, Nat.reduceAdd, Nat.reduceSub, Nat.reduceMul, Nat.reduceLeDiff, reduceCtorEq, ↓reduceIte, Int.reduceLT, Int.reduceLE, Int.reduceEq, Int.reduceNe]
    refine s_split ?_
    simp -implicitDefEqProofs only [S19_1, decide_true, go_sem, Nat.reduceBEq, Nat.reduceAdd, Nat.reduceSub, Nat.reduceMul, Nat.reduceLeDiff, reduceCtorEq, ↓reduceIte, Int.reduceLT, Int.reduceLE, Int.reduceEq, Int.reduceNe]
    refine Up.here ?_
    simp -implicitDefEqProofs only [S19_2, decide_true, go_sem, Nat.reduceBEq, Nat.reduceAdd, Nat.reduceSub, Nat.reduceMul, Nat.reduceLeDiff, reduceCtorEq, ↓reduceIte, Int.reduceLT, Int.reduceLE, Int.reduceEq, Int.reduceNe]
    refine Up.to [] (Ent.nil _) ?_
    subst hR
    exact ⟨rfl, rfl⟩
  · simp -implicitDefEqProofs only [go_sem, Nat.reduceBEq, Nat.reduceAdd, Nat.reduceSub, Nat.reduceMul, Nat.reduceLeDiff, reduceCtorEq, ↓reduceIte, Int.reduceLT, Int.reduceLE, Int.reduceEq, Int.reduceNe]
    intro bz
    refine CallVC.read hcount ?_
    rintro v Γ' ⟨rfl, ⟨hne, _⟩ | ⟨_, m', hmm, _, _, rfl⟩⟩
    · exact absurd h0 hne
    obtain rfl : m' = m := by omega
    simp -implicitDefEqProofs only [decide_true, go_sem, Nat.reduceBEq, Nat.reduceAdd, Nat.reduceSub, Nat.reduceMul, Nat.reduceLeDiff, reduceCtorEq, ↓reduceIte, Int.reduceLT, Int.reduceLE, Int.reduceEq, Int.reduceNe]
    refine s_split ?_
    simp -implicitDefEqProofs only [S19_1, decide_true, go_sem, Nat.reduceBEq, Nat.reduceAdd, Nat.reduceSub, Nat.reduceMul, Nat.reduceLeDiff, reduceCtorEq, ↓reduceIte, Int.reduceLT, Int.reduceLE, Int.reduceEq, Int.reduceNe]
    refine ⟨fun h => absurd h (by omega), fun _ => Up.here ?_⟩
    have hcoin := ref_coins (Γr := [gk, gp] ++ Γr) (cntT g (mostN g m') g.st m') (by omega) (by have := F.few; omega) A c coins (hc.mono (lk_r [gk, gp] Γr))
    rw [hcf] at hcoin
    simp -implicitDefEqProofs only [S19_2, decide_true, go_sem, Nat.reduceBEq, Nat.reduceAdd, Nat.reduceSub, Nat.reduceMul, Nat.reduceLeDiff, reduceCtorEq, ↓reduceIte, Int.reduceLT, Int.reduceLE, Int.reduceEq, Int.reduceNe]
    refine CallVC.read hcoin ?_
    rintro v Γ' ⟨rfl, rfl⟩
    simp -implicitDefEqProofs only [decide_true, go_sem, Nat.reduceBEq, Nat.reduceAdd, Nat.reduceSub, Nat.reduceMul, Nat.reduceLeDiff, reduceCtorEq, ↓reduceIte, Int.reduceLT, Int.reduceLE, Int.reduceEq, Int.reduceNe]
    refine Up.to [] (Ent.nil _) ?_
    subst hR
    exact ⟨rfl, rfl⟩
  · simp -implicitDefEqProofs only [go_sem, Nat.reduceBEq, Nat.reduceAdd, Nat.reduceSub, Nat.reduceMul, Nat.reduceLeDiff, reduceCtorEq, ↓reduceIte, Int.reduceLT, Int.reduceLE, Int.reduceEq, Int.reduceNe]
    intro bz
    refine CallVC.read (rank_count (Γr := [gx, gk, gp] ++ Γr) (hx.mono (lk_r [gx, gk, gp] Γr)) hn) ?_
    rintro v Γ' ⟨rfl, ⟨hne, _⟩ | ⟨_, m', hmm, _, _, rfl⟩⟩
    · exact absurd h0 hne
    obtain rfl : m' = m := by omega
    simp -implicitDefEqProofs only [decide_true, go_sem, Nat.reduceBEq, Nat.reduceAdd, Nat.reduceSub, Nat.reduceMul, Nat.reduceLeDiff, reduceCtorEq, ↓reduceIte, Int.reduceLT, Int.reduceLE, Int.reduceEq, Int.reduceNe]
    refine s_split ?_
    simp -implicitDefEqProofs only [S19_1, decide_true, go_sem, Nat.reduceBEq, Nat.reduceAdd, Nat.reduceSub, Nat.reduceMul, Nat.reduceLeDiff, reduceCtorEq, ↓reduceIte, Int.reduceLT, Int.reduceLE, Int.reduceEq, Int.reduceNe]
    refine ⟨fun h => absurd h (by omega), fun _ => Up.here ?_⟩
    have hcoin := ref_coins (Γr := [gx, gk, gp] ++ Γr) (cntT g (mostN g m') g.st m') (by omega) (by have := F.few; omega) A c coins (hc.mono (lk_r [gx, gk, gp] Γr))
    rw [hcf] at hcoin
    simp -implicitDefEqProofs only [S19_2, decide_true, go_sem, Nat.reduceBEq, Nat.reduceAdd, Nat.reduceSub, Nat.reduceMul, Nat.reduceLeDiff, reduceCtorEq, ↓reduceIte, Int.reduceLT, Int.reduceLE, Int.reduceEq, Int.reduceNe]
    refine CallVC.read hcoin ?_
    rintro v Γ' ⟨rfl, rfl⟩
    simp -implicitDefEqProofs only [decide_true, go_sem, Nat.reduceBEq, Nat.reduceAdd, Nat.reduceSub, Nat.reduceMul, Nat.reduceLeDiff, reduceCtorEq, ↓reduceIte, Int.reduceLT, Int.reduceLE, Int.reduceEq, Int.reduceNe]
    refine CallVC.read (ref_listed (Γr := [gx, gk, gp] ++ Γr) (hx.mono (lk_r [gx, gk, gp] Γr)) F.V (n := m') (most := 200) (deep := 60) (by omega) (by omega) (by omega)) ?_
    rintro v Γ' (⟨rfl, rfl⟩ | ⟨gl, Al, cl, out, rfl, rfl, hSl, hol, hout⟩)
    · simp -implicitDefEqProofs only [decide_true, go_sem, Nat.reduceBEq, Nat.reduceAdd, Nat.reduceSub, Nat.reduceMul, Nat.reduceLeDiff, reduceCtorEq, ↓reduceIte, Int.reduceLT, Int.reduceLE, Int.reduceEq, Int.reduceNe]
      refine s_idxg (b := 0) (o := 0) (by simp) ?_
      simp -implicitDefEqProofs only [go_sem, Nat.reduceBEq, Nat.reduceAdd, Nat.reduceSub, Nat.reduceMul, Nat.reduceLeDiff, reduceCtorEq, ↓reduceIte, Int.reduceLT, Int.reduceLE, Int.reduceEq, Int.reduceNe]
      refine s_ldg0 (cs := [.int .i64 0, .int .i64 0, .slice none 0 0]) (by simp) (by simp) (by simp) (by simp) ?_
      simp -implicitDefEqProofs only [go_sem, Nat.reduceBEq, Nat.reduceAdd, Nat.reduceSub, Nat.reduceMul, Nat.reduceLeDiff, reduceCtorEq, ↓reduceIte, Int.reduceLT, Int.reduceLE, Int.reduceEq, Int.reduceNe]
      refine ⟨.int .i64 0, ?_⟩
      simp -implicitDefEqProofs only [decide_true, go_sem, Nat.reduceBEq, Nat.reduceAdd, Nat.reduceSub, Nat.reduceMul, Nat.reduceLeDiff, reduceCtorEq, ↓reduceIte, Int.reduceLT, Int.reduceLE, Int.reduceEq, Int.reduceNe]
      refine Up.to [] (Ent.nil _) ?_
      subst hR
      exact ⟨rfl, rfl⟩
    · have hfin := (InS.self g g.st m').fin F (Nat.le_refl m')
      have hlx : lstT g (mostN g m') g.st m' = out := by
        have h1 := hout (max 60 (mostN g m')) (by omega)
        have h2 := lstT_eq (g := g) (h := mostN g m') (h' := max 60 (mostN g m')) (a := g.st) (k := m') (by omega) (hfin _ (by omega)).symm
        exact h2.trans h1
      have hnx := size_start F hm (List.mem_of_getElem? hxk)
      rw [hlx] at hxk
      obtain ⟨hkl, hke⟩ := List.getElem?_eq_some_iff.1 hxk
      obtain ⟨b5, o5, h5, A5, c5, hs5, hc5⟩ := hSl.tr hkl
      rw [hke] at hs5 hc5
      have hdk : decide ((k : Int) < (out.length : Int)) = true := decide_eq_true (by omega)
      simp -implicitDefEqProofs only [decide_true, go_sem, Nat.reduceBEq, Nat.reduceAdd, Nat.reduceSub, Nat.reduceMul, Nat.reduceLeDiff, reduceCtorEq, ↓reduceIte, Int.reduceLT, Int.reduceLE, Int.reduceEq, Int.reduceNe]
      simp only [hdk]
      refine s_idx h5 (by omega) (by omega) ?_
      simp -implicitDefEqProofs only [go_sem, Nat.reduceBEq, Nat.reduceAdd, Nat.reduceSub, Nat.reduceMul, Nat.reduceLeDiff, reduceCtorEq, ↓reduceIte, Int.reduceLT, Int.reduceLE, Int.reduceEq, Int.reduceNe]
      refine s_ld0 (by simpa using hc5 _ (lk_l [gl] ([gx, gk, gp] ++ Γr))) (by simp) (by simp) ?_
      simp -implicitDefEqProofs only [go_sem, Nat.reduceBEq, Nat.reduceAdd, Nat.reduceSub, Nat.reduceMul, Nat.reduceLeDiff, reduceCtorEq, ↓reduceIte, Int.reduceLT, Int.reduceLE, Int.reduceEq, Int.reduceNe]
      refine CallVC.read (tree_compare x (hS.mono (lk_sub fun g hg => by simp at hg; subst hg; simp)) (hs5.mono (lk_sub fun g hg => by simp at hg; subst hg; simp)) hnx) ?_
      rintro v Γ' ⟨rfl, rfl⟩
      simp -implicitDefEqProofs only [decide_true, go_sem, Nat.reduceBEq, Nat.reduceAdd, Nat.reduceSub, Nat.reduceMul, Nat.reduceLeDiff, reduceCtorEq, ↓reduceIte, Int.reduceLT, Int.reduceLE, Int.reduceEq, Int.reduceNe]
      refine Up.to [] (Ent.nil _) ?_
      subst hR
      exact ⟨rfl, rfl⟩
end Go.Proofs.Ytniobbepliknmaa.V
