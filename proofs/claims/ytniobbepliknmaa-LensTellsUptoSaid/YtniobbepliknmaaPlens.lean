/- Lengths of words: lens.sums walked; no condition. -/
import Derived.Test.YtniobbepliknmaaPck
import Derived.Test.YtniobbepliknmaaPgrid
import Derived.Test.YtniobbepliknmaaS113
import Derived.Test.YtniobbepliknmaaS39
namespace Go.Proofs.Ytniobbepliknmaa.V
open Go
set_option linter.unusedVariables false
set_option linter.unusedSimpArgs false
attribute [local go_sem] e_seq e_region e_quiet e_join e_loop e_cond e_block e_exit e_ret e_skip e_fin e_kseq e_snrm e_sret e_sex e_bnrm e_bret e_bex e_rnrm e_rret e_res e_condC e_nil e_g e_mv g_mv e_pick g_pick pickC_eq e_ibin g_ibin ibinC_eq e_sbin g_sbin e_beq g_beq beqC_eq e_nilq g_nilq nilqC_sl nilqC_pt nilqC_mp e_un g_un unC_not unC_neg e_conv g_conv convC_eq e_fld g_fld fldC_ref fldC_ptr e_nilCheck g_nilCheck nilCheckC_ref nilCheckC_ptr nilCheckC_fun e_field g_field fieldC_eq e_len g_len lenC_sl lenC_str e_extract g_extract extractC_eq e_mkFunc e_build g_build e_idiv g_idiv idivC_eq e_ishift g_ishift ishiftC_eq e_idx g_idx e_idxA g_idxA e_load g_load loadC_ref loadC_ptr loadB_eq e_slc g_slc e_box boxC_loc boxC_esc e_alloc allocC_loc allocC_esc e_buildS e_store storeC_ref storeC_ptr storeB_eq e_append e_appz e_mk mkC_eq e_call callC_eq e_fn g_fn fnC_eq fnV_min' fnV_max' fnV_rune' e_q g_q e_a e_n g_call g_box g_alloc g_buildS g_store g_append g_mk g_a g_n g_dead e_dead e_callK e_drawn e_tree e_finJ e_tk e_tfin e_tno e_nbt_q e_nbt_qn e_nbt_a e_nbt_an e_nbt_fin e_early_nil e_early_t e_early_f e_nob_nil e_nob_none e_nob_some isBox_dead isBox_v isBox_ref e_dnil e_dk e_ek e_finB vcOps_vc1 e_dcons e_tq e_ekt e_tearly e_talt e_dearly look_nil look_c proj_nil proj_c looks_nil looks_c zip_nil zip_c val_tmp val_const val_func slv_v slv_box slv_ref slot_tmp slot_const slot_func slotL_v slotL_box slotL_ref put_some put_none updBox_c boxSet_box gd_eq slotVals_nil slotVals_c slotVals_b boxV_box boxOn_box slotsOn_nil slotsOn_c slotsOn_b resV_one resV_two vals_nil vals_c allOn_nil allOn_c partOn_nil partOn_c partVals_nil partVals_c fits_nil fits_c fillL_nil fillL_c mkv_one mkv_agg cellsV_agg cellsV_int cellsV_bool cellsV_slice cellsV_string cellsV_pointer cellsV_func cellsV_nilf cellsV_map one'_nil one'_c oc_int oc_bool oc_slice oc_string oc_pointer oc_func oc_nilf oc_map setC_eq iv_add iv_sub iv_mul iv_eql iv_neq iv_lss iv_leq iv_gtr iv_geq iok_add iok_sub iok_mul iok_eql iok_neq iok_lss iok_leq iok_gtr iok_geq pickV_bool args0_nil args0_c bnd_none bnd_some imp_bt imp_bf imp_ebt imp_ebf imp_eb1 imp_np imp_pp beq_tt beq_tf beq_ft beq_ff cond_or cond_and e_round e_meet Int.le_refl Int.toNat_zero decide_true decide_false Bool.or_false Bool.false_or Bool.true_or Bool.or_true Bool.and_false Bool.false_and Bool.bne_false Bool.bne_true beq_iff_eq Int.cast_ofNat_Int not_false_eq_true not_true_eq_false false_and and_false false_implies true_implies true_and and_true Bool.true_and Bool.and_true Bool.not_true Bool.not_false forall_const implies_true List.take_zero List.drop_zero List.take_succ_cons List.drop_succ_cons List.take_nil List.drop_nil List.length_cons List.length_nil List.nil_append List.append_nil List.cons_append Int.toNat_natCast decide_eq_true_eq decide_eq_false_iff_not cond_true cond_false and_self List.getElem?_cons_zero List.getElem?_cons_succ List.set_cons_zero List.set_cons_succ Option.some.injEq exists_eq_left' Nat.zero_add Nat.add_zero Nat.mul_one imp_self true_or or_true or_false false_or Bool.or_eq_true Bool.or_eq_false_iff Bool.and_eq_true Bool.and_eq_false_iff Bool.not_eq_true' Bool.not_eq_false'

/-- the lengths of one symbol -/
def oneL (rows : List (List Bool)) (s : Sy) (j : Nat) : Bool := if s.t then decide (j = 1) else (rows.getD s.n.toNat []).getD j false
/-- the lengths that symbols have together -/
def SumP (rows : List (List Bool)) : List Sy → Nat → Prop
  | [], m => m = 0
  | s :: l, m => ∃ j, j ≤ m ∧ oneL rows s j = true ∧ SumP rows l (m - j)
theorem SumP_snoc {rows : List (List Bool)} {s : Sy} : ∀ {l : List Sy} {m : Nat}, SumP rows (l ++ [s]) m ↔ ∃ k, k ≤ m ∧ SumP rows l k ∧ oneL rows s (m - k) = true
  | [], m => by
    simp only [List.nil_append, SumP]
    constructor
    · rintro ⟨j, h1, h2, h3⟩
      exact ⟨0, by omega, rfl, by rw [show m - 0 = j by omega]; exact h2⟩
    · rintro ⟨k, h1, rfl, h3⟩
      exact ⟨m, by omega, by simpa using h3, by omega⟩
  | t :: l, m => by
    simp only [List.cons_append, SumP]
    constructor
    · rintro ⟨j, h1, h2, h3⟩
      obtain ⟨k, q1, q2, q3⟩ := SumP_snoc.1 h3
      exact ⟨j + k, by omega, ⟨j, by omega, h2, by rw [show j + k - j = k by omega]; exact q2⟩, by rw [show m - (j + k) = m - j - k by omega]; exact q3⟩
    · rintro ⟨k, h1, ⟨j, q1, q2, q3⟩, q4⟩
      exact ⟨j, by omega, q2, SumP_snoc.2 ⟨k - j, by omega, q3, by rw [show m - j - (k - j) = m - k by omega]; exact q4⟩⟩

/-- what is found after rounds k and j -/
def QP (rows : List (List Bool)) (s : Sy) (at' : List Bool) (k j m : Nat) : Prop := ∃ k', k' ≤ m ∧ (k' < k ∨ k' = k ∧ m - k' < j) ∧ at'.getD k' false = true ∧ oneL rows s (m - k') = true
/-- a row that tells which -/
def Tells (n : Nat) (xs : List Bool) (p : Nat → Prop) : Prop := xs.length = n + 1 ∧ ∀ m (h : m < xs.length), xs[m] = true ↔ p m
theorem Tells.congr {n : Nat} {xs : List Bool} {p q : Nat → Prop} (h : Tells n xs p) (hq : ∀ m, m ≤ n → (p m ↔ q m)) : Tells n xs q := ⟨h.1, fun m hm => (h.2 m hm).trans (hq m (by have := h.1; omega))⟩
theorem Tells.set {n : Nat} {xs : List Bool} {p q : Nat → Prop} (h : Tells n xs p) {i : Nat} (hi : i < xs.length) {x : Bool} (hx : x = true ↔ q i) (hq : ∀ m, m ≠ i → (p m ↔ q m)) : Tells n (xs.set i x) q := by
  refine ⟨by simpa using h.1, fun m hm => ?_⟩
  rw [List.getElem_set]
  split
  · rename_i e; subst e; exact hx
  · rename_i e; exact (h.2 m (by simpa using hm)).trans (hq m fun q => e q.symm)

theorem Arr.mono {α : Type} [Sc α] {g g' : PH} {b : Nat} {T : TypeId} {xs : List α} (h : Arr g b T xs) (hl : Mem.le (lk [g]) (lk [g'])) : Arr g' b T xs := lk_one.1 (hl _ _ (lk_one.2 h))
theorem Arr.bool {g : PH} {b : Nat} {T : TypeId} {xs : List Bool} (h : Arr g b T xs) {i : Nat} (hi : i < xs.length) {Γ : Ctx} (hg : g ∈ Γ) : Cells Γ b i [.bool xs[i]] := h.cell hi hg
theorem QP_skip {rows : List (List Bool)} {s : Sy} {at' : List Bool} {i m : Nat} (h : at'.getD i false = false) : QP rows s at' i 0 m ↔ QP rows s at' (i + 1) 0 m := by
  constructor
  · rintro ⟨k', h1, h2, h3, h4⟩
    exact ⟨k', h1, .inl (by omega), h3, h4⟩
  · rintro ⟨k', h1, h2, h3, h4⟩
    refine ⟨k', h1, .inl ?_, h3, h4⟩
    by_cases e : k' = i
    · subst e; rw [h] at h3; cases h3
    · omega
theorem QP_end {rows : List (List Bool)} {s : Sy} {at' : List Bool} {i m n : Nat} (hm : m ≤ n) (hi : i ≤ n) : QP rows s at' i (n + 1 - i) m ↔ QP rows s at' (i + 1) 0 m := by
  constructor
  · rintro ⟨k', h1, h2, h3, h4⟩
    exact ⟨k', h1, .inl (by omega), h3, h4⟩
  · rintro ⟨k', h1, h2, h3, h4⟩
    refine ⟨k', h1, ?_, h3, h4⟩
    omega
theorem QP_step {rows : List (List Bool)} {s : Sy} {at' : List Bool} {i j m : Nat} (h : at'.getD i false = true) : QP rows s at' i (j + 1) m ↔ QP rows s at' i j m ∨ m = i + j ∧ oneL rows s j = true := by
  constructor
  · rintro ⟨k', h1, h2, h3, h4⟩
    by_cases e : k' = i ∧ m - k' = j
    · exact .inr ⟨by omega, by rw [← e.2]; exact h4⟩
    · exact .inl ⟨k', h1, by omega, h3, h4⟩
  · rintro (⟨k', h1, h2, h3, h4⟩ | ⟨h1, h2⟩)
    · exact ⟨k', h1, by omega, h3, h4⟩
    · exact ⟨i, by omega, .inr ⟨rfl, by omega⟩, h, by rw [show m - i = j by omega]; exact h2⟩
theorem QP_all {rows : List (List Bool)} {s : Sy} {at' : List Bool} {n m : Nat} (hm : m ≤ n) {p : Nat → Prop} (hT : Tells n at' p) : QP rows s at' (n + 1) 0 m ↔ ∃ k, k ≤ m ∧ p k ∧ oneL rows s (m - k) = true := by
  have hp : ∀ k, k ≤ n → (at'.getD k false = true ↔ p k) := fun k hk => by
    have hk' : k < at'.length := by have := hT.1; omega
    rw [← hT.2 k hk']
    simp [hk']
  constructor
  · rintro ⟨k', h1, h2, h3, h4⟩
    exact ⟨k', h1, (hp k' (by omega)).1 h3, h4⟩
  · rintro ⟨k', h1, h3, h4⟩
    exact ⟨k', h1, .inl (by omega), (hp k' (by omega)).2 h3, h4⟩
theorem lens_sums {Γr : Ctx} {A B : Option Addr} {c d : Nat} {l : List Sy} {rows : List (List Bool)} (n : Nat) (hn : n ≤ 1000) (hl : SlOk (lk Γr) A c l) (hr : SlOk (lk Γr) B d rows) (hrow : ∀ x ∈ rows, x.length = n + 1) (hin : ∀ s ∈ l, s.t = false → 0 ≤ s.n ∧ s.n.toNat < rows.length) :
    Ret Try.prog 113 [.slice A l.length c, .slice B rows.length d, .int .i64 n] Γr [] (fun v Γ => ∃ g b xs, Γ = [g] ∧ v = .slice (some ⟨b, 0, none⟩) (n + 1) (n + 1) ∧ Arr g b 4 xs ∧ Tells n xs (SumP rows l)) := by
  generalize hR : (fun (v : Value) (Γ : Ctx) => ∃ g b xs, _) = R
  refine ret_of_vc tr113 (Nat.le_of_ble_eq_true rfl) ?_
  have hls := hl.short
  have hrs := hr.short
  simp -implicitDefEqProofs only [S113, S113_0, go_sem, Nat.reduceBEq, Nat.reduceAdd, Nat.reduceSub, Nat.reduceMul, Nat.reduceLeDiff, reduceCtorEq, ↓reduceIte, Int.reduceLT, Int.reduceLE, Int.reduceEq, Int.reduceNe]
  simp (disch := omega) only [wrap_id]
  refine ⟨by omega, by omega, fun b => ?_⟩
  rw [show ((n : Int) + 1).toNat = n + 1 by omega]
  refine s_idx rfl (by omega) (by omega) ?_
  simp -implicitDefEqProofs only [go_sem, Nat.reduceBEq, Nat.reduceAdd, Nat.reduceSub, Nat.reduceMul, Nat.reduceLeDiff, reduceCtorEq, ↓reduceIte, Int.reduceLT, Int.reduceLE, Int.reduceEq, Int.reduceNe]
  refine s_storeA (ix := 0) true rfl (Arr.made false b 4 (n + 1)) (by simp) ?_
  intro g hA _
  simp -implicitDefEqProofs only [go_sem, Nat.reduceBEq, Nat.reduceAdd, Nat.reduceSub, Nat.reduceMul, Nat.reduceLeDiff, reduceCtorEq, ↓reduceIte, Int.reduceLT, Int.reduceLE, Int.reduceEq, Int.reduceNe]
  refine s_loop (fun f vs Γ => ∃ g, Γ = [g] ∧ ∃ (k b : Nat) (xs : List Bool), vs = [.v true (.slice (some ⟨b, 0, none⟩) (n + 1) (n + 1)), .v true (.int .i64 k)] ∧ k + f = l.length ∧ Arr g b 4 xs ∧ Tells n xs (SumP rows (l.take k))) l.length
    (Up.here ⟨_, rfl, 0, b, _, rfl, by omega, hA, Tells.set (p := fun _ => False) ⟨by simp, fun m hm => by simp⟩ (by simp) (by simp [SumP]) (fun m hm => by simpa [SumP] using hm)⟩) ?_
  rintro f vs Γ ⟨g, rfl, k, b, at', rfl, hkf, hA, hT⟩
  simp -implicitDefEqProofs only [S113_5, go_sem, Nat.reduceBEq, Nat.reduceAdd, Nat.reduceSub, Nat.reduceMul, Nat.reduceLeDiff, reduceCtorEq, ↓reduceIte, Int.reduceLT, Int.reduceLE, Int.reduceEq, Int.reduceNe]
  refine ⟨fun hlt => ?_, fun hge => ?_⟩
  · have hk : k < l.length := by omega
    obtain ⟨b1, o1, hA1, hc1⟩ := hl.sy hk
    refine s_idx hA1 (by omega) (by omega) ?_
    simp -implicitDefEqProofs only [go_sem, Nat.reduceBEq, Nat.reduceAdd, Nat.reduceSub, Nat.reduceMul, Nat.reduceLeDiff, reduceCtorEq, ↓reduceIte, Int.reduceLT, Int.reduceLE, Int.reduceEq, Int.reduceNe]
    refine s_ld0 (hc1 _ (lk_r _ _)) (by simp) (by simp) ?_
    simp -implicitDefEqProofs only [go_sem, Nat.reduceBEq, Nat.reduceAdd, Nat.reduceSub, Nat.reduceMul, Nat.reduceLeDiff, reduceCtorEq, ↓reduceIte, Int.reduceLT, Int.reduceLE, Int.reduceEq, Int.reduceNe]
    simp (disch := omega) only [wrap_id]
    intro b2
    refine ⟨by omega, by omega, fun b3 => ?_⟩
    rw [show ((n : Int) + 1).toNat = n + 1 by omega]
    have hal := hT.1
    refine s_loop (fun f' vs Γ => ∃ gx g, Γ = [gx, g] ∧ Arr g b 4 at' ∧ ∃ (i : Nat) (xs : List Bool), vs = [.v true (.int .i64 i)] ∧ i + f' = n + 1 ∧ Arr gx b3 4 xs ∧ Tells n xs (QP rows l[k] at' i 0)) (n + 1)
      (Up.here ⟨_, _, rfl, hA, 0, _, rfl, by omega, Arr.made false b3 4 (n + 1), ⟨by simp, fun m hm => by simp [QP]⟩⟩) ?_
    rintro f' vs Γ ⟨gx, g, rfl, hA, i, xs, rfl, hif, hX, hTx⟩
    have hxl := hTx.1
    simp -implicitDefEqProofs only [S113_4, go_sem, Nat.reduceBEq, Nat.reduceAdd, Nat.reduceSub, Nat.reduceMul, Nat.reduceLeDiff, reduceCtorEq, ↓reduceIte, Int.reduceLT, Int.reduceLE, Int.reduceEq, Int.reduceNe]
    refine ⟨fun hlt => ?_, fun hge => ?_⟩
    · have hi : i < at'.length := by omega
      refine s_split ?_
      simp -implicitDefEqProofs only [S113_2, S113_3, go_sem, Nat.reduceBEq, Nat.reduceAdd, Nat.reduceSub, Nat.reduceMul, Nat.reduceLeDiff, reduceCtorEq, ↓reduceIte, Int.reduceLT, Int.reduceLE, Int.reduceEq, Int.reduceNe]
      refine s_idx rfl (by omega) (by omega) ?_
      simp -implicitDefEqProofs only [go_sem, Nat.reduceBEq, Nat.reduceAdd, Nat.reduceSub, Nat.reduceMul, Nat.reduceLeDiff, reduceCtorEq, ↓reduceIte, Int.reduceLT, Int.reduceLE, Int.reduceEq, Int.reduceNe]
      refine s_ld0 (hA.bool hi (by simp)) (by simp) (by simp) ?_
      simp -implicitDefEqProofs only [go_sem, Nat.reduceBEq, Nat.reduceAdd, Nat.reduceSub, Nat.reduceMul, Nat.reduceLeDiff, reduceCtorEq, ↓reduceIte, Int.reduceLT, Int.reduceLE, Int.reduceEq, Int.reduceNe]
      have hgd : at'.getD i false = at'[i] := by simp [hi]
      refine ⟨fun hf => ?_, fun ht => ?_⟩
      · simp (disch := omega) only [wrap_id]
        exact Up.here ⟨f' - 1, by omega, Up.here ⟨_, _, rfl, hA, i + 1, _, rfl, by omega, hX, hTx.congr fun m _ => QP_skip (by rw [hgd, hf])⟩⟩
      · simp (disch := omega) only [wrap_id]
        refine s_loop (fun f2 vs Γ => ∃ gx g, Γ = [gx, g] ∧ Arr g b 4 at' ∧ ∃ (j : Nat) (xs : List Bool), vs = [.v true (.int .i64 j)] ∧ j + f2 = n + 1 - i ∧ Arr gx b3 4 xs ∧ Tells n xs (QP rows l[k] at' i j)) (n + 1 - i)
          (Up.here ⟨_, _, rfl, hA, 0, _, rfl, by omega, hX, hTx⟩) ?_
        rintro f2 vs Γ ⟨gx, g, rfl, hA, j, xs, rfl, hjf, hX, hTx⟩
        have hxl := hTx.1
        simp -implicitDefEqProofs only [S113_1, go_sem, Nat.reduceBEq, Nat.reduceAdd, Nat.reduceSub, Nat.reduceMul, Nat.reduceLeDiff, reduceCtorEq, ↓reduceIte, Int.reduceLT, Int.reduceLE, Int.reduceEq, Int.reduceNe]
        refine ⟨fun hlt => ?_, fun hge => ?_⟩
        · have hij : i + j < xs.length := by omega
          simp (disch := omega) only [wrap_id]
          refine s_idx rfl (by omega) (by omega) ?_
          simp -implicitDefEqProofs only [go_sem, Nat.reduceBEq, Nat.reduceAdd, Nat.reduceSub, Nat.reduceMul, Nat.reduceLeDiff, reduceCtorEq, ↓reduceIte, Int.reduceLT, Int.reduceLE, Int.reduceEq, Int.reduceNe]
          rw [show ((i : Int) + (j : Int)).toNat = i + j by omega]
          refine s_ld0 (hX.bool hij (by simp)) (by simp) (by simp) ?_
          have hstep : ∀ x : Bool, (x = true ↔ xs[i + j] = true ∨ oneL rows l[k] j = true) → Tells n (xs.set (i + j) x) (QP rows l[k] at' i (j + 1)) := fun x hx => by
            refine hTx.set hij ?_ fun m hm => ?_
            · rw [QP_step (by rw [hgd, ht]), hx, hTx.2 _ hij]
              simp
            · rw [QP_step (by rw [hgd, ht])]
              exact ⟨.inl, fun q => q.resolve_right fun q => hm q.1⟩
          generalize hxo : xs[i + j] = o at hstep ⊢
          have hlk : l[k] ∈ l := List.getElem_mem hk
          generalize hls' : l[k] = s at *
          obtain ⟨t, sn⟩ := s
          cases o <;> cases t
          all_goals
            simp -implicitDefEqProofs only [go_sem, Nat.reduceBEq, Nat.reduceAdd, Nat.reduceSub, Nat.reduceMul, Nat.reduceLeDiff, reduceCtorEq, ↓reduceIte, Int.reduceLT, Int.reduceLE, Int.reduceEq, Int.reduceNe]
          · have hsn := hin _ hlk rfl
            simp only at hsn
            have hsn2 : sn.toNat < rows.length := hsn.2
            have hrl : rows[sn.toNat].length = n + 1 := hrow _ (List.getElem_mem hsn2)
            obtain ⟨b5, o5, hA5, A6, c6, hs6, hc6⟩ := hr.list hsn2
            refine s_idx hA5 (by omega) (by omega) ?_
            simp -implicitDefEqProofs only [go_sem, Nat.reduceBEq, Nat.reduceAdd, Nat.reduceSub, Nat.reduceMul, Nat.reduceLeDiff, reduceCtorEq, ↓reduceIte, Int.reduceLT, Int.reduceLE, Int.reduceEq, Int.reduceNe]
            refine s_ld0 (hc6 _ (lk_r _ _)) (by simp) (by simp) ?_
            simp -implicitDefEqProofs only [go_sem, Nat.reduceBEq, Nat.reduceAdd, Nat.reduceSub, Nat.reduceMul, Nat.reduceLeDiff, reduceCtorEq, ↓reduceIte, Int.reduceLT, Int.reduceLE, Int.reduceEq, Int.reduceNe]
            obtain ⟨b7, o7, hA7, hc7⟩ := hs6.bool (i := j) (by omega)
            refine s_idx hA7 (by omega) (by omega) ?_
            simp -implicitDefEqProofs only [go_sem, Nat.reduceBEq, Nat.reduceAdd, Nat.reduceSub, Nat.reduceMul, Nat.reduceLeDiff, reduceCtorEq, ↓reduceIte, Int.reduceLT, Int.reduceLE, Int.reduceEq, Int.reduceNe]
            refine s_ld0 (hc7 _ (lk_r _ _)) (by simp) (by simp) ?_
            simp -implicitDefEqProofs only [go_sem, Nat.reduceBEq, Nat.reduceAdd, Nat.reduceSub, Nat.reduceMul, Nat.reduceLeDiff, reduceCtorEq, ↓reduceIte, Int.reduceLT, Int.reduceLE, Int.reduceEq, Int.reduceNe]
            refine s_idx rfl (by omega) (by omega) ?_
            simp -implicitDefEqProofs only [go_sem, Nat.reduceBEq, Nat.reduceAdd, Nat.reduceSub, Nat.reduceMul, Nat.reduceLeDiff, reduceCtorEq, ↓reduceIte, Int.reduceLT, Int.reduceLE, Int.reduceEq, Int.reduceNe]
            rw [show ((i : Int) + (j : Int)).toNat = i + j by omega]
            refine s_storeA (ix := 0) (rows[sn.toNat][j]) rfl hX hij ?_
            intro gx' hX' _
            simp -implicitDefEqProofs only [go_sem, Nat.reduceBEq, Nat.reduceAdd, Nat.reduceSub, Nat.reduceMul, Nat.reduceLeDiff, reduceCtorEq, ↓reduceIte, Int.reduceLT, Int.reduceLE, Int.reduceEq, Int.reduceNe]
            simp (disch := omega) only [wrap_id]
            exact ⟨f2 - 1, by omega, Up.here ⟨_, _, rfl, hA, j + 1, _, rfl, by omega, hX', hstep _ (by simp [oneL, hsn2, show j < rows[sn.toNat].length by omega])⟩⟩
          · refine s_idxg (b := 0) (o := 0) (by simp) ?_
            simp -implicitDefEqProofs only [go_sem, Nat.reduceBEq, Nat.reduceAdd, Nat.reduceSub, Nat.reduceMul, Nat.reduceLeDiff, reduceCtorEq, ↓reduceIte, Int.reduceLT, Int.reduceLE, Int.reduceEq, Int.reduceNe]
            refine s_ldg0 (cs := [.slice none 0 0]) (by simp) (by simp) (by simp) (by simp) ?_
            simp -implicitDefEqProofs only [go_sem, Nat.reduceBEq, Nat.reduceAdd, Nat.reduceSub, Nat.reduceMul, Nat.reduceLeDiff, reduceCtorEq, ↓reduceIte, Int.reduceLT, Int.reduceLE, Int.reduceEq, Int.reduceNe]
            refine s_idxg (b := 0) (o := 0) (by simp) ?_
            simp -implicitDefEqProofs only [go_sem, Nat.reduceBEq, Nat.reduceAdd, Nat.reduceSub, Nat.reduceMul, Nat.reduceLeDiff, reduceCtorEq, ↓reduceIte, Int.reduceLT, Int.reduceLE, Int.reduceEq, Int.reduceNe]
            refine s_ldg0 (cs := [.bool false]) (by simp) (by simp) (by simp) (by simp) ?_
            simp -implicitDefEqProofs only [go_sem, Nat.reduceBEq, Nat.reduceAdd, Nat.reduceSub, Nat.reduceMul, Nat.reduceLeDiff, reduceCtorEq, ↓reduceIte, Int.reduceLT, Int.reduceLE, Int.reduceEq, Int.reduceNe]
            refine s_idx rfl (by omega) (by omega) ?_
            simp -implicitDefEqProofs only [go_sem, Nat.reduceBEq, Nat.reduceAdd, Nat.reduceSub, Nat.reduceMul, Nat.reduceLeDiff, reduceCtorEq, ↓reduceIte, Int.reduceLT, Int.reduceLE, Int.reduceEq, Int.reduceNe]
            rw [show ((i : Int) + (j : Int)).toNat = i + j by omega]
            refine s_storeA (ix := 0) (decide ((j : Int) = 1)) rfl hX hij ?_
            intro gx' hX' _
            simp -implicitDefEqProofs only [go_sem, Nat.reduceBEq, Nat.reduceAdd, Nat.reduceSub, Nat.reduceMul, Nat.reduceLeDiff, reduceCtorEq, ↓reduceIte, Int.reduceLT, Int.reduceLE, Int.reduceEq, Int.reduceNe]
            simp (disch := omega) only [wrap_id]
            exact ⟨f2 - 1, by omega, Up.here ⟨_, _, rfl, hA, j + 1, _, rfl, by omega, hX', hstep _ (by simp [oneL]; omega)⟩⟩
          · refine s_idxg (b := 0) (o := 0) (by simp) ?_
            simp -implicitDefEqProofs only [go_sem, Nat.reduceBEq, Nat.reduceAdd, Nat.reduceSub, Nat.reduceMul, Nat.reduceLeDiff, reduceCtorEq, ↓reduceIte, Int.reduceLT, Int.reduceLE, Int.reduceEq, Int.reduceNe]
            refine s_ldg0 (cs := [.slice none 0 0]) (by simp) (by simp) (by simp) (by simp) ?_
            simp -implicitDefEqProofs only [go_sem, Nat.reduceBEq, Nat.reduceAdd, Nat.reduceSub, Nat.reduceMul, Nat.reduceLeDiff, reduceCtorEq, ↓reduceIte, Int.reduceLT, Int.reduceLE, Int.reduceEq, Int.reduceNe]
            refine s_idxg (b := 0) (o := 0) (by simp) ?_
            simp -implicitDefEqProofs only [go_sem, Nat.reduceBEq, Nat.reduceAdd, Nat.reduceSub, Nat.reduceMul, Nat.reduceLeDiff, reduceCtorEq, ↓reduceIte, Int.reduceLT, Int.reduceLE, Int.reduceEq, Int.reduceNe]
            refine s_ldg0 (cs := [.bool false]) (by simp) (by simp) (by simp) (by simp) ?_
            simp -implicitDefEqProofs only [go_sem, Nat.reduceBEq, Nat.reduceAdd, Nat.reduceSub, Nat.reduceMul, Nat.reduceLeDiff, reduceCtorEq, ↓reduceIte, Int.reduceLT, Int.reduceLE, Int.reduceEq, Int.reduceNe]
            refine s_idx rfl (by omega) (by omega) ?_
            simp -implicitDefEqProofs only [go_sem, Nat.reduceBEq, Nat.reduceAdd, Nat.reduceSub, Nat.reduceMul, Nat.reduceLeDiff, reduceCtorEq, ↓reduceIte, Int.reduceLT, Int.reduceLE, Int.reduceEq, Int.reduceNe]
            rw [show ((i : Int) + (j : Int)).toNat = i + j by omega]
            refine s_storeA (ix := 0) (true) rfl hX hij ?_
            intro gx' hX' _
            simp -implicitDefEqProofs only [go_sem, Nat.reduceBEq, Nat.reduceAdd, Nat.reduceSub, Nat.reduceMul, Nat.reduceLeDiff, reduceCtorEq, ↓reduceIte, Int.reduceLT, Int.reduceLE, Int.reduceEq, Int.reduceNe]
            simp (disch := omega) only [wrap_id]
            exact ⟨f2 - 1, by omega, Up.here ⟨_, _, rfl, hA, j + 1, _, rfl, by omega, hX', hstep _ (by simp)⟩⟩
          · refine s_idxg (b := 0) (o := 0) (by simp) ?_
            simp -implicitDefEqProofs only [go_sem, Nat.reduceBEq, Nat.reduceAdd, Nat.reduceSub, Nat.reduceMul, Nat.reduceLeDiff, reduceCtorEq, ↓reduceIte, Int.reduceLT, Int.reduceLE, Int.reduceEq, Int.reduceNe]
            refine s_ldg0 (cs := [.slice none 0 0]) (by simp) (by simp) (by simp) (by simp) ?_
            simp -implicitDefEqProofs only [go_sem, Nat.reduceBEq, Nat.reduceAdd, Nat.reduceSub, Nat.reduceMul, Nat.reduceLeDiff, reduceCtorEq, ↓reduceIte, Int.reduceLT, Int.reduceLE, Int.reduceEq, Int.reduceNe]
            refine s_idxg (b := 0) (o := 0) (by simp) ?_
            simp -implicitDefEqProofs only [go_sem, Nat.reduceBEq, Nat.reduceAdd, Nat.reduceSub, Nat.reduceMul, Nat.reduceLeDiff, reduceCtorEq, ↓reduceIte, Int.reduceLT, Int.reduceLE, Int.reduceEq, Int.reduceNe]
            refine s_ldg0 (cs := [.bool false]) (by simp) (by simp) (by simp) (by simp) ?_
            simp -implicitDefEqProofs only [go_sem, Nat.reduceBEq, Nat.reduceAdd, Nat.reduceSub, Nat.reduceMul, Nat.reduceLeDiff, reduceCtorEq, ↓reduceIte, Int.reduceLT, Int.reduceLE, Int.reduceEq, Int.reduceNe]
            refine s_idx rfl (by omega) (by omega) ?_
            simp -implicitDefEqProofs only [go_sem, Nat.reduceBEq, Nat.reduceAdd, Nat.reduceSub, Nat.reduceMul, Nat.reduceLeDiff, reduceCtorEq, ↓reduceIte, Int.reduceLT, Int.reduceLE, Int.reduceEq, Int.reduceNe]
            rw [show ((i : Int) + (j : Int)).toNat = i + j by omega]
            refine s_storeA (ix := 0) (true) rfl hX hij ?_
            intro gx' hX' _
            simp -implicitDefEqProofs only [go_sem, Nat.reduceBEq, Nat.reduceAdd, Nat.reduceSub, Nat.reduceMul, Nat.reduceLeDiff, reduceCtorEq, ↓reduceIte, Int.reduceLT, Int.reduceLE, Int.reduceEq, Int.reduceNe]
            simp (disch := omega) only [wrap_id]
            exact ⟨f2 - 1, by omega, Up.here ⟨_, _, rfl, hA, j + 1, _, rfl, by omega, hX', hstep _ (by simp)⟩⟩
        · have hj : j = n + 1 - i := by omega
          subst hj
          exact Up.here ⟨f' - 1, by omega, Up.here ⟨_, _, rfl, hA, i + 1, _, rfl, by omega, hX, hTx.congr fun m hm => QP_end hm (by omega)⟩⟩
    · have hi : i = n + 1 := by omega
      subst hi
      simp (disch := omega) only [wrap_id]
      refine ⟨f - 1, by omega, Up.sel [[0]] (by decide) fun _ _ => ⟨_, rfl, k + 1, b3, xs, rfl, by omega, hX, hTx.congr fun m hm => ?_⟩⟩
      rw [QP_all hm hT, List.take_succ_eq_append_getElem hk, SumP_snoc]
  · have hk : k = l.length := by omega
    rw [hk, List.take_length] at hT
    refine Up.here ?_
    subst hR
    exact ⟨_, _, _, rfl, rfl, hA, hT⟩
end Go.Proofs.Ytniobbepliknmaa.V
