/- Texts put together, in the order in which they build; each says what it proves; no condition. -/
import Derived.Test.YtniobbepliknmaaM4
import Derived.Test.YtniobbepliknmaaM2
import Derived.Test.YtniobbepliknmaaProg
/- Lengths of words: lens.sums walked; no condition. -/
namespace Go.Proofs.Ytniobbepliknmaa.V
open Go
set_option linter.unusedVariables false
set_option linter.unusedSimpArgs false
attribute [local go_sem] e_seq e_region e_quiet e_join e_loop e_cond e_block e_exit e_ret e_skip e_fin e_kseq e_snrm e_sret e_sex e_bnrm e_bret e_bex e_rnrm e_rret e_res e_condC e_nil e_g e_mv g_mv e_pick g_pick pickC_eq e_ibin g_ibin ibinC_eq e_sbin g_sbin e_beq g_beq beqC_eq e_nilq g_nilq nilqC_sl nilqC_pt nilqC_mp e_un g_un unC_not unC_neg e_conv g_conv convC_eq e_fld g_fld fldC_ref fldC_ptr e_nilCheck g_nilCheck nilCheckC_ref nilCheckC_ptr nilCheckC_fun e_field g_field fieldC_eq e_len g_len lenC_sl lenC_str e_extract g_extract extractC_eq e_mkFunc e_build g_build e_idiv g_idiv idivC_eq e_ishift g_ishift ishiftC_eq e_idx g_idx e_idxA g_idxA e_load g_load loadC_ref loadC_ptr loadB_eq e_slc g_slc e_box boxC_loc boxC_esc e_alloc allocC_loc allocC_esc e_buildS e_store storeC_ref storeC_ptr storeB_eq e_append e_appz e_mk mkC_eq e_call callC_eq e_fn g_fn fnC_eq fnV_min' fnV_max' fnV_rune' e_q g_q e_a e_n g_call g_box g_alloc g_buildS g_store g_append g_mk g_a g_n g_dead e_dead e_callK e_drawn e_tree e_finJ e_tk e_tfin e_tno e_nbt_q e_nbt_qn e_nbt_a e_nbt_an e_nbt_fin e_early_nil e_early_t e_early_f e_nob_nil e_nob_none e_nob_some isBox_dead isBox_v isBox_ref e_dnil e_dk e_ek e_finB vcOps_vc1 e_dcons e_tq e_ekt e_tearly e_talt e_dearly look_nil look_c proj_nil proj_c looks_nil looks_c zip_nil zip_c val_tmp val_const val_func slv_v slv_box slv_ref slot_tmp slot_const slot_func slotL_v slotL_box slotL_ref put_some put_none updBox_c boxSet_box gd_eq slotVals_nil slotVals_c slotVals_b boxV_box boxOn_box slotsOn_nil slotsOn_c slotsOn_b resV_one resV_two vals_nil vals_c allOn_nil allOn_c partOn_nil partOn_c partVals_nil partVals_c fits_nil fits_c fillL_nil fillL_c mkv_one mkv_agg cellsV_agg cellsV_int cellsV_bool cellsV_slice cellsV_string cellsV_pointer cellsV_func cellsV_nilf cellsV_map one'_nil one'_c oc_int oc_bool oc_slice oc_string oc_pointer oc_func oc_nilf oc_map setC_eq iv_add iv_sub iv_mul iv_eql iv_neq iv_lss iv_leq iv_gtr iv_geq iok_add iok_sub iok_mul iok_eql iok_neq iok_lss iok_leq iok_gtr iok_geq pickV_bool args0_nil args0_c bnd_none bnd_some imp_bt imp_bf imp_ebt imp_ebf imp_eb1 imp_np imp_pp beq_tt beq_tf beq_ft beq_ff cond_or cond_and e_round e_meet Int.le_refl Int.toNat_zero decide_true decide_false Bool.or_false Bool.false_or Bool.true_or Bool.or_true Bool.and_false Bool.false_and Bool.bne_false Bool.bne_true beq_iff_eq Int.cast_ofNat_Int not_false_eq_true not_true_eq_false false_and and_false false_implies true_implies true_and and_true Bool.true_and Bool.and_true Bool.not_true Bool.not_false forall_const implies_true List.take_zero List.drop_zero List.take_succ_cons List.drop_succ_cons List.take_nil List.drop_nil List.length_cons List.length_nil List.nil_append List.append_nil List.cons_append Int.toNat_natCast decide_eq_true_eq decide_eq_false_iff_not cond_true cond_false and_self List.getElem?_cons_zero List.getElem?_cons_succ List.set_cons_zero List.set_cons_succ Option.some.injEq exists_eq_left' Nat.zero_add Nat.add_zero Nat.mul_one imp_self true_or or_true or_false false_or Bool.or_eq_true Bool.or_eq_false_iff Bool.and_eq_true Bool.and_eq_false_iff Bool.not_eq_true' Bool.not_eq_false'

/-- the lengths of one symbol -/
def oneL (rows : List (List Bool)) (s : Sy) (j : Nat) : Bool := if s.t then decide (j = 1) else (rows.getD s.n.toNat []).getD j false
/-- the lengths that symbols have together -/
def SumP (rows : List (List Bool)) : List Sy → Nat → Prop
  | [], m => m = 0
  | s :: l, m => ∃ j, j ≤ m ∧ oneL rows s j = true ∧ SumP rows l (m - j)
theorem SumP_snoc {rows : List (List Bool)} {s : Sy} : ∀ {l : List Sy} {m : Nat}, SumP rows (l ++ [s]) m ↔ ∃ k, k ≤ m ∧ SumP rows l k ∧ oneL rows s (m - k) = true
  | [], m => by
    simp only [List.nil_append, SumP]
    constructor
    · rintro ⟨j, h1, h2, h3⟩
      exact ⟨0, by omega, rfl, by rw [show m - 0 = j by omega]; exact h2⟩
    · rintro ⟨k, h1, rfl, h3⟩
      exact ⟨m, by omega, by simpa using h3, by omega⟩
  | t :: l, m => by
    simp only [List.cons_append, SumP]
    constructor
    · rintro ⟨j, h1, h2, h3⟩
      obtain ⟨k, q1, q2, q3⟩ := SumP_snoc.1 h3
      exact ⟨j + k, by omega, ⟨j, by omega, h2, by rw [show j + k - j = k by omega]; exact q2⟩, by rw [show m - (j + k) = m - j - k by omega]; exact q3⟩
    · rintro ⟨k, h1, ⟨j, q1, q2, q3⟩, q4⟩
      exact ⟨j, by omega, q2, SumP_snoc.2 ⟨k - j, by omega, q3, by rw [show m - j - (k - j) = m - k by omega]; exact q4⟩⟩

/-- what is found after rounds k and j -/
def QP (rows : List (List Bool)) (s : Sy) (at' : List Bool) (k j m : Nat) : Prop := ∃ k', k' ≤ m ∧ (k' < k ∨ k' = k ∧ m - k' < j) ∧ at'.getD k' false = true ∧ oneL rows s (m - k') = true
/-- a row that tells which -/
def Tells (n : Nat) (xs : List Bool) (p : Nat → Prop) : Prop := xs.length = n + 1 ∧ ∀ m (h : m < xs.length), xs[m] = true ↔ p m
theorem Tells.congr {n : Nat} {xs : List Bool} {p q : Nat → Prop} (h : Tells n xs p) (hq : ∀ m, m ≤ n → (p m ↔ q m)) : Tells n xs q := ⟨h.1, fun m hm => (h.2 m hm).trans (hq m (by have := h.1; omega))⟩
theorem Tells.set {n : Nat} {xs : List Bool} {p q : Nat → Prop} (h : Tells n xs p) {i : Nat} (hi : i < xs.length) {x : Bool} (hx : x = true ↔ q i) (hq : ∀ m, m ≠ i → (p m ↔ q m)) : Tells n (xs.set i x) q := by
  refine ⟨by simpa using h.1, fun m hm => ?_⟩
  rw [List.getElem_set]
  split
  · rename_i e; subst e; exact hx
  · rename_i e; exact (h.2 m (by simpa using hm)).trans (hq m fun q => e q.symm)

theorem Arr.mono {α : Type} [Sc α] {g g' : PH} {b : Nat} {T : TypeId} {xs : List α} (h : Arr g b T xs) (hl : Mem.le (lk [g]) (lk [g'])) : Arr g' b T xs := lk_one.1 (hl _ _ (lk_one.2 h))
theorem Arr.bool {g : PH} {b : Nat} {T : TypeId} {xs : List Bool} (h : Arr g b T xs) {i : Nat} (hi : i < xs.length) {Γ : Ctx} (hg : g ∈ Γ) : Cells Γ b i [.bool xs[i]] := h.cell hi hg
theorem QP_skip {rows : List (List Bool)} {s : Sy} {at' : List Bool} {i m : Nat} (h : at'.getD i false = false) : QP rows s at' i 0 m ↔ QP rows s at' (i + 1) 0 m := by
  constructor
  · rintro ⟨k', h1, h2, h3, h4⟩
    exact ⟨k', h1, .inl (by omega), h3, h4⟩
  · rintro ⟨k', h1, h2, h3, h4⟩
    refine ⟨k', h1, .inl ?_, h3, h4⟩
    by_cases e : k' = i
    · subst e; rw [h] at h3; cases h3
    · omega
theorem QP_end {rows : List (List Bool)} {s : Sy} {at' : List Bool} {i m n : Nat} (hm : m ≤ n) (hi : i ≤ n) : QP rows s at' i (n + 1 - i) m ↔ QP rows s at' (i + 1) 0 m := by
  constructor
  · rintro ⟨k', h1, h2, h3, h4⟩
    exact ⟨k', h1, .inl (by omega), h3, h4⟩
  · rintro ⟨k', h1, h2, h3, h4⟩
    refine ⟨k', h1, ?_, h3, h4⟩
    omega
theorem QP_step {rows : List (List Bool)} {s : Sy} {at' : List Bool} {i j m : Nat} (h : at'.getD i false = true) : QP rows s at' i (j + 1) m ↔ QP rows s at' i j m ∨ m = i + j ∧ oneL rows s j = true := by
  constructor
  · rintro ⟨k', h1, h2, h3, h4⟩
    by_cases e : k' = i ∧ m - k' = j
    · exact .inr ⟨by omega, by rw [← e.2]; exact h4⟩
    · exact .inl ⟨k', h1, by omega, h3, h4⟩
  · rintro (⟨k', h1, h2, h3, h4⟩ | ⟨h1, h2⟩)
    · exact ⟨k', h1, by omega, h3, h4⟩
    · exact ⟨i, by omega, .inr ⟨rfl, by omega⟩, h, by rw [show m - i = j by omega]; exact h2⟩
theorem QP_all {rows : List (List Bool)} {s : Sy} {at' : List Bool} {n m : Nat} (hm : m ≤ n) {p : Nat → Prop} (hT : Tells n at' p) : QP rows s at' (n + 1) 0 m ↔ ∃ k, k ≤ m ∧ p k ∧ oneL rows s (m - k) = true := by
  have hp : ∀ k, k ≤ n → (at'.getD k false = true ↔ p k) := fun k hk => by
    have hk' : k < at'.length := by have := hT.1; omega
    rw [← hT.2 k hk']
    simp [hk']
  constructor
  · rintro ⟨k', h1, h2, h3, h4⟩
    exact ⟨k', h1, (hp k' (by omega)).1 h3, h4⟩
  · rintro ⟨k', h1, h3, h4⟩
    exact ⟨k', h1, .inl (by omega), (hp k' (by omega)).2 h3, h4⟩
theorem lens_sums {Γr : Ctx} {A B : Option Addr} {c d : Nat} {l : List Sy} {rows : List (List Bool)} (n : Nat) (hn : n ≤ 1000) (hl : SlOk (lk Γr) A c l) (hr : SlOk (lk Γr) B d rows) (hrow : ∀ x ∈ rows, x.length = n + 1) (hin : ∀ s ∈ l, s.t = false → 0 ≤ s.n ∧ s.n.toNat < rows.length) :
    Ret Try.prog 113 [.slice A l.length c, .slice B rows.length d, .int .i64 n] Γr [] (fun v Γ => ∃ g b xs, Γ = [g] ∧ v = .slice (some ⟨b, 0, none⟩) (n + 1) (n + 1) ∧ Arr g b 4 xs ∧ Tells n xs (SumP rows l)) := by
  generalize hR : (fun (v : Value) (Γ : Ctx) => ∃ g b xs, _) = R
  refine ret_of_vc tr113 (Nat.le_of_ble_eq_true rfl) ?_
  have hls := hl.short
  have hrs := hr.short
  simp -implicitDefEqProofs only [S113, S113_0, go_sem, Nat.reduceBEq, Nat.reduceAdd, Nat.reduceSub, Nat.reduceMul, Nat.reduceLeDiff, reduceCtorEq, ↓reduceIte, Int.reduceLT, Int.reduceLE, Int.reduceEq, Int.reduceNe]
  simp (disch := omega) only [wrap_id]
  refine ⟨by omega, by omega, fun b => ?_⟩
  rw [show ((n : Int) + 1).toNat = n + 1 by omega]
  refine s_idx rfl (by omega) (by omega) ?_
  simp -implicitDefEqProofs only [go_sem, Nat.reduceBEq, Nat.reduceAdd, Nat.reduceSub, Nat.reduceMul, Nat.reduceLeDiff, reduceCtorEq, ↓reduceIte, Int.reduceLT, Int.reduceLE, Int.reduceEq, Int.reduceNe]
  refine s_storeA (ix := 0) true rfl (Arr.made false b 4 (n + 1)) (by simp) ?_
  intro g hA _
  simp -implicitDefEqProofs only [go_sem, Nat.reduceBEq, Nat.reduceAdd, Nat.reduceSub, Nat.reduceMul, Nat.reduceLeDiff, reduceCtorEq, ↓reduceIte, Int.reduceLT, Int.reduceLE, Int.reduceEq, Int.reduceNe]
  refine s_loop (fun f vs Γ => ∃ g, Γ = [g] ∧ ∃ (k b : Nat) (xs : List Bool), vs = [.v true (.slice (some ⟨b, 0, none⟩) (n + 1) (n + 1)), .v true (.int .i64 k)] ∧ k + f = l.length ∧ Arr g b 4 xs ∧ Tells n xs (SumP rows (l.take k))) l.length
    (Up.here ⟨_, rfl, 0, b, _, rfl, by omega, hA, Tells.set (p := fun _ => False) ⟨by simp, fun m hm => by simp⟩ (by simp) (by simp [SumP]) (fun m hm => by simpa [SumP] using hm)⟩) ?_
  rintro f vs Γ ⟨g, rfl, k, b, at', rfl, hkf, hA, hT⟩
  simp -implicitDefEqProofs only [S113_5, go_sem, Nat.reduceBEq, Nat.reduceAdd, Nat.reduceSub, Nat.reduceMul, Nat.reduceLeDiff, reduceCtorEq, ↓reduceIte, Int.reduceLT, Int.reduceLE, Int.reduceEq, Int.reduceNe]
  refine ⟨fun hlt => ?_, fun hge => ?_⟩
  · have hk : k < l.length := by omega
    obtain ⟨b1, o1, hA1, hc1⟩ := hl.sy hk
    refine s_idx hA1 (by omega) (by omega) ?_
    simp -implicitDefEqProofs only [go_sem, Nat.reduceBEq, Nat.reduceAdd, Nat.reduceSub, Nat.reduceMul, Nat.reduceLeDiff, reduceCtorEq, ↓reduceIte, Int.reduceLT, Int.reduceLE, Int.reduceEq, Int.reduceNe]
    refine s_ld0 (hc1 _ (lk_r _ _)) (by simp) (by simp) ?_
    simp -implicitDefEqProofs only [go_sem, Nat.reduceBEq, Nat.reduceAdd, Nat.reduceSub, Nat.reduceMul, Nat.reduceLeDiff, reduceCtorEq, ↓reduceIte, Int.reduceLT, Int.reduceLE, Int.reduceEq, Int.reduceNe]
    simp (disch := omega) only [wrap_id]
    intro b2
    refine ⟨by omega, by omega, fun b3 => ?_⟩
    rw [show ((n : Int) + 1).toNat = n + 1 by omega]
    have hal := hT.1
    refine s_loop (fun f' vs Γ => ∃ gx g, Γ = [gx, g] ∧ Arr g b 4 at' ∧ ∃ (i : Nat) (xs : List Bool), vs = [.v true (.int .i64 i)] ∧ i + f' = n + 1 ∧ Arr gx b3 4 xs ∧ Tells n xs (QP rows l[k] at' i 0)) (n + 1)
      (Up.here ⟨_, _, rfl, hA, 0, _, rfl, by omega, Arr.made false b3 4 (n + 1), ⟨by simp, fun m hm => by simp [QP]⟩⟩) ?_
    rintro f' vs Γ ⟨gx, g, rfl, hA, i, xs, rfl, hif, hX, hTx⟩
    have hxl := hTx.1
    simp -implicitDefEqProofs only [S113_4, go_sem, Nat.reduceBEq, Nat.reduceAdd, Nat.reduceSub, Nat.reduceMul, Nat.reduceLeDiff, reduceCtorEq, ↓reduceIte, Int.reduceLT, Int.reduceLE, Int.reduceEq, Int.reduceNe]
    refine ⟨fun hlt => ?_, fun hge => ?_⟩
    · have hi : i < at'.length := by omega
      refine s_split ?_
      simp -implicitDefEqProofs only [S113_2, S113_3, go_sem, Nat.reduceBEq, Nat.reduceAdd, Nat.reduceSub, Nat.reduceMul, Nat.reduceLeDiff, reduceCtorEq, ↓reduceIte, Int.reduceLT, Int.reduceLE, Int.reduceEq, Int.reduceNe]
      refine s_idx rfl (by omega) (by omega) ?_
      simp -implicitDefEqProofs only [go_sem, Nat.reduceBEq, Nat.reduceAdd, Nat.reduceSub, Nat.reduceMul, Nat.reduceLeDiff, reduceCtorEq, ↓reduceIte, Int.reduceLT, Int.reduceLE, Int.reduceEq, Int.reduceNe]
      refine s_ld0 (hA.bool hi (by simp)) (by simp) (by simp) ?_
      simp -implicitDefEqProofs only [go_sem, Nat.reduceBEq, Nat.reduceAdd, Nat.reduceSub, Nat.reduceMul, Nat.reduceLeDiff, reduceCtorEq, ↓reduceIte, Int.reduceLT, Int.reduceLE, Int.reduceEq, Int.reduceNe]
      have hgd : at'.getD i false = at'[i] := by simp [hi]
      refine ⟨fun hf => ?_, fun ht => ?_⟩
      · simp (disch := omega) only [wrap_id]
        exact Up.here ⟨f' - 1, by omega, Up.here ⟨_, _, rfl, hA, i + 1, _, rfl, by omega, hX, hTx.congr fun m _ => QP_skip (by rw [hgd, hf])⟩⟩
      · simp (disch := omega) only [wrap_id]
        refine s_loop (fun f2 vs Γ => ∃ gx g, Γ = [gx, g] ∧ Arr g b 4 at' ∧ ∃ (j : Nat) (xs : List Bool), vs = [.v true (.int .i64 j)] ∧ j + f2 = n + 1 - i ∧ Arr gx b3 4 xs ∧ Tells n xs (QP rows l[k] at' i j)) (n + 1 - i)
          (Up.here ⟨_, _, rfl, hA, 0, _, rfl, by omega, hX, hTx⟩) ?_
        rintro f2 vs Γ ⟨gx, g, rfl, hA, j, xs, rfl, hjf, hX, hTx⟩
        have hxl := hTx.1
        simp -implicitDefEqProofs only [S113_1, go_sem, Nat.reduceBEq, Nat.reduceAdd, Nat.reduceSub, Nat.reduceMul, Nat.reduceLeDiff, reduceCtorEq, ↓reduceIte, Int.reduceLT, Int.reduceLE, Int.reduceEq, Int.reduceNe]
        refine ⟨fun hlt => ?_, fun hge => ?_⟩
        · have hij : i + j < xs.length := by omega
          simp (disch := omega) only [wrap_id]
          refine s_idx rfl (by omega) (by omega) ?_
          simp -implicitDefEqProofs only [go_sem, Nat.reduceBEq, Nat.reduceAdd, Nat.reduceSub, Nat.reduceMul, Nat.reduceLeDiff, reduceCtorEq, ↓reduceIte, Int.reduceLT, Int.reduceLE, Int.reduceEq, Int.reduceNe]
          rw [show ((i : Int) + (j : Int)).toNat = i + j by omega]
          refine s_ld0 (hX.bool hij (by simp)) (by simp) (by simp) ?_
          have hstep : ∀ x : Bool, (x = true ↔ xs[i + j] = true ∨ oneL rows l[k] j = true) → Tells n (xs.set (i + j) x) (QP rows l[k] at' i (j + 1)) := fun x hx => by
            refine hTx.set hij ?_ fun m hm => ?_
            · rw [QP_step (by rw [hgd, ht]), hx, hTx.2 _ hij]
              simp
            · rw [QP_step (by rw [hgd, ht])]
              exact ⟨.inl, fun q => q.resolve_right fun q => hm q.1⟩
          generalize hxo : xs[i + j] = o at hstep ⊢
          have hlk : l[k] ∈ l := List.getElem_mem hk
          generalize hls' : l[k] = s at *
          obtain ⟨t, sn⟩ := s
          cases o <;> cases t
          all_goals
            simp -implicitDefEqProofs only [go_sem, Nat.reduceBEq, Nat.reduceAdd, Nat.reduceSub, Nat.reduceMul, Nat.reduceLeDiff, reduceCtorEq, ↓reduceIte, Int.reduceLT, Int.reduceLE, Int.reduceEq, Int.reduceNe]
          · have hsn := hin _ hlk rfl
            simp only at hsn
            have hsn2 : sn.toNat < rows.length := hsn.2
            have hrl : rows[sn.toNat].length = n + 1 := hrow _ (List.getElem_mem hsn2)
            obtain ⟨b5, o5, hA5, A6, c6, hs6, hc6⟩ := hr.list hsn2
            refine s_idx hA5 (by omega) (by omega) ?_
            simp -implicitDefEqProofs only [go_sem, Nat.reduceBEq, Nat.reduceAdd, Nat.reduceSub, Nat.reduceMul, Nat.reduceLeDiff, reduceCtorEq, ↓reduceIte, Int.reduceLT, Int.reduceLE, Int.reduceEq, Int.reduceNe]
            refine s_ld0 (hc6 _ (lk_r _ _)) (by simp) (by simp) ?_
            simp -implicitDefEqProofs only [go_sem, Nat.reduceBEq, Nat.reduceAdd, Nat.reduceSub, Nat.reduceMul, Nat.reduceLeDiff, reduceCtorEq, ↓reduceIte, Int.reduceLT, Int.reduceLE, Int.reduceEq, Int.reduceNe]
            obtain ⟨b7, o7, hA7, hc7⟩ := hs6.bool (i := j) (by omega)
            refine s_idx hA7 (by omega) (by omega) ?_
            simp -implicitDefEqProofs only [go_sem, Nat.reduceBEq, Nat.reduceAdd, Nat.reduceSub, Nat.reduceMul, Nat.reduceLeDiff, reduceCtorEq, ↓reduceIte, Int.reduceLT, Int.reduceLE, Int.reduceEq, Int.reduceNe]
            refine s_ld0 (hc7 _ (lk_r _ _)) (by simp) (by simp) ?_
            simp -implicitDefEqProofs only [go_sem, Nat.reduceBEq, Nat.reduceAdd, Nat.reduceSub, Nat.reduceMul, Nat.reduceLeDiff, reduceCtorEq, ↓reduceIte, Int.reduceLT, Int.reduceLE, Int.reduceEq, Int.reduceNe]
            refine s_idx rfl (by omega) (by omega) ?_
            simp -implicitDefEqProofs only [go_sem, Nat.reduceBEq, Nat.reduceAdd, Nat.reduceSub, Nat.reduceMul, Nat.reduceLeDiff, reduceCtorEq, ↓reduceIte, Int.reduceLT, Int.reduceLE, Int.reduceEq, Int.reduceNe]
            rw [show ((i : Int) + (j : Int)).toNat = i + j by omega]
            refine s_storeA (ix := 0) (rows[sn.toNat][j]) rfl hX hij ?_
            intro gx' hX' _
            simp -implicitDefEqProofs only [go_sem, Nat.reduceBEq, Nat.reduceAdd, Nat.reduceSub, Nat.reduceMul, Nat.reduceLeDiff, reduceCtorEq, ↓reduceIte, Int.reduceLT, Int.reduceLE, Int.reduceEq, Int.reduceNe]
            simp (disch := omega) only [wrap_id]
            exact ⟨f2 - 1, by omega, Up.here ⟨_, _, rfl, hA, j + 1, _, rfl, by omega, hX', hstep _ (by simp [oneL, hsn2, show j < rows[sn.toNat].length by omega])⟩⟩
          · refine s_idxg (b := 0) (o := 0) (by simp) ?_
            simp -implicitDefEqProofs only [go_sem, Nat.reduceBEq, Nat.reduceAdd, Nat.reduceSub, Nat.reduceMul, Nat.reduceLeDiff, reduceCtorEq, ↓reduceIte, Int.reduceLT, Int.reduceLE, Int.reduceEq, Int.reduceNe]
            refine s_ldg0 (cs := [.slice none 0 0]) (by simp) (by simp) (by simp) (by simp) ?_
            simp -implicitDefEqProofs only [go_sem, Nat.reduceBEq, Nat.reduceAdd, Nat.reduceSub, Nat.reduceMul, Nat.reduceLeDiff, reduceCtorEq, ↓reduceIte, Int.reduceLT, Int.reduceLE, Int.reduceEq, Int.reduceNe]
            refine s_idxg (b := 0) (o := 0) (by simp) ?_
            simp -implicitDefEqProofs only [go_sem, Nat.reduceBEq, Nat.reduceAdd, Nat.reduceSub, Nat.reduceMul, Nat.reduceLeDiff, reduceCtorEq, ↓reduceIte, Int.reduceLT, Int.reduceLE, Int.reduceEq, Int.reduceNe]
            refine s_ldg0 (cs := [.bool false]) (by simp) (by simp) (by simp) (by simp) ?_
            simp -implicitDefEqProofs only [go_sem, Nat.reduceBEq, Nat.reduceAdd, Nat.reduceSub, Nat.reduceMul, Nat.reduceLeDiff, reduceCtorEq, ↓reduceIte, Int.reduceLT, Int.reduceLE, Int.reduceEq, Int.reduceNe]
            refine s_idx rfl (by omega) (by omega) ?_
            simp -implicitDefEqProofs only [go_sem, Nat.reduceBEq, Nat.reduceAdd, Nat.reduceSub, Nat.reduceMul, Nat.reduceLeDiff, reduceCtorEq, ↓reduceIte, Int.reduceLT, Int.reduceLE, Int.reduceEq, Int.reduceNe]
            rw [show ((i : Int) + (j : Int)).toNat = i + j by omega]
            refine s_storeA (ix := 0) (decide ((j : Int) = 1)) rfl hX hij ?_
            intro gx' hX' _
            simp -implicitDefEqProofs only [go_sem, Nat.reduceBEq, Nat.reduceAdd, Nat.reduceSub, Nat.reduceMul, Nat.reduceLeDiff, reduceCtorEq, ↓reduceIte, Int.reduceLT, Int.reduceLE, Int.reduceEq, Int.reduceNe]
            simp (disch := omega) only [wrap_id]
            exact ⟨f2 - 1, by omega, Up.here ⟨_, _, rfl, hA, j + 1, _, rfl, by omega, hX', hstep _ (by simp [oneL]; omega)⟩⟩
          · refine s_idxg (b := 0) (o := 0) (by simp) ?_
            simp -implicitDefEqProofs only [go_sem, Nat.reduceBEq, Nat.reduceAdd, Nat.reduceSub, Nat.reduceMul, Nat.reduceLeDiff, reduceCtorEq, ↓reduceIte, Int.reduceLT, Int.reduceLE, Int.reduceEq, Int.reduceNe]
            refine s_ldg0 (cs := [.slice none 0 0]) (by simp) (by simp) (by simp) (by simp) ?_
            simp -implicitDefEqProofs only [go_sem, Nat.reduceBEq, Nat.reduceAdd, Nat.reduceSub, Nat.reduceMul, Nat.reduceLeDiff, reduceCtorEq, ↓reduceIte, Int.reduceLT, Int.reduceLE, Int.reduceEq, Int.reduceNe]
            refine s_idxg (b := 0) (o := 0) (by simp) ?_
            simp -implicitDefEqProofs only [go_sem, Nat.reduceBEq, Nat.reduceAdd, Nat.reduceSub, Nat.reduceMul, Nat.reduceLeDiff, reduceCtorEq, ↓reduceIte, Int.reduceLT, Int.reduceLE, Int.reduceEq, Int.reduceNe]
            refine s_ldg0 (cs := [.bool false]) (by simp) (by simp) (by simp) (by simp) ?_
            simp -implicitDefEqProofs only [go_sem, Nat.reduceBEq, Nat.reduceAdd, Nat.reduceSub, Nat.reduceMul, Nat.reduceLeDiff, reduceCtorEq, ↓reduceIte, Int.reduceLT, Int.reduceLE, Int.reduceEq, Int.reduceNe]
            refine s_idx rfl (by omega) (by omega) ?_
            simp -implicitDefEqProofs only [go_sem, Nat.reduceBEq, Nat.reduceAdd, Nat.reduceSub, Nat.reduceMul, Nat.reduceLeDiff, reduceCtorEq, ↓reduceIte, Int.reduceLT, Int.reduceLE, Int.reduceEq, Int.reduceNe]
            rw [show ((i : Int) + (j : Int)).toNat = i + j by omega]
            refine s_storeA (ix := 0) (true) rfl hX hij ?_
            intro gx' hX' _
            simp -implicitDefEqProofs only [go_sem, Nat.reduceBEq, Nat.reduceAdd, Nat.reduceSub, Nat.reduceMul, Nat.reduceLeDiff, reduceCtorEq, ↓reduceIte, Int.reduceLT, Int.reduceLE, Int.reduceEq, Int.reduceNe]
            simp (disch := omega) only [wrap_id]
            exact ⟨f2 - 1, by omega, Up.here ⟨_, _, rfl, hA, j + 1, _, rfl, by omega, hX', hstep _ (by simp)⟩⟩
          · refine s_idxg (b := 0) (o := 0) (by simp) ?_
            simp -implicitDefEqProofs only [go_sem, Nat.reduceBEq, Nat.reduceAdd, Nat.reduceSub, Nat.reduceMul, Nat.reduceLeDiff, reduceCtorEq, ↓reduceIte, Int.reduceLT, Int.reduceLE, Int.reduceEq, Int.reduceNe]
            refine s_ldg0 (cs := [.slice none 0 0]) (by simp) (by simp) (by simp) (by simp) ?_
            simp -implicitDefEqProofs only [go_sem, Nat.reduceBEq, Nat.reduceAdd, Nat.reduceSub, Nat.reduceMul, Nat.reduceLeDiff, reduceCtorEq, ↓reduceIte, Int.reduceLT, Int.reduceLE, Int.reduceEq, Int.reduceNe]
            refine s_idxg (b := 0) (o := 0) (by simp) ?_
            simp -implicitDefEqProofs only [go_sem, Nat.reduceBEq, Nat.reduceAdd, Nat.reduceSub, Nat.reduceMul, Nat.reduceLeDiff, reduceCtorEq, ↓reduceIte, Int.reduceLT, Int.reduceLE, Int.reduceEq, Int.reduceNe]
            refine s_ldg0 (cs := [.bool false]) (by simp) (by simp) (by simp) (by simp) ?_
            simp -implicitDefEqProofs only [go_sem, Nat.reduceBEq, Nat.reduceAdd, Nat.reduceSub, Nat.reduceMul, Nat.reduceLeDiff, reduceCtorEq, ↓reduceIte, Int.reduceLT, Int.reduceLE, Int.reduceEq, Int.reduceNe]
            refine s_idx rfl (by omega) (by omega) ?_
            simp -implicitDefEqProofs only [go_sem, Nat.reduceBEq, Nat.reduceAdd, Nat.reduceSub, Nat.reduceMul, Nat.reduceLeDiff, reduceCtorEq, ↓reduceIte, Int.reduceLT, Int.reduceLE, Int.reduceEq, Int.reduceNe]
            rw [show ((i : Int) + (j : Int)).toNat = i + j by omega]
            refine s_storeA (ix := 0) (true) rfl hX hij ?_
            intro gx' hX' _
            simp -implicitDefEqProofs only [go_sem, Nat.reduceBEq, Nat.reduceAdd, Nat.reduceSub, Nat.reduceMul, Nat.reduceLeDiff, reduceCtorEq, ↓reduceIte, Int.reduceLT, Int.reduceLE, Int.reduceEq, Int.reduceNe]
            simp (disch := omega) only [wrap_id]
            exact ⟨f2 - 1, by omega, Up.here ⟨_, _, rfl, hA, j + 1, _, rfl, by omega, hX', hstep _ (by simp)⟩⟩
        · have hj : j = n + 1 - i := by omega
          subst hj
          exact Up.here ⟨f' - 1, by omega, Up.here ⟨_, _, rfl, hA, i + 1, _, rfl, by omega, hX, hTx.congr fun m hm => QP_end hm (by omega)⟩⟩
    · have hi : i = n + 1 := by omega
      subst hi
      simp (disch := omega) only [wrap_id]
      refine ⟨f - 1, by omega, Up.sel [[0]] (by decide) fun _ _ => ⟨_, rfl, k + 1, b3, xs, rfl, by omega, hX, hTx.congr fun m hm => ?_⟩⟩
      rw [QP_all hm hT, List.take_succ_eq_append_getElem hk, SumP_snoc]
  · have hk : k = l.length := by omega
    rw [hk, List.take_length] at hT
    refine Up.here ?_
    subst hR
    exact ⟨_, _, _, rfl, rfl, hA, hT⟩
end Go.Proofs.Ytniobbepliknmaa.V
/- Lengths of words: the plain law; no condition. -/
namespace Go.Proofs.Ytniobbepliknmaa.V
open Go
set_option linter.unusedVariables false
set_option linter.unusedSimpArgs false

/-- a grammar that is accepted -/
structure VG (g : Gr) : Prop where
  ts : 1 ≤ g.ts ∧ g.ts ≤ 8
  ns : 1 ≤ g.ns ∧ g.ns ≤ 10
  st : 0 ≤ g.st ∧ g.st < g.ns
  len : g.rs.length ≤ 32
  left : ∀ r ∈ g.rs, 0 ≤ r.l ∧ r.l < g.ns
  right : ∀ r ∈ g.rs, r.r.length ≤ 4
  sym : ∀ r ∈ g.rs, ∀ s ∈ r.r, 0 ≤ s.n ∧ (s.t = true → s.n < g.ts) ∧ (s.t = false → s.n < g.ns)
theorem ckF_ok {g : Gr} (h : ckF g = 0) : VG g := by
  unfold ckF at h
  split at h
  · cases h
  rename_i hb
  split at h
  · cases h
  rename_i h32
  unfold badHead at hb
  have hf : ∀ k (hk : k < g.rs.length), faultAt g k g.rs[k] = 0 := by
    intro k hk
    have h0 : ∀ m, m ≤ g.rs.length → ckR g m = 0 := by
      intro m hm
      apply Classical.byContradiction
      intro hn
      exact hn (by rw [← ckR_stays hn hm, h])
    rw [← ckR_step hk (h0 k (by omega))]
    exact h0 (k + 1) hk
  have hr : ∀ r ∈ g.rs, (0 ≤ r.l ∧ r.l < g.ns) ∧ r.r.length ≤ 4 ∧ ∀ s ∈ r.r, badSy g.ts g.ns s = false := by
    intro r hr
    obtain ⟨k, hk, rfl⟩ := List.getElem_of_mem hr
    have h1 := hf k hk
    unfold faultAt at h1
    split at h1
    · cases h1
    split at h1
    · cases h1
    split at h1
    · cases h1
    rename_i q1 q2 q3
    refine ⟨by omega, by omega, fun s hs => ?_⟩
    cases hb : badSy g.ts g.ns s with
    | false => rfl
    | true => exact absurd (List.any_eq_true.2 ⟨s, hs, hb⟩) q3
  refine ⟨by omega, by omega, by omega, by omega, fun r h => (hr r h).1, fun r h => (hr r h).2.1, fun r h s hs => ?_⟩
  have := (hr r h).2.2 s hs
  simp only [badSy, Bool.or_eq_false_iff, Bool.and_eq_false_iff, decide_eq_false_iff_not, Bool.not_eq_false'] at this
  obtain ⟨⟨h1, h2⟩, h3⟩ := this
  refine ⟨by omega, fun ht => ?_, fun ht => ?_⟩
  · rw [ht] at h2; simp at h2; exact h2
  · rw [ht] at h3; simp at h3; exact h3

/-- the lengths of words -/
inductive LenD (g : Gr) : List Sy → Nat → Prop
  | nil : LenD g [] 0
  | term {n : Int} {l : List Sy} {k : Nat} : LenD g l k → LenD g (⟨true, n⟩ :: l) (1 + k)
  | non {a : Int} {l : List Sy} {r : Ru} {j k : Nat} : r ∈ g.rs → r.l = a → LenD g r.r j → LenD g l k → LenD g (⟨false, a⟩ :: l) (j + k)
def HasD (g : Gr) (a : Int) (k : Nat) : Prop := ∃ r ∈ g.rs, r.l = a ∧ LenD g r.r k
/-- what is told is so -/
def SoundL (g : Gr) (rows : List (List Bool)) : Prop := ∀ (a k : Nat), (rows.getD a []).getD k false = true → HasD g a k
theorem sum_sound {g : Gr} {rows : List (List Bool)} (h : SoundL g rows) : ∀ {l : List Sy} {m : Nat}, (∀ s ∈ l, 0 ≤ s.n) → SumP rows l m → LenD g l m
  | [], m, _, h => by simp only [SumP] at h; subst h; exact .nil
  | ⟨t, a⟩ :: l, m, h0, hs => by
    obtain ⟨j, h1, h2, h3⟩ := hs
    have ih := sum_sound h (fun s hs => h0 s (by simp [hs])) h3
    cases t with
    | true =>
      simp [oneL] at h2
      subst h2
      rw [show m = 1 + (m - 1) by omega]
      exact .term ih
    | false =>
      simp only [oneL, Bool.false_eq_true, if_false] at h2
      obtain ⟨r, hr, hl, hd⟩ := h _ _ h2
      have ha := h0 ⟨false, a⟩ (by simp)
      rw [show m = j + (m - j) by omega]
      exact .non hr (by rw [hl]; simp only at ha; omega) hd ih
/-- all that follows is told -/
def ClosedL (g : Gr) (n : Nat) (rows : List (List Bool)) : Prop := ∀ r ∈ g.rs, ∀ k, k ≤ n → SumP rows r.r k → (rows.getD r.l.toNat []).getD k false = true
theorem len_told {g : Gr} {n : Nat} {rows : List (List Bool)} (h : ClosedL g n rows) {l : List Sy} {m : Nat} (hd : LenD g l m) : m ≤ n → SumP rows l m := by
  induction hd with
  | nil => intro _; rfl
  | @term n' l k _ ih => intro hm; exact ⟨1, by omega, by simp [oneL], by rw [show 1 + k - 1 = k by omega]; exact ih (by omega)⟩
  | @non a l r j k hr ha _ _ ih1 ih2 =>
    intro hm
    refine ⟨j, by omega, ?_, by rw [show j + k - j = k by omega]; exact ih2 (by omega)⟩
    have := h r hr j (by omega) (ih1 (by omega))
    simp only [oneL, Bool.false_eq_true, if_false]
    rw [← ha]
    exact this
theorem told_iff {g : Gr} {n : Nat} {rows : List (List Bool)} (hs : SoundL g rows) (hc : ClosedL g n rows) {a : Nat} {k : Nat} (hk : k ≤ n) : (rows.getD a []).getD k false = true ↔ HasD g a k := by
  refine ⟨hs a k, ?_⟩
  rintro ⟨r, hr, ha, hd⟩
  have := hc r hr k hk (len_told hc hd hk)
  rw [ha] at this
  simpa using this
/-- how much is told -/
def cntL (rows : List (List Bool)) : Nat := (rows.map (List.count true)).sum
theorem cntL_le : ∀ {rows : List (List Bool)} {m : Nat}, (∀ x ∈ rows, x.length = m) → cntL rows ≤ rows.length * m
  | [], m, _ => by simp [cntL]
  | x :: l, m, h => by
    have h1 := cntL_le (rows := l) (m := m) fun y hy => h y (by simp [hy])
    have h2 : x.count true ≤ m := by rw [← h x (by simp)]; exact List.count_le_length
    simp only [cntL, List.map_cons, List.sum_cons, List.length_cons, Nat.add_mul, Nat.one_mul] at h1 ⊢
    omega
theorem count_set : ∀ {x : List Bool} {k : Nat} (hk : k < x.length), x[k] = false → (x.set k true).count true = x.count true + 1
  | a :: x, 0, _, h => by simp at h; subst h; simp
  | a :: x, k + 1, hk, h => by
    have := count_set (x := x) (k := k) (by simpa using hk) (by simpa using h)
    simp only [List.set_cons_succ, List.count_cons, this]
    omega
theorem cntL_set : ∀ {rows : List (List Bool)} {a : Nat} (ha : a < rows.length) {y : List Bool}, y.count true = rows[a].count true + 1 → cntL (rows.set a y) = cntL rows + 1
  | x :: l, 0, _, y, h => by simp [cntL] at h ⊢; omega
  | x :: l, a + 1, ha, y, h => by
    have := cntL_set (rows := l) (a := a) (by simpa using ha) (by simpa using h)
    simp [cntL] at this ⊢
    omega
theorem sound_set {g : Gr} {rows : List (List Bool)} (h : SoundL g rows) {a k : Nat} (ha : a < rows.length) (hd : HasD g a k) : SoundL g (rows.set a (rows[a].set k true)) := by
  intro b j hb
  by_cases e : b = a
  · subst e
    by_cases e' : j = k
    · subst e'; exact hd
    · refine h b j ?_
      have e'' : ¬ k = j := fun q => e' q.symm
      simpa [List.getD_eq_getElem?_getD, ha, List.getElem?_set, e''] using hb
  · refine h b j ?_
    have e'' : ¬ a = b := fun q => e q.symm
    simpa [List.getD_eq_getElem?_getD, List.getElem?_set, e''] using hb
theorem rep_false (g : Gr) (a n : Nat) : SoundL g (List.replicate a (List.replicate n false)) := by
  intro b k h
  simp only [List.getD_eq_getElem?_getD, List.getElem?_replicate] at h
  split at h
  · simp only [Option.getD_some, List.getElem?_replicate] at h
    split at h <;> simp at h
  · simp at h
theorem cntL_zero (a n : Nat) : cntL (List.replicate a (List.replicate n false)) = 0 := by
  simp [cntL, List.map_replicate, List.count_replicate]
end Go.Proofs.Ytniobbepliknmaa.V
/- The text of parlance/parlref5.lengthsOf$1 as a statement (slots: 0 x, 5 x); no condition. -/
namespace Go.Proofs.Ytniobbepliknmaa.V
open Go
def S173_0 : Stmt :=
  Stmt.seq (Stmt.region [SOper.mk (some 5) none (SOp.box true 223 (Operand.tmp 0))] [1, 2, 3, 4, 5])
  (Stmt.seq
    (Stmt.region
      [SOper.mk (some 6) none (SOp.fld 2 (Operand.tmp 5)), SOper.mk (some 7) none (SOp.load false 1 (Operand.tmp 6)),
        SOper.mk (some 8) none (SOp.load false 1 (Operand.tmp 1)),
        SOper.mk (some 9) none (SOp.ibin BinOp.leq (Operand.tmp 7) (Operand.tmp 8)),
        SOper.mk (some 10) none (SOp.mv (Operand.tmp 9)),
        SOper.mk (some 11) (some (10, true)) (SOp.load false 1 (Operand.tmp 2)),
        SOper.mk (some 12) (some (10, true)) (SOp.load true 3 (Operand.tmp 5)),
        SOper.mk (some 13) (some (10, true)) (SOp.q (Qk.look 220 false) [Operand.tmp 11, Operand.tmp 12]),
        SOper.mk (some 14) (some (10, true)) (SOp.un UnOp.not (Operand.tmp 13)),
        SOper.mk (some 15) none (SOp.pick (Operand.tmp 10) (Operand.tmp 14) (Operand.const (Value.bool false)))]
      [2, 3, 4, 5, 15])
    (Stmt.cond (Operand.tmp 15)
      (Stmt.seq
        (Stmt.region
          [SOper.mk (some 16) none (SOp.load false 1 (Operand.tmp 2)),
            SOper.mk (some 17) none (SOp.load true 3 (Operand.tmp 5)),
            SOper.mk none none (SOp.a (Qk.upd 220) [Operand.tmp 16, Operand.tmp 17, Operand.const (Value.bool true)])]
          [3, 4, 5])
        (Stmt.tree
          (DT.q (false, SOper.mk (some 18) none (SOp.load false 1 (Operand.tmp 3)))
            (DT.q (false, SOper.mk (some 19) none (SOp.load true 3 (Operand.tmp 5)))
              (DT.q (true, SOper.mk (some 23) none (SOp.load true 3 (Operand.tmp 5)))
                (DT.alt
                  (false,
                    SOper.mk (some 20) none
                      (SOp.buildS 223 1 [Value.int IntKind.i64 0, Value.int IntKind.i64 0, Value.int IntKind.i64 0]
                        [(0, 3, Operand.tmp 19)]))
                  (DT.alt
                    (false,
                      SOper.mk (some 21) none
                        (SOp.append 221 223 3 24
                          (Value.agg
                            (Array.mk [Value.int IntKind.i64 0, Value.int IntKind.i64 0, Value.int IntKind.i64 0]))
                          (Operand.tmp 18) (Operand.tmp 20)))
                    (DT.alt (false, SOper.mk (some 22) none (SOp.load false 1 (Operand.tmp 4)))
                      (DT.alt
                        (false,
                          SOper.mk (some 24) none
                            (SOp.buildS 223 1
                              [Value.int IntKind.i64 0, Value.int IntKind.i64 0, Value.int IntKind.i64 0]
                              [(0, 3, Operand.tmp 23)]))
                        (DT.alt
                          (false,
                            SOper.mk (some 25) none
                              (SOp.append 221 223 3 24
                                (Value.agg
                                  (Array.mk
                                    [Value.int IntKind.i64 0, Value.int IntKind.i64 0, Value.int IntKind.i64 0]))
                                (Operand.tmp 22) (Operand.tmp 24)))
                          (DT.alt (false, SOper.mk none none (SOp.store 1 (Operand.tmp 3) (Operand.tmp 21)))
                            (DT.alt (false, SOper.mk none none (SOp.store 1 (Operand.tmp 4) (Operand.tmp 25))) DT.fin
                              DT.no)
                            DT.no)
                          DT.no)
                        DT.no)
                      (DT.alt
                        (false,
                          SOper.mk (some 24) none
                            (SOp.buildS 223 1
                              [Value.int IntKind.i64 0, Value.int IntKind.i64 0, Value.int IntKind.i64 0]
                              [(0, 3, Operand.tmp 23)]))
                        (DT.alt (false, SOper.mk (some 22) none (SOp.load false 1 (Operand.tmp 4)))
                          (DT.alt
                            (false,
                              SOper.mk (some 25) none
                                (SOp.append 221 223 3 24
                                  (Value.agg
                                    (Array.mk
                                      [Value.int IntKind.i64 0, Value.int IntKind.i64 0, Value.int IntKind.i64 0]))
                                  (Operand.tmp 22) (Operand.tmp 24)))
                            (DT.alt (false, SOper.mk none none (SOp.store 1 (Operand.tmp 3) (Operand.tmp 21)))
                              (DT.alt (false, SOper.mk none none (SOp.store 1 (Operand.tmp 4) (Operand.tmp 25))) DT.fin
                                DT.no)
                              DT.no)
                            DT.no)
                          DT.no)
                        DT.no))
                    (DT.alt (false, SOper.mk (some 22) none (SOp.load false 1 (Operand.tmp 4)))
                      (DT.alt
                        (false,
                          SOper.mk (some 21) none
                            (SOp.append 221 223 3 24
                              (Value.agg
                                (Array.mk [Value.int IntKind.i64 0, Value.int IntKind.i64 0, Value.int IntKind.i64 0]))
                              (Operand.tmp 18) (Operand.tmp 20)))
                        (DT.alt
                          (false,
                            SOper.mk (some 24) none
                              (SOp.buildS 223 1
                                [Value.int IntKind.i64 0, Value.int IntKind.i64 0, Value.int IntKind.i64 0]
                                [(0, 3, Operand.tmp 23)]))
                          (DT.alt
                            (false,
                              SOper.mk (some 25) none
                                (SOp.append 221 223 3 24
                                  (Value.agg
                                    (Array.mk
                                      [Value.int IntKind.i64 0, Value.int IntKind.i64 0, Value.int IntKind.i64 0]))
                                  (Operand.tmp 22) (Operand.tmp 24)))
                            (DT.alt (false, SOper.mk none none (SOp.store 1 (Operand.tmp 3) (Operand.tmp 21)))
                              (DT.alt (false, SOper.mk none none (SOp.store 1 (Operand.tmp 4) (Operand.tmp 25))) DT.fin
                                DT.no)
                              DT.no)
                            DT.no)
                          DT.no)
                        (DT.alt
                          (false,
                            SOper.mk (some 24) none
                              (SOp.buildS 223 1
                                [Value.int IntKind.i64 0, Value.int IntKind.i64 0, Value.int IntKind.i64 0]
                                [(0, 3, Operand.tmp 23)]))
                          (DT.alt
                            (false,
                              SOper.mk (some 21) none
                                (SOp.append 221 223 3 24
                                  (Value.agg
                                    (Array.mk
                                      [Value.int IntKind.i64 0, Value.int IntKind.i64 0, Value.int IntKind.i64 0]))
                                  (Operand.tmp 18) (Operand.tmp 20)))
                            (DT.alt
                              (false,
                                SOper.mk (some 25) none
                                  (SOp.append 221 223 3 24
                                    (Value.agg
                                      (Array.mk
                                        [Value.int IntKind.i64 0, Value.int IntKind.i64 0, Value.int IntKind.i64 0]))
                                    (Operand.tmp 22) (Operand.tmp 24)))
                              (DT.alt (false, SOper.mk none none (SOp.store 1 (Operand.tmp 3) (Operand.tmp 21)))
                                (DT.alt (false, SOper.mk none none (SOp.store 1 (Operand.tmp 4) (Operand.tmp 25)))
                                  DT.fin DT.no)
                                DT.no)
                              DT.no)
                            DT.no)
                          DT.no))
                      (DT.alt
                        (false,
                          SOper.mk (some 24) none
                            (SOp.buildS 223 1
                              [Value.int IntKind.i64 0, Value.int IntKind.i64 0, Value.int IntKind.i64 0]
                              [(0, 3, Operand.tmp 23)]))
                        (DT.alt
                          (false,
                            SOper.mk (some 21) none
                              (SOp.append 221 223 3 24
                                (Value.agg
                                  (Array.mk
                                    [Value.int IntKind.i64 0, Value.int IntKind.i64 0, Value.int IntKind.i64 0]))
                                (Operand.tmp 18) (Operand.tmp 20)))
                          (DT.alt (false, SOper.mk (some 22) none (SOp.load false 1 (Operand.tmp 4)))
                            (DT.alt
                              (false,
                                SOper.mk (some 25) none
                                  (SOp.append 221 223 3 24
                                    (Value.agg
                                      (Array.mk
                                        [Value.int IntKind.i64 0, Value.int IntKind.i64 0, Value.int IntKind.i64 0]))
                                    (Operand.tmp 22) (Operand.tmp 24)))
                              (DT.alt (false, SOper.mk none none (SOp.store 1 (Operand.tmp 3) (Operand.tmp 21)))
                                (DT.alt (false, SOper.mk none none (SOp.store 1 (Operand.tmp 4) (Operand.tmp 25)))
                                  DT.fin DT.no)
                                DT.no)
                              DT.no)
                            DT.no)
                          (DT.alt (false, SOper.mk (some 22) none (SOp.load false 1 (Operand.tmp 4)))
                            (DT.alt
                              (false,
                                SOper.mk (some 21) none
                                  (SOp.append 221 223 3 24
                                    (Value.agg
                                      (Array.mk
                                        [Value.int IntKind.i64 0, Value.int IntKind.i64 0, Value.int IntKind.i64 0]))
                                    (Operand.tmp 18) (Operand.tmp 20)))
                              (DT.alt
                                (false,
                                  SOper.mk (some 25) none
                                    (SOp.append 221 223 3 24
                                      (Value.agg
                                        (Array.mk
                                          [Value.int IntKind.i64 0, Value.int IntKind.i64 0, Value.int IntKind.i64 0]))
                                      (Operand.tmp 22) (Operand.tmp 24)))
                                (DT.alt (false, SOper.mk none none (SOp.store 1 (Operand.tmp 3) (Operand.tmp 21)))
                                  (DT.alt (false, SOper.mk none none (SOp.store 1 (Operand.tmp 4) (Operand.tmp 25)))
                                    DT.fin DT.no)
                                  DT.no)
                                DT.no)
                              DT.no)
                            DT.no))
                        DT.no)))
                  (DT.alt (false, SOper.mk (some 22) none (SOp.load false 1 (Operand.tmp 4)))
                    (DT.alt
                      (false,
                        SOper.mk (some 20) none
                          (SOp.buildS 223 1 [Value.int IntKind.i64 0, Value.int IntKind.i64 0, Value.int IntKind.i64 0]
                            [(0, 3, Operand.tmp 19)]))
                      (DT.alt
                        (false,
                          SOper.mk (some 21) none
                            (SOp.append 221 223 3 24
                              (Value.agg
                                (Array.mk [Value.int IntKind.i64 0, Value.int IntKind.i64 0, Value.int IntKind.i64 0]))
                              (Operand.tmp 18) (Operand.tmp 20)))
                        (DT.alt
                          (false,
                            SOper.mk (some 24) none
                              (SOp.buildS 223 1
                                [Value.int IntKind.i64 0, Value.int IntKind.i64 0, Value.int IntKind.i64 0]
                                [(0, 3, Operand.tmp 23)]))
                          (DT.alt
                            (false,
                              SOper.mk (some 25) none
                                (SOp.append 221 223 3 24
                                  (Value.agg
                                    (Array.mk
                                      [Value.int IntKind.i64 0, Value.int IntKind.i64 0, Value.int IntKind.i64 0]))
                                  (Operand.tmp 22) (Operand.tmp 24)))
                            (DT.alt (false, SOper.mk none none (SOp.store 1 (Operand.tmp 3) (Operand.tmp 21)))
                              (DT.alt (false, SOper.mk none none (SOp.store 1 (Operand.tmp 4) (Operand.tmp 25))) DT.fin
                                DT.no)
                              DT.no)
                            DT.no)
                          DT.no)
                        (DT.alt
                          (false,
                            SOper.mk (some 24) none
                              (SOp.buildS 223 1
                                [Value.int IntKind.i64 0, Value.int IntKind.i64 0, Value.int IntKind.i64 0]
                                [(0, 3, Operand.tmp 23)]))
                          (DT.alt
                            (false,
                              SOper.mk (some 21) none
                                (SOp.append 221 223 3 24
                                  (Value.agg
                                    (Array.mk
                                      [Value.int IntKind.i64 0, Value.int IntKind.i64 0, Value.int IntKind.i64 0]))
                                  (Operand.tmp 18) (Operand.tmp 20)))
                            (DT.alt
                              (false,
                                SOper.mk (some 25) none
                                  (SOp.append 221 223 3 24
                                    (Value.agg
                                      (Array.mk
                                        [Value.int IntKind.i64 0, Value.int IntKind.i64 0, Value.int IntKind.i64 0]))
                                    (Operand.tmp 22) (Operand.tmp 24)))
                              (DT.alt (false, SOper.mk none none (SOp.store 1 (Operand.tmp 3) (Operand.tmp 21)))
                                (DT.alt (false, SOper.mk none none (SOp.store 1 (Operand.tmp 4) (Operand.tmp 25)))
                                  DT.fin DT.no)
                                DT.no)
                              DT.no)
                            DT.no)
                          DT.no))
                      (DT.alt
                        (false,
                          SOper.mk (some 24) none
                            (SOp.buildS 223 1
                              [Value.int IntKind.i64 0, Value.int IntKind.i64 0, Value.int IntKind.i64 0]
                              [(0, 3, Operand.tmp 23)]))
                        (DT.alt
                          (false,
                            SOper.mk (some 20) none
                              (SOp.buildS 223 1
                                [Value.int IntKind.i64 0, Value.int IntKind.i64 0, Value.int IntKind.i64 0]
                                [(0, 3, Operand.tmp 19)]))
                          (DT.alt
                            (false,
                              SOper.mk (some 21) none
                                (SOp.append 221 223 3 24
                                  (Value.agg
                                    (Array.mk
                                      [Value.int IntKind.i64 0, Value.int IntKind.i64 0, Value.int IntKind.i64 0]))
                                  (Operand.tmp 18) (Operand.tmp 20)))
                            (DT.alt
                              (false,
                                SOper.mk (some 25) none
                                  (SOp.append 221 223 3 24
                                    (Value.agg
                                      (Array.mk
                                        [Value.int IntKind.i64 0, Value.int IntKind.i64 0, Value.int IntKind.i64 0]))
                                    (Operand.tmp 22) (Operand.tmp 24)))
                              (DT.alt (false, SOper.mk none none (SOp.store 1 (Operand.tmp 3) (Operand.tmp 21)))
                                (DT.alt (false, SOper.mk none none (SOp.store 1 (Operand.tmp 4) (Operand.tmp 25)))
                                  DT.fin DT.no)
                                DT.no)
                              DT.no)
                            DT.no)
                          DT.no)
                        DT.no))
                    (DT.alt
                      (false,
                        SOper.mk (some 24) none
                          (SOp.buildS 223 1 [Value.int IntKind.i64 0, Value.int IntKind.i64 0, Value.int IntKind.i64 0]
                            [(0, 3, Operand.tmp 23)]))
                      (DT.alt
                        (false,
                          SOper.mk (some 20) none
                            (SOp.buildS 223 1
                              [Value.int IntKind.i64 0, Value.int IntKind.i64 0, Value.int IntKind.i64 0]
                              [(0, 3, Operand.tmp 19)]))
                        (DT.alt
                          (false,
                            SOper.mk (some 21) none
                              (SOp.append 221 223 3 24
                                (Value.agg
                                  (Array.mk
                                    [Value.int IntKind.i64 0, Value.int IntKind.i64 0, Value.int IntKind.i64 0]))
                                (Operand.tmp 18) (Operand.tmp 20)))
                          (DT.alt (false, SOper.mk (some 22) none (SOp.load false 1 (Operand.tmp 4)))
                            (DT.alt
                              (false,
                                SOper.mk (some 25) none
                                  (SOp.append 221 223 3 24
                                    (Value.agg
                                      (Array.mk
                                        [Value.int IntKind.i64 0, Value.int IntKind.i64 0, Value.int IntKind.i64 0]))
                                    (Operand.tmp 22) (Operand.tmp 24)))
                              (DT.alt (false, SOper.mk none none (SOp.store 1 (Operand.tmp 3) (Operand.tmp 21)))
                                (DT.alt (false, SOper.mk none none (SOp.store 1 (Operand.tmp 4) (Operand.tmp 25)))
                                  DT.fin DT.no)
                                DT.no)
                              DT.no)
                            DT.no)
                          (DT.alt (false, SOper.mk (some 22) none (SOp.load false 1 (Operand.tmp 4)))
                            (DT.alt
                              (false,
                                SOper.mk (some 21) none
                                  (SOp.append 221 223 3 24
                                    (Value.agg
                                      (Array.mk
                                        [Value.int IntKind.i64 0, Value.int IntKind.i64 0, Value.int IntKind.i64 0]))
                                    (Operand.tmp 18) (Operand.tmp 20)))
                              (DT.alt
                                (false,
                                  SOper.mk (some 25) none
                                    (SOp.append 221 223 3 24
                                      (Value.agg
                                        (Array.mk
                                          [Value.int IntKind.i64 0, Value.int IntKind.i64 0, Value.int IntKind.i64 0]))
                                      (Operand.tmp 22) (Operand.tmp 24)))
                                (DT.alt (false, SOper.mk none none (SOp.store 1 (Operand.tmp 3) (Operand.tmp 21)))
                                  (DT.alt (false, SOper.mk none none (SOp.store 1 (Operand.tmp 4) (Operand.tmp 25)))
                                    DT.fin DT.no)
                                  DT.no)
                                DT.no)
                              DT.no)
                            DT.no))
                        (DT.alt (false, SOper.mk (some 22) none (SOp.load false 1 (Operand.tmp 4)))
                          (DT.alt
                            (false,
                              SOper.mk (some 20) none
                                (SOp.buildS 223 1
                                  [Value.int IntKind.i64 0, Value.int IntKind.i64 0, Value.int IntKind.i64 0]
                                  [(0, 3, Operand.tmp 19)]))
                            (DT.alt
                              (false,
                                SOper.mk (some 21) none
                                  (SOp.append 221 223 3 24
                                    (Value.agg
                                      (Array.mk
                                        [Value.int IntKind.i64 0, Value.int IntKind.i64 0, Value.int IntKind.i64 0]))
                                    (Operand.tmp 18) (Operand.tmp 20)))
                              (DT.alt
                                (false,
                                  SOper.mk (some 25) none
                                    (SOp.append 221 223 3 24
                                      (Value.agg
                                        (Array.mk
                                          [Value.int IntKind.i64 0, Value.int IntKind.i64 0, Value.int IntKind.i64 0]))
                                      (Operand.tmp 22) (Operand.tmp 24)))
                                (DT.alt (false, SOper.mk none none (SOp.store 1 (Operand.tmp 3) (Operand.tmp 21)))
                                  (DT.alt (false, SOper.mk none none (SOp.store 1 (Operand.tmp 4) (Operand.tmp 25)))
                                    DT.fin DT.no)
                                  DT.no)
                                DT.no)
                              DT.no)
                            DT.no)
                          DT.no))
                      DT.no))))))
          []))
      Stmt.skip))
def S173 : FnS := ⟨26, [], S173_0⟩
theorem tr173 : trFn Try.prog 173 [5] [[1, 2, 3, 4, 5], [2, 3, 4, 5, 15], [3, 4, 5], [], [], [2, 0, 2, 1, 2, 5, 3, 2, 3, 3, 3, 4, 3, 6, 3, 7, 3, 8, 3, 9, 0, 1, 1, 1, 1, 3, 6, 3, 4, 3, 7, 3, 8, 3, 9, 0, 1, 1, 1, 1, 1, 3, 4, 3, 3, 3, 6, 3, 7, 3, 8, 3, 9, 0, 1, 1, 1, 1, 3, 6, 3, 3, 3, 7, 3, 8, 3, 9, 0, 1, 1, 1, 1, 1, 3, 6, 3, 3, 3, 4, 3, 7, 3, 8, 3, 9, 0, 1, 1, 1, 1, 3, 4, 3, 3, 3, 7, 3, 8, 3, 9, 0, 1, 1, 1, 1, 1, 1, 3, 4, 3, 2, 3, 3, 3, 6, 3, 7, 3, 8, 3, 9, 0, 1, 1, 1, 1, 3, 6, 3, 3, 3, 7, 3, 8, 3, 9, 0, 1, 1, 1, 1, 1, 3, 6, 3, 2, 3, 3, 3, 7, 3, 8, 3, 9, 0, 1, 1, 1, 1, 1, 1, 3, 6, 3, 2, 3, 3, 3, 4, 3, 7, 3, 8, 3, 9, 0, 1, 1, 1, 1, 3, 4, 3, 3, 3, 7, 3, 8, 3, 9, 0, 1, 1, 1, 1, 1, 3, 4, 3, 2, 3, 3, 3, 7, 3, 8, 3, 9, 0, 1, 1, 1, 1, 1, 1, 1], [5], [], [], [1], [0, 1, 2], [], [], [5], [0, 1, 2, 3, 4, 5, 6], [0, 1, 2, 3, 4, 5, 6, 7], [0, 1, 2, 3, 4, 5, 6, 7, 8]] = some S173 := by kernel_rfl
end Go.Proofs.Ytniobbepliknmaa.V
/- Items that are added: parlref5.lengthsOf's inner function walked; no condition. -/
namespace Go.Proofs.Ytniobbepliknmaa.V
open Go
set_option linter.unusedVariables false
set_option linter.unusedSimpArgs false
attribute [local go_sem] e_seq e_region e_quiet e_join e_loop e_cond e_block e_exit e_ret e_skip e_fin e_kseq e_snrm e_sret e_sex e_bnrm e_bret e_bex e_rnrm e_rret e_res e_condC e_nil e_g e_mv g_mv e_pick g_pick pickC_eq e_ibin g_ibin ibinC_eq e_sbin g_sbin e_beq g_beq beqC_eq e_nilq g_nilq nilqC_sl nilqC_pt nilqC_mp e_un g_un unC_not unC_neg e_conv g_conv convC_eq e_fld g_fld fldC_ref fldC_ptr e_nilCheck g_nilCheck nilCheckC_ref nilCheckC_ptr nilCheckC_fun e_field g_field fieldC_eq e_len g_len lenC_sl lenC_str e_extract g_extract extractC_eq e_mkFunc e_build g_build e_idiv g_idiv idivC_eq e_ishift g_ishift ishiftC_eq e_idx g_idx e_idxA g_idxA e_load g_load loadC_ref loadC_ptr loadB_eq e_slc g_slc e_box boxC_loc boxC_esc e_alloc allocC_loc allocC_esc e_buildS e_store storeC_ref storeC_ptr storeB_eq e_append e_appz e_mk mkC_eq e_call callC_eq e_fn g_fn fnC_eq fnV_min' fnV_max' fnV_rune' e_q g_q e_a e_n g_call g_box g_alloc g_buildS g_store g_append g_mk g_a g_n g_dead e_dead e_callK e_drawn e_tree e_finJ e_tk e_tfin e_tno e_nbt_q e_nbt_qn e_nbt_a e_nbt_an e_nbt_fin e_early_nil e_early_t e_early_f e_nob_nil e_nob_none e_nob_some isBox_dead isBox_v isBox_ref e_dnil e_dk e_ek e_finB vcOps_vc1 e_dcons e_tq e_ekt e_tearly e_talt e_dearly look_nil look_c proj_nil proj_c looks_nil looks_c zip_nil zip_c val_tmp val_const val_func slv_v slv_box slv_ref slot_tmp slot_const slot_func slotL_v slotL_box slotL_ref put_some put_none updBox_c boxSet_box gd_eq slotVals_nil slotVals_c slotVals_b boxV_box boxOn_box slotsOn_nil slotsOn_c slotsOn_b resV_one resV_two vals_nil vals_c allOn_nil allOn_c partOn_nil partOn_c partVals_nil partVals_c fits_nil fits_c fillL_nil fillL_c mkv_one mkv_agg cellsV_agg cellsV_int cellsV_bool cellsV_slice cellsV_string cellsV_pointer cellsV_func cellsV_nilf cellsV_map one'_nil one'_c oc_int oc_bool oc_slice oc_string oc_pointer oc_func oc_nilf oc_map setC_eq iv_add iv_sub iv_mul iv_eql iv_neq iv_lss iv_leq iv_gtr iv_geq iok_add iok_sub iok_mul iok_eql iok_neq iok_lss iok_leq iok_gtr iok_geq pickV_bool args0_nil args0_c bnd_none bnd_some imp_bt imp_bf imp_ebt imp_ebf imp_eb1 imp_np imp_pp beq_tt beq_tf beq_ft beq_ff cond_or cond_and e_round e_meet Int.le_refl Int.toNat_zero decide_true decide_false Bool.or_false Bool.false_or Bool.true_or Bool.or_true Bool.and_false Bool.false_and Bool.bne_false Bool.bne_true beq_iff_eq Int.cast_ofNat_Int not_false_eq_true not_true_eq_false false_and and_false false_implies true_implies true_and and_true Bool.true_and Bool.and_true Bool.not_true Bool.not_false forall_const implies_true List.take_zero List.drop_zero List.take_succ_cons List.drop_succ_cons List.take_nil List.drop_nil List.length_cons List.length_nil List.nil_append List.append_nil List.cons_append Int.toNat_natCast decide_eq_true_eq decide_eq_false_iff_not cond_true cond_false and_self List.getElem?_cons_zero List.getElem?_cons_succ List.set_cons_zero List.set_cons_succ Option.some.injEq exists_eq_left' Nat.zero_add Nat.add_zero Nat.mul_one imp_self true_or or_true or_false false_or Bool.or_eq_true Bool.or_eq_false_iff Bool.and_eq_true Bool.and_eq_false_iff Bool.not_eq_true' Bool.not_eq_false'

theorem KT.comp {P : Program} {k : TypeId} {α γ : Type} {eK : α → Value} {good : α → Prop} (T : KT P k eK good) (f : γ → α) (hf : ∀ a b, f a = f b → a = b) : KT P k (fun x => eK (f x)) (fun x => good (f x)) where
  inj a b h := hf a b (T.inj _ _ h)
  check w em a h := T.check w em _ h
  find w a h es he := T.find w _ h es fun e hm => let ⟨b, q1, q2⟩ := he e hm; ⟨f b, q1, q2⟩
  stays w a h := T.stays w _ h
/-- an item: a rule, a dot, a length -/
structure It where
  r : Int
  d : Int
  n : Int
  deriving DecidableEq
instance : Rep It where
  sz := 3
  ok _ x cs := cs = [.int .i64 x.r, .int .i64 x.d, .int .i64 x.n]
  len h := by subst h; rfl
  one h := by subst h; simp [one', Value.oneCell']
  mono h _ := h
def itK (x : It) : Value := intsV [x.r, x.d, x.n]
def okIt (x : It) : Prop := okInts 3 [x.r, x.d, x.n]
theorem kt_it : KT Try.prog 223 itK okIt :=
  (kt_ints (P := Try.prog) (k := 223) (e := 3) (n := 3) (by kernel_rfl) (of_decide_eq_true (by kernel_rfl)) (of_decide_eq_true (by kernel_rfl)) (by kernel_rfl) (by kernel_rfl) (by kernel_rfl) (by kernel_rfl) (by kernel_rfl) (by kernel_rfl)).comp (fun x : It => [x.r, x.d, x.n]) fun a b h => by
    cases a; cases b; simp at h ⊢; exact h

theorem cells_two {b : Nat} {T : TypeId} {cs : List Value} {g : PH} {Γ : Ctx} : Cells (g :: one b (.cells cs.toArray T) :: Γ) b 0 cs := cells_lk (lk_tail lk_head)
theorem lens_add {Γr : Ctx} (x : It) (hx : okIt x) {pn pm pa pr bm : Nat} {n : Int} {all row : List It} {va0 vr : Value} {hm ca ra0 cr rr : PH} (hn : lk Γr pn (.cells [.int .i64 n].toArray 3 (0, 0))) (hpm : lk Γr pm (.cells [.map (some bm)].toArray 220 (0, 0)))
    (hM : MapM hm bm itK Value.bool okIt (mset id all)) (hca : ca pa = some (.cells [va0].toArray 221 (0, 0))) (hra : Bld ra0 (lk []) 223 va0 all) (hcr : cr pr = some (.cells [vr].toArray 221 (0, 0))) (hrr : Bld rr (lk []) 223 vr row) (hal : all.length ≤ 1000000) (hrl : row.length ≤ 1000000) :
    Ret Try.prog 173 [.agg #[.int .i64 x.r, .int .i64 x.d, .int .i64 x.n], .pointer (some ⟨pn, 0, none⟩), .pointer (some ⟨pm, 0, none⟩), .pointer (some ⟨pa, 0, none⟩), .pointer (some ⟨pr, 0, none⟩)] Γr [hm, ca, ra0, cr, rr]
      (fun v Γ => ∃ hm ca ra cr rr va vr, Γ = [hm, ca, ra, cr, rr] ∧ MapM hm bm itK Value.bool okIt (mset id (if x.n ≤ n ∧ x ∉ all then all ++ [x] else all)) ∧ ca pa = some (.cells [va].toArray 221 (0, 0)) ∧ Bld ra (lk []) 223 va (if x.n ≤ n ∧ x ∉ all then all ++ [x] else all) ∧
        cr pr = some (.cells [vr].toArray 221 (0, 0)) ∧ Bld rr (lk []) 223 vr (if x.n ≤ n ∧ x ∉ all then row ++ [x] else row) ∧
        ∀ v0 xs0, Snap ra0 (lk []) 223 v0 va0 xs0 all → Snap ra (lk []) 223 v0 va xs0 (if x.n ≤ n ∧ x ∉ all then all ++ [x] else all)) := by
  generalize hR : (fun (v : Value) (Γ : Ctx) => ∃ hm ca ra cr rr va vr, _) = R
  refine ret_of_vc tr173 (Nat.le_of_ble_eq_true rfl) ?_
  obtain ⟨A1, c1, rfl⟩ := hra.val
  obtain ⟨A2, c2, rfl⟩ := hrr.val
  simp -implicitDefEqProofs only [S173, S173_0, go_sem, Nat.reduceBEq, Nat.reduceAdd, Nat.reduceSub, Nat.reduceMul, Nat.reduceLeDiff, reduceCtorEq, ↓reduceIte, Int.reduceLT, Int.reduceLE, Int.reduceEq, Int.reduceNe]
  intro b
  refine s_ld0 (cells_lk (lk_r _ _ _ _ hn)) (by simp) (by simp) ?_
  simp -implicitDefEqProofs only [go_sem, Nat.reduceBEq, Nat.reduceAdd, Nat.reduceSub, Nat.reduceMul, Nat.reduceLeDiff, reduceCtorEq, ↓reduceIte, Int.reduceLT, Int.reduceLE, Int.reduceEq, Int.reduceNe]
  by_cases hle : x.n ≤ n
  · have hd : decide (x.n ≤ n) = true := by simpa using hle
    simp only [hd]
    simp -implicitDefEqProofs only [go_sem, Nat.reduceBEq, Nat.reduceAdd, Nat.reduceSub, Nat.reduceMul, Nat.reduceLeDiff, reduceCtorEq, ↓reduceIte, Int.reduceLT, Int.reduceLE, Int.reduceEq, Int.reduceNe]
    refine s_ld0 (cells_lk (lk_r _ _ _ _ hpm)) (by simp) (by simp) ?_
    simp -implicitDefEqProofs only [go_sem, Nat.reduceBEq, Nat.reduceAdd, Nat.reduceSub, Nat.reduceMul, Nat.reduceLeDiff, reduceCtorEq, ↓reduceIte, Int.reduceLT, Int.reduceLE, Int.reduceEq, Int.reduceNe]
    rw [show Value.agg #[Value.int IntKind.i64 x.r, Value.int IntKind.i64 x.d, Value.int IntKind.i64 x.n] = itK x from rfl]
    refine s_q trivial (qr_look kt_it (et := 4) (z := .bool false) (by kernel_rfl) (zero_run (by kernel_rfl)) false (hM.l (by simp)) hx) ?_
    have hget : mget (mset id all) x = if x ∈ all then some true else none := by rw [mget_set]; simp
    rw [hget]
    by_cases hin : x ∈ all
    · rw [if_pos hin]
      simp only [Option.elim_some]
      simp -implicitDefEqProofs only [go_sem, Nat.reduceBEq, Nat.reduceAdd, Nat.reduceSub, Nat.reduceMul, Nat.reduceLeDiff, reduceCtorEq, ↓reduceIte, Int.reduceLT, Int.reduceLE, Int.reduceEq, Int.reduceNe]
      refine Up.here ?_
      subst hR
      rw [if_neg (by simp [hin]), if_neg (by simp [hin])]
      exact ⟨hm, ca, ra0, cr, rr, _, _, rfl, hM, hca, hra, hcr, hrr, fun _ _ h => h⟩
    · rw [if_neg hin]
      simp only [Option.elim_none]
      simp -implicitDefEqProofs only [go_sem, Nat.reduceBEq, Nat.reduceAdd, Nat.reduceSub, Nat.reduceMul, Nat.reduceLeDiff, reduceCtorEq, ↓reduceIte, Int.reduceLT, Int.reduceLE, Int.reduceEq, Int.reduceNe]
      refine s_ld0 (cells_lk (lk_r _ _ _ _ hpm)) (by simp) (by simp) ?_
      simp -implicitDefEqProofs only [go_sem, Nat.reduceBEq, Nat.reduceAdd, Nat.reduceSub, Nat.reduceMul, Nat.reduceLeDiff, reduceCtorEq, ↓reduceIte, Int.reduceLT, Int.reduceLE, Int.reduceEq, Int.reduceNe]
      rw [show Value.agg #[Value.int IntKind.i64 x.r, Value.int IntKind.i64 x.d, Value.int IntKind.i64 x.n] = itK x from rfl]
      refine s_upd kt_it (et := 4) (ix := 0) (eV := Value.bool) (by kernel_rfl) rfl hM true hx ?_
      intro hm' hM' _
      rw [show mput (mset id all) x true = mset id (all ++ [x]) from mput_set id all x (by simpa using hin)] at hM'
      simp -implicitDefEqProofs only [go_sem, Nat.reduceBEq, Nat.reduceAdd, Nat.reduceSub, Nat.reduceMul, Nat.reduceLeDiff, reduceCtorEq, ↓reduceIte, Int.reduceLT, Int.reduceLE, Int.reduceEq, Int.reduceNe]
      refine ⟨[hm', ca, ra0, cr, rr], [], fun ψ Γ' => ψ = [] ∧ ∃ hm ca ra cr rr va vr, Γ' = [hm, ca, ra, cr, rr] ∧ MapM hm bm itK Value.bool okIt (mset id (all ++ [x])) ∧ ca pa = some (.cells [va].toArray 221 (0, 0)) ∧ Bld ra (lk []) 223 va (all ++ [x]) ∧
        cr pr = some (.cells [vr].toArray 221 (0, 0)) ∧ Bld rr (lk []) 223 vr (row ++ [x]) ∧ (∀ v0 xs0, Snap ra0 (lk []) 223 v0 (.slice A1 all.length c1) xs0 all → Snap ra (lk []) 223 v0 va xs0 (all ++ [x])), Ent.refl _, ?_, ?_⟩
      · simp -implicitDefEqProofs only [go_sem, Nat.reduceBEq, Nat.reduceAdd, Nat.reduceSub, Nat.reduceMul, Nat.reduceLeDiff, reduceCtorEq, ↓reduceIte, Int.reduceLT, Int.reduceLE, Int.reduceEq, Int.reduceNe]
        refine s_ld0 (cells_lk ⟨ca, by simp, hca⟩) (by simp) (by simp) ?_
        simp -implicitDefEqProofs only [go_sem, Nat.reduceBEq, Nat.reduceAdd, Nat.reduceSub, Nat.reduceMul, Nat.reduceLeDiff, reduceCtorEq, ↓reduceIte, Int.reduceLT, Int.reduceLE, Int.reduceEq, Int.reduceNe]
        repeat' first
          | with_reducible exact True.intro
          | with_reducible refine And.intro ?_ ?_
          | with_reducible intro bk
          | (refine s_ld0 (cells_lk ⟨cr, by simp, hcr⟩) (by simp) (by simp) ?_)
          | (refine s_app1K (ix := 3) (x := x) rfl hra (Mem.le.refl _) rfl cells_one rfl (by omega) (by unfold maxLen; omega) ?_; intro av ag ah ao ak; obtain ⟨aA, ac, rfl⟩ := ah.val)
          | (refine s_app1K (ix := 3) (x := x) rfl hra (Mem.le.refl _) rfl cells_two rfl (by omega) (by unfold maxLen; omega) ?_; intro av ag ah ao ak; obtain ⟨aA, ac, rfl⟩ := ah.val)
          | (refine s_app1K (ix := 4) (x := x) rfl hra (Mem.le.refl _) rfl cells_one rfl (by omega) (by unfold maxLen; omega) ?_; intro av ag ah ao ak; obtain ⟨aA, ac, rfl⟩ := ah.val)
          | (refine s_app1K (ix := 4) (x := x) rfl hra (Mem.le.refl _) rfl cells_two rfl (by omega) (by unfold maxLen; omega) ?_; intro av ag ah ao ak; obtain ⟨aA, ac, rfl⟩ := ah.val)
          | (refine s_app1 (ix := 6) (x := x) rfl hrr (Mem.le.refl _) rfl cells_one rfl (by omega) (by unfold maxLen; omega) ?_; intro rv rg rh rk; obtain ⟨rA, rc, rfl⟩ := rh.val)
          | (refine s_app1 (ix := 6) (x := x) rfl hrr (Mem.le.refl _) rfl cells_two rfl (by omega) (by unfold maxLen; omega) ?_; intro rv rg rh rk; obtain ⟨rA, rc, rfl⟩ := rh.val)
          | (refine s_storeV (ix := 3) rfl hca rfl rfl ?_)
          | (refine s_storeV (ix := 5) rfl hcr rfl rfl ?_)
          | simp -implicitDefEqProofs only [go_sem, Nat.reduceBEq, Nat.reduceAdd, Nat.reduceSub, Nat.reduceMul, Nat.reduceLeDiff, reduceCtorEq, ↓reduceIte, Int.reduceLT, Int.reduceLE, Int.reduceEq, Int.reduceNe]
        all_goals refine Up.sel [[2], [3], [4], [5], [6]] (by decide) fun _ _ => ⟨_, _, _, _, _, _, _, rfl, hM', ?_, ah, ?_, rh, fun v0 xs0 q => q.app hra ao ah ak⟩
        all_goals exact upd_self _ _ _
      · rintro ψ Γ' ⟨rfl, hm, ca, ra, cr, rr, va, vr, rfl, h1, h2, h3, h4, h5, h6⟩
        simp -implicitDefEqProofs only [go_sem, Nat.reduceBEq, Nat.reduceAdd, Nat.reduceSub, Nat.reduceMul, Nat.reduceLeDiff, reduceCtorEq, ↓reduceIte, Int.reduceLT, Int.reduceLE, Int.reduceEq, Int.reduceNe]
        refine Up.here ?_
        subst hR
        rw [if_pos ⟨hle, hin⟩, if_pos ⟨hle, hin⟩]
        exact ⟨hm, ca, ra, cr, rr, va, vr, rfl, h1, h2, h3, h4, h5, h6⟩
  · have hd : decide (x.n ≤ n) = false := by simpa using hle
    simp only [hd]
    simp -implicitDefEqProofs only [go_sem, Nat.reduceBEq, Nat.reduceAdd, Nat.reduceSub, Nat.reduceMul, Nat.reduceLeDiff, reduceCtorEq, ↓reduceIte, Int.reduceLT, Int.reduceLE, Int.reduceEq, Int.reduceNe]
    refine s_ldg0 (cs := [.map none]) (by simp) (by simp) (by simp) (by simp) ?_
    simp -implicitDefEqProofs only [go_sem, Nat.reduceBEq, Nat.reduceAdd, Nat.reduceSub, Nat.reduceMul, Nat.reduceLeDiff, reduceCtorEq, ↓reduceIte, Int.reduceLT, Int.reduceLE, Int.reduceEq, Int.reduceNe]
    refine ⟨.bool false, by simp, ?_⟩
    simp -implicitDefEqProofs only [go_sem, Nat.reduceBEq, Nat.reduceAdd, Nat.reduceSub, Nat.reduceMul, Nat.reduceLeDiff, reduceCtorEq, ↓reduceIte, Int.reduceLT, Int.reduceLE, Int.reduceEq, Int.reduceNe]
    refine Up.here ?_
    subst hR
    rw [if_neg (by simp [hle]), if_neg (by simp [hle])]
    exact ⟨hm, ca, ra0, cr, rr, _, _, rfl, hM, hca, hra, hcr, hrr, fun _ _ h => h⟩
end Go.Proofs.Ytniobbepliknmaa.V
/- Lengths of words, item by item: the plain law; no condition. -/
namespace Go.Proofs.Ytniobbepliknmaa.V
open Go
set_option linter.unusedVariables false
set_option linter.unusedSimpArgs false

theorem LenD.snocT {g : Gr} {l : List Sy} {k : Nat} {n : Int} (h : LenD g l k) : LenD g (l ++ [⟨true, n⟩]) (k + 1) := by
  induction h with
  | nil => exact .term .nil
  | @term n' l k _ ih => rw [Nat.add_assoc]; exact .term ih
  | @non a l r j k hr ha hd _ _ ih2 => rw [Nat.add_assoc]; exact .non hr ha hd ih2
theorem LenD.snocN {g : Gr} {l : List Sy} {k j : Nat} {a : Int} (h : LenD g l k) (ha : HasD g a j) : LenD g (l ++ [⟨false, a⟩]) (k + j) := by
  induction h with
  | nil =>
    obtain ⟨r, hr, h1, h2⟩ := ha
    rw [Nat.zero_add, show j = j + 0 from rfl]
    exact .non hr h1 h2 .nil
  | @term n' l k _ ih => rw [Nat.add_assoc]; exact .term ih
  | @non b l r i k hr hb hd _ _ ih2 => rw [Nat.add_assoc]; exact .non hr hb hd ih2
/-- an item is so -/
def ItS (g : Gr) (n : Nat) (x : It) : Prop := 0 ≤ x.r ∧ 0 ≤ x.d ∧ 0 ≤ x.n ∧ x.n ≤ n ∧ ∃ r, g.rs[x.r.toNat]? = some r ∧ x.d.toNat ≤ r.r.length ∧ LenD g (r.r.take x.d.toNat) x.n.toNat
def toldL (rows : List (List Bool)) (a : Int) (k : Nat) : Prop := (rows.getD a.toNat []).getD k false = true
/-- what follows from an item is there -/
def ItC (g : Gr) (n : Nat) (rows : List (List Bool)) (all : List It) (x : It) : Prop := ∀ r, g.rs[x.r.toNat]? = some r →
  (x.d.toNat = r.r.length → toldL rows r.l x.n.toNat) ∧ ∀ s, r.r[x.d.toNat]? = some s →
    (s.t = true → x.n + 1 ≤ n → (⟨x.r, x.d + 1, x.n + 1⟩ : It) ∈ all) ∧ (s.t = false → ∀ k : Nat, toldL rows s.n k → x.n + k ≤ n → (⟨x.r, x.d + 1, x.n + k⟩ : It) ∈ all)
theorem work_all {g : Gr} {n : Nat} {rows : List (List Bool)} {all : List It} (h0 : ∀ i : Nat, i < g.rs.length → (⟨i, 0, 0⟩ : It) ∈ all) (hc : ∀ x ∈ all, ItC g n rows all x) {l : List Sy} {m : Nat} (hd : LenD g l m) :
    ∀ (i k : Nat) (r : Ru) (pre : List Sy), g.rs[i]? = some r → r.r = pre ++ l → (⟨i, pre.length, k⟩ : It) ∈ all → k + m ≤ n → (⟨i, r.r.length, (k + m : Nat)⟩ : It) ∈ all := by
  induction hd with
  | nil =>
    intro i k r pre hr hp hin hk
    rw [hp]
    simpa using hin
  | @term a l m _ ih =>
    intro i k r pre hr hp hin hk
    have hs : r.r[pre.length]? = some ⟨true, a⟩ := by rw [hp]; simp
    have := ((hc _ hin r (by simpa using hr)).2 _ (by simpa using hs)).1 rfl (by simp only; omega)
    have h2 := ih i (k + 1) r (pre ++ [⟨true, a⟩]) hr (by rw [hp]; simp) (by simpa using this) (by omega)
    rw [show k + (1 + m) = k + 1 + m by omega]
    exact h2
  | @non a l r' j m hr' ha hd1 _ ih1 ih2 =>
    intro i k r pre hr hp hin hk
    obtain ⟨i', hi', e⟩ := List.getElem_of_mem hr'
    have hg : g.rs[i']? = some r' := by rw [List.getElem?_eq_getElem hi', e]
    have h1 := ih1 i' 0 r' [] hg (by simp) (by simpa using h0 i' hi') (by omega)
    have htold := (hc _ h1 r' (by simpa using hg)).1 (by simp)
    rw [ha] at htold
    have hs : r.r[pre.length]? = some ⟨false, a⟩ := by rw [hp]; simp
    have := ((hc _ hin r (by simpa using hr)).2 _ (by simpa using hs)).2 rfl j (by simpa using htold) (by simp only; omega)
    have h2 := ih2 i (k + j) r (pre ++ [⟨false, a⟩]) hr (by rw [hp]; simp) (by simpa using this) (by omega)
    rw [show k + (j + m) = k + j + m by omega]
    exact h2
/-- all is told -/
theorem work_told {g : Gr} {n : Nat} {rows : List (List Bool)} {all : List It} (h0 : ∀ i : Nat, i < g.rs.length → (⟨i, 0, 0⟩ : It) ∈ all) (hc : ∀ x ∈ all, ItC g n rows all x) {a : Int} {k : Nat} (hk : k ≤ n) (h : HasD g a k) : toldL rows a k := by
  obtain ⟨r, hr, ha, hd⟩ := h
  obtain ⟨i, hi, e⟩ := List.getElem_of_mem hr
  have hg : g.rs[i]? = some r := by rw [List.getElem?_eq_getElem hi, e]
  have h1 := work_all h0 hc hd i 0 r [] hg (by simp) (by simpa using h0 i hi) (by omega)
  have := (hc _ h1 r (by simpa using hg)).1 (by simp)
  rw [ha] at this
  simpa using this
theorem nodup_bound : ∀ (M : Nat) (l : List Nat), l.Nodup → (∀ x ∈ l, x < M) → l.length ≤ M
  | 0, [], _, _ => Nat.le_refl _
  | 0, x :: l, _, h => by have := h x (by simp); omega
  | M + 1, l, hn, h => by
    have h1 := nodup_bound M (l.erase M) (hn.erase M) (fun x hx => by
      rw [hn.mem_erase_iff] at hx
      have := h x hx.2
      have := hx.1
      omega)
    rw [List.length_erase] at h1
    split at h1 <;> omega
/-- an item's number -/
def itCode (n : Nat) (x : It) : Nat := (x.r.toNat * 5 + x.d.toNat) * (n + 1) + x.n.toNat
theorem itCode_inj {n : Nat} {x y : It} (hx : 0 ≤ x.r ∧ 0 ≤ x.d ∧ x.d ≤ 4 ∧ 0 ≤ x.n ∧ x.n ≤ n) (hy : 0 ≤ y.r ∧ 0 ≤ y.d ∧ y.d ≤ 4 ∧ 0 ≤ y.n ∧ y.n ≤ n) (h : itCode n x = itCode n y) : x = y := by
  unfold itCode at h
  have e1 : x.n.toNat = y.n.toNat := by
    have := congrArg (· % (n + 1)) h
    simp only [Nat.mul_comm _ (n + 1)] at this
    rw [Nat.mul_add_mod, Nat.mul_add_mod, Nat.mod_eq_of_lt (by omega), Nat.mod_eq_of_lt (by omega)] at this
    exact this
  have e2 : (x.r.toNat * 5 + x.d.toNat) = (y.r.toNat * 5 + y.d.toNat) := by
    rw [e1] at h
    exact Nat.eq_of_mul_eq_mul_right (show 0 < n + 1 by omega) (Nat.add_right_cancel h)
  cases x
  cases y
  simp only [It.mk.injEq] at *
  omega
theorem items_bound {n : Nat} {all : List It} (hn : all.Nodup) (h : ∀ x ∈ all, 0 ≤ x.r ∧ x.r < 32 ∧ 0 ≤ x.d ∧ x.d ≤ 4 ∧ 0 ≤ x.n ∧ x.n ≤ n) : all.length ≤ 160 * (n + 1) := by
  have h1 : (all.map (itCode n)).Nodup := by
    rw [List.Nodup, List.pairwise_map]
    refine List.Pairwise.imp_of_mem ?_ hn
    intro a b ha hb hne e
    have h1 := h a ha
    have h2 := h b hb
    exact hne (itCode_inj ⟨h1.1, h1.2.2.1, h1.2.2.2.1, h1.2.2.2.2.1, h1.2.2.2.2.2⟩ ⟨h2.1, h2.2.2.1, h2.2.2.2.1, h2.2.2.2.2.1, h2.2.2.2.2.2⟩ e)
  have h2 := nodup_bound (160 * (n + 1)) _ h1 (fun c hc => by
    obtain ⟨x, hx, rfl⟩ := List.mem_map.1 hc
    have := h x hx
    unfold itCode
    have h3 : x.r.toNat * 5 + x.d.toNat ≤ 159 := by omega
    have h4 : (x.r.toNat * 5 + x.d.toNat) * (n + 1) ≤ 159 * (n + 1) := Nat.mul_le_mul_right _ h3
    have h5 : 160 * (n + 1) = 159 * (n + 1) + (n + 1) := by rw [← Nat.succ_mul]
    omega)
  simpa using h2
end Go.Proofs.Ytniobbepliknmaa.V
/- Two automata side by side, the least word on which they differ: the plain law; no condition. -/
namespace Go.Proofs.Ytniobbepliknmaa.V
open Go
set_option linter.unusedVariables false
set_option linter.unusedSimpArgs false

/-! words, shorter ones first, then smaller ones -/
def lexLt : List Int → List Int → Prop
  | x :: v, y :: w => x < y ∨ (x = y ∧ lexLt v w)
  | _, _ => False
def LLt (v w : List Int) : Prop := v.length < w.length ∨ (v.length = w.length ∧ lexLt v w)
def LLe (v w : List Int) : Prop := v = w ∨ LLt v w
theorem lexLt_irr : ∀ v, ¬ lexLt v v
  | [] => id
  | x :: v => by simp only [lexLt, not_or, not_and]; exact ⟨by omega, fun _ => lexLt_irr v⟩
theorem lexLt_trans : ∀ {u v w : List Int}, lexLt u v → lexLt v w → lexLt u w
  | [], v, w, h, _ => by cases v <;> exact h.elim
  | x :: u, [], w, h, _ => h.elim
  | x :: u, y :: v, [], _, h => h.elim
  | x :: u, y :: v, z :: w, h1, h2 => by
    simp only [lexLt] at *
    rcases h1 with h1 | ⟨rfl, h1⟩
    · rcases h2 with h2 | ⟨rfl, h2⟩
      · exact .inl (by omega)
      · exact .inl h1
    · rcases h2 with h2 | ⟨rfl, h2⟩
      · exact .inl h2
      · exact .inr ⟨rfl, lexLt_trans h1 h2⟩
theorem lexLt_app : ∀ {v w : List Int} (a b : List Int), lexLt v w → v.length = w.length → lexLt (v ++ a) (w ++ b)
  | [], w, a, b, h, _ => by cases w <;> exact h.elim
  | x :: v, [], a, b, h, _ => h.elim
  | x :: v, y :: w, a, b, h, hl => by
    simp only [lexLt, List.cons_append] at *
    rcases h with h | ⟨rfl, h⟩
    · exact .inl h
    · exact .inr ⟨rfl, lexLt_app a b h (by simpa using hl)⟩
theorem lexLt_snoc : ∀ (v : List Int) {a b : Int}, a < b → lexLt (v ++ [a]) (v ++ [b])
  | [], a, b, h => by simp [lexLt, h]
  | x :: v, a, b, h => by simp only [lexLt, List.cons_append, true_and]; exact .inr (lexLt_snoc v h)
theorem LLt.trans {u v w : List Int} (h1 : LLt u v) (h2 : LLt v w) : LLt u w := by
  rcases h1 with h1 | ⟨h1, q1⟩
  · rcases h2 with h2 | ⟨h2, q2⟩
    · exact .inl (by omega)
    · exact .inl (by omega)
  · rcases h2 with h2 | ⟨h2, q2⟩
    · exact .inl (by omega)
    · exact .inr ⟨by omega, lexLt_trans q1 q2⟩
theorem LLe.trans {u v w : List Int} (h1 : LLe u v) (h2 : LLe v w) : LLe u w := by
  rcases h1 with rfl | h1
  · exact h2
  · rcases h2 with rfl | h2
    · exact .inr h1
    · exact .inr (h1.trans h2)
theorem LLt.irr {v : List Int} : ¬ LLt v v := by
  rintro (h | ⟨_, h⟩)
  · omega
  · exact lexLt_irr v h
theorem LLe.anti {v w : List Int} (h1 : LLe v w) (h2 : LLe w v) : v = w := by
  rcases h1 with h | h1
  · exact h
  · rcases h2 with h | h2
    · exact h.symm
    · exact absurd (h1.trans h2) LLt.irr
theorem LLe.pre (v u : List Int) : LLe v (v ++ u) := by
  cases u with
  | nil => exact .inl (by simp)
  | cons x u => exact .inr (.inl (by simp))
theorem LLt.snoc {v w : List Int} (h : LLt v w) (a b : Int) : LLt (v ++ [a]) (w ++ [b]) := by
  rcases h with h | ⟨h, q⟩
  · exact .inl (by simp; omega)
  · exact .inr ⟨by simp; omega, lexLt_app _ _ q h⟩
theorem LLt.last (v : List Int) {a b : Int} (h : a < b) : LLt (v ++ [a]) (v ++ [b]) := .inr ⟨by simp, lexLt_snoc v h⟩
theorem LLe.snoc {v w : List Int} (h : LLe v w) (a : Int) : LLe (v ++ [a]) (w ++ [a]) := by
  rcases h with rfl | h
  · exact .inl rfl
  · exact .inr (h.snoc a a)

/-! pairs of states -/
def nxt (d : Da) (s x : Int) : Int := if s < 0 then -1 else stepD d s x
def accP (d : Da) (s : Int) : Bool := decide (0 ≤ s) && decide (0 ≤ accD d s)
def goD (d : Da) (s : Int) (w : List Int) : Int := w.foldl (nxt d) s
theorem ends_go {d : Da} : ∀ {w : List Int} {s : Int}, endsD d s w = accP d (goD d s w)
  | [], s => rfl
  | x :: w, s => by
    simp only [endsD, goD, List.foldl_cons]
    split
    · rename_i h
      have e : nxt d s x = -1 := if_pos h
      rw [e]
      have : ∀ w : List Int, List.foldl (nxt d) (-1) w = -1 := fun w => by
        induction w with
        | nil => rfl
        | cons y w ih => rw [List.foldl_cons]; exact ih
      rw [this]
      simp [accP]
    · rename_i h
      have e : nxt d s x = stepD d s x := if_neg h
      rw [e]
      exact ends_go
theorem go_snoc (d : Da) (s : Int) (w : List Int) (x : Int) : goD d s (w ++ [x]) = nxt d (goD d s w) x := by simp [goD]
theorem go_cons (d : Da) (s : Int) (w : List Int) (x : Int) : goD d s (x :: w) = goD d (nxt d s x) w := rfl
theorem nxt_rng {d : Da} (V : VD d) {s x : Int} (hs : -1 ≤ s ∧ s < d.nx.length) (hx : 0 ≤ x ∧ x < colsD d) : -1 ≤ nxt d s x ∧ nxt d s x < d.nx.length := by
  unfold nxt
  split
  · omega
  · exact V.step (by omega) hx
theorem go_rng {d : Da} (V : VD d) : ∀ {w : List Int} {s : Int}, -1 ≤ s ∧ s < d.nx.length → okW d w → -1 ≤ goD d s w ∧ goD d s w < d.nx.length
  | [], s, h, _ => h
  | x :: w, s, h, hw => by
    rw [go_cons]
    exact go_rng V (nxt_rng V h (hw x (by simp))) fun y hy => hw y (by simp [hy])
/-- after this word just one of them accepts -/
def Dif (x y : Da) (w : List Int) : Prop := accP x (goD x x.st w) ≠ accP y (goD y y.st w)
def LeastW (x y : Da) (w : List Int) : Prop := okW x w ∧ Dif x y w ∧ ∀ v, okW x v → Dif x y v → LLe w v
def NoW (x y : Da) : Prop := ∀ v, okW x v → ¬ Dif x y v
theorem LeastW.same {x y : Da} {v w : List Int} (h : LeastW x y v) (h' : LeastW x y w) : v = w := (h.2.2 w h'.1 h'.2.1).anti (h'.2.2 v h.1 h.2.1)

/-! pair by pair -/
structure PR where
  a : Int
  b : Int
  f : Int
  c : Int
def PR.key (r : PR) : List Int := [r.a, r.b]
structure BFS (x y : Da) (R : List PR) (Ws : List (List Int)) (i c : Nat) : Prop where
  len : Ws.length = R.length
  zero : R[0]? = some ⟨x.st, y.st, -1, 0⟩ ∧ Ws[0]? = some []
  chain : ∀ (j : Nat) r, R[j]? = some r → 0 < j → ∃ m : Nat, r.f = m ∧ m < j ∧ ∃ u, Ws[m]? = some u ∧ Ws[j]? = some (u ++ [r.c])
  st : ∀ (j : Nat) r w, R[j]? = some r → Ws[j]? = some w → r.a = goD x x.st w ∧ r.b = goD y y.st w ∧ okW x w
  inc : ∀ (j k : Nat) v w, j < k → Ws[j]? = some v → Ws[k]? = some w → LLt v w
  nod : (R.map PR.key).Nodup
  cl : ∀ (j : Nat) r w, R[j]? = some r → Ws[j]? = some w → j < i → ∀ s : Nat, (s : Int) < colsD x → ∃ (m : Nat) (r' : PR) (w' : List Int), R[m]? = some r' ∧ Ws[m]? = some w' ∧ r'.a = nxt x r.a s ∧ r'.b = nxt y r.b s ∧ LLe w' (w ++ [(s : Int)])
  cli : ∀ r w, R[i]? = some r → Ws[i]? = some w → ∀ s : Nat, s < c → ∃ (m : Nat) (r' : PR) (w' : List Int), R[m]? = some r' ∧ Ws[m]? = some w' ∧ r'.a = nxt x r.a s ∧ r'.b = nxt y r.b s ∧ LLe w' (w ++ [(s : Int)])
  last : ∀ wi, Ws[i]? = some wi → ∀ w ∈ Ws, LLt w (wi ++ [(c : Int)])
  nd : ∀ (j : Nat) r, R[j]? = some r → j < i → accP x r.a = accP y r.b
theorem BFS.init (x y : Da) : BFS x y [⟨x.st, y.st, -1, 0⟩] [[]] 0 0 where
  len := rfl
  zero := ⟨rfl, rfl⟩
  chain j r h h0 := by
    cases j with
    | zero => omega
    | succ j => simp at h
  st j r w h h' := by
    cases j with
    | zero => simp at h h'; subst h h'; exact ⟨rfl, rfl, fun x hx => by cases hx⟩
    | succ j => simp at h
  inc j k v w hjk h h' := by
    cases k with
    | zero => omega
    | succ k => simp at h'
  nod := by simp
  cl j _ _ _ _ h := by omega
  cli r w _ _ s h := by omega
  last wi h w hw := by
    simp at h hw
    subst h hw
    exact .inl (by simp)
  nd j _ _ h := by omega
theorem BFS.at' {x y : Da} {R : List PR} {Ws : List (List Int)} {i c : Nat} (h : BFS x y R Ws i c) {j : Nat} (hj : j < R.length) : ∃ w, Ws[j]? = some w := ⟨Ws[j]'(by rw [h.len]; exact hj), List.getElem?_eq_getElem _⟩
/-- the entry is worked on: its next symbol -/
theorem BFS.seen {x y : Da} {R : List PR} {Ws : List (List Int)} {i c : Nat} (h : BFS x y R Ws i c) {r : PR} (hr : R[i]? = some r) (hs : [nxt x r.a c, nxt y r.b c] ∈ R.map PR.key) : BFS x y R Ws i (c + 1) := by
  obtain ⟨r', hr', hk⟩ := List.mem_map.1 hs
  obtain ⟨m, hm⟩ := List.getElem?_of_mem hr'
  obtain ⟨w', hw'⟩ := h.at' (List.getElem?_eq_some_iff.1 hm).1
  simp only [PR.key, List.cons.injEq, and_true] at hk
  refine { h with cli := fun r2 w hr2 hw s hsc => ?_, last := fun wi hwi w hw => ?_ }
  · by_cases e : s = c
    · subst e
      rw [hr] at hr2
      cases hr2
      exact ⟨m, r', w', hm, hw', hk.1, hk.2, .inr (h.last w hw w' (List.mem_of_getElem? hw'))⟩
    · exact h.cli r2 w hr2 hw s (by omega)
  · exact (h.last wi hwi w hw).trans (LLt.last wi (by omega))
theorem BFS.add {x y : Da} {R : List PR} {Ws : List (List Int)} {i c : Nat} (h : BFS x y R Ws i c) {r : PR} (hr : R[i]? = some r) (hc : (c : Int) < colsD x) (hs : [nxt x r.a c, nxt y r.b c] ∉ R.map PR.key) : ∃ w, BFS x y (R ++ [⟨nxt x r.a c, nxt y r.b c, i, c⟩]) (Ws ++ [w]) i (c + 1) := by
  have hil := (List.getElem?_eq_some_iff.1 hr).1
  obtain ⟨wi, hwi⟩ := h.at' hil
  have hl := h.len
  have hsti := h.st i r wi hr hwi
  have old : ∀ {α : Type} {l : List α} {z q : α} {j : Nat}, (l ++ [z])[j]? = some q → j < l.length → l[j]? = some q := fun h1 h2 => by rwa [List.getElem?_append_left h2] at h1
  have new : ∀ {α : Type} {l : List α} {z q : α} {j : Nat}, (l ++ [z])[j]? = some q → ¬ j < l.length → j = l.length ∧ q = z := fun h1 h2 => by
    rw [List.getElem?_append_right (by omega)] at h1
    rename_i l z q j
    have : j - l.length < 1 := by have := (List.getElem?_eq_some_iff.1 h1).1; simpa using this
    have e : j - l.length = 0 := by omega
    rw [e] at h1
    simp at h1
    exact ⟨by omega, h1.symm⟩
  have up : ∀ {α : Type} {l : List α} {z q : α} {j : Nat}, l[j]? = some q → (l ++ [z])[j]? = some q := fun h1 => by
    rw [List.getElem?_append_left (List.getElem?_eq_some_iff.1 h1).1]; exact h1
  refine ⟨wi ++ [(c : Int)], ?_⟩
  refine
    { len := by simp [hl]
      zero := ⟨up h.zero.1, up h.zero.2⟩
      chain := fun j q hq h0 => ?_
      st := fun j q w hq hw => ?_
      inc := fun j k v w hjk hv hw => ?_
      nod := ?_
      cl := fun j q w hq hw hji s hsc => ?_
      cli := fun q w hq hw s hsc => ?_
      last := fun w hw v hv => ?_
      nd := fun j q hq hji => h.nd j q (old hq (by omega)) hji }
  · by_cases hj : j < R.length
    · obtain ⟨m, h1, h2, u, h3, h4⟩ := h.chain j q (old hq hj) h0
      exact ⟨m, h1, h2, u, up h3, up h4⟩
    · obtain ⟨rfl, rfl⟩ := new hq hj
      exact ⟨i, rfl, hil, wi, up hwi, by rw [← hl]; simp⟩
  · by_cases hj : j < R.length
    · exact h.st j q w (old hq hj) (old hw (by omega))
    · obtain ⟨rfl, rfl⟩ := new hq hj
      obtain ⟨_, rfl⟩ := new hw (by omega)
      refine ⟨by rw [go_snoc, ← hsti.1], by rw [go_snoc, ← hsti.2.1], fun z hz => ?_⟩
      rcases List.mem_append.1 hz with hz | hz
      · exact hsti.2.2 z hz
      · simp at hz; subst hz; exact ⟨by omega, hc⟩
  · by_cases hk : k < R.length
    · exact h.inc j k v w hjk (old hv (by omega)) (old hw (by omega))
    · obtain ⟨_, rfl⟩ := new hw (by omega)
      exact h.last wi hwi v (List.mem_of_getElem? (old hv (by have := (List.getElem?_eq_some_iff.1 hw).1; simp at this; omega)))
  · rw [List.map_append, List.nodup_append]
    refine ⟨h.nod, by simp, ?_⟩
    rintro u hu v hv rfl
    simp only [List.map_cons, List.map_nil, List.mem_singleton] at hv
    subst hv
    exact hs hu
  · obtain ⟨m, r', w', h1, h2, h3⟩ := h.cl j q w (old hq (by omega)) (old hw (by omega)) hji s hsc
    exact ⟨m, r', w', up h1, up h2, h3⟩
  · have hq' := old hq hil
    have hw' := old hw (by omega)
    by_cases e : s = c
    · subst e
      rw [hr] at hq'
      cases hq'
      rw [hwi] at hw'
      cases hw'
      exact ⟨R.length, ⟨nxt x r.a s, nxt y r.b s, i, s⟩, wi ++ [(s : Int)], by simp, by rw [← hl]; simp, rfl, rfl, .inl rfl⟩
    · obtain ⟨m, r', w', h1, h2, h3⟩ := h.cli q w hq' hw' s (by omega)
      exact ⟨m, r', w', up h1, up h2, h3⟩
  · have hw' := old hw (by omega)
    rw [hwi] at hw'
    cases hw'
    rcases List.mem_append.1 hv with hv | hv
    · exact (h.last wi hwi v hv).trans (LLt.last wi (by omega))
    · simp at hv; subst hv; exact LLt.last wi (by omega)
theorem BFS.next {x y : Da} {R : List PR} {Ws : List (List Int)} {i : Nat} (h : BFS x y R Ws i (colsD x)) {r : PR} (hr : R[i]? = some r) (hnd : accP x r.a = accP y r.b) : BFS x y R Ws (i + 1) 0 := by
  have hil := (List.getElem?_eq_some_iff.1 hr).1
  obtain ⟨wi, hwi⟩ := h.at' hil
  refine { h with cl := fun j q w hq hw hji s hsc => ?_, cli := fun _ _ _ _ s h => by omega, last := fun w hw v hv => ?_, nd := fun j q hq hji => ?_ }
  · by_cases e : j = i
    · subst e; exact h.cli q w hq hw s (by omega)
    · exact h.cl j q w hq hw (by omega) s hsc
  · exact (h.last wi hwi v hv).trans ((h.inc i (i + 1) wi w (by omega) hwi hw).snoc _ _)
  · by_cases e : j = i
    · subst e; rw [hr] at hq; cases hq; exact hnd
    · exact h.nd j q hq (by omega)
/-- where each word leads -/
theorem BFS.reach {x y : Da} {R : List PR} {Ws : List (List Int)} {i : Nat} (h : BFS x y R Ws i 0) (v : List Int) : okW x v.reverse →
    (∃ (j : Nat) (r : PR) (w : List Int), j < i ∧ R[j]? = some r ∧ Ws[j]? = some w ∧ r.a = goD x x.st v.reverse ∧ r.b = goD y y.st v.reverse ∧ LLe w v.reverse) ∨
    (∃ (j : Nat) (w p u : List Int), i ≤ j ∧ Ws[j]? = some w ∧ v.reverse = p ++ u ∧ LLe w p) := by
  induction v with
  | nil =>
    intro _
    by_cases hi : 0 < i
    · exact .inl ⟨0, _, [], hi, h.zero.1, h.zero.2, rfl, rfl, .inl rfl⟩
    · exact .inr ⟨0, [], [], [], by omega, h.zero.2, rfl, .inl rfl⟩
  | cons c v ih =>
    intro hok
    rw [List.reverse_cons] at hok ⊢
    have hc := hok c (by simp)
    rcases ih (fun z hz => hok z (List.mem_append_left _ hz)) with ⟨j, r, w, hj, hr, hw, ha, hb, hle⟩ | ⟨j, w, p, u, hj, hw, he, hle⟩
    · obtain ⟨s, rfl⟩ : ∃ s : Nat, c = s := ⟨c.toNat, by omega⟩
      obtain ⟨m, r', w', h1, h2, h3, h4, h5⟩ := h.cl j r w hr hw hj s hc.2
      have hle2 : LLe w' (v.reverse ++ [(s : Int)]) := h5.trans (hle.snoc _)
      by_cases hm : m < i
      · exact .inl ⟨m, r', w', hm, h1, h2, by rw [go_snoc, ← ha, h3], by rw [go_snoc, ← hb, h4], hle2⟩
      · exact .inr ⟨m, w', _, [], by omega, h2, by simp, hle2⟩
    · exact .inr ⟨j, w, p, u ++ [c], hj, hw, by rw [he, List.append_assoc], hle⟩
theorem BFS.found {x y : Da} {R : List PR} {Ws : List (List Int)} {i : Nat} (h : BFS x y R Ws i 0) {r : PR} (hr : R[i]? = some r) (hd : accP x r.a ≠ accP y r.b) {w : List Int} (hw : Ws[i]? = some w) : LeastW x y w := by
  have hst := h.st i r w hr hw
  refine ⟨hst.2.2, ?_, fun v hv hdv => ?_⟩
  · unfold Dif; rw [← hst.1, ← hst.2.1]; exact hd
  · have := h.reach v.reverse (by rwa [List.reverse_reverse])
    rw [List.reverse_reverse] at this
    rcases this with ⟨j, r', w', hj, h1, h2, h3, h4, h5⟩ | ⟨j, w', p, u, hj, h2, he, h5⟩
    · exact absurd (h.nd j r' h1 hj) (by rw [h3, h4]; exact hdv)
    · have h6 : LLe w w' := by
        by_cases e : i = j
        · subst e; rw [hw] at h2; cases h2; exact .inl rfl
        · exact .inr (h.inc i j w w' (by omega) hw h2)
      rw [he]
      exact (h6.trans h5).trans (LLe.pre _ _)
theorem BFS.none {x y : Da} {R : List PR} {Ws : List (List Int)} {i : Nat} (h : BFS x y R Ws i 0) (hi : R.length ≤ i) : NoW x y := by
  intro v hv hdv
  have := h.reach v.reverse (by rwa [List.reverse_reverse])
  rw [List.reverse_reverse] at this
  rcases this with ⟨j, r', w', hj, h1, h2, h3, h4, h5⟩ | ⟨j, w', p, u, hj, h2, he, h5⟩
  · exact hdv (by have := h.nd j r' h1 hj; rw [h3, h4] at this; exact this)
  · have := (List.getElem?_eq_some_iff.1 h2).1
    rw [h.len] at this
    omega
/-- there are not many pairs -/
theorem BFS.bound {x y : Da} (Vx : VD x) (Vy : VD y) (hxy : colsD x = colsD y) {R : List PR} {Ws : List (List Int)} {i c : Nat} (h : BFS x y R Ws i c) : R.length ≤ 40401 := by
  have hx := Vx.len
  have hy := Vy.len
  have hb : ∀ r ∈ R, -1 ≤ r.a ∧ r.a < x.nx.length ∧ -1 ≤ r.b ∧ r.b < y.nx.length := by
    intro r hr
    obtain ⟨j, hj⟩ := List.getElem?_of_mem hr
    obtain ⟨w, hw⟩ := h.at' (List.getElem?_eq_some_iff.1 hj).1
    obtain ⟨h1, h2, h3⟩ := h.st j r w hj hw
    have q1 := go_rng Vx (s := x.st) (by have := Vx.st; omega) h3
    have q2 := go_rng Vy (s := y.st) (by have := Vy.st; omega) (w := w) fun z hz => by rw [← hxy]; exact h3 z hz
    rw [← h1] at q1
    rw [← h2] at q2
    exact ⟨q1.1, q1.2, q2.1, q2.2⟩
  have := nodup_bound 40401 (R.map fun r => ((r.a + 1) * 201 + (r.b + 1)).toNat) (by
    rw [List.Nodup, List.pairwise_map]
    have hn := h.nod
    rw [List.Nodup, List.pairwise_map] at hn
    refine List.Pairwise.imp_of_mem (fun {p q} hp hq hne e => hne ?_) hn
    have h1 := hb p hp
    have h2 := hb q hq
    have : p.a = q.a ∧ p.b = q.b := by omega
    simp [PR.key, this.1, this.2]) (fun z hz => by
    obtain ⟨r, hr, rfl⟩ := List.mem_map.1 hz
    have := hb r hr
    omega)
  simpa using this

/-! by how far they are from a difference -/
def stI (d : Da) (s : Nat) : Int := if s < d.nx.length then s else -1
def gI (d : Da) (s : Nat) (c : Int) : Nat := if s < d.nx.length ∧ 0 ≤ stepD d s c then (stepD d s c).toNat else d.nx.length
theorem stI_g {d : Da} (V : VD d) {s : Nat} {c : Int} (hc : 0 ≤ c ∧ c < colsD d) : stI d (gI d s c) = nxt d (stI d s) c ∧ gI d s c ≤ d.nx.length := by
  unfold gI
  split
  · rename_i h
    have hs := V.step (s := s) (x := c) (by omega) hc
    have e : stI d s = s := if_pos h.1
    rw [e]
    unfold stI nxt
    rw [if_pos (by omega), if_neg (by omega)]
    exact ⟨by omega, by omega⟩
  · rename_i h
    unfold stI nxt
    rw [if_neg (by omega)]
    refine ⟨?_, Nat.le_refl _⟩
    split
    · rename_i hs
      rw [if_neg (by omega)]
      have := V.step (s := s) (x := c) (by omega) hc
      have : ¬ 0 ≤ stepD d s c := fun q => h ⟨hs, q⟩
      omega
    · rw [if_pos (by omega)]
def DifI (x y : Da) (a b : Nat) (w : List Int) : Prop := accP x (goD x (stI x a) w) ≠ accP y (goD y (stI y b) w)
theorem difI_cons {x y : Da} (Vx : VD x) (Vy : VD y) (hxy : colsD x = colsD y) {a b : Nat} {c : Int} {w : List Int} (hc : 0 ≤ c ∧ c < colsD x) : DifI x y a b (c :: w) ↔ DifI x y (gI x a c) (gI y b c) w := by
  unfold DifI
  rw [go_cons, go_cons, (stI_g Vx hc).1, (stI_g Vy (by rw [← hxy]; exact hc)).1]
def fr (F : List (List Int)) (a b : Nat) : Int := (F.getD a []).getD b 0
structure FarS (x y : Da) (F : List (List Int)) : Prop where
  len : F.length = x.nx.length + 1
  row : ∀ r ∈ F, r.length = y.nx.length + 1
  lo : ∀ a b, a ≤ x.nx.length → b ≤ y.nx.length → 0 ≤ fr F a b ∧ fr F a b ≤ 1099511627776
  snd : ∀ a b, a ≤ x.nx.length → b ≤ y.nx.length → fr F a b < 1099511627776 → ∃ w, okW x w ∧ (w.length : Int) = fr F a b ∧ DifI x y a b w
  zero : ∀ a b, a ≤ x.nx.length → b ≤ y.nx.length → DifI x y a b [] → fr F a b = 0
def FarC (x y : Da) (F : List (List Int)) : Prop := ∀ a b, a ≤ x.nx.length → b ≤ y.nx.length → ∀ c : Nat, (c : Int) < colsD x → fr F a b ≤ fr F (gI x a c) (gI y b c) + 1
theorem far_le {x y : Da} (Vx : VD x) (Vy : VD y) (hxy : colsD x = colsD y) {F : List (List Int)} (hS : FarS x y F) (hC : FarC x y F) : ∀ {w : List Int} {a b : Nat}, a ≤ x.nx.length → b ≤ y.nx.length → okW x w → DifI x y a b w → fr F a b ≤ w.length
  | [], a, b, ha, hb, _, hd => by rw [hS.zero a b ha hb hd]; simp
  | c :: w, a, b, ha, hb, hw, hd => by
    have hc := hw c (by simp)
    rw [difI_cons Vx Vy hxy hc] at hd
    obtain ⟨cn, rfl⟩ : ∃ n : Nat, c = n := ⟨c.toNat, by omega⟩
    have h1 := far_le Vx Vy hxy hS hC (stI_g Vx hc).2 (stI_g Vy (by rw [← hxy]; exact hc)).2 (fun z hz => hw z (by simp [hz])) hd
    have h2 := hC a b ha hb cn hc.2
    simp
    omega
inductive GrW (x y : Da) (F : List (List Int)) : Nat → Nat → List Int → Prop
  | nil {a b : Nat} : fr F a b = 0 → GrW x y F a b []
  | cons {a b c : Nat} {w : List Int} : (c : Int) < colsD x → 0 < fr F a b → fr F (gI x a c) (gI y b c) = fr F a b - 1 → (∀ c' : Nat, c' < c → fr F (gI x a c') (gI y b c') ≠ fr F a b - 1) → GrW x y F (gI x a c) (gI y b c) w → GrW x y F a b ((c : Int) :: w)
theorem GrW.least {x y : Da} (Vx : VD x) (Vy : VD y) (hxy : colsD x = colsD y) {F : List (List Int)} (hS : FarS x y F) (hC : FarC x y F) {a b : Nat} {w : List Int} (h : GrW x y F a b w) : a ≤ x.nx.length → b ≤ y.nx.length →
    okW x w ∧ (w.length : Int) = fr F a b ∧ DifI x y a b w ∧ ∀ v, okW x v → DifI x y a b v → LLe w v := by
  induction h with
  | @nil a b h0 =>
    intro ha hb
    refine ⟨fun z hz => (by cases hz), (by rw [h0]; rfl), ?_, fun v _ _ => LLe.pre [] v⟩
    obtain ⟨w, h1, h2, h3⟩ := hS.snd a b ha hb (by omega)
    rw [h0] at h2
    have : w = [] := List.eq_nil_of_length_eq_zero (by omega)
    rwa [this] at h3
  | @cons a b c w hc h0 h1 hmin _ ih =>
    intro ha hb
    have hcc : 0 ≤ (c : Int) ∧ (c : Int) < colsD x := ⟨by omega, hc⟩
    obtain ⟨q1, q2, q3, q4⟩ := ih (stI_g Vx hcc).2 (stI_g Vy (by rw [← hxy]; exact hcc)).2
    refine ⟨fun z hz => ?_, by simp; omega, (difI_cons Vx Vy hxy hcc).2 q3, fun v hv hdv => ?_⟩
    · rcases List.mem_cons.1 hz with rfl | hz
      · exact hcc
      · exact q1 z hz
    have hle := far_le Vx Vy hxy hS hC ha hb hv hdv
    cases v with
    | nil => simp at hle; omega
    | cons c' v =>
      have hc' := hv c' (by simp)
      obtain ⟨cn, rfl⟩ : ∃ n : Nat, c' = n := ⟨c'.toNat, by omega⟩
      have hdv' := (difI_cons Vx Vy hxy hc').1 hdv
      have hok' : okW x v := fun z hz => hv z (by simp [hz])
      by_cases hl : w.length < v.length
      · exact .inr (.inl (by simp; exact hl))
      · simp at hle
        have hvl : v.length = w.length := by omega
        have h3 := far_le Vx Vy hxy hS hC (stI_g Vx hc').2 (stI_g Vy (by rw [← hxy]; exact hc')).2 hok' hdv'
        have h4 := hC a b ha hb cn hc'.2
        have h5 : ¬ cn < c := fun q => hmin cn q (by omega)
        by_cases e : cn = c
        · subst e
          rcases q4 v hok' hdv' with rfl | q
          · exact .inl rfl
          · rcases q with q | ⟨q, q'⟩
            · omega
            · exact .inr (.inr ⟨by simp; omega, .inr ⟨rfl, q'⟩⟩)
        · exact .inr (.inr ⟨by simp; omega, .inl (by omega)⟩)
/-- there is a symbol that leads nearer -/
theorem far_next {x y : Da} (Vx : VD x) (Vy : VD y) (hxy : colsD x = colsD y) {F : List (List Int)} (hS : FarS x y F) (hC : FarC x y F) {a b : Nat} (ha : a ≤ x.nx.length) (hb : b ≤ y.nx.length) (h0 : 0 < fr F a b) (h1 : fr F a b < 1099511627776) : ∃ c : Nat, (c : Int) < colsD x ∧ fr F (gI x a c) (gI y b c) = fr F a b - 1 := by
  obtain ⟨w, h2, h3, h4⟩ := hS.snd a b ha hb h1
  cases w with
  | nil => simp at h3; omega
  | cons c w =>
    have hc := h2 c (by simp)
    obtain ⟨cn, rfl⟩ : ∃ n : Nat, c = n := ⟨c.toNat, by omega⟩
    have h5 := far_le Vx Vy hxy hS hC (stI_g Vx hc).2 (stI_g Vy (by rw [← hxy]; exact hc)).2 (fun z hz => h2 z (by simp [hz])) ((difI_cons Vx Vy hxy hc).1 h4)
    have h6 := hC a b ha hb cn hc.2
    simp at h3
    exact ⟨cn, hc.2, by omega⟩
theorem stI_st {d : Da} (V : VD d) : stI d d.st.toNat = d.st := by
  have := V.st
  unfold stI
  rw [if_pos (by omega)]
  omega
theorem greedy_least {x y : Da} (Vx : VD x) (Vy : VD y) (hxy : colsD x = colsD y) {F : List (List Int)} (hS : FarS x y F) (hC : FarC x y F) {w : List Int} (h : GrW x y F x.st.toNat y.st.toNat w) : LeastW x y w := by
  have h1 := Vx.st
  have h2 := Vy.st
  obtain ⟨q1, _, q3, q4⟩ := h.least Vx Vy hxy hS hC (by omega) (by omega)
  unfold DifI at q3 q4
  rw [stI_st Vx, stI_st Vy] at q3 q4
  exact ⟨q1, q3, q4⟩
/-- what is told of the least word -/
def Told (x y : Da) (w : List Int) (b : Bool) : Prop := (b = true ∧ LeastW x y w ∧ w.length ≤ 40401) ∨ (b = false ∧ w = [] ∧ NoW x y)
def ToldF (x y : Da) (w : List Int) (b : Bool) : Prop := (b = true ∧ LeastW x y w) ∨ (b = false ∧ w = [] ∧ ∀ v, okW x v → Dif x y v → 1099511627776 ≤ v.length)
theorem told_same {x y : Da} {v w : List Int} {a b : Bool} (h : Told x y v a) (h' : ToldF x y w b) : v = w ∧ a = b := by
  rcases h with ⟨rfl, h1, h2⟩ | ⟨rfl, rfl, h1⟩
  · rcases h' with ⟨rfl, h3⟩ | ⟨rfl, rfl, h3⟩
    · exact ⟨h1.same h3, rfl⟩
    · have := h3 v h1.1 h1.2.1
      omega
  · rcases h' with ⟨rfl, h3⟩ | ⟨rfl, rfl, h3⟩
    · exact absurd h3.2.1 (h1 _ h3.1)
    · exact ⟨rfl, rfl⟩
theorem far_none {x y : Da} (Vx : VD x) (Vy : VD y) (hxy : colsD x = colsD y) {F : List (List Int)} (hS : FarS x y F) (hC : FarC x y F) (h : 1099511627776 ≤ fr F x.st.toNat y.st.toNat) : ToldF x y [] false := by
  refine .inr ⟨rfl, rfl, fun v hv hd => ?_⟩
  have h1 := Vx.st
  have h2 := Vy.st
  have := far_le Vx Vy hxy hS hC (a := x.st.toNat) (b := y.st.toNat) (by omega) (by omega) hv (by unfold DifI; rw [stI_st Vx, stI_st Vy]; exact hd)
  omega
theorem BFS.short {x y : Da} {R : List PR} {Ws : List (List Int)} {i c : Nat} (h : BFS x y R Ws i c) : ∀ (j : Nat) w, Ws[j]? = some w → w.length ≤ j := by
  intro j
  induction j using Nat.strongRecOn with
  | ind j ih =>
    intro w hw
    by_cases h0 : 0 < j
    · have hj : j < R.length := by rw [← h.len]; exact (List.getElem?_eq_some_iff.1 hw).1
      obtain ⟨m, _, hm, u, hu, hwu⟩ := h.chain j R[j] (List.getElem?_eq_getElem hj) h0
      rw [hw] at hwu
      cases hwu
      have := ih m hm u hu
      simp
      omega
    · have : j = 0 := by omega
      subst this
      rw [h.zero.2] at hw
      cases hw
      simp
end Go.Proofs.Ytniobbepliknmaa.V
/- The text of parlance/teach.way as a statement (slots: 0 row, 1 i, 2 row, 3 i); no condition. -/
namespace Go.Proofs.Ytniobbepliknmaa.V
open Go
def S174_0 : Stmt :=
  Stmt.seq (Stmt.region [SOper.mk (some 4) none (SOp.mv (Operand.const (Value.slice none 0 0)))] [0, 1])
  (Stmt.seq
    (Stmt.seq
      (Stmt.region
        [SOper.mk (some 5) none (SOp.mv (Operand.tmp 0)), SOper.mk (some 6) none (SOp.mv (Operand.tmp 1)),
          SOper.mk (some 7) none (SOp.idx 4 (Operand.tmp 5) (Operand.tmp 6)),
          SOper.mk (some 8) none (SOp.fld 2 (Operand.tmp 7)), SOper.mk (some 9) none (SOp.load false 1 (Operand.tmp 8)),
          SOper.mk (some 10) none (SOp.ibin BinOp.lss (Operand.tmp 9) (Operand.const (Value.int IntKind.i64 0)))]
        [0, 1, 10])
      (Stmt.cond (Operand.tmp 10)
        (Stmt.seq (Stmt.region [SOper.mk (some 4) none (SOp.mv (Operand.const (Value.slice none 0 0)))] [4]) Stmt.ret)
        Stmt.skip))
    (Stmt.seq
      (Stmt.tree
        (DT.q (false, SOper.mk (some 11) none (SOp.mv (Operand.tmp 0)))
          (DT.q (false, SOper.mk (some 12) none (SOp.mv (Operand.tmp 0)))
            (DT.q (false, SOper.mk (some 13) none (SOp.mv (Operand.tmp 1)))
              (DT.q (false, SOper.mk (some 18) none (SOp.mv (Operand.tmp 0)))
                (DT.q (false, SOper.mk (some 19) none (SOp.mv (Operand.tmp 1)))
                  (DT.q (false, SOper.mk (some 14) none (SOp.idx 4 (Operand.tmp 12) (Operand.tmp 13)))
                    (DT.q (false, SOper.mk (some 20) none (SOp.idx 4 (Operand.tmp 18) (Operand.tmp 19)))
                      (DT.q (false, SOper.mk (some 15) none (SOp.fld 2 (Operand.tmp 14)))
                        (DT.q (false, SOper.mk (some 21) none (SOp.fld 3 (Operand.tmp 20)))
                          (DT.q (false, SOper.mk (some 16) none (SOp.load false 1 (Operand.tmp 15)))
                            (DT.q (true, SOper.mk (some 22) none (SOp.load false 1 (Operand.tmp 21)))
                              (DT.alt
                                (false,
                                  SOper.mk (some 17) none
                                    (SOp.call (Operand.func 174) [Operand.tmp 11, Operand.tmp 16]))
                                (DT.alt
                                  (false,
                                    SOper.mk (some 23) none
                                      (SOp.buildS 3 1 [Value.int IntKind.i64 0] [(0, 1, Operand.tmp 22)]))
                                  (DT.alt
                                    (false,
                                      SOper.mk (some 24) none
                                        (SOp.append 29 3 1 8 (Value.int IntKind.i64 0) (Operand.tmp 17)
                                          (Operand.tmp 23)))
                                    (DT.q (false, SOper.mk (some 4) none (SOp.mv (Operand.tmp 24))) DT.fin) DT.no)
                                  DT.no)
                                (DT.alt
                                  (false,
                                    SOper.mk (some 23) none
                                      (SOp.buildS 3 1 [Value.int IntKind.i64 0] [(0, 1, Operand.tmp 22)]))
                                  (DT.alt
                                    (false,
                                      SOper.mk (some 17) none
                                        (SOp.call (Operand.func 174) [Operand.tmp 11, Operand.tmp 16]))
                                    (DT.alt
                                      (false,
                                        SOper.mk (some 24) none
                                          (SOp.append 29 3 1 8 (Value.int IntKind.i64 0) (Operand.tmp 17)
                                            (Operand.tmp 23)))
                                      (DT.q (false, SOper.mk (some 4) none (SOp.mv (Operand.tmp 24))) DT.fin) DT.no)
                                    DT.no)
                                  DT.no)))))))))))))
        [4])
      Stmt.ret))
def S174 : FnS := ⟨25, [(4, none)], S174_0⟩
theorem tr174 : trFn Try.prog 174 [] [[0, 1], [0, 1, 10], [4], [4], [], [2, 0, 2, 1, 2, 2, 2, 7, 2, 8, 2, 3, 2, 9, 2, 4, 2, 10, 2, 5, 2, 11, 3, 6, 3, 12, 3, 13, 2, 14, 0, 1, 1, 3, 12, 3, 6, 3, 13, 2, 14, 0, 1, 1, 1], [11], [], [], [], [1, 2], [1, 2, 3], [1, 2, 3, 4], [0, 1, 2, 3, 4, 5], [], [], [7, 8], [7, 8, 9], [7, 8, 9, 10], [7, 8, 9, 10, 11], [0, 1, 2, 3, 4, 5, 6, 7, 8, 9, 10, 11, 12], [0, 1, 2, 3, 4, 5, 6, 7, 8, 9, 10, 11, 12, 13]] = some S174 := by kernel_rfl
end Go.Proofs.Ytniobbepliknmaa.V
/- The text of parlance/teach.Differ as a statement (slots: 0 x, 1 y, 2 x, 3 y, 6 row, 7 seen, 8 i, 9 p, 10 c, 11 q, 12 k); no condition. -/
namespace Go.Proofs.Ytniobbepliknmaa.V
open Go
def S117_1 : Stmt :=
  Stmt.block 3
  (Stmt.seq
    (Stmt.region [SOper.mk (some 92) none (SOp.mv (Operand.tmp 90)), SOper.mk (some 10) none (SOp.mv (Operand.tmp 92))]
      [2, 3, 6, 7, 8, 9, 10, 89, 90])
    (Stmt.seq
      (Stmt.tree
        (DT.q (false, SOper.mk (some 93) none (SOp.load true 3 (Operand.tmp 2)))
          (DT.q (false, SOper.mk (some 94) none (SOp.fld 0 (Operand.tmp 9)))
            (DT.q (false, SOper.mk (some 96) none (SOp.mv (Operand.tmp 10)))
              (DT.q (true, SOper.mk (some 98) none (SOp.load true 3 (Operand.tmp 3)))
                (DT.q (false, SOper.mk (some 99) none (SOp.fld 1 (Operand.tmp 9)))
                  (DT.q (false, SOper.mk (some 101) none (SOp.mv (Operand.tmp 10)))
                    (DT.q (false, SOper.mk (some 103) none (SOp.mv (Operand.tmp 8)))
                      (DT.q (false, SOper.mk (some 104) none (SOp.mv (Operand.tmp 10)))
                        (DT.q (false, SOper.mk (some 95) none (SOp.load false 1 (Operand.tmp 94)))
                          (DT.q (true, SOper.mk (some 100) none (SOp.load false 1 (Operand.tmp 99)))
                            (DT.alt
                              (false,
                                SOper.mk (some 97) none
                                  (SOp.call (Operand.func 175) [Operand.tmp 93, Operand.tmp 95, Operand.tmp 96]))
                              (DT.alt
                                (false,
                                  SOper.mk (some 102) none
                                    (SOp.call (Operand.func 175) [Operand.tmp 98, Operand.tmp 100, Operand.tmp 101]))
                                (DT.q
                                  (false,
                                    SOper.mk (some 105) none
                                      (SOp.build 226
                                        [Value.int IntKind.i64 0, Value.int IntKind.i64 0, Value.int IntKind.i64 0,
                                          Value.int IntKind.i64 0]
                                        [(0, 1, Operand.tmp 97), (1, 1, Operand.tmp 102), (2, 1, Operand.tmp 103),
                                          (3, 1, Operand.tmp 104)]))
                                  (DT.alt
                                    (false,
                                      SOper.mk (some 11) none
                                        (SOp.alloc true 226
                                          (Value.agg
                                            (Array.mk
                                              [Value.int IntKind.i64 0, Value.int IntKind.i64 0,
                                                Value.int IntKind.i64 0, Value.int IntKind.i64 0]))))
                                    (DT.alt (false, SOper.mk none none (SOp.store 4 (Operand.tmp 11) (Operand.tmp 105)))
                                      DT.fin DT.no)
                                    DT.no))
                                (DT.alt
                                  (false,
                                    SOper.mk (some 11) none
                                      (SOp.alloc true 226
                                        (Value.agg
                                          (Array.mk
                                            [Value.int IntKind.i64 0, Value.int IntKind.i64 0, Value.int IntKind.i64 0,
                                              Value.int IntKind.i64 0]))))
                                  (DT.alt
                                    (false,
                                      SOper.mk (some 102) none
                                        (SOp.call (Operand.func 175)
                                          [Operand.tmp 98, Operand.tmp 100, Operand.tmp 101]))
                                    (DT.q
                                      (false,
                                        SOper.mk (some 105) none
                                          (SOp.build 226
                                            [Value.int IntKind.i64 0, Value.int IntKind.i64 0, Value.int IntKind.i64 0,
                                              Value.int IntKind.i64 0]
                                            [(0, 1, Operand.tmp 97), (1, 1, Operand.tmp 102), (2, 1, Operand.tmp 103),
                                              (3, 1, Operand.tmp 104)]))
                                      (DT.alt
                                        (false, SOper.mk none none (SOp.store 4 (Operand.tmp 11) (Operand.tmp 105)))
                                        DT.fin DT.no))
                                    DT.no)
                                  DT.no))
                              (DT.alt
                                (false,
                                  SOper.mk (some 11) none
                                    (SOp.alloc true 226
                                      (Value.agg
                                        (Array.mk
                                          [Value.int IntKind.i64 0, Value.int IntKind.i64 0, Value.int IntKind.i64 0,
                                            Value.int IntKind.i64 0]))))
                                (DT.alt
                                  (false,
                                    SOper.mk (some 97) none
                                      (SOp.call (Operand.func 175) [Operand.tmp 93, Operand.tmp 95, Operand.tmp 96]))
                                  (DT.alt
                                    (false,
                                      SOper.mk (some 102) none
                                        (SOp.call (Operand.func 175)
                                          [Operand.tmp 98, Operand.tmp 100, Operand.tmp 101]))
                                    (DT.q
                                      (false,
                                        SOper.mk (some 105) none
                                          (SOp.build 226
                                            [Value.int IntKind.i64 0, Value.int IntKind.i64 0, Value.int IntKind.i64 0,
                                              Value.int IntKind.i64 0]
                                            [(0, 1, Operand.tmp 97), (1, 1, Operand.tmp 102), (2, 1, Operand.tmp 103),
                                              (3, 1, Operand.tmp 104)]))
                                      (DT.alt
                                        (false, SOper.mk none none (SOp.store 4 (Operand.tmp 11) (Operand.tmp 105)))
                                        DT.fin DT.no))
                                    DT.no)
                                  DT.no)
                                DT.no))))))))))))
        [2, 3, 6, 7, 8, 9, 11, 89, 90])
      (Stmt.seq
        (Stmt.region
          [SOper.mk (some 106) none (SOp.fld 0 (Operand.tmp 11)),
            SOper.mk (some 107) none (SOp.load false 1 (Operand.tmp 106)),
            SOper.mk (some 108) none (SOp.fld 1 (Operand.tmp 11)),
            SOper.mk (some 109) none (SOp.load false 1 (Operand.tmp 108)),
            SOper.mk (some 110) none
              (SOp.build 228 [Value.int IntKind.i64 0, Value.int IntKind.i64 0]
                [(0, 1, Operand.tmp 107), (1, 1, Operand.tmp 109)]),
            SOper.mk (some 12) none
              (SOp.alloc true 228 (Value.agg (Array.mk [Value.int IntKind.i64 0, Value.int IntKind.i64 0]))),
            SOper.mk none none (SOp.store 2 (Operand.tmp 12) (Operand.tmp 110))]
          [2, 3, 6, 7, 8, 9, 11, 12, 89, 90])
        (Stmt.seq
          (Stmt.region
            [SOper.mk (some 111) none (SOp.mv (Operand.tmp 7)),
              SOper.mk (some 112) none (SOp.load true 2 (Operand.tmp 12)),
              SOper.mk (some 113) none (SOp.q (Qk.look 229 false) [Operand.tmp 111, Operand.tmp 112]),
              SOper.mk (some 114) none (SOp.un UnOp.not (Operand.tmp 113))]
            [2, 3, 6, 7, 8, 9, 11, 12, 89, 90, 114])
          (Stmt.cond (Operand.tmp 114)
            (Stmt.seq
              (Stmt.region
                [SOper.mk (some 115) none (SOp.mv (Operand.tmp 7)),
                  SOper.mk (some 116) none (SOp.load true 2 (Operand.tmp 12)),
                  SOper.mk none none
                    (SOp.a (Qk.upd 229) [Operand.tmp 115, Operand.tmp 116, Operand.const (Value.bool true)])]
                [2, 3, 6, 7, 8, 9, 11, 89, 90])
              (Stmt.region
                [SOper.mk (some 117) none (SOp.mv (Operand.tmp 6)),
                  SOper.mk (some 118) none (SOp.load true 4 (Operand.tmp 11)),
                  SOper.mk (some 119) none
                    (SOp.buildS 226 1
                      [Value.int IntKind.i64 0, Value.int IntKind.i64 0, Value.int IntKind.i64 0,
                        Value.int IntKind.i64 0]
                      [(0, 4, Operand.tmp 118)]),
                  SOper.mk (some 120) none
                    (SOp.append 227 226 4 32
                      (Value.agg
                        (Array.mk
                          [Value.int IntKind.i64 0, Value.int IntKind.i64 0, Value.int IntKind.i64 0,
                            Value.int IntKind.i64 0]))
                      (Operand.tmp 117) (Operand.tmp 119)),
                  SOper.mk (some 6) none (SOp.mv (Operand.tmp 120))]
                [2, 3, 6, 7, 8, 9, 89, 90]))
            Stmt.skip)))))
def S117_2 : Stmt :=
  Stmt.region
  [SOper.mk (some 121) none (SOp.ibin BinOp.add (Operand.tmp 90) (Operand.const (Value.int IntKind.i64 1))),
    SOper.mk (some 90) none (SOp.mv (Operand.tmp 121))]
  [2, 3, 6, 7, 8, 9, 89, 90]
def S117_3 : Stmt :=
  Stmt.seq
  (Stmt.region [SOper.mk (some 91) none (SOp.ibin BinOp.lss (Operand.tmp 90) (Operand.tmp 89))]
    [2, 3, 6, 7, 8, 9, 89, 90, 91])
  (Stmt.seq (Stmt.cond (Operand.tmp 91) Stmt.skip (Stmt.exit 2)) (Stmt.join S117_1 S117_2 [6] [2, 3, 7, 8, 9, 89, 90]))
def S117_4 : Stmt :=
  Stmt.seq
  (Stmt.seq
    (Stmt.region
      [SOper.mk (some 47) none (SOp.mv (Operand.tmp 8)), SOper.mk (some 48) none (SOp.mv (Operand.tmp 6)),
        SOper.mk (some 49) none (SOp.len false (Operand.tmp 48)),
        SOper.mk (some 50) none (SOp.ibin BinOp.lss (Operand.tmp 47) (Operand.tmp 49))]
      [2, 3, 6, 7, 8, 50])
    (Stmt.cond (Operand.tmp 50) Stmt.skip (Stmt.exit 0)))
  (Stmt.seq
    (Stmt.block 1
      (Stmt.seq
        (Stmt.region
          [SOper.mk (some 53) none (SOp.mv (Operand.tmp 6)), SOper.mk (some 54) none (SOp.mv (Operand.tmp 8)),
            SOper.mk (some 55) none (SOp.idx 4 (Operand.tmp 53) (Operand.tmp 54)),
            SOper.mk (some 56) none (SOp.load true 4 (Operand.tmp 55)),
            SOper.mk (some 9) none
              (SOp.alloc true 226
                (Value.agg
                  (Array.mk
                    [Value.int IntKind.i64 0, Value.int IntKind.i64 0, Value.int IntKind.i64 0,
                      Value.int IntKind.i64 0]))),
            SOper.mk none none (SOp.store 4 (Operand.tmp 9) (Operand.tmp 56))]
          [2, 3, 6, 7, 8, 9])
        (Stmt.seq
          (Stmt.seq
            (Stmt.quiet
              [SOper.mk (some 57) none (SOp.fld 0 (Operand.tmp 9)),
                SOper.mk (some 58) none (SOp.load false 1 (Operand.tmp 57)),
                SOper.mk (some 59) none (SOp.ibin BinOp.geq (Operand.tmp 58) (Operand.const (Value.int IntKind.i64 0))),
                SOper.mk (some 60) none (SOp.mv (Operand.tmp 59)),
                SOper.mk (some 61) (some (60, true)) (SOp.fld 1 (Operand.tmp 2)),
                SOper.mk (some 62) (some (60, true)) (SOp.load false 1 (Operand.tmp 61)),
                SOper.mk (some 63) (some (60, true)) (SOp.fld 0 (Operand.tmp 9)),
                SOper.mk (some 64) (some (60, true)) (SOp.load false 1 (Operand.tmp 63)),
                SOper.mk (some 65) (some (60, true)) (SOp.idx 1 (Operand.tmp 62) (Operand.tmp 64)),
                SOper.mk (some 66) (some (60, true)) (SOp.load false 1 (Operand.tmp 65)),
                SOper.mk (some 67) (some (60, true))
                  (SOp.ibin BinOp.geq (Operand.tmp 66) (Operand.const (Value.int IntKind.i64 0))),
                SOper.mk (some 68) none (SOp.pick (Operand.tmp 60) (Operand.tmp 67) (Operand.const (Value.bool false))),
                SOper.mk (some 69) none (SOp.fld 1 (Operand.tmp 9)),
                SOper.mk (some 70) none (SOp.load false 1 (Operand.tmp 69)),
                SOper.mk (some 71) none (SOp.ibin BinOp.geq (Operand.tmp 70) (Operand.const (Value.int IntKind.i64 0))),
                SOper.mk (some 72) none (SOp.mv (Operand.tmp 71)),
                SOper.mk (some 73) (some (72, true)) (SOp.fld 1 (Operand.tmp 3)),
                SOper.mk (some 74) (some (72, true)) (SOp.load false 1 (Operand.tmp 73)),
                SOper.mk (some 75) (some (72, true)) (SOp.fld 1 (Operand.tmp 9)),
                SOper.mk (some 76) (some (72, true)) (SOp.load false 1 (Operand.tmp 75)),
                SOper.mk (some 77) (some (72, true)) (SOp.idx 1 (Operand.tmp 74) (Operand.tmp 76)),
                SOper.mk (some 78) (some (72, true)) (SOp.load false 1 (Operand.tmp 77)),
                SOper.mk (some 79) (some (72, true))
                  (SOp.ibin BinOp.geq (Operand.tmp 78) (Operand.const (Value.int IntKind.i64 0))),
                SOper.mk (some 80) none (SOp.pick (Operand.tmp 72) (Operand.tmp 79) (Operand.const (Value.bool false))),
                SOper.mk (some 81) none (SOp.beq true (Operand.tmp 68) (Operand.tmp 80))]
              [2, 3, 6, 7, 8, 9, 81])
            (Stmt.cond (Operand.tmp 81)
              (Stmt.seq
                (Stmt.region
                  [SOper.mk (some 82) none (SOp.mv (Operand.tmp 6)), SOper.mk (some 83) none (SOp.mv (Operand.tmp 8)),
                    SOper.mk (some 84) none (SOp.call (Operand.func 174) [Operand.tmp 82, Operand.tmp 83]),
                    SOper.mk (some 4) none (SOp.mv (Operand.tmp 84)),
                    SOper.mk (some 5) none (SOp.mv (Operand.const (Value.bool true)))]
                  [4, 5])
                Stmt.ret)
              Stmt.skip))
          (Stmt.seq
            (Stmt.region
              [SOper.mk (some 85) none (SOp.fld 2 (Operand.tmp 2)),
                SOper.mk (some 86) none (SOp.load false 1 (Operand.tmp 85)),
                SOper.mk (some 87) none (SOp.idx 1 (Operand.tmp 86) (Operand.const (Value.int IntKind.i64 0))),
                SOper.mk (some 88) none (SOp.load false 1 (Operand.tmp 87)),
                SOper.mk (some 89) none (SOp.len false (Operand.tmp 88)),
                SOper.mk (some 90) none (SOp.mv (Operand.const (Value.int IntKind.i64 0)))]
              [2, 3, 6, 7, 8, 9, 89, 90])
            (Stmt.block 2 (Stmt.loop S117_3 [6, 90] [2, 3, 7, 8, 9, 89]))))))
    (Stmt.region
      [SOper.mk (some 51) none (SOp.mv (Operand.tmp 8)),
        SOper.mk (some 52) none (SOp.ibin BinOp.add (Operand.tmp 51) (Operand.const (Value.int IntKind.i64 1))),
        SOper.mk (some 8) none (SOp.mv (Operand.tmp 52))]
      [2, 3, 6, 7, 8]))
def S117_0 : Stmt :=
  Stmt.seq
  (Stmt.region
    [SOper.mk (some 2) none (SOp.box true 67 (Operand.tmp 0)), SOper.mk (some 3) none (SOp.box true 67 (Operand.tmp 1)),
      SOper.mk (some 4) none (SOp.mv (Operand.const (Value.slice none 0 0))),
      SOper.mk (some 5) none (SOp.mv (Operand.const (Value.bool false)))]
    [2, 3])
  (Stmt.seq
    (Stmt.seq
      (Stmt.drawn
        [(false, SOper.mk (some 13) none (SOp.load true 3 (Operand.tmp 2))),
          (false, SOper.mk (some 14) none (SOp.call (Operand.func 115) [Operand.tmp 13])),
          (false,
            SOper.mk (some 15) none (SOp.ibin BinOp.neq (Operand.tmp 14) (Operand.const (Value.int IntKind.i64 0)))),
          (false, SOper.mk (some 16) none (SOp.mv (Operand.tmp 15))),
          (false, SOper.mk (some 17) (some (16, false)) (SOp.load true 3 (Operand.tmp 3))),
          (false, SOper.mk (some 18) (some (16, false)) (SOp.call (Operand.func 115) [Operand.tmp 17])),
          (false,
            SOper.mk (some 19) (some (16, false))
              (SOp.ibin BinOp.neq (Operand.tmp 18) (Operand.const (Value.int IntKind.i64 0)))),
          (false,
            SOper.mk (some 20) none (SOp.pick (Operand.tmp 16) (Operand.const (Value.bool true)) (Operand.tmp 19))),
          (false, SOper.mk (some 21) none (SOp.mv (Operand.tmp 20))),
          (false, SOper.mk (some 22) (some (21, false)) (SOp.fld 2 (Operand.tmp 2))),
          (false, SOper.mk (some 23) (some (21, false)) (SOp.load false 1 (Operand.tmp 22))),
          (false,
            SOper.mk (some 24) (some (21, false))
              (SOp.idx 1 (Operand.tmp 23) (Operand.const (Value.int IntKind.i64 0)))),
          (false, SOper.mk (some 25) (some (21, false)) (SOp.load false 1 (Operand.tmp 24))),
          (false, SOper.mk (some 26) (some (21, false)) (SOp.len false (Operand.tmp 25))),
          (false, SOper.mk (some 27) (some (21, false)) (SOp.fld 2 (Operand.tmp 3))),
          (false, SOper.mk (some 28) (some (21, false)) (SOp.load false 1 (Operand.tmp 27))),
          (false,
            SOper.mk (some 29) (some (21, false))
              (SOp.idx 1 (Operand.tmp 28) (Operand.const (Value.int IntKind.i64 0)))),
          (false, SOper.mk (some 30) (some (21, false)) (SOp.load false 1 (Operand.tmp 29))),
          (false, SOper.mk (some 31) (some (21, false)) (SOp.len false (Operand.tmp 30))),
          (false, SOper.mk (some 32) (some (21, false)) (SOp.ibin BinOp.neq (Operand.tmp 26) (Operand.tmp 31))),
          (false,
            SOper.mk (some 33) none (SOp.pick (Operand.tmp 21) (Operand.const (Value.bool true)) (Operand.tmp 32)))]
        [2, 3, 33])
      (Stmt.cond (Operand.tmp 33)
        (Stmt.seq
          (Stmt.region
            [SOper.mk (some 4) none (SOp.mv (Operand.const (Value.slice none 0 0))),
              SOper.mk (some 5) none (SOp.mv (Operand.const (Value.bool false)))]
            [4, 5])
          Stmt.ret)
        Stmt.skip))
    (Stmt.seq
      (Stmt.region
        [SOper.mk (some 34) none (SOp.fld 0 (Operand.tmp 2)),
          SOper.mk (some 35) none (SOp.load false 1 (Operand.tmp 34)),
          SOper.mk (some 36) none (SOp.fld 0 (Operand.tmp 3)),
          SOper.mk (some 37) none (SOp.load false 1 (Operand.tmp 36)),
          SOper.mk (some 38) none
            (SOp.build 226
              [Value.int IntKind.i64 0, Value.int IntKind.i64 0, Value.int IntKind.i64 0, Value.int IntKind.i64 0]
              [(0, 1, Operand.tmp 35), (1, 1, Operand.tmp 37), (2, 1, Operand.const (Value.int IntKind.i64 (-1))),
                (3, 1, Operand.const (Value.int IntKind.i64 0))]),
          SOper.mk (some 39) none
            (SOp.buildS 226 1
              [Value.int IntKind.i64 0, Value.int IntKind.i64 0, Value.int IntKind.i64 0, Value.int IntKind.i64 0]
              [(0, 4, Operand.tmp 38)]),
          SOper.mk (some 6) none (SOp.mv (Operand.tmp 39))]
        [2, 3, 6])
      (Stmt.seq
        (Stmt.region
          [SOper.mk (some 40) none (SOp.n (Qk.mkmap 229) []), SOper.mk (some 41) none (SOp.fld 0 (Operand.tmp 2)),
            SOper.mk (some 42) none (SOp.load false 1 (Operand.tmp 41)),
            SOper.mk (some 43) none (SOp.fld 0 (Operand.tmp 3)),
            SOper.mk (some 44) none (SOp.load false 1 (Operand.tmp 43)),
            SOper.mk (some 45) none
              (SOp.build 228 [Value.int IntKind.i64 0, Value.int IntKind.i64 0]
                [(0, 1, Operand.tmp 42), (1, 1, Operand.tmp 44)]),
            SOper.mk none none (SOp.a (Qk.upd 229) [Operand.tmp 40, Operand.tmp 45, Operand.const (Value.bool true)]),
            SOper.mk (some 46) none (SOp.mv (Operand.tmp 40)), SOper.mk (some 7) none (SOp.mv (Operand.tmp 46))]
          [2, 3, 6, 7])
        (Stmt.seq
          (Stmt.seq
            (Stmt.region [SOper.mk (some 8) none (SOp.mv (Operand.const (Value.int IntKind.i64 0)))] [2, 3, 6, 7, 8])
            (Stmt.block 0 (Stmt.loop S117_4 [6, 8] [2, 3, 7])))
          (Stmt.seq
            (Stmt.region
              [SOper.mk (some 4) none (SOp.mv (Operand.const (Value.slice none 0 0))),
                SOper.mk (some 5) none (SOp.mv (Operand.const (Value.bool false)))]
              [4, 5])
            Stmt.ret)))))
def S117 : FnS := ⟨122, [(4, none), (5, none)], S117_0⟩
theorem tr117 : trFn Try.prog 117 [2, 3, 9, 11, 12] [[2, 3], [2, 3, 33], [0, 1, 2, 3, 4, 5, 6, 7, 8, 9, 10, 11, 12, 13, 14, 15, 16, 17, 18, 19, 20], [], [], [0], [0, 1], [0, 1, 2], [0, 1, 2, 3], [0, 1, 2, 3, 4], [0, 1, 2, 3, 4, 5], [0, 1, 2, 3, 4, 5, 6], [0, 1, 2, 3, 4, 5, 6, 7], [0, 1, 2, 3, 4, 5, 6, 7, 8], [0, 1, 2, 3, 4, 5, 6, 7, 8, 9], [0, 1, 2, 3, 4, 5, 6, 7, 8, 9, 10], [0, 1, 2, 3, 4, 5, 6, 7, 8, 9, 10, 11], [0, 1, 2, 3, 4, 5, 6, 7, 8, 9, 10, 11, 12], [0, 1, 2, 3, 4, 5, 6, 7, 8], [0, 1, 2, 3, 4, 5, 6, 7, 8, 14], [0, 1, 2, 3, 4, 5, 6, 7, 8, 14, 15], [0, 1, 2, 3, 4, 5, 6, 7, 8, 14, 15, 16], [0, 1, 2, 3, 4, 5, 6, 7, 8, 14, 15, 16, 17], [0, 1, 2, 3, 4, 5, 6, 7, 8, 9, 10, 11, 12, 13, 14, 15, 16, 17, 18], [0, 1, 2, 3, 4, 5, 6, 7, 8, 9, 10, 11, 12, 13, 14, 15, 16, 17, 18, 19], [4, 5], [2, 3, 6], [2, 3, 6, 7], [2, 3, 6, 7, 8], [6, 8], [2, 3, 7], [2, 3, 6, 7, 8, 50], [2, 3, 6, 7, 8, 9], [2, 3, 6, 7, 8, 9, 81], [4, 5], [2, 3, 6, 7, 8, 9, 89, 90], [6, 90], [2, 3, 7, 8, 9, 89], [2, 3, 6, 7, 8, 9, 89, 90, 91], [6], [2, 3, 7, 8, 9, 89, 90], [2, 3, 6, 7, 8, 9, 10, 89, 90], [2, 3, 6, 7, 8, 9, 11, 89, 90], [], [2, 0, 2, 1, 2, 3, 2, 5, 2, 6, 2, 8, 2, 10, 2, 11, 2, 2, 2, 7, 3, 4, 3, 9, 2, 12, 3, 13, 3, 14, 0, 1, 1, 3, 13, 3, 9, 2, 12, 3, 14, 0, 1, 1, 1, 3, 13, 3, 4, 3, 9, 2, 12, 3, 14, 0, 1, 1, 1, 1], [5, 7], [], [], [1], [], [0, 1, 2, 3], [], [], [6], [], [0, 1, 2, 3, 4, 5, 6, 7, 8], [], [], [0, 1, 2, 3, 4, 5, 6, 7, 8, 9, 10, 11], [], [0, 1, 2, 3, 4, 5, 6, 7, 8, 9, 10, 11, 12, 13], [2, 3, 6, 7, 8, 9, 11, 12, 89, 90], [2, 3, 6, 7, 8, 9, 11, 12, 89, 90, 114], [2, 3, 6, 7, 8, 9, 11, 89, 90], [2, 3, 6, 7, 8, 9, 89, 90], [2, 3, 6, 7, 8, 9, 89, 90], [2, 3, 6, 7, 8], [4, 5]] = some S117 := by kernel_rfl
end Go.Proofs.Ytniobbepliknmaa.V
/- Two automata side by side: teach.way, teach.Differ walked; no condition. -/
namespace Go.Proofs.Ytniobbepliknmaa.V
open Go
set_option linter.unusedVariables false
set_option linter.unusedSimpArgs false
attribute [local go_sem] e_seq e_region e_quiet e_join e_loop e_cond e_block e_exit e_ret e_skip e_fin e_kseq e_snrm e_sret e_sex e_bnrm e_bret e_bex e_rnrm e_rret e_res e_condC e_nil e_g e_mv g_mv e_pick g_pick pickC_eq e_ibin g_ibin ibinC_eq e_sbin g_sbin e_beq g_beq beqC_eq e_nilq g_nilq nilqC_sl nilqC_pt nilqC_mp e_un g_un unC_not unC_neg e_conv g_conv convC_eq e_fld g_fld fldC_ref fldC_ptr e_nilCheck g_nilCheck nilCheckC_ref nilCheckC_ptr nilCheckC_fun e_field g_field fieldC_eq e_len g_len lenC_sl lenC_str e_extract g_extract extractC_eq e_mkFunc e_build g_build e_idiv g_idiv idivC_eq e_ishift g_ishift ishiftC_eq e_idx g_idx e_idxA g_idxA e_load g_load loadC_ref loadC_ptr loadB_eq e_slc g_slc e_box boxC_loc boxC_esc e_alloc allocC_loc allocC_esc e_buildS e_store storeC_ref storeC_ptr storeB_eq e_append e_appz e_mk mkC_eq e_call callC_eq e_fn g_fn fnC_eq fnV_min' fnV_max' fnV_rune' e_q g_q e_a e_n g_call g_box g_alloc g_buildS g_store g_append g_mk g_a g_n g_dead e_dead e_callK e_drawn e_tree e_finJ e_tk e_tfin e_tno e_nbt_q e_nbt_qn e_nbt_a e_nbt_an e_nbt_fin e_early_nil e_early_t e_early_f e_nob_nil e_nob_none e_nob_some isBox_dead isBox_v isBox_ref e_dnil e_dk e_ek e_finB vcOps_vc1 e_dcons e_tq e_ekt e_tearly e_talt e_dearly look_nil look_c proj_nil proj_c looks_nil looks_c zip_nil zip_c val_tmp val_const val_func slv_v slv_box slv_ref slot_tmp slot_const slot_func slotL_v slotL_box slotL_ref put_some put_none updBox_c boxSet_box gd_eq slotVals_nil slotVals_c slotVals_b boxV_box boxOn_box slotsOn_nil slotsOn_c slotsOn_b resV_one resV_two vals_nil vals_c allOn_nil allOn_c partOn_nil partOn_c partVals_nil partVals_c fits_nil fits_c fillL_nil fillL_c mkv_one mkv_agg cellsV_agg cellsV_int cellsV_bool cellsV_slice cellsV_string cellsV_pointer cellsV_func cellsV_nilf cellsV_map one'_nil one'_c oc_int oc_bool oc_slice oc_string oc_pointer oc_func oc_nilf oc_map setC_eq iv_add iv_sub iv_mul iv_eql iv_neq iv_lss iv_leq iv_gtr iv_geq iok_add iok_sub iok_mul iok_eql iok_neq iok_lss iok_leq iok_gtr iok_geq pickV_bool args0_nil args0_c bnd_none bnd_some imp_bt imp_bf imp_ebt imp_ebf imp_eb1 imp_np imp_pp beq_tt beq_tf beq_ft beq_ff cond_or cond_and e_round e_meet Int.le_refl Int.toNat_zero decide_true decide_false Bool.or_false Bool.false_or Bool.true_or Bool.or_true Bool.and_false Bool.false_and Bool.bne_false Bool.bne_true beq_iff_eq Int.cast_ofNat_Int not_false_eq_true not_true_eq_false false_and and_false false_implies true_implies true_and and_true Bool.true_and Bool.and_true Bool.not_true Bool.not_false forall_const implies_true List.take_zero List.drop_zero List.take_succ_cons List.drop_succ_cons List.take_nil List.drop_nil List.length_cons List.length_nil List.nil_append List.append_nil List.cons_append Int.toNat_natCast decide_eq_true_eq decide_eq_false_iff_not cond_true cond_false and_self List.getElem?_cons_zero List.getElem?_cons_succ List.set_cons_zero List.set_cons_succ Option.some.injEq exists_eq_left' Nat.zero_add Nat.add_zero Nat.mul_one imp_self true_or or_true or_false false_or Bool.or_eq_true Bool.or_eq_false_iff Bool.and_eq_true Bool.and_eq_false_iff Bool.not_eq_true' Bool.not_eq_false'

instance : Rep PR where
  sz := 4
  ok _ x cs := cs = [.int .i64 x.a, .int .i64 x.b, .int .i64 x.f, .int .i64 x.c]
  len h := by subst h; rfl
  one h := by subst h; simp [one', Value.oneCell']
  mono h _ := h
theorem kt_pair : KT Try.prog 228 intsV (okInts 2) := kt_ints (P := Try.prog) (k := 228) (e := 3) (n := 2) (by kernel_rfl) (of_decide_eq_true (by kernel_rfl)) (of_decide_eq_true (by kernel_rfl)) (by kernel_rfl) (by kernel_rfl) (by kernel_rfl) (by kernel_rfl) (by kernel_rfl) (by kernel_rfl)
/-- how each entry came to be -/
structure Chn (R : List PR) (Ws : List (List Int)) : Prop where
  len : Ws.length = R.length
  zero : ∀ r, R[0]? = some r → r.f = -1 ∧ Ws[0]? = some []
  chain : ∀ (j : Nat) r, R[j]? = some r → 0 < j → ∃ m : Nat, r.f = m ∧ m < j ∧ ∃ u, Ws[m]? = some u ∧ Ws[j]? = some (u ++ [r.c])
  short : ∀ (j : Nat) w, Ws[j]? = some w → w.length ≤ j
theorem BFS.chn {x y : Da} {R : List PR} {Ws : List (List Int)} {i c : Nat} (h : BFS x y R Ws i c) : Chn R Ws := ⟨h.len, fun r hr => by rw [h.zero.1] at hr; cases hr; exact ⟨rfl, h.zero.2⟩, h.chain, h.short⟩
theorem teach_way {R : List PR} {Ws : List (List Int)} (hC : Chn R Ws) {A : Option Addr} {c : Nat} (hl : R.length ≤ 100000) : ∀ (i : Nat) {Γr : Ctx} {w : List Int}, SlOk (lk Γr) A c R → Ws[i]? = some w →
    Ret Try.prog 174 [.slice A R.length c, .int .i64 i] Γr [] (fun v Γ => ∃ g, Γ = [g] ∧ Bld g (lk []) 3 v w) := by
  intro i
  induction i using Nat.strongRecOn with
  | ind i ih =>
    intro Γr w hx hw
    generalize hR : (fun (v : Value) (Γ : Ctx) => ∃ g, _) = Q
    refine ret_of_vc tr174 (Nat.le_of_ble_eq_true rfl) ?_
    have hi : i < R.length := by rw [← hC.len]; exact (List.getElem?_eq_some_iff.1 hw).1
    have hri : R[i]? = some R[i] := List.getElem?_eq_getElem hi
    obtain ⟨b1, o1, hA1, cs, hok, hc1⟩ := hx.get hi
    have hcs : cs = [.int .i64 R[i].a, .int .i64 R[i].b, .int .i64 R[i].f, .int .i64 R[i].c] := hok
    subst hcs
    simp -implicitDefEqProofs only [S174, S174_0, go_sem, Nat.reduceBEq, Nat.reduceAdd, Nat.reduceSub, Nat.reduceMul, Nat.reduceLeDiff, reduceCtorEq, ↓reduceIte, Int.reduceLT, Int.reduceLE, Int.reduceEq, Int.reduceNe]
    refine s_idx hA1 (by omega) (by omega) ?_
    simp -implicitDefEqProofs only [go_sem, Nat.reduceBEq, Nat.reduceAdd, Nat.reduceSub, Nat.reduceMul, Nat.reduceLeDiff, reduceCtorEq, ↓reduceIte, Int.reduceLT, Int.reduceLE, Int.reduceEq, Int.reduceNe]
    refine s_ld (j := 2) (hc1 _ (lk_r _ _)) (by simp) (by simp) ?_
    simp -implicitDefEqProofs only [go_sem, Nat.reduceBEq, Nat.reduceAdd, Nat.reduceSub, Nat.reduceMul, Nat.reduceLeDiff, reduceCtorEq, ↓reduceIte, Int.reduceLT, Int.reduceLE, Int.reduceEq, Int.reduceNe]
    by_cases h0 : i = 0
    · subst h0
      obtain ⟨hf, hw0⟩ := hC.zero _ hri
      rw [hw] at hw0
      cases hw0
      refine ⟨fun _ => ?_, fun h => by omega⟩
      refine Up.one fun g _ => ?_
      subst hR
      exact ⟨g, rfl, Bld.nil _ _ _⟩
    · obtain ⟨m, hf, hm, u, hu, hwu⟩ := hC.chain i _ hri (by omega)
      rw [hw] at hwu
      cases hwu
      have hsu := hC.short m u hu
      refine ⟨fun h => by omega, fun _ => ?_⟩
      refine ⟨[], [], fun ψ Γ' => ∃ g v, ψ = [(4, .v true v)] ∧ Γ' = [g] ∧ Bld g (lk []) 3 v (u ++ [R[i].c]), Ent.refl _, ?_, ?_⟩
      · simp -implicitDefEqProofs only [go_sem, Nat.reduceBEq, Nat.reduceAdd, Nat.reduceSub, Nat.reduceMul, Nat.reduceLeDiff, reduceCtorEq, ↓reduceIte, Int.reduceLT, Int.reduceLE, Int.reduceEq, Int.reduceNe]
        refine s_idx hA1 (by omega) (by omega) ?_
        simp -implicitDefEqProofs only [go_sem, Nat.reduceBEq, Nat.reduceAdd, Nat.reduceSub, Nat.reduceMul, Nat.reduceLeDiff, reduceCtorEq, ↓reduceIte, Int.reduceLT, Int.reduceLE, Int.reduceEq, Int.reduceNe]
        refine s_idx hA1 (by omega) (by omega) ?_
        simp -implicitDefEqProofs only [go_sem, Nat.reduceBEq, Nat.reduceAdd, Nat.reduceSub, Nat.reduceMul, Nat.reduceLeDiff, reduceCtorEq, ↓reduceIte, Int.reduceLT, Int.reduceLE, Int.reduceEq, Int.reduceNe]
        refine s_ld (j := 2) (hc1 _ (lk_r _ _)) (by simp) (by simp) ?_
        simp -implicitDefEqProofs only [go_sem, Nat.reduceBEq, Nat.reduceAdd, Nat.reduceSub, Nat.reduceMul, Nat.reduceLeDiff, reduceCtorEq, ↓reduceIte, Int.reduceLT, Int.reduceLE, Int.reduceEq, Int.reduceNe]
        refine s_ld (j := 3) (hc1 _ (lk_sub (by simp))) (by simp) (by simp) ?_
        simp -implicitDefEqProofs only [go_sem, Nat.reduceBEq, Nat.reduceAdd, Nat.reduceSub, Nat.reduceMul, Nat.reduceLeDiff, reduceCtorEq, ↓reduceIte, Int.reduceLT, Int.reduceLE, Int.reduceEq, Int.reduceNe]
        rw [hf]
        repeat' first
          | with_reducible exact True.intro
          | with_reducible refine And.intro ?_ ?_
          | with_reducible intro bk
          | (refine CallVC.read (ih m hm (hx.mono (lk_r _ _)) hu) ?_; rintro v1 Γ1 ⟨g1, rfl, hB1⟩; obtain ⟨A9, c9, rfl⟩ := hB1.val)
          | (refine s_app1S (ix := 1) R[i].c rfl hB1 cells_one rfl (by omega) (by unfold maxLen; omega) ?_; intro av ag ah ak)
          | (refine s_app1S (ix := 0) R[i].c rfl hB1 cells_two rfl (by omega) (by unfold maxLen; omega) ?_; intro av ag ah ak)
          | simp -implicitDefEqProofs only [go_sem, Nat.reduceBEq, Nat.reduceAdd, Nat.reduceSub, Nat.reduceMul, Nat.reduceLeDiff, reduceCtorEq, ↓reduceIte, Int.reduceLT, Int.reduceLE, Int.reduceEq, Int.reduceNe]
        · exact Up.sel [[1]] (by decide) fun _ _ => ⟨_, av, rfl, rfl, ah⟩
        · exact Up.sel [[0]] (by decide) fun _ _ => ⟨_, av, rfl, rfl, ah⟩
      · rintro ψ Γ' ⟨g, v, rfl, rfl, hB⟩
        simp -implicitDefEqProofs only [go_sem, Nat.reduceBEq, Nat.reduceAdd, Nat.reduceSub, Nat.reduceMul, Nat.reduceLeDiff, reduceCtorEq, ↓reduceIte, Int.reduceLT, Int.reduceLE, Int.reduceEq, Int.reduceNe]
        refine Up.here ?_
        subst hR
        exact ⟨g, rfl, hB⟩
theorem lit_bld1 {α : Type} [Rep α] {b : Nat} {T : TypeId} {cs : List Value} {L : Mem} (x : α) (hx : Rep.ok L x cs) : Bld (one b (.cells cs.toArray T)) L T (.slice (some ⟨b, 0, none⟩) 1 1) [x] := by
  have hl := Rep.len hx
  refine ⟨cs, ⟨by simp [hl], .inr ⟨b, 0, 0, _, rfl, by simp, by simp [maxLen], one_self _ _, by simp [hl], by simp [← hl]⟩⟩, fun i y hi => ?_⟩
  cases i with
  | zero => simp at hi; subst hi; exact ⟨cs, hx, fun j hj => by simp⟩
  | succ i => simp at hi
theorem pair_ok {d e : Da} {a b : Int} (Vd : VD d) (Ve : VD e) (ha : -1 ≤ a ∧ a < d.nx.length) (hb : -1 ≤ b ∧ b < e.nx.length) : okInts 2 [a, b] := by
  have := Vd.len
  have := Ve.len
  refine ⟨rfl, fun z hz => ?_⟩
  simp at hz
  rcases hz with rfl | rfl <;> exact wf64 (by omega) (by omega)
/-- where the pairs and the set of them lie -/
def DS (bm : Nat) (R : List PR) (v : Value) (Γ : Ctx) : Prop := ∃ hm ra, Γ = [hm, ra] ∧ MapM hm bm intsV Value.bool (okInts 2) (mset PR.key R) ∧ Bld ra (lk []) 226 v R
theorem teach_differ {Γr : Ctx} {x y : Da} (hx0 : dfF x = 0) (hy0 : dfF y = 0) (hxy : colsD x = colsD y) {A B C D : Option Addr} {ca cb cc cd : Nat} (hA : SlOk (lk Γr) A ca x.ac) (hB : SlOk (lk Γr) B cb x.nx) (hC : SlOk (lk Γr) C cc y.ac) (hD : SlOk (lk Γr) D cd y.nx) :
    Ret Try.prog 117 [.agg #[.int .i64 x.st, .slice A x.ac.length ca, .slice B x.nx.length cb], .agg #[.int .i64 y.st, .slice C y.ac.length cc, .slice D y.nx.length cd]] Γr [] (fun v Γ => ∃ g w b v', Γ = [g] ∧ v = .tuple #[v', .bool b] ∧ Bld g (lk []) 3 v' w ∧ Told x y w b) := by
  generalize hR : (fun (v : Value) (Γ : Ctx) => ∃ g w b v', _) = Q
  refine ret_of_vc tr117 (Nat.le_of_ble_eq_true rfl) ?_
  have Vx := dfF_ok hx0
  have Vy := dfF_ok hy0
  have hlx := Vx.len
  have hly := Vy.len
  have hcx := Vx.cols
  have hsx := Vx.st
  have hsy := Vy.st
  have hpx : 0 < x.nx.length := by omega
  have hpy : 0 < y.nx.length := by omega
  obtain ⟨b1, o1, hB1, A1, c1, hr1, hc1⟩ := hB.list hpx
  obtain ⟨b2, o2, hD1, A2, c2, hr2, hc2⟩ := hD.list hpy
  rw [cols_at hpx] at hc1
  rw [cols_at hpy] at hc2
  have hc1' : ∀ Γ : Ctx, Mem.le (lk Γr) (lk Γ) → Cells Γ b1 o1 [.slice A1 (colsD x) c1] := fun Γ h => by simpa using hc1 Γ h
  have hc2' : ∀ Γ : Ctx, Mem.le (lk Γr) (lk Γ) → Cells Γ b2 o2 [.slice A2 (colsD y) c2] := fun Γ h => by simpa using hc2 Γ h
  simp -implicitDefEqProofs only [S117, S117_0, go_sem, Nat.reduceBEq, Nat.reduceAdd, Nat.reduceSub, Nat.reduceMul, Nat.reduceLeDiff, reduceCtorEq, ↓reduceIte, Int.reduceLT, Int.reduceLE, Int.reduceEq, Int.reduceNe]
  intro bx by'
  refine CallVC.read (dfa_check (hA.mono (lk_r _ _)) (hB.mono (lk_r _ _))) ?_
  rintro v Γ' ⟨rfl, rfl⟩
  rw [hx0]
  simp -implicitDefEqProofs only [go_sem, Nat.reduceBEq, Nat.reduceAdd, Nat.reduceSub, Nat.reduceMul, Nat.reduceLeDiff, reduceCtorEq, ↓reduceIte, Int.reduceLT, Int.reduceLE, Int.reduceEq, Int.reduceNe]
  refine CallVC.read (dfa_check (hC.mono (lk_r _ _)) (hD.mono (lk_r _ _))) ?_
  rintro v Γ' ⟨rfl, rfl⟩
  rw [hy0]
  simp -implicitDefEqProofs only [go_sem, Nat.reduceBEq, Nat.reduceAdd, Nat.reduceSub, Nat.reduceMul, Nat.reduceLeDiff, reduceCtorEq, ↓reduceIte, Int.reduceLT, Int.reduceLE, Int.reduceEq, Int.reduceNe]
  refine s_idx hB1 (by omega) (by omega) ?_
  simp -implicitDefEqProofs only [go_sem, Nat.reduceBEq, Nat.reduceAdd, Nat.reduceSub, Nat.reduceMul, Nat.reduceLeDiff, reduceCtorEq, ↓reduceIte, Int.reduceLT, Int.reduceLE, Int.reduceEq, Int.reduceNe]
  refine s_ld0 (hc1' _ (lk_r _ _)) (by simp) (by simp) ?_
  simp -implicitDefEqProofs only [go_sem, Nat.reduceBEq, Nat.reduceAdd, Nat.reduceSub, Nat.reduceMul, Nat.reduceLeDiff, reduceCtorEq, ↓reduceIte, Int.reduceLT, Int.reduceLE, Int.reduceEq, Int.reduceNe]
  refine s_idx hD1 (by omega) (by omega) ?_
  simp -implicitDefEqProofs only [go_sem, Nat.reduceBEq, Nat.reduceAdd, Nat.reduceSub, Nat.reduceMul, Nat.reduceLeDiff, reduceCtorEq, ↓reduceIte, Int.reduceLT, Int.reduceLE, Int.reduceEq, Int.reduceNe]
  refine s_ld0 (hc2' _ (lk_r _ _)) (by simp) (by simp) ?_
  simp -implicitDefEqProofs only [go_sem, Nat.reduceBEq, Nat.reduceAdd, Nat.reduceSub, Nat.reduceMul, Nat.reduceLeDiff, reduceCtorEq, ↓reduceIte, Int.reduceLT, Int.reduceLE, Int.reduceEq, Int.reduceNe]
  refine ⟨fun h => by omega, fun _ => ?_⟩
  intro br
  refine s_mkmap fun bm => ?_
  simp -implicitDefEqProofs only [go_sem, Nat.reduceBEq, Nat.reduceAdd, Nat.reduceSub, Nat.reduceMul, Nat.reduceLeDiff, reduceCtorEq, ↓reduceIte, Int.reduceLT, Int.reduceLE, Int.reduceEq, Int.reduceNe]
  rw [show Value.agg #[Value.int IntKind.i64 x.st, Value.int IntKind.i64 y.st] = intsV [x.st, y.st] from rfl]
  refine s_upd kt_pair (et := 4) (ix := 0) (eV := Value.bool) (by kernel_rfl) rfl (MapM.new _ _ _ _) true (pair_ok Vx Vy (by omega) (by omega)) ?_
  intro hm0 hM0 _
  have hM0 : MapM hm0 bm intsV Value.bool (okInts 2) (mset PR.key [⟨x.st, y.st, -1, 0⟩]) := hM0
  simp -implicitDefEqProofs only [go_sem, Nat.reduceBEq, Nat.reduceAdd, Nat.reduceSub, Nat.reduceMul, Nat.reduceLeDiff, reduceCtorEq, ↓reduceIte, Int.reduceLT, Int.reduceLE, Int.reduceEq, Int.reduceNe]
  refine s_loop (fun f vs Γ => ∃ (i : Nat) (R : List PR) (Ws : List (List Int)) (v : Value), vs = [.v true v, .v true (.int .i64 i)] ∧ i + f = 40401 ∧ i ≤ R.length ∧ BFS x y R Ws i 0 ∧ DS bm R v Γ) 40401
    (Up.here ⟨0, [⟨x.st, y.st, -1, 0⟩], [[]], _, rfl, by omega, by omega, BFS.init x y, _, _, rfl, hM0, lit_bld1 (α := PR) ⟨x.st, y.st, -1, 0⟩ rfl⟩) ?_
  rintro f vs Γ ⟨i, R, Ws, v, rfl, hif, hiR, hF, hm, ra, rfl, hM, hB0⟩
  have hbd := hF.bound Vx Vy hxy
  obtain ⟨Av, cv, rfl⟩ := hB0.val
  simp -implicitDefEqProofs only [S117_4, go_sem, Nat.reduceBEq, Nat.reduceAdd, Nat.reduceSub, Nat.reduceMul, Nat.reduceLeDiff, reduceCtorEq, ↓reduceIte, Int.reduceLT, Int.reduceLE, Int.reduceEq, Int.reduceNe]
  refine ⟨fun hlt => ?_, fun hge => ?_⟩
  · have hi : i < R.length := by omega
    have hri : R[i]? = some R[i] := List.getElem?_eq_getElem hi
    obtain ⟨wi, hwi⟩ := hF.at' hi
    obtain ⟨hra, hrb, hwok⟩ := hF.st i _ wi hri hwi
    have rga := go_rng Vx (s := x.st) (by omega) hwok
    have rgb := go_rng Vy (s := y.st) (by omega) (w := wi) fun z hz => by rw [← hxy]; exact hwok z hz
    rw [← hra] at rga
    rw [← hrb] at rgb
    have hsl : SlOk (lk [ra]) Av cv R := by
      obtain ⟨A', c', e, h⟩ := hB0.slok (L' := lk [ra]) (Mem.le.refl _) (lk_sub (by simp)) (by omega)
      simp only [Value.slice.injEq, true_and] at e
      obtain ⟨rfl, rfl⟩ := e
      exact h
    obtain ⟨b3, o3, hA3, cs, hok, hc3⟩ := hsl.get hi
    have hcs : cs = [.int .i64 R[i].a, .int .i64 R[i].b, .int .i64 R[i].f, .int .i64 R[i].c] := hok
    subst hcs
    refine s_idx hA3 (by omega) (by omega) ?_
    simp -implicitDefEqProofs only [go_sem, Nat.reduceBEq, Nat.reduceAdd, Nat.reduceSub, Nat.reduceMul, Nat.reduceLeDiff, reduceCtorEq, ↓reduceIte, Int.reduceLT, Int.reduceLE, Int.reduceEq, Int.reduceNe]
    refine s_ld0 (hc3 _ (lk_sub (by simp))) (by simp) (by simp) ?_
    simp -implicitDefEqProofs only [go_sem, Nat.reduceBEq, Nat.reduceAdd, Nat.reduceSub, Nat.reduceMul, Nat.reduceLeDiff, reduceCtorEq, ↓reduceIte, Int.reduceLT, Int.reduceLE, Int.reduceEq, Int.reduceNe]
    intro b4
    have hxa := Vx.acc
    have hya := Vy.acc
    obtain ⟨bA, oA, hAe, hAc⟩ := ints_at hA (by omega)
    obtain ⟨bC, oC, hCe, hCc⟩ := ints_at hC (by omega)
    refine s_idxg (fun he => ⟨he, he, hAe, by simp at he; omega, by simp at he; omega⟩) ?_
    simp -implicitDefEqProofs only [go_sem, Nat.reduceBEq, Nat.reduceAdd, Nat.reduceSub, Nat.reduceMul, Nat.reduceLeDiff, reduceCtorEq, ↓reduceIte, Int.reduceLT, Int.reduceLE, Int.reduceEq, Int.reduceNe]
    refine s_ldg0 (fun he => he) (fun he => hAc R[i].a.toNat (by simp at he; omega) _ (lk_r _ _)) (by simp) (by simp) ?_
    simp -implicitDefEqProofs only [go_sem, Nat.reduceBEq, Nat.reduceAdd, Nat.reduceSub, Nat.reduceMul, Nat.reduceLeDiff, reduceCtorEq, ↓reduceIte, Int.reduceLT, Int.reduceLE, Int.reduceEq, Int.reduceNe]
    refine s_idxg (fun he => ⟨he, he, hCe, by simp at he; omega, by simp at he; omega⟩) ?_
    simp -implicitDefEqProofs only [go_sem, Nat.reduceBEq, Nat.reduceAdd, Nat.reduceSub, Nat.reduceMul, Nat.reduceLeDiff, reduceCtorEq, ↓reduceIte, Int.reduceLT, Int.reduceLE, Int.reduceEq, Int.reduceNe]
    refine s_ldg0 (fun he => he) (fun he => hCc R[i].b.toNat (by simp at he; omega) _ (lk_r _ _)) (by simp) (by simp) ?_
    simp -implicitDefEqProofs only [go_sem, Nat.reduceBEq, Nat.reduceAdd, Nat.reduceSub, Nat.reduceMul, Nat.reduceLeDiff, reduceCtorEq, ↓reduceIte, Int.reduceLT, Int.reduceLE, Int.reduceEq, Int.reduceNe]
    refine ⟨fun hne => ?_, fun heq => ?_⟩
    · refine CallVC.read (teach_way hF.chn (by omega) i (hsl.mono (lk_sub (by simp))) hwi) ?_
      rintro v Γ' ⟨g5, rfl, hB5⟩
      simp -implicitDefEqProofs only [go_sem, Nat.reduceBEq, Nat.reduceAdd, Nat.reduceSub, Nat.reduceMul, Nat.reduceLeDiff, reduceCtorEq, ↓reduceIte, Int.reduceLT, Int.reduceLE, Int.reduceEq, Int.reduceNe]
      refine Up.sel [[0]] (by decide) fun _ _ => ?_
      subst hR
      refine ⟨_, wi, true, v, rfl, rfl, hB5, .inl ⟨rfl, hF.found hri (fun q => ?_) hwi, ?_⟩⟩
      · change (accP x R[i].a == accP y R[i].b) = false at hne
        rw [q] at hne
        simp at hne
      · have := hF.short i wi hwi
        omega
    have heq' : accP x R[i].a = accP y R[i].b := heq
    refine s_idx hB1 (by omega) (by omega) ?_
    simp -implicitDefEqProofs only [go_sem, Nat.reduceBEq, Nat.reduceAdd, Nat.reduceSub, Nat.reduceMul, Nat.reduceLeDiff, reduceCtorEq, ↓reduceIte, Int.reduceLT, Int.reduceLE, Int.reduceEq, Int.reduceNe]
    refine s_ld0 (hc1' _ (lk_r _ _)) (by simp) (by simp) ?_
    simp -implicitDefEqProofs only [go_sem, Nat.reduceBEq, Nat.reduceAdd, Nat.reduceSub, Nat.reduceMul, Nat.reduceLeDiff, reduceCtorEq, ↓reduceIte, Int.reduceLT, Int.reduceLE, Int.reduceEq, Int.reduceNe]
    generalize hRi : R[i] = r at *
    refine s_loop (fun f2 vs Γ => ∃ (s : Nat) (R : List PR) (Ws : List (List Int)) (v : Value), vs = [.v true v, .v true (.int .i64 s)] ∧ s + f2 = colsD x ∧ R[i]? = some r ∧ BFS x y R Ws i s ∧ DS bm R v Γ) (colsD x)
      (Up.here ⟨0, R, Ws, _, rfl, by omega, hri, hF, _, _, rfl, hM, hB0⟩) ?_
    rintro f2 vs Γ ⟨s, R2, Ws2, v, rfl, hsf, hri2, hF2, hm2, ra2, rfl, hM2, hB2⟩
    have hbd2 := hF2.bound Vx Vy hxy
    obtain ⟨Av2, cv2, rfl⟩ := hB2.val
    simp -implicitDefEqProofs only [S117_3, go_sem, Nat.reduceBEq, Nat.reduceAdd, Nat.reduceSub, Nat.reduceMul, Nat.reduceLeDiff, reduceCtorEq, ↓reduceIte, Int.reduceLT, Int.reduceLE, Int.reduceEq, Int.reduceNe]
    refine ⟨fun hlt => ?_, fun hge => ?_⟩
    · have hs : s < colsD x := by omega
      refine s_split ?_
      simp -implicitDefEqProofs only [S117_1, S117_2, go_sem, Nat.reduceBEq, Nat.reduceAdd, Nat.reduceSub, Nat.reduceMul, Nat.reduceLeDiff, reduceCtorEq, ↓reduceIte, Int.reduceLT, Int.reduceLE, Int.reduceEq, Int.reduceNe]
      have hsy2 : (s : Int) < colsD y := by omega
      refine ⟨[hm2, ra2], [], fun ψ Γ' => Γ' = [hm2, ra2] ∧ ∃ b, ψ = [(2, .box bx 67 [.int .i64 x.st, .slice A x.ac.length ca, .slice B x.nx.length cb]), (3, .box by' 67 [.int .i64 y.st, .slice C y.ac.length cc, .slice D y.nx.length cd]), (6, .v true (.slice Av2 R2.length cv2)), (7, .v true (.map (some bm))), (8, .v true (.int .i64 i)),
        (9, .box b4 226 [.int .i64 r.a, .int .i64 r.b, .int .i64 r.f, .int .i64 r.c]), (11, .box b 226 [.int .i64 (nxt x r.a s), .int .i64 (nxt y r.b s), .int .i64 i, .int .i64 s]), (89, .v true (.int .i64 (colsD x))), (90, .v true (.int .i64 s))], Ent.refl _, ?_, ?_⟩
      · simp -implicitDefEqProofs only [go_sem, Nat.reduceBEq, Nat.reduceAdd, Nat.reduceSub, Nat.reduceMul, Nat.reduceLeDiff, reduceCtorEq, ↓reduceIte, Int.reduceLT, Int.reduceLE, Int.reduceEq, Int.reduceNe]
        repeat' first
          | with_reducible exact True.intro
          | with_reducible refine And.intro ?_ ?_
          | with_reducible intro bk
          | (refine CallVC.read (teach_step (d := x) (hB.mono (lk_sub fun g hg => by simp [hg])) Vx (s := r.a) (x := (s : Int)) rga (by omega)) ?_; rintro v1 Γ1 ⟨rfl, rfl⟩)
          | (refine CallVC.read (teach_step (d := y) (hD.mono (lk_sub fun g hg => by simp [hg])) Vy (s := r.b) (x := (s : Int)) rgb (by omega)) ?_; rintro v1 Γ1 ⟨rfl, rfl⟩)
          | simp -implicitDefEqProofs only [go_sem, Nat.reduceBEq, Nat.reduceAdd, Nat.reduceSub, Nat.reduceMul, Nat.reduceLeDiff, reduceCtorEq, ↓reduceIte, Int.reduceLT, Int.reduceLE, Int.reduceEq, Int.reduceNe]
        all_goals exact Up.here ⟨rfl, bk, rfl⟩
      rintro ψ Γ' ⟨rfl, b, rfl⟩
      simp -implicitDefEqProofs only [go_sem, Nat.reduceBEq, Nat.reduceAdd, Nat.reduceSub, Nat.reduceMul, Nat.reduceLeDiff, reduceCtorEq, ↓reduceIte, Int.reduceLT, Int.reduceLE, Int.reduceEq, Int.reduceNe]
      intro b5
      have rna := nxt_rng Vx rga (x := (s : Int)) (by omega)
      have rnb := nxt_rng Vy rgb (x := (s : Int)) (by omega)
      have hkok := pair_ok Vx Vy rna rnb
      have hnew := hF2.add hri2 (by omega)
      have hold := hF2.seen hri2
      generalize nxt x r.a s = na at *
      generalize nxt y r.b s = nb at *
      rw [show Value.agg #[Value.int IntKind.i64 na, Value.int IntKind.i64 nb] = intsV [na, nb] from rfl]
      refine s_q trivial (qr_look kt_pair (et := 4) (z := .bool false) (by kernel_rfl) (zero_run (by kernel_rfl)) false (hM2.l (by simp)) hkok) ?_
      rw [mget_set]
      by_cases hin : [na, nb] ∈ R2.map PR.key
      · rw [if_pos hin]
        simp only [Option.elim_some]
        simp -implicitDefEqProofs only [go_sem, Nat.reduceBEq, Nat.reduceAdd, Nat.reduceSub, Nat.reduceMul, Nat.reduceLeDiff, reduceCtorEq, ↓reduceIte, Int.reduceLT, Int.reduceLE, Int.reduceEq, Int.reduceNe]
        simp (disch := omega) only [wrap_id]
        exact Up.here ⟨f2 - 1, by omega, Up.here ⟨s + 1, R2, Ws2, _, rfl, by omega, hri2, hold hin, _, _, rfl, hM2, hB2⟩⟩
      · rw [if_neg hin]
        simp only [Option.elim_none]
        simp -implicitDefEqProofs only [go_sem, Nat.reduceBEq, Nat.reduceAdd, Nat.reduceSub, Nat.reduceMul, Nat.reduceLeDiff, reduceCtorEq, ↓reduceIte, Int.reduceLT, Int.reduceLE, Int.reduceEq, Int.reduceNe]
        rw [show Value.agg #[Value.int IntKind.i64 na, Value.int IntKind.i64 nb] = intsV [na, nb] from rfl]
        refine s_upd kt_pair (et := 4) (ix := 0) (eV := Value.bool) (by kernel_rfl) rfl hM2 true hkok ?_
        intro hm3 hM3 _
        obtain ⟨wn, hF3⟩ := hnew hin
        have hM3 : MapM hm3 bm intsV Value.bool (okInts 2) (mset PR.key (R2 ++ [⟨na, nb, i, s⟩])) := by
          have := mput_set PR.key R2 ⟨na, nb, i, s⟩ hin
          rw [← this]
          exact hM3
        simp -implicitDefEqProofs only [go_sem, Nat.reduceBEq, Nat.reduceAdd, Nat.reduceSub, Nat.reduceMul, Nat.reduceLeDiff, reduceCtorEq, ↓reduceIte, Int.reduceLT, Int.reduceLE, Int.reduceEq, Int.reduceNe]
        intro b6
        refine s_app1 (ix := 2) (x := (⟨na, nb, i, s⟩ : PR)) rfl hB2 (Mem.le.refl _) rfl cells_one rfl (by omega) (by unfold maxLen; omega) ?_
        intro v' g' hB3 _
        simp -implicitDefEqProofs only [go_sem, Nat.reduceBEq, Nat.reduceAdd, Nat.reduceSub, Nat.reduceMul, Nat.reduceLeDiff, reduceCtorEq, ↓reduceIte, Int.reduceLT, Int.reduceLE, Int.reduceEq, Int.reduceNe]
        simp (disch := omega) only [wrap_id]
        refine Up.here ⟨f2 - 1, by omega, Up.sel [[1], [2]] (by decide) fun _ _ => ⟨s + 1, _, _, _, rfl, by omega, ?_, hF3, _, _, rfl, hM3, hB3⟩⟩
        rw [List.getElem?_append_left (List.getElem?_eq_some_iff.1 hri2).1]
        exact hri2
    · have hs : s = colsD x := by omega
      rw [hs] at hF2
      simp (disch := omega) only [wrap_id]
      exact ⟨f - 1, by omega, Up.here ⟨i + 1, R2, Ws2, _, rfl, by omega, by have := (List.getElem?_eq_some_iff.1 hri2).1; omega, hF2.next hri2 heq', _, _, rfl, hM2, hB2⟩⟩
  · refine Up.one fun g _ => ?_
    subst hR
    exact ⟨g, [], false, _, rfl, rfl, Bld.nil _ _ _, .inr ⟨rfl, rfl, hF.none (by omega)⟩⟩
end Go.Proofs.Ytniobbepliknmaa.V
/- The text of parlance/teach.New as a statement (slots: 0 d, 1 d, 4 e, 5 t, 6 _, 7 r); no condition. -/
namespace Go.Proofs.Ytniobbepliknmaa.V
open Go
def S44_1 : Stmt :=
  Stmt.seq
  (Stmt.region [SOper.mk (some 25) none (SOp.ibin BinOp.lss (Operand.tmp 24) (Operand.tmp 23))] [5, 22, 23, 24, 25])
  (Stmt.seq (Stmt.cond (Operand.tmp 25) Stmt.skip (Stmt.exit 0))
    (Stmt.seq
      (Stmt.block 1
        (Stmt.seq
          (Stmt.region
            [SOper.mk (some 26) none (SOp.idx 1 (Operand.tmp 22) (Operand.tmp 24)),
              SOper.mk (some 27) none (SOp.load false 1 (Operand.tmp 26)),
              SOper.mk (some 7) none (SOp.mv (Operand.tmp 27))]
            [5, 7, 22, 23, 24])
          (Stmt.tree
            (DT.q (false, SOper.mk (some 28) none (SOp.mv (Operand.tmp 5)))
              (DT.q (false, SOper.mk (some 29) none (SOp.mv (Operand.tmp 5)))
                (DT.q (false, SOper.mk (some 34) none (SOp.mv (Operand.tmp 7)))
                  (DT.q (false, SOper.mk (some 30) none (SOp.nilCheck (Operand.tmp 29)))
                    (DT.q (false, SOper.mk (some 31) none (SOp.fld 0 (Operand.tmp 30)))
                      (DT.q (false, SOper.mk (some 32) none (SOp.fld 2 (Operand.tmp 31)))
                        (DT.alt (false, SOper.mk (some 33) none (SOp.load false 1 (Operand.tmp 32)))
                          (DT.alt
                            (false,
                              SOper.mk (some 35) none
                                (SOp.append 29 3 1 8 (Value.int IntKind.i64 0) (Operand.const (Value.slice none 0 0))
                                  (Operand.tmp 34)))
                            (DT.alt
                              (false,
                                SOper.mk (some 36) none
                                  (SOp.buildS 29 1 [Value.slice none 0 0] [(0, 1, Operand.tmp 35)]))
                              (DT.alt
                                (false,
                                  SOper.mk (some 37) none
                                    (SOp.append 65 29 1 24 (Value.slice none 0 0) (Operand.tmp 33) (Operand.tmp 36)))
                                (DT.q (false, SOper.mk (some 38) none (SOp.nilCheck (Operand.tmp 28)))
                                  (DT.q (false, SOper.mk (some 39) none (SOp.fld 0 (Operand.tmp 38)))
                                    (DT.q (false, SOper.mk (some 40) none (SOp.fld 2 (Operand.tmp 39)))
                                      (DT.alt
                                        (false, SOper.mk none none (SOp.store 1 (Operand.tmp 40) (Operand.tmp 37)))
                                        DT.fin DT.no))))
                                DT.no)
                              DT.no)
                            DT.no)
                          (DT.alt
                            (false,
                              SOper.mk (some 35) none
                                (SOp.append 29 3 1 8 (Value.int IntKind.i64 0) (Operand.const (Value.slice none 0 0))
                                  (Operand.tmp 34)))
                            (DT.alt (false, SOper.mk (some 33) none (SOp.load false 1 (Operand.tmp 32)))
                              (DT.alt
                                (false,
                                  SOper.mk (some 36) none
                                    (SOp.buildS 29 1 [Value.slice none 0 0] [(0, 1, Operand.tmp 35)]))
                                (DT.alt
                                  (false,
                                    SOper.mk (some 37) none
                                      (SOp.append 65 29 1 24 (Value.slice none 0 0) (Operand.tmp 33) (Operand.tmp 36)))
                                  (DT.q (false, SOper.mk (some 38) none (SOp.nilCheck (Operand.tmp 28)))
                                    (DT.q (false, SOper.mk (some 39) none (SOp.fld 0 (Operand.tmp 38)))
                                      (DT.q (false, SOper.mk (some 40) none (SOp.fld 2 (Operand.tmp 39)))
                                        (DT.alt
                                          (false, SOper.mk none none (SOp.store 1 (Operand.tmp 40) (Operand.tmp 37)))
                                          DT.fin DT.no))))
                                  DT.no)
                                DT.no)
                              (DT.alt
                                (false,
                                  SOper.mk (some 36) none
                                    (SOp.buildS 29 1 [Value.slice none 0 0] [(0, 1, Operand.tmp 35)]))
                                (DT.alt (false, SOper.mk (some 33) none (SOp.load false 1 (Operand.tmp 32)))
                                  (DT.alt
                                    (false,
                                      SOper.mk (some 37) none
                                        (SOp.append 65 29 1 24 (Value.slice none 0 0) (Operand.tmp 33)
                                          (Operand.tmp 36)))
                                    (DT.q (false, SOper.mk (some 38) none (SOp.nilCheck (Operand.tmp 28)))
                                      (DT.q (false, SOper.mk (some 39) none (SOp.fld 0 (Operand.tmp 38)))
                                        (DT.q (false, SOper.mk (some 40) none (SOp.fld 2 (Operand.tmp 39)))
                                          (DT.alt
                                            (false, SOper.mk none none (SOp.store 1 (Operand.tmp 40) (Operand.tmp 37)))
                                            DT.fin DT.no))))
                                    DT.no)
                                  DT.no)
                                DT.no))
                            DT.no))))))))
            [5, 22, 23, 24])))
      (Stmt.region
        [SOper.mk (some 41) none (SOp.ibin BinOp.add (Operand.tmp 24) (Operand.const (Value.int IntKind.i64 1))),
          SOper.mk (some 24) none (SOp.mv (Operand.tmp 41))]
        [5, 22, 23, 24])))
def S44_0 : Stmt :=
  Stmt.seq
  (Stmt.region
    [SOper.mk (some 1) none (SOp.box true 67 (Operand.tmp 0)),
      SOper.mk (some 2) none (SOp.mv (Operand.const (Value.pointer none))),
      SOper.mk (some 3) none (SOp.mv (Operand.const (Value.int IntKind.i64 0)))]
    [1])
  (Stmt.seq
    (Stmt.seq
      (Stmt.region
        [SOper.mk (some 8) none (SOp.load true 3 (Operand.tmp 1)),
          SOper.mk (some 9) none (SOp.call (Operand.func 115) [Operand.tmp 8]),
          SOper.mk (some 4) none (SOp.mv (Operand.tmp 9))]
        [1, 4])
      (Stmt.seq
        (Stmt.region
          [SOper.mk (some 10) none (SOp.mv (Operand.tmp 4)),
            SOper.mk (some 11) none (SOp.ibin BinOp.neq (Operand.tmp 10) (Operand.const (Value.int IntKind.i64 0)))]
          [1, 4, 11])
        (Stmt.cond (Operand.tmp 11)
          (Stmt.seq
            (Stmt.region
              [SOper.mk (some 12) none (SOp.mv (Operand.tmp 4)),
                SOper.mk (some 2) none (SOp.mv (Operand.const (Value.pointer none))),
                SOper.mk (some 3) none (SOp.mv (Operand.tmp 12))]
              [2, 3])
            Stmt.ret)
          Stmt.skip)))
    (Stmt.seq
      (Stmt.drawn
        [(false, SOper.mk (some 13) none (SOp.fld 0 (Operand.tmp 1))),
          (true, SOper.mk (some 14) none (SOp.load false 1 (Operand.tmp 13))),
          (false, SOper.mk (some 15) none (SOp.fld 1 (Operand.tmp 1))),
          (false, SOper.mk (some 16) none (SOp.load false 1 (Operand.tmp 15))),
          (false,
            SOper.mk (some 17) none
              (SOp.append 29 3 1 8 (Value.int IntKind.i64 0) (Operand.const (Value.slice none 0 0)) (Operand.tmp 16))),
          (false,
            SOper.mk (some 18) none
              (SOp.build 67 [Value.int IntKind.i64 0, Value.slice none 0 0, Value.slice none 0 0]
                [(0, 1, Operand.tmp 14), (1, 1, Operand.tmp 17)])),
          (false,
            SOper.mk (some 19) none
              (SOp.build 158
                [Value.int IntKind.i64 0, Value.slice none 0 0, Value.slice none 0 0, Value.int IntKind.i64 0,
                  Value.int IntKind.i64 0]
                [(0, 3, Operand.tmp 18)])),
          (false, SOper.mk (some 20) none (SOp.box false 158 (Operand.tmp 19))),
          (false, SOper.mk (some 5) none (SOp.mv (Operand.tmp 20)))]
        [1, 5])
      (Stmt.seq
        (Stmt.seq
          (Stmt.region
            [SOper.mk (some 21) none (SOp.fld 2 (Operand.tmp 1)),
              SOper.mk (some 22) none (SOp.load false 1 (Operand.tmp 21)),
              SOper.mk (some 23) none (SOp.len false (Operand.tmp 22)),
              SOper.mk (some 24) none (SOp.mv (Operand.const (Value.int IntKind.i64 0)))]
            [5, 22, 23, 24])
          (Stmt.block 0 (Stmt.loop S44_1 [24] [5, 22, 23])))
        (Stmt.seq
          (Stmt.region
            [SOper.mk (some 42) none (SOp.mv (Operand.tmp 5)), SOper.mk (some 2) none (SOp.mv (Operand.tmp 42)),
              SOper.mk (some 3) none (SOp.mv (Operand.const (Value.int IntKind.i64 0)))]
            [2, 3])
          Stmt.ret))))
def S44 : FnS := ⟨43, [(2, none), (3, none)], S44_0⟩
theorem tr44 : trFn Try.prog 44 [1] [[1], [1, 4], [1, 4, 11], [2, 3], [1, 5], [0, 1, 2, 3, 4, 5, 6, 7, 8], [1], [], [0], [], [2], [2, 3], [0, 1, 2, 3, 4], [0, 1, 2, 3, 4, 5], [0, 1, 2, 3, 4, 5, 6], [0, 1, 2, 3, 4, 5, 6, 7], [5, 22, 23, 24], [24], [5, 22, 23], [5, 22, 23, 24, 25], [5, 7, 22, 23, 24], [5, 22, 23, 24], [], [2, 0, 2, 1, 2, 6, 2, 2, 2, 3, 2, 4, 3, 5, 3, 7, 3, 8, 3, 9, 2, 10, 2, 11, 2, 12, 3, 13, 0, 1, 1, 1, 1, 3, 7, 3, 5, 3, 8, 3, 9, 2, 10, 2, 11, 2, 12, 3, 13, 0, 1, 1, 1, 3, 8, 3, 5, 3, 9, 2, 10, 2, 11, 2, 12, 3, 13, 0, 1, 1, 1, 1, 1], [], [], [], [1], [1, 2], [1, 2, 3], [1, 2, 3, 4], [], [6], [6, 7], [1, 2, 3, 4, 5, 6, 7, 8], [0, 1, 2, 3, 4, 5, 6, 7, 8, 9], [0, 1, 2, 3, 4, 5, 6, 7, 8, 9, 10], [0, 1, 2, 3, 4, 5, 6, 7, 8, 9, 10, 11], [0, 1, 2, 3, 4, 5, 6, 7, 8, 9, 10, 11, 12], [5, 22, 23, 24], [2, 3]] = some S44 := by kernel_rfl
end Go.Proofs.Ytniobbepliknmaa.V
/- The text of (*parlance/teach.Teacher).Symbols as a statement (slots: 0 t, 1 t); no condition. -/
namespace Go.Proofs.Ytniobbepliknmaa.V
open Go
def S46_0 : Stmt :=
  Stmt.seq (Stmt.region [SOper.mk (some 2) none (SOp.mv (Operand.const (Value.int IntKind.i64 0)))] [0])
  (Stmt.seq
    (Stmt.region
      [SOper.mk (some 3) none (SOp.mv (Operand.tmp 0)), SOper.mk (some 4) none (SOp.nilCheck (Operand.tmp 3)),
        SOper.mk (some 5) none (SOp.fld 0 (Operand.tmp 4)), SOper.mk (some 6) none (SOp.fld 2 (Operand.tmp 5)),
        SOper.mk (some 7) none (SOp.load false 1 (Operand.tmp 6)),
        SOper.mk (some 8) none (SOp.idx 1 (Operand.tmp 7) (Operand.const (Value.int IntKind.i64 0))),
        SOper.mk (some 9) none (SOp.load false 1 (Operand.tmp 8)),
        SOper.mk (some 10) none (SOp.len false (Operand.tmp 9)), SOper.mk (some 2) none (SOp.mv (Operand.tmp 10))]
      [2])
    Stmt.ret)
def S46 : FnS := ⟨11, [(2, none)], S46_0⟩
theorem tr46 : trFn Try.prog 46 [] [[0], [2]] = some S46 := by kernel_rfl
end Go.Proofs.Ytniobbepliknmaa.V
/- The text of (*parlance/teach.Teacher).Member as a statement (slots: 0 t, 1 w, 2 t, 3 w, 6 k, 7 e); no condition. -/
namespace Go.Proofs.Ytniobbepliknmaa.V
open Go
def S48_0 : Stmt :=
  Stmt.seq
  (Stmt.region
    [SOper.mk (some 4) none (SOp.mv (Operand.const (Value.bool false))),
      SOper.mk (some 5) none (SOp.mv (Operand.const (Value.int IntKind.i64 0)))]
    [0, 1])
  (Stmt.seq
    (Stmt.seq
      (Stmt.region
        [SOper.mk (some 8) none (SOp.mv (Operand.tmp 1)), SOper.mk (some 9) none (SOp.len false (Operand.tmp 8)),
          SOper.mk (some 10) none (SOp.ibin BinOp.gtr (Operand.tmp 9) (Operand.const (Value.int IntKind.i64 2000)))]
        [0, 1, 10])
      (Stmt.cond (Operand.tmp 10)
        (Stmt.seq
          (Stmt.region
            [SOper.mk (some 4) none (SOp.mv (Operand.const (Value.bool false))),
              SOper.mk (some 5) none (SOp.mv (Operand.const (Value.int IntKind.i64 2)))]
            [4, 5])
          Stmt.ret)
        Stmt.skip))
    (Stmt.seq
      (Stmt.region
        [SOper.mk (some 12) none (SOp.mv (Operand.tmp 0)), SOper.mk (some 13) none (SOp.nilCheck (Operand.tmp 12)),
          SOper.mk (some 14) none (SOp.fld 0 (Operand.tmp 13)),
          SOper.mk (some 15) none (SOp.load true 3 (Operand.tmp 14)), SOper.mk (some 16) none (SOp.mv (Operand.tmp 1)),
          SOper.mk (some 17) none (SOp.call (Operand.func 116) [Operand.tmp 15, Operand.tmp 16]),
          SOper.mk (some 11) none (SOp.mv (Operand.tmp 17)), SOper.mk (some 18) none (SOp.extract 0 (Operand.tmp 11)),
          SOper.mk (some 19) none (SOp.extract 1 (Operand.tmp 11)), SOper.mk (some 6) none (SOp.mv (Operand.tmp 18)),
          SOper.mk (some 7) none (SOp.mv (Operand.tmp 19))]
        [0, 6, 7])
      (Stmt.seq
        (Stmt.seq
          (Stmt.region
            [SOper.mk (some 20) none (SOp.mv (Operand.tmp 7)),
              SOper.mk (some 21) none (SOp.ibin BinOp.neq (Operand.tmp 20) (Operand.const (Value.int IntKind.i64 0)))]
            [0, 6, 7, 21])
          (Stmt.cond (Operand.tmp 21)
            (Stmt.seq
              (Stmt.region
                [SOper.mk (some 22) none (SOp.mv (Operand.tmp 7)),
                  SOper.mk (some 4) none (SOp.mv (Operand.const (Value.bool false))),
                  SOper.mk (some 5) none (SOp.mv (Operand.tmp 22))]
                [4, 5])
              Stmt.ret)
            Stmt.skip))
        (Stmt.seq
          (Stmt.region
            [SOper.mk (some 23) none (SOp.mv (Operand.tmp 0)), SOper.mk (some 24) none (SOp.nilCheck (Operand.tmp 23)),
              SOper.mk (some 25) none (SOp.fld 3 (Operand.tmp 24)),
              SOper.mk (some 26) none (SOp.load false 1 (Operand.tmp 25)),
              SOper.mk (some 27) none (SOp.ibin BinOp.add (Operand.tmp 26) (Operand.const (Value.int IntKind.i64 1))),
              SOper.mk (some 28) none (SOp.nilCheck (Operand.tmp 23)),
              SOper.mk (some 29) none (SOp.fld 3 (Operand.tmp 28)),
              SOper.mk none none (SOp.store 1 (Operand.tmp 29) (Operand.tmp 27))]
            [6])
          (Stmt.seq
            (Stmt.region
              [SOper.mk (some 30) none (SOp.mv (Operand.tmp 6)),
                SOper.mk (some 31) none (SOp.ibin BinOp.geq (Operand.tmp 30) (Operand.const (Value.int IntKind.i64 0))),
                SOper.mk (some 4) none (SOp.mv (Operand.tmp 31)),
                SOper.mk (some 5) none (SOp.mv (Operand.const (Value.int IntKind.i64 0)))]
              [4, 5])
            Stmt.ret)))))
def S48 : FnS := ⟨32, [(4, none), (5, none)], S48_0⟩
theorem tr48 : trFn Try.prog 48 [] [[0, 1], [0, 1, 10], [4, 5], [0, 6, 7], [0, 6, 7, 21], [4, 5], [6], [4, 5]] = some S48 := by kernel_rfl
end Go.Proofs.Ytniobbepliknmaa.V
/- The text of (*parlance/teach.Teacher).Equal as a statement (slots: 0 t, 1 d, 2 t, 3 d, 7 e, 8 w, 9 differ); no condition. -/
namespace Go.Proofs.Ytniobbepliknmaa.V
open Go
def S51_0 : Stmt :=
  Stmt.seq
  (Stmt.region
    [SOper.mk (some 3) none (SOp.box true 67 (Operand.tmp 1)),
      SOper.mk (some 4) none (SOp.mv (Operand.const (Value.bool false))),
      SOper.mk (some 5) none (SOp.mv (Operand.const (Value.slice none 0 0))),
      SOper.mk (some 6) none (SOp.mv (Operand.const (Value.int IntKind.i64 0)))]
    [0, 3])
  (Stmt.seq
    (Stmt.seq
      (Stmt.region
        [SOper.mk (some 10) none (SOp.load true 3 (Operand.tmp 3)),
          SOper.mk (some 11) none (SOp.call (Operand.func 115) [Operand.tmp 10]),
          SOper.mk (some 7) none (SOp.mv (Operand.tmp 11))]
        [0, 3, 7])
      (Stmt.seq
        (Stmt.region
          [SOper.mk (some 12) none (SOp.mv (Operand.tmp 7)),
            SOper.mk (some 13) none (SOp.ibin BinOp.neq (Operand.tmp 12) (Operand.const (Value.int IntKind.i64 0)))]
          [0, 3, 7, 13])
        (Stmt.cond (Operand.tmp 13)
          (Stmt.seq
            (Stmt.region
              [SOper.mk (some 14) none (SOp.mv (Operand.tmp 7)),
                SOper.mk (some 4) none (SOp.mv (Operand.const (Value.bool false))),
                SOper.mk (some 5) none (SOp.mv (Operand.const (Value.slice none 0 0))),
                SOper.mk (some 6) none (SOp.mv (Operand.tmp 14))]
              [4, 5, 6])
            Stmt.ret)
          Stmt.skip)))
    (Stmt.seq
      (Stmt.seq
        (Stmt.drawn
          [(false, SOper.mk (some 15) none (SOp.fld 2 (Operand.tmp 3))),
            (true, SOper.mk (some 16) none (SOp.load false 1 (Operand.tmp 15))),
            (false, SOper.mk (some 17) none (SOp.idx 1 (Operand.tmp 16) (Operand.const (Value.int IntKind.i64 0)))),
            (true, SOper.mk (some 18) none (SOp.load false 1 (Operand.tmp 17))),
            (false, SOper.mk (some 19) none (SOp.len false (Operand.tmp 18))),
            (false, SOper.mk (some 20) none (SOp.mv (Operand.tmp 0))),
            (false, SOper.mk (some 21) none (SOp.call (Operand.func 46) [Operand.tmp 20])),
            (false, SOper.mk (some 22) none (SOp.ibin BinOp.neq (Operand.tmp 19) (Operand.tmp 21)))]
          [0, 3, 22])
        (Stmt.cond (Operand.tmp 22)
          (Stmt.seq
            (Stmt.region
              [SOper.mk (some 4) none (SOp.mv (Operand.const (Value.bool false))),
                SOper.mk (some 5) none (SOp.mv (Operand.const (Value.slice none 0 0))),
                SOper.mk (some 6) none (SOp.mv (Operand.const (Value.int IntKind.i64 1)))]
              [4, 5, 6])
            Stmt.ret)
          Stmt.skip))
      (Stmt.seq
        (Stmt.region
          [SOper.mk (some 23) none (SOp.mv (Operand.tmp 0)), SOper.mk (some 24) none (SOp.nilCheck (Operand.tmp 23)),
            SOper.mk (some 25) none (SOp.fld 4 (Operand.tmp 24)),
            SOper.mk (some 26) none (SOp.load false 1 (Operand.tmp 25)),
            SOper.mk (some 27) none (SOp.ibin BinOp.add (Operand.tmp 26) (Operand.const (Value.int IntKind.i64 1))),
            SOper.mk (some 28) none (SOp.nilCheck (Operand.tmp 23)),
            SOper.mk (some 29) none (SOp.fld 4 (Operand.tmp 28)),
            SOper.mk none none (SOp.store 1 (Operand.tmp 29) (Operand.tmp 27))]
          [0, 3])
        (Stmt.seq
          (Stmt.drawn
            [(false, SOper.mk (some 31) none (SOp.mv (Operand.tmp 0))),
              (false, SOper.mk (some 32) none (SOp.nilCheck (Operand.tmp 31))),
              (false, SOper.mk (some 33) none (SOp.fld 0 (Operand.tmp 32))),
              (false, SOper.mk (some 34) none (SOp.load true 3 (Operand.tmp 33))),
              (false, SOper.mk (some 35) none (SOp.load true 3 (Operand.tmp 3))),
              (false, SOper.mk (some 36) none (SOp.call (Operand.func 117) [Operand.tmp 34, Operand.tmp 35])),
              (false, SOper.mk (some 30) none (SOp.mv (Operand.tmp 36))),
              (false, SOper.mk (some 37) none (SOp.extract 0 (Operand.tmp 30))),
              (false, SOper.mk (some 38) none (SOp.extract 1 (Operand.tmp 30))),
              (false, SOper.mk (some 8) none (SOp.mv (Operand.tmp 37))),
              (false, SOper.mk (some 9) none (SOp.mv (Operand.tmp 38)))]
            [8, 9])
          (Stmt.seq
            (Stmt.region
              [SOper.mk (some 39) none (SOp.mv (Operand.tmp 9)),
                SOper.mk (some 40) none (SOp.un UnOp.not (Operand.tmp 39)),
                SOper.mk (some 41) none (SOp.mv (Operand.tmp 8)), SOper.mk (some 4) none (SOp.mv (Operand.tmp 40)),
                SOper.mk (some 5) none (SOp.mv (Operand.tmp 41)),
                SOper.mk (some 6) none (SOp.mv (Operand.const (Value.int IntKind.i64 0)))]
              [4, 5, 6])
            Stmt.ret)))))
def S51 : FnS := ⟨42, [(4, none), (5, none), (6, none)], S51_0⟩
theorem tr51 : trFn Try.prog 51 [3] [[0, 3], [0, 3, 7], [0, 3, 7, 13], [4, 5, 6], [0, 3, 22], [0, 1, 2, 3, 4, 5, 6, 7], [1, 3], [], [0], [0, 1], [0, 1, 2], [0, 1, 2, 3], [], [5], [0, 1, 2, 3, 4, 5, 6], [4, 5, 6], [0, 3], [8, 9], [0, 1, 2, 3, 4, 5, 6, 7, 8, 9, 10], [], [], [0], [0, 1], [0, 1, 2], [], [0, 1, 2, 3, 4], [0, 1, 2, 3, 4, 5], [0, 1, 2, 3, 4, 5, 6], [0, 1, 2, 3, 4, 5, 6], [0, 1, 2, 3, 4, 5, 6, 7], [0, 1, 2, 3, 4, 5, 6, 7, 8, 9], [4, 5, 6]] = some S51 := by kernel_rfl
end Go.Proofs.Ytniobbepliknmaa.V
/- The text of (*parlance/teach.Teacher).Asked as a statement (slots: 0 t, 1 t); no condition. -/
namespace Go.Proofs.Ytniobbepliknmaa.V
open Go
def S52_0 : Stmt :=
  Stmt.seq
  (Stmt.region
    [SOper.mk (some 2) none (SOp.mv (Operand.const (Value.int IntKind.i64 0))),
      SOper.mk (some 3) none (SOp.mv (Operand.const (Value.int IntKind.i64 0)))]
    [0])
  (Stmt.seq
    (Stmt.quiet
      [SOper.mk (some 4) none (SOp.mv (Operand.tmp 0)), SOper.mk (some 5) none (SOp.nilCheck (Operand.tmp 4)),
        SOper.mk (some 6) none (SOp.fld 3 (Operand.tmp 5)), SOper.mk (some 7) none (SOp.load false 1 (Operand.tmp 6)),
        SOper.mk (some 8) none (SOp.mv (Operand.tmp 0)), SOper.mk (some 9) none (SOp.nilCheck (Operand.tmp 8)),
        SOper.mk (some 10) none (SOp.fld 4 (Operand.tmp 9)),
        SOper.mk (some 11) none (SOp.load false 1 (Operand.tmp 10)), SOper.mk (some 2) none (SOp.mv (Operand.tmp 7)),
        SOper.mk (some 3) none (SOp.mv (Operand.tmp 11))]
      [2, 3])
    Stmt.ret)
def S52 : FnS := ⟨12, [(2, none), (3, none)], S52_0⟩
theorem tr52 : trFn Try.prog 52 [] [[0], [2, 3]] = some S52 := by kernel_rfl
end Go.Proofs.Ytniobbepliknmaa.V
/- A teacher: teach.New, Symbols, Member, Equal, Asked walked; no condition. -/
namespace Go.Proofs.Ytniobbepliknmaa.V
open Go
set_option linter.unusedVariables false
set_option linter.unusedSimpArgs false
attribute [local go_sem] e_seq e_region e_quiet e_join e_loop e_cond e_block e_exit e_ret e_skip e_fin e_kseq e_snrm e_sret e_sex e_bnrm e_bret e_bex e_rnrm e_rret e_res e_condC e_nil e_g e_mv g_mv e_pick g_pick pickC_eq e_ibin g_ibin ibinC_eq e_sbin g_sbin e_beq g_beq beqC_eq e_nilq g_nilq nilqC_sl nilqC_pt nilqC_mp e_un g_un unC_not unC_neg e_conv g_conv convC_eq e_fld g_fld fldC_ref fldC_ptr e_nilCheck g_nilCheck nilCheckC_ref nilCheckC_ptr nilCheckC_fun e_field g_field fieldC_eq e_len g_len lenC_sl lenC_str e_extract g_extract extractC_eq e_mkFunc e_build g_build e_idiv g_idiv idivC_eq e_ishift g_ishift ishiftC_eq e_idx g_idx e_idxA g_idxA e_load g_load loadC_ref loadC_ptr loadB_eq e_slc g_slc e_box boxC_loc boxC_esc e_alloc allocC_loc allocC_esc e_buildS e_store storeC_ref storeC_ptr storeB_eq e_append e_appz e_mk mkC_eq e_call callC_eq e_fn g_fn fnC_eq fnV_min' fnV_max' fnV_rune' e_q g_q e_a e_n g_call g_box g_alloc g_buildS g_store g_append g_mk g_a g_n g_dead e_dead e_callK e_drawn e_tree e_finJ e_tk e_tfin e_tno e_nbt_q e_nbt_qn e_nbt_a e_nbt_an e_nbt_fin e_early_nil e_early_t e_early_f e_nob_nil e_nob_none e_nob_some isBox_dead isBox_v isBox_ref e_dnil e_dk e_ek e_finB vcOps_vc1 e_dcons e_tq e_ekt e_tearly e_talt e_dearly look_nil look_c proj_nil proj_c looks_nil looks_c zip_nil zip_c val_tmp val_const val_func slv_v slv_box slv_ref slot_tmp slot_const slot_func slotL_v slotL_box slotL_ref put_some put_none updBox_c boxSet_box gd_eq slotVals_nil slotVals_c slotVals_b boxV_box boxOn_box slotsOn_nil slotsOn_c slotsOn_b resV_one resV_two vals_nil vals_c allOn_nil allOn_c partOn_nil partOn_c partVals_nil partVals_c fits_nil fits_c fillL_nil fillL_c mkv_one mkv_agg cellsV_agg cellsV_int cellsV_bool cellsV_slice cellsV_string cellsV_pointer cellsV_func cellsV_nilf cellsV_map one'_nil one'_c oc_int oc_bool oc_slice oc_string oc_pointer oc_func oc_nilf oc_map setC_eq iv_add iv_sub iv_mul iv_eql iv_neq iv_lss iv_leq iv_gtr iv_geq iok_add iok_sub iok_mul iok_eql iok_neq iok_lss iok_leq iok_gtr iok_geq pickV_bool args0_nil args0_c bnd_none bnd_some imp_bt imp_bf imp_ebt imp_ebf imp_eb1 imp_np imp_pp beq_tt beq_tf beq_ft beq_ff cond_or cond_and e_round e_meet Int.le_refl Int.toNat_zero decide_true decide_false Bool.or_false Bool.false_or Bool.true_or Bool.or_true Bool.and_false Bool.false_and Bool.bne_false Bool.bne_true beq_iff_eq Int.cast_ofNat_Int not_false_eq_true not_true_eq_false false_and and_false false_implies true_implies true_and and_true Bool.true_and Bool.and_true Bool.not_true Bool.not_false forall_const implies_true List.take_zero List.drop_zero List.take_succ_cons List.drop_succ_cons List.take_nil List.drop_nil List.length_cons List.length_nil List.nil_append List.append_nil List.cons_append Int.toNat_natCast decide_eq_true_eq decide_eq_false_iff_not cond_true cond_false and_self List.getElem?_cons_zero List.getElem?_cons_succ List.set_cons_zero List.set_cons_succ Option.some.injEq exists_eq_left' Nat.zero_add Nat.add_zero Nat.mul_one imp_self true_or or_true or_false false_or Bool.or_eq_true Bool.or_eq_false_iff Bool.and_eq_true Bool.and_eq_false_iff Bool.not_eq_true' Bool.not_eq_false'

/-- one part of a struct is stored -/
theorem s_storeF {P : Program} {Γr : Ctx} {r : List SOper} {φ : Fr} {Γ : Ctx} {K : Fr → Ctx → Prop} {g : PH} {b ix n o : Nat} {T : TypeId} {cs : List Value} {x : Value} (hg : Γ[ix]? = some g) (h : g b = some (.cells cs.toArray T (0, 0))) (ho : o + n ≤ cs.length)
    (hk : vcOps P Γr r φ (Γ.set ix (upd g b (.cells (setC cs o n x).toArray T))) K) : storeP P Γr r φ Γ K n b o x :=
  ⟨ix, g, _, T, hg, h, by simpa using ho, by simpa using hk⟩
theorem Ent.emp (Γ : Ctx) : Ent Γ (V.emp :: Γ) := by
  refine ⟨fun h hh k o hk => ?_, fun ha => List.pairwise_cons.2 ⟨fun x _ k => .inl rfl, ha⟩⟩
  rcases List.mem_cons.1 hh with rfl | hh
  · cases hk
  · exact ⟨h, hh, hk⟩
theorem Up.emp {Γ : Ctx} {Φ : Ctx → Prop} (h : Up (V.emp :: Γ) Φ) : Up Γ Φ := fun ha => by
  obtain ⟨Γ', h1, h2⟩ := h ((Ent.emp Γ).apart ha)
  exact ⟨Γ', (Ent.emp Γ).trans h1, h2⟩
theorem kept_nil {v' : Value} {g g' : PH} (h : KeptBut (.slice none 0 0) v' g g') : Mem.le (lk [g]) (lk [g']) := fun b o q => by
  have q := lk_one.1 q
  exact lk_one.2 (by rw [h.1 b (by simp [rowBlk]) (by rw [q]; simp)]; exact q)
theorem mk_list {α : Type} [Rep α] {L : Mem} {A : Option Addr} {c : Nat} {xs : List α} (h : SlOk L A c xs) : Rep.ok L xs [.slice A xs.length c] := ⟨A, c, rfl, h⟩
/-- a teacher in memory -/
def Tea (gp : PH) (p : Nat) (d : Da) (A B : Option Addr) (c e : Nat) (m q : Int) : Prop := gp p = some (.cells [.int .i64 d.st, .slice A d.ac.length c, .slice B d.nx.length e, .int .i64 m, .int .i64 q].toArray 158 (0, 0))
theorem teach_new {Γr : Ctx} {d : Da} {A B : Option Addr} {c e : Nat} (hA : SlOk (lk Γr) A c d.ac) (hB : SlOk (lk Γr) B e d.nx) :
    Ret Try.prog 44 [.agg #[.int .i64 d.st, .slice A d.ac.length c, .slice B d.nx.length e]] Γr [] (fun v Γ => (dfF d ≠ 0 ∧ Γ = [] ∧ v = .tuple #[.pointer none, .int .i64 (dfF d)]) ∨
      (dfF d = 0 ∧ ∃ gp gd p A c B e, Γ = [gp, gd] ∧ v = .tuple #[.pointer (some ⟨p, 0, none⟩), .int .i64 0] ∧ Tea gp p d A B c e 0 0 ∧ SlOk (lk [gd]) A c d.ac ∧ SlOk (lk [gd]) B e d.nx)) := by
  generalize hR : (fun (v : Value) (Γ : Ctx) => _ ∨ _) = R
  refine ret_of_vc tr44 (Nat.le_of_ble_eq_true rfl) ?_
  simp -implicitDefEqProofs only [S44, S44_0, go_sem, Nat.reduceBEq, Nat.reduceAdd, Nat.reduceSub, Nat.reduceMul, Nat.reduceLeDiff, reduceCtorEq, ↓reduceIte, Int.reduceLT, Int.reduceLE, Int.reduceEq, Int.reduceNe]
  intro b
  refine CallVC.read (dfa_check (hA.mono (lk_r _ _)) (hB.mono (lk_r _ _))) ?_
  rintro v Γ' ⟨rfl, rfl⟩
  simp -implicitDefEqProofs only [go_sem, Nat.reduceBEq, Nat.reduceAdd, Nat.reduceSub, Nat.reduceMul, Nat.reduceLeDiff, reduceCtorEq, ↓reduceIte, Int.reduceLT, Int.reduceLE, Int.reduceEq, Int.reduceNe]
  refine ⟨fun h => Up.here ?_, fun h0 => ?_⟩
  · subst hR
    exact .inl ⟨h, rfl, rfl⟩
  have V := dfF_ok h0
  have hl := V.len
  have hac := V.acc
  have hcol := V.cols
  refine s_drawn [emp] [] (Ent.emp []) ?_
  simp -implicitDefEqProofs only [go_sem, Nat.reduceBEq, Nat.reduceAdd, Nat.reduceSub, Nat.reduceMul, Nat.reduceLeDiff, reduceCtorEq, ↓reduceIte, Int.reduceLT, Int.reduceLE, Int.reduceEq, Int.reduceNe]
  refine s_appS (ix := 0) rfl (Bld.nil (α := Int) emp (lk []) 3) (hA.mono (lk_r [emp] Γr)) rfl (lk_sub (by simp)) rfl (by simp; omega) (by simp; unfold maxLen; omega) ?_
  intro va ga hBa _
  rw [List.nil_append] at hBa
  obtain ⟨Aa, ca, rfl, hSa⟩ := hBa.slok (L' := lk [ga]) (Mem.le.refl _) (lk_sub (by simp)) (by omega)
  simp -implicitDefEqProofs only [go_sem, Nat.reduceBEq, Nat.reduceAdd, Nat.reduceSub, Nat.reduceMul, Nat.reduceLeDiff, reduceCtorEq, ↓reduceIte, Int.reduceLT, Int.reduceLE, Int.reduceEq, Int.reduceNe]
  intro p
  refine s_loop (fun f vs Γ => ∃ (k : Nat) (gp gn gd : PH) (vn : Value) (A : Option Addr) (c : Nat), vs = [.v true (.int .i64 k)] ∧ k + f = d.nx.length ∧ Γ = [gp, gn, gd] ∧ gp p = some (.cells [.int .i64 d.st, .slice A d.ac.length c, vn, .int .i64 0, .int .i64 0].toArray 158 (0, 0)) ∧ Bld gn (lk [gd]) 29 vn (d.nx.take k) ∧ SlOk (lk [gd]) A c d.ac) d.nx.length
    (Up.sel [[0], [], [1]] (by decide) fun _ _ => ⟨0, _, _, _, _, Aa, ca, rfl, by omega, rfl, one_self _ _, Bld.nil _ _ _, hSa⟩) ?_
  rintro f vs Γ ⟨k, gp, gn, gd, vn, A9, c9, rfl, hkf, rfl, hgp, hBn, hS9⟩
  obtain ⟨An, cn, rfl⟩ := hBn.val
  simp -implicitDefEqProofs only [S44_1, go_sem, Nat.reduceBEq, Nat.reduceAdd, Nat.reduceSub, Nat.reduceMul, Nat.reduceLeDiff, reduceCtorEq, ↓reduceIte, Int.reduceLT, Int.reduceLE, Int.reduceEq, Int.reduceNe]
  refine ⟨fun hlt => ?_, fun hge => ?_⟩
  · have hk : k < d.nx.length := by omega
    have hrl := V.row _ (List.getElem_mem hk)
    obtain ⟨b2, o2, hB2, A2, c2, hr2, hc2⟩ := hB.list hk
    have htl : (d.nx.take k).length = k := by simp; omega
    have htk : d.nx.take (k + 1) = d.nx.take k ++ [d.nx[k]] := List.take_succ_eq_append_getElem hk
    refine s_idx hB2 (by omega) (by omega) ?_
    simp -implicitDefEqProofs only [go_sem, Nat.reduceBEq, Nat.reduceAdd, Nat.reduceSub, Nat.reduceMul, Nat.reduceLeDiff, reduceCtorEq, ↓reduceIte, Int.reduceLT, Int.reduceLE, Int.reduceEq, Int.reduceNe]
    refine s_ld0 (hc2 _ (lk_r _ _)) (by simp) (by simp) ?_
    simp -implicitDefEqProofs only [go_sem, Nat.reduceBEq, Nat.reduceAdd, Nat.reduceSub, Nat.reduceMul, Nat.reduceLeDiff, reduceCtorEq, ↓reduceIte, Int.reduceLT, Int.reduceLE, Int.reduceEq, Int.reduceNe]
    generalize d.nx[k] = r at *
    refine ⟨[gp, gn, gd], [], fun ψ Γ' => ψ = [(5, .v true (.pointer (some ⟨p, 0, none⟩))), (22, .v true (.slice B d.nx.length e)), (23, .v true (.int .i64 d.nx.length)), (24, .v true (.int .i64 k))] ∧
      ∃ (gp gn gd : PH) (vn : Value), Γ' = [gp, gn, gd] ∧ gp p = some (.cells [.int .i64 d.st, .slice A9 d.ac.length c9, vn, .int .i64 0, .int .i64 0].toArray 158 (0, 0)) ∧ Bld gn (lk [gd]) 29 vn (d.nx.take k ++ [r]) ∧ SlOk (lk [gd]) A9 c9 d.ac, Ent.refl _, ?_, ?_⟩
    · simp -implicitDefEqProofs only [go_sem, Nat.reduceBEq, Nat.reduceAdd, Nat.reduceSub, Nat.reduceMul, Nat.reduceLeDiff, reduceCtorEq, ↓reduceIte, Int.reduceLT, Int.reduceLE, Int.reduceEq, Int.reduceNe]
      repeat' first
        | with_reducible exact True.intro
        | with_reducible refine And.intro ?_ ?_
        | with_reducible intro bk
        | (refine s_ld (j := 2) (cells_lk ⟨gp, by simp, hgp⟩) (by simp) (by simp) ?_)
        | (refine s_appS (ix := 2) rfl (Bld.nil (α := Int) gd (lk []) 3) (hr2.mono (lk_sub fun g hg => by simp [hg])) rfl (Mem.le.refl _) rfl (by simp; omega) (by simp; unfold maxLen; omega) ?_; intro vi gi hBi hKi; rw [List.nil_append] at hBi; obtain ⟨Ai, ci, rfl, hSi⟩ := hBi.slok (L' := lk [gi]) (Mem.le.refl _) (lk_sub (by simp)) (by omega))
        | (refine s_app1 (ix := 2) (x := r) (L' := lk [gi]) rfl hBn (kept_nil hKi) (mk_list hSi) cells_one rfl (by omega) (by unfold maxLen; omega) ?_; intro vo gn' hBo _; obtain ⟨Ao, co, rfl⟩ := hBo.val)
        | (refine s_storeF (ix := 1) (o := 2) (n := 1) rfl hgp (by simp) ?_)
        | simp -implicitDefEqProofs only [go_sem, Nat.reduceBEq, Nat.reduceAdd, Nat.reduceSub, Nat.reduceMul, Nat.reduceLeDiff, reduceCtorEq, ↓reduceIte, Int.reduceLT, Int.reduceLE, Int.reduceEq, Int.reduceNe]
      all_goals exact Up.sel [[1], [2], [3]] (by decide) fun _ _ => ⟨_, _, _, _, rfl, upd_self _ _ _, hBo, hS9.mono (kept_nil hKi)⟩
    · rintro ψ Γ' ⟨rfl, gp, gn, gd, vn, rfl, h1, h2, h3⟩
      simp -implicitDefEqProofs only [go_sem, Nat.reduceBEq, Nat.reduceAdd, Nat.reduceSub, Nat.reduceMul, Nat.reduceLeDiff, reduceCtorEq, ↓reduceIte, Int.reduceLT, Int.reduceLE, Int.reduceEq, Int.reduceNe]
      simp (disch := omega) only [wrap_id]
      exact ⟨f - 1, by omega, Up.here ⟨k + 1, gp, gn, gd, vn, A9, c9, rfl, by omega, rfl, h1, by rw [htk]; exact h2, h3⟩⟩
  · have hk : k = d.nx.length := by omega
    rw [hk, List.take_length] at hBn hgp
    refine Up.apart fun ha => Up.sel [[0], [1, 2]] (by decide) fun _ hm => ?_
    subst hR
    have hle := hm [1, 2] (by simp)
    obtain ⟨A', c', e1, hS'⟩ := hBn.slok (L' := lk [gn, gd]) (lk_sub (by simp)) (lk_sub (by simp)) (by omega)
    rw [e1] at hgp
    exact .inr ⟨h0, gp, _, p, A9, c9, A', c', rfl, rfl, hgp, (hS9.mono (lk_sub (by simp [sel]))).mono hle, hS'.mono hle⟩
section
variable {Γr : Ctx} {gp : PH} {p : Nat} {d : Da} {A B : Option Addr} {c e : Nat} {m q : Int}
theorem teach_symbols (hT : lk Γr p (.cells [.int .i64 d.st, .slice A d.ac.length c, .slice B d.nx.length e, .int .i64 m, .int .i64 q].toArray 158 (0, 0))) (hB : SlOk (lk Γr) B e d.nx) (hpos : 0 < d.nx.length) :
    Ret Try.prog 46 [.pointer (some ⟨p, 0, none⟩)] Γr [] (fun v Γ => Γ = [] ∧ v = .int .i64 (colsD d)) := by
  generalize hR : (fun (v : Value) (Γ : Ctx) => Γ = [] ∧ v = _) = R
  refine ret_of_vc tr46 (Nat.le_of_ble_eq_true rfl) ?_
  obtain ⟨b1, o1, hB1, A1, c1, hr1, hc1⟩ := hB.list hpos
  rw [cols_at hpos] at hc1
  simp -implicitDefEqProofs only [S46, S46_0, go_sem, Nat.reduceBEq, Nat.reduceAdd, Nat.reduceSub, Nat.reduceMul, Nat.reduceLeDiff, reduceCtorEq, ↓reduceIte, Int.reduceLT, Int.reduceLE, Int.reduceEq, Int.reduceNe]
  refine s_ld (j := 2) (cells_lk (lk_r _ _ _ _ hT)) (by simp) (by simp) ?_
  simp -implicitDefEqProofs only [go_sem, Nat.reduceBEq, Nat.reduceAdd, Nat.reduceSub, Nat.reduceMul, Nat.reduceLeDiff, reduceCtorEq, ↓reduceIte, Int.reduceLT, Int.reduceLE, Int.reduceEq, Int.reduceNe]
  refine s_idx hB1 (by omega) (by omega) ?_
  simp -implicitDefEqProofs only [go_sem, Nat.reduceBEq, Nat.reduceAdd, Nat.reduceSub, Nat.reduceMul, Nat.reduceLeDiff, reduceCtorEq, ↓reduceIte, Int.reduceLT, Int.reduceLE, Int.reduceEq, Int.reduceNe]
  refine s_ld0 (by simpa using hc1 Γr (Mem.le.refl _)) (by simp) (by simp) ?_
  simp -implicitDefEqProofs only [go_sem, Nat.reduceBEq, Nat.reduceAdd, Nat.reduceSub, Nat.reduceMul, Nat.reduceLeDiff, reduceCtorEq, ↓reduceIte, Int.reduceLT, Int.reduceLE, Int.reduceEq, Int.reduceNe]
  refine Up.here ?_
  subst hR
  exact ⟨rfl, rfl⟩
theorem teach_asked (hT : lk Γr p (.cells [.int .i64 d.st, .slice A d.ac.length c, .slice B d.nx.length e, .int .i64 m, .int .i64 q].toArray 158 (0, 0))) :
    Ret Try.prog 52 [.pointer (some ⟨p, 0, none⟩)] Γr [] (fun v Γ => Γ = [] ∧ v = .tuple #[.int .i64 m, .int .i64 q]) := by
  generalize hR : (fun (v : Value) (Γ : Ctx) => Γ = [] ∧ v = _) = R
  refine ret_of_vc tr52 (Nat.le_of_ble_eq_true rfl) ?_
  simp -implicitDefEqProofs only [S52, S52_0, go_sem, Nat.reduceBEq, Nat.reduceAdd, Nat.reduceSub, Nat.reduceMul, Nat.reduceLeDiff, reduceCtorEq, ↓reduceIte, Int.reduceLT, Int.reduceLE, Int.reduceEq, Int.reduceNe]
  refine s_ld (j := 3) (cells_lk (lk_r _ _ _ _ hT)) (by simp) (by simp) ?_
  simp -implicitDefEqProofs only [go_sem, Nat.reduceBEq, Nat.reduceAdd, Nat.reduceSub, Nat.reduceMul, Nat.reduceLeDiff, reduceCtorEq, ↓reduceIte, Int.reduceLT, Int.reduceLE, Int.reduceEq, Int.reduceNe]
  refine s_ld (j := 4) (cells_lk (lk_r _ _ _ _ hT)) (by simp) (by simp) ?_
  simp -implicitDefEqProofs only [go_sem, Nat.reduceBEq, Nat.reduceAdd, Nat.reduceSub, Nat.reduceMul, Nat.reduceLeDiff, reduceCtorEq, ↓reduceIte, Int.reduceLT, Int.reduceLE, Int.reduceEq, Int.reduceNe]
  refine Up.here ?_
  subst hR
  exact ⟨rfl, rfl⟩
/-- what Member answers, and how many questions are counted -/
def MemR (d : Da) (w : List Int) (m : Int) (ok : Bool) (er m' : Int) : Prop := (2000 < w.length ∧ ok = false ∧ er = 2 ∧ m' = m) ∨ (w.length ≤ 2000 ∧ ¬ okW d w ∧ ok = false ∧ er = 1 ∧ m' = m) ∨ (w.length ≤ 2000 ∧ okW d w ∧ ok = endsD d d.st w ∧ er = 0 ∧ m' = m + 1)
theorem teach_member (hT : Tea gp p d A B c e m q) (h0 : dfF d = 0) (hA : SlOk (lk Γr) A c d.ac) (hB : SlOk (lk Γr) B e d.nx) {w : List Int} {W : Option Addr} {cw : Nat} (hW : SlOk (lk Γr) W cw w) (hm : 0 ≤ m ∧ m ≤ 140737488355328) :
    Ret Try.prog 48 [.pointer (some ⟨p, 0, none⟩), .slice W w.length cw] Γr [gp] (fun v Γ => ∃ gp' ok er m', Γ = [gp'] ∧ v = .tuple #[.bool ok, .int .i64 er] ∧ Tea gp' p d A B c e m' q ∧ MemR d w m ok er m') := by
  generalize hR : (fun (v : Value) (Γ : Ctx) => ∃ gp' ok er m', _) = R
  refine ret_of_vc tr48 (Nat.le_of_ble_eq_true rfl) ?_
  have V := dfF_ok h0
  have hst := V.st
  simp -implicitDefEqProofs only [S48, S48_0, go_sem, Nat.reduceBEq, Nat.reduceAdd, Nat.reduceSub, Nat.reduceMul, Nat.reduceLeDiff, reduceCtorEq, ↓reduceIte, Int.reduceLT, Int.reduceLE, Int.reduceEq, Int.reduceNe]
  refine ⟨fun h => Up.here ?_, fun h1 => ?_⟩
  · subst hR
    exact ⟨gp, _, _, m, rfl, rfl, hT, .inl ⟨by omega, rfl, rfl, rfl⟩⟩
  refine s_ld0 (cells_lk ⟨gp, by simp, hT⟩) (by simp) (by simp) ?_
  simp -implicitDefEqProofs only [go_sem, Nat.reduceBEq, Nat.reduceAdd, Nat.reduceSub, Nat.reduceMul, Nat.reduceLeDiff, reduceCtorEq, ↓reduceIte, Int.reduceLT, Int.reduceLE, Int.reduceEq, Int.reduceNe]
  refine CallVC.read (dfa_run (d := d) (hA.mono (lk_r _ _)) (hB.mono (lk_r _ _)) (hW.mono (lk_r _ _))) ?_
  rintro v Γ' ⟨rfl, k, er, rfl, hr⟩
  simp -implicitDefEqProofs only [go_sem, Nat.reduceBEq, Nat.reduceAdd, Nat.reduceSub, Nat.reduceMul, Nat.reduceLeDiff, reduceCtorEq, ↓reduceIte, Int.reduceLT, Int.reduceLE, Int.reduceEq, Int.reduceNe]
  rcases hr with ⟨h, _⟩ | ⟨_, h, _⟩ | ⟨_, _, hw, rfl, rfl⟩ | ⟨_, _, hw, rfl, rfl⟩
  · exact absurd h0 h
  · omega
  · refine ⟨fun _ => Up.here ?_, fun h => by omega⟩
    subst hR
    exact ⟨gp, _, _, m, rfl, rfl, hT, .inr (.inl ⟨by omega, hw, rfl, rfl, rfl⟩)⟩
  · refine ⟨fun h => absurd rfl h, fun _ => ?_⟩
    refine s_ld (j := 3) (cells_lk ⟨gp, by simp, hT⟩) (by simp) (by simp) ?_
    simp -implicitDefEqProofs only [go_sem, Nat.reduceBEq, Nat.reduceAdd, Nat.reduceSub, Nat.reduceMul, Nat.reduceLeDiff, reduceCtorEq, ↓reduceIte, Int.reduceLT, Int.reduceLE, Int.reduceEq, Int.reduceNe]
    rw [wrap_id (x := m + 1) (by omega) (by omega)]
    refine s_storeF (ix := 0) (o := 3) (n := 1) rfl hT (by simp) ?_
    simp -implicitDefEqProofs only [go_sem, Nat.reduceBEq, Nat.reduceAdd, Nat.reduceSub, Nat.reduceMul, Nat.reduceLeDiff, reduceCtorEq, ↓reduceIte, Int.reduceLT, Int.reduceLE, Int.reduceEq, Int.reduceNe]
    refine Up.here ?_
    subst hR
    refine ⟨_, _, _, m + 1, rfl, rfl, upd_self _ _ _, .inr (.inr ⟨by omega, hw, ?_, rfl, rfl⟩)⟩
    have := run_ends (d := d) (w := w) (s := d.st) hst.1
    cases he : endsD d d.st w
    · rw [he] at this
      simp at this
      simpa using this
    · rw [he] at this
      simpa using this
/-- what Equal answers -/
def EqR (d h : Da) (q : Int) (yes : Bool) (w : List Int) (er q' : Int) : Prop := (dfF h ≠ 0 ∧ yes = false ∧ w = [] ∧ er = dfF h ∧ q' = q) ∨ (dfF h = 0 ∧ colsD h ≠ colsD d ∧ yes = false ∧ w = [] ∧ er = 1 ∧ q' = q) ∨ (dfF h = 0 ∧ colsD h = colsD d ∧ Told d h w (!yes) ∧ er = 0 ∧ q' = q + 1)
theorem teach_equal (hT : Tea gp p d A B c e m q) (h0 : dfF d = 0) (hA : SlOk (lk Γr) A c d.ac) (hB : SlOk (lk Γr) B e d.nx) {h : Da} {C D : Option Addr} {cc cd : Nat} (hC : SlOk (lk Γr) C cc h.ac) (hD : SlOk (lk Γr) D cd h.nx) (hq : 0 ≤ q ∧ q ≤ 140737488355328) :
    Ret Try.prog 51 [.pointer (some ⟨p, 0, none⟩), .agg #[.int .i64 h.st, .slice C h.ac.length cc, .slice D h.nx.length cd]] Γr [gp] (fun v Γ => ∃ gp' gw yes w vw er q', Γ = [gp', gw] ∧ v = .tuple #[.bool yes, vw, .int .i64 er] ∧ Tea gp' p d A B c e m q' ∧ Bld gw (lk []) 3 vw w ∧ EqR d h q yes w er q') := by
  generalize hR : (fun (v : Value) (Γ : Ctx) => ∃ gp' gw yes w vw er q', _) = R
  refine ret_of_vc tr51 (Nat.le_of_ble_eq_true rfl) ?_
  have V := dfF_ok h0
  have hpos : 0 < d.nx.length := by have := V.len; omega
  simp -implicitDefEqProofs only [S51, S51_0, go_sem, Nat.reduceBEq, Nat.reduceAdd, Nat.reduceSub, Nat.reduceMul, Nat.reduceLeDiff, reduceCtorEq, ↓reduceIte, Int.reduceLT, Int.reduceLE, Int.reduceEq, Int.reduceNe]
  intro b
  refine CallVC.read (dfa_check (d := h) (hC.mono (lk_r _ _)) (hD.mono (lk_r _ _))) ?_
  rintro v Γ' ⟨rfl, rfl⟩
  simp -implicitDefEqProofs only [go_sem, Nat.reduceBEq, Nat.reduceAdd, Nat.reduceSub, Nat.reduceMul, Nat.reduceLeDiff, reduceCtorEq, ↓reduceIte, Int.reduceLT, Int.reduceLE, Int.reduceEq, Int.reduceNe]
  refine ⟨fun h1 => Up.sel [[0], []] (by decide) fun _ _ => ?_, fun h1 => ?_⟩
  · subst hR
    exact ⟨_, _, _, [], _, _, q, rfl, rfl, hT, Bld.nil _ _ _, .inl ⟨h1, rfl, rfl, rfl, rfl⟩⟩
  have Vh := dfF_ok h1
  have hposh : 0 < h.nx.length := by have := Vh.len; omega
  obtain ⟨b2, o2, hD1, A2, c2, hr2, hc2⟩ := hD.list hposh
  rw [cols_at hposh] at hc2
  refine s_drawn [] [gp] (Ent.refl _) ?_
  simp -implicitDefEqProofs only [go_sem, Nat.reduceBEq, Nat.reduceAdd, Nat.reduceSub, Nat.reduceMul, Nat.reduceLeDiff, reduceCtorEq, ↓reduceIte, Int.reduceLT, Int.reduceLE, Int.reduceEq, Int.reduceNe]
  refine s_idx hD1 (by omega) (by omega) ?_
  simp -implicitDefEqProofs only [go_sem, Nat.reduceBEq, Nat.reduceAdd, Nat.reduceSub, Nat.reduceMul, Nat.reduceLeDiff, reduceCtorEq, ↓reduceIte, Int.reduceLT, Int.reduceLE, Int.reduceEq, Int.reduceNe]
  refine s_ld0 (by simpa using hc2 _ (lk_sub (fun g hg => by simp [hg]))) (by simp) (by simp) ?_
  simp -implicitDefEqProofs only [go_sem, Nat.reduceBEq, Nat.reduceAdd, Nat.reduceSub, Nat.reduceMul, Nat.reduceLeDiff, reduceCtorEq, ↓reduceIte, Int.reduceLT, Int.reduceLE, Int.reduceEq, Int.reduceNe]
  refine CallVC.read (teach_symbols (Γr := gp :: Γr) ⟨gp, by simp, hT⟩ (hB.mono (lk_r [gp] Γr)) hpos) ?_
  rintro v Γ' ⟨rfl, rfl⟩
  simp -implicitDefEqProofs only [go_sem, Nat.reduceBEq, Nat.reduceAdd, Nat.reduceSub, Nat.reduceMul, Nat.reduceLeDiff, reduceCtorEq, ↓reduceIte, Int.reduceLT, Int.reduceLE, Int.reduceEq, Int.reduceNe]
  refine ⟨fun h2 => Up.sel [[0], []] (by decide) fun _ _ => ?_, fun h2 => ?_⟩
  · subst hR
    exact ⟨_, _, _, [], _, _, q, rfl, rfl, hT, Bld.nil _ _ _, .inr (.inl ⟨h1, fun e => h2 (by rw [e]), rfl, rfl, rfl, rfl⟩)⟩
  have h3 : colsD h = colsD d := by omega
  refine s_ld (j := 4) (cells_lk ⟨gp, by simp, hT⟩) (by simp) (by simp) ?_
  simp -implicitDefEqProofs only [go_sem, Nat.reduceBEq, Nat.reduceAdd, Nat.reduceSub, Nat.reduceMul, Nat.reduceLeDiff, reduceCtorEq, ↓reduceIte, Int.reduceLT, Int.reduceLE, Int.reduceEq, Int.reduceNe]
  rw [wrap_id (x := q + 1) (by omega) (by omega)]
  refine s_storeF (ix := 0) (o := 4) (n := 1) rfl hT (by simp) ?_
  simp -implicitDefEqProofs only [go_sem, Nat.reduceBEq, Nat.reduceAdd, Nat.reduceSub, Nat.reduceMul, Nat.reduceLeDiff, reduceCtorEq, ↓reduceIte, Int.reduceLT, Int.reduceLE, Int.reduceEq, Int.reduceNe]
  have hT' : Tea (upd gp p (.cells [.int .i64 d.st, .slice A d.ac.length c, .slice B d.nx.length e, .int .i64 m, .int .i64 (q + 1)].toArray 158 (0, 0))) p d A B c e m (q + 1) := upd_self _ _ _
  revert hT'
  simp only [Tea]
  generalize upd gp p _ = gp'
  intro hT'
  refine s_ld0 (cells_lk ⟨gp', by simp, hT'⟩) (by simp) (by simp) ?_
  simp -implicitDefEqProofs only [go_sem, Nat.reduceBEq, Nat.reduceAdd, Nat.reduceSub, Nat.reduceMul, Nat.reduceLeDiff, reduceCtorEq, ↓reduceIte, Int.reduceLT, Int.reduceLE, Int.reduceEq, Int.reduceNe]
  refine CallVC.read (teach_differ h0 h1 h3.symm (hA.mono (lk_r [gp'] Γr)) (hB.mono (lk_r [gp'] Γr)) (hC.mono (lk_r [gp'] Γr)) (hD.mono (lk_r [gp'] Γr))) ?_
  rintro v Γ' ⟨gw, w, bb, v', rfl, rfl, hBw, hTo⟩
  simp -implicitDefEqProofs only [go_sem, Nat.reduceBEq, Nat.reduceAdd, Nat.reduceSub, Nat.reduceMul, Nat.reduceLeDiff, reduceCtorEq, ↓reduceIte, Int.reduceLT, Int.reduceLE, Int.reduceEq, Int.reduceNe]
  refine Up.sel [[1], [0]] (by decide) fun _ _ => ?_
  subst hR
  exact ⟨_, _, !bb, w, _, _, q + 1, rfl, rfl, hT', hBw, .inr (.inr ⟨h1, h3, by simpa using hTo, rfl, rfl⟩)⟩
end
end Go.Proofs.Ytniobbepliknmaa.V
/- The text of parlance/parlref5.Apart$1 as a statement (slots: 0 d, 1 s, 2 d, 3 s); no condition. -/
namespace Go.Proofs.Ytniobbepliknmaa.V
open Go
def S118_0 : Stmt :=
  Stmt.seq
  (Stmt.region
    [SOper.mk (some 2) none (SOp.box true 67 (Operand.tmp 0)),
      SOper.mk (some 4) none (SOp.mv (Operand.const (Value.bool false)))]
    [1, 2])
  (Stmt.seq
    (Stmt.region
      [SOper.mk (some 5) none (SOp.mv (Operand.tmp 1)), SOper.mk (some 6) none (SOp.fld 2 (Operand.tmp 2)),
        SOper.mk (some 7) none (SOp.load false 1 (Operand.tmp 6)),
        SOper.mk (some 8) none (SOp.len false (Operand.tmp 7)),
        SOper.mk (some 9) none (SOp.ibin BinOp.lss (Operand.tmp 5) (Operand.tmp 8)),
        SOper.mk (some 10) none (SOp.mv (Operand.tmp 9)),
        SOper.mk (some 11) (some (10, true)) (SOp.fld 1 (Operand.tmp 2)),
        SOper.mk (some 12) (some (10, true)) (SOp.load false 1 (Operand.tmp 11)),
        SOper.mk (some 13) (some (10, true)) (SOp.mv (Operand.tmp 1)),
        SOper.mk (some 14) (some (10, true)) (SOp.idx 1 (Operand.tmp 12) (Operand.tmp 13)),
        SOper.mk (some 15) (some (10, true)) (SOp.load false 1 (Operand.tmp 14)),
        SOper.mk (some 16) (some (10, true))
          (SOp.ibin BinOp.geq (Operand.tmp 15) (Operand.const (Value.int IntKind.i64 0))),
        SOper.mk (some 17) none (SOp.pick (Operand.tmp 10) (Operand.tmp 16) (Operand.const (Value.bool false))),
        SOper.mk (some 4) none (SOp.mv (Operand.tmp 17))]
      [4])
    Stmt.ret)
def S118 : FnS := ⟨18, [(4, none)], S118_0⟩
theorem tr118 : trFn Try.prog 118 [2] [[1, 2], [4]] = some S118 := by kernel_rfl
end Go.Proofs.Ytniobbepliknmaa.V
/- The text of parlance/parlref5.Apart$2 as a statement (slots: 0 d, 1 s, 2 c, 3 d, 4 s, 5 c); no condition. -/
namespace Go.Proofs.Ytniobbepliknmaa.V
open Go
def S119_0 : Stmt :=
  Stmt.seq
  (Stmt.region
    [SOper.mk (some 3) none (SOp.box true 67 (Operand.tmp 0)),
      SOper.mk (some 6) none (SOp.mv (Operand.const (Value.int IntKind.i64 0)))]
    [1, 2, 3])
  (Stmt.seq
    (Stmt.seq
      (Stmt.region
        [SOper.mk (some 7) none (SOp.mv (Operand.tmp 1)), SOper.mk (some 8) none (SOp.fld 2 (Operand.tmp 3)),
          SOper.mk (some 9) none (SOp.load false 1 (Operand.tmp 8)),
          SOper.mk (some 10) none (SOp.len false (Operand.tmp 9)),
          SOper.mk (some 11) none (SOp.ibin BinOp.lss (Operand.tmp 7) (Operand.tmp 10)),
          SOper.mk (some 12) none (SOp.mv (Operand.tmp 11)),
          SOper.mk (some 13) (some (12, true)) (SOp.fld 2 (Operand.tmp 3)),
          SOper.mk (some 14) (some (12, true)) (SOp.load false 1 (Operand.tmp 13)),
          SOper.mk (some 15) (some (12, true)) (SOp.mv (Operand.tmp 1)),
          SOper.mk (some 16) (some (12, true)) (SOp.idx 1 (Operand.tmp 14) (Operand.tmp 15)),
          SOper.mk (some 17) (some (12, true)) (SOp.load false 1 (Operand.tmp 16)),
          SOper.mk (some 18) (some (12, true)) (SOp.mv (Operand.tmp 2)),
          SOper.mk (some 19) (some (12, true)) (SOp.idx 1 (Operand.tmp 17) (Operand.tmp 18)),
          SOper.mk (some 20) (some (12, true)) (SOp.load false 1 (Operand.tmp 19)),
          SOper.mk (some 21) (some (12, true))
            (SOp.ibin BinOp.geq (Operand.tmp 20) (Operand.const (Value.int IntKind.i64 0))),
          SOper.mk (some 22) none (SOp.pick (Operand.tmp 12) (Operand.tmp 21) (Operand.const (Value.bool false)))]
        [1, 2, 3, 22])
      (Stmt.cond (Operand.tmp 22)
        (Stmt.seq
          (Stmt.region
            [SOper.mk (some 23) none (SOp.fld 2 (Operand.tmp 3)),
              SOper.mk (some 24) none (SOp.load false 1 (Operand.tmp 23)),
              SOper.mk (some 25) none (SOp.mv (Operand.tmp 1)),
              SOper.mk (some 26) none (SOp.idx 1 (Operand.tmp 24) (Operand.tmp 25)),
              SOper.mk (some 27) none (SOp.load false 1 (Operand.tmp 26)),
              SOper.mk (some 28) none (SOp.mv (Operand.tmp 2)),
              SOper.mk (some 29) none (SOp.idx 1 (Operand.tmp 27) (Operand.tmp 28)),
              SOper.mk (some 30) none (SOp.load false 1 (Operand.tmp 29)),
              SOper.mk (some 6) none (SOp.mv (Operand.tmp 30))]
            [6])
          Stmt.ret)
        Stmt.skip))
    (Stmt.seq
      (Stmt.region
        [SOper.mk (some 31) none (SOp.fld 2 (Operand.tmp 3)),
          SOper.mk (some 32) none (SOp.load false 1 (Operand.tmp 31)),
          SOper.mk (some 33) none (SOp.len false (Operand.tmp 32)), SOper.mk (some 6) none (SOp.mv (Operand.tmp 33))]
        [6])
      Stmt.ret))
def S119 : FnS := ⟨34, [(6, none)], S119_0⟩
theorem tr119 : trFn Try.prog 119 [3] [[1, 2, 3], [1, 2, 3, 22], [6], [6]] = some S119 := by kernel_rfl
end Go.Proofs.Ytniobbepliknmaa.V
/- The text of parlance/parlref5.grid[int] as a statement (slots: 0 a, 1 b, 2 a, 3 b, 5 out, 6 i); no condition. -/
namespace Go.Proofs.Ytniobbepliknmaa.V
open Go
def S120_1 : Stmt :=
  Stmt.seq
  (Stmt.region [SOper.mk (some 12) none (SOp.ibin BinOp.lss (Operand.tmp 11) (Operand.tmp 10))] [1, 5, 10, 11, 12])
  (Stmt.seq (Stmt.cond (Operand.tmp 12) Stmt.skip (Stmt.exit 0))
    (Stmt.seq
      (Stmt.block 1
        (Stmt.seq
          (Stmt.region
            [SOper.mk (some 13) none (SOp.mv (Operand.tmp 11)), SOper.mk (some 6) none (SOp.mv (Operand.tmp 13))]
            [1, 5, 6, 10, 11])
          (Stmt.region
            [SOper.mk (some 14) none (SOp.mv (Operand.tmp 5)), SOper.mk (some 15) none (SOp.mv (Operand.tmp 6)),
              SOper.mk (some 16) none (SOp.mv (Operand.tmp 1)),
              SOper.mk (some 17) none (SOp.mk 3 1 8 (Value.int IntKind.i64 0) (Operand.tmp 16) (Operand.tmp 16)),
              SOper.mk (some 18) none (SOp.idx 1 (Operand.tmp 14) (Operand.tmp 15)),
              SOper.mk none none (SOp.store 1 (Operand.tmp 18) (Operand.tmp 17))]
            [1, 5, 10, 11])))
      (Stmt.region
        [SOper.mk (some 19) none (SOp.ibin BinOp.add (Operand.tmp 11) (Operand.const (Value.int IntKind.i64 1))),
          SOper.mk (some 11) none (SOp.mv (Operand.tmp 19))]
        [1, 5, 10, 11])))
def S120_0 : Stmt :=
  Stmt.seq (Stmt.region [SOper.mk (some 4) none (SOp.mv (Operand.const (Value.slice none 0 0)))] [0, 1])
  (Stmt.seq
    (Stmt.region
      [SOper.mk (some 7) none (SOp.mv (Operand.tmp 0)),
        SOper.mk (some 8) none (SOp.mk 29 1 24 (Value.slice none 0 0) (Operand.tmp 7) (Operand.tmp 7)),
        SOper.mk (some 5) none (SOp.mv (Operand.tmp 8))]
      [1, 5])
    (Stmt.seq
      (Stmt.seq
        (Stmt.region
          [SOper.mk (some 9) none (SOp.mv (Operand.tmp 5)), SOper.mk (some 10) none (SOp.len false (Operand.tmp 9)),
            SOper.mk (some 11) none (SOp.mv (Operand.const (Value.int IntKind.i64 0)))]
          [1, 5, 10, 11])
        (Stmt.block 0 (Stmt.loop S120_1 [11] [1, 5, 10])))
      (Stmt.seq
        (Stmt.region
          [SOper.mk (some 20) none (SOp.mv (Operand.tmp 5)), SOper.mk (some 4) none (SOp.mv (Operand.tmp 20))] [4])
        Stmt.ret)))
def S120 : FnS := ⟨21, [(4, none)], S120_0⟩
theorem tr120 : trFn Try.prog 120 [] [[0, 1], [1, 5], [1, 5, 10, 11], [11], [1, 5, 10], [1, 5, 10, 11, 12], [1, 5, 6, 10, 11], [1, 5, 10, 11], [1, 5, 10, 11], [4]] = some S120 := by kernel_rfl
end Go.Proofs.Ytniobbepliknmaa.V
/- Two automata side by side, by how far they are from a difference: the parts of parlref5.Apart walked; no condition. -/
namespace Go.Proofs.Ytniobbepliknmaa.V
open Go
set_option linter.unusedVariables false
set_option linter.unusedSimpArgs false
attribute [local go_sem] e_seq e_region e_quiet e_join e_loop e_cond e_block e_exit e_ret e_skip e_fin e_kseq e_snrm e_sret e_sex e_bnrm e_bret e_bex e_rnrm e_rret e_res e_condC e_nil e_g e_mv g_mv e_pick g_pick pickC_eq e_ibin g_ibin ibinC_eq e_sbin g_sbin e_beq g_beq beqC_eq e_nilq g_nilq nilqC_sl nilqC_pt nilqC_mp e_un g_un unC_not unC_neg e_conv g_conv convC_eq e_fld g_fld fldC_ref fldC_ptr e_nilCheck g_nilCheck nilCheckC_ref nilCheckC_ptr nilCheckC_fun e_field g_field fieldC_eq e_len g_len lenC_sl lenC_str e_extract g_extract extractC_eq e_mkFunc e_build g_build e_idiv g_idiv idivC_eq e_ishift g_ishift ishiftC_eq e_idx g_idx e_idxA g_idxA e_load g_load loadC_ref loadC_ptr loadB_eq e_slc g_slc e_box boxC_loc boxC_esc e_alloc allocC_loc allocC_esc e_buildS e_store storeC_ref storeC_ptr storeB_eq e_append e_appz e_mk mkC_eq e_call callC_eq e_fn g_fn fnC_eq fnV_min' fnV_max' fnV_rune' e_q g_q e_a e_n g_call g_box g_alloc g_buildS g_store g_append g_mk g_a g_n g_dead e_dead e_callK e_drawn e_tree e_finJ e_tk e_tfin e_tno e_nbt_q e_nbt_qn e_nbt_a e_nbt_an e_nbt_fin e_early_nil e_early_t e_early_f e_nob_nil e_nob_none e_nob_some isBox_dead isBox_v isBox_ref e_dnil e_dk e_ek e_finB vcOps_vc1 e_dcons e_tq e_ekt e_tearly e_talt e_dearly look_nil look_c proj_nil proj_c looks_nil looks_c zip_nil zip_c val_tmp val_const val_func slv_v slv_box slv_ref slot_tmp slot_const slot_func slotL_v slotL_box slotL_ref put_some put_none updBox_c boxSet_box gd_eq slotVals_nil slotVals_c slotVals_b boxV_box boxOn_box slotsOn_nil slotsOn_c slotsOn_b resV_one resV_two vals_nil vals_c allOn_nil allOn_c partOn_nil partOn_c partVals_nil partVals_c fits_nil fits_c fillL_nil fillL_c mkv_one mkv_agg cellsV_agg cellsV_int cellsV_bool cellsV_slice cellsV_string cellsV_pointer cellsV_func cellsV_nilf cellsV_map one'_nil one'_c oc_int oc_bool oc_slice oc_string oc_pointer oc_func oc_nilf oc_map setC_eq iv_add iv_sub iv_mul iv_eql iv_neq iv_lss iv_leq iv_gtr iv_geq iok_add iok_sub iok_mul iok_eql iok_neq iok_lss iok_leq iok_gtr iok_geq pickV_bool args0_nil args0_c bnd_none bnd_some imp_bt imp_bf imp_ebt imp_ebf imp_eb1 imp_np imp_pp beq_tt beq_tf beq_ft beq_ff cond_or cond_and e_round e_meet Int.le_refl Int.toNat_zero decide_true decide_false Bool.or_false Bool.false_or Bool.true_or Bool.or_true Bool.and_false Bool.false_and Bool.bne_false Bool.bne_true beq_iff_eq Int.cast_ofNat_Int not_false_eq_true not_true_eq_false false_and and_false false_implies true_implies true_and and_true Bool.true_and Bool.and_true Bool.not_true Bool.not_false forall_const implies_true List.take_zero List.drop_zero List.take_succ_cons List.drop_succ_cons List.take_nil List.drop_nil List.length_cons List.length_nil List.nil_append List.append_nil List.cons_append Int.toNat_natCast decide_eq_true_eq decide_eq_false_iff_not cond_true cond_false and_self List.getElem?_cons_zero List.getElem?_cons_succ List.set_cons_zero List.set_cons_succ Option.some.injEq exists_eq_left' Nat.zero_add Nat.add_zero Nat.mul_one imp_self true_or or_true or_false false_or Bool.or_eq_true Bool.or_eq_false_iff Bool.and_eq_true Bool.and_eq_false_iff Bool.not_eq_true' Bool.not_eq_false'

theorem grid_int {Γr : Ctx} (a n : Nat) (ha : a ≤ 1000) (hn : n ≤ 100000) :
    Ret Try.prog 120 [.int .i64 a, .int .i64 n] Γr [] (fun v Γ => ∃ g b, Γ = [g] ∧ v = .slice (some ⟨b, 0, none⟩) a a ∧ Grid g b 29 3 (List.replicate a (List.replicate n (0 : Int)))) := by
  generalize hR : (fun (v : Value) (Γ : Ctx) => ∃ g b, _) = R
  refine ret_of_vc tr120 (Nat.le_of_ble_eq_true rfl) ?_
  simp -implicitDefEqProofs only [S120, S120_0, go_sem, Nat.reduceBEq, Nat.reduceAdd, Nat.reduceSub, Nat.reduceMul, Nat.reduceLeDiff, reduceCtorEq, ↓reduceIte, Int.reduceLT, Int.reduceLE, Int.reduceEq, Int.reduceNe]
  refine ⟨by omega, by omega, fun b => ?_⟩
  refine s_loop (fun f vs Γ => ∃ g, Γ = [g] ∧ ∃ k : Nat, vs = [.v true (.int .i64 k)] ∧ k + f = a ∧ Grid g b 29 3 (part (0 : Int) a n k)) a
    (Up.here ⟨_, rfl, 0, rfl, by omega, by have := Grid.made (α := Int) b 29 3 (m := a) (by omega); simpa [part] using this⟩) ?_
  rintro f vs Γ ⟨g, rfl, k, rfl, hkf, hG⟩
  simp -implicitDefEqProofs only [S120_1, go_sem, Nat.reduceBEq, Nat.reduceAdd, Nat.reduceSub, Nat.reduceMul, Nat.reduceLeDiff, reduceCtorEq, ↓reduceIte, Int.reduceLT, Int.reduceLE, Int.reduceEq, Int.reduceNe]
  refine ⟨fun hlt => ?_, fun hge => ?_⟩
  · have hk : k < a := by omega
    refine ⟨by omega, by omega, fun b2 => ?_⟩
    refine s_idx rfl (by omega) (by omega) ?_
    simp -implicitDefEqProofs only [go_sem, Nat.reduceBEq, Nat.reduceAdd, Nat.reduceSub, Nat.reduceMul, Nat.reduceLeDiff, reduceCtorEq, ↓reduceIte, Int.reduceLT, Int.reduceLE, Int.reduceEq, Int.reduceNe]
    refine s_storeG (ix := 1) (k := b2) (List.replicate n (0 : Int)) (by simp) rfl hG (by rw [part_len _ (by omega)]; omega) (by simp; omega) ?_
    intro g' hput
    simp -implicitDefEqProofs only [go_sem, Nat.reduceBEq, Nat.reduceAdd, Nat.reduceSub, Nat.reduceMul, Nat.reduceLeDiff, reduceCtorEq, ↓reduceIte, Int.reduceLT, Int.reduceLE, Int.reduceEq, Int.reduceNe]
    simp (disch := omega) only [wrap_id]
    refine ⟨f - 1, by omega, Up.apart fun hd => Up.one fun G hG' => ⟨_, rfl, k + 1, rfl, by omega, ?_⟩⟩
    rw [← part_set _ hk]
    exact hput _ _ (Arr.made (0 : Int) b2 3 n) ((List.pairwise_cons.1 hd).1 g' (by simp)) hG'
  · have hk : k = a := by omega
    subst hk
    refine Up.here ?_
    subst hR
    exact ⟨_, b, rfl, rfl, by simpa [part] using hG⟩
section
variable {Γr : Ctx} {d : Da} {A B : Option Addr} {c e : Nat}
theorem apart_good (hA : SlOk (lk Γr) A c d.ac) (V : VD d) {s : Nat} (hs : s ≤ d.nx.length) :
    Ret Try.prog 118 [.agg #[.int .i64 d.st, .slice A d.ac.length c, .slice B d.nx.length e], .int .i64 s] Γr [] (fun v Γ => Γ = [] ∧ v = .bool (accP d (stI d s))) := by
  generalize hR : (fun (v : Value) (Γ : Ctx) => Γ = [] ∧ v = Value.bool _) = R
  refine ret_of_vc tr118 (Nat.le_of_ble_eq_true rfl) ?_
  have hac := V.acc
  have hl := V.len
  obtain ⟨bA, oA, hAe, hAc⟩ := ints_at hA (by omega)
  simp -implicitDefEqProofs only [S118, S118_0, go_sem, Nat.reduceBEq, Nat.reduceAdd, Nat.reduceSub, Nat.reduceMul, Nat.reduceLeDiff, reduceCtorEq, ↓reduceIte, Int.reduceLT, Int.reduceLE, Int.reduceEq, Int.reduceNe]
  intro b
  refine s_idxg (fun he => ⟨he, he, hAe, by omega, by simp at he; omega⟩) ?_
  simp -implicitDefEqProofs only [go_sem, Nat.reduceBEq, Nat.reduceAdd, Nat.reduceSub, Nat.reduceMul, Nat.reduceLeDiff, reduceCtorEq, ↓reduceIte, Int.reduceLT, Int.reduceLE, Int.reduceEq, Int.reduceNe]
  refine s_ldg0 (fun he => he) (fun he => hAc s (by simp at he; omega) _ (lk_r _ _)) (by simp) (by simp) ?_
  simp -implicitDefEqProofs only [go_sem, Nat.reduceBEq, Nat.reduceAdd, Nat.reduceSub, Nat.reduceMul, Nat.reduceLeDiff, reduceCtorEq, ↓reduceIte, Int.reduceLT, Int.reduceLE, Int.reduceEq, Int.reduceNe]
  refine Up.here ?_
  subst hR
  refine ⟨rfl, ?_⟩
  congr 1
  unfold accP stI accD
  by_cases h : s < d.nx.length
  · rw [if_pos h]; simp [h]
  · rw [if_neg h]; simp [h]
theorem apart_go1 (hB : SlOk (lk Γr) B e d.nx) (V : VD d) {s : Nat} (hs : s ≤ d.nx.length) {x : Nat} (hx : (x : Int) < colsD d) :
    Ret Try.prog 119 [.agg #[.int .i64 d.st, .slice A d.ac.length c, .slice B d.nx.length e], .int .i64 s, .int .i64 x] Γr [] (fun v Γ => Γ = [] ∧ v = .int .i64 (gI d s x)) := by
  generalize hR : (fun (v : Value) (Γ : Ctx) => Γ = [] ∧ v = Value.int .i64 _) = R
  refine ret_of_vc tr119 (Nat.le_of_ble_eq_true rfl) ?_
  have hl := V.len
  simp -implicitDefEqProofs only [S119, S119_0, go_sem, Nat.reduceBEq, Nat.reduceAdd, Nat.reduceSub, Nat.reduceMul, Nat.reduceLeDiff, reduceCtorEq, ↓reduceIte, Int.reduceLT, Int.reduceLE, Int.reduceEq, Int.reduceNe]
  intro b
  by_cases h : s < d.nx.length
  · have hd : decide ((s : Int) < (d.nx.length : Int)) = true := by simpa using h
    simp only [hd]
    simp -implicitDefEqProofs only [go_sem, Nat.reduceBEq, Nat.reduceAdd, Nat.reduceSub, Nat.reduceMul, Nat.reduceLeDiff, reduceCtorEq, ↓reduceIte, Int.reduceLT, Int.reduceLE, Int.reduceEq, Int.reduceNe]
    have hrl := V.row _ (List.getElem_mem h)
    have hxl : x < d.nx[s].length := by omega
    obtain ⟨b2, o2, hB2, A2, c2, hr2, hc2⟩ := hB.list h
    obtain ⟨b3, o3, hA3, hc3⟩ := hr2.int hxl
    have hto := V.to _ (List.getElem_mem h) _ (List.getElem_mem hxl)
    have hst := step_at h hxl
    refine s_idx hB2 (by omega) (by omega) ?_
    simp -implicitDefEqProofs only [go_sem, Nat.reduceBEq, Nat.reduceAdd, Nat.reduceSub, Nat.reduceMul, Nat.reduceLeDiff, reduceCtorEq, ↓reduceIte, Int.reduceLT, Int.reduceLE, Int.reduceEq, Int.reduceNe]
    refine s_ld0 (hc2 _ (lk_r _ _)) (by simp) (by simp) ?_
    simp -implicitDefEqProofs only [go_sem, Nat.reduceBEq, Nat.reduceAdd, Nat.reduceSub, Nat.reduceMul, Nat.reduceLeDiff, reduceCtorEq, ↓reduceIte, Int.reduceLT, Int.reduceLE, Int.reduceEq, Int.reduceNe]
    refine s_idx hA3 (by omega) (by omega) ?_
    simp -implicitDefEqProofs only [go_sem, Nat.reduceBEq, Nat.reduceAdd, Nat.reduceSub, Nat.reduceMul, Nat.reduceLeDiff, reduceCtorEq, ↓reduceIte, Int.reduceLT, Int.reduceLE, Int.reduceEq, Int.reduceNe]
    refine s_ld0 (hc3 _ (lk_r _ _)) (by simp) (by simp) ?_
    simp -implicitDefEqProofs only [go_sem, Nat.reduceBEq, Nat.reduceAdd, Nat.reduceSub, Nat.reduceMul, Nat.reduceLeDiff, reduceCtorEq, ↓reduceIte, Int.reduceLT, Int.reduceLE, Int.reduceEq, Int.reduceNe]
    refine ⟨fun h0 => ?_, fun h0 => Up.here ?_⟩
    · refine s_idx hB2 (by omega) (by omega) ?_
      simp -implicitDefEqProofs only [go_sem, Nat.reduceBEq, Nat.reduceAdd, Nat.reduceSub, Nat.reduceMul, Nat.reduceLeDiff, reduceCtorEq, ↓reduceIte, Int.reduceLT, Int.reduceLE, Int.reduceEq, Int.reduceNe]
      refine s_ld0 (hc2 _ (lk_r _ _)) (by simp) (by simp) ?_
      simp -implicitDefEqProofs only [go_sem, Nat.reduceBEq, Nat.reduceAdd, Nat.reduceSub, Nat.reduceMul, Nat.reduceLeDiff, reduceCtorEq, ↓reduceIte, Int.reduceLT, Int.reduceLE, Int.reduceEq, Int.reduceNe]
      refine s_idx hA3 (by omega) (by omega) ?_
      simp -implicitDefEqProofs only [go_sem, Nat.reduceBEq, Nat.reduceAdd, Nat.reduceSub, Nat.reduceMul, Nat.reduceLeDiff, reduceCtorEq, ↓reduceIte, Int.reduceLT, Int.reduceLE, Int.reduceEq, Int.reduceNe]
      refine s_ld0 (hc3 _ (lk_r _ _)) (by simp) (by simp) ?_
      simp -implicitDefEqProofs only [go_sem, Nat.reduceBEq, Nat.reduceAdd, Nat.reduceSub, Nat.reduceMul, Nat.reduceLeDiff, reduceCtorEq, ↓reduceIte, Int.reduceLT, Int.reduceLE, Int.reduceEq, Int.reduceNe]
      refine Up.here ?_
      subst hR
      refine ⟨rfl, ?_⟩
      unfold gI
      rw [if_pos ⟨h, by rw [hst]; exact h0⟩, hst]
      congr 1
      omega
    · subst hR
      refine ⟨rfl, ?_⟩
      unfold gI
      rw [if_neg (by rw [hst]; omega)]
  · have hd : decide ((s : Int) < (d.nx.length : Int)) = false := by simpa using h
    simp only [hd]
    simp -implicitDefEqProofs only [go_sem, Nat.reduceBEq, Nat.reduceAdd, Nat.reduceSub, Nat.reduceMul, Nat.reduceLeDiff, reduceCtorEq, ↓reduceIte, Int.reduceLT, Int.reduceLE, Int.reduceEq, Int.reduceNe]
    refine s_idxg (b := 0) (o := 0) (by simp) ?_
    simp -implicitDefEqProofs only [go_sem, Nat.reduceBEq, Nat.reduceAdd, Nat.reduceSub, Nat.reduceMul, Nat.reduceLeDiff, reduceCtorEq, ↓reduceIte, Int.reduceLT, Int.reduceLE, Int.reduceEq, Int.reduceNe]
    refine s_ldg0 (cs := [.slice none 0 0]) (by simp) (by simp) (by simp) (by simp) ?_
    simp -implicitDefEqProofs only [go_sem, Nat.reduceBEq, Nat.reduceAdd, Nat.reduceSub, Nat.reduceMul, Nat.reduceLeDiff, reduceCtorEq, ↓reduceIte, Int.reduceLT, Int.reduceLE, Int.reduceEq, Int.reduceNe]
    refine s_idxg (b := 0) (o := 0) (by simp) ?_
    simp -implicitDefEqProofs only [go_sem, Nat.reduceBEq, Nat.reduceAdd, Nat.reduceSub, Nat.reduceMul, Nat.reduceLeDiff, reduceCtorEq, ↓reduceIte, Int.reduceLT, Int.reduceLE, Int.reduceEq, Int.reduceNe]
    refine s_ldg0 (cs := [.int .i64 0]) (by simp) (by simp) (by simp) (by simp) ?_
    simp -implicitDefEqProofs only [go_sem, Nat.reduceBEq, Nat.reduceAdd, Nat.reduceSub, Nat.reduceMul, Nat.reduceLeDiff, reduceCtorEq, ↓reduceIte, Int.reduceLT, Int.reduceLE, Int.reduceEq, Int.reduceNe]
    refine Up.here ?_
    subst hR
    refine ⟨rfl, ?_⟩
    unfold gI
    rw [if_neg (by omega)]
end
end Go.Proofs.Ytniobbepliknmaa.V
