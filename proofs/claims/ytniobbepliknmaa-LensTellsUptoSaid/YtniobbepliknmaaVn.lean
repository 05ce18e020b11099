/- Grids: rows of rows that are made and changed; no condition. -/
import Derived.Test.YtniobbepliknmaaVm
namespace Go.Proofs.Ytniobbepliknmaa.V
open Go
set_option linter.unusedVariables false
set_option linter.unusedSimpArgs false
set_option linter.unusedSectionVars false
attribute [local go_sem] e_seq e_region e_quiet e_join e_loop e_cond e_block e_exit e_ret e_skip e_fin e_kseq e_snrm e_sret e_sex e_bnrm e_bret e_bex e_rnrm e_rret e_res e_condC e_nil e_g e_mv g_mv e_pick g_pick pickC_eq e_ibin g_ibin ibinC_eq e_sbin g_sbin e_beq g_beq beqC_eq e_nilq g_nilq nilqC_sl nilqC_pt nilqC_mp e_un g_un unC_not unC_neg e_conv g_conv convC_eq e_fld g_fld fldC_ref fldC_ptr e_nilCheck g_nilCheck nilCheckC_ref nilCheckC_ptr nilCheckC_fun e_field g_field fieldC_eq e_len g_len lenC_sl lenC_str e_extract g_extract extractC_eq e_mkFunc e_build g_build e_idiv g_idiv idivC_eq e_ishift g_ishift ishiftC_eq e_idx g_idx e_idxA g_idxA e_load g_load loadC_ref loadC_ptr loadB_eq e_slc g_slc e_box boxC_loc boxC_esc e_alloc allocC_loc allocC_esc e_buildS e_store storeC_ref storeC_ptr storeB_eq e_append e_appz e_mk mkC_eq e_call callC_eq e_fn g_fn fnC_eq fnV_min' fnV_max' fnV_rune' e_q g_q e_a e_n g_call g_box g_alloc g_buildS g_store g_append g_mk g_a g_n g_dead e_dead e_callK e_drawn e_tree e_finJ e_tk e_tfin e_tno e_nbt_q e_nbt_qn e_nbt_a e_nbt_an e_nbt_fin e_early_nil e_early_t e_early_f e_nob_nil e_nob_none e_nob_some isBox_dead isBox_v isBox_ref e_dnil e_dk e_ek e_finB vcOps_vc1 e_dcons e_tq e_ekt e_tearly e_talt e_dearly look_nil look_c proj_nil proj_c looks_nil looks_c zip_nil zip_c val_tmp val_const val_func slv_v slv_box slv_ref slot_tmp slot_const slot_func slotL_v slotL_box slotL_ref put_some put_none updBox_c boxSet_box gd_eq slotVals_nil slotVals_c slotVals_b boxV_box boxOn_box slotsOn_nil slotsOn_c slotsOn_b resV_one resV_two vals_nil vals_c allOn_nil allOn_c partOn_nil partOn_c partVals_nil partVals_c fits_nil fits_c fillL_nil fillL_c mkv_one mkv_agg cellsV_agg cellsV_int cellsV_bool cellsV_slice cellsV_string cellsV_pointer cellsV_func cellsV_nilf cellsV_map one'_nil one'_c oc_int oc_bool oc_slice oc_string oc_pointer oc_func oc_nilf oc_map setC_eq iv_add iv_sub iv_mul iv_eql iv_neq iv_lss iv_leq iv_gtr iv_geq iok_add iok_sub iok_mul iok_eql iok_neq iok_lss iok_leq iok_gtr iok_geq pickV_bool args0_nil args0_c bnd_none bnd_some imp_bt imp_bf imp_ebt imp_ebf imp_eb1 imp_np imp_pp beq_tt beq_tf beq_ft beq_ff cond_or cond_and e_round e_meet Int.le_refl Int.toNat_zero decide_true decide_false Bool.or_false Bool.false_or Bool.true_or Bool.or_true Bool.and_false Bool.false_and Bool.bne_false Bool.bne_true beq_iff_eq Int.cast_ofNat_Int not_false_eq_true not_true_eq_false false_and and_false false_implies true_implies true_and and_true Bool.true_and Bool.and_true Bool.not_true Bool.not_false forall_const implies_true List.take_zero List.drop_zero List.take_succ_cons List.drop_succ_cons List.take_nil List.drop_nil List.length_cons List.length_nil List.nil_append List.append_nil List.cons_append Int.toNat_natCast decide_eq_true_eq decide_eq_false_iff_not cond_true cond_false and_self List.getElem?_cons_zero List.getElem?_cons_succ List.set_cons_zero List.set_cons_succ Option.some.injEq exists_eq_left' Nat.zero_add Nat.add_zero Nat.mul_one imp_self true_or or_true or_false false_or Bool.or_eq_true Bool.or_eq_false_iff Bool.and_eq_true Bool.and_eq_false_iff Bool.not_eq_true' Bool.not_eq_false'

section
variable {α : Type} [Sc α]
def gcell (p : Option Nat × List α) : Value := match p.1 with
  | none => .slice none 0 0
  | some k => .slice (some ⟨k, 0, none⟩) p.2.length p.2.length
structure GridB (g : PH) (b : Nat) (T e : TypeId) (ps : List (Option Nat × List α)) : Prop where
  out : g b = some (.cells (ps.map gcell).toArray T (0, 0))
  row : ∀ (i k : Nat) xs, ps[i]? = some (some k, xs) → k ≠ b ∧ g k = some (.cells (xs.map Sc.enc).toArray e (0, 0)) ∧ xs.length ≤ 1000000
  nil : ∀ (i : Nat) xs, ps[i]? = some (none, xs) → xs = []
  apart : ∀ (i j k : Nat) xs ys, ps[i]? = some (some k, xs) → ps[j]? = some (some k, ys) → i = j
  short : ps.length ≤ 1000000
/-- the rows of a grid whose outer array is b -/
def Grid (g : PH) (b : Nat) (T e : TypeId) (rows : List (List α)) : Prop := ∃ ps, GridB g b T e ps ∧ rows = ps.map (·.2)

theorem Grid.made (b : Nat) (T e : TypeId) {m : Nat} (hm : m ≤ 1000000) : Grid (one b (.cells (zerosL [Value.slice none 0 0] m).toArray T)) b T e (List.replicate m ([] : List α)) := by
  refine ⟨List.replicate m (none, []), ⟨?_, ?_, ?_, ?_, by simpa using hm⟩, by simp⟩
  · rw [one_self]
    congr 3
    induction m with
    | zero => rfl
    | succ m ih => simp [zerosL, List.replicate_succ, gcell, ih (by omega)]
  · intro i k xs h
    rw [List.getElem?_replicate] at h
    split at h <;> simp at h
  · intro i xs h
    rw [List.getElem?_replicate] at h
    split at h <;> simp at h
    exact h
  · intro i j k xs ys h
    rw [List.getElem?_replicate] at h
    split at h <;> simp at h
theorem Grid.mono {g g' : PH} {b : Nat} {T e : TypeId} {rows : List (List α)} (h : Grid g b T e rows) (hl : Mem.le (lk [g]) (lk [g'])) : Grid g' b T e rows := by
  obtain ⟨ps, h, rfl⟩ := h
  have up : ∀ k o, g k = some o → g' k = some o := fun k o q => lk_one.1 (hl _ _ (lk_one.2 q))
  exact ⟨ps, ⟨up _ _ h.out, fun i k xs q => let ⟨a, b, c⟩ := h.row i k xs q; ⟨a, up _ _ b, c⟩, h.nil, h.apart, h.short⟩, rfl⟩
theorem Grid.short {g : PH} {b : Nat} {T e : TypeId} {rows : List (List α)} (h : Grid g b T e rows) : rows.length ≤ 1000000 := by
  obtain ⟨ps, h, rfl⟩ := h
  simpa using h.short
theorem Grid.slok {g : PH} {b : Nat} {T e : TypeId} {rows : List (List α)} {L : Mem} (h : Grid g b T e rows) (hL : Mem.le (lk [g]) L) : SlOk L (some ⟨b, 0, none⟩) rows.length rows := by
  have hs := h.short
  obtain ⟨ps, h, rfl⟩ := h
  refine ⟨Nat.le_refl _, by unfold maxLen; omega, by omega, .inr ⟨b, 0, _, T, _, rfl, hL _ _ (lk_one.2 h.out), fun i x hi => ?_⟩⟩
  rw [List.getElem?_map] at hi
  cases hp : ps[i]? with
  | none => rw [hp] at hi; simp at hi
  | some p =>
    obtain ⟨o, xs⟩ := p
    rw [hp] at hi
    simp only [Option.map_some, Option.some.injEq] at hi
    subst hi
    refine ⟨[gcell (o, xs)], ?_, fun j hj => ?_⟩
    · cases o with
      | none =>
        have := h.nil i xs hp
        subst this
        exact ⟨none, 0, rfl, SlOk.nil⟩
      | some k =>
        obtain ⟨h1, h2, h3⟩ := h.row i k xs hp
        exact ⟨_, _, rfl, Arr.slok (g := g) (b := k) (T := e) h2 hL (Nat.le_refl _) (by unfold maxLen; show xs.length ≤ _; omega) (by omega)⟩
    · have : j = 0 := by simp [Rep.sz] at hj; exact hj
      subst this
      simp [Rep.sz, hp]
/-- rows[i] is to be changed -/
theorem Grid.at' {g : PH} {b : Nat} {T e : TypeId} {rows : List (List α)} (h : Grid g b T e rows) {i : Nat} (hi : i < rows.length) (hpos : 0 < rows[i].length) :
    ∃ k, (∀ Γ : Ctx, g ∈ Γ → Cells Γ b i [.slice (some ⟨k, 0, none⟩) rows[i].length rows[i].length]) ∧ Arr g k e rows[i] ∧
      ∀ g' (xs : List α), Arr g' k e xs → xs.length = rows[i].length → (∀ x, x ≠ k → g' x = g x) → Grid g' b T e (rows.set i xs) := by
  obtain ⟨ps, h, rfl⟩ := h
  have hi' : i < ps.length := by simpa using hi
  obtain ⟨o, xs, hp⟩ : ∃ o xs, ps[i]? = some (o, xs) := ⟨_, _, List.getElem?_eq_getElem hi'⟩
  have hx : (ps.map (·.2))[i] = xs := by
    have := (List.getElem?_eq_some_iff.1 hp).2
    simp [this]
  simp only [hx] at hpos ⊢
  cases o with
  | none => have := h.nil i xs hp; subst this; simp at hpos
  | some k =>
    obtain ⟨h1, h2, h3⟩ := h.row i k xs hp
    refine ⟨k, fun Γ hg => ⟨g, hg, _, T, _, h.out, fun j hj => ?_⟩, h2, fun g' ys hA hl ho => ?_⟩
    · have : j = 0 := by simp at hj; exact hj
      subst this
      simp [hp, gcell]
    · have hset : ∀ j, (ps.set i (some k, ys))[j]? = if i = j then some (some k, ys) else ps[j]? := fun j => by
        rw [List.getElem?_set]
        by_cases e : i = j
        · subst e; simp [hi']
        · simp [e]
      refine ⟨ps.set i (some k, ys), ⟨?_, ?_, ?_, ?_, by simpa using h.short⟩, by simp [List.map_set]⟩
      · rw [ho b (fun q => h1 q.symm), h.out]
        congr 3
        apply List.ext_getElem?
        intro j
        rw [List.getElem?_map, List.getElem?_map, hset]
        by_cases e : i = j
        · subst e
          simp [hp, gcell, hl]
        · simp [e]
      · intro j m zs hj
        rw [hset] at hj
        by_cases e : i = j
        · subst e
          simp only [if_true, Option.some.injEq, Prod.mk.injEq] at hj
          obtain ⟨rfl, rfl⟩ := hj
          exact ⟨h1, hA, by omega⟩
        · rw [if_neg e] at hj
          obtain ⟨q1, q2, q3⟩ := h.row j m zs hj
          have hm : m ≠ k := fun q => by subst q; exact e (h.apart i j m xs zs hp hj)
          exact ⟨q1, by rw [ho m hm]; exact q2, q3⟩
      · intro j zs hj
        rw [hset] at hj
        by_cases e : i = j
        · subst e; simp at hj
        · rw [if_neg e] at hj; exact h.nil j zs hj
      · intro j j' m zs zs' hj hj'
        rw [hset] at hj hj'
        by_cases e : i = j
        · subst e
          simp only [if_true, Option.some.injEq, Prod.mk.injEq] at hj
          obtain ⟨rfl, rfl⟩ := hj
          by_cases e' : i = j'
          · exact e'
          · rw [if_neg e'] at hj'
            exact h.apart i j' k xs zs' hp hj'
        · rw [if_neg e] at hj
          by_cases e' : i = j'
          · subst e'
            simp only [if_true, Option.some.injEq, Prod.mk.injEq] at hj'
            obtain ⟨rfl, rfl⟩ := hj'
            exact h.apart j i k zs xs hj hp
          · rw [if_neg e'] at hj'
            exact h.apart j j' m zs zs' hj hj'
/-- a new row, whose array lies elsewhere, is put in -/
theorem Grid.put {g : PH} {b : Nat} {T e : TypeId} {rows : List (List α)} (h : Grid g b T e rows) {i : Nat} (hi : i < rows.length) (k : Nat) (xs : List α) (hl : xs.length ≤ 1000000) {cs : List Value} (hc : g b = some (.cells cs.toArray T (0, 0)))
    {x2 G : PH} (hA : Arr x2 k e xs) (hd : Disj x2 (upd g b (.cells (setC cs i 1 (.slice (some ⟨k, 0, none⟩) xs.length xs.length)).toArray T))) (hG : Mem.le (lk [x2, upd g b (.cells (setC cs i 1 (.slice (some ⟨k, 0, none⟩) xs.length xs.length)).toArray T)]) (lk [G])) :
    Grid G b T e (rows.set i xs) := by
  obtain ⟨ps, h, rfl⟩ := h
  have hi' : i < ps.length := by simpa using hi
  have hcs : cs = ps.map gcell := by
    have := h.out
    rw [hc] at this
    simpa using this
  subst hcs
  have up1 : ∀ j o, x2 j = some o → G j = some o := fun j o q => lk_one.1 (hG _ _ ⟨x2, by simp, q⟩)
  have up2 : ∀ j o, upd g b (.cells (setC (ps.map gcell) i 1 (.slice (some ⟨k, 0, none⟩) xs.length xs.length)).toArray T) j = some o → G j = some o := fun j o q => lk_one.1 (hG _ _ ⟨_, by simp, q⟩)
  have hkg : ∀ j, j = b ∨ g j ≠ none → j ≠ k := fun j hj q => by
    subst q
    rcases hd j with q | q
    · rw [Arr] at hA; rw [hA] at q; cases q
    · rcases hj with rfl | hj
      · rw [upd_self] at q; cases q
      · by_cases e : j = b
        · subst e; rw [upd_self] at q; cases q
        · rw [upd_other e] at q; exact hj q
  have hset : ∀ j, (ps.set i (some k, xs))[j]? = if i = j then some (some k, xs) else ps[j]? := fun j => by
    rw [List.getElem?_set]
    by_cases e : i = j
    · subst e; simp [hi']
    · simp [e]
  refine ⟨ps.set i (some k, xs), ⟨?_, ?_, ?_, ?_, by simpa using h.short⟩, by simp [List.map_set]⟩
  · rw [up2 b _ (upd_self _ _ _)]
    congr 3
    rw [List.map_set, List.set_eq_take_append_cons_drop, if_pos (by simpa using hi')]
    simp [setC, cellsV, gcell, Value.cells]
  · intro j m zs hj
    rw [hset] at hj
    by_cases e : i = j
    · subst e
      simp only [if_true, Option.some.injEq, Prod.mk.injEq] at hj
      obtain ⟨rfl, rfl⟩ := hj
      exact ⟨fun q => hkg b (.inl rfl) q.symm, up1 _ _ hA, hl⟩
    · rw [if_neg e] at hj
      obtain ⟨q1, q2, q3⟩ := h.row j m zs hj
      exact ⟨q1, up2 _ _ (by rw [upd_other q1]; exact q2), q3⟩
  · intro j zs hj
    rw [hset] at hj
    by_cases e : i = j
    · subst e; simp at hj
    · rw [if_neg e] at hj; exact h.nil j zs hj
  · intro j j' m zs zs' hj hj'
    rw [hset] at hj hj'
    by_cases e : i = j
    · subst e
      simp only [if_true, Option.some.injEq, Prod.mk.injEq] at hj
      obtain ⟨rfl, rfl⟩ := hj
      by_cases e' : i = j'
      · exact e'
      · rw [if_neg e'] at hj'
        have := (h.row j' k zs' hj').2.1
        exact absurd rfl (hkg k (.inr (by rw [this]; simp)))
    · rw [if_neg e] at hj
      by_cases e' : i = j'
      · subst e'
        simp only [if_true, Option.some.injEq, Prod.mk.injEq] at hj'
        obtain ⟨rfl, rfl⟩ := hj'
        have := (h.row j k zs hj).2.1
        exact absurd rfl (hkg k (.inr (by rw [this]; simp)))
      · rw [if_neg e'] at hj'
        exact h.apart j j' m zs zs' hj hj'
end
section
variable {P : Program} {Γr : Ctx} {d : Option Nat} {r : List SOper} {φ : Fr} {Γ : Ctx} {K : Fr → Ctx → Prop}
/-- rows[i] = make(..) -/
theorem s_storeG {α : Type} [Sc α] {g : PH} {b i ix k n : Nat} {T e : TypeId} {rows : List (List α)} (xs : List α) (hn : n = xs.length) (hg : Γ[ix]? = some g) (h : Grid g b T e rows) (hi : i < rows.length) (hl : xs.length ≤ 1000000)
    (hk : ∀ g', (∀ x2 G, Arr x2 k e xs → Disj x2 g' → Mem.le (lk [x2, g']) (lk [G]) → Grid G b T e (rows.set i xs)) → vcOps P Γr r φ (Γ.set ix g') K) : storeP P Γr r φ Γ K 1 b i (.slice (some ⟨k, 0, none⟩) n n) := by
  subst hn
  obtain ⟨ps, hB, hr⟩ := id h
  refine ⟨ix, g, _, T, hg, hB.out, by subst hr; simp at hi ⊢; omega, ?_⟩
  exact hk _ fun x2 G hA hd hG => h.put hi k xs hl hB.out hA hd hG
end
end Go.Proofs.Ytniobbepliknmaa.V
