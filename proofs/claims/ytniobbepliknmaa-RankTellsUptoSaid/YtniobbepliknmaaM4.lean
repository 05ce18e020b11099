/- Texts put together, in the order in which they build; each says what it proves; no condition. -/
import Derived.Test.YtniobbepliknmaaM3
import Derived.Test.YtniobbepliknmaaM1
import Derived.Test.YtniobbepliknmaaProg
namespace Go.Proofs.Ytniobbepliknmaa.V
open Go
set_option linter.unusedVariables false
set_option linter.unusedSimpArgs false
open Nat renaming reduceBEq → zA, reduceAdd → zB, reduceSub → zC, reduceMul → zD, reduceLeDiff → zE
open Int renaming reduceLT → zF, reduceLE → zG, reduceEq → zH, reduceNe → zI
/- Sets of texts, and rows of them; no condition. -/
set_option linter.unusedSectionVars false
attribute [local go_sem] e_seq e_region e_quiet e_join e_loop e_cond e_block e_exit e_ret e_skip e_fin e_kseq e_snrm e_sret e_sex e_bnrm e_bret e_bex e_rnrm e_rret e_res e_condC e_nil e_g e_mv g_mv e_pick g_pick pickC_eq e_ibin g_ibin ibinC_eq e_sbin g_sbin e_beq g_beq beqC_eq e_nilq g_nilq nilqC_sl nilqC_pt nilqC_mp e_un g_un unC_not unC_neg e_conv g_conv convC_eq e_fld g_fld fldC_ref fldC_ptr e_nilCheck g_nilCheck nilCheckC_ref nilCheckC_ptr nilCheckC_fun e_field g_field fieldC_eq e_len g_len lenC_sl lenC_str e_extract g_extract extractC_eq e_mkFunc e_build g_build e_idiv g_idiv idivC_eq e_ishift g_ishift ishiftC_eq e_idx g_idx e_idxA g_idxA e_load g_load e_loadB g_loadB atB_ref atB_v g_mkFunc loadC_ref loadC_ptr loadB_eq e_slc g_slc e_box boxC_loc boxC_esc e_alloc allocC_loc allocC_esc e_buildS e_store storeC_ref storeC_ptr storeB_eq e_append e_appz e_mk mkC_eq e_call callC_eq e_fn g_fn fnC_eq fnV_min' fnV_max' fnV_rune' e_q g_q e_a e_n g_call g_box g_alloc g_buildS g_store g_append g_mk g_a g_n g_dead e_dead e_callK e_drawn e_tree e_finJ e_tk e_tfin e_tno e_nbt_q e_nbt_qn e_nbt_a e_nbt_an e_nbt_fin e_drawnB e_bxb_nil e_bxb e_stB_none e_stB_some boxSt_store bs_mv bs_pick bs_ibin bs_idiv bs_ishift bs_sbin bs_beq bs_nilq bs_un bs_conv bs_box bs_alloc bs_build bs_buildS bs_load bs_fld bs_nilCheck bs_idx bs_idxA bs_field bs_slc bs_len bs_append bs_appz bs_mk bs_call bs_extract bs_mkFunc bs_fn bs_q bs_a bs_n bs_loadB bs_dead isBox_box e_early_nil e_early_t e_early_f e_nob_nil e_nob_none e_nob_some isBox_dead isBox_v isBox_ref e_dnil e_dk e_ek e_finB vcOps_vc1 e_dcons e_tq e_ekt e_tearly e_talt e_dearly look_nil look_c proj_nil proj_c looks_nil looks_c zip_nil zip_c val_tmp val_const val_func slv_v slv_box slv_ref slot_tmp slot_const slot_func slotL_v slotL_box slotL_ref put_some put_none updBox_c boxSet_box gd_eq slotVals_nil slotVals_c slotVals_b boxV_box boxOn_box slotsOn_nil slotsOn_c slotsOn_b resV_one resV_two vals_nil vals_c allOn_nil allOn_c partOn_nil partOn_c partVals_nil partVals_c fits_nil fits_c fillL_nil fillL_c mkv_one mkv_agg cellsV_agg cellsV_int cellsV_bool cellsV_slice cellsV_string cellsV_pointer cellsV_func cellsV_nilf cellsV_map one'_nil one'_c oc_int oc_bool oc_slice oc_string oc_pointer oc_func oc_nilf oc_map setC_eq iv_add iv_sub iv_mul iv_eql iv_neq iv_lss iv_leq iv_gtr iv_geq iok_add iok_sub iok_mul iok_eql iok_neq iok_lss iok_leq iok_gtr iok_geq pickV_bool args0_nil args0_c bnd_none bnd_some imp_bt imp_bf imp_ebt imp_ebf imp_eb1 imp_np imp_pp beq_tt beq_tf beq_ft beq_ff cond_or cond_and e_round e_meet Int.le_refl Int.toNat_zero decide_true decide_false Bool.or_false Bool.false_or Bool.true_or Bool.or_true Bool.and_false Bool.false_and Bool.bne_false Bool.bne_true beq_iff_eq Int.cast_ofNat_Int not_false_eq_true not_true_eq_false false_and and_false false_implies true_implies true_and and_true Bool.true_and Bool.and_true Bool.not_true Bool.not_false forall_const implies_true List.take_zero List.drop_zero List.take_succ_cons List.drop_succ_cons List.take_nil List.drop_nil List.length_cons List.length_nil List.nil_append List.append_nil List.cons_append Int.toNat_natCast decide_eq_true_eq decide_eq_false_iff_not cond_true cond_false and_self List.getElem?_cons_zero List.getElem?_cons_succ List.set_cons_zero List.set_cons_succ Option.some.injEq exists_eq_left' Nat.zero_add Nat.add_zero Nat.mul_one imp_self true_or or_true or_false false_or Bool.or_eq_true Bool.or_eq_false_iff Bool.and_eq_true Bool.and_eq_false_iff Bool.not_eq_true' Bool.not_eq_false'

theorem Up.skip {g : PH} {Γ : Ctx} {Φ : Ctx → Prop} (h : Up Γ Φ) : Up (g :: Γ) Φ := fun ha => by
 obtain ⟨Γ', he, hp⟩ := h (List.pairwise_cons.1 ha).2
 exact ⟨Γ', (Ent.sub (List.sublist_cons_self _ _)).trans he, hp⟩
def good8 (l : List UInt8) : Prop := l.length ≤ 1000
/-- the map b is the set l of texts -/
def SetS (L : Mem) (b : Nat) (l : List (List UInt8)) : Prop := MapL L b strB Value.bool good8 (mset id l)
def StrM (g : PH) (b : Nat) (l : List (List UInt8)) : Prop := MapM g b strB Value.bool good8 (mset id l)
theorem StrM.l {g : PH} {Γ : Ctx} {b : Nat} {l : List (List UInt8)} (h : StrM g b l) (hg : g ∈ Γ) : SetS (lk Γ) b l := MapM.l h hg
theorem SetS.mono {L L' : Mem} {b : Nat} {l : List (List UInt8)} (h : SetS L b l) (hl : Mem.le L L') : SetS L' b l := MapL.mono h hl
theorem StrM.mono {g g' : PH} {b : Nat} {l : List (List UInt8)} (h : StrM g b l) (hg : Mem.le (lk [g]) (lk [g'])) : StrM g' b l := MapM.mono h hg
theorem SetS.nodup {L : Mem} {b : Nat} {l : List (List UInt8)} (h : SetS L b l) : l.Nodup := by
 have := MapL.nodup h
 rwa [mset_keys, List.map_id] at this
theorem SetS.good {L : Mem} {b : Nat} {l : List (List UInt8)} (h : SetS L b l) : ∀ x ∈ l, x.length ≤ 1000 := fun x hx => MapL.good h (x, true) (List.mem_map.2 ⟨x, hx, rfl⟩)
/-! a row of sets -/
structure RowS (g : PH) (bo : Nat) (T : TypeId) (maps : List (List (List UInt8))) (bs : List Nat) : Prop where
 len : bs.length = maps.length
 out : g bo = some (.cells (bs.map fun b => Value.map (some b)).toArray T (0, 0))
 nodup : bs.Nodup
 apart : bo ∉ bs
 map : ∀ (i b : Nat) l, bs[i]? = some b → maps[i]? = some l → StrM g b l
def GridS (g : PH) (bo : Nat) (T : TypeId) (maps : List (List (List UInt8))) : Prop := ∃ bs, RowS g bo T maps bs
theorem GridS.mono {g g' : PH} {bo : Nat} {T : TypeId} {maps : List (List (List UInt8))} (h : GridS g bo T maps) (hl : Mem.le (lk [g]) (lk [g'])) : GridS g' bo T maps := by
 obtain ⟨bs, h⟩ := h
 exact ⟨bs, h.len, lk_one.1 (hl _ _ (lk_one.2 h.out)), h.nodup, h.apart, fun i b l h1 h2 => (h.map i b l h1 h2).mono hl⟩
theorem nodup_inj {l : List Nat} (h : l.Nodup) {i j : Nat} (hi : i < l.length) (hj : j < l.length) (e : l[i] = l[j]) : i = j := by
 rcases Nat.lt_trichotomy i j with q | q | q
 ·exact absurd e ((List.pairwise_iff_getElem.1 h) i j hi hj q)
 ·exact q
 ·exact absurd e.symm ((List.pairwise_iff_getElem.1 h) j i hj hi q)
/-- maps[i] -/
theorem GridS.at' {g : PH} {bo : Nat} {T : TypeId} {maps : List (List (List UInt8))} (h : GridS g bo T maps) {i : Nat} (hi : i < maps.length) :
  ∃ b, (∀ Γ : Ctx, g ∈ Γ → Cells Γ bo i [.map (some b)]) ∧ StrM g b maps[i] ∧ b ≠ bo ∧ ∀ g' l, StrM g' b l → (∀ k, k ≠ b → g' k = g k) → GridS g' bo T (maps.set i l) := by
 obtain ⟨bs, h⟩ := h
 have hib : i < bs.length := by rw [h.len]; exact hi
 refine ⟨bs[i], fun Γ hg => ⟨g, hg, _, T, _, h.out, fun j hj => ?_⟩, h.map i _ _ (List.getElem?_eq_getElem hib) (List.getElem?_eq_getElem hi), fun e => h.apart (e ▸ List.getElem_mem hib), fun g' l hl ho => ⟨bs, ?_, ?_, h.nodup, h.apart, fun j b l' h1 h2 => ?_⟩⟩
 ·have : j = 0 := by simp at hj; exact hj
  subst this
  simp [hib]
 ·rw [List.length_set]; exact h.len
 ·rw [ho bo (fun e => h.apart (by rw [e]; exact List.getElem_mem hib))]; exact h.out
 ·by_cases e : j = i
  ·subst e
   rw [List.getElem?_eq_getElem hib] at h1
   rw [List.getElem?_set_self hi] at h2
   cases h1
   cases h2
   exact hl
  ·rw [List.getElem?_set_ne (fun q => e q.symm)] at h2
   have hne : b ≠ bs[i] := fun q => by
    subst q
    obtain ⟨hj, h3⟩ := List.getElem?_eq_some_iff.1 h1
    exact e (nodup_inj h.nodup hj hib h3)
   have hm := h.map j b l' h1 h2
   obtain ⟨es, c, q1, q2⟩ := hm.at'
   exact ⟨MapL.nodup hm, MapL.good hm, es, c, by rw [ho b hne]; exact q1, q2⟩
/-- the sets that have been made so far -/
structure PartS (g : PH) (bo : Nat) (T : TypeId) (m : Nat) (bs : List Nat) : Prop where
 len : bs.length ≤ m
 out : g bo = some (.cells (bs.map (fun b => Value.map (some b)) ++ List.replicate (m - bs.length) (Value.map none)).toArray T (0, 0))
 nodup : bs.Nodup
 apart : bo ∉ bs
 map : ∀ b ∈ bs, StrM g b []
theorem PartS.made (bo : Nat) (T : TypeId) (m : Nat) : PartS (one bo (.cells (zerosL [Value.map none] m).toArray T)) bo T m [] := by
 refine ⟨by simp, ?_, by simp, by simp, by simp⟩
 rw [one_self]
 congr 3
 induction m with
 | zero => rfl
 | succ m ih => simp [zerosL, List.replicate_succ, ih]
/- Natural numbers and headers of slices as data; copy; no condition. -/
attribute [local go_sem] e_seq e_region e_quiet e_join e_loop e_cond e_block e_exit e_ret e_skip e_fin e_kseq e_snrm e_sret e_sex e_bnrm e_bret e_bex e_rnrm e_rret e_res e_condC e_nil e_g e_mv g_mv e_pick g_pick pickC_eq e_ibin g_ibin ibinC_eq e_sbin g_sbin e_beq g_beq beqC_eq e_nilq g_nilq nilqC_sl nilqC_pt nilqC_mp e_un g_un unC_not unC_neg e_conv g_conv convC_eq e_fld g_fld fldC_ref fldC_ptr e_nilCheck g_nilCheck nilCheckC_ref nilCheckC_ptr nilCheckC_fun e_field g_field fieldC_eq e_len g_len lenC_sl lenC_str e_extract g_extract extractC_eq e_mkFunc e_build g_build e_idiv g_idiv idivC_eq e_ishift g_ishift ishiftC_eq e_idx g_idx e_idxA g_idxA e_load g_load e_loadB g_loadB atB_ref atB_v g_mkFunc loadC_ref loadC_ptr loadB_eq e_slc g_slc e_box boxC_loc boxC_esc e_alloc allocC_loc allocC_esc e_buildS e_store storeC_ref storeC_ptr storeB_eq e_append e_appz e_mk mkC_eq e_call callC_eq e_fn g_fn fnC_eq fnV_min' fnV_max' fnV_rune' e_q g_q e_a e_n g_call g_box g_alloc g_buildS g_store g_append g_mk g_a g_n g_dead e_dead e_callK e_drawn e_tree e_finJ e_tk e_tfin e_tno e_nbt_q e_nbt_qn e_nbt_a e_nbt_an e_nbt_fin e_drawnB e_bxb_nil e_bxb e_stB_none e_stB_some boxSt_store bs_mv bs_pick bs_ibin bs_idiv bs_ishift bs_sbin bs_beq bs_nilq bs_un bs_conv bs_box bs_alloc bs_build bs_buildS bs_load bs_fld bs_nilCheck bs_idx bs_idxA bs_field bs_slc bs_len bs_append bs_appz bs_mk bs_call bs_extract bs_mkFunc bs_fn bs_q bs_a bs_n bs_loadB bs_dead isBox_box e_early_nil e_early_t e_early_f e_nob_nil e_nob_none e_nob_some isBox_dead isBox_v isBox_ref e_dnil e_dk e_ek e_finB vcOps_vc1 e_dcons e_tq e_ekt e_tearly e_talt e_dearly look_nil look_c proj_nil proj_c looks_nil looks_c zip_nil zip_c val_tmp val_const val_func slv_v slv_box slv_ref slot_tmp slot_const slot_func slotL_v slotL_box slotL_ref put_some put_none updBox_c boxSet_box gd_eq slotVals_nil slotVals_c slotVals_b boxV_box boxOn_box slotsOn_nil slotsOn_c slotsOn_b resV_one resV_two vals_nil vals_c allOn_nil allOn_c partOn_nil partOn_c partVals_nil partVals_c fits_nil fits_c fillL_nil fillL_c mkv_one mkv_agg cellsV_agg cellsV_int cellsV_bool cellsV_slice cellsV_string cellsV_pointer cellsV_func cellsV_nilf cellsV_map one'_nil one'_c oc_int oc_bool oc_slice oc_string oc_pointer oc_func oc_nilf oc_map setC_eq iv_add iv_sub iv_mul iv_eql iv_neq iv_lss iv_leq iv_gtr iv_geq iok_add iok_sub iok_mul iok_eql iok_neq iok_lss iok_leq iok_gtr iok_geq pickV_bool args0_nil args0_c bnd_none bnd_some imp_bt imp_bf imp_ebt imp_ebf imp_eb1 imp_np imp_pp beq_tt beq_tf beq_ft beq_ff cond_or cond_and e_round e_meet Int.le_refl Int.toNat_zero decide_true decide_false Bool.or_false Bool.false_or Bool.true_or Bool.or_true Bool.and_false Bool.false_and Bool.bne_false Bool.bne_true beq_iff_eq Int.cast_ofNat_Int not_false_eq_true not_true_eq_false false_and and_false false_implies true_implies true_and and_true Bool.true_and Bool.and_true Bool.not_true Bool.not_false forall_const implies_true List.take_zero List.drop_zero List.take_succ_cons List.drop_succ_cons List.take_nil List.drop_nil List.length_cons List.length_nil List.nil_append List.append_nil List.cons_append Int.toNat_natCast decide_eq_true_eq decide_eq_false_iff_not cond_true cond_false and_self List.getElem?_cons_zero List.getElem?_cons_succ List.set_cons_zero List.set_cons_succ Option.some.injEq exists_eq_left' Nat.zero_add Nat.add_zero Nat.mul_one imp_self true_or or_true or_false false_or Bool.or_eq_true Bool.or_eq_false_iff Bool.and_eq_true Bool.and_eq_false_iff Bool.not_eq_true' Bool.not_eq_false'

instance : Sc Nat := ⟨fun x => .int .i64 (x : Int), fun _ => rfl, fun _ => rfl⟩
/-- a slice's header -/
structure Hd where
 A : Option Addr
 n : Nat
 c : Nat
def Hd.v (h : Hd) : Value := .slice h.A h.n h.c
instance : Sc Hd := ⟨Hd.v, fun _ => rfl, fun _ => rfl⟩
theorem SlOk.hd {h : Mem} {A : Option Addr} {c : Nat} {xs : List Hd} (q : SlOk h A c xs) {i : Nat} (hi : i < xs.length) :
  ∃ b o, A = some ⟨b, o, none⟩ ∧ ∀ Γ : Ctx, Mem.le h (lk Γ) → Cells Γ b (o + i) [.slice xs[i].A xs[i].n xs[i].c] := by
 obtain ⟨b, o, hA, cs, h1, h2⟩ := q.get hi
 obtain rfl := ok_sc h1
 exact ⟨b, o, hA, fun Γ h => by simpa [Rep.sz, Sc.enc, Hd.v] using h2 Γ h⟩
/-- headers, each of which leads to its list -/
def HdsOk {α : Type} [Rep α] (L : Mem) (hs : List Hd) (xss : List (List α)) : Prop := hs.length = xss.length ∧ ∀ (i : Nat) (h : Hd) (xs : List α), hs[i]? = some h → xss[i]? = some xs → h.n = xs.length ∧ SlOk L h.A h.c xs
theorem HdsOk.mono {α : Type} [Rep α] {L L' : Mem} {hs : List Hd} {xss : List (List α)} (h : HdsOk L hs xss) (hL : Mem.le L L') : HdsOk L' hs xss :=
 ⟨h.1, fun i x xs h1 h2 => let ⟨q1, q2⟩ := h.2 i x xs h1 h2; ⟨q1, q2.mono hL⟩⟩
theorem HdsOk.slok {α : Type} [Rep α] {L L1 L2 : Mem} {A : Option Addr} {c : Nat} {hs : List Hd} {xss : List (List α)} (h : SlOk L1 A c hs) (hx : HdsOk L2 hs xss) (h1 : Mem.le L1 L) (h2 : Mem.le L2 L) : SlOk L A c xss := by
 have hl := hx.1
 refine ⟨by rw [← hl]; exact h.cap, h.max, by rw [← hl]; exact h.short, ?_⟩
 rcases h.at' with q | ⟨b, o, cells, T, fr, hA, hb, hq⟩
 ·subst q
  exact .inl (List.eq_nil_of_length_eq_zero (by simpa using hl.symm))
 ·refine .inr ⟨b, o, cells, T, fr, hA, h1 _ _ hb, fun i xs hi => ?_⟩
  have hil : i < hs.length := by rw [hl]; exact (List.getElem?_eq_some_iff.1 hi).1
  obtain ⟨cs, q1, q2⟩ := hq i _ (List.getElem?_eq_getElem hil)
  obtain rfl := ok_sc q1
  obtain ⟨r1, r2⟩ := hx.2 i _ xs (List.getElem?_eq_getElem hil) hi
  refine ⟨[.slice hs[i].A hs[i].n hs[i].c], ⟨hs[i].A, hs[i].c, by rw [r1], r2.mono h2⟩, q2⟩
theorem HdsOk.snoc {α : Type} [Rep α] {L L' : Mem} {hs : List Hd} {xss : List (List α)} {h : Hd} {xs : List α} (hx : HdsOk L hs xss) (hL : Mem.le L L') (hn : h.n = xs.length) (hh : SlOk L' h.A h.c xs) : HdsOk L' (hs ++ [h]) (xss ++ [xs]) := by
 refine ⟨by simp [hx.1], fun i y ys h1 h2 => ?_⟩
 have hl := hx.1
 rcases Nat.lt_trichotomy i hs.length with q | q | q
 ·rw [List.getElem?_append_left q] at h1
  rw [List.getElem?_append_left (by omega)] at h2
  obtain ⟨r1, r2⟩ := hx.2 i y ys h1 h2
  exact ⟨r1, r2.mono hL⟩
 ·subst q
  have h2' : (xss ++ [xs])[xss.length]? = some ys := by rw [← hl]; exact h2
  simp at h1 h2'
  subst h1 h2'
  exact ⟨hn, hh⟩
 ·rw [List.getElem?_eq_none (by simp; omega)] at h1; cases h1
theorem HdsOk.set {α : Type} [Rep α] {L L' : Mem} {hs : List Hd} {xss : List (List α)} {h : Hd} {xs : List α} (i : Nat) (hx : HdsOk L hs xss) (hL : Mem.le L L') (hn : h.n = xs.length) (hh : SlOk L' h.A h.c xs) : HdsOk L' (hs.set i h) (xss.set i xs) := by
 refine ⟨by simp [hx.1], fun j y ys h1 h2 => ?_⟩
 by_cases e : j = i
 ·subst e
  have hj : j < hs.length := by simpa using (List.getElem?_eq_some_iff.1 h1).1
  have hj2 : j < xss.length := by rw [← hx.1]; exact hj
  rw [List.getElem?_set_self hj] at h1
  rw [List.getElem?_set_self hj2] at h2
  cases h1; cases h2
  exact ⟨hn, hh⟩
 ·rw [List.getElem?_set_ne (fun q => e q.symm)] at h1 h2
  obtain ⟨r1, r2⟩ := hx.2 j y ys h1 h2
  exact ⟨r1, r2.mono hL⟩
theorem HdsOk.made {α : Type} [Rep α] (L : Mem) (n : Nat) : HdsOk (α := α) L (List.replicate n ⟨none, 0, 0⟩) (List.replicate n []) := by
 refine ⟨by simp, fun i h xs h1 h2 => ?_⟩
 rw [List.getElem?_replicate] at h1 h2
 split at h1
 ·rename_i q
  rw [if_pos q] at h2
  cases h1; cases h2
  exact ⟨rfl, SlOk.nil⟩
 ·cases h1

/-! growing rows: each header's row is one of the heaps gs -/
def RowsG (gs : List PH) (hs : List Hd) (xss : List (List Nat)) : Prop := gs.length = xss.length ∧ hs.length = xss.length ∧ ∀ (i : Nat) (g : PH) (h : Hd) (xs : List Nat), gs[i]? = some g → hs[i]? = some h → xss[i]? = some xs → h.n = xs.length ∧ Bld g (lk []) 3 h.v xs
theorem RowsG.made (n : Nat) : RowsG (List.replicate n V.emp) (List.replicate n ⟨none, 0, 0⟩) (List.replicate n []) := by
 refine ⟨by simp, by simp, fun i g h xs h0 h1 h2 => ?_⟩
 rw [List.getElem?_replicate] at h0 h1 h2
 split at h1
 ·rename_i q
  rw [if_pos q] at h0 h2
  cases h0; cases h1; cases h2
  exact ⟨rfl, Bld.nil _ _ _⟩
 ·cases h1
theorem RowsG.put {gs : List PH} {hs : List Hd} {xss : List (List Nat)} (h : RowsG gs hs xss) {i : Nat} {g : PH} {y : Hd} {ys : List Nat} (hn : y.n = ys.length) (hb : Bld g (lk []) 3 y.v ys) : RowsG (gs.set i g) (hs.set i y) (xss.set i ys) := by
 refine ⟨by simp [h.1], by simp [h.2.1], fun j g' x xs h0 h1 h2 => ?_⟩
 by_cases e : j = i
 ·subst e
  have hj : j < hs.length := by simpa using (List.getElem?_eq_some_iff.1 h1).1
  have h3 := h.1
  have h4 := h.2.1
  rw [List.getElem?_set_self (by omega)] at h0 h1 h2
  cases h0; cases h1; cases h2
  exact ⟨hn, hb⟩
 ·rw [List.getElem?_set_ne (fun q => e q.symm)] at h0 h1 h2
  exact h.2.2 j g' x xs h0 h1 h2
theorem RowsG.at' {gs : List PH} {hs : List Hd} {xss : List (List Nat)} (h : RowsG gs hs xss) {i : Nat} (hi : i < xss.length) : ∃ g y, gs[i]? = some g ∧ hs[i]? = some y ∧ y.n = xss[i].length ∧ Bld g (lk []) 3 y.v xss[i] := by
 have h3 := h.1
 have h4 := h.2.1
 have h1 := h.2.2 i _ _ _ (List.getElem?_eq_getElem (by omega)) (List.getElem?_eq_getElem (by omega)) (List.getElem?_eq_getElem hi)
 exact ⟨_, _, List.getElem?_eq_getElem (by omega), List.getElem?_eq_getElem (by omega), h1.1, h1.2⟩
section
variable {P : Program} {Γr : Ctx} {d : Option Nat} {r : List SOper} {φ : Fr} {Γ : Ctx} {K : Fr → Ctx → Prop}
end
theorem Ent.emps (Γ : Ctx) : ∀ n, Ent Γ (List.replicate n V.emp ++ Γ)
 | 0 => Ent.refl Γ
 | n + 1 => (Ent.emps Γ n).trans (by rw [List.replicate_succ]; exact Ent.emp _)
theorem Up.perm {Γ Γ' : Ctx} {Φ : Ctx → Prop} (hp : Γ.Perm Γ') (h : Up Γ' Φ) : Up Γ Φ := fun ha => by
 obtain ⟨Γ2, q1, q2⟩ := h ((Ent.perm hp).apart ha)
 exact ⟨Γ2, (Ent.perm hp).trans q1, q2⟩
/- Rows of grids; no condition. -/
/-- grids, whose outer arrays are bs -/
def Cube {α : Type} [Sc α] (g : PH) (T e : TypeId) (bs : List Nat) (x3 : List (List (List α))) : Prop :=
 ∃ gs : List PH, gs.length = x3.length ∧ bs.length = x3.length ∧ gs.Pairwise Disj ∧ (∀ x ∈ gs, Mem.le (lk [x]) (lk [g])) ∧
  ∀ (i : Nat) (x : PH) (b : Nat) (rows : List (List α)), gs[i]? = some x → bs[i]? = some b → x3[i]? = some rows → Grid x b T e rows
theorem Cube.nil {α : Type} [Sc α] (g : PH) (T e : TypeId) : Cube g T e [] ([] : List (List (List α))) :=
 ⟨[], rfl, rfl, by simp, by simp, fun i x b rows h => by simp at h⟩
theorem Cube.mono {α : Type} [Sc α] {g g' : PH} {T e : TypeId} {bs : List Nat} {x3 : List (List (List α))} (h : Cube g T e bs x3) (hl : Mem.le (lk [g]) (lk [g'])) : Cube g' T e bs x3 := by
 obtain ⟨gs, h1, h2, h3, h4, h5⟩ := h
 exact ⟨gs, h1, h2, h3, fun x hx => (h4 x hx).trans hl, h5⟩
theorem Cube.snoc {α : Type} [Sc α] {g G x : PH} {T e : TypeId} {bs : List Nat} {x3 : List (List (List α))} {b : Nat} {rows : List (List α)} (h : Cube g T e bs x3) (hx : Grid x b T e rows) (hd : Disj g x) (hG : Mem.le (lk [g, x]) (lk [G])) : Cube G T e (bs ++ [b]) (x3 ++ [rows]) := by
 obtain ⟨gs, h1, h2, h3, h4, h5⟩ := h
 have hg : Mem.le (lk [g]) (lk [G]) := Mem.le.trans (lk_sub (by simp)) hG
 have hxG : Mem.le (lk [x]) (lk [G]) := Mem.le.trans (lk_sub (by simp)) hG
 refine ⟨gs ++ [x], by simp [h1], by simp [h2], List.pairwise_append.2 ⟨h3, by simp, fun y hy z hz => ?_⟩, fun y hy => ?_, fun i y b' rows' q1 q2 q3 => ?_⟩
 ·simp at hz
  subst hz
  intro k
  rcases hd k with q | q
  ·cases hyk : y k with
   | none => exact .inl rfl
   | some o =>
    have := lk_one.1 (h4 y hy k o (lk_one.2 hyk))
    rw [q] at this
    cases this
  ·exact .inr q
 ·rcases List.mem_append.1 hy with hy | hy
  ·exact (h4 y hy).trans hg
  ·simp at hy
   subst hy
   exact hxG
 ·rcases Nat.lt_trichotomy i x3.length with q | q | q
  ·rw [List.getElem?_append_left (by omega)] at q1 q2 q3
   exact h5 i y b' rows' q1 q2 q3
  ·subst q
   have e1 : (gs ++ [x])[gs.length]? = some y := by rw [h1]; exact q1
   have e2 : (bs ++ [b])[bs.length]? = some b' := by rw [h2]; exact q2
   simp at e1 e2 q3
   subst e1 e2 q3
   exact hx
  ·rw [List.getElem?_eq_none (by simp; omega)] at q3
   cases q3
/-- rows[i][p] is to be read or changed -/
theorem Cube.at' {α : Type} [Sc α] {g : PH} {T e : TypeId} {bs : List Nat} {x3 : List (List (List α))} (h : Cube g T e bs x3) {i p b : Nat} {rows : List (List α)} (hb : bs[i]? = some b) (hi : x3[i]? = some rows) (hp : p < rows.length) (hpos : 0 < rows[p].length) :
  ∃ k, (∀ Γ : Ctx, Mem.le (lk [g]) (lk Γ) → Cells Γ b p [.slice (some ⟨k, 0, none⟩) rows[p].length rows[p].length]) ∧ Arr g k e rows[p] ∧
   ∀ g' (xs : List α), Arr g' k e xs → xs.length = rows[p].length → (∀ x, x ≠ k → g' x = g x) → Cube g' T e bs (x3.set i (rows.set p xs)) := by
 obtain ⟨gs, h1, h2, h3, h4, h5⟩ := h
 have hil := (List.getElem?_eq_some_iff.1 hi).1
 obtain ⟨x, hx⟩ : ∃ x, gs[i]? = some x := ⟨_, List.getElem?_eq_getElem (by omega)⟩
 obtain ⟨k, q1, q2, q3⟩ := (h5 i x b rows hx hb hi).at' hp hpos
 have hxm := List.mem_of_getElem? hx
 have up : ∀ y ∈ gs, ∀ k o, y k = some o → g k = some o := fun y hy k o q => lk_one.1 (h4 y hy _ _ (lk_one.2 q))
 refine ⟨k, fun Γ hΓ => ?_, up x hxm _ _ q2, fun g' xs hA hl ho => ?_⟩
 ·obtain ⟨y, hy, cells, T', fr, r1, r2⟩ := q1 [x] (by simp)
  simp at hy
  subst hy
  obtain ⟨z, hz, r3⟩ := hΓ _ _ (h4 _ hxm _ _ (lk_one.2 r1))
  exact ⟨z, hz, cells, T', fr, r3, r2⟩
 ·have hdj : ∀ (j : Nat) (y : PH), j ≠ i → gs[j]? = some y → y k = none := fun j y hj hy => by
   have hjl := (List.getElem?_eq_some_iff.1 hy).1
   have hxl := (List.getElem?_eq_some_iff.1 hx).1
   have hy' := (List.getElem?_eq_some_iff.1 hy).2
   have hx' := (List.getElem?_eq_some_iff.1 hx).2
   rcases Nat.lt_or_ge j i with q | q
   ·have := List.pairwise_iff_getElem.1 h3 j i hjl hxl q k
    rw [hy', hx'] at this
    rcases this with w | w
    ·exact w
    ·rw [Arr] at q2; rw [q2] at w; cases w
   ·have := List.pairwise_iff_getElem.1 h3 i j hxl hjl (by omega) k
    rw [hy', hx'] at this
    rcases this with w | w
    ·rw [Arr] at q2; rw [q2] at w; cases w
    ·exact w
  have hgi := q3 (upd x k (.cells (xs.map Sc.enc).toArray e)) xs (upd_self _ _ _) hl (fun y hy => upd_other hy)
  have hxl := (List.getElem?_eq_some_iff.1 hx).1
  refine ⟨gs.set i (upd x k (.cells (xs.map Sc.enc).toArray e)), by simp [h1], by simp [h2], ?_, ?_, ?_⟩
  ·refine List.pairwise_iff_getElem.2 fun a b ha hb hab => ?_
   have ha' : a < gs.length := by simpa using ha
   have hb' : b < gs.length := by simpa using hb
   have base := List.pairwise_iff_getElem.1 h3 a b ha' hb' hab
   rw [List.getElem_set, List.getElem_set]
   by_cases ea : i = a
   ·subst ea
    rw [if_pos rfl, if_neg (by omega)]
    intro m
    by_cases em : m = k
    ·subst em
     exact .inr (hdj b _ (by omega) (List.getElem?_eq_getElem hb'))
    ·rw [upd_other em]
     have hx' := (List.getElem?_eq_some_iff.1 hx).2
     rw [hx'] at base
     exact base m
   ·rw [if_neg ea]
    by_cases eb : i = b
    ·subst eb
     rw [if_pos rfl]
     intro m
     by_cases em : m = k
     ·subst em
      exact .inl (hdj a _ (by omega) (List.getElem?_eq_getElem ha'))
     ·rw [upd_other em]
      have hx' := (List.getElem?_eq_some_iff.1 hx).2
      rw [hx'] at base
      exact base m
    ·rw [if_neg eb]
     exact base
  ·intro y hy
   obtain ⟨j, hj, rfl⟩ := List.getElem_of_mem hy
   have hj' : j < gs.length := by simpa using hj
   rw [List.getElem_set]
   intro m o hm
   have hm := lk_one.1 hm
   refine lk_one.2 ?_
   by_cases ej : i = j
   ·rw [if_pos ej] at hm
    by_cases em : m = k
    ·subst em
     rw [upd_self] at hm
     cases hm
     exact hA
    ·rw [upd_other em] at hm
     rw [ho m em]
     exact up x hxm _ _ hm
   ·rw [if_neg ej] at hm
    have em : m ≠ k := fun q => by
     subst q
     rw [hdj j _ (fun q => ej q.symm) (List.getElem?_eq_getElem hj')] at hm
     cases hm
    rw [ho m em]
    exact up _ (List.getElem_mem hj') _ _ hm
  ·intro j y b' rows' r1 r2 r3
   rw [List.getElem?_set] at r1 r3
   by_cases ej : i = j
   ·subst ej
    rw [if_pos rfl, if_pos (by omega)] at r1 r3
    cases r1; cases r3
    rw [hb] at r2
    cases r2
    exact hgi
   ·rw [if_neg ej] at r1 r3
    exact h5 j y b' rows' r1 r2 r3
theorem Cube.ne {α : Type} [Sc α] {g : PH} {T e : TypeId} {bs : List Nat} {x3 : List (List (List α))} (h : Cube g T e bs x3) {i b k : Nat} {rows : List (List α)} (hb : bs[i]? = some b) (hi : x3[i]? = some rows) (hTe : T ≠ e) {xs : List α} (hA : Arr g k e xs) : b ≠ k := by
 intro q
 subst q
 obtain ⟨gs, h1, h2, h3, h4, h5⟩ := h
 have hil := (List.getElem?_eq_some_iff.1 hi).1
 obtain ⟨x, hx⟩ : ∃ x, gs[i]? = some x := ⟨_, List.getElem?_eq_getElem (by omega)⟩
 obtain ⟨ps, hB, _⟩ := h5 i x b rows hx hb hi
 have := lk_one.1 (h4 x (List.mem_of_getElem? hx) _ _ (lk_one.2 hB.out))
 rw [Arr] at hA
 rw [hA] at this
 simp at this
 exact hTe this.2.symm
/-! a block is taken out of a heap, and put back -/
def del (g : PH) (k : Nat) : PH := fun x => if x = k then none else g x
theorem del_self (g : PH) (k : Nat) : del g k k = none := by simp [del]
theorem del_other {g : PH} {k x : Nat} (h : x ≠ k) : del g k x = g x := by simp [del, h]
theorem Ent.cut {g : PH} {k : Nat} {o : Obj} (h : g k = some o) : Ent [g] [one k o, del g k] := by
 refine ⟨fun x hx m o' hm => ⟨g, by simp, ?_⟩, fun _ => ?_⟩
 ·simp at hx
  rcases hx with rfl | rfl
  ·by_cases e : m = k
   ·subst e; rw [one_self] at hm; rw [h]; exact hm
   ·rw [one_none e] at hm; cases hm
  ·by_cases e : m = k
   ·subst e; rw [del_self] at hm; cases hm
   ·rw [del_other e] at hm; exact hm
 ·refine List.pairwise_cons.2 ⟨fun x hx m => ?_, by simp⟩
  simp at hx
  subst hx
  by_cases e : m = k
  ·subst e; exact .inr (del_self _ _)
  ·exact .inl (one_none e)
theorem Ent.mend {g x : PH} {k : Nat} {o : Obj} (hx : x k = some o) : Ent [x, del g k] [upd g k o] := by
 refine ⟨fun y hy m o' hm => ?_, fun _ => by simp⟩
 simp at hy
 subst hy
 by_cases e : m = k
 ·subst e; rw [upd_self] at hm; exact ⟨x, by simp, by rw [hx]; exact hm⟩
 ·rw [upd_other e] at hm; exact ⟨del g k, by simp, by rw [del_other e]; exact hm⟩
theorem lk_cut {g : PH} {k : Nat} {o : Obj} (h : g k = some o) : Mem.le (lk [g]) (lk [one k o, del g k]) := fun m o' hm => by
 have hm := lk_one.1 hm
 by_cases e : m = k
 ·subst e
  rw [h] at hm
  exact ⟨one m o, by simp, by rw [one_self]; exact hm⟩
 ·exact ⟨del g k, by simp, by rw [del_other e]; exact hm⟩
theorem Cells.del' {g : PH} {k b p : Nat} {vs : List Value} (h : Cells [g] b p vs) (hne : b ≠ k) {Γ : Ctx} (hΓ : del g k ∈ Γ) : Cells Γ b p vs := by
 obtain ⟨y, hy, cells, T', fr, r1, r2⟩ := h
 simp at hy
 subst hy
 exact ⟨_, hΓ, cells, T', fr, by rw [del_other hne]; exact r1, r2⟩
theorem cells_up {g : PH} {b o : Nat} {vs : List Value} (h : Cells [g] b o vs) {Γ : Ctx} (hl : Mem.le (lk [g]) (lk Γ)) : Cells Γ b o vs := by
 obtain ⟨y, hy, cells, T', fr, r1, r2⟩ := h
 simp at hy
 subst hy
 obtain ⟨z, hz, r3⟩ := hl _ _ (lk_one.2 r1)
 exact ⟨z, hz, cells, T', fr, r3, r2⟩
/- The text of (*parlance/census.table).sym as a statement; no condition. -/
def S207_0 : Stmt :=
 .seq
 (.region
 [oq 4 (.box true 39 (.tmp 1)),
 oq 6 (.mv (.const (.bool false)))]
 [0,2,4])
 (.seq
 (.seq
 (.region
 [oq 7 (.fld 0 (.tmp 4)),oq 8 (.load false 1 (.tmp 7))]
 [0,2,4,8])
 (.cond (.tmp 8)
 (.seq
 (.region
 [oq 9 (.mv (.tmp 2)),
 oq 10 (.ibin .eql (.tmp 9) (.const (.int .i64 1))),
 oq 6 (.mv (.tmp 10))]
 [6])
 .ret)
 .skip))
 (.seq
 (.quiet
 [oq 11 (.mv (.tmp 0)),oq 12 (.nilCheck (.tmp 11)),
 oq 13 (.fld 5 (.tmp 12)),
 oq 14 (.load false 1 (.tmp 13)),
 oq 15 (.fld 1 (.tmp 4)),
 oq 16 (.load false 1 (.tmp 15)),
 oq 17 (.idx 1 (.tmp 14) (.tmp 16)),
 oq 18 (.load false 1 (.tmp 17)),oq 19 (.mv (.tmp 2)),
 oq 20 (.idx 1 (.tmp 18) (.tmp 19)),
 oq 21 (.load false 1 (.tmp 20)),oq 6 (.mv (.tmp 21))]
 [6])
 .ret))
def S207 : FnS := ⟨22,[(6,none)],S207_0⟩
theorem tr207 : trFn Try.prog 207 [4] [[0,2,4],[0,2,4,8],[6],[6]] = some S207 := by kernel_rfl
/- The text of (*parlance/census.table).end as a statement; no condition. -/
def S186_1 : Stmt :=
 .seq
 (.region [oq 47 (.ibin .lss (.tmp 46) (.tmp 45))]
 [0,1,4,5,6,40,41,45,46,47])
 (.seq (.cond (.tmp 47) .skip (.exit 4))
 (.seq
 (.block 5
 (.seq
 (.region
 [oq 48 (.mv (.tmp 46)),oq 7 (.mv (.tmp 48))]
 [0,1,4,5,6,7,40,41,45,46])
 (.drawn
 [(false,oq 49 (.mv (.tmp 0))),
 (false,oq 50 (.nilCheck (.tmp 49))),
 (false,oq 51 (.fld 8 (.tmp 50))),
 (true,oq 52 (.load false 1 (.tmp 51))),
 (false,oq 53 (.mv (.tmp 1))),
 (false,oq 54 (.idx 1 (.tmp 52) (.tmp 53))),
 (true,oq 55 (.load false 1 (.tmp 54))),
 (false,oq 56 (.mv (.tmp 5))),
 (false,oq 57 (.idx 1 (.tmp 55) (.tmp 56))),
 (true,oq 58 (.load false 1 (.tmp 57))),
 (false,oq 59 (.mv (.tmp 6))),
 (false,oq 60 (.mv (.tmp 0))),
 (false,oq 61 (.nilCheck (.tmp 60))),
 (false,oq 62 (.fld 8 (.tmp 61))),
 (false,oq 63 (.load false 1 (.tmp 62))),
 (false,oq 64 (.mv (.tmp 1))),
 (false,oq 65 (.idx 1 (.tmp 63) (.tmp 64))),
 (false,oq 66 (.load false 1 (.tmp 65))),
 (false,oq 67 (.mv (.tmp 5))),
 (false,oq 68 (.idx 1 (.tmp 66) (.tmp 67))),
 (false,oq 69 (.load false 1 (.tmp 68))),
 (false,oq 70 (.mv (.tmp 6))),
 (false,oq 71 (.idx 1 (.tmp 69) (.tmp 70))),
 (false,oq 72 (.load false 1 (.tmp 71))),
 (false,oq 73 (.mv (.tmp 72))),
 (false,.mk (some 74) (some (73,false)) (.mv (.tmp 0))),
 (false,.mk (some 75) (some (73,false)) (.mv (.tmp 4))),
 (false,.mk (some 76) (some (73,false)) (.mv (.tmp 5))),
 (false,.mk (some 77) (some (73,false)) (.idx 2 (.tmp 75) (.tmp 76))),
 (false,.mk (some 78) (some (73,false)) (.load true 2 (.tmp 77))),
 (false,.mk (some 79) (some (73,false)) (.mv (.tmp 7))),
 (false,
 .mk (some 80) (some (73,false))
 (.call (.func 207) [.tmp 74,.tmp 78,.tmp 79])),
 (false,.mk (some 81) (some (73,false)) (.mv (.tmp 80))),
 (false,.mk (some 82) (some (81,true)) (.mv (.tmp 0))),
 (false,.mk (some 83) (some (81,true)) (.nilCheck (.tmp 82))),
 (false,.mk (some 84) (some (81,true)) (.fld 8 (.tmp 83))),
 (false,.mk (some 85) (some (81,true)) (.load false 1 (.tmp 84))),
 (false,.mk (some 86) (some (81,true)) (.mv (.tmp 1))),
 (false,.mk (some 87) (some (81,true)) (.idx 1 (.tmp 85) (.tmp 86))),
 (false,.mk (some 88) (some (81,true)) (.load false 1 (.tmp 87))),
 (false,.mk (some 89) (some (81,true)) (.mv (.tmp 5))),
 (false,
 .mk (some 90) (some (81,true))
 (.ibin .add (.tmp 89) (.const (.int .i64 1)))),
 (false,.mk (some 91) (some (81,true)) (.idx 1 (.tmp 88) (.tmp 90))),
 (false,.mk (some 92) (some (81,true)) (.load false 1 (.tmp 91))),
 (false,.mk (some 93) (some (81,true)) (.mv (.tmp 6))),
 (false,.mk (some 94) (some (81,true)) (.mv (.tmp 7))),
 (false,.mk (some 95) (some (81,true)) (.ibin .sub (.tmp 93) (.tmp 94))),
 (false,.mk (some 96) (some (81,true)) (.idx 1 (.tmp 92) (.tmp 95))),
 (false,.mk (some 97) (some (81,true)) (.load false 1 (.tmp 96))),
 (false,
 .mk (some 98) (some (73,false))
 (.pick (.tmp 81) (.tmp 97) (.const (.bool false)))),
 (false,
 oq 99 (.pick (.tmp 73) (.const (.bool true)) (.tmp 98))),
 (false,oq 100 (.idx 1 (.tmp 58) (.tmp 59))),
 (false,.mk none none (.store 1 (.tmp 100) (.tmp 99)))]
 [0,1,4,5,6,40,41,45,46])))
 (.region
 [oq 101 (.ibin .add (.tmp 46) (.const (.int .i64 1))),
 oq 46 (.mv (.tmp 101))]
 [0,1,4,5,6,40,41,45,46])))
def S186_2 : Stmt :=
 .seq
 (.region [oq 42 (.ibin .lss (.tmp 41) (.tmp 40))]
 [0,1,4,5,40,41,42])
 (.seq (.cond (.tmp 42) .skip (.exit 2))
 (.seq
 (.block 3
 (.seq
 (.region
 [oq 43 (.mv (.tmp 41)),oq 6 (.mv (.tmp 43))]
 [0,1,4,5,6,40,41])
 (.seq
 (.region
 [oq 44 (.mv (.tmp 6)),
 oq 45 (.ibin .add (.tmp 44) (.const (.int .i64 1))),
 oq 46 (.mv (.const (.int .i64 0)))]
 [0,1,4,5,6,40,41,45,46])
 (.block 4 (.loop S186_1 [46] [0,1,4,5,6,40,41,45])))))
 (.region
 [oq 102 (.ibin .add (.tmp 41) (.const (.int .i64 1))),
 oq 41 (.mv (.tmp 102))]
 [0,1,4,5,40,41])))
def S186_3 : Stmt :=
 .seq
 (.seq
 (.region
 [oq 32 (.mv (.tmp 5)),
 oq 33 (.ibin .geq (.tmp 32) (.const (.int .i64 0)))]
 [0,1,4,5,33])
 (.cond (.tmp 33) .skip (.exit 0)))
 (.seq
 (.block 1
 (.seq
 (.region
 [oq 36 (.mv (.tmp 0)),oq 37 (.nilCheck (.tmp 36)),
 oq 38 (.fld 4 (.tmp 37)),
 oq 39 (.load false 1 (.tmp 38)),
 oq 40 (.ibin .add (.tmp 39) (.const (.int .i64 1))),
 oq 41 (.mv (.const (.int .i64 0)))]
 [0,1,4,5,40,41])
 (.block 2 (.loop S186_2 [41] [0,1,4,5,40]))))
 (.region
 [oq 34 (.mv (.tmp 5)),
 oq 35 (.ibin .sub (.tmp 34) (.const (.int .i64 1))),
 oq 5 (.mv (.tmp 35))]
 [0,1,4,5]))
def S186_0 : Stmt :=
 .seq
 (.region
 [oq 8 (.mv (.tmp 0)),oq 9 (.nilCheck (.tmp 8)),
 oq 10 (.fld 0 (.tmp 9)),oq 11 (.fld 3 (.tmp 10)),
 oq 12 (.load false 1 (.tmp 11)),oq 13 (.mv (.tmp 1)),
 oq 14 (.idx 2 (.tmp 12) (.tmp 13)),
 oq 15 (.fld 1 (.tmp 14)),oq 16 (.load false 1 (.tmp 15)),
 oq 4 (.mv (.tmp 16))]
 [0,1,4])
 (.seq
 (.region
 [oq 17 (.mv (.tmp 0)),oq 18 (.nilCheck (.tmp 17)),
 oq 19 (.fld 8 (.tmp 18)),
 oq 20 (.load false 1 (.tmp 19)),oq 21 (.mv (.tmp 1)),
 oq 22 (.idx 1 (.tmp 20) (.tmp 21)),
 oq 23 (.load false 1 (.tmp 22)),oq 24 (.mv (.tmp 4)),
 oq 25 (.len false (.tmp 24)),
 oq 26 (.idx 1 (.tmp 23) (.tmp 25)),
 oq 27 (.load false 1 (.tmp 26)),
 oq 28 (.idx 1 (.tmp 27) (.const (.int .i64 0))),
 .mk none none (.store 1 (.tmp 28) (.const (.bool true)))]
 [0,1,4])
 (.seq
 (.region
 [oq 29 (.mv (.tmp 4)),oq 30 (.len false (.tmp 29)),
 oq 31 (.ibin .sub (.tmp 30) (.const (.int .i64 1))),
 oq 5 (.mv (.tmp 31))]
 [0,1,4,5])
 (.block 0 (.loop S186_3 [5] [0,1,4]))))
def S186 : FnS := ⟨103,[],S186_0⟩
theorem tr186 : trFn Try.prog 186 [] [[0,1,4],[0,1,4],[0,1,4,5],[5],[0,1,4],[0,1,4,5,33],[0,1,4,5,40,41],[41],[0,1,4,5,40],[0,1,4,5,40,41,42],[0,1,4,5,6,40,41],[0,1,4,5,6,40,41,45,46],[46],[0,1,4,5,6,40,41,45],[0,1,4,5,6,40,41,45,46,47],[0,1,4,5,6,7,40,41,45,46],[0,1,4,5,6,40,41,45,46],[0,1,2,3,4,5,6,7,8,9,10,11,12,13,14,15,16,17,18,19,20,21,22,23,24,25,26,27,28,29,30,31,32,33,34,35,36,37,38,39,40,41,42,43,44,45,46,47,48,49,50,51,52],[3,6,9],[],[0],[0,1],[0,1,2],[],[0,1,2,3,4],[0,1,2,3,4,5],[],[0,1,2,3,4,5,6,7],[0,1,2,3,4,5,6,7,8],[],[],[11],[11,12],[11,12,13],[],[11,12,13,14,15],[11,12,13,14,15,16],[],[11,12,13,14,15,16,17,18],[11,12,13,14,15,16,17,18,19],[],[11,12,13,14,15,16,17,18,19,20,21],[11,12,13,14,15,16,17,18,19,20,21,22],[11,12,13,14,15,16,17,18,19,20,21,22,23],[11,12,13,14,15,16,17,18,19,20,21,22,23,24],[11,12,13,14,15,16,17,18,19,20,21,22,23,24],[11,12,13,14,15,16,17,18,19,20,21,22,23,24],[11,12,13,14,15,16,17,18,19,20,21,22,23,24,26,27],[11,12,13,14,15,16,17,18,19,20,21,22,23,24,26,27,28],[11,12,13,14,15,16,17,18,19,20,21,22,23,24],[11,12,13,14,15,16,17,18,19,20,21,22,23,24,25,26,27,28,29,30],[11,12,13,14,15,16,17,18,19,20,21,22,23,24,25,26,27,28,29,30,31],[11,12,13,14,15,16,17,18,19,20,21,22,23,24,25,26,27,28,29,30,31,32],[11,12,13,14,15,16,17,18,19,20,21,22,23,24,25,26,27,28,29,30,31,32,33],[11,12,13,14,15,16,17,18,19,20,21,22,23,24,25,26,27,28,29,30,31,32,33,34],[11,12,13,14,15,16,17,18,19,20,21,22,23,24,25,26,27,28,29,30,31,32,33,34,35],[11,12,13,14,15,16,17,18,19,20,21,22,23,24,25,26,27,28,29,30,31,32],[11,12,13,14,15,16,17,18,19,20,21,22,23,24,25,26,27,28,29,30,31,32,33,34,35,36,37],[11,12,13,14,15,16,17,18,19,20,21,22,23,24,25,26,27,28,29,30,31,32,33,34,35,36,37,38],[11,12,13,14,15,16,17,18,19,20,21,22,23,24,25,26,27,28,29,30,31,32],[11,12,13,14,15,16,17,18,19,20,21,22,23,24,25,26,27,28,29,30,31,32,40],[11,12,13,14,15,16,17,18,19,20,21,22,23,24,25,26,27,28,29,30,31,32,33,34,35,36,37,38,39,40,41],[11,12,13,14,15,16,17,18,19,20,21,22,23,24,25,26,27,28,29,30,31,32,33,34,35,36,37,38,39,40,41,42],[11,12,13,14,15,16,17,18,19,20,21,22,23,24,25,26,27,28,29,30,31,32],[11,12,13,14,15,16,17,18,19,20,21,22,23,24,25,26,27,28,29,30,31,32],[11,12,13,14,15,16,17,18,19,20,21,22,23,24,25,26,27,28,29,30,31,32,44,45],[11,12,13,14,15,16,17,18,19,20,21,22,23,24,25,26,27,28,29,30,31,32,33,34,35,36,37,38,39,40,41,42,43,44,45,46],[11,12,13,14,15,16,17,18,19,20,21,22,23,24,25,26,27,28,29,30,31,32,33,34,35,36,37,38,39,40,41,42,43,44,45,46,47],[11,12,13,14,15,16,17,18,19,20,21,22,23,24,25,26,27,28,29,30,31,32,33,34,35,36,37,38,39,40,41,42,43,44,45,46,47,48],[11,12,13,14,15,16,17,18,19,20,21,22,23,24,25,26,27,28,29,30,31,32,33,34,35,36,37,38,39,40,41,42,43,44,45,46,47,48,49],[0,1,2,3,4,5,6,7,8,9,10,11,12,13,14,15,16,17,18,19,20,21,22,23,24,25,26,27,28,29,30,31,32,33,34,35,36,37,38,39,40,41,42,43,44,45,46,47,48,49,50],[0,1,2,3,4,5,6,7,8,9,10,11,12,13,14,15,16,17,18,19,20,21,22,23,24,25,26,27,28,29,30,31,32,33,34,35,36,37,38,39,40,41,42,43,44,45,46,47,48,49,50,51],[0,1,4,5,6,40,41,45,46],[0,1,4,5,40,41],[0,1,4,5]] = some S186 := by kernel_rfl
/- census: the table, sym, end walked; no condition. -/
/-- where the parts of a table lie -/
structure Tb where
 b : Nat
 bh : Nat
 bl : Nat
 bk : Nat
 Ae : Option Addr
 ce : Nat
 be : List Nat
 Aw : Option Addr
 cw : Nat
 bw : List Nat
/-- headers of grids, one for each rule -/
def hdG (bs : List Nat) (g : Gr) : List Hd := List.zipWith (fun b (r : Ru) => ⟨some ⟨b, 0, none⟩, r.r.length + 1, r.r.length + 1⟩) bs g.rs
theorem hdG_len {bs : List Nat} {g : Gr} (h : bs.length = g.rs.length) : (hdG bs g).length = g.rs.length := by simp [hdG, h]
theorem hdG_at {bs : List Nat} {g : Gr} {i : Nat} {b : Nat} {r : Ru} (hb : bs[i]? = some b) (hr : g.rs[i]? = some r) : (hdG bs g)[i]? = some ⟨some ⟨b, 0, none⟩, r.r.length + 1, r.r.length + 1⟩ := by
 simp [hdG, List.getElem?_zipWith, hb, hr]
def Tb.cells (t : Tb) (g : Gr) (n : Nat) (R : Option Addr) (cR : Nat) (e w : Nat) : List Value :=
 [.int .i64 g.ts, .int .i64 g.ns, .int .i64 g.st, .slice R g.rs.length cR, .int .i64 (n : Int), .slice (some ⟨t.bh, 0, none⟩) g.ns.toNat g.ns.toNat, .slice (some ⟨t.bl, 0, none⟩) g.ns.toNat g.ns.toNat, .slice (some ⟨t.bk, 0, none⟩) g.ns.toNat g.ns.toNat, .slice t.Ae e t.ce, .slice t.Aw w t.cw]
/-- what of a table does not change -/
structure TabK (L : Mem) (t : Tb) (g : Gr) (n : Nat) (R : Option Addr) (cR : Nat) : Prop where
 out : L t.b (.cells (t.cells g n R cR g.rs.length g.rs.length).toArray 245 (0, 0))
 rs : SlOk L R cR g.rs
 ends : SlOk L t.Ae t.ce (hdG t.be g)
 ways : SlOk L t.Aw t.cw (hdG t.bw g)
 be : t.be.length = g.rs.length
 bw : t.bw.length = g.rs.length
theorem TabK.mono {L L' : Mem} {t : Tb} {g : Gr} {n : Nat} {R : Option Addr} {cR : Nat} (h : TabK L t g n R cR) (hl : Mem.le L L') : TabK L' t g n R cR :=
 ⟨hl _ _ h.out, h.rs.mono hl, h.ends.mono hl, h.ways.mono hl, h.be, h.bw⟩
/-- so many rows of so many -/
def Shp {α : Type} (a b : Nat) (rows : List (List α)) : Prop := rows.length = a ∧ ∀ r ∈ rows, r.length = b
theorem Shp.at' {α : Type} {a b : Nat} {rows : List (List α)} (h : Shp a b rows) {i : Nat} (hi : i < rows.length) : rows[i].length = b := h.2 _ (List.getElem_mem hi)
def symB (H : List (List Bool)) (s : Sy) (k : Nat) : Bool := if s.t then decide (k = 1) else mat H s.n.toNat k
theorem tab_sym {Γr : Ctx} {t : Tb} {g : Gr} {n : Nat} {R : Option Addr} {cR : Nat} (hT : TabK (lk Γr) t g n R cR) {H : List (List Bool)} (hH : SlOk (lk Γr) (some ⟨t.bh, 0, none⟩) g.ns.toNat H) (hS : Shp g.ns.toNat (n + 1) H) {s : Sy}
  (hs : s.t = false → 0 ≤ s.n ∧ s.n < g.ns) {k : Nat} (hk : k ≤ n) (hn : n ≤ 24) :
  Ret Try.prog 207 [.pointer (some ⟨t.b, 0, none⟩), .agg #[.bool s.t, .int .i64 s.n], .int .i64 (k : Int)] Γr [] (fun v Γ => Γ = [] ∧ v = .bool (symB H s k)) := by
 generalize hR : (fun (v : Value) (Γ : Ctx) => Γ = [] ∧ v = Value.bool (symB H s k)) = R'
 refine ret_of_vc tr207 (Nat.le_of_ble_eq_true rfl) ?_
 obtain ⟨st, sn⟩ := s
 cases st with
 | true =>
  simp -implicitDefEqProofs only [S207, S207_0, go_sem,zA,zB,zC,zD,zE,reduceCtorEq,↓reduceIte,zF,zG,zH,zI]
  refine Up.here ?_
  subst hR
  refine ⟨rfl, ?_⟩
  have : ((k : Int) = 1) ↔ k = 1 := by omega
  simp [symB, this]
 | false =>
  have hs : 0 ≤ sn ∧ sn < g.ns := hs rfl
  simp -implicitDefEqProofs only [S207, S207_0, go_sem,zA,zB,zC,zD,zE,reduceCtorEq,↓reduceIte,zF,zG,zH,zI]
  intro b
  refine s_ld (j := 5) (cells_lk hT.out) (by simp [Tb.cells]) (by simp) ?_
  simp -implicitDefEqProofs only [Tb.cells, go_sem,zA,zB,zC,zD,zE,reduceCtorEq,↓reduceIte,zF,zG,zH,zI]
  have hHl := hS.1
  obtain ⟨a, ha⟩ : ∃ a : Nat, sn = a := ⟨sn.toNat, by omega⟩
  subst ha
  obtain ⟨b1, o1, h1, A1, c1, hr1, hc1⟩ := hH.list (i := a) (by omega)
  have hrl := hS.at' (i := a) (by omega)
  refine s_idx h1 (by omega) (by omega) ?_
  simp -implicitDefEqProofs only [go_sem,zA,zB,zC,zD,zE,reduceCtorEq,↓reduceIte,zF,zG,zH,zI]
  refine s_ld0 (hc1 _ (lk_r [] _)) (by simp) (by simp) ?_
  simp -implicitDefEqProofs only [go_sem,zA,zB,zC,zD,zE,reduceCtorEq,↓reduceIte,zF,zG,zH,zI]
  obtain ⟨b2, o2, h2, hc2⟩ := hr1.bool (i := k) (by omega)
  refine s_idx h2 (by omega) (by omega) ?_
  simp -implicitDefEqProofs only [go_sem,zA,zB,zC,zD,zE,reduceCtorEq,↓reduceIte,zF,zG,zH,zI]
  refine s_ld0 (hc2 _ (lk_r [] _)) (by simp) (by simp) ?_
  simp -implicitDefEqProofs only [go_sem,zA,zB,zC,zD,zE,reduceCtorEq,↓reduceIte,zF,zG,zH,zI]
  refine Up.here ?_
  subst hR
  refine ⟨rfl, ?_⟩
  have ha : a < H.length := by omega
  simp [symB, mat, ha, hrl, hk, Nat.lt_succ_of_le]
/-- there are trees of the symbols with k terminals, by what H has -/
def RowH (H : List (List Bool)) : List Sy → Nat → Prop
 | [], k => k = 0
 | s :: l, k => ∃ j, j ≤ k ∧ symB H s j = true ∧ RowH H l (k - j)
def MonoH (H H' : List (List Bool)) : Prop := ∀ a k, mat H a k = true → mat H' a k = true
theorem symB_mono {H H' : List (List Bool)} (h : MonoH H H') {s : Sy} {k : Nat} (q : symB H s k = true) : symB H' s k = true := by
 unfold symB at q ⊢
 split at q
 ·rename_i e; rw [if_pos e]; exact q
 ·rename_i e; rw [if_neg e]; exact h _ _ q
theorem RowH.mono {H H' : List (List Bool)} (h : MonoH H H') : ∀ {l : List Sy} {k : Nat}, RowH H l k → RowH H' l k
 | [], _, q => q
 | s :: l, k, ⟨j, h1, h2, h3⟩ => ⟨j, h1, symB_mono h h2, RowH.mono h h3⟩
/-- the rows of ends of a rule: what is told is so -/
def EndS (H : List (List Bool)) (l : List Sy) (rows : List (List Bool)) : Prop := ∀ p k, p ≤ l.length → mat rows p k = true → RowH H (l.drop p) k
/-- from p on all is told -/
def EndC (H : List (List Bool)) (n : Nat) (l : List Sy) (rows : List (List Bool)) (p0 : Nat) : Prop := ∀ p k, p0 ≤ p → p ≤ l.length → k ≤ n → RowH H (l.drop p) k → mat rows p k = true
theorem mat_setS {w : List (List Bool)} {a b : Nat} (h : Shp a b w) {x y : Nat} (hx : x < a) (hy : y < b) (v : Bool) (x' y' : Nat) : mat (w.set x ((w.getD x []).set y v)) x' y' = if x' = x ∧ y' = y then v else mat w x' y' := by
 have hl := h.1
 have hr := h.at' (i := x) (by omega)
 by_cases e : x' = x
 ·subst e
  simp only [mat, List.getD_eq_getElem?_getD, List.getElem?_set_self (show x' < w.length by omega), Option.getD_some]
  rw [List.getElem?_eq_getElem (show x' < w.length by omega)]
  simp only [Option.getD_some, List.getElem?_set]
  by_cases e' : y = y'
  ·subst e'
   simp [hr, hy]
  ·have : ¬ y' = y := fun q => e' q.symm
   simp [e', this]
 ·have e'' : ¬ x = x' := fun q => e q.symm
  simp [mat, List.getD_eq_getElem?_getD, List.getElem?_set, e, e'']
theorem Shp.set {α : Type} {a b : Nat} {w : List (List α)} (h : Shp a b w) (x : Nat) {r : List α} (hr : r.length = b) : Shp a b (w.set x r) := by
 refine ⟨by simp [h.1], fun q hq => ?_⟩
 rcases List.mem_or_eq_of_mem_set hq with q1 | q1
 ·exact h.2 _ q1
 ·rw [q1]; exact hr
structure EndI (H : List (List Bool)) (n : Nat) (l : List Sy) (rows0 rows : List (List Bool)) : Prop where
 shp : Shp (l.length + 1) (n + 1) rows
 snd : EndS H l rows
 mono : ∀ p k, mat rows0 p k = true → mat rows p k = true
theorem EndI.put {H : List (List Bool)} {n : Nat} {l : List Sy} {rows0 rows : List (List Bool)} (h : EndI H n l rows0 rows) {p k : Nat} (hp : p ≤ l.length) (hk : k ≤ n) {v : Bool} (hv : v = true → RowH H (l.drop p) k) (hm : mat rows p k = true → v = true) {row : List Bool} (hrow : rows[p]? = some row) :
  EndI H n l rows0 (rows.set p (row.set k v)) ∧ ∀ x y, mat (rows.set p (row.set k v)) x y = if x = p ∧ y = k then v else mat rows x y := by
 have hl := h.shp.1
 have e : rows.getD p [] = row := by simp [List.getD_eq_getElem?_getD, hrow]
 have hmat := mat_setS h.shp (x := p) (y := k) (by omega) (by omega) v
 rw [e] at hmat
 have hrl : row.length = n + 1 := h.shp.2 _ (List.mem_of_getElem? hrow)
 refine ⟨⟨h.shp.set p (by simp [hrl]), fun x y hx q => ?_, fun x y q => ?_⟩, hmat⟩
 ·rw [hmat] at q
  split at q
  ·rename_i e; obtain ⟨rfl, rfl⟩ := e; exact hv q
  ·exact h.snd x y hx q
 ·rw [hmat]
  split
  ·rename_i e; obtain ⟨rfl, rfl⟩ := e; exact hm (h.mono _ _ q)
  ·exact h.mono x y q
theorem mat_get {rows : List (List Bool)} {p k : Nat} {row : List Bool} (hr : rows[p]? = some row) (hk : k < row.length) : mat rows p k = row[k] := by
 simp [mat, List.getD_eq_getElem?_getD, hr, hk]
theorem tab_end {Γr : Ctx} {t : Tb} {g : Gr} (V : VG g) {n : Nat} {R : Option Addr} {cR : Nat} (hT : TabK (lk Γr) t g n R cR) {H : List (List Bool)} (hH : SlOk (lk Γr) (some ⟨t.bh, 0, none⟩) g.ns.toNat H) (hS : Shp g.ns.toNat (n + 1) H) (hn : n ≤ 24)
  {ge : PH} {E : List (List (List Bool))} (hE : Cube ge 22 4 t.be E) {i : Nat} (hi : i < g.rs.length) {rows : List (List Bool)} (hEi : E[i]? = some rows) (hSr : Shp (g.rs[i].r.length + 1) (n + 1) rows) (hSo : EndS H g.rs[i].r rows) :
  Ret Try.prog 186 [.pointer (some ⟨t.b, 0, none⟩), .int .i64 (i : Int)] Γr [ge] (fun v Γ => ∃ ge' rows', Γ = [ge'] ∧ Cube ge' 22 4 t.be (E.set i rows') ∧ Shp (g.rs[i].r.length + 1) (n + 1) rows' ∧ EndS H g.rs[i].r rows' ∧ EndC H n g.rs[i].r rows' 0 ∧ ∀ p k, mat rows p k = true → mat rows' p k = true) := by
 generalize hR : (fun (v : Value) (Γ : Ctx) => ∃ ge' rows', _) = R'
 refine ret_of_vc tr186 (Nat.le_of_ble_eq_true rfl) ?_
 simp -implicitDefEqProofs only [S186, S186_0, go_sem,zA,zB,zC,zD,zE,reduceCtorEq,↓reduceIte,zF,zG,zH,zI]
 have hvl := V.len
 have hr4 := V.right _ (List.getElem_mem hi)
 have hsym := V.sym _ (List.getElem_mem hi)
 obtain ⟨b0, o0, h0, A1, c1, hr1, hc1⟩ := hT.rs.ru hi
 have hsh := hT.rs.short
 have hdl := hdG_len hT.be
 obtain ⟨be, hbe⟩ : ∃ be, t.be[i]? = some be := ⟨_, List.getElem?_eq_getElem (by rw [hT.be]; exact hi)⟩
 have hhd := hdG_at hbe (List.getElem?_eq_getElem hi)
 obtain ⟨b2, o2, h2, hc2⟩ := hT.ends.hd (i := i) (by omega)
 rw [(List.getElem?_eq_some_iff.1 hhd).2] at hc2
 generalize g.rs[i].r = l at *
 refine s_ld (j := 3) (cells_lk (lk_r [ge] _ _ _ hT.out)) (by simp [Tb.cells]) (by simp) ?_
 simp -implicitDefEqProofs only [Tb.cells, go_sem,zA,zB,zC,zD,zE,reduceCtorEq,↓reduceIte,zF,zG,zH,zI]
 refine s_idx h0 (by omega) (by omega) ?_
 simp -implicitDefEqProofs only [go_sem,zA,zB,zC,zD,zE,reduceCtorEq,↓reduceIte,zF,zG,zH,zI]
 refine s_ld (j := 1) (by simpa using hc1 _ (lk_r [ge] _)) (by simp) (by simp) ?_
 simp -implicitDefEqProofs only [go_sem,zA,zB,zC,zD,zE,reduceCtorEq,↓reduceIte,zF,zG,zH,zI]
 have hrows : rows.length = l.length + 1 := hSr.1
 obtain ⟨kp, hcp, hAp, hsp⟩ := hE.at' hbe hEi (p := l.length) (by omega) (by rw [hSr.at' (by omega)]; omega)
 rw [hSr.at' (by omega)] at hcp
 refine s_ld (j := 8) (cells_lk (lk_r [ge] _ _ _ hT.out)) (by simp [Tb.cells]) (by simp) ?_
 simp -implicitDefEqProofs only [Tb.cells, go_sem,zA,zB,zC,zD,zE,reduceCtorEq,↓reduceIte,zF,zG,zH,zI]
 refine s_idx h2 (by omega) (by omega) ?_
 simp -implicitDefEqProofs only [go_sem,zA,zB,zC,zD,zE,reduceCtorEq,↓reduceIte,zF,zG,zH,zI]
 refine s_ld0 (hc2 _ (lk_r [ge] _)) (by simp) (by simp) ?_
 simp -implicitDefEqProofs only [go_sem,zA,zB,zC,zD,zE,reduceCtorEq,↓reduceIte,zF,zG,zH,zI]
 refine s_idx rfl (by omega) (by omega) ?_
 simp -implicitDefEqProofs only [go_sem,zA,zB,zC,zD,zE,reduceCtorEq,↓reduceIte,zF,zG,zH,zI]
 refine s_ld0 (by simpa using hcp _ (lk_l [ge] _)) (by simp) (by simp) ?_
 simp -implicitDefEqProofs only [go_sem,zA,zB,zC,zD,zE,reduceCtorEq,↓reduceIte,zF,zG,zH,zI]
 refine s_idx rfl (by omega) (by omega) ?_
 simp -implicitDefEqProofs only [go_sem,zA,zB,zC,zD,zE,reduceCtorEq,↓reduceIte,zF,zG,zH,zI]
 refine s_storeA (ix := 0) (α := Bool) true rfl hAp (i := 0) (by rw [hSr.at' (by omega)]; omega) ?_
 intro ge1 hA1 ho1
 have hE1 := hsp ge1 _ hA1 (by simp) ho1
 have hI0 : EndI H n l rows rows := ⟨hSr, hSo, fun _ _ h => h⟩
 obtain ⟨hI1, hm1⟩ := hI0.put (p := l.length) (k := 0) (v := true) (Nat.le_refl _) (by omega) (fun _ => by rw [List.drop_length]; rfl) (fun _ => rfl) (List.getElem?_eq_getElem (by omega))
 have hC1 : EndC H n l (rows.set l.length (rows[l.length].set 0 true)) l.length := fun p k h1 h2 h3 h4 => by
  have : p = l.length := by omega
  subst this
  rw [List.drop_length] at h4
  have h4 : k = 0 := h4
  subst h4
  rw [hm1]
  simp
 generalize rows.set l.length (rows[l.length].set 0 true) = rows1 at hE1 hI1 hC1
 clear hm1 hI0 hA1 ho1 hsp hAp hcp
 simp -implicitDefEqProofs only [go_sem,zA,zB,zC,zD,zE,reduceCtorEq,↓reduceIte,zF,zG,zH,zI]
 simp (disch := omega) only [wrap_id]
 refine s_loop (fun f vs Γ => ∃ (ge : PH) (rows' : List (List Bool)), vs = [.v true (.int .i64 ((f : Int) - 1))] ∧ Γ = [ge] ∧ f ≤ l.length ∧ Cube ge 22 4 t.be (E.set i rows') ∧ EndI H n l rows rows' ∧ EndC H n l rows' f) l.length
  (Up.here ⟨ge1, rows1, rfl, rfl, Nat.le_refl _, hE1, hI1, hC1⟩) ?_
 clear hE1 hI1 hC1
 rintro f vs Γ ⟨ge, rows1, rfl, rfl, hfl, hE1, hI1, hC1⟩
 simp -implicitDefEqProofs only [S186_3, go_sem,zA,zB,zC,zD,zE,reduceCtorEq,↓reduceIte,zF,zG,zH,zI]
 refine ⟨fun hlt => ?_, fun hge => ?_⟩
 ·obtain ⟨p, rfl⟩ : ∃ p, f = p + 1 := ⟨f - 1, by omega⟩
  have hpe : ((p + 1 : Nat) : Int) - 1 = (p : Int) := by omega
  rw [hpe]
  have hp : p < l.length := by omega
  have hs := hsym _ (List.getElem_mem hp)
  obtain ⟨b3, o3, h3, hc3⟩ := hr1.sy hp
  have hdrop : l.drop p = l[p] :: l.drop (p + 1) := List.drop_eq_getElem_cons hp
  generalize l[p] = s at *
  refine s_ld (j := 4) (cells_lk (lk_r [ge] _ _ _ hT.out)) (by simp [Tb.cells]) (by simp) ?_
  simp -implicitDefEqProofs only [Tb.cells, go_sem,zA,zB,zC,zD,zE,reduceCtorEq,↓reduceIte,zF,zG,zH,zI]
  simp (disch := omega) only [wrap_id]
  refine s_loop (fun f2 vs Γ => ∃ (ge : PH) (rows' : List (List Bool)) (k : Nat), vs = [.v true (.int .i64 (k : Int))] ∧ Γ = [ge] ∧ k + f2 = n + 1 ∧ Cube ge 22 4 t.be (E.set i rows') ∧ EndI H n l rows rows' ∧ EndC H n l rows' (p + 1) ∧ ∀ k', k' < k → RowH H (l.drop p) k' → mat rows' p k' = true) (n + 1)
   (Up.here ⟨ge, rows1, 0, rfl, rfl, by omega, hE1, hI1, hC1, fun k' h => by omega⟩) ?_
  clear hE1 hI1 hC1
  rintro f2 vs Γ ⟨ge, rows1, k, rfl, rfl, hkf, hE1, hI1, hC1, hY1⟩
  simp -implicitDefEqProofs only [S186_2, go_sem,zA,zB,zC,zD,zE,reduceCtorEq,↓reduceIte,zF,zG,zH,zI]
  refine ⟨fun hlt => ?_, fun hge => ?_⟩
  ·have hk : k ≤ n := by omega
   simp (disch := omega) only [wrap_id]
   refine s_loop (fun f3 vs Γ => ∃ (ge : PH) (rows' : List (List Bool)) (j : Nat), vs = [.v true (.int .i64 (j : Int))] ∧ Γ = [ge] ∧ j + f3 = k + 1 ∧ Cube ge 22 4 t.be (E.set i rows') ∧ EndI H n l rows rows' ∧ EndC H n l rows' (p + 1) ∧ (∀ k', k' < k → RowH H (l.drop p) k' → mat rows' p k' = true) ∧ ∀ j', j' < j → symB H s j' = true → RowH H (l.drop (p + 1)) (k - j') → mat rows' p k = true) (k + 1)
    (Up.here ⟨ge, rows1, 0, rfl, rfl, by omega, hE1, hI1, hC1, hY1, fun j' h => by omega⟩) ?_
   clear hE1 hI1 hC1 hY1
   rintro f3 vs Γ ⟨ge, rows1, j, rfl, rfl, hjf, hE1, hI1, hC1, hY1, hZ1⟩
   simp -implicitDefEqProofs only [S186_1, go_sem,zA,zB,zC,zD,zE,reduceCtorEq,↓reduceIte,zF,zG,zH,zI]
   refine ⟨fun hlt => ?_, fun hge => ?_⟩
   ·have hj : j ≤ k := by omega
    have hrl : rows1.length = l.length + 1 := hI1.shp.1
    have hpl := hI1.shp.at' (i := p) (by omega)
    have hql := hI1.shp.at' (i := p + 1) (by omega)
    have hEi1 : (E.set i rows1)[i]? = some rows1 := by rw [List.getElem?_set_self (List.getElem?_eq_some_iff.1 hEi).1]
    obtain ⟨kp, hcp, hAp, hsp⟩ := hE1.at' hbe hEi1 (p := p) (by omega) (by omega)
    obtain ⟨kq, hcq, hAq, _⟩ := hE1.at' hbe hEi1 (p := p + 1) (by omega) (by omega)
    have hne := hE1.ne hbe hEi1 (by decide) hAp
    rw [hpl] at hcp
    rw [hql] at hcq
    have hcut := (lk_cut hAp).trans (lk_l [one kp (.cells (rows1[p].map Sc.enc).toArray 4 (0, 0)), del ge kp] Γr)
    have hent := Ent.cut hAp
    have hAo : Arr (one kp (.cells (rows1[p].map Sc.enc).toArray 4 (0, 0))) kp 4 rows1[p] := one_self _ _
    revert hcut hent hAo
    generalize one kp _ = gp
    intro hcut hent hAo
    refine s_drawn [gp] [del ge kp] hent ?_
    simp -implicitDefEqProofs only [go_sem,zA,zB,zC,zD,zE,reduceCtorEq,↓reduceIte,zF,zG,zH,zI]
    refine s_ld (j := 8) (cells_lk (lk_r [del ge kp] _ _ _ hT.out)) (by simp [Tb.cells]) (by simp) ?_
    simp -implicitDefEqProofs only [Tb.cells, go_sem,zA,zB,zC,zD,zE,reduceCtorEq,↓reduceIte,zF,zG,zH,zI]
    refine s_idx h2 (by omega) (by omega) ?_
    simp -implicitDefEqProofs only [go_sem,zA,zB,zC,zD,zE,reduceCtorEq,↓reduceIte,zF,zG,zH,zI]
    refine s_ld0 (hc2 _ (lk_r [del ge kp] _)) (by simp) (by simp) ?_
    simp -implicitDefEqProofs only [go_sem,zA,zB,zC,zD,zE,reduceCtorEq,↓reduceIte,zF,zG,zH,zI]
    refine s_idx rfl (by omega) (by omega) ?_
    simp -implicitDefEqProofs only [go_sem,zA,zB,zC,zD,zE,reduceCtorEq,↓reduceIte,zF,zG,zH,zI]
    refine s_ld0 (by simpa using (hcp [ge] (Mem.le.refl _)).del' hne (by simp)) (by simp) (by simp) ?_
    simp -implicitDefEqProofs only [go_sem,zA,zB,zC,zD,zE,reduceCtorEq,↓reduceIte,zF,zG,zH,zI]
    refine s_ld (j := 8) (cells_lk (lk_r [_, del ge kp] _ _ _ hT.out)) (by simp [Tb.cells]) (by simp) ?_
    simp -implicitDefEqProofs only [Tb.cells, go_sem,zA,zB,zC,zD,zE,reduceCtorEq,↓reduceIte,zF,zG,zH,zI]
    refine s_idx h2 (by omega) (by omega) ?_
    simp -implicitDefEqProofs only [go_sem,zA,zB,zC,zD,zE,reduceCtorEq,↓reduceIte,zF,zG,zH,zI]
    refine s_ld0 (hc2 _ (lk_r [_, del ge kp] _)) (by simp) (by simp) ?_
    simp -implicitDefEqProofs only [go_sem,zA,zB,zC,zD,zE,reduceCtorEq,↓reduceIte,zF,zG,zH,zI]
    refine s_idx rfl (by omega) (by omega) ?_
    simp -implicitDefEqProofs only [go_sem,zA,zB,zC,zD,zE,reduceCtorEq,↓reduceIte,zF,zG,zH,zI]
    refine s_ld0 (by simpa using hcp _ hcut) (by simp) (by simp) ?_
    simp -implicitDefEqProofs only [go_sem,zA,zB,zC,zD,zE,reduceCtorEq,↓reduceIte,zF,zG,zH,zI]
    refine s_idx rfl (by omega) (by omega) ?_
    simp -implicitDefEqProofs only [go_sem,zA,zB,zC,zD,zE,reduceCtorEq,↓reduceIte,zF,zG,zH,zI]
    refine s_ld0 (hAo.bool (i := k) (by omega) (by simp)) (by simp) (by simp) ?_
    simp -implicitDefEqProofs only [go_sem,zA,zB,zC,zD,zE,reduceCtorEq,↓reduceIte,zF,zG,zH,zI]
    have hget := mat_get (List.getElem?_eq_getElem (show p < rows1.length by omega)) (show k < rows1[p].length by omega)
    generalize rows1[p][k] = v0 at hget
    have fin : ∀ (v : Bool) (x2 : PH), Arr x2 kp 4 (rows1[p].set k v) → (v = true → RowH H (l.drop p) k) → (mat rows1 p k = true → v = true) → (symB H s j = true → RowH H (l.drop (p + 1)) (k - j) → v = true) →
      Up [x2, del ge kp] (fun Γ => ∃ (ge : PH) (rows' : List (List Bool)) (j1 : Nat), [Sl.v true (.int .i64 ((j : Int) + 1))] = [.v true (.int .i64 (j1 : Int))] ∧ Γ = [ge] ∧ j1 + (f3 - 1) = k + 1 ∧ Cube ge 22 4 t.be (E.set i rows') ∧ EndI H n l rows rows' ∧ EndC H n l rows' (p + 1) ∧ (∀ k', k' < k → RowH H (l.drop p) k' → mat rows' p k' = true) ∧ ∀ j', j' < j1 → symB H s j' = true → RowH H (l.drop (p + 1)) (k - j') → mat rows' p k = true) := by
     intro v x2 hA2 hv1 hv2 hv3
     obtain ⟨hI2, hm2⟩ := hI1.put (p := p) (k := k) (v := v) (by omega) hk hv1 hv2 (List.getElem?_eq_getElem (by omega))
     have hE2 := hsp (upd ge kp (.cells ((rows1[p].set k v).map Sc.enc).toArray 4 (0, 0))) _ (upd_self _ _ _) (by simp) (fun y hy => upd_other hy)
     rw [List.set_set] at hE2
     refine Up.to [upd ge kp (.cells ((rows1[p].set k v).map Sc.enc).toArray 4 (0, 0))] (Ent.mend hA2) ⟨_, _, j + 1, rfl, rfl, by omega, hE2, hI2, ?_, ?_, ?_⟩
     ·intro p' k' h1 h2 h3 h4
      rw [hm2, if_neg (by omega)]
      exact hC1 p' k' h1 h2 h3 h4
     ·intro k' h1 h2
      rw [hm2, if_neg (by omega)]
      exact hY1 k' h1 h2
     ·intro j' h1 h2 h3
      rw [hm2, if_pos ⟨rfl, rfl⟩]
      rcases Nat.lt_or_ge j' j with q | q
      ·exact hv2 (hZ1 j' q h2 h3)
      ·have : j' = j := by omega
       subst this
       exact hv3 h2 h3
    cases v0 with
    | true =>
     simp -implicitDefEqProofs only [go_sem,zA,zB,zC,zD,zE,reduceCtorEq,↓reduceIte,zF,zG,zH,zI]
     refine s_idxg (b := 0) (o := 0) (by simp) ?_
     simp -implicitDefEqProofs only [go_sem,zA,zB,zC,zD,zE,reduceCtorEq,↓reduceIte,zF,zG,zH,zI]
     refine s_ldg0 (cs := [.bool false, .int .i64 0]) (by simp) (by simp) (by simp) (by simp) ?_
     simp -implicitDefEqProofs only [go_sem,zA,zB,zC,zD,zE,reduceCtorEq,↓reduceIte,zF,zG,zH,zI]
     refine ⟨.bool false, ?_⟩
     simp -implicitDefEqProofs only [go_sem,zA,zB,zC,zD,zE,reduceCtorEq,↓reduceIte,zF,zG,zH,zI]
     refine s_ldg0 (cs := [.slice none 0 0]) (by simp) (by simp) (by simp) (by simp) ?_
     simp -implicitDefEqProofs only [go_sem,zA,zB,zC,zD,zE,reduceCtorEq,↓reduceIte,zF,zG,zH,zI]
     refine s_idxg (b := 0) (o := 0) (by simp) ?_
     simp -implicitDefEqProofs only [go_sem,zA,zB,zC,zD,zE,reduceCtorEq,↓reduceIte,zF,zG,zH,zI]
     refine s_ldg0 (cs := [.slice none 0 0]) (by simp) (by simp) (by simp) (by simp) ?_
     simp -implicitDefEqProofs only [go_sem,zA,zB,zC,zD,zE,reduceCtorEq,↓reduceIte,zF,zG,zH,zI]
     refine s_idxg (b := 0) (o := 0) (by simp) ?_
     simp -implicitDefEqProofs only [go_sem,zA,zB,zC,zD,zE,reduceCtorEq,↓reduceIte,zF,zG,zH,zI]
     refine s_ldg0 (cs := [.slice none 0 0]) (by simp) (by simp) (by simp) (by simp) ?_
     simp -implicitDefEqProofs only [go_sem,zA,zB,zC,zD,zE,reduceCtorEq,↓reduceIte,zF,zG,zH,zI]
     refine s_idxg (b := 0) (o := 0) (by simp) ?_
     simp -implicitDefEqProofs only [go_sem,zA,zB,zC,zD,zE,reduceCtorEq,↓reduceIte,zF,zG,zH,zI]
     refine s_ldg0 (cs := [.bool false]) (by simp) (by simp) (by simp) (by simp) ?_
     simp -implicitDefEqProofs only [go_sem,zA,zB,zC,zD,zE,reduceCtorEq,↓reduceIte,zF,zG,zH,zI]
     refine s_idx rfl (by omega) (by omega) ?_
     simp -implicitDefEqProofs only [go_sem,zA,zB,zC,zD,zE,reduceCtorEq,↓reduceIte,zF,zG,zH,zI]
     refine s_storeA (ix := 0) (α := Bool) true rfl hAo (i := k) (by omega) ?_
     intro x2 hA2 _
     simp -implicitDefEqProofs only [go_sem,zA,zB,zC,zD,zE,reduceCtorEq,↓reduceIte,zF,zG,zH,zI]
     simp (disch := omega) only [wrap_id]
     refine ⟨f3 - 1, by omega, fin true x2 hA2 (fun _ => hI1.snd p k (by omega) hget) (fun _ => rfl) (fun _ _ => rfl)⟩
    | false =>
     simp -implicitDefEqProofs only [go_sem,zA,zB,zC,zD,zE,reduceCtorEq,↓reduceIte,zF,zG,zH,zI]
     refine s_idx h3 (by omega) (by omega) ?_
     simp -implicitDefEqProofs only [go_sem,zA,zB,zC,zD,zE,reduceCtorEq,↓reduceIte,zF,zG,zH,zI]
     refine s_ld0 (by simpa using hc3 _ (lk_r [gp, del ge kp] _)) (by simp) (by simp) ?_
     simp -implicitDefEqProofs only [go_sem,zA,zB,zC,zD,zE,reduceCtorEq,↓reduceIte,zF,zG,zH,zI]
     refine CallVC.read (tab_sym (Γr := [gp] ++ (del ge kp :: Γr)) (hT.mono (lk_r [gp, del ge kp] _)) (hH.mono (lk_r [gp, del ge kp] _)) hS (fun h => ⟨hs.1, hs.2.2 h⟩) (k := j) (by omega) hn) ?_
     rintro v Γ' ⟨rfl, rfl⟩
     generalize hsv : symB H s j = sv
     cases sv with
     | false =>
      simp -implicitDefEqProofs only [go_sem,zA,zB,zC,zD,zE,reduceCtorEq,↓reduceIte,zF,zG,zH,zI]
      refine s_ldg0 (cs := [.slice none 0 0]) (by simp) (by simp) (by simp) (by simp) ?_
      simp -implicitDefEqProofs only [go_sem,zA,zB,zC,zD,zE,reduceCtorEq,↓reduceIte,zF,zG,zH,zI]
      refine s_idxg (b := 0) (o := 0) (by simp) ?_
      simp -implicitDefEqProofs only [go_sem,zA,zB,zC,zD,zE,reduceCtorEq,↓reduceIte,zF,zG,zH,zI]
      refine s_ldg0 (cs := [.slice none 0 0]) (by simp) (by simp) (by simp) (by simp) ?_
      simp -implicitDefEqProofs only [go_sem,zA,zB,zC,zD,zE,reduceCtorEq,↓reduceIte,zF,zG,zH,zI]
      refine s_idxg (b := 0) (o := 0) (by simp) ?_
      simp -implicitDefEqProofs only [go_sem,zA,zB,zC,zD,zE,reduceCtorEq,↓reduceIte,zF,zG,zH,zI]
      refine s_ldg0 (cs := [.slice none 0 0]) (by simp) (by simp) (by simp) (by simp) ?_
      simp -implicitDefEqProofs only [go_sem,zA,zB,zC,zD,zE,reduceCtorEq,↓reduceIte,zF,zG,zH,zI]
      refine s_idxg (b := 0) (o := 0) (by simp) ?_
      simp -implicitDefEqProofs only [go_sem,zA,zB,zC,zD,zE,reduceCtorEq,↓reduceIte,zF,zG,zH,zI]
      refine s_ldg0 (cs := [.bool false]) (by simp) (by simp) (by simp) (by simp) ?_
      simp -implicitDefEqProofs only [go_sem,zA,zB,zC,zD,zE,reduceCtorEq,↓reduceIte,zF,zG,zH,zI]
      refine s_idx rfl (by omega) (by omega) ?_
      simp -implicitDefEqProofs only [go_sem,zA,zB,zC,zD,zE,reduceCtorEq,↓reduceIte,zF,zG,zH,zI]
      refine s_storeA (ix := 0) (α := Bool) false rfl hAo (i := k) (by omega) ?_
      intro x2 hA2 _
      simp -implicitDefEqProofs only [go_sem,zA,zB,zC,zD,zE,reduceCtorEq,↓reduceIte,zF,zG,zH,zI]
      simp (disch := omega) only [wrap_id]
      refine ⟨f3 - 1, by omega, fin false x2 hA2 (fun h => by cases h) (fun h => by rw [hget] at h; exact h) (fun h => by rw [hsv] at h; cases h)⟩
     | true =>
      simp -implicitDefEqProofs only [go_sem,zA,zB,zC,zD,zE,reduceCtorEq,↓reduceIte,zF,zG,zH,zI]
      refine s_ld (j := 8) (cells_lk (lk_r [gp, del ge kp] _ _ _ hT.out)) (by simp [Tb.cells]) (by simp) ?_
      simp -implicitDefEqProofs only [Tb.cells, go_sem,zA,zB,zC,zD,zE,reduceCtorEq,↓reduceIte,zF,zG,zH,zI]
      refine s_idx h2 (by omega) (by omega) ?_
      simp -implicitDefEqProofs only [go_sem,zA,zB,zC,zD,zE,reduceCtorEq,↓reduceIte,zF,zG,zH,zI]
      refine s_ld0 (hc2 _ (lk_r [gp, del ge kp] _)) (by simp) (by simp) ?_
      simp -implicitDefEqProofs only [go_sem,zA,zB,zC,zD,zE,reduceCtorEq,↓reduceIte,zF,zG,zH,zI]
      simp (disch := omega) only [wrap_id]
      refine s_idx rfl (by omega) (by omega) ?_
      simp -implicitDefEqProofs only [go_sem,zA,zB,zC,zD,zE,reduceCtorEq,↓reduceIte,zF,zG,zH,zI]
      rw [show ((p : Int) + 1).toNat = p + 1 by omega]
      refine s_ld0 (by simpa using hcq _ hcut) (by simp) (by simp) ?_
      simp -implicitDefEqProofs only [go_sem,zA,zB,zC,zD,zE,reduceCtorEq,↓reduceIte,zF,zG,zH,zI]
      simp (disch := omega) only [wrap_id]
      refine s_idx rfl (by omega) (by omega) ?_
      simp -implicitDefEqProofs only [go_sem,zA,zB,zC,zD,zE,reduceCtorEq,↓reduceIte,zF,zG,zH,zI]
      rw [show ((k : Int) - (j : Int)).toNat = k - j by omega]
      refine s_ld0 (cells_up (hAq.bool (i := k - j) (by omega) (Γ := [ge]) (by simp)) hcut) (by simp) (by simp) ?_
      simp -implicitDefEqProofs only [go_sem,zA,zB,zC,zD,zE,reduceCtorEq,↓reduceIte,zF,zG,zH,zI]
      have hgq := mat_get (List.getElem?_eq_getElem (show p + 1 < rows1.length by omega)) (show k - j < rows1[p + 1].length by omega)
      generalize rows1[p + 1][k - j] = v1 at hgq
      refine s_idx rfl (by omega) (by omega) ?_
      simp -implicitDefEqProofs only [go_sem,zA,zB,zC,zD,zE,reduceCtorEq,↓reduceIte,zF,zG,zH,zI]
      refine s_storeA (ix := 0) (α := Bool) v1 rfl hAo (i := k) (by omega) ?_
      intro x2 hA2 _
      simp -implicitDefEqProofs only [go_sem,zA,zB,zC,zD,zE,reduceCtorEq,↓reduceIte,zF,zG,zH,zI]
      simp (disch := omega) only [wrap_id]
      refine ⟨f3 - 1, by omega, fin v1 x2 hA2 (fun h => ?_) (fun h => by rw [hget] at h; cases h) (fun _ h => ?_)⟩
      ·rw [hdrop]
       exact ⟨j, hj, hsv, hI1.snd (p + 1) (k - j) (by omega) (by rw [hgq]; exact h)⟩
      ·rw [← hgq]
       exact hC1 (p + 1) (k - j) (Nat.le_refl _) (by omega) (by omega) h
   ·have hj : j = k + 1 := by omega
    simp (disch := omega) only [wrap_id]
    refine ⟨f2 - 1, by omega, Up.here ⟨ge, rows1, k + 1, rfl, rfl, by omega, hE1, hI1, hC1, fun k' h1 h2 => ?_⟩⟩
    rcases Nat.lt_or_ge k' k with q | q
    ·exact hY1 k' q h2
    ·have : k' = k := by omega
     subst this
     rw [hdrop] at h2
     obtain ⟨j', q1, q2, q3⟩ := h2
     exact hZ1 j' (by omega) q2 q3
  ·have hk : k = n + 1 := by omega
   simp (disch := omega) only [wrap_id]
   refine ⟨p, by omega, Up.here ⟨ge, rows1, rfl, rfl, by omega, hE1, hI1, fun p' k' h1 h2 h3 h4 => ?_⟩⟩
   rcases Nat.lt_or_ge p p' with q | q
   ·exact hC1 p' k' (by omega) h2 h3 h4
   ·have : p' = p := by omega
    subst this
    exact hY1 k' (by omega) h4
 ·obtain rfl : f = 0 := by omega
  refine Up.here ?_
  subst hR
  exact ⟨ge, rows1, rfl, hE1, hI1.shp, hI1.snd, hC1, hI1.mono⟩
/- The text of (*parlance/census.table).find as a statement; no condition. -/
def S148_1 : Stmt :=
 .block 5
 (.seq
 (.region
 [oq 34 (.mv (.tmp 32)),
 oq 35 (.idx 1 (.tmp 30) (.tmp 32)),
 oq 36 (.load false 1 (.tmp 35)),oq 5 (.mv (.tmp 34)),
 oq 6 (.mv (.tmp 36))]
 [0,2,4,5,6,12,13,14,30,31,32])
 (.seq
 (.quiet
 [oq 37 (.mv (.tmp 6)),oq 38 (.mv (.tmp 37)),
 .mk (some 39) (some (38,true)) (.mv (.tmp 0)),
 .mk (some 40) (some (38,true)) (.nilCheck (.tmp 39)),
 .mk (some 41) (some (38,true)) (.fld 5 (.tmp 40)),
 .mk (some 42) (some (38,true)) (.load false 1 (.tmp 41)),
 .mk (some 43) (some (38,true)) (.fld 0 (.tmp 4)),
 .mk (some 44) (some (38,true)) (.load false 1 (.tmp 43)),
 .mk (some 45) (some (38,true)) (.idx 1 (.tmp 42) (.tmp 44)),
 .mk (some 46) (some (38,true)) (.load false 1 (.tmp 45)),
 .mk (some 47) (some (38,true)) (.mv (.tmp 5)),
 .mk (some 48) (some (38,true)) (.idx 1 (.tmp 46) (.tmp 47)),
 .mk (some 49) (some (38,true)) (.load false 1 (.tmp 48)),
 .mk (some 50) (some (38,true)) (.un .not (.tmp 49)),
 oq 51 (.pick (.tmp 38) (.tmp 50) (.const (.bool false)))]
 [0,2,4,5,12,13,14,30,31,32,51])
 (.cond (.tmp 51)
 (.drawn
 [(false,oq 52 (.mv (.tmp 0))),
 (false,oq 53 (.nilCheck (.tmp 52))),
 (false,oq 54 (.fld 5 (.tmp 53))),
 (false,oq 55 (.load false 1 (.tmp 54))),
 (false,oq 56 (.fld 0 (.tmp 4))),
 (false,oq 57 (.load false 1 (.tmp 56))),
 (false,oq 58 (.idx 1 (.tmp 55) (.tmp 57))),
 (false,oq 59 (.load false 1 (.tmp 58))),
 (false,oq 60 (.mv (.tmp 5))),
 (false,oq 61 (.idx 1 (.tmp 59) (.tmp 60))),
 (false,.mk none none (.store 1 (.tmp 61) (.const (.bool true)))),
 (false,oq 2 (.mv (.const (.bool true))))]
 [0,2,4,12,13,14,30,31,32])
 .skip)))
def S148_2 : Stmt :=
 .region
 [oq 62 (.ibin .add (.tmp 32) (.const (.int .i64 1))),
 oq 32 (.mv (.tmp 62))]
 [0,2,4,12,13,14,30,31,32]
def S148_3 : Stmt :=
 .seq
 (.region [oq 33 (.ibin .lss (.tmp 32) (.tmp 31))]
 [0,2,4,12,13,14,30,31,32,33])
 (.seq (.cond (.tmp 33) .skip (.exit 4))
 (.join S148_1 S148_2 [2] [0,4,12,13,14,30,31,32]))
def S148_4 : Stmt :=
 .seq
 (.region [oq 15 (.ibin .lss (.tmp 14) (.tmp 13))] [0,2,12,13,14,15])
 (.seq (.cond (.tmp 15) .skip (.exit 2))
 (.seq
 (.block 3
 (.seq
 (.region
 [oq 16 (.mv (.tmp 14)),
 oq 17 (.idx 2 (.tmp 12) (.tmp 14)),
 oq 18 (.load true 2 (.tmp 17)),
 .mk (some 4) none
 (.alloc true 37 (.agg (Array.mk [.int .i64 0,.slice none 0 0]))),
 oq 3 (.mv (.tmp 16)),
 .mk none none (.store 2 (.tmp 4) (.tmp 18))]
 [0,2,3,4,12,13,14])
 (.seq
 (.region
 [oq 19 (.mv (.tmp 0)),oq 20 (.mv (.tmp 3)),
 oq 21 (.call (.func 186) [.tmp 19,.tmp 20])]
 [0,2,3,4,12,13,14])
 (.seq
 (.region
 [oq 22 (.mv (.tmp 0)),
 oq 23 (.nilCheck (.tmp 22)),
 oq 24 (.fld 8 (.tmp 23)),
 oq 25 (.load false 1 (.tmp 24)),
 oq 26 (.mv (.tmp 3)),
 oq 27 (.idx 1 (.tmp 25) (.tmp 26)),
 oq 28 (.load false 1 (.tmp 27)),
 oq 29 (.idx 1 (.tmp 28) (.const (.int .i64 0))),
 oq 30 (.load false 1 (.tmp 29)),
 oq 31 (.len false (.tmp 30)),
 oq 32 (.mv (.const (.int .i64 0)))]
 [0,2,4,12,13,14,30,31,32])
 (.block 4 (.loop S148_3 [2,32] [0,4,12,13,14,30,31]))))))
 (.region
 [oq 63 (.ibin .add (.tmp 14) (.const (.int .i64 1))),
 oq 14 (.mv (.tmp 63))]
 [0,2,12,13,14])))
def S148_5 : Stmt :=
 .seq
 (.seq (.region [oq 7 (.mv (.tmp 2))] [0,7])
 (.cond (.tmp 7) .skip (.exit 0)))
 (.block 1
 (.seq (.region [oq 2 (.mv (.const (.bool false)))] [0,2])
 (.seq
 (.region
 [oq 8 (.mv (.tmp 0)),oq 9 (.nilCheck (.tmp 8)),
 oq 10 (.fld 0 (.tmp 9)),oq 11 (.fld 3 (.tmp 10)),
 oq 12 (.load false 1 (.tmp 11)),
 oq 13 (.len false (.tmp 12)),
 oq 14 (.mv (.const (.int .i64 0)))]
 [0,2,12,13,14])
 (.block 2 (.loop S148_4 [2,14] [0,12,13])))))
def S148_0 : Stmt :=
 .seq (.region [oq 2 (.mv (.const (.bool true)))] [0,2])
 (.block 0 (.loop S148_5 [2] [0]))
def S148 : FnS := ⟨64,[],S148_0⟩
theorem tr148 : trFn Try.prog 148 [4] [[0,2],[2],[0],[0,7],[0,2],[0,2,12,13,14],[2,14],[0,12,13],[0,2,12,13,14,15],[0,2,3,4,12,13,14],[0,2,3,4,12,13,14],[0,2,4,12,13,14,30,31,32],[2,32],[0,4,12,13,14,30,31],[0,2,4,12,13,14,30,31,32,33],[2],[0,4,12,13,14,30,31,32],[0,2,4,5,6,12,13,14,30,31,32],[0,2,4,5,12,13,14,30,31,32,51],[0,2,4,12,13,14,30,31,32],[0,1,2,3,4,5,6,7,8,9,10,11],[],[],[0],[0,1],[0,1,2],[],[4],[0,1,2,3,4,5],[0,1,2,3,4,5,6],[],[0,1,2,3,4,5,6,7,8],[0,1,2,3,4,5,6,7,8,9],[0,1,2,3,4,5,6,7,8,9,10],[0,2,4,12,13,14,30,31,32],[0,2,12,13,14]] = some S148 := by kernel_rfl
/- census: find walked; no condition. -/
/-- what is told of nonterminals is so -/
def HasS (g : Gr) (H : List (List Bool)) : Prop := ∀ a k, mat H a k = true → ∃ h, 0 < cntT g h (a : Int) k
theorem sym_sound {g : Gr} {H : List (List Bool)} (h : HasS g H) {s : Sy} (hs : 0 ≤ s.n) {k : Nat} (q : symB H s k = true) : ∃ x, 0 < symT (cntT g x) s k := by
 unfold symB at q
 split at q
 ·rename_i e
  have q : k = 1 := by simpa using q
  exact ⟨0, by simp [symT, e, q]⟩
 ·rename_i e
  obtain ⟨x, hx⟩ := h _ _ q
  rw [Int.toNat_of_nonneg hs] at hx
  exact ⟨x, by simpa [symT, e] using hx⟩
theorem symT_mono (g : Gr) {h h' : Nat} (hh : h ≤ h') {s : Sy} {k : Nat} (q : 0 < symT (cntT g h) s k) : 0 < symT (cntT g h') s k := Nat.lt_of_lt_of_le q (symT_le (cntT_le g hh) s k)
theorem row_sound {g : Gr} {H : List (List Bool)} (h : HasS g H) : ∀ {l : List Sy} {k : Nat}, (∀ s ∈ l, 0 ≤ s.n) → RowH H l k → ∃ x, 0 < rowT (cntT g x) l k
 | [], k, _, q => by
  have q : k = 0 := q
  subst q
  exact ⟨0, by simp [rowT]⟩
 | s :: l, k, h0, ⟨j, h1, h2, h3⟩ => by
  obtain ⟨x, hx⟩ := sym_sound h (h0 s (by simp)) h2
  obtain ⟨y, hy⟩ := row_sound h (fun s hs => h0 s (by simp [hs])) h3
  exact ⟨x + y, row_pos.2 ⟨j, h1, symT_mono g (by omega) hx, Nat.lt_of_lt_of_le hy (rowT_le (cntT_le g (by omega)) l _)⟩⟩
/-- what follows of rule r is told -/
def ClosR (H : List (List Bool)) (n : Nat) (r : Ru) (k0 : Nat) : Prop := ∀ k, k < k0 → RowH H r.r k → mat H r.l.toNat k = true
theorem has_complete {g : Gr} (V : VG g) {H : List (List Bool)} {n : Nat} (hc : ∀ r ∈ g.rs, ClosR H n r (n + 1)) : ∀ (h : Nat) (a : Int) (k : Nat), k ≤ n → 0 < cntT g h a k → mat H a.toNat k = true
 | 0, a, k, _, q => by simp [cntT] at q
 | h + 1, a, k, hk, q => by
  obtain ⟨r, r1, r2, r3⟩ := sumR_pos.1 (show 0 < sumR (cntT g h) a k g.rs from q)
  rw [← r2]
  refine hc r r1 k (by omega) ?_
  have row : ∀ (l : List Sy) (k : Nat), k ≤ n → 0 < rowT (cntT g h) l k → RowH H l k := by
   intro l
   induction l with
   | nil =>
    intro k _ q
    show k = 0
    exact Classical.byContradiction fun hne => by simp [rowT, hne] at q
   | cons s l ih =>
    intro k hk q
    obtain ⟨j, h1, h2, h3⟩ := row_pos.1 q
    refine ⟨j, h1, ?_, ih _ (by omega) h3⟩
    unfold symT at h2
    unfold symB
    split at h2
    ·rename_i e
     rw [if_pos e]
     exact decide_eq_true (Classical.byContradiction fun hne => by simp [hne] at h2)
    ·rename_i e
     rw [if_neg e]
     exact has_complete V hc h _ _ (by omega) h2
  exact row r.r k hk r3
/-- the rows of ends of all rules -/
def EndsI (g : Gr) (n : Nat) (H : List (List Bool)) (E : List (List (List Bool))) : Prop := E.length = g.rs.length ∧ ∀ (i : Nat) rows (r : Ru), E[i]? = some rows → g.rs[i]? = some r → Shp (r.r.length + 1) (n + 1) rows ∧ EndS H r.r rows
theorem EndsI.mono {g : Gr} {n : Nat} {H H' : List (List Bool)} {E : List (List (List Bool))} (h : EndsI g n H E) (hm : MonoH H H') : EndsI g n H' E :=
 ⟨h.1, fun i rows r h1 h2 => let ⟨q1, q2⟩ := h.2 i rows r h1 h2; ⟨q1, fun p k hp q => (q2 p k hp q).mono hm⟩⟩
theorem EndsI.set {g : Gr} {n : Nat} {H : List (List Bool)} {E : List (List (List Bool))} (h : EndsI g n H E) {i : Nat} {rows : List (List Bool)} {r : Ru} (hr : g.rs[i]? = some r) (h1 : Shp (r.r.length + 1) (n + 1) rows) (h2 : EndS H r.r rows) : EndsI g n H (E.set i rows) := by
 refine ⟨by simp [h.1], fun j rows' r' q1 q2 => ?_⟩
 rw [List.getElem?_set] at q1
 by_cases e : i = j
 ·subst e
  rw [if_pos rfl] at q1
  split at q1
  ·cases q1
   rw [hr] at q2
   cases q2
   exact ⟨h1, h2⟩
  ·cases q1
 ·rw [if_neg e] at q1
  exact h.2 j rows' r' q1 q2
/-- rules before i are done -/
def DoneR (g : Gr) (n : Nat) (H : List (List Bool)) (E : List (List (List Bool))) (i0 : Nat) : Prop := ∀ (i : Nat) rows (r : Ru), i < i0 → E[i]? = some rows → g.rs[i]? = some r → EndC H n r.r rows 0 ∧ ClosR H n r (n + 1)
theorem tab_find {Γr : Ctx} {t : Tb} {g : Gr} (V : VG g) {n : Nat} {R : Option Addr} {cR : Nat} (hT : TabK (lk Γr) t g n R cR) (hn : n ≤ 24) {gh ge : PH} {H0 : List (List Bool)} (hG0 : Grid gh t.bh 22 4 H0) (hS0 : Shp g.ns.toNat (n + 1) H0) (hH0 : HasS g H0)
  {E0 : List (List (List Bool))} (hE0 : Cube ge 22 4 t.be E0) (hI0 : EndsI g n H0 E0) :
  Ret Try.prog 148 [.pointer (some ⟨t.b, 0, none⟩)] Γr [gh, ge] (fun v Γ => ∃ gh' ge' H E, Γ = [gh', ge'] ∧ Grid gh' t.bh 22 4 H ∧ Shp g.ns.toNat (n + 1) H ∧ HasS g H ∧ Cube ge' 22 4 t.be E ∧ EndsI g n H E ∧ DoneR g n H E g.rs.length) := by
 generalize hR : (fun (v : Value) (Γ : Ctx) => ∃ gh' ge' H E, _) = R'
 refine ret_of_vc tr148 (Nat.le_of_ble_eq_true rfl) ?_
 simp -implicitDefEqProofs only [S148, S148_0, go_sem,zA,zB,zC,zD,zE,reduceCtorEq,↓reduceIte,zF,zG,zH,zI]
 have hvl := V.len
 have hsh := hT.rs.short
 refine s_loop (fun f vs Γ => ∃ (gh ge : PH) (H : List (List Bool)) (E : List (List (List Bool))) (ag : Bool), vs = [.v true (.bool ag)] ∧ Γ = [gh, ge] ∧ Grid gh t.bh 22 4 H ∧ Shp g.ns.toNat (n + 1) H ∧ HasS g H ∧ Cube ge 22 4 t.be E ∧ EndsI g n H E ∧ f + cntL H = g.ns.toNat * (n + 1) + (if ag then 1 else 0) ∧ (ag = false → DoneR g n H E g.rs.length)) (g.ns.toNat * (n + 1) - cntL H0 + 1)
  (Up.here ⟨gh, ge, H0, E0, true, rfl, rfl, hG0, hS0, hH0, hE0, hI0, by have := cntL_le hS0.2; rw [hS0.1] at this; simp; omega, fun h => by cases h⟩) ?_
 clear hG0 hS0 hH0 hE0 hI0
 rintro f vs Γ ⟨gh, ge, H0, E0, ag, rfl, rfl, hG0, hS0, hH0, hE0, hI0, hf, hD0⟩
 have hc0 := cntL_le hS0.2
 rw [hS0.1] at hc0
 cases ag with
 | false =>
  simp -implicitDefEqProofs only [S148_5, go_sem,zA,zB,zC,zD,zE,reduceCtorEq,↓reduceIte,zF,zG,zH,zI]
  refine Up.here ?_
  subst hR
  exact ⟨gh, ge, H0, E0, rfl, hG0, hS0, hH0, hE0, hI0, hD0 rfl⟩
 | true =>
  simp -implicitDefEqProofs only [S148_5, go_sem,zA,zB,zC,zD,zE,reduceCtorEq,↓reduceIte,zF,zG,zH,zI]
  refine s_ld (j := 3) (cells_lk (lk_r [gh, ge] _ _ _ hT.out)) (by simp [Tb.cells]) (by simp) ?_
  simp -implicitDefEqProofs only [Tb.cells, go_sem,zA,zB,zC,zD,zE,reduceCtorEq,↓reduceIte,zF,zG,zH,zI]
  refine s_loop (fun f1 vs Γ => ∃ (gh ge : PH) (H : List (List Bool)) (E : List (List (List Bool))) (ag : Bool) (i : Nat), vs = [.v true (.bool ag), .v true (.int .i64 (i : Int))] ∧ Γ = [gh, ge] ∧ i + f1 = g.rs.length ∧ Grid gh t.bh 22 4 H ∧ Shp g.ns.toNat (n + 1) H ∧ HasS g H ∧ Cube ge 22 4 t.be E ∧ EndsI g n H E ∧
   cntL H0 + (if ag then 1 else 0) ≤ cntL H ∧ (ag = false → DoneR g n H E i)) g.rs.length
   (Up.here ⟨gh, ge, H0, E0, false, 0, rfl, rfl, by omega, hG0, hS0, hH0, hE0, hI0, by simp, fun _ i _ _ h => by omega⟩) ?_
  clear hG0 hH0 hE0 hI0 hD0
  rintro f1 vs Γ ⟨gh, ge, H1, E1, ag, i, rfl, rfl, hif, hG1, hS1, hH1, hE1, hI1, hc1, hD1⟩
  have hcc := cntL_le hS1.2
  rw [hS1.1] at hcc
  simp -implicitDefEqProofs only [S148_4, go_sem,zA,zB,zC,zD,zE,reduceCtorEq,↓reduceIte,zF,zG,zH,zI]
  refine ⟨fun hlt => ?_, fun hge => ?_⟩
  ·have hi : i < g.rs.length := by omega
   obtain ⟨rows, hEi⟩ : ∃ rows, E1[i]? = some rows := ⟨_, List.getElem?_eq_getElem (by rw [hI1.1]; exact hi)⟩
   have hri := List.getElem?_eq_getElem hi
   obtain ⟨hSr, hSo⟩ := hI1.2 i _ _ hEi hri
   obtain ⟨b0, o0, h0, A1, c1, hr1, hcr⟩ := hT.rs.ru hi
   obtain ⟨be, hbe⟩ : ∃ be, t.be[i]? = some be := ⟨_, List.getElem?_eq_getElem (by rw [hT.be]; exact hi)⟩
   have hhd := hdG_at hbe hri
   have hdl := hdG_len hT.be
   obtain ⟨b2, o2, h2, hc2⟩ := hT.ends.hd (i := i) (by omega)
   rw [(List.getElem?_eq_some_iff.1 hhd).2] at hc2
   have hend := tab_end (Γr := [gh] ++ Γr) V (hT.mono (lk_r [gh] _)) (by have := hG1.slok (L := lk ([gh] ++ Γr)) (lk_l [gh] Γr); rw [hS1.1] at this; exact this) hS1 hn hE1 hi hEi hSr hSo
   have hleft := V.left _ (List.getElem_mem hi)
   have hsym := V.sym _ (List.getElem_mem hi)
   generalize hrr : g.rs[i] = r at *
   refine s_idx h0 (by omega) (by omega) ?_
   simp -implicitDefEqProofs only [go_sem,zA,zB,zC,zD,zE,reduceCtorEq,↓reduceIte,zF,zG,zH,zI]
   refine s_ld0 (by simpa using hcr _ (lk_r [gh, ge] _)) (by simp) (by simp) ?_
   simp -implicitDefEqProofs only [go_sem,zA,zB,zC,zD,zE,reduceCtorEq,↓reduceIte,zF,zG,zH,zI]
   intro bx
   refine CallVC.perm (Γm := [ge]) (Γf := [gh]) hend (List.Perm.swap ..) (List.Sublist.refl _) ?_
   rintro v Γ' ⟨ge, rows1, rfl, hE2, hSr1, hSo1, hC1, hmono⟩
   have hl1 : E1.length = g.rs.length := hI1.1
   have hEi2 : (E1.set i rows1)[i]? = some rows1 := by rw [List.getElem?_set_self (by omega)]
   have hI2 := hI1.set (rows := rows1) hri hSr1 hSo1
   have hrl : rows1.length = r.r.length + 1 := hSr1.1
   have h0l := hSr1.at' (i := 0) (by omega)
   obtain ⟨kb, hcb, hAb, _⟩ := hE2.at' hbe hEi2 (p := 0) (by omega) (by omega)
   rw [h0l] at hcb
   simp -implicitDefEqProofs only [go_sem,zA,zB,zC,zD,zE,reduceCtorEq,↓reduceIte,zF,zG,zH,zI]
   refine s_ld (j := 8) (cells_lk (lk_r [ge, gh] _ _ _ hT.out)) (by simp [Tb.cells]) (by simp) ?_
   simp -implicitDefEqProofs only [Tb.cells, go_sem,zA,zB,zC,zD,zE,reduceCtorEq,↓reduceIte,zF,zG,zH,zI]
   refine s_idx h2 (by omega) (by omega) ?_
   simp -implicitDefEqProofs only [go_sem,zA,zB,zC,zD,zE,reduceCtorEq,↓reduceIte,zF,zG,zH,zI]
   refine s_ld0 (hc2 _ (lk_r [ge, gh] _)) (by simp) (by simp) ?_
   simp -implicitDefEqProofs only [go_sem,zA,zB,zC,zD,zE,reduceCtorEq,↓reduceIte,zF,zG,zH,zI]
   refine s_idx rfl (by omega) (by omega) ?_
   simp -implicitDefEqProofs only [go_sem,zA,zB,zC,zD,zE,reduceCtorEq,↓reduceIte,zF,zG,zH,zI]
   refine s_ld0 (by simpa using hcb _ (lk_l [ge] ([gh] ++ Γr))) (by simp) (by simp) ?_
   simp -implicitDefEqProofs only [go_sem,zA,zB,zC,zD,zE,reduceCtorEq,↓reduceIte,zF,zG,zH,zI]
   refine s_loop (fun f2 vs Γ => ∃ (gh : PH) (H : List (List Bool)) (ag : Bool) (k : Nat), vs = [.v true (.bool ag), .v true (.int .i64 (k : Int))] ∧ Γ = [ge, gh] ∧ k + f2 = n + 1 ∧ Grid gh t.bh 22 4 H ∧ Shp g.ns.toNat (n + 1) H ∧ HasS g H ∧ MonoH H1 H ∧
    cntL H0 + (if ag then 1 else 0) ≤ cntL H ∧ (ag = false → H = H1 ∧ DoneR g n H1 E1 i ∧ ClosR H1 n r k)) (n + 1)
    (Up.here ⟨gh, H1, ag, 0, rfl, rfl, by omega, hG1, hS1, hH1, fun _ _ h => h, hc1, fun h => ⟨rfl, hD1 h, fun k h => by omega⟩⟩) ?_
   clear hG1 hc1 hcc
   rintro f2 vs Γ ⟨gh, H, ag, k, rfl, rfl, hkf, hG, hS, hH, hMo, hc, hD⟩
   simp -implicitDefEqProofs only [S148_3, go_sem,zA,zB,zC,zD,zE,reduceCtorEq,↓reduceIte,zF,zG,zH,zI]
   refine ⟨fun hlt => ?_, fun hge => ?_⟩
   ·have hk : k ≤ n := by omega
    refine s_split ?_
    simp -implicitDefEqProofs only [S148_1, go_sem,zA,zB,zC,zD,zE,reduceCtorEq,↓reduceIte,zF,zG,zH,zI]
    refine s_idx rfl (by omega) (by omega) ?_
    simp -implicitDefEqProofs only [go_sem,zA,zB,zC,zD,zE,reduceCtorEq,↓reduceIte,zF,zG,zH,zI]
    refine s_ld0 (hAb.bool (i := k) (by omega) (by simp)) (by simp) (by simp) ?_
    have hget := mat_get (List.getElem?_eq_getElem (show 0 < rows1.length by omega)) (show k < rows1[0].length by omega)
    generalize rows1[0][k] = v0 at hget
    obtain ⟨a, ha⟩ : ∃ a : Nat, r.l = a := ⟨r.l.toNat, by omega⟩
    have hat : r.l.toNat = a := by omega
    have hHl := hS.1
    have hHr := hS.at' (i := a) (by omega)
    obtain ⟨ka, hca, hAa, hpa⟩ := hG.at' (i := a) (by omega) (by omega)
    rw [hHr] at hca
    have hgh := mat_get (List.getElem?_eq_getElem (show a < H.length by omega)) (show k < H[a].length by omega)
    cases v0 with
    | false =>
     simp -implicitDefEqProofs only [go_sem,zA,zB,zC,zD,zE,reduceCtorEq,↓reduceIte,zF,zG,zH,zI]
     refine s_ldg0 (cs := [.slice none 0 0]) (by simp) (by simp) (by simp) (by simp) ?_
     simp -implicitDefEqProofs only [go_sem,zA,zB,zC,zD,zE,reduceCtorEq,↓reduceIte,zF,zG,zH,zI]
     refine s_idxg (b := 0) (o := 0) (by simp) ?_
     simp -implicitDefEqProofs only [go_sem,zA,zB,zC,zD,zE,reduceCtorEq,↓reduceIte,zF,zG,zH,zI]
     refine s_ldg0 (cs := [.slice none 0 0]) (by simp) (by simp) (by simp) (by simp) ?_
     simp -implicitDefEqProofs only [go_sem,zA,zB,zC,zD,zE,reduceCtorEq,↓reduceIte,zF,zG,zH,zI]
     refine s_idxg (b := 0) (o := 0) (by simp) ?_
     simp -implicitDefEqProofs only [go_sem,zA,zB,zC,zD,zE,reduceCtorEq,↓reduceIte,zF,zG,zH,zI]
     refine s_ldg0 (cs := [.bool false]) (by simp) (by simp) (by simp) (by simp) ?_
     simp -implicitDefEqProofs only [go_sem,zA,zB,zC,zD,zE,reduceCtorEq,↓reduceIte,zF,zG,zH,zI]
     simp -implicitDefEqProofs only [S148_2, go_sem,zA,zB,zC,zD,zE,reduceCtorEq,↓reduceIte,zF,zG,zH,zI]
     simp (disch := omega) only [wrap_id]
     refine Up.here ⟨f2 - 1, by omega, Up.here ⟨gh, H, ag, k + 1, rfl, rfl, by omega, hG, hS, hH, hMo, hc, fun h => ?_⟩⟩
     obtain ⟨q1, q2, q3⟩ := hD h
     refine ⟨q1, q2, fun k' h1 h2 => ?_⟩
     rcases Nat.lt_or_ge k' k with q | q
     ·exact q3 k' q h2
     ·have : k' = k := by omega
      subst this
      have := hC1 0 k' (Nat.le_refl _) (by omega) hk h2
      rw [hget] at this
      cases this
    | true =>
     simp -implicitDefEqProofs only [go_sem,zA,zB,zC,zD,zE,reduceCtorEq,↓reduceIte,zF,zG,zH,zI]
     refine s_ld (j := 5) (cells_lk (lk_r [ge, gh] _ _ _ hT.out)) (by simp [Tb.cells]) (by simp) ?_
     simp -implicitDefEqProofs only [Tb.cells, go_sem,zA,zB,zC,zD,zE,reduceCtorEq,↓reduceIte,zF,zG,zH,zI]
     rw [ha]
     refine s_idx rfl (by omega) (by omega) ?_
     simp -implicitDefEqProofs only [go_sem,zA,zB,zC,zD,zE,reduceCtorEq,↓reduceIte,zF,zG,zH,zI]
     refine s_ld0 (by simpa using hca _ (by simp)) (by simp) (by simp) ?_
     simp -implicitDefEqProofs only [go_sem,zA,zB,zC,zD,zE,reduceCtorEq,↓reduceIte,zF,zG,zH,zI]
     refine s_idx rfl (by omega) (by omega) ?_
     simp -implicitDefEqProofs only [go_sem,zA,zB,zC,zD,zE,reduceCtorEq,↓reduceIte,zF,zG,zH,zI]
     refine s_ld0 (hAa.bool (i := k) (by omega) (by simp)) (by simp) (by simp) ?_
     generalize hv1 : H[a][k] = v1 at hgh
     cases v1 with
     | true =>
      simp -implicitDefEqProofs only [S148_2, go_sem,zA,zB,zC,zD,zE,reduceCtorEq,↓reduceIte,zF,zG,zH,zI]
      simp (disch := omega) only [wrap_id]
      refine Up.here ⟨f2 - 1, by omega, Up.here ⟨gh, H, ag, k + 1, rfl, rfl, by omega, hG, hS, hH, hMo, hc, fun h => ?_⟩⟩
      obtain ⟨q1, q2, q3⟩ := hD h
      refine ⟨q1, q2, fun k' h1 h2 => ?_⟩
      rcases Nat.lt_or_ge k' k with q | q
      ·exact q3 k' q h2
      ·have : k' = k := by omega
       subst this
       rw [hat, ← q1]
       exact hgh
     | false =>
      simp -implicitDefEqProofs only [go_sem,zA,zB,zC,zD,zE,reduceCtorEq,↓reduceIte,zF,zG,zH,zI]
      refine s_ld (j := 5) (cells_lk (lk_r [ge, gh] _ _ _ hT.out)) (by simp [Tb.cells]) (by simp) ?_
      simp -implicitDefEqProofs only [Tb.cells, go_sem,zA,zB,zC,zD,zE,reduceCtorEq,↓reduceIte,zF,zG,zH,zI]
      refine s_idx rfl (by omega) (by omega) ?_
      simp -implicitDefEqProofs only [go_sem,zA,zB,zC,zD,zE,reduceCtorEq,↓reduceIte,zF,zG,zH,zI]
      refine s_ld0 (by simpa using hca _ (by simp)) (by simp) (by simp) ?_
      simp -implicitDefEqProofs only [go_sem,zA,zB,zC,zD,zE,reduceCtorEq,↓reduceIte,zF,zG,zH,zI]
      refine s_idx rfl (by omega) (by omega) ?_
      simp -implicitDefEqProofs only [go_sem,zA,zB,zC,zD,zE,reduceCtorEq,↓reduceIte,zF,zG,zH,zI]
      refine s_storeA (ix := 1) (α := Bool) true rfl hAa (i := k) (by omega) ?_
      intro gh2 hA2 ho2
      have hG2 := hpa gh2 _ hA2 (by simp) ho2
      have hm2 := mat_setS hS (x := a) (y := k) (by omega) (by omega) true
      rw [show H.getD a [] = H[a] by simp [List.getD_eq_getElem?_getD, show a < H.length by omega]] at hm2
      have hS2 : Shp g.ns.toNat (n + 1) (H.set a (H[a].set k true)) := hS.set a (by simp [hHr])
      have hct : cntL (H.set a (H[a].set k true)) = cntL H + 1 := cntL_set (by omega) (count_set (by omega) hv1)
      simp -implicitDefEqProofs only [S148_2, go_sem,zA,zB,zC,zD,zE,reduceCtorEq,↓reduceIte,zF,zG,zH,zI]
      simp (disch := omega) only [wrap_id]
      refine Up.here ⟨f2 - 1, by omega, Up.here ⟨gh2, _, true, k + 1, rfl, rfl, by omega, hG2, hS2, fun b j q => ?_, fun b j q => ?_, ?_, fun h => by cases h⟩⟩
      ·rw [hm2] at q
       split at q
       ·rename_i e
        obtain ⟨rfl, rfl⟩ := e
        obtain ⟨x, hx⟩ := row_sound hH1 (fun s hs => (hsym s hs).1) (hSo1 0 j (by omega) hget)
        refine ⟨x + 1, sumR_pos.2 ⟨r, ?_, ha, by simpa using hx⟩⟩
        rw [← hrr]
        exact List.getElem_mem hi
       ·exact hH b j q
      ·rw [hm2]
       split
       ·rfl
       ·exact hMo b j q
      ·rw [hct]
       have : cntL H0 ≤ cntL H := by
        revert hc
        cases ag <;> simp <;> omega
       simp
       omega
   ·have hk : k = n + 1 := by omega
    subst hk
    simp (disch := omega) only [wrap_id]
    refine ⟨f1 - 1, by omega, Up.to [gh, ge] (Ent.perm (List.Perm.swap ..)) ⟨gh, ge, H, _, ag, i + 1, rfl, rfl, by omega, hG, hS, hH, hE2, hI2.mono hMo, hc, fun h => ?_⟩⟩
    obtain ⟨q1, q2, q3⟩ := hD h
    subst q1
    intro j rows' r' h1 h2 h3
    by_cases e : j = i
    ·subst e
     rw [hEi2] at h2
     cases h2
     rw [hri] at h3
     cases h3
     exact ⟨hC1, q3⟩
    ·rw [List.getElem?_set_ne (fun q => e q.symm)] at h2
     exact q2 j rows' r' (by omega) h2 h3
  ·have hi : i = g.rs.length := by omega
   subst hi
   refine ⟨g.ns.toNat * (n + 1) + (if ag then 1 else 0) - cntL H1, ?_, Up.here ⟨gh, ge, H1, E1, ag, rfl, rfl, hG1, hS1, hH1, hE1, hI1, ?_, hD1⟩⟩
   ·revert hc1 hf
    cases ag <;> simp <;> omega
   ·omega
/- The text of (*parlance/census.table).same as a statement; no condition. -/
def S187_1 : Stmt :=
 .seq
 (.region [oq 62 (.ibin .lss (.tmp 61) (.tmp 60))]
 [0,1,5,7,8,9,10,28,29,30,35,36,37,59,60,61,62])
 (.seq (.cond (.tmp 62) .skip (.exit 4))
 (.seq
 (.block 5
 (.seq
 (.region
 [oq 63 (.mv (.tmp 61)),
 oq 64 (.idx 2 (.tmp 59) (.tmp 61)),
 oq 65 (.load true 2 (.tmp 64)),
 .mk (some 12) none
 (.alloc true 39 (.agg (Array.mk [.bool false,.int .i64 0]))),
 oq 11 (.mv (.tmp 63)),
 .mk none none (.store 2 (.tmp 12) (.tmp 65))]
 [0,1,5,7,8,9,10,11,12,28,29,30,35,36,37,59,60,61])
 (.region
 [oq 66 (.mv (.tmp 10)),oq 67 (.mv (.tmp 66)),
 .mk (some 68) (some (67,true)) (.mv (.tmp 11)),
 .mk (some 69) (some (67,true)) (.mv (.tmp 8)),
 .mk (some 70) (some (67,true)) (.ibin .eql (.tmp 68) (.tmp 69)),
 .mk (some 71) (some (67,true)) (.mv (.tmp 70)),
 .mk (some 72) (some (71,false)) (.mv (.tmp 0)),
 .mk (some 73) (some (71,false)) (.load true 2 (.tmp 12)),
 .mk (some 74) (some (71,false))
 (.call (.func 207) [.tmp 72,.tmp 73,.const (.int .i64 0)]),
 .mk (some 75) (some (67,true))
 (.pick (.tmp 71) (.const (.bool true)) (.tmp 74)),
 oq 76 (.pick (.tmp 67) (.tmp 75) (.const (.bool false))),
 oq 10 (.mv (.tmp 76))]
 [0,1,5,7,8,9,10,28,29,30,35,36,37,59,60,61])))
 (.region
 [oq 77 (.ibin .add (.tmp 61) (.const (.int .i64 1))),
 oq 61 (.mv (.tmp 77))]
 [0,1,5,7,8,9,10,28,29,30,35,36,37,59,60,61])))
def S187_2 : Stmt :=
 .block 3
 (.seq
 (.region
 [oq 39 (.mv (.tmp 37)),
 oq 40 (.idx 2 (.tmp 35) (.tmp 37)),
 oq 41 (.load true 2 (.tmp 40)),
 oq 9 (.alloc true 39 (.agg (Array.mk [.bool false,.int .i64 0]))),
 oq 8 (.mv (.tmp 39)),
 .mk none none (.store 2 (.tmp 9) (.tmp 41))]
 [0,1,5,7,8,9,28,29,30,35,36,37])
 (.seq
 (.seq
 (.quiet
 [oq 42 (.fld 0 (.tmp 9)),
 oq 43 (.load false 1 (.tmp 42)),
 oq 44 (.mv (.tmp 43)),
 .mk (some 45) (some (44,false)) (.mv (.tmp 0)),
 .mk (some 46) (some (44,false)) (.nilCheck (.tmp 45)),
 .mk (some 47) (some (44,false)) (.fld 5 (.tmp 46)),
 .mk (some 48) (some (44,false)) (.load false 1 (.tmp 47)),
 .mk (some 49) (some (44,false)) (.fld 1 (.tmp 9)),
 .mk (some 50) (some (44,false)) (.load false 1 (.tmp 49)),
 .mk (some 51) (some (44,false)) (.idx 1 (.tmp 48) (.tmp 50)),
 .mk (some 52) (some (44,false)) (.load false 1 (.tmp 51)),
 .mk (some 53) (some (44,false)) (.mv (.tmp 1)),
 .mk (some 54) (some (44,false)) (.idx 1 (.tmp 52) (.tmp 53)),
 .mk (some 55) (some (44,false)) (.load false 1 (.tmp 54)),
 .mk (some 56) (some (44,false)) (.un .not (.tmp 55)),
 oq 57 (.pick (.tmp 44) (.const (.bool true)) (.tmp 56))]
 [0,1,5,7,8,9,28,29,30,35,36,37,57])
 (.cond (.tmp 57) (.exit 3) .skip))
 (.seq
 (.region [oq 10 (.mv (.const (.bool true)))]
 [0,1,5,7,8,9,10,28,29,30,35,36,37])
 (.seq
 (.seq
 (.region
 [oq 58 (.fld 1 (.tmp 7)),
 oq 59 (.load false 1 (.tmp 58)),
 oq 60 (.len false (.tmp 59)),
 oq 61 (.mv (.const (.int .i64 0)))]
 [0,1,5,7,8,9,10,28,29,30,35,36,37,59,60,61])
 (.block 4 (.loop S187_1 [10,61] [0,1,5,7,8,9,28,29,30,35,36,37,59,60])))
 (.drawn
 [(false,oq 78 (.mv (.tmp 5))),
 (false,oq 79 (.fld 0 (.tmp 7))),
 (false,oq 80 (.load false 1 (.tmp 79))),
 (false,oq 81 (.idx 1 (.tmp 78) (.tmp 80))),
 (false,oq 82 (.load false 1 (.tmp 81))),
 (false,oq 83 (.fld 1 (.tmp 9))),
 (false,oq 84 (.load false 1 (.tmp 83))),
 (false,oq 85 (.mv (.tmp 5))),
 (false,oq 86 (.fld 0 (.tmp 7))),
 (false,oq 87 (.load false 1 (.tmp 86))),
 (false,oq 88 (.idx 1 (.tmp 85) (.tmp 87))),
 (false,oq 89 (.load false 1 (.tmp 88))),
 (false,oq 90 (.fld 1 (.tmp 9))),
 (false,oq 91 (.load false 1 (.tmp 90))),
 (false,oq 92 (.idx 1 (.tmp 89) (.tmp 91))),
 (false,oq 93 (.load false 1 (.tmp 92))),
 (false,oq 94 (.mv (.tmp 93))),
 (false,.mk (some 95) (some (94,false)) (.mv (.tmp 10))),
 (false,
 oq 96 (.pick (.tmp 94) (.const (.bool true)) (.tmp 95))),
 (false,oq 97 (.idx 1 (.tmp 82) (.tmp 84))),
 (false,.mk none none (.store 1 (.tmp 97) (.tmp 96)))]
 [0,1,5,7,28,29,30,35,36,37])))))
def S187_3 : Stmt :=
 .region
 [oq 98 (.ibin .add (.tmp 37) (.const (.int .i64 1))),
 oq 37 (.mv (.tmp 98))]
 [0,1,5,7,28,29,30,35,36,37]
def S187_4 : Stmt :=
 .seq
 (.region [oq 38 (.ibin .lss (.tmp 37) (.tmp 36))]
 [0,1,5,7,28,29,30,35,36,37,38])
 (.seq (.cond (.tmp 38) .skip (.exit 2))
 (.join S187_2 S187_3 [] [0,1,5,7,28,29,30,35,36,37]))
def S187_5 : Stmt :=
 .seq
 (.region [oq 31 (.ibin .lss (.tmp 30) (.tmp 29))]
 [0,1,5,28,29,30,31])
 (.seq (.cond (.tmp 31) .skip (.exit 0))
 (.seq
 (.block 1
 (.seq
 (.region
 [oq 32 (.idx 2 (.tmp 28) (.tmp 30)),
 oq 33 (.load true 2 (.tmp 32)),
 .mk (some 7) none
 (.alloc true 37 (.agg (Array.mk [.int .i64 0,.slice none 0 0]))),
 .mk none none (.store 2 (.tmp 7) (.tmp 33))]
 [0,1,5,7,28,29,30])
 (.seq
 (.region
 [oq 34 (.fld 1 (.tmp 7)),
 oq 35 (.load false 1 (.tmp 34)),
 oq 36 (.len false (.tmp 35)),
 oq 37 (.mv (.const (.int .i64 0)))]
 [0,1,5,7,28,29,30,35,36,37])
 (.block 2 (.loop S187_4 [37] [0,1,5,7,28,29,30,35,36])))))
 (.region
 [oq 99 (.ibin .add (.tmp 30) (.const (.int .i64 1))),
 oq 30 (.mv (.tmp 99))]
 [0,1,5,28,29,30])))
def S187_0 : Stmt :=
 .seq (.region [oq 4 (.mv (.const (.slice none 0 0)))] [0,1])
 (.seq
 (.drawn
 [(false,oq 13 (.mv (.tmp 0))),
 (false,oq 14 (.nilCheck (.tmp 13))),
 (false,oq 15 (.fld 0 (.tmp 14))),
 (false,oq 16 (.fld 1 (.tmp 15))),
 (false,oq 17 (.load false 1 (.tmp 16))),
 (false,oq 18 (.mv (.tmp 0))),
 (false,oq 19 (.nilCheck (.tmp 18))),
 (false,oq 20 (.fld 0 (.tmp 19))),
 (false,oq 21 (.fld 1 (.tmp 20))),
 (false,oq 22 (.load false 1 (.tmp 21))),
 (false,
 .mk (some 23) none
 (.call (.func 184) [.tmp 17,.tmp 22,.const (.bool false)])),
 (false,oq 5 (.mv (.tmp 23)))]
 [0,1,5])
 (.seq
 (.seq
 (.region
 [oq 24 (.mv (.tmp 0)),oq 25 (.nilCheck (.tmp 24)),
 oq 26 (.fld 0 (.tmp 25)),oq 27 (.fld 3 (.tmp 26)),
 oq 28 (.load false 1 (.tmp 27)),
 oq 29 (.len false (.tmp 28)),
 oq 30 (.mv (.const (.int .i64 0)))]
 [0,1,5,28,29,30])
 (.block 0 (.loop S187_5 [30] [0,1,5,28,29])))
 (.seq
 (.region
 [oq 100 (.mv (.tmp 5)),oq 4 (.mv (.tmp 100))] [4])
 .ret)))
def S187 : FnS := ⟨101,[(4,none)],S187_0⟩
theorem tr187 : trFn Try.prog 187 [7,9,12] [[0,1],[0,1,5],[0,1,2,3,4,5,6,7,8,9,10,11],[],[],[0],[0,1],[0,1,2],[0,1,2,3],[],[5],[5,6],[5,6,7],[5,6,7,8],[0,1,2,3,4,5,6,7,8,9],[0,1,2,3,4,5,6,7,8,9,10],[0,1,5,28,29,30],[30],[0,1,5,28,29],[0,1,5,28,29,30,31],[0,1,5,7,28,29,30],[0,1,5,7,28,29,30,35,36,37],[37],[0,1,5,7,28,29,30,35,36],[0,1,5,7,28,29,30,35,36,37,38],[],[0,1,5,7,28,29,30,35,36,37],[0,1,5,7,8,9,28,29,30,35,36,37],[0,1,5,7,8,9,28,29,30,35,36,37,57],[0,1,5,7,8,9,10,28,29,30,35,36,37],[0,1,5,7,8,9,10,28,29,30,35,36,37,59,60,61],[10,61],[0,1,5,7,8,9,28,29,30,35,36,37,59,60],[0,1,5,7,8,9,10,28,29,30,35,36,37,59,60,61,62],[0,1,5,7,8,9,10,11,12,28,29,30,35,36,37,59,60,61],[0,1,5,7,8,9,10,28,29,30,35,36,37,59,60,61],[0,1,5,7,8,9,10,28,29,30,35,36,37,59,60,61],[0,1,5,7,28,29,30,35,36,37],[0,1,2,3,4,5,6,7,8,9,10,11,12,13,14,15,16,17,18,19,20],[],[],[],[1],[0,1,2],[0,1,2,3],[],[5],[],[],[8],[7,8,9],[7,8,9,10],[],[12],[7,8,9,10,11,12,13],[7,8,9,10,11,12,13,14],[7,8,9,10,11,12,13,14,15],[7,8,9,10,11,12,13,14,15,16],[7,8,9,10,11,12,13,14,15,16,17],[0,1,2,3,4,5,6,7,8,9,10,11,12,13,14,15,16,17,18],[0,1,2,3,4,5,6,7,8,9,10,11,12,13,14,15,16,17,18,19],[0,1,5,7,28,29,30,35,36,37],[0,1,5,28,29,30],[4]] = some S187 := by kernel_rfl
/- census: same walked; no condition. -/
/-- before place i0 of l stands y, which has k, and all others have 0 -/
def SameR (H : List (List Bool)) (k : Nat) (l : List Sy) (i0 : Nat) (y : Nat) : Prop :=
 ∃ i s, i < i0 ∧ l[i]? = some s ∧ s.t = false ∧ s.n = (y : Int) ∧ mat H y k = true ∧ ∀ j s', l[j]? = some s' → j ≠ i → symB H s' 0 = true
theorem SameR.succ {H : List (List Bool)} {k : Nat} {l : List Sy} {i : Nat} {s : Sy} (hs : l[i]? = some s) (y : Nat) : SameR H k l (i + 1) y ↔ SameR H k l i y ∨ (s.t = false ∧ s.n = (y : Int) ∧ mat H y k = true ∧ ∀ j s', l[j]? = some s' → j ≠ i → symB H s' 0 = true) := by
 constructor
 ·rintro ⟨i', s', h1, h2, h3⟩
  rcases Nat.lt_or_ge i' i with q | q
  ·exact .inl ⟨i', s', q, h2, h3⟩
  ·have : i' = i := by omega
   subst this
   rw [hs] at h2
   cases h2
   exact .inr h3
 ·rintro (⟨i', s', h1, h2⟩ | h)
  ·exact ⟨i', s', by omega, h2⟩
  ·exact ⟨i, s, by omega, hs, h⟩
def SameE (g : Gr) (H : List (List Bool)) (k m x y : Nat) : Prop := ∃ r ∈ g.rs.take m, r.l = (x : Int) ∧ SameR H k r.r r.r.length y
theorem Sq.shp {n : Nat} {w : List (List Bool)} (h : Sq n w) : Shp n n w := ⟨h.len, h.row⟩
theorem tab_same {Γr : Ctx} {t : Tb} {g : Gr} (V : VG g) {n : Nat} {R : Option Addr} {cR : Nat} (hT : TabK (lk Γr) t g n R cR) {H : List (List Bool)} (hH : SlOk (lk Γr) (some ⟨t.bh, 0, none⟩) g.ns.toNat H) (hS : Shp g.ns.toNat (n + 1) H) (hn : n ≤ 24) {k : Nat} (hk : k ≤ n) :
  Ret Try.prog 187 [.pointer (some ⟨t.b, 0, none⟩), .int .i64 (k : Int)] Γr [] (fun v Γ => ∃ gW bW W, Γ = [gW] ∧ v = .slice (some ⟨bW, 0, none⟩) g.ns.toNat g.ns.toNat ∧ Grid gW bW 22 4 W ∧ Sq g.ns.toNat W ∧ ∀ x y, mat W x y = true ↔ SameE g H k g.rs.length x y) := by
 generalize hR : (fun (v : Value) (Γ : Ctx) => ∃ gW bW W, _) = R'
 refine ret_of_vc tr187 (Nat.le_of_ble_eq_true rfl) ?_
 simp -implicitDefEqProofs only [S187, S187_0, go_sem,zA,zB,zC,zD,zE,reduceCtorEq,↓reduceIte,zF,zG,zH,zI]
 have hvl := V.len
 have hsh := hT.rs.short
 have hns := V.ns
 obtain ⟨N, hN⟩ : ∃ N : Nat, g.ns = N := ⟨g.ns.toNat, by omega⟩
 have hN' : g.ns.toNat = N := by omega
 rw [hN'] at hR hH hS
 refine s_ld (j := 1) (cells_lk hT.out) (by simp [Tb.cells]) (by simp) ?_
 simp -implicitDefEqProofs only [Tb.cells, go_sem,zA,zB,zC,zD,zE,reduceCtorEq,↓reduceIte,zF,zG,zH,zI]
 refine s_ld (j := 1) (cells_lk hT.out) (by simp [Tb.cells]) (by simp) ?_
 simp -implicitDefEqProofs only [Tb.cells, go_sem,zA,zB,zC,zD,zE,reduceCtorEq,↓reduceIte,zF,zG,zH,zI]
 rw [hN]
 refine CallVC.read (rows_bool (Γr := [] ++ Γr) N N false (by omega) (by omega)) ?_
 rintro v Γ' ⟨gW, bW, rfl, rfl, hG⟩
 simp -implicitDefEqProofs only [go_sem,zA,zB,zC,zD,zE,reduceCtorEq,↓reduceIte,zF,zG,zH,zI]
 refine s_ld (j := 3) (cells_lk (lk_r [gW] _ _ _ hT.out)) (by simp [Tb.cells]) (by simp) ?_
 simp -implicitDefEqProofs only [Tb.cells, go_sem,zA,zB,zC,zD,zE,reduceCtorEq,↓reduceIte,zF,zG,zH,zI]
 refine s_loop (fun f vs Γ => ∃ (m : Nat) (gW : PH) (W : List (List Bool)), vs = [.v true (.int .i64 m)] ∧ Γ = [gW] ∧ m + f = g.rs.length ∧ Grid gW bW 22 4 W ∧ Sq N W ∧ ∀ x y, mat W x y = true ↔ SameE g H k m x y) g.rs.length
  (Up.here ⟨0, gW, _, rfl, rfl, by omega, hG, ⟨by simp, fun r hr => by simp at hr; rw [hr.2]; simp⟩, fun x y => by
    refine ⟨fun h => ?_, fun ⟨r, hr, _⟩ => by simp at hr⟩
    simp only [mat, List.getD_eq_getElem?_getD, List.getElem?_replicate] at h
    split at h
    ·simp only [Option.getD_some, List.getElem?_replicate] at h
     split at h <;> simp at h
    ·simp at h⟩) ?_
 clear hG
 rintro f vs Γ ⟨m, gW, W, rfl, rfl, hmf, hG, hQ, hm⟩
 simp -implicitDefEqProofs only [S187_5, go_sem,zA,zB,zC,zD,zE,reduceCtorEq,↓reduceIte,zF,zG,zH,zI]
 refine ⟨fun hlt => ?_, fun hge => ?_⟩
 ·have hm' : m < g.rs.length := by omega
  have hmem := List.getElem_mem hm'
  have hr4 := V.right _ hmem
  have hleft := V.left _ hmem
  have hsym := V.sym _ hmem
  have htk : g.rs.take (m + 1) = g.rs.take m ++ [g.rs[m]] := List.take_succ_eq_append_getElem hm'
  obtain ⟨b0, o0, h0, A1, c1, hr1, hcr⟩ := hT.rs.ru hm'
  generalize g.rs[m] = r at *
  obtain ⟨a, ha⟩ : ∃ a : Nat, r.l = a := ⟨r.l.toNat, by omega⟩
  have haN : a < N := by omega
  refine s_idx h0 (by omega) (by omega) ?_
  simp -implicitDefEqProofs only [go_sem,zA,zB,zC,zD,zE,reduceCtorEq,↓reduceIte,zF,zG,zH,zI]
  refine s_ld0 (by simpa using hcr _ (lk_r [gW] _)) (by simp) (by simp) ?_
  simp -implicitDefEqProofs only [go_sem,zA,zB,zC,zD,zE,reduceCtorEq,↓reduceIte,zF,zG,zH,zI]
  intro bx
  rw [ha]
  refine s_loop (fun f2 vs Γ => ∃ (i : Nat) (gW : PH) (W2 : List (List Bool)), vs = [.v true (.int .i64 i)] ∧ Γ = [gW] ∧ i + f2 = r.r.length ∧ Grid gW bW 22 4 W2 ∧ Sq N W2 ∧ ∀ x y, mat W2 x y = true ↔ mat W x y = true ∨ (x = a ∧ SameR H k r.r i y)) r.r.length
   (Up.here ⟨0, gW, W, rfl, rfl, by omega, hG, hQ, fun x y => ⟨fun h => .inl h, fun h => h.elim id fun ⟨_, i, s, h, _⟩ => by omega⟩⟩) ?_
  clear hG
  rintro f2 vs Γ ⟨i, gW, W2, rfl, rfl, hif, hG, hQ2, hm2⟩
  simp -implicitDefEqProofs only [S187_4, go_sem,zA,zB,zC,zD,zE,reduceCtorEq,↓reduceIte,zF,zG,zH,zI]
  refine ⟨fun hlt => ?_, fun hge => ?_⟩
  ·have hi : i < r.r.length := by omega
   have hs := hsym _ (List.getElem_mem hi)
   have hri := List.getElem?_eq_getElem hi
   obtain ⟨b3, o3, h3, hc3⟩ := hr1.sy hi
   generalize r.r[i] = s at *
   have hsucc := fun y => SameR.succ (H := H) (k := k) hri y
   refine s_split ?_
   simp -implicitDefEqProofs only [S187_2, go_sem,zA,zB,zC,zD,zE,reduceCtorEq,↓reduceIte,zF,zG,zH,zI]
   refine s_idx h3 (by omega) (by omega) ?_
   simp -implicitDefEqProofs only [go_sem,zA,zB,zC,zD,zE,reduceCtorEq,↓reduceIte,zF,zG,zH,zI]
   refine s_ld0 (by simpa using hc3 _ (lk_r [gW] _)) (by simp) (by simp) ?_
   simp -implicitDefEqProofs only [go_sem,zA,zB,zC,zD,zE,reduceCtorEq,↓reduceIte,zF,zG,zH,zI]
   intro bs
   obtain ⟨st, sn⟩ := s
   cases st with
   | true =>
    simp -implicitDefEqProofs only [go_sem,zA,zB,zC,zD,zE,reduceCtorEq,↓reduceIte,zF,zG,zH,zI]
    refine s_ldg0 (cs := [.slice none 0 0]) (by simp) (by simp) (by simp) (by simp) ?_
    simp -implicitDefEqProofs only [go_sem,zA,zB,zC,zD,zE,reduceCtorEq,↓reduceIte,zF,zG,zH,zI]
    refine s_idxg (b := 0) (o := 0) (by simp) ?_
    simp -implicitDefEqProofs only [go_sem,zA,zB,zC,zD,zE,reduceCtorEq,↓reduceIte,zF,zG,zH,zI]
    refine s_ldg0 (cs := [.slice none 0 0]) (by simp) (by simp) (by simp) (by simp) ?_
    simp -implicitDefEqProofs only [go_sem,zA,zB,zC,zD,zE,reduceCtorEq,↓reduceIte,zF,zG,zH,zI]
    refine s_idxg (b := 0) (o := 0) (by simp) ?_
    simp -implicitDefEqProofs only [go_sem,zA,zB,zC,zD,zE,reduceCtorEq,↓reduceIte,zF,zG,zH,zI]
    refine s_ldg0 (cs := [.bool false]) (by simp) (by simp) (by simp) (by simp) ?_
    simp -implicitDefEqProofs only [go_sem,zA,zB,zC,zD,zE,reduceCtorEq,↓reduceIte,zF,zG,zH,zI]
    simp -implicitDefEqProofs only [S187_3, go_sem,zA,zB,zC,zD,zE,reduceCtorEq,↓reduceIte,zF,zG,zH,zI]
    simp (disch := omega) only [wrap_id]
    refine Up.here ⟨f2 - 1, by omega, Up.here ⟨i + 1, gW, W2, rfl, rfl, by omega, hG, hQ2, fun x y => ?_⟩⟩
    rw [hm2, hsucc]
    simp
   | false =>
    have hs : 0 ≤ sn ∧ sn < g.ns := ⟨hs.1, hs.2.2 rfl⟩
    obtain ⟨c, rfl⟩ : ∃ c : Nat, sn = c := ⟨sn.toNat, by omega⟩
    have hHl := hS.1
    have hHr := hS.at' (i := c) (by omega)
    obtain ⟨b1, o1, h1, A5, c5, hr5, hc5⟩ := hH.list (i := c) (by omega)
    obtain ⟨b6, o6, h6, hc6⟩ := hr5.bool (i := k) (by omega)
    have hgh := mat_get (List.getElem?_eq_getElem (show c < H.length by omega)) (show k < H[c].length by omega)
    simp -implicitDefEqProofs only [go_sem,zA,zB,zC,zD,zE,reduceCtorEq,↓reduceIte,zF,zG,zH,zI]
    refine s_ld (j := 5) (cells_lk (lk_r [gW] _ _ _ hT.out)) (by simp [Tb.cells]) (by simp) ?_
    simp -implicitDefEqProofs only [Tb.cells, go_sem,zA,zB,zC,zD,zE,reduceCtorEq,↓reduceIte,zF,zG,zH,zI]
    refine s_idx h1 (by omega) (by omega) ?_
    simp -implicitDefEqProofs only [go_sem,zA,zB,zC,zD,zE,reduceCtorEq,↓reduceIte,zF,zG,zH,zI]
    refine s_ld0 (hc5 _ (lk_r [gW] _)) (by simp) (by simp) ?_
    simp -implicitDefEqProofs only [go_sem,zA,zB,zC,zD,zE,reduceCtorEq,↓reduceIte,zF,zG,zH,zI]
    refine s_idx h6 (by omega) (by omega) ?_
    simp -implicitDefEqProofs only [go_sem,zA,zB,zC,zD,zE,reduceCtorEq,↓reduceIte,zF,zG,zH,zI]
    refine s_ld0 (hc6 _ (lk_r [gW] _)) (by simp) (by simp) ?_
    generalize H[c][k] = v0 at hgh
    cases v0 with
    | false =>
     simp -implicitDefEqProofs only [S187_3, go_sem,zA,zB,zC,zD,zE,reduceCtorEq,↓reduceIte,zF,zG,zH,zI]
     simp (disch := omega) only [wrap_id]
     refine Up.here ⟨f2 - 1, by omega, Up.here ⟨i + 1, gW, W2, rfl, rfl, by omega, hG, hQ2, fun x y => ?_⟩⟩
     rw [hm2, hsucc]
     refine ⟨fun h => h.elim .inl fun h => .inr ⟨h.1, .inl h.2⟩, fun h => h.elim .inl fun h => ?_⟩
     rcases h with ⟨e, h | ⟨_, q1, q2, _⟩⟩
     ·exact .inr ⟨e, h⟩
     ·have q1 : (c : Int) = (y : Int) := q1
      have : c = y := by omega
      subst this
      rw [hgh] at q2
      cases q2
    | true =>
     simp -implicitDefEqProofs only [go_sem,zA,zB,zC,zD,zE,reduceCtorEq,↓reduceIte,zF,zG,zH,zI]
     refine s_loop (fun f3 vs Γ => ∃ (j : Nat) (ok : Bool), vs = [.v true (.bool ok), .v true (.int .i64 j)] ∧ Γ = [gW] ∧ j + f3 = r.r.length ∧ (ok = true ↔ ∀ j' s', j' < j → r.r[j']? = some s' → j' ≠ i → symB H s' 0 = true)) r.r.length
      (Up.here ⟨0, true, rfl, rfl, by omega, by simp⟩) ?_
     rintro f3 vs Γ ⟨j, ok, rfl, rfl, hjf, hok⟩
     simp -implicitDefEqProofs only [S187_1, go_sem,zA,zB,zC,zD,zE,reduceCtorEq,↓reduceIte,zF,zG,zH,zI]
     refine ⟨fun hlt => ?_, fun hge => ?_⟩
     ·have hj : j < r.r.length := by omega
      have hs' := hsym _ (List.getElem_mem hj)
      have hrj := List.getElem?_eq_getElem hj
      obtain ⟨b8, o8, h8, hc8⟩ := hr1.sy hj
      generalize r.r[j] = s' at *
      have hnext : ∀ v : Bool, (v = true ↔ ok = true ∧ (j ≠ i → symB H s' 0 = true)) → (v = true ↔ ∀ j' s', j' < j + 1 → r.r[j']? = some s' → j' ≠ i → symB H s' 0 = true) := by
       intro v hv
       rw [hv, hok]
       refine ⟨fun ⟨q1, q2⟩ j' s2 w1 w2 w3 => ?_, fun q => ⟨fun j' s2 w1 w2 w3 => q j' s2 (by omega) w2 w3, fun w => q j s' (by omega) hrj w⟩⟩
       rcases Nat.lt_or_ge j' j with e | e
       ·exact q1 j' s2 e w2 w3
       ·have : j' = j := by omega
        subst this
        rw [hrj] at w2
        cases w2
        exact q2 w3
      refine s_idx h8 (by omega) (by omega) ?_
      simp -implicitDefEqProofs only [go_sem,zA,zB,zC,zD,zE,reduceCtorEq,↓reduceIte,zF,zG,zH,zI]
      refine s_ld0 (by simpa using hc8 _ (lk_r [gW] _)) (by simp) (by simp) ?_
      simp -implicitDefEqProofs only [go_sem,zA,zB,zC,zD,zE,reduceCtorEq,↓reduceIte,zF,zG,zH,zI]
      intro bj
      cases ok with
      | false =>
       simp -implicitDefEqProofs only [go_sem,zA,zB,zC,zD,zE,reduceCtorEq,↓reduceIte,zF,zG,zH,zI]
       simp (disch := omega) only [wrap_id]
       exact ⟨.bool false, f3 - 1, by omega, Up.here ⟨j + 1, false, rfl, rfl, by omega, hnext false (by simp)⟩⟩
      | true =>
       by_cases hji : j = i
       ·have hnext1 := hnext true (by simp [hji])
        subst hji
        simp -implicitDefEqProofs only [go_sem,zA,zB,zC,zD,zE,reduceCtorEq,↓reduceIte,zF,zG,zH,zI]
        simp (disch := omega) only [wrap_id]
        exact ⟨.bool false, f3 - 1, by omega, Up.here ⟨j + 1, true, rfl, rfl, by omega, hnext1⟩⟩
       ·rw [show decide ((j : Int) = (i : Int)) = false from decide_eq_false (by omega)]
        simp -implicitDefEqProofs only [go_sem,zA,zB,zC,zD,zE,reduceCtorEq,↓reduceIte,zF,zG,zH,zI]
        refine fun hq => ⟨hq, ?_⟩
        refine CallVC.read (tab_sym (Γr := [gW] ++ Γr) (hT.mono (lk_r [gW] _)) (by rw [hN']; exact hH.mono (lk_r [gW] _)) (by rw [hN']; exact hS) (fun h => ⟨hs'.1, hs'.2.2 h⟩) (k := 0) (by omega) hn) ?_
        rintro v Γ' ⟨rfl, rfl⟩
        simp -implicitDefEqProofs only [go_sem,zA,zB,zC,zD,zE,reduceCtorEq,↓reduceIte,zF,zG,zH,zI]
        simp (disch := omega) only [wrap_id]
        exact ⟨f3 - 1, by omega, Up.here ⟨j + 1, symB H s' 0, rfl, rfl, by omega, hnext _ (by simp [hji])⟩⟩
     ·have hje : j = r.r.length := by omega
      have hok' : ok = true ↔ ∀ j s', r.r[j]? = some s' → j ≠ i → symB H s' 0 = true := by
       rw [hok]
       exact ⟨fun q j' s' w1 w2 => q j' s' (by rw [hje]; exact (List.getElem?_eq_some_iff.1 w1).1) w1 w2, fun q j' s' _ w1 w2 => q j' s' w1 w2⟩
      have hWl := hQ2.len
      have hWr := hQ2.at' (b := a) (by omega)
      obtain ⟨kw, hcw, hAw, hpw⟩ := hG.at' (i := a) (by omega) (by omega)
      rw [hWr] at hcw
      have hgw := mat_get (List.getElem?_eq_getElem (show a < W2.length by omega)) (show c < W2[a].length by omega)
      have fin : ∀ (v : Bool) (g2 : PH), Arr g2 kw 4 (W2[a].set c v) → (∀ x, x ≠ kw → g2 x = gW x) → (v = true ↔ mat W2 a c = true ∨ ok = true) →
        ∃ n', n' < f2 ∧ Up [g2] (fun Γ => ∃ (i' : Nat) (gW : PH) (W3 : List (List Bool)), [Sl.v true (.int .i64 ((i : Int) + 1))] = [.v true (.int .i64 i')] ∧ Γ = [gW] ∧ i' + n' = r.r.length ∧ Grid gW bW 22 4 W3 ∧ Sq N W3 ∧ ∀ x y, mat W3 x y = true ↔ mat W x y = true ∨ (x = a ∧ SameR H k r.r i' y)) := by
       intro v g2 hA2 ho2 hv
       have hm3 := mat_setS hQ2.shp (x := a) (y := c) (by omega) (by omega) v
       rw [show W2.getD a [] = W2[a] by simp [List.getD_eq_getElem?_getD, show a < W2.length by omega]] at hm3
       have hS3 : Shp N N (W2.set a (W2[a].set c v)) := hQ2.shp.set a (by simp [hWr])
       refine ⟨f2 - 1, by omega, Up.here ⟨i + 1, g2, _, rfl, rfl, by omega, hpw g2 _ hA2 (by simp) ho2, ⟨hS3.1, hS3.2⟩, fun x y => ?_⟩⟩
       rw [hm3]
       by_cases e : x = a ∧ y = c
       ·obtain ⟨rfl, rfl⟩ := e
        rw [if_pos ⟨rfl, rfl⟩, hv, hm2, hsucc, hok']
        constructor
        ·rintro ((q | ⟨q1, q2⟩) | q)
         ·exact .inl q
         ·exact .inr ⟨q1, .inl q2⟩
         ·exact .inr ⟨rfl, .inr ⟨rfl, rfl, hgh, q⟩⟩
        ·rintro (q | ⟨q1, q2 | ⟨_, _, _, q2⟩⟩)
         ·exact .inl (.inl q)
         ·exact .inl (.inr ⟨q1, q2⟩)
         ·exact .inr q2
       ·rw [if_neg e, hm2, hsucc]
        refine ⟨fun h => h.elim .inl fun h => .inr ⟨h.1, .inl h.2⟩, fun h => h.elim .inl fun h => ?_⟩
        rcases h with ⟨e', h | ⟨_, q1, q2, _⟩⟩
        ·exact .inr ⟨e', h⟩
        ·have q1 : (c : Int) = (y : Int) := q1
         exact absurd ⟨e', by omega⟩ e
      refine s_idx rfl (by omega) (by omega) ?_
      simp -implicitDefEqProofs only [go_sem,zA,zB,zC,zD,zE,reduceCtorEq,↓reduceIte,zF,zG,zH,zI]
      refine s_ld0 (by simpa using hcw _ (by simp)) (by simp) (by simp) ?_
      simp -implicitDefEqProofs only [go_sem,zA,zB,zC,zD,zE,reduceCtorEq,↓reduceIte,zF,zG,zH,zI]
      refine s_idx rfl (by omega) (by omega) ?_
      simp -implicitDefEqProofs only [go_sem,zA,zB,zC,zD,zE,reduceCtorEq,↓reduceIte,zF,zG,zH,zI]
      refine s_ld0 (by simpa using hcw _ (by simp)) (by simp) (by simp) ?_
      simp -implicitDefEqProofs only [go_sem,zA,zB,zC,zD,zE,reduceCtorEq,↓reduceIte,zF,zG,zH,zI]
      refine s_idx rfl (by omega) (by omega) ?_
      simp -implicitDefEqProofs only [go_sem,zA,zB,zC,zD,zE,reduceCtorEq,↓reduceIte,zF,zG,zH,zI]
      refine s_ld0 (hAw.bool (i := c) (by omega) (by simp)) (by simp) (by simp) ?_
      generalize W2[a][c] = v1 at hgw fin
      cases v1 with
      | true =>
       simp -implicitDefEqProofs only [go_sem,zA,zB,zC,zD,zE,reduceCtorEq,↓reduceIte,zF,zG,zH,zI]
       refine s_idx rfl (by omega) (by omega) ?_
       simp -implicitDefEqProofs only [go_sem,zA,zB,zC,zD,zE,reduceCtorEq,↓reduceIte,zF,zG,zH,zI]
       refine s_storeA (ix := 0) (α := Bool) true rfl hAw (i := c) (by omega) ?_
       intro g2 hA2 ho2
       simp -implicitDefEqProofs only [S187_3, go_sem,zA,zB,zC,zD,zE,reduceCtorEq,↓reduceIte,zF,zG,zH,zI]
       simp (disch := omega) only [wrap_id]
       exact Up.here (fin true g2 hA2 ho2 (by simp [hgw]))
      | false =>
       simp -implicitDefEqProofs only [go_sem,zA,zB,zC,zD,zE,reduceCtorEq,↓reduceIte,zF,zG,zH,zI]
       refine s_idx rfl (by omega) (by omega) ?_
       simp -implicitDefEqProofs only [go_sem,zA,zB,zC,zD,zE,reduceCtorEq,↓reduceIte,zF,zG,zH,zI]
       refine s_storeA (ix := 0) (α := Bool) ok rfl hAw (i := c) (by omega) ?_
       intro g2 hA2 ho2
       simp -implicitDefEqProofs only [S187_3, go_sem,zA,zB,zC,zD,zE,reduceCtorEq,↓reduceIte,zF,zG,zH,zI]
       simp (disch := omega) only [wrap_id]
       exact Up.here (fin ok g2 hA2 ho2 (by simp [hgw]))
  ·have hie : i = r.r.length := by omega
   subst hie
   simp (disch := omega) only [wrap_id]
   refine ⟨f - 1, by omega, Up.here ⟨m + 1, gW, W2, rfl, rfl, by omega, hG, hQ2, fun x y => ?_⟩⟩
   rw [hm2, hm]
   unfold SameE
   rw [htk]
   constructor
   ·rintro (⟨r', q1, q2⟩ | ⟨rfl, q⟩)
    ·exact ⟨r', by simp [q1], q2⟩
    ·exact ⟨r, by simp, ha, q⟩
   ·rintro ⟨r', q1, q2, q3⟩
    rcases List.mem_append.1 q1 with q1 | q1
    ·exact .inl ⟨r', q1, q2, q3⟩
    ·simp only [List.mem_singleton] at q1
     subst q1
     exact .inr ⟨by omega, q3⟩
 ·have hme : m = g.rs.length := by omega
  subst hme
  refine Up.here ?_
  subst hR
  exact ⟨gW, bW, W, rfl, by rfl, hG, hQ, hm⟩
/- The text of (*parlance/census.table).endless as a statement; no condition. -/
def S188_1 : Stmt :=
 .block 1
 (.seq
 (.region [oq 44 (.mv (.tmp 42)),oq 10 (.mv (.tmp 44))]
 [0,1,2,3,9,10,41,42])
 (.seq
 (.seq
 (.region
 [oq 45 (.mv (.tmp 0)),oq 46 (.mv (.tmp 9)),
 oq 47 (.mv (.tmp 2)),
 oq 48 (.idx 2 (.tmp 46) (.tmp 47)),
 oq 49 (.load true 2 (.tmp 48)),
 oq 50 (.mv (.tmp 10)),
 oq 51 (.call (.func 207) [.tmp 45,.tmp 49,.tmp 50]),
 oq 52 (.un .not (.tmp 51)),
 oq 53 (.mv (.tmp 52)),
 .mk (some 54) (some (53,false)) (.mv (.tmp 0)),
 .mk (some 55) (some (53,false)) (.nilCheck (.tmp 54)),
 .mk (some 56) (some (53,false)) (.fld 8 (.tmp 55)),
 .mk (some 57) (some (53,false)) (.load false 1 (.tmp 56)),
 .mk (some 58) (some (53,false)) (.mv (.tmp 1)),
 .mk (some 59) (some (53,false)) (.idx 1 (.tmp 57) (.tmp 58)),
 .mk (some 60) (some (53,false)) (.load false 1 (.tmp 59)),
 .mk (some 61) (some (53,false)) (.mv (.tmp 2)),
 .mk (some 62) (some (53,false))
 (.ibin .add (.tmp 61) (.const (.int .i64 1))),
 .mk (some 63) (some (53,false)) (.idx 1 (.tmp 60) (.tmp 62)),
 .mk (some 64) (some (53,false)) (.load false 1 (.tmp 63)),
 .mk (some 65) (some (53,false)) (.mv (.tmp 3)),
 .mk (some 66) (some (53,false)) (.mv (.tmp 10)),
 .mk (some 67) (some (53,false)) (.ibin .sub (.tmp 65) (.tmp 66)),
 .mk (some 68) (some (53,false)) (.idx 1 (.tmp 64) (.tmp 67)),
 .mk (some 69) (some (53,false)) (.load false 1 (.tmp 68)),
 .mk (some 70) (some (53,false)) (.un .not (.tmp 69)),
 oq 71 (.pick (.tmp 53) (.const (.bool true)) (.tmp 70))]
 [0,1,2,3,9,10,41,42,71])
 (.cond (.tmp 71) (.exit 1) .skip))
 (.seq
 (.drawn
 [(false,oq 72 (.mv (.tmp 9))),
 (false,oq 73 (.mv (.tmp 2))),
 (false,oq 74 (.idx 2 (.tmp 72) (.tmp 73))),
 (false,oq 75 (.fld 0 (.tmp 74))),
 (false,oq 76 (.load false 1 (.tmp 75))),
 (false,oq 77 (.un .not (.tmp 76))),
 (false,oq 78 (.mv (.tmp 77))),
 (false,.mk (some 79) (some (78,true)) (.mv (.tmp 0))),
 (false,.mk (some 80) (some (78,true)) (.nilCheck (.tmp 79))),
 (false,.mk (some 81) (some (78,true)) (.fld 6 (.tmp 80))),
 (false,.mk (some 82) (some (78,true)) (.load false 1 (.tmp 81))),
 (false,.mk (some 83) (some (78,true)) (.mv (.tmp 9))),
 (false,.mk (some 84) (some (78,true)) (.mv (.tmp 2))),
 (false,.mk (some 85) (some (78,true)) (.idx 2 (.tmp 83) (.tmp 84))),
 (false,.mk (some 86) (some (78,true)) (.fld 1 (.tmp 85))),
 (false,.mk (some 87) (some (78,true)) (.load false 1 (.tmp 86))),
 (false,.mk (some 88) (some (78,true)) (.idx 1 (.tmp 82) (.tmp 87))),
 (false,.mk (some 89) (some (78,true)) (.load false 1 (.tmp 88))),
 (false,.mk (some 90) (some (78,true)) (.mv (.tmp 10))),
 (false,.mk (some 91) (some (78,true)) (.idx 1 (.tmp 89) (.tmp 90))),
 (false,.mk (some 92) (some (78,true)) (.load false 1 (.tmp 91))),
 (false,
 oq 93 (.pick (.tmp 78) (.tmp 92) (.const (.bool false)))),
 (false,oq 94 (.mv (.tmp 93))),
 (false,.mk (some 95) (some (94,false)) (.mv (.tmp 0))),
 (false,.mk (some 96) (some (94,false)) (.mv (.tmp 1))),
 (false,.mk (some 97) (some (94,false)) (.mv (.tmp 2))),
 (false,
 .mk (some 98) (some (94,false))
 (.ibin .add (.tmp 97) (.const (.int .i64 1)))),
 (false,.mk (some 99) (some (94,false)) (.mv (.tmp 3))),
 (false,.mk (some 100) (some (94,false)) (.mv (.tmp 10))),
 (false,.mk (some 101) (some (94,false)) (.ibin .sub (.tmp 99) (.tmp 100))),
 (false,
 .mk (some 102) (some (94,false))
 (.call (.func 188) [.tmp 95,.tmp 96,.tmp 98,.tmp 101])),
 (false,
 oq 103 (.pick (.tmp 94) (.const (.bool true)) (.tmp 102)))]
 [0,1,2,3,9,41,42,103])
 (.cond (.tmp 103)
 (.seq (.region [oq 8 (.mv (.const (.bool true)))] [8]) .ret)
 .skip))))
def S188_2 : Stmt :=
 .region
 [oq 104 (.ibin .add (.tmp 42) (.const (.int .i64 1))),
 oq 42 (.mv (.tmp 104))]
 [0,1,2,3,9,41,42]
def S188_3 : Stmt :=
 .seq
 (.region [oq 43 (.ibin .lss (.tmp 42) (.tmp 41))]
 [0,1,2,3,9,41,42,43])
 (.seq (.cond (.tmp 43) .skip (.exit 0)) (.join S188_1 S188_2 [] [0,1,2,3,9,41,42]))
def S188_0 : Stmt :=
 .seq (.region [oq 8 (.mv (.const (.bool false)))] [0,1,2,3])
 (.seq
 (.region
 [oq 11 (.mv (.tmp 0)),oq 12 (.nilCheck (.tmp 11)),
 oq 13 (.fld 0 (.tmp 12)),oq 14 (.fld 3 (.tmp 13)),
 oq 15 (.load false 1 (.tmp 14)),oq 16 (.mv (.tmp 1)),
 oq 17 (.idx 2 (.tmp 15) (.tmp 16)),
 oq 18 (.fld 1 (.tmp 17)),
 oq 19 (.load false 1 (.tmp 18)),oq 9 (.mv (.tmp 19))]
 [0,1,2,3,9])
 (.seq
 (.seq
 (.region
 [oq 20 (.mv (.tmp 2)),oq 21 (.mv (.tmp 9)),
 oq 22 (.len false (.tmp 21)),
 oq 23 (.ibin .eql (.tmp 20) (.tmp 22)),
 oq 24 (.mv (.tmp 23)),
 .mk (some 25) (some (24,false)) (.mv (.tmp 0)),
 .mk (some 26) (some (24,false)) (.nilCheck (.tmp 25)),
 .mk (some 27) (some (24,false)) (.fld 8 (.tmp 26)),
 .mk (some 28) (some (24,false)) (.load false 1 (.tmp 27)),
 .mk (some 29) (some (24,false)) (.mv (.tmp 1)),
 .mk (some 30) (some (24,false)) (.idx 1 (.tmp 28) (.tmp 29)),
 .mk (some 31) (some (24,false)) (.load false 1 (.tmp 30)),
 .mk (some 32) (some (24,false)) (.mv (.tmp 2)),
 .mk (some 33) (some (24,false)) (.idx 1 (.tmp 31) (.tmp 32)),
 .mk (some 34) (some (24,false)) (.load false 1 (.tmp 33)),
 .mk (some 35) (some (24,false)) (.mv (.tmp 3)),
 .mk (some 36) (some (24,false)) (.idx 1 (.tmp 34) (.tmp 35)),
 .mk (some 37) (some (24,false)) (.load false 1 (.tmp 36)),
 .mk (some 38) (some (24,false)) (.un .not (.tmp 37)),
 oq 39 (.pick (.tmp 24) (.const (.bool true)) (.tmp 38))]
 [0,1,2,3,9,39])
 (.cond (.tmp 39)
 (.seq (.region [oq 8 (.mv (.const (.bool false)))] [8]) .ret)
 .skip))
 (.seq
 (.seq
 (.region
 [oq 40 (.mv (.tmp 3)),
 oq 41 (.ibin .add (.tmp 40) (.const (.int .i64 1))),
 oq 42 (.mv (.const (.int .i64 0)))]
 [0,1,2,3,9,41,42])
 (.block 0 (.loop S188_3 [42] [0,1,2,3,9,41])))
 (.seq (.region [oq 8 (.mv (.const (.bool false)))] [8]) .ret))))
def S188 : FnS := ⟨105,[(8,none)],S188_0⟩
theorem tr188 : trFn Try.prog 188 [] [[0,1,2,3],[0,1,2,3,9],[0,1,2,3,9,39],[8],[0,1,2,3,9,41,42],[42],[0,1,2,3,9,41],[0,1,2,3,9,41,42,43],[],[0,1,2,3,9,41,42],[0,1,2,3,9,10,41,42],[0,1,2,3,9,10,41,42,71],[0,1,2,3,9,41,42,103],[0,1,2,3,4,5,6,7,8,9,10,11,12,13,14,15,16,17,18,19,20,21,22,23,24,25,26,27,28,29,30,31],[],[],[],[0,1],[0,1,2],[0,1,2,3],[0,1,2,3,4],[0,1,2,3,4,5],[0,1,2,3,4,5,6],[0,1,2,3,4,5,6,7],[0,1,2,3,4,5,6,7,8],[0,1,2,3,4,5,6,7,8,9],[0,1,2,3,4,5,6],[0,1,2,3,4,5,6],[0,1,2,3,4,5,6,11,12],[0,1,2,3,4,5,6,11,12,13],[0,1,2,3,4,5,6,11,12,13,14],[0,1,2,3,4,5,6,7,8,9,10,11,12,13,14,15],[0,1,2,3,4,5,6,7,8,9,10,11,12,13,14,15,16],[0,1,2,3,4,5,6],[0,1,2,3,4,5,6,7,8,9,10,11,12,13,14,15,16,17,18],[0,1,2,3,4,5,6,7,8,9,10,11,12,13,14,15,16,17,18,19],[0,1,2,3,4,5,6,7,8,9,10,11,12,13,14,15,16,17,18,19,20],[0,1,2,3,4,5,6,7,8,9,10,11,12,13,14,15,16,17,18,19,20,21],[0,1,2,3,4,5,6,7,8,9,10,11,12,13,14,15,16,17,18,19,20,21,22],[0,1,2,3,4,5,6,7,8,9,10,11,12,13,14,15,16,17,18,19,20,21,22],[0,1,2,3,4,5,6,7,8,9,10,11,12,13,14,15,16,17,18,19,20,21,22],[0,1,2,3,4,5,6,7,8,9,10,11,12,13,14,15,16,17,18,19,20,21,22,25],[0,1,2,3,4,5,6,7,8,9,10,11,12,13,14,15,16,17,18,19,20,21,22],[0,1,2,3,4,5,6,7,8,9,10,11,12,13,14,15,16,17,18,19,20,21,22],[0,1,2,3,4,5,6,7,8,9,10,11,12,13,14,15,16,17,18,19,20,21,22,27,28],[0,1,2,3,4,5,6,7,8,9,10,11,12,13,14,15,16,17,18,19,20,21,22,23,24,25,26,27,28,29],[0,1,2,3,4,5,6,7,8,9,10,11,12,13,14,15,16,17,18,19,20,21,22,23,24,25,26,27,28,29,30],[8],[0,1,2,3,9,41,42],[8]] = some S188 := by kernel_rfl
/- census: endless walked; no condition. -/
theorem Cube.rd {g : PH} {T e : TypeId} {bs : List Nat} {x3 : List (List (List Bool))} (h : Cube g T e bs x3) {i p b k m : Nat} {rows : List (List Bool)} (hb : bs[i]? = some b) (hi : x3[i]? = some rows) {a : Nat} (hS : Shp a m rows) (hp : p < a) (hk : k < m) :
  ∃ kp, (∀ Γ : Ctx, Mem.le (lk [g]) (lk Γ) → Cells Γ b p [.slice (some ⟨kp, 0, none⟩) m m] ∧ Cells Γ kp k [.bool (mat rows p k)]) := by
 have hl := hS.1
 have hr := hS.at' (i := p) (by omega)
 obtain ⟨kp, h1, h2, _⟩ := h.at' hb hi (p := p) (by omega) (by omega)
 refine ⟨kp, fun Γ hΓ => ⟨by have := h1 Γ hΓ; rwa [hr] at this, ?_⟩⟩
 rw [mat_get (List.getElem?_eq_getElem (show p < rows.length by omega)) (show k < rows[p].length by omega)]
 exact cells_up (h2.bool (i := k) (by omega) (Γ := [g]) (by simp)) hΓ
/-- some tree of the symbols with k terminals has one of them that loops -/
def LessP (H L : List (List Bool)) : List Sy → Nat → Prop
 | [], _ => False
 | s :: l, k => ∃ j, j ≤ k ∧ symB H s j = true ∧ RowH H l (k - j) ∧ ((s.t = false ∧ mat L s.n.toNat j = true) ∨ LessP H L l (k - j))
def StepL (H L : List (List Bool)) (s : Sy) (l : List Sy) (k j : Nat) : Prop := symB H s j = true ∧ RowH H l (k - j) ∧ ((s.t = false ∧ mat L s.n.toNat j = true) ∨ LessP H L l (k - j))
theorem LessP.row {H L : List (List Bool)} : ∀ {l : List Sy} {k : Nat}, LessP H L l k → RowH H l k
 | [], _, h => h.elim
 | s :: l, k, ⟨j, h1, h2, h3, _⟩ => ⟨j, h1, h2, h3⟩
theorem tab_endless {t : Tb} {g : Gr} (V : VG g) {n : Nat} {R : Option Addr} {cR : Nat} {H L : List (List Bool)} (hS : Shp g.ns.toNat (n + 1) H) (hSL : Shp g.ns.toNat (n + 1) L) (hn : n ≤ 24) {E : List (List (List Bool))} {i : Nat} (hi : i < g.rs.length) {rows : List (List Bool)} (hEi : E[i]? = some rows)
  (hSr : Shp (g.rs[i].r.length + 1) (n + 1) rows) (hSo : EndS H g.rs[i].r rows) (hC : EndC H n g.rs[i].r rows 0) : ∀ (d p k : Nat), p + d = g.rs[i].r.length → k ≤ n → ∀ {Γr : Ctx} {ge : PH}, TabK (lk Γr) t g n R cR → SlOk (lk Γr) (some ⟨t.bh, 0, none⟩) g.ns.toNat H → SlOk (lk Γr) (some ⟨t.bl, 0, none⟩) g.ns.toNat L →
  Cube ge 22 4 t.be E → Mem.le (lk [ge]) (lk Γr) →
  Ret Try.prog 188 [.pointer (some ⟨t.b, 0, none⟩), .int .i64 (i : Int), .int .i64 (p : Int), .int .i64 (k : Int)] Γr [] (fun v Γ => Γ = [] ∧ ∃ b : Bool, v = .bool b ∧ (b = true ↔ LessP H L (g.rs[i].r.drop p) k)) := by
 intro d
 induction d with
 | zero =>
  intro p k hp hk Γr ge hT hH hL hE hle
  generalize hR : (fun (v : Value) (Γ : Ctx) => Γ = [] ∧ ∃ b : Bool, _) = R'
  refine ret_of_vc tr188 (Nat.le_of_ble_eq_true rfl) ?_
  simp -implicitDefEqProofs only [S188, S188_0, go_sem,zA,zB,zC,zD,zE,reduceCtorEq,↓reduceIte,zF,zG,zH,zI]
  obtain ⟨b0, o0, h0, A1, c1, hr1, hcr⟩ := hT.rs.ru hi
  have hsh := hT.rs.short
  generalize g.rs[i].r = l at *
  refine s_ld (j := 3) (cells_lk hT.out) (by simp [Tb.cells]) (by simp) ?_
  simp -implicitDefEqProofs only [Tb.cells, go_sem,zA,zB,zC,zD,zE,reduceCtorEq,↓reduceIte,zF,zG,zH,zI]
  refine s_idx h0 (by omega) (by omega) ?_
  simp -implicitDefEqProofs only [go_sem,zA,zB,zC,zD,zE,reduceCtorEq,↓reduceIte,zF,zG,zH,zI]
  refine s_ld (j := 1) (by simpa using hcr _ (lk_r [] _)) (by simp) (by simp) ?_
  simp -implicitDefEqProofs only [go_sem,zA,zB,zC,zD,zE,reduceCtorEq,↓reduceIte,zF,zG,zH,zI]
  rw [show (p : Int) = (l.length : Int) by omega]
  simp -implicitDefEqProofs only [decide_true, go_sem,zA,zB,zC,zD,zE,reduceCtorEq,↓reduceIte,zF,zG,zH,zI]
  refine s_ldg (j := 8) (cs := t.cells g n R cR g.rs.length g.rs.length) (by simp) (by simp) (by simp [Tb.cells]) (by simp) ?_
  simp -implicitDefEqProofs only [Tb.cells, go_sem,zA,zB,zC,zD,zE,reduceCtorEq,↓reduceIte,zF,zG,zH,zI]
  refine s_idxg (b := 0) (o := 0) (by simp) ?_
  simp -implicitDefEqProofs only [go_sem,zA,zB,zC,zD,zE,reduceCtorEq,↓reduceIte,zF,zG,zH,zI]
  refine s_ldg0 (cs := [.slice none 0 0]) (by simp) (by simp) (by simp) (by simp) ?_
  simp -implicitDefEqProofs only [go_sem,zA,zB,zC,zD,zE,reduceCtorEq,↓reduceIte,zF,zG,zH,zI]
  refine s_idxg (b := 0) (o := 0) (by simp) ?_
  simp -implicitDefEqProofs only [go_sem,zA,zB,zC,zD,zE,reduceCtorEq,↓reduceIte,zF,zG,zH,zI]
  refine s_ldg0 (cs := [.slice none 0 0]) (by simp) (by simp) (by simp) (by simp) ?_
  simp -implicitDefEqProofs only [go_sem,zA,zB,zC,zD,zE,reduceCtorEq,↓reduceIte,zF,zG,zH,zI]
  refine s_idxg (b := 0) (o := 0) (by simp) ?_
  simp -implicitDefEqProofs only [go_sem,zA,zB,zC,zD,zE,reduceCtorEq,↓reduceIte,zF,zG,zH,zI]
  refine s_ldg0 (cs := [.bool false]) (by simp) (by simp) (by simp) (by simp) ?_
  simp -implicitDefEqProofs only [go_sem,zA,zB,zC,zD,zE,reduceCtorEq,↓reduceIte,zF,zG,zH,zI]
  refine Up.here ?_
  subst hR
  refine ⟨rfl, false, rfl, ?_⟩
  rw [show p = l.length by omega, List.drop_length]
  exact ⟨fun h => (by cases h), fun h => False.elim h⟩
 | succ d ih =>
  intro p k hp hk Γr ge hT hH hL hE hle
  generalize hR : (fun (v : Value) (Γ : Ctx) => Γ = [] ∧ ∃ b : Bool, _) = R'
  refine ret_of_vc tr188 (Nat.le_of_ble_eq_true rfl) ?_
  simp -implicitDefEqProofs only [S188, S188_0, go_sem,zA,zB,zC,zD,zE,reduceCtorEq,↓reduceIte,zF,zG,zH,zI]
  obtain ⟨b0, o0, h0, A1, c1, hr1, hcr⟩ := hT.rs.ru hi
  have hsh := hT.rs.short
  have hr4 := V.right _ (List.getElem_mem hi)
  have hsym := V.sym _ (List.getElem_mem hi)
  have hri := List.getElem?_eq_getElem hi
  obtain ⟨be, hbe⟩ : ∃ be, t.be[i]? = some be := ⟨_, List.getElem?_eq_getElem (by rw [hT.be]; exact hi)⟩
  have hhd := hdG_at hbe hri
  have hdl := hdG_len hT.be
  obtain ⟨b2, o2, h2, hc2⟩ := hT.ends.hd (i := i) (by omega)
  rw [(List.getElem?_eq_some_iff.1 hhd).2] at hc2
  have hEx : ∀ p' k', p' ≤ g.rs[i].r.length → k' ≤ n → (mat rows p' k' = true ↔ RowH H (g.rs[i].r.drop p') k') := fun p' k' h1 h2 => ⟨hSo p' k' h1, hC p' k' (Nat.zero_le _) h1 h2⟩
  generalize g.rs[i].r = l at *
  have hrl : rows.length = l.length + 1 := hSr.1
  have hpl := hSr.at' (i := p) (by omega)
  have hql := hSr.at' (i := p + 1) (by omega)
  have hpd : p < l.length := by omega
  have hdrop : l.drop p = l[p] :: l.drop (p + 1) := List.drop_eq_getElem_cons hpd
  have hs := hsym _ (List.getElem_mem hpd)
  obtain ⟨b3, o3, h3, hc3⟩ := hr1.sy hpd
  generalize l[p] = s at *
  obtain ⟨kp, hrd⟩ := hE.rd hbe hEi hSr (p := p) (k := k) (by omega) (by omega)
  refine s_ld (j := 3) (cells_lk hT.out) (by simp [Tb.cells]) (by simp) ?_
  simp -implicitDefEqProofs only [Tb.cells, go_sem,zA,zB,zC,zD,zE,reduceCtorEq,↓reduceIte,zF,zG,zH,zI]
  refine s_idx h0 (by omega) (by omega) ?_
  simp -implicitDefEqProofs only [go_sem,zA,zB,zC,zD,zE,reduceCtorEq,↓reduceIte,zF,zG,zH,zI]
  refine s_ld (j := 1) (by simpa using hcr _ (lk_r [] _)) (by simp) (by simp) ?_
  simp -implicitDefEqProofs only [go_sem,zA,zB,zC,zD,zE,reduceCtorEq,↓reduceIte,zF,zG,zH,zI]
  rw [show decide ((p : Int) = (l.length : Int)) = false from decide_eq_false (by omega)]
  simp -implicitDefEqProofs only [go_sem,zA,zB,zC,zD,zE,reduceCtorEq,↓reduceIte,zF,zG,zH,zI]
  refine s_ld (j := 8) (cells_lk hT.out) (by simp [Tb.cells]) (by simp) ?_
  simp -implicitDefEqProofs only [Tb.cells, go_sem,zA,zB,zC,zD,zE,reduceCtorEq,↓reduceIte,zF,zG,zH,zI]
  refine s_idx h2 (by omega) (by omega) ?_
  simp -implicitDefEqProofs only [go_sem,zA,zB,zC,zD,zE,reduceCtorEq,↓reduceIte,zF,zG,zH,zI]
  refine s_ld0 (hc2 _ (lk_r [] _)) (by simp) (by simp) ?_
  simp -implicitDefEqProofs only [go_sem,zA,zB,zC,zD,zE,reduceCtorEq,↓reduceIte,zF,zG,zH,zI]
  refine s_idx rfl (by omega) (by omega) ?_
  simp -implicitDefEqProofs only [go_sem,zA,zB,zC,zD,zE,reduceCtorEq,↓reduceIte,zF,zG,zH,zI]
  refine s_ld0 (by simpa using (hrd Γr hle).1) (by simp) (by simp) ?_
  simp -implicitDefEqProofs only [go_sem,zA,zB,zC,zD,zE,reduceCtorEq,↓reduceIte,zF,zG,zH,zI]
  refine s_idx rfl (by omega) (by omega) ?_
  simp -implicitDefEqProofs only [go_sem,zA,zB,zC,zD,zE,reduceCtorEq,↓reduceIte,zF,zG,zH,zI]
  refine s_ld0 (by simpa using (hrd Γr hle).2) (by simp) (by simp) ?_
  simp -implicitDefEqProofs only [go_sem,zA,zB,zC,zD,zE,reduceCtorEq,↓reduceIte,zF,zG,zH,zI]
  have hex0 := hEx p k (by omega) hk
  generalize mat rows p k = v0 at hex0
  cases v0 with
  | false =>
   simp -implicitDefEqProofs only [go_sem,zA,zB,zC,zD,zE,reduceCtorEq,↓reduceIte,zF,zG,zH,zI]
   refine Up.here ?_
   subst hR
   exact ⟨rfl, false, rfl, fun h => (by cases h), fun h => by have := hex0.2 h.row; cases this⟩
  | true =>
   simp -implicitDefEqProofs only [go_sem,zA,zB,zC,zD,zE,reduceCtorEq,↓reduceIte,zF,zG,zH,zI]
   simp (disch := omega) only [wrap_id]
   refine s_loop (fun f vs Γ => ∃ j : Nat, vs = [.v true (.int .i64 (j : Int))] ∧ Γ = [] ∧ j + f = k + 1 ∧ ∀ j', j' < j → ¬ StepL H L s (l.drop (p + 1)) k j') (k + 1)
    (Up.here ⟨0, rfl, rfl, by omega, fun j' h => by omega⟩) ?_
   rintro f vs Γ ⟨j, rfl, rfl, hjf, hno⟩
   simp -implicitDefEqProofs only [S188_3, go_sem,zA,zB,zC,zD,zE,reduceCtorEq,↓reduceIte,zF,zG,zH,zI]
   refine ⟨fun hlt => ?_, fun hge => ?_⟩
   ·have hj : j ≤ k := by omega
    refine s_split ?_
    simp -implicitDefEqProofs only [S188_1, go_sem,zA,zB,zC,zD,zE,reduceCtorEq,↓reduceIte,zF,zG,zH,zI]
    refine s_idx h3 (by omega) (by omega) ?_
    simp -implicitDefEqProofs only [go_sem,zA,zB,zC,zD,zE,reduceCtorEq,↓reduceIte,zF,zG,zH,zI]
    refine s_ld0 (by simpa using hc3 _ (lk_r [] _)) (by simp) (by simp) ?_
    simp -implicitDefEqProofs only [go_sem,zA,zB,zC,zD,zE,reduceCtorEq,↓reduceIte,zF,zG,zH,zI]
    refine CallVC.read (tab_sym (Γr := [] ++ Γr) hT hH hS (fun h => ⟨hs.1, hs.2.2 h⟩) (k := j) (by omega) hn) ?_
    rintro v Γ' ⟨rfl, rfl⟩
    have skip : (symB H s j = true → RowH H (l.drop (p + 1)) (k - j) → (s.t = false ∧ mat L s.n.toNat j = true) ∨ LessP H L (l.drop (p + 1)) (k - j) → False) → ∀ j', j' < j + 1 → ¬ StepL H L s (l.drop (p + 1)) k j' := by
     intro q j' w1 ⟨w2, w3, w4⟩
     rcases Nat.lt_or_ge j' j with e | e
     ·exact hno j' e ⟨w2, w3, w4⟩
     ·have : j' = j := by omega
      subst this
      exact q w2 w3 w4
    have fin : ∀ (v : Bool), (v = true ↔ LessP H L (l.drop (p + 1)) (k - j)) → symB H s j = true → RowH H (l.drop (p + 1)) (k - j) → (s.t = false → mat L s.n.toNat j = false) →
      (v = true → Up [] (R' (.bool true))) ∧ (v = false → Up [] (fun Γ => ∃ n', n' < f ∧ Up Γ (fun Γ => ∃ j' : Nat, [Sl.v true (.int .i64 ((j : Int) + 1))] = [.v true (.int .i64 (j' : Int))] ∧ Γ = [] ∧ j' + n' = k + 1 ∧ ∀ j2, j2 < j' → ¬ StepL H L s (l.drop (p + 1)) k j2))) := by
     intro v hv h1 h2 h3
     refine ⟨fun q => Up.here ?_, fun q => Up.here ⟨f - 1, by omega, Up.here ⟨j + 1, rfl, rfl, by omega, skip fun _ _ w => ?_⟩⟩⟩
     ·subst hR
      refine ⟨rfl, true, rfl, fun _ => ?_, fun _ => rfl⟩
      rw [hdrop]
      exact ⟨j, hj, h1, h2, .inr (hv.1 q)⟩
     ·rcases w with ⟨e, w⟩ | w
      ·rw [h3 e] at w; cases w
      ·rw [hv.2 w] at q; cases q
    revert skip fin
    generalize hsv : symB H s j = sv
    intro skip fin
    cases sv with
    | false =>
     simp -implicitDefEqProofs only [go_sem,zA,zB,zC,zD,zE,reduceCtorEq,↓reduceIte,zF,zG,zH,zI]
     refine s_ldg0 (cs := [.slice none 0 0]) (by simp) (by simp) (by simp) (by simp) ?_
     simp -implicitDefEqProofs only [go_sem,zA,zB,zC,zD,zE,reduceCtorEq,↓reduceIte,zF,zG,zH,zI]
     refine s_idxg (b := 0) (o := 0) (by simp) ?_
     simp -implicitDefEqProofs only [go_sem,zA,zB,zC,zD,zE,reduceCtorEq,↓reduceIte,zF,zG,zH,zI]
     refine s_ldg0 (cs := [.slice none 0 0]) (by simp) (by simp) (by simp) (by simp) ?_
     simp -implicitDefEqProofs only [go_sem,zA,zB,zC,zD,zE,reduceCtorEq,↓reduceIte,zF,zG,zH,zI]
     refine s_idxg (b := 0) (o := 0) (by simp) ?_
     simp -implicitDefEqProofs only [go_sem,zA,zB,zC,zD,zE,reduceCtorEq,↓reduceIte,zF,zG,zH,zI]
     refine s_ldg0 (cs := [.slice none 0 0]) (by simp) (by simp) (by simp) (by simp) ?_
     simp -implicitDefEqProofs only [go_sem,zA,zB,zC,zD,zE,reduceCtorEq,↓reduceIte,zF,zG,zH,zI]
     refine s_idxg (b := 0) (o := 0) (by simp) ?_
     simp -implicitDefEqProofs only [go_sem,zA,zB,zC,zD,zE,reduceCtorEq,↓reduceIte,zF,zG,zH,zI]
     refine s_ldg0 (cs := [.bool false]) (by simp) (by simp) (by simp) (by simp) ?_
     simp -implicitDefEqProofs only [go_sem,zA,zB,zC,zD,zE,reduceCtorEq,↓reduceIte,zF,zG,zH,zI]
     simp -implicitDefEqProofs only [S188_2, go_sem,zA,zB,zC,zD,zE,reduceCtorEq,↓reduceIte,zF,zG,zH,zI]
     simp (disch := omega) only [wrap_id]
     exact Up.here ⟨f - 1, by omega, Up.here ⟨j + 1, rfl, rfl, by omega, skip fun h => (by cases h)⟩⟩
    | true =>
     obtain ⟨kq, hrq⟩ := hE.rd hbe hEi hSr (p := p + 1) (k := k - j) (by omega) (by omega)
     have hex1 := hEx (p + 1) (k - j) (by omega) (by omega)
     simp -implicitDefEqProofs only [go_sem,zA,zB,zC,zD,zE,reduceCtorEq,↓reduceIte,zF,zG,zH,zI]
     refine s_ld (j := 8) (cells_lk hT.out) (by simp [Tb.cells]) (by simp) ?_
     simp -implicitDefEqProofs only [Tb.cells, go_sem,zA,zB,zC,zD,zE,reduceCtorEq,↓reduceIte,zF,zG,zH,zI]
     refine s_idx h2 (by omega) (by omega) ?_
     simp -implicitDefEqProofs only [go_sem,zA,zB,zC,zD,zE,reduceCtorEq,↓reduceIte,zF,zG,zH,zI]
     refine s_ld0 (hc2 _ (lk_r [] _)) (by simp) (by simp) ?_
     simp -implicitDefEqProofs only [go_sem,zA,zB,zC,zD,zE,reduceCtorEq,↓reduceIte,zF,zG,zH,zI]
     simp (disch := omega) only [wrap_id]
     refine s_idx rfl (by omega) (by omega) ?_
     simp -implicitDefEqProofs only [go_sem,zA,zB,zC,zD,zE,reduceCtorEq,↓reduceIte,zF,zG,zH,zI]
     rw [show ((p : Int) + 1).toNat = p + 1 by omega]
     refine s_ld0 (by simpa using (hrq Γr hle).1) (by simp) (by simp) ?_
     simp -implicitDefEqProofs only [go_sem,zA,zB,zC,zD,zE,reduceCtorEq,↓reduceIte,zF,zG,zH,zI]
     simp (disch := omega) only [wrap_id]
     refine s_idx rfl (by omega) (by omega) ?_
     simp -implicitDefEqProofs only [go_sem,zA,zB,zC,zD,zE,reduceCtorEq,↓reduceIte,zF,zG,zH,zI]
     rw [show ((k : Int) - (j : Int)).toNat = k - j by omega]
     refine s_ld0 (by simpa using (hrq Γr hle).2) (by simp) (by simp) ?_
     generalize mat rows (p + 1) (k - j) = v1 at hex1
     cases v1 with
     | false =>
      simp -implicitDefEqProofs only [S188_2, go_sem,zA,zB,zC,zD,zE,reduceCtorEq,↓reduceIte,zF,zG,zH,zI]
      simp (disch := omega) only [wrap_id]
      exact Up.here ⟨f - 1, by omega, Up.here ⟨j + 1, rfl, rfl, by omega, skip fun _ w => by have := hex1.2 w; cases this⟩⟩
     | true =>
      have hrow := hex1.1 rfl
      simp -implicitDefEqProofs only [go_sem,zA,zB,zC,zD,zE,reduceCtorEq,↓reduceIte,zF,zG,zH,zI]
      refine s_idx h3 (by omega) (by omega) ?_
      simp -implicitDefEqProofs only [go_sem,zA,zB,zC,zD,zE,reduceCtorEq,↓reduceIte,zF,zG,zH,zI]
      refine s_ld0 (by simpa using hc3 _ (lk_r [] _)) (by simp) (by simp) ?_
      have hih := fun (Γr' : Ctx) (hl' : Mem.le (lk Γr) (lk Γr')) => ih (p + 1) (k - j) (by omega) (by omega) (Γr := Γr') (ge := ge) (hT.mono hl') (hH.mono hl') (hL.mono hl') hE (hle.trans hl')
      obtain ⟨st, sn⟩ := s
      cases st with
      | true =>
       simp -implicitDefEqProofs only [go_sem,zA,zB,zC,zD,zE,reduceCtorEq,↓reduceIte,zF,zG,zH,zI]
       refine s_ldg0 (cs := [.slice none 0 0]) (by simp) (by simp) (by simp) (by simp) ?_
       simp -implicitDefEqProofs only [go_sem,zA,zB,zC,zD,zE,reduceCtorEq,↓reduceIte,zF,zG,zH,zI]
       refine s_idxg (b := 0) (o := 0) (by simp) ?_
       simp -implicitDefEqProofs only [go_sem,zA,zB,zC,zD,zE,reduceCtorEq,↓reduceIte,zF,zG,zH,zI]
       refine s_ldg0 (cs := [.int .i64 0]) (by simp) (by simp) (by simp) (by simp) ?_
       simp -implicitDefEqProofs only [go_sem,zA,zB,zC,zD,zE,reduceCtorEq,↓reduceIte,zF,zG,zH,zI]
       refine s_idxg (b := 0) (o := 0) (by simp) ?_
       simp -implicitDefEqProofs only [go_sem,zA,zB,zC,zD,zE,reduceCtorEq,↓reduceIte,zF,zG,zH,zI]
       refine s_ldg0 (cs := [.slice none 0 0]) (by simp) (by simp) (by simp) (by simp) ?_
       simp -implicitDefEqProofs only [go_sem,zA,zB,zC,zD,zE,reduceCtorEq,↓reduceIte,zF,zG,zH,zI]
       refine s_idxg (b := 0) (o := 0) (by simp) ?_
       simp -implicitDefEqProofs only [go_sem,zA,zB,zC,zD,zE,reduceCtorEq,↓reduceIte,zF,zG,zH,zI]
       refine s_ldg0 (cs := [.bool false]) (by simp) (by simp) (by simp) (by simp) ?_
       simp -implicitDefEqProofs only [go_sem,zA,zB,zC,zD,zE,reduceCtorEq,↓reduceIte,zF,zG,zH,zI]
       simp (disch := omega) only [wrap_id]
       rw [show ((p : Int) + 1) = ((p + 1 : Nat) : Int) by omega, show ((k : Int) - (j : Int)) = ((k - j : Nat) : Int) by omega]
       refine CallVC.read (hih ([] ++ Γr) (Mem.le.refl _)) ?_
       rintro v Γ' ⟨rfl, b, rfl, hb⟩
       simp -implicitDefEqProofs only [S188_2, go_sem,zA,zB,zC,zD,zE,reduceCtorEq,↓reduceIte,zF,zG,zH,zI]
       simp (disch := omega) only [wrap_id]
       exact fin b hb rfl hrow (fun h => (by cases h))
      | false =>
       have hs : 0 ≤ sn ∧ sn < g.ns := ⟨hs.1, hs.2.2 rfl⟩
       obtain ⟨c, rfl⟩ : ∃ c : Nat, sn = c := ⟨sn.toNat, by omega⟩
       have hLl := hSL.1
       have hLr := hSL.at' (i := c) (by omega)
       obtain ⟨b1, o1, h1, A5, c5, hr5, hc5⟩ := hL.list (i := c) (by omega)
       obtain ⟨b6, o6, h6, hc6⟩ := hr5.bool (i := j) (by omega)
       have hgl := mat_get (List.getElem?_eq_getElem (show c < L.length by omega)) (show j < L[c].length by omega)
       simp -implicitDefEqProofs only [go_sem,zA,zB,zC,zD,zE,reduceCtorEq,↓reduceIte,zF,zG,zH,zI]
       refine s_ld (j := 6) (cells_lk hT.out) (by simp [Tb.cells]) (by simp) ?_
       simp -implicitDefEqProofs only [Tb.cells, go_sem,zA,zB,zC,zD,zE,reduceCtorEq,↓reduceIte,zF,zG,zH,zI]
       refine s_idx h3 (by omega) (by omega) ?_
       simp -implicitDefEqProofs only [go_sem,zA,zB,zC,zD,zE,reduceCtorEq,↓reduceIte,zF,zG,zH,zI]
       refine s_ld (j := 1) (by simpa using hc3 _ (lk_r [] _)) (by simp) (by simp) ?_
       simp -implicitDefEqProofs only [go_sem,zA,zB,zC,zD,zE,reduceCtorEq,↓reduceIte,zF,zG,zH,zI]
       refine s_idx h1 (by omega) (by omega) ?_
       simp -implicitDefEqProofs only [go_sem,zA,zB,zC,zD,zE,reduceCtorEq,↓reduceIte,zF,zG,zH,zI]
       refine s_ld0 (hc5 _ (lk_r [] _)) (by simp) (by simp) ?_
       simp -implicitDefEqProofs only [go_sem,zA,zB,zC,zD,zE,reduceCtorEq,↓reduceIte,zF,zG,zH,zI]
       refine s_idx h6 (by omega) (by omega) ?_
       simp -implicitDefEqProofs only [go_sem,zA,zB,zC,zD,zE,reduceCtorEq,↓reduceIte,zF,zG,zH,zI]
       refine s_ld0 (hc6 _ (lk_r [] _)) (by simp) (by simp) ?_
       generalize L[c][j] = v2 at hgl
       cases v2 with
       | true =>
        simp -implicitDefEqProofs only [S188_2, go_sem,zA,zB,zC,zD,zE,reduceCtorEq,↓reduceIte,zF,zG,zH,zI]
        refine ⟨.bool false, ?_⟩
        simp -implicitDefEqProofs only [go_sem,zA,zB,zC,zD,zE,reduceCtorEq,↓reduceIte,zF,zG,zH,zI]
        refine Up.here ?_
        subst hR
        refine ⟨rfl, true, rfl, fun _ => ?_, fun _ => rfl⟩
        rw [hdrop]
        exact ⟨j, hj, hsv, hrow, .inl ⟨rfl, hgl⟩⟩
       | false =>
        simp -implicitDefEqProofs only [go_sem,zA,zB,zC,zD,zE,reduceCtorEq,↓reduceIte,zF,zG,zH,zI]
        simp (disch := omega) only [wrap_id]
        rw [show ((p : Int) + 1) = ((p + 1 : Nat) : Int) by omega, show ((k : Int) - (j : Int)) = ((k - j : Nat) : Int) by omega]
        refine CallVC.read (hih ([] ++ Γr) (Mem.le.refl _)) ?_
        rintro v Γ' ⟨rfl, b, rfl, hb⟩
        simp -implicitDefEqProofs only [S188_2, go_sem,zA,zB,zC,zD,zE,reduceCtorEq,↓reduceIte,zF,zG,zH,zI]
        simp (disch := omega) only [wrap_id]
        exact fin b hb rfl hrow (fun _ => hgl)
   ·have hje : j = k + 1 := by omega
    refine Up.here ?_
    subst hR
    refine ⟨rfl, false, rfl, fun h => (by cases h), fun h => ?_⟩
    rw [hdrop] at h
    obtain ⟨j', q1, q2, q3, q4⟩ := h
    exact (hno j' (by omega) ⟨q2, q3, q4⟩).elim
/- The text of (*parlance/census.table).loops as a statement; no condition. -/
def S149_1 : Stmt :=
 .seq
 (.region [oq 36 (.ibin .lss (.tmp 35) (.tmp 34))]
 [0,2,3,4,5,16,17,24,25,29,30,34,35,36])
 (.seq (.cond (.tmp 36) .skip (.exit 6))
 (.seq
 (.block 7
 (.seq
 (.region
 [oq 37 (.mv (.tmp 35)),oq 6 (.mv (.tmp 37))]
 [0,2,3,4,5,6,16,17,24,25,29,30,34,35])
 (.drawn
 [(false,oq 38 (.mv (.tmp 3))),
 (false,oq 39 (.mv (.tmp 5))),
 (false,oq 40 (.idx 1 (.tmp 38) (.tmp 39))),
 (false,oq 41 (.load false 1 (.tmp 40))),
 (false,oq 42 (.mv (.tmp 6))),
 (false,oq 43 (.mv (.tmp 3))),
 (false,oq 44 (.mv (.tmp 5))),
 (false,oq 45 (.idx 1 (.tmp 43) (.tmp 44))),
 (false,oq 46 (.load false 1 (.tmp 45))),
 (false,oq 47 (.mv (.tmp 6))),
 (false,oq 48 (.idx 1 (.tmp 46) (.tmp 47))),
 (false,oq 49 (.load false 1 (.tmp 48))),
 (false,oq 50 (.mv (.tmp 49))),
 (false,.mk (some 51) (some (50,false)) (.mv (.tmp 3))),
 (false,.mk (some 52) (some (50,false)) (.mv (.tmp 5))),
 (false,.mk (some 53) (some (50,false)) (.idx 1 (.tmp 51) (.tmp 52))),
 (false,.mk (some 54) (some (50,false)) (.load false 1 (.tmp 53))),
 (false,.mk (some 55) (some (50,false)) (.mv (.tmp 4))),
 (false,.mk (some 56) (some (50,false)) (.idx 1 (.tmp 54) (.tmp 55))),
 (false,.mk (some 57) (some (50,false)) (.load false 1 (.tmp 56))),
 (false,.mk (some 58) (some (50,false)) (.mv (.tmp 57))),
 (false,.mk (some 59) (some (58,true)) (.mv (.tmp 3))),
 (false,.mk (some 60) (some (58,true)) (.mv (.tmp 4))),
 (false,.mk (some 61) (some (58,true)) (.idx 1 (.tmp 59) (.tmp 60))),
 (false,.mk (some 62) (some (58,true)) (.load false 1 (.tmp 61))),
 (false,.mk (some 63) (some (58,true)) (.mv (.tmp 6))),
 (false,.mk (some 64) (some (58,true)) (.idx 1 (.tmp 62) (.tmp 63))),
 (false,.mk (some 65) (some (58,true)) (.load false 1 (.tmp 64))),
 (false,
 .mk (some 66) (some (50,false))
 (.pick (.tmp 58) (.tmp 65) (.const (.bool false)))),
 (false,
 oq 67 (.pick (.tmp 50) (.const (.bool true)) (.tmp 66))),
 (false,oq 68 (.idx 1 (.tmp 41) (.tmp 42))),
 (false,.mk none none (.store 1 (.tmp 68) (.tmp 67)))]
 [0,2,3,4,5,16,17,24,25,29,30,34,35])))
 (.region
 [oq 69 (.ibin .add (.tmp 35) (.const (.int .i64 1))),
 oq 35 (.mv (.tmp 69))]
 [0,2,3,4,5,16,17,24,25,29,30,34,35])))
def S149_2 : Stmt :=
 .seq
 (.region [oq 31 (.ibin .lss (.tmp 30) (.tmp 29))]
 [0,2,3,4,16,17,24,25,29,30,31])
 (.seq (.cond (.tmp 31) .skip (.exit 4))
 (.seq
 (.block 5
 (.seq
 (.region
 [oq 32 (.mv (.tmp 30)),oq 5 (.mv (.tmp 32))]
 [0,2,3,4,5,16,17,24,25,29,30])
 (.seq
 (.region
 [oq 33 (.mv (.tmp 3)),
 oq 34 (.len false (.tmp 33)),
 oq 35 (.mv (.const (.int .i64 0)))]
 [0,2,3,4,5,16,17,24,25,29,30,34,35])
 (.block 6 (.loop S149_1 [35] [0,2,3,4,5,16,17,24,25,29,30,34])))))
 (.region
 [oq 70 (.ibin .add (.tmp 30) (.const (.int .i64 1))),
 oq 30 (.mv (.tmp 70))]
 [0,2,3,4,16,17,24,25,29,30])))
def S149_3 : Stmt :=
 .seq
 (.region [oq 26 (.ibin .lss (.tmp 25) (.tmp 24))]
 [0,2,3,16,17,24,25,26])
 (.seq (.cond (.tmp 26) .skip (.exit 2))
 (.seq
 (.block 3
 (.seq
 (.region
 [oq 27 (.mv (.tmp 25)),oq 4 (.mv (.tmp 27))]
 [0,2,3,4,16,17,24,25])
 (.seq
 (.region
 [oq 28 (.mv (.tmp 3)),
 oq 29 (.len false (.tmp 28)),
 oq 30 (.mv (.const (.int .i64 0)))]
 [0,2,3,4,16,17,24,25,29,30])
 (.block 4 (.loop S149_2 [30] [0,2,3,4,16,17,24,25,29])))))
 (.region
 [oq 71 (.ibin .add (.tmp 25) (.const (.int .i64 1))),
 oq 25 (.mv (.tmp 71))]
 [0,2,3,16,17,24,25])))
def S149_4 : Stmt :=
 .seq
 (.region [oq 75 (.ibin .lss (.tmp 74) (.tmp 73))]
 [0,2,3,16,17,73,74,75])
 (.seq (.cond (.tmp 75) .skip (.exit 8))
 (.seq
 (.block 9
 (.seq
 (.region
 [oq 76 (.mv (.tmp 74)),oq 7 (.mv (.tmp 76))]
 [0,2,3,7,16,17,73,74])
 (.drawn
 [(false,oq 77 (.mv (.tmp 0))),
 (false,oq 78 (.nilCheck (.tmp 77))),
 (false,oq 79 (.fld 6 (.tmp 78))),
 (false,oq 80 (.load false 1 (.tmp 79))),
 (false,oq 81 (.mv (.tmp 7))),
 (false,oq 82 (.idx 1 (.tmp 80) (.tmp 81))),
 (false,oq 83 (.load false 1 (.tmp 82))),
 (false,oq 84 (.mv (.tmp 2))),
 (false,oq 85 (.mv (.tmp 3))),
 (false,oq 86 (.mv (.tmp 7))),
 (false,oq 87 (.idx 1 (.tmp 85) (.tmp 86))),
 (false,oq 88 (.load false 1 (.tmp 87))),
 (false,oq 89 (.mv (.tmp 7))),
 (false,oq 90 (.idx 1 (.tmp 88) (.tmp 89))),
 (false,oq 91 (.load false 1 (.tmp 90))),
 (false,oq 92 (.idx 1 (.tmp 83) (.tmp 84))),
 (false,.mk none none (.store 1 (.tmp 92) (.tmp 91)))]
 [0,2,3,16,17,73,74])))
 (.region
 [oq 93 (.ibin .add (.tmp 74) (.const (.int .i64 1))),
 oq 74 (.mv (.tmp 93))]
 [0,2,3,16,17,73,74])))
def S149_5 : Stmt :=
 .seq (.region [oq 18 (.ibin .lss (.tmp 17) (.tmp 16))] [0,16,17,18])
 (.seq (.cond (.tmp 18) .skip (.exit 0))
 (.seq
 (.block 1
 (.seq
 (.region
 [oq 19 (.mv (.tmp 17)),oq 2 (.mv (.tmp 19))]
 [0,2,16,17])
 (.seq
 (.region
 [oq 20 (.mv (.tmp 0)),oq 21 (.mv (.tmp 2)),
 oq 22 (.call (.func 187) [.tmp 20,.tmp 21]),
 oq 3 (.mv (.tmp 22))]
 [0,2,3,16,17])
 (.seq
 (.seq
 (.region
 [oq 23 (.mv (.tmp 3)),
 oq 24 (.len false (.tmp 23)),
 oq 25 (.mv (.const (.int .i64 0)))]
 [0,2,3,16,17,24,25])
 (.block 2 (.loop S149_3 [25] [0,2,3,16,17,24])))
 (.seq
 (.region
 [oq 72 (.mv (.tmp 3)),
 oq 73 (.len false (.tmp 72)),
 oq 74 (.mv (.const (.int .i64 0)))]
 [0,2,3,16,17,73,74])
 (.block 8 (.loop S149_4 [74] [0,2,3,16,17,73])))))))
 (.region
 [oq 94 (.ibin .add (.tmp 17) (.const (.int .i64 1))),
 oq 17 (.mv (.tmp 94))]
 [0,16,17])))
def S149_6 : Stmt :=
 .block 15
 (.seq
 (.region
 [oq 114 (.mv (.tmp 112)),oq 11 (.mv (.tmp 114))]
 [0,8,9,10,11,100,101,102,111,112])
 (.seq
 (.drawn
 [(false,oq 115 (.mv (.tmp 0))),
 (false,oq 116 (.nilCheck (.tmp 115))),
 (false,oq 117 (.fld 6 (.tmp 116))),
 (false,oq 118 (.load false 1 (.tmp 117))),
 (false,oq 119 (.fld 0 (.tmp 10))),
 (false,oq 120 (.load false 1 (.tmp 119))),
 (false,oq 121 (.idx 1 (.tmp 118) (.tmp 120))),
 (false,oq 122 (.load false 1 (.tmp 121))),
 (false,oq 123 (.mv (.tmp 11))),
 (false,oq 124 (.idx 1 (.tmp 122) (.tmp 123))),
 (false,oq 125 (.load false 1 (.tmp 124))),
 (false,oq 126 (.un .not (.tmp 125))),
 (false,oq 127 (.mv (.tmp 126))),
 (false,.mk (some 128) (some (127,true)) (.mv (.tmp 0))),
 (false,.mk (some 129) (some (127,true)) (.mv (.tmp 9))),
 (false,.mk (some 130) (some (127,true)) (.mv (.tmp 11))),
 (false,
 .mk (some 131) (some (127,true))
 (.call (.func 188)
 [.tmp 128,.tmp 129,.const (.int .i64 0),.tmp 130])),
 (false,
 oq 132 (.pick (.tmp 127) (.tmp 131) (.const (.bool false))))]
 [0,8,9,10,11,100,101,102,111,112,132])
 (.cond (.tmp 132)
 (.drawn
 [(false,oq 133 (.mv (.tmp 0))),
 (false,oq 134 (.nilCheck (.tmp 133))),
 (false,oq 135 (.fld 6 (.tmp 134))),
 (false,oq 136 (.load false 1 (.tmp 135))),
 (false,oq 137 (.fld 0 (.tmp 10))),
 (false,oq 138 (.load false 1 (.tmp 137))),
 (false,oq 139 (.idx 1 (.tmp 136) (.tmp 138))),
 (false,oq 140 (.load false 1 (.tmp 139))),
 (false,oq 141 (.mv (.tmp 11))),
 (false,oq 142 (.idx 1 (.tmp 140) (.tmp 141))),
 (false,.mk none none (.store 1 (.tmp 142) (.const (.bool true)))),
 (false,oq 8 (.mv (.const (.bool true))))]
 [0,8,9,10,100,101,102,111,112])
 .skip)))
def S149_7 : Stmt :=
 .region
 [oq 143 (.ibin .add (.tmp 112) (.const (.int .i64 1))),
 oq 112 (.mv (.tmp 143))]
 [0,8,9,10,100,101,102,111,112]
def S149_8 : Stmt :=
 .seq
 (.region [oq 113 (.ibin .lss (.tmp 112) (.tmp 111))]
 [0,8,9,10,100,101,102,111,112,113])
 (.seq (.cond (.tmp 113) .skip (.exit 14))
 (.join S149_6 S149_7 [8] [0,9,10,100,101,102,111,112]))
def S149_9 : Stmt :=
 .seq
 (.region [oq 103 (.ibin .lss (.tmp 102) (.tmp 101))]
 [0,8,100,101,102,103])
 (.seq (.cond (.tmp 103) .skip (.exit 12))
 (.seq
 (.block 13
 (.seq
 (.region
 [oq 104 (.mv (.tmp 102)),
 oq 105 (.idx 2 (.tmp 100) (.tmp 102)),
 oq 106 (.load true 2 (.tmp 105)),
 .mk (some 10) none
 (.alloc true 37 (.agg (Array.mk [.int .i64 0,.slice none 0 0]))),
 oq 9 (.mv (.tmp 104)),
 .mk none none (.store 2 (.tmp 10) (.tmp 106))]
 [0,8,9,10,100,101,102])
 (.seq
 (.region
 [oq 107 (.mv (.tmp 0)),
 oq 108 (.nilCheck (.tmp 107)),
 oq 109 (.fld 4 (.tmp 108)),
 oq 110 (.load false 1 (.tmp 109)),
 .mk (some 111) none
 (.ibin .add (.tmp 110) (.const (.int .i64 1))),
 oq 112 (.mv (.const (.int .i64 0)))]
 [0,8,9,10,100,101,102,111,112])
 (.block 14 (.loop S149_8 [8,112] [0,9,10,100,101,102,111])))))
 (.region
 [oq 144 (.ibin .add (.tmp 102) (.const (.int .i64 1))),
 oq 102 (.mv (.tmp 144))]
 [0,8,100,101,102])))
def S149_10 : Stmt :=
 .seq
 (.seq (.region [oq 95 (.mv (.tmp 8))] [0,95])
 (.cond (.tmp 95) .skip (.exit 10)))
 (.block 11
 (.seq (.region [oq 8 (.mv (.const (.bool false)))] [0,8])
 (.seq
 (.region
 [oq 96 (.mv (.tmp 0)),oq 97 (.nilCheck (.tmp 96)),
 oq 98 (.fld 0 (.tmp 97)),oq 99 (.fld 3 (.tmp 98)),
 oq 100 (.load false 1 (.tmp 99)),
 oq 101 (.len false (.tmp 100)),
 oq 102 (.mv (.const (.int .i64 0)))]
 [0,8,100,101,102])
 (.block 12 (.loop S149_9 [8,102] [0,100,101])))))
def S149_0 : Stmt :=
 .seq
 (.seq
 (.region
 [oq 12 (.mv (.tmp 0)),oq 13 (.nilCheck (.tmp 12)),
 oq 14 (.fld 4 (.tmp 13)),
 oq 15 (.load false 1 (.tmp 14)),
 oq 16 (.ibin .add (.tmp 15) (.const (.int .i64 1))),
 oq 17 (.mv (.const (.int .i64 0)))]
 [0,16,17])
 (.block 0 (.loop S149_5 [17] [0,16])))
 (.seq (.region [oq 8 (.mv (.const (.bool true)))] [0,8])
 (.block 10 (.loop S149_10 [8] [0])))
def S149 : FnS := ⟨145,[],S149_0⟩
theorem tr149 : trFn Try.prog 149 [10] [[0,16,17],[17],[0,16],[0,16,17,18],[0,2,16,17],[0,2,3,16,17],[0,2,3,16,17,24,25],[25],[0,2,3,16,17,24],[0,2,3,16,17,24,25,26],[0,2,3,4,16,17,24,25],[0,2,3,4,16,17,24,25,29,30],[30],[0,2,3,4,16,17,24,25,29],[0,2,3,4,16,17,24,25,29,30,31],[0,2,3,4,5,16,17,24,25,29,30],[0,2,3,4,5,16,17,24,25,29,30,34,35],[35],[0,2,3,4,5,16,17,24,25,29,30,34],[0,2,3,4,5,16,17,24,25,29,30,34,35,36],[0,2,3,4,5,6,16,17,24,25,29,30,34,35],[0,2,3,4,5,16,17,24,25,29,30,34,35],[0,1,2,3,4,5,6,7,8,9,10,11,12,13,14,15,16,17,18,19,20,21,22,23,24,25,26,27,28,29,30,31],[],[],[],[0,1],[0,1,2],[],[],[],[5,6],[5,6,7],[],[5,6,7,8,9],[5,6,7,8,9,10],[5,6,7,8,9,10,11],[5,6,7,8,9,10,11,12],[5,6,7,8,9,10,11,12],[5,6,7,8,9,10,11,12,13,14],[5,6,7,8,9,10,11,12,13,14,15],[5,6,7,8,9,10,11,12],[5,6,7,8,9,10,11,12,13,14,15,16,17],[5,6,7,8,9,10,11,12,13,14,15,16,17,18],[5,6,7,8,9,10,11,12,13,14,15,16,17,18,19],[5,6,7,8,9,10,11,12,13,14,15,16,17,18,19,20],[5,6,7,8,9,10,11,12,13,14,15,16,17,18,19,20],[5,6,7,8,9,10,11,12,13,14,15,16,17,18,19,20,21,22],[5,6,7,8,9,10,11,12,13,14,15,16,17,18,19,20,21,22,23],[5,6,7,8,9,10,11,12,13,14,15,16,17,18,19,20],[5,6,7,8,9,10,11,12,13,14,15,16,17,18,19,20,21,22,23,24,25],[5,6,7,8,9,10,11,12,13,14,15,16,17,18,19,20,21,22,23,24,25,26],[5,6,7,8,9,10,11,12,13,14,15,16,17,18,19,20,21,22,23,24,25,26,27],[5,6,7,8,9,10,11,12,13,14,15,16,17,18,19,20,21,22,23,24,25,26,27,28],[0,1,2,3,4,5,6,7,8,9,10,11,12,13,14,15,16,17,18,19,20,21,22,23,24,25,26,27,28,29],[0,1,2,3,4,5,6,7,8,9,10,11,12,13,14,15,16,17,18,19,20,21,22,23,24,25,26,27,28,29,30],[0,2,3,4,5,16,17,24,25,29,30,34,35],[0,2,3,4,16,17,24,25,29,30],[0,2,3,16,17,24,25],[0,2,3,16,17,73,74],[74],[0,2,3,16,17,73],[0,2,3,16,17,73,74,75],[0,2,3,7,16,17,73,74],[0,2,3,16,17,73,74],[0,1,2,3,4,5,6,7,8,9,10,11,12,13,14,15,16],[],[],[0],[0,1],[0,1,2],[],[0,1,2,3,4],[0,1,2,3,4,5],[],[],[],[8,9],[8,9,10],[],[8,9,10,11,12],[8,9,10,11,12,13],[0,1,2,3,4,5,6,7,8,9,10,11,12,13,14],[0,1,2,3,4,5,6,7,8,9,10,11,12,13,14,15],[0,2,3,16,17,73,74],[0,16,17],[0,8],[8],[0],[0,95],[0,8],[0,8,100,101,102],[8,102],[0,100,101],[0,8,100,101,102,103],[0,8,9,10,100,101,102],[0,8,9,10,100,101,102,111,112],[8,112],[0,9,10,100,101,102,111],[0,8,9,10,100,101,102,111,112,113],[8],[0,9,10,100,101,102,111,112],[0,8,9,10,11,100,101,102,111,112],[0,8,9,10,11,100,101,102,111,112,132],[0,1,2,3,4,5,6,7,8,9,10,11,12,13,14,15,16,17],[],[],[0],[0,1],[0,1,2],[],[4],[0,1,2,3,4,5],[0,1,2,3,4,5,6],[],[0,1,2,3,4,5,6,7,8],[0,1,2,3,4,5,6,7,8,9],[0,1,2,3,4,5,6,7,8,9,10],[0,1,2,3,4,5,6,7,8,9,10,11],[0,1,2,3,4,5,6,7,8,9,10,11,12],[0,1,2,3,4,5,6,7,8,9,10,11,12],[0,1,2,3,4,5,6,7,8,9,10,11,12],[0,1,2,3,4,5,6,7,8,9,10,11,12,13,14,15],[0,1,2,3,4,5,6,7,8,9,10,11,12,13,14,15,16],[0,8,9,10,100,101,102,111,112],[0,1,2,3,4,5,6,7,8,9,10,11],[],[],[0],[0,1],[0,1,2],[],[4],[0,1,2,3,4,5],[0,1,2,3,4,5,6],[],[0,1,2,3,4,5,6,7,8],[0,1,2,3,4,5,6,7,8,9],[0,1,2,3,4,5,6,7,8,9,10],[0,8,9,10,100,101,102,111,112],[0,8,100,101,102]] = some S149 := by kernel_rfl
/- census: loops walked; no condition. -/
/-- a ring of trees of the same k -/
def CycK (g : Gr) (H : List (List Bool)) (a k : Nat) : Prop := PathK (SameE g H k g.rs.length) g.ns.toNat a a
theorem LessP.mono {H L L' : List (List Bool)} (h : MonoH L L') : ∀ {l : List Sy} {k : Nat}, LessP H L l k → LessP H L' l k
 | [], _, q => q
 | s :: l, k, ⟨j, h1, h2, h3, h4⟩ => ⟨j, h1, h2, h3, h4.elim (fun q => .inl ⟨q.1, h _ _ q.2⟩) fun q => .inr (LessP.mono h q)⟩
/-- what loops: rings, and what has below it what loops -/
structure LoopI (g : Gr) (n : Nat) (H L : List (List Bool)) : Prop where
 cyc : ∀ a k, k ≤ n → CycK g H a k → mat L a k = true
 snd : ∀ a k, mat L a k = true → CycK g H a k ∨ ∃ r ∈ g.rs, r.l = (a : Int) ∧ LessP H L r.r k
def DoneL (g : Gr) (n : Nat) (H L : List (List Bool)) (i0 : Nat) : Prop := ∀ (i : Nat) (r : Ru), i < i0 → g.rs[i]? = some r → ∀ k, k ≤ n → LessP H L r.r k → mat L r.l.toNat k = true
set_option maxHeartbeats 1600000 in
theorem tab_loops {Γr : Ctx} {t : Tb} {g : Gr} (V : VG g) {n : Nat} {R : Option Addr} {cR : Nat} (hT : TabK (lk Γr) t g n R cR) {H : List (List Bool)} (hH : SlOk (lk Γr) (some ⟨t.bh, 0, none⟩) g.ns.toNat H) (hS : Shp g.ns.toNat (n + 1) H) (hn : n ≤ 24)
  {ge : PH} {E : List (List (List Bool))} (hE : Cube ge 22 4 t.be E) (hle : Mem.le (lk [ge]) (lk Γr)) (hEI : EndsI g n H E) (hED : DoneR g n H E g.rs.length) {gl : PH} (hGl : Grid gl t.bl 22 4 (List.replicate g.ns.toNat (List.replicate (n + 1) false))) :
  Ret Try.prog 149 [.pointer (some ⟨t.b, 0, none⟩)] Γr [gl] (fun v Γ => ∃ gl' L, Γ = [gl'] ∧ Grid gl' t.bl 22 4 L ∧ Shp g.ns.toNat (n + 1) L ∧ LoopI g n H L ∧ DoneL g n H L g.rs.length) := by
 generalize hR : (fun (v : Value) (Γ : Ctx) => ∃ gl' L, _) = R'
 refine ret_of_vc tr149 (Nat.le_of_ble_eq_true rfl) ?_
 simp -implicitDefEqProofs only [S149, S149_0, go_sem,zA,zB,zC,zD,zE,reduceCtorEq,↓reduceIte,zF,zG,zH,zI]
 have hvl := V.len
 have hsh := hT.rs.short
 have hns := V.ns
 obtain ⟨N, hN⟩ : ∃ N : Nat, g.ns = N := ⟨g.ns.toNat, by omega⟩
 have hN' : g.ns.toNat = N := by omega
 have hsame := fun (Γ' : Ctx) (hl : Mem.le (lk Γr) (lk Γ')) (k : Nat) (hk : k ≤ n) => tab_same (Γr := Γ') V (hT.mono hl) (hH.mono hl) hS hn hk
 rw [hN'] at hR hH hS hGl
 simp only [hN'] at hsame
 refine s_ld (j := 4) (cells_lk (lk_r [gl] _ _ _ hT.out)) (by simp [Tb.cells]) (by simp) ?_
 simp -implicitDefEqProofs only [Tb.cells, go_sem,zA,zB,zC,zD,zE,reduceCtorEq,↓reduceIte,zF,zG,zH,zI]
 simp (disch := omega) only [wrap_id]
 refine s_loop (fun f vs Γ => ∃ (k : Nat) (gl : PH) (L : List (List Bool)), vs = [.v true (.int .i64 (k : Int))] ∧ Γ = [gl] ∧ k + f = n + 1 ∧ Grid gl t.bl 22 4 L ∧ Shp N (n + 1) L ∧ (∀ a k', k' < k → (mat L a k' = true ↔ CycK g H a k')) ∧ ∀ a k', k ≤ k' → mat L a k' = false) (n + 1)
  (Up.here ⟨0, gl, _, rfl, rfl, by omega, hGl, ⟨by simp, fun r hr => by simp at hr; rw [hr.2]; simp⟩, fun a k' h => by omega, fun a k' _ => by
    simp only [mat, List.getD_eq_getElem?_getD, List.getElem?_replicate]
    split
    ·simp only [Option.getD_some, List.getElem?_replicate]
     split <;> simp
    ·simp⟩) ?_
 ·clear hGl
  rintro f vs Γ ⟨k, gl, L, rfl, rfl, hkf, hGl, hSL, hcy, hno⟩
  simp -implicitDefEqProofs only [S149_5, go_sem,zA,zB,zC,zD,zE,reduceCtorEq,↓reduceIte,zF,zG,zH,zI]
  refine ⟨fun hlt => ?_, fun hge => ?_⟩
  ·have hk : k ≤ n := by omega
   refine CallVC.read (hsame ([gl] ++ Γr) (lk_r [gl] _) k hk) ?_
   rintro v Γ' ⟨gW, bW, W, rfl, rfl, hG, hQ, hW⟩
   simp -implicitDefEqProofs only [go_sem,zA,zB,zC,zD,zE,reduceCtorEq,↓reduceIte,zF,zG,zH,zI]
   have hS0 := hQ
   refine s_loop (fun f1 vs Γ => ∃ (a : Nat) (gW : PH), vs = [.v true (.int .i64 a)] ∧ Γ = [gW, gl] ∧ a + f1 = N ∧ Grid gW bW 22 4 (wN W N (a * N * N))) N (Up.here ⟨0, _, rfl, rfl, by omega, by simpa [wN] using hG⟩) ?_
   ·clear hG
    rintro f1 vs Γ ⟨a, gW, rfl, rfl, haf, hG⟩
    simp -implicitDefEqProofs only [S149_3, go_sem,zA,zB,zC,zD,zE,reduceCtorEq,↓reduceIte,zF,zG,zH,zI]
    refine ⟨fun hlt => ?_, fun hge => ?_⟩
    ·have ha : a < N := by omega
     refine s_loop (fun f2 vs Γ => ∃ (b : Nat) (gW : PH), vs = [.v true (.int .i64 b)] ∧ Γ = [gW, gl] ∧ b + f2 = N ∧ Grid gW bW 22 4 (wN W N ((a * N + b) * N))) N (Up.here ⟨0, _, rfl, rfl, by omega, by simpa using hG⟩) ?_
     clear hG
     rintro f2 vs Γ ⟨b', gW, rfl, rfl, hbf, hG⟩
     simp -implicitDefEqProofs only [S149_2, go_sem,zA,zB,zC,zD,zE,reduceCtorEq,↓reduceIte,zF,zG,zH,zI]
     refine ⟨fun hlt => ?_, fun hge => ?_⟩
     ·have hb : b' < N := by omega
      refine s_loop (fun f3 vs Γ => ∃ (c : Nat) (gW : PH), vs = [.v true (.int .i64 c)] ∧ Γ = [gW, gl] ∧ c + f3 = N ∧ Grid gW bW 22 4 (wN W N ((a * N + b') * N + c))) N (Up.here ⟨0, _, rfl, rfl, by omega, by simpa using hG⟩) ?_
      clear hG
      rintro f3 vs Γ ⟨c', gW, rfl, rfl, hcf, hG⟩
      simp -implicitDefEqProofs only [S149_1, go_sem,zA,zB,zC,zD,zE,reduceCtorEq,↓reduceIte,zF,zG,zH,zI]
      refine ⟨fun hlt => ?_, fun hge => ?_⟩
      ·have hc : c' < N := by omega
       have hnext := wN_step W (a := a) hb hc
       have hsq := wN_sq hS0 ((a * N + b') * N + c')
       generalize wN W N ((a * N + b') * N + c') = Q at *
       have hlQ := hsq.len
       have hrb := hsq.at' (b := b') (by omega)
       have hra := hsq.at' (b := a) (by omega)
       obtain ⟨kb, hcb, hAb, hput⟩ := hG.at' (i := b') (by omega) (by omega)
       obtain ⟨ka, hca, hAa, _⟩ := hG.at' (i := a) (by omega) (by omega)
       have cba : ∀ Γ : Ctx, gW ∈ Γ → Cells Γ kb a [.bool Q[b'][a]] := fun Γ h => hAb.bool (by omega) h
       have cac : ∀ Γ : Ctx, gW ∈ Γ → Cells Γ ka c' [.bool Q[a][c']] := fun Γ h => hAa.bool (by omega) h
       have m1 : mat Q b' c' = Q[b'][c'] := mat_at (by omega) (by omega)
       have m2 : mat Q b' a = Q[b'][a] := mat_at (by omega) (by omega)
       have m3 : mat Q a c' = Q[a][c'] := mat_at (by omega) (by omega)
       refine s_idx rfl (by omega) (by omega) ?_
       simp -implicitDefEqProofs only [go_sem,zA,zB,zC,zD,zE,reduceCtorEq,↓reduceIte,zF,zG,zH,zI]
       refine s_ld0 (hcb _ (by simp)) (by simp) (by simp) ?_
       simp -implicitDefEqProofs only [go_sem,zA,zB,zC,zD,zE,reduceCtorEq,↓reduceIte,zF,zG,zH,zI]
       refine s_idx rfl (by omega) (by omega) ?_
       simp -implicitDefEqProofs only [go_sem,zA,zB,zC,zD,zE,reduceCtorEq,↓reduceIte,zF,zG,zH,zI]
       refine s_ld0 (hcb _ (by simp)) (by simp) (by simp) ?_
       simp -implicitDefEqProofs only [go_sem,zA,zB,zC,zD,zE,reduceCtorEq,↓reduceIte,zF,zG,zH,zI]
       refine s_idx rfl (by omega) (by omega) ?_
       simp -implicitDefEqProofs only [go_sem,zA,zB,zC,zD,zE,reduceCtorEq,↓reduceIte,zF,zG,zH,zI]
       refine s_ld0 (hAb.bool (i := c') (by omega) (by simp)) (by simp) (by simp) ?_
       simp -implicitDefEqProofs only [go_sem,zA,zB,zC,zD,zE,reduceCtorEq,↓reduceIte,zF,zG,zH,zI]
       refine s_idxg (fun he => ⟨by first | exact he | rfl | simp_all, by first | exact he | rfl | simp_all, rfl, by omega, by omega⟩) ?_
       simp -implicitDefEqProofs only [go_sem,zA,zB,zC,zD,zE,reduceCtorEq,↓reduceIte,zF,zG,zH,zI]
       refine s_ldg0 (fun he => by first | exact he | rfl | simp_all) (fun _ => hcb _ (by simp)) (by simp) (by simp) ?_
       simp -implicitDefEqProofs only [go_sem,zA,zB,zC,zD,zE,reduceCtorEq,↓reduceIte,zF,zG,zH,zI]
       refine s_idxg (fun he => ⟨by first | exact he | rfl | simp_all, by first | exact he | rfl | simp_all, rfl, by omega, by omega⟩) ?_
       simp -implicitDefEqProofs only [go_sem,zA,zB,zC,zD,zE,reduceCtorEq,↓reduceIte,zF,zG,zH,zI]
       refine s_ldg0 (fun he => by first | exact he | rfl | simp_all) (fun _ => cba _ (by simp)) (by simp) (by simp) ?_
       simp -implicitDefEqProofs only [go_sem,zA,zB,zC,zD,zE,reduceCtorEq,↓reduceIte,zF,zG,zH,zI]
       refine s_idxg (fun he => ⟨by first | exact he | rfl | simp_all, by first | exact he | rfl | simp_all, rfl, by omega, by omega⟩) ?_
       simp -implicitDefEqProofs only [go_sem,zA,zB,zC,zD,zE,reduceCtorEq,↓reduceIte,zF,zG,zH,zI]
       refine s_ldg0 (fun he => by first | exact he | rfl | simp_all) (fun _ => hca _ (by simp)) (by simp) (by simp) ?_
       simp -implicitDefEqProofs only [go_sem,zA,zB,zC,zD,zE,reduceCtorEq,↓reduceIte,zF,zG,zH,zI]
       refine s_idxg (fun he => ⟨by first | exact he | rfl | simp_all, by first | exact he | rfl | simp_all, rfl, by omega, by omega⟩) ?_
       simp -implicitDefEqProofs only [go_sem,zA,zB,zC,zD,zE,reduceCtorEq,↓reduceIte,zF,zG,zH,zI]
       refine s_ldg0 (fun he => by first | exact he | rfl | simp_all) (fun _ => cac _ (by simp)) (by simp) (by simp) ?_
       simp -implicitDefEqProofs only [go_sem,zA,zB,zC,zD,zE,reduceCtorEq,↓reduceIte,zF,zG,zH,zI]
       refine ⟨by intros; simp_all, ?_⟩
       refine s_idx rfl (by omega) (by omega) ?_
       simp -implicitDefEqProofs only [go_sem,zA,zB,zC,zD,zE,reduceCtorEq,↓reduceIte,zF,zG,zH,zI]
       refine s_storeA (ix := 0) (α := Bool) _ rfl hAb (i := c') (by omega) ?_
       intro g' hA' ho'
       have hG' := hput g' _ hA' (by simp) ho'
       rw [← mset2_eq hsq (by omega), ← m1, ← m2, ← m3] at hG'
       simp -implicitDefEqProofs only [go_sem,zA,zB,zC,zD,zE,reduceCtorEq,↓reduceIte,zF,zG,zH,zI]
       simp (disch := omega) only [wrap_id]
       exact ⟨f3 - 1, by omega, Up.here ⟨c' + 1, _, rfl, rfl, by omega, by rw [← Nat.add_assoc, hnext]; exact hG'⟩⟩
      ·have hc : c' = N := by omega
       rw [hc] at hG
       simp (disch := omega) only [wrap_id]
       refine ⟨f2 - 1, by omega, Up.here ⟨b' + 1, _, rfl, rfl, by omega, ?_⟩⟩
       rw [show (a * N + (b' + 1)) * N = (a * N + b') * N + N by rw [← Nat.add_assoc, Nat.add_mul _ 1, Nat.one_mul]]
       exact hG
     ·have hb : b' = N := by omega
      rw [hb] at hG
      simp (disch := omega) only [wrap_id]
      refine ⟨f1 - 1, by omega, Up.here ⟨a + 1, _, rfl, rfl, by omega, ?_⟩⟩
      rw [show (a + 1) * N * N = (a * N + N) * N by rw [Nat.add_mul a 1, Nat.one_mul]]
      exact hG
    ·have ha : a = N := by omega
     rw [ha] at hG
     have hQ := wN_sq hS0 (N * N * N)
     have hQm : ∀ x, mat (wN W N (N * N * N)) x x = true ↔ CycK g H x k := fun x => by
      rw [wN_iff hS0]
      unfold CycK
      rw [hN']
      exact ⟨pathK_cong fun x y => (hW x y).1, pathK_cong fun x y => (hW x y).2⟩
     generalize wN W N (N * N * N) = Q at *
     have hQl := hQ.len
     refine s_loop (fun f1 vs Γ => ∃ (a : Nat) (gl : PH) (L2 : List (List Bool)), vs = [.v true (.int .i64 a)] ∧ Γ = [gW, gl] ∧ a + f1 = N ∧ Grid gl t.bl 22 4 L2 ∧ Shp N (n + 1) L2 ∧ ∀ x y, mat L2 x y = if y = k ∧ x < a then mat Q x x else mat L x y) N
      (Up.here ⟨0, gl, L, rfl, rfl, by omega, hGl, hSL, fun x y => by rw [if_neg (by omega)]⟩) ?_
     clear hGl
     rintro f1 vs Γ ⟨a, gl, L2, rfl, rfl, haf, hGl, hSL2, hm2⟩
     simp -implicitDefEqProofs only [S149_4, go_sem,zA,zB,zC,zD,zE,reduceCtorEq,↓reduceIte,zF,zG,zH,zI]
     refine ⟨fun hlt => ?_, fun hge => ?_⟩
     ·have ha : a < N := by omega
      have hLl := hSL2.1
      have hLr := hSL2.at' (i := a) (by omega)
      have hQr := hQ.at' (b := a) (by omega)
      obtain ⟨kl, hcl, hAl, hpl⟩ := hGl.at' (i := a) (by omega) (by omega)
      rw [hLr] at hcl
      obtain ⟨kq, hcq, hAq, _⟩ := hG.at' (i := a) (by omega) (by omega)
      rw [hQr] at hcq
      have m1 : mat Q a a = Q[a][a] := mat_at (by omega) (by omega)
      refine s_ld (j := 6) (cells_lk (lk_r [gW, gl] _ _ _ hT.out)) (by simp [Tb.cells]) (by simp) ?_
      simp -implicitDefEqProofs only [Tb.cells, go_sem,zA,zB,zC,zD,zE,reduceCtorEq,↓reduceIte,zF,zG,zH,zI]
      rw [hN']
      refine s_idx rfl (by omega) (by omega) ?_
      simp -implicitDefEqProofs only [go_sem,zA,zB,zC,zD,zE,reduceCtorEq,↓reduceIte,zF,zG,zH,zI]
      refine s_ld0 (by simpa using hcl _ (by simp)) (by simp) (by simp) ?_
      simp -implicitDefEqProofs only [go_sem,zA,zB,zC,zD,zE,reduceCtorEq,↓reduceIte,zF,zG,zH,zI]
      refine s_idx rfl (by omega) (by omega) ?_
      simp -implicitDefEqProofs only [go_sem,zA,zB,zC,zD,zE,reduceCtorEq,↓reduceIte,zF,zG,zH,zI]
      refine s_ld0 (by simpa using hcq _ (by simp)) (by simp) (by simp) ?_
      simp -implicitDefEqProofs only [go_sem,zA,zB,zC,zD,zE,reduceCtorEq,↓reduceIte,zF,zG,zH,zI]
      refine s_idx rfl (by omega) (by omega) ?_
      simp -implicitDefEqProofs only [go_sem,zA,zB,zC,zD,zE,reduceCtorEq,↓reduceIte,zF,zG,zH,zI]
      refine s_ld0 (hAq.bool (i := a) (by omega) (by simp)) (by simp) (by simp) ?_
      simp -implicitDefEqProofs only [go_sem,zA,zB,zC,zD,zE,reduceCtorEq,↓reduceIte,zF,zG,zH,zI]
      refine s_idx rfl (by omega) (by omega) ?_
      simp -implicitDefEqProofs only [go_sem,zA,zB,zC,zD,zE,reduceCtorEq,↓reduceIte,zF,zG,zH,zI]
      refine s_storeA (ix := 1) (α := Bool) _ rfl hAl (i := k) (by omega) ?_
      intro g2 hA2 ho2
      have hG2 := hpl g2 _ hA2 (by simp) ho2
      have hm3 := mat_setS hSL2 (x := a) (y := k) (by omega) (by omega) Q[a][a]
      rw [show L2.getD a [] = L2[a] by simp [List.getD_eq_getElem?_getD, show a < L2.length by omega]] at hm3
      have hS3 : Shp N (n + 1) (L2.set a (L2[a].set k Q[a][a])) := hSL2.set a (by simp [hLr])
      simp -implicitDefEqProofs only [go_sem,zA,zB,zC,zD,zE,reduceCtorEq,↓reduceIte,zF,zG,zH,zI]
      simp (disch := omega) only [wrap_id]
      refine ⟨f1 - 1, by omega, Up.here ⟨a + 1, g2, _, rfl, rfl, by omega, hG2, hS3, fun x y => ?_⟩⟩
      rw [hm3, hm2, ← m1]
      by_cases e1 : x = a ∧ y = k
      ·obtain ⟨rfl, rfl⟩ := e1
       rw [if_pos ⟨rfl, rfl⟩, if_pos ⟨rfl, by omega⟩]
      ·rw [if_neg e1]
       by_cases e2 : y = k ∧ x < a
       ·rw [if_pos e2, if_pos ⟨e2.1, by omega⟩]
       ·rw [if_neg e2, if_neg (by omega)]
     ·have hae : a = N := by omega
      rw [hae] at hm2
      simp (disch := omega) only [wrap_id]
      refine ⟨f - 1, by omega, Up.skip (Up.here ⟨k + 1, gl, L2, rfl, rfl, by omega, hGl, hSL2, fun x y hy => ?_, fun x y hy => ?_⟩)⟩
      ·rw [hm2]
       by_cases e : y = k ∧ x < N
       ·rw [if_pos e, e.1]
        exact hQm x
       ·rw [if_neg e]
        by_cases e' : y = k
        ·subst e'
         rw [hno x y (Nat.le_refl _)]
         refine ⟨fun h => (by cases h), fun h => ?_⟩
         have := (hQm x).2 h
         have := (mat_lt hQ this).1
         exact absurd ⟨rfl, this⟩ e
        ·exact hcy x y (by omega)
      ·rw [hm2, if_neg (by omega)]
       exact hno x y (by omega)
  ·have hke : k = n + 1 := by omega
   have hcyc : LoopI g n H L := ⟨fun a k' h1 h2 => (hcy a k' (by omega)).2 h2, fun a k' h => by
    rcases Nat.lt_or_ge k' k with q | q
    ·exact .inl ((hcy a k' q).1 h)
    ·rw [hno a k' q] at h; cases h⟩
   clear hno hcy hke hge
   have hc0 := cntL_le hSL.2
   rw [hSL.1] at hc0
   refine s_loop (fun f vs Γ => ∃ (gl : PH) (L : List (List Bool)) (ag : Bool), vs = [.v true (.bool ag)] ∧ Γ = [gl] ∧ Grid gl t.bl 22 4 L ∧ Shp N (n + 1) L ∧ LoopI g n H L ∧ f + cntL L = N * (n + 1) + (if ag then 1 else 0) ∧ (ag = false → DoneL g n H L g.rs.length)) (N * (n + 1) - cntL L + 1)
    (Up.here ⟨gl, L, true, rfl, rfl, hGl, hSL, hcyc, by simp; omega, fun h => by cases h⟩) ?_
   clear hGl hSL hcyc hc0 hkf
   rintro f2 vs Γ ⟨gl, L0, ag, rfl, rfl, hGl, hSL, hI, hf, hD⟩
   have hc0 := cntL_le hSL.2
   rw [hSL.1] at hc0
   cases ag with
   | false =>
    simp -implicitDefEqProofs only [S149_10, go_sem,zA,zB,zC,zD,zE,reduceCtorEq,↓reduceIte,zF,zG,zH,zI]
    refine Up.here ?_
    subst hR
    exact ⟨gl, L0, rfl, hGl, hSL, hI, hD rfl⟩
   | true =>
    simp -implicitDefEqProofs only [S149_10, go_sem,zA,zB,zC,zD,zE,reduceCtorEq,↓reduceIte,zF,zG,zH,zI]
    refine s_ld (j := 3) (cells_lk (lk_r [gl] _ _ _ hT.out)) (by simp [Tb.cells]) (by simp) ?_
    simp -implicitDefEqProofs only [Tb.cells, go_sem,zA,zB,zC,zD,zE,reduceCtorEq,↓reduceIte,zF,zG,zH,zI]
    refine s_loop (fun f1 vs Γ => ∃ (gl : PH) (L : List (List Bool)) (ag : Bool) (i : Nat), vs = [.v true (.bool ag), .v true (.int .i64 (i : Int))] ∧ Γ = [gl] ∧ i + f1 = g.rs.length ∧ Grid gl t.bl 22 4 L ∧ Shp N (n + 1) L ∧ LoopI g n H L ∧ cntL L0 + (if ag then 1 else 0) ≤ cntL L ∧ (ag = false → DoneL g n H L i)) g.rs.length
     (Up.here ⟨gl, L0, false, 0, rfl, rfl, by omega, hGl, hSL, hI, by simp, fun _ i _ h => by omega⟩) ?_
    clear hGl hSL hI hD
    rintro f1 vs Γ ⟨gl, L1, ag, i, rfl, rfl, hif, hGl, hSL, hI, hc1, hD1⟩
    have hcc := cntL_le hSL.2
    rw [hSL.1] at hcc
    simp -implicitDefEqProofs only [S149_9, go_sem,zA,zB,zC,zD,zE,reduceCtorEq,↓reduceIte,zF,zG,zH,zI]
    refine ⟨fun hlt => ?_, fun hge => ?_⟩
    ·have hi : i < g.rs.length := by omega
     obtain ⟨rows, hEi⟩ : ∃ rows, E[i]? = some rows := ⟨_, List.getElem?_eq_getElem (by rw [hEI.1]; exact hi)⟩
     have hri := List.getElem?_eq_getElem hi
     obtain ⟨hSr, hSo⟩ := hEI.2 i _ _ hEi hri
     obtain ⟨hCr, _⟩ := hED i _ _ hi hEi hri
     obtain ⟨b0, o0, h0, A1, c1, hr1, hcr⟩ := hT.rs.ru hi
     have hleft := V.left _ (List.getElem_mem hi)
     have hless := fun (L : List (List Bool)) (hSL : Shp g.ns.toNat (n + 1) L) (k : Nat) (hk : k ≤ n) (Γ' : Ctx) (hl : Mem.le (lk Γr) (lk Γ')) (hL : SlOk (lk Γ') (some ⟨t.bl, 0, none⟩) g.ns.toNat L) => tab_endless V (by rw [hN']; exact hS) hSL hn hi hEi hSr hSo hCr g.rs[i].r.length 0 k (by omega) hk (hT.mono hl) (by rw [hN']; exact hH.mono hl) hL hE (hle.trans hl)
     rw [hN'] at hless
     generalize hrr : g.rs[i] = r at *
     obtain ⟨a, ha⟩ : ∃ a : Nat, r.l = a := ⟨r.l.toNat, by omega⟩
     have hat : r.l.toNat = a := by omega
     refine s_idx h0 (by omega) (by omega) ?_
     simp -implicitDefEqProofs only [go_sem,zA,zB,zC,zD,zE,reduceCtorEq,↓reduceIte,zF,zG,zH,zI]
     refine s_ld0 (by simpa using hcr _ (lk_r [gl] _)) (by simp) (by simp) ?_
     simp -implicitDefEqProofs only [go_sem,zA,zB,zC,zD,zE,reduceCtorEq,↓reduceIte,zF,zG,zH,zI]
     intro bx
     refine s_ld (j := 4) (cells_lk (lk_r [gl] _ _ _ hT.out)) (by simp [Tb.cells]) (by simp) ?_
     simp -implicitDefEqProofs only [Tb.cells, go_sem,zA,zB,zC,zD,zE,reduceCtorEq,↓reduceIte,zF,zG,zH,zI]
     simp (disch := omega) only [wrap_id]
     refine s_loop (fun f3 vs Γ => ∃ (gl : PH) (L : List (List Bool)) (ag : Bool) (k : Nat), vs = [.v true (.bool ag), .v true (.int .i64 (k : Int))] ∧ Γ = [gl] ∧ k + f3 = n + 1 ∧ Grid gl t.bl 22 4 L ∧ Shp N (n + 1) L ∧ LoopI g n H L ∧ cntL L0 + (if ag then 1 else 0) ≤ cntL L ∧ (ag = false → DoneL g n H L i ∧ ∀ k', k' < k → LessP H L r.r k' → mat L a k' = true)) (n + 1)
      (Up.here ⟨gl, L1, ag, 0, rfl, rfl, by omega, hGl, hSL, hI, hc1, fun h => ⟨hD1 h, fun k' h => by omega⟩⟩) ?_
     clear hGl hSL hI hc1 hD1 hcc
     rintro f3 vs Γ ⟨gl, L1, ag, k, rfl, rfl, hkf, hGl, hSL, hI, hc1, hD1⟩
     simp -implicitDefEqProofs only [S149_8, go_sem,zA,zB,zC,zD,zE,reduceCtorEq,↓reduceIte,zF,zG,zH,zI]
     refine ⟨fun hlt => ?_, fun hge => ?_⟩
     ·have hk : k ≤ n := by omega
      have hLl := hSL.1
      have hLr := hSL.at' (i := a) (by omega)
      obtain ⟨kl, hcl, hAl, hpl⟩ := hGl.at' (i := a) (by omega) (by omega)
      rw [hLr] at hcl
      have hgl := mat_get (List.getElem?_eq_getElem (show a < L1.length by omega)) (show k < L1[a].length by omega)
      have hnext : (LessP H L1 r.r k → mat L1 a k = true) → ag = false → DoneL g n H L1 i ∧ ∀ k', k' < k + 1 → LessP H L1 r.r k' → mat L1 a k' = true := by
       intro q h
       obtain ⟨q1, q2⟩ := hD1 h
       refine ⟨q1, fun k' w1 w2 => ?_⟩
       rcases Nat.lt_or_ge k' k with e | e
       ·exact q2 k' e w2
       ·have : k' = k := by omega
        subst this
        exact q w2
      refine s_split ?_
      simp -implicitDefEqProofs only [S149_6, go_sem,zA,zB,zC,zD,zE,reduceCtorEq,↓reduceIte,zF,zG,zH,zI]
      refine s_ld (j := 6) (cells_lk (lk_r [gl] _ _ _ hT.out)) (by simp [Tb.cells]) (by simp) ?_
      simp -implicitDefEqProofs only [Tb.cells, go_sem,zA,zB,zC,zD,zE,reduceCtorEq,↓reduceIte,zF,zG,zH,zI]
      rw [hN', ha]
      refine s_idx rfl (by omega) (by omega) ?_
      simp -implicitDefEqProofs only [go_sem,zA,zB,zC,zD,zE,reduceCtorEq,↓reduceIte,zF,zG,zH,zI]
      refine s_ld0 (by simpa using hcl _ (by simp)) (by simp) (by simp) ?_
      simp -implicitDefEqProofs only [go_sem,zA,zB,zC,zD,zE,reduceCtorEq,↓reduceIte,zF,zG,zH,zI]
      refine s_idx rfl (by omega) (by omega) ?_
      simp -implicitDefEqProofs only [go_sem,zA,zB,zC,zD,zE,reduceCtorEq,↓reduceIte,zF,zG,zH,zI]
      refine s_ld0 (hAl.bool (i := k) (by omega) (by simp)) (by simp) (by simp) ?_
      generalize hv1 : L1[a][k] = v1 at hgl
      cases v1 with
      | true =>
       simp -implicitDefEqProofs only [S149_7, go_sem,zA,zB,zC,zD,zE,reduceCtorEq,↓reduceIte,zF,zG,zH,zI]
       refine ⟨.bool false, ?_⟩
       simp -implicitDefEqProofs only [go_sem,zA,zB,zC,zD,zE,reduceCtorEq,↓reduceIte,zF,zG,zH,zI]
       simp (disch := omega) only [wrap_id]
       exact Up.here ⟨f3 - 1, by omega, Up.here ⟨gl, L1, ag, k + 1, rfl, rfl, by omega, hGl, hSL, hI, hc1, hnext fun _ => hgl⟩⟩
      | false =>
       simp -implicitDefEqProofs only [go_sem,zA,zB,zC,zD,zE,reduceCtorEq,↓reduceIte,zF,zG,zH,zI]
       refine CallVC.read (hless L1 hSL k hk ([gl] ++ Γr) (lk_r [gl] _) (by have := hGl.slok (L := lk ([gl] ++ Γr)) (lk_l [gl] Γr); rwa [hLl] at this)) ?_
       rintro v Γ' ⟨rfl, b, rfl, hb⟩
       cases b with
       | false =>
        simp -implicitDefEqProofs only [S149_7, go_sem,zA,zB,zC,zD,zE,reduceCtorEq,↓reduceIte,zF,zG,zH,zI]
        simp (disch := omega) only [wrap_id]
        exact Up.here ⟨f3 - 1, by omega, Up.here ⟨gl, L1, ag, k + 1, rfl, rfl, by omega, hGl, hSL, hI, hc1, hnext fun h => by have := hb.2 h; cases this⟩⟩
       | true =>
        simp -implicitDefEqProofs only [go_sem,zA,zB,zC,zD,zE,reduceCtorEq,↓reduceIte,zF,zG,zH,zI]
        refine s_ld (j := 6) (cells_lk (lk_r [gl] _ _ _ hT.out)) (by simp [Tb.cells]) (by simp) ?_
        simp -implicitDefEqProofs only [Tb.cells, go_sem,zA,zB,zC,zD,zE,reduceCtorEq,↓reduceIte,zF,zG,zH,zI]
        rw [hN']
        refine s_idx rfl (by omega) (by omega) ?_
        simp -implicitDefEqProofs only [go_sem,zA,zB,zC,zD,zE,reduceCtorEq,↓reduceIte,zF,zG,zH,zI]
        refine s_ld0 (by simpa using hcl _ (by simp)) (by simp) (by simp) ?_
        simp -implicitDefEqProofs only [go_sem,zA,zB,zC,zD,zE,reduceCtorEq,↓reduceIte,zF,zG,zH,zI]
        refine s_idx rfl (by omega) (by omega) ?_
        simp -implicitDefEqProofs only [go_sem,zA,zB,zC,zD,zE,reduceCtorEq,↓reduceIte,zF,zG,zH,zI]
        refine s_storeA (ix := 0) (α := Bool) true rfl hAl (i := k) (by omega) ?_
        intro g2 hA2 ho2
        have hG2 := hpl g2 _ hA2 (by simp) ho2
        have hm2 := mat_setS hSL (x := a) (y := k) (by omega) (by omega) true
        rw [show L1.getD a [] = L1[a] by simp [List.getD_eq_getElem?_getD, show a < L1.length by omega]] at hm2
        have hS2 : Shp N (n + 1) (L1.set a (L1[a].set k true)) := hSL.set a (by simp [hLr])
        have hct : cntL (L1.set a (L1[a].set k true)) = cntL L1 + 1 := cntL_set (by omega) (count_set (by omega) hv1)
        have hmo : MonoH L1 (L1.set a (L1[a].set k true)) := fun x y q => by rw [hm2]; split <;> simp_all
        simp -implicitDefEqProofs only [S149_7, go_sem,zA,zB,zC,zD,zE,reduceCtorEq,↓reduceIte,zF,zG,zH,zI]
        simp (disch := omega) only [wrap_id]
        refine Up.here ⟨f3 - 1, by omega, Up.here ⟨g2, _, true, k + 1, rfl, rfl, by omega, hG2, hS2, ⟨fun x y h1 h2 => hmo _ _ (hI.cyc x y h1 h2), fun x y h => ?_⟩, ?_, fun h => by cases h⟩⟩
        ·rw [hm2] at h
         split at h
         ·rename_i e
          obtain ⟨rfl, rfl⟩ := e
          refine .inr ⟨r, by rw [← hrr]; exact List.getElem_mem hi, ha, LessP.mono hmo (by simpa using hb.1 rfl)⟩
         ·rcases hI.snd x y h with q | ⟨r', q1, q2, q3⟩
          ·exact .inl q
          ·exact .inr ⟨r', q1, q2, q3.mono hmo⟩
        ·rw [hct]
         have : cntL L0 ≤ cntL L1 := by
          revert hc1
          cases ag <;> simp <;> omega
         simp
         omega
     ·have hke : k = n + 1 := by omega
      subst hke
      simp (disch := omega) only [wrap_id]
      refine ⟨f1 - 1, by omega, Up.here ⟨gl, L1, ag, i + 1, rfl, rfl, by omega, hGl, hSL, hI, hc1, fun h j r' h1 h2 k' h3 h4 => ?_⟩⟩
      obtain ⟨q1, q2⟩ := hD1 h
      by_cases e : j = i
      ·subst e
       rw [hri] at h2
       cases h2
       rw [hat]
       exact q2 k' (by omega) h4
      ·exact q1 j r' (by omega) h2 k' h3 h4
    ·have hie : i = g.rs.length := by omega
     subst hie
     refine ⟨N * (n + 1) + (if ag then 1 else 0) - cntL L1, ?_, Up.here ⟨gl, L1, ag, rfl, rfl, hGl, hSL, hI, ?_, hD1⟩⟩
     ·revert hc1 hf
      cases ag <;> simp <;> omega
     ·omega
/- The text of (*parlance/census.table).count as a statement; no condition. -/
def S150_1 : Stmt :=
 .block 2
 (.seq
 (.region
 [oq 63 (.mv (.tmp 61)),
 oq 64 (.idx 2 (.tmp 59) (.tmp 61)),
 oq 65 (.load true 2 (.tmp 64)),
 .mk (some 9) none
 (.alloc true 37 (.agg (Array.mk [.int .i64 0,.slice none 0 0]))),
 oq 8 (.mv (.tmp 63)),
 .mk none none (.store 2 (.tmp 9) (.tmp 65))]
 [0,1,2,7,8,9,59,60,61])
 (.seq
 (.region
 [oq 66 (.fld 0 (.tmp 9)),
 oq 67 (.load false 1 (.tmp 66)),oq 68 (.mv (.tmp 1)),
 oq 69 (.ibin .eql (.tmp 67) (.tmp 68))]
 [0,1,2,7,8,59,60,61,69])
 (.cond (.tmp 69)
 (.region
 [oq 70 (.mv (.tmp 7)),oq 71 (.mv (.tmp 0)),
 oq 72 (.mv (.tmp 8)),oq 73 (.mv (.tmp 2)),
 .mk (some 74) none
 (.call (.func 189)
 [.tmp 71,.tmp 72,.const (.int .i64 0),.tmp 73]),
 oq 75 (.ibin .add (.tmp 70) (.tmp 74)),
 oq 76 (.fn Fk.min [.const (.int .i64 1000000000),.tmp 75]),
 oq 7 (.mv (.tmp 76))]
 [0,1,2,7,59,60,61])
 .skip)))
def S150_2 : Stmt :=
 .region
 [oq 77 (.ibin .add (.tmp 61) (.const (.int .i64 1))),
 oq 61 (.mv (.tmp 77))]
 [0,1,2,7,59,60,61]
def S150_3 : Stmt :=
 .seq
 (.region [oq 62 (.ibin .lss (.tmp 61) (.tmp 60))]
 [0,1,2,7,59,60,61,62])
 (.seq (.cond (.tmp 62) .skip (.exit 1)) (.join S150_1 S150_2 [7] [0,1,2,59,60,61]))
def S150_0 : Stmt :=
 .seq (.region [oq 6 (.mv (.const (.int .i64 0)))] [0,1,2])
 (.seq
 (.block 0
 (.seq
 (.region
 [oq 11 (.mv (.tmp 0)),oq 12 (.nilCheck (.tmp 11)),
 oq 13 (.fld 5 (.tmp 12)),
 oq 14 (.load false 1 (.tmp 13)),
 oq 15 (.mv (.tmp 1)),
 oq 16 (.idx 1 (.tmp 14) (.tmp 15)),
 oq 17 (.load false 1 (.tmp 16)),
 oq 18 (.mv (.tmp 2)),
 oq 19 (.idx 1 (.tmp 17) (.tmp 18)),
 oq 20 (.load false 1 (.tmp 19)),
 oq 21 (.un .not (.tmp 20)),
 oq 10 (.mv (.tmp 21))]
 [0,1,2,10])
 (.cond (.tmp 10)
 (.seq (.region [oq 6 (.mv (.const (.int .i64 0)))] [6])
 .ret)
 (.seq
 (.region
 [oq 23 (.mv (.tmp 0)),
 oq 24 (.nilCheck (.tmp 23)),
 oq 25 (.fld 6 (.tmp 24)),
 oq 26 (.load false 1 (.tmp 25)),
 oq 27 (.mv (.tmp 1)),
 oq 28 (.idx 1 (.tmp 26) (.tmp 27)),
 oq 29 (.load false 1 (.tmp 28)),
 oq 30 (.mv (.tmp 2)),
 oq 31 (.idx 1 (.tmp 29) (.tmp 30)),
 oq 32 (.load false 1 (.tmp 31)),
 oq 22 (.mv (.tmp 32))]
 [0,1,2,22])
 (.cond (.tmp 22)
 (.seq (.region [oq 6 (.mv (.const (.int .i64 (-1))))] [6])
 .ret)
 (.seq
 (.region
 [oq 34 (.mv (.tmp 0)),
 oq 35 (.nilCheck (.tmp 34)),
 oq 36 (.fld 7 (.tmp 35)),
 oq 37 (.load false 1 (.tmp 36)),
 oq 38 (.mv (.tmp 1)),
 oq 39 (.idx 1 (.tmp 37) (.tmp 38)),
 oq 40 (.load false 1 (.tmp 39)),
 oq 41 (.mv (.tmp 2)),
 oq 42 (.idx 1 (.tmp 40) (.tmp 41)),
 oq 43 (.load false 1 (.tmp 42)),
 .mk (some 44) none
 (.ibin .geq (.tmp 43) (.const (.int .i64 0))),
 oq 33 (.mv (.tmp 44))]
 [0,1,2,33])
 (.cond (.tmp 33)
 (.seq
 (.region
 [oq 45 (.mv (.tmp 0)),
 oq 46 (.nilCheck (.tmp 45)),
 oq 47 (.fld 7 (.tmp 46)),
 oq 48 (.load false 1 (.tmp 47)),
 oq 49 (.mv (.tmp 1)),
 oq 50 (.idx 1 (.tmp 48) (.tmp 49)),
 oq 51 (.load false 1 (.tmp 50)),
 oq 52 (.mv (.tmp 2)),
 oq 53 (.idx 1 (.tmp 51) (.tmp 52)),
 oq 54 (.load false 1 (.tmp 53)),
 oq 6 (.mv (.tmp 54))]
 [6])
 .ret)
 .skip)))))))
 (.seq (.region [oq 7 (.mv (.const (.int .i64 0)))] [0,1,2,7])
 (.seq
 (.seq
 (.region
 [oq 55 (.mv (.tmp 0)),oq 56 (.nilCheck (.tmp 55)),
 oq 57 (.fld 0 (.tmp 56)),
 oq 58 (.fld 3 (.tmp 57)),
 oq 59 (.load false 1 (.tmp 58)),
 oq 60 (.len false (.tmp 59)),
 oq 61 (.mv (.const (.int .i64 0)))]
 [0,1,2,7,59,60,61])
 (.block 1 (.loop S150_3 [7,61] [0,1,2,59,60])))
 (.seq
 (.region
 [oq 78 (.mv (.tmp 0)),oq 79 (.nilCheck (.tmp 78)),
 oq 80 (.fld 7 (.tmp 79)),
 oq 81 (.load false 1 (.tmp 80)),
 oq 82 (.mv (.tmp 1)),
 oq 83 (.idx 1 (.tmp 81) (.tmp 82)),
 oq 84 (.load false 1 (.tmp 83)),
 oq 85 (.mv (.tmp 2)),oq 86 (.mv (.tmp 7)),
 oq 87 (.idx 1 (.tmp 84) (.tmp 85)),
 .mk none none (.store 1 (.tmp 87) (.tmp 86))]
 [7])
 (.seq
 (.region
 [oq 88 (.mv (.tmp 7)),oq 6 (.mv (.tmp 88))] [6])
 .ret)))))
def S150 : FnS := ⟨89,[(6,none)],S150_0⟩
theorem tr150 : trFn Try.prog 150 [9] [[0,1,2],[0,1,2,10],[6],[0,1,2,22],[6],[0,1,2,33],[6],[0,1,2,7],[0,1,2,7,59,60,61],[7,61],[0,1,2,59,60],[0,1,2,7,59,60,61,62],[7],[0,1,2,59,60,61],[0,1,2,7,8,9,59,60,61],[0,1,2,7,8,59,60,61,69],[0,1,2,7,59,60,61],[0,1,2,7,59,60,61],[7],[6]] = some S150 := by kernel_rfl
/- The text of (*parlance/census.table).way as a statement; no condition. -/
def S189_1 : Stmt :=
 .seq
 (.region
 [oq 102 (.mv (.tmp 9)),oq 103 (.mv (.tmp 2)),
 oq 104 (.idx 2 (.tmp 102) (.tmp 103)),
 oq 105 (.fld 0 (.tmp 104)),
 oq 106 (.load false 1 (.tmp 105)),
 oq 107 (.un .not (.tmp 106))]
 [0,1,2,3,9,10,11,12,71,72,107])
 (.cond (.tmp 107)
 (.region
 [oq 108 (.mv (.tmp 0)),oq 109 (.mv (.tmp 9)),
 oq 110 (.mv (.tmp 2)),
 oq 111 (.idx 2 (.tmp 109) (.tmp 110)),
 oq 112 (.fld 1 (.tmp 111)),
 oq 113 (.load false 1 (.tmp 112)),
 oq 114 (.mv (.tmp 11)),
 oq 115 (.call (.func 150) [.tmp 108,.tmp 113,.tmp 114]),
 oq 12 (.mv (.tmp 115))]
 [0,1,2,3,9,10,11,12,71,72])
 .skip)
def S189_2 : Stmt :=
 .region
 [oq 116 (.mv (.tmp 10)),oq 117 (.mv (.tmp 12)),
 oq 118 (.mv (.tmp 0)),oq 119 (.mv (.tmp 1)),
 oq 120 (.mv (.tmp 2)),
 oq 121 (.ibin .add (.tmp 120) (.const (.int .i64 1))),
 oq 122 (.mv (.tmp 3)),oq 123 (.mv (.tmp 11)),
 oq 124 (.ibin .sub (.tmp 122) (.tmp 123)),
 .mk (some 125) none
 (.call (.func 189) [.tmp 118,.tmp 119,.tmp 121,.tmp 124]),
 oq 126 (.ibin .mul (.tmp 117) (.tmp 125)),
 oq 127 (.fn Fk.min [.const (.int .i64 1000000000),.tmp 126]),
 oq 128 (.ibin .add (.tmp 116) (.tmp 127)),
 oq 129 (.fn Fk.min [.const (.int .i64 1000000000),.tmp 128]),
 oq 10 (.mv (.tmp 129))]
 [0,1,2,3,9,10,71,72]
def S189_3 : Stmt :=
 .block 2
 (.seq
 (.region [oq 74 (.mv (.tmp 72)),oq 11 (.mv (.tmp 74))]
 [0,1,2,3,9,10,11,71,72])
 (.seq
 (.seq
 (.region
 [oq 75 (.mv (.tmp 0)),oq 76 (.mv (.tmp 9)),
 oq 77 (.mv (.tmp 2)),
 oq 78 (.idx 2 (.tmp 76) (.tmp 77)),
 oq 79 (.load true 2 (.tmp 78)),
 oq 80 (.mv (.tmp 11)),
 oq 81 (.call (.func 207) [.tmp 75,.tmp 79,.tmp 80]),
 oq 82 (.un .not (.tmp 81)),
 oq 83 (.mv (.tmp 82)),
 .mk (some 84) (some (83,false)) (.mv (.tmp 0)),
 .mk (some 85) (some (83,false)) (.nilCheck (.tmp 84)),
 .mk (some 86) (some (83,false)) (.fld 8 (.tmp 85)),
 .mk (some 87) (some (83,false)) (.load false 1 (.tmp 86)),
 .mk (some 88) (some (83,false)) (.mv (.tmp 1)),
 .mk (some 89) (some (83,false)) (.idx 1 (.tmp 87) (.tmp 88)),
 .mk (some 90) (some (83,false)) (.load false 1 (.tmp 89)),
 .mk (some 91) (some (83,false)) (.mv (.tmp 2)),
 .mk (some 92) (some (83,false))
 (.ibin .add (.tmp 91) (.const (.int .i64 1))),
 .mk (some 93) (some (83,false)) (.idx 1 (.tmp 90) (.tmp 92)),
 .mk (some 94) (some (83,false)) (.load false 1 (.tmp 93)),
 .mk (some 95) (some (83,false)) (.mv (.tmp 3)),
 .mk (some 96) (some (83,false)) (.mv (.tmp 11)),
 .mk (some 97) (some (83,false)) (.ibin .sub (.tmp 95) (.tmp 96)),
 .mk (some 98) (some (83,false)) (.idx 1 (.tmp 94) (.tmp 97)),
 .mk (some 99) (some (83,false)) (.load false 1 (.tmp 98)),
 .mk (some 100) (some (83,false)) (.un .not (.tmp 99)),
 oq 101 (.pick (.tmp 83) (.const (.bool true)) (.tmp 100))]
 [0,1,2,3,9,10,11,71,72,101])
 (.cond (.tmp 101) (.exit 2) .skip))
 (.seq
 (.region [oq 12 (.mv (.const (.int .i64 1)))]
 [0,1,2,3,9,10,11,12,71,72])
 (.join S189_1 S189_2 [12] [0,1,2,3,9,10,11,71,72]))))
def S189_4 : Stmt :=
 .region
 [oq 130 (.ibin .add (.tmp 72) (.const (.int .i64 1))),
 oq 72 (.mv (.tmp 130))]
 [0,1,2,3,9,10,71,72]
def S189_5 : Stmt :=
 .seq
 (.region [oq 73 (.ibin .lss (.tmp 72) (.tmp 71))]
 [0,1,2,3,9,10,71,72,73])
 (.seq (.cond (.tmp 73) .skip (.exit 1)) (.join S189_3 S189_4 [10] [0,1,2,3,9,71,72]))
def S189_0 : Stmt :=
 .seq (.region [oq 8 (.mv (.const (.int .i64 0)))] [0,1,2,3])
 (.seq
 (.region
 [oq 13 (.mv (.tmp 0)),oq 14 (.nilCheck (.tmp 13)),
 oq 15 (.fld 0 (.tmp 14)),oq 16 (.fld 3 (.tmp 15)),
 oq 17 (.load false 1 (.tmp 16)),oq 18 (.mv (.tmp 1)),
 oq 19 (.idx 2 (.tmp 17) (.tmp 18)),
 oq 20 (.fld 1 (.tmp 19)),
 oq 21 (.load false 1 (.tmp 20)),oq 9 (.mv (.tmp 21))]
 [0,1,2,3,9])
 (.seq
 (.block 0
 (.seq
 (.region
 [oq 23 (.mv (.tmp 0)),oq 24 (.nilCheck (.tmp 23)),
 oq 25 (.fld 8 (.tmp 24)),
 oq 26 (.load false 1 (.tmp 25)),
 oq 27 (.mv (.tmp 1)),
 oq 28 (.idx 1 (.tmp 26) (.tmp 27)),
 oq 29 (.load false 1 (.tmp 28)),
 oq 30 (.mv (.tmp 2)),
 oq 31 (.idx 1 (.tmp 29) (.tmp 30)),
 oq 32 (.load false 1 (.tmp 31)),
 oq 33 (.mv (.tmp 3)),
 oq 34 (.idx 1 (.tmp 32) (.tmp 33)),
 oq 35 (.load false 1 (.tmp 34)),
 oq 36 (.un .not (.tmp 35)),
 oq 22 (.mv (.tmp 36))]
 [0,1,2,3,9,22])
 (.cond (.tmp 22)
 (.seq (.region [oq 8 (.mv (.const (.int .i64 0)))] [8])
 .ret)
 (.seq
 (.region
 [oq 38 (.mv (.tmp 2)),oq 39 (.mv (.tmp 9)),
 oq 40 (.len false (.tmp 39)),
 oq 41 (.ibin .eql (.tmp 38) (.tmp 40)),
 oq 37 (.mv (.tmp 41))]
 [0,1,2,3,9,37])
 (.cond (.tmp 37)
 (.seq (.region [oq 8 (.mv (.const (.int .i64 1)))] [8])
 .ret)
 (.seq
 (.region
 [oq 43 (.mv (.tmp 0)),
 oq 44 (.nilCheck (.tmp 43)),
 oq 45 (.fld 9 (.tmp 44)),
 oq 46 (.load false 1 (.tmp 45)),
 oq 47 (.mv (.tmp 1)),
 oq 48 (.idx 1 (.tmp 46) (.tmp 47)),
 oq 49 (.load false 1 (.tmp 48)),
 oq 50 (.mv (.tmp 2)),
 oq 51 (.idx 1 (.tmp 49) (.tmp 50)),
 oq 52 (.load false 1 (.tmp 51)),
 oq 53 (.mv (.tmp 3)),
 oq 54 (.idx 1 (.tmp 52) (.tmp 53)),
 oq 55 (.load false 1 (.tmp 54)),
 .mk (some 56) none
 (.ibin .geq (.tmp 55) (.const (.int .i64 0))),
 oq 42 (.mv (.tmp 56))]
 [0,1,2,3,9,42])
 (.cond (.tmp 42)
 (.seq
 (.region
 [oq 57 (.mv (.tmp 0)),
 oq 58 (.nilCheck (.tmp 57)),
 oq 59 (.fld 9 (.tmp 58)),
 oq 60 (.load false 1 (.tmp 59)),
 oq 61 (.mv (.tmp 1)),
 oq 62 (.idx 1 (.tmp 60) (.tmp 61)),
 oq 63 (.load false 1 (.tmp 62)),
 oq 64 (.mv (.tmp 2)),
 oq 65 (.idx 1 (.tmp 63) (.tmp 64)),
 oq 66 (.load false 1 (.tmp 65)),
 oq 67 (.mv (.tmp 3)),
 oq 68 (.idx 1 (.tmp 66) (.tmp 67)),
 oq 69 (.load false 1 (.tmp 68)),
 oq 8 (.mv (.tmp 69))]
 [8])
 .ret)
 .skip)))))))
 (.seq
 (.region [oq 10 (.mv (.const (.int .i64 0)))] [0,1,2,3,9,10])
 (.seq
 (.seq
 (.region
 [oq 70 (.mv (.tmp 3)),
 oq 71 (.ibin .add (.tmp 70) (.const (.int .i64 1))),
 oq 72 (.mv (.const (.int .i64 0)))]
 [0,1,2,3,9,10,71,72])
 (.block 1 (.loop S189_5 [10,72] [0,1,2,3,9,71])))
 (.seq
 (.region
 [oq 131 (.mv (.tmp 0)),
 oq 132 (.nilCheck (.tmp 131)),
 oq 133 (.fld 9 (.tmp 132)),
 oq 134 (.load false 1 (.tmp 133)),
 oq 135 (.mv (.tmp 1)),
 oq 136 (.idx 1 (.tmp 134) (.tmp 135)),
 oq 137 (.load false 1 (.tmp 136)),
 oq 138 (.mv (.tmp 2)),
 oq 139 (.idx 1 (.tmp 137) (.tmp 138)),
 oq 140 (.load false 1 (.tmp 139)),
 oq 141 (.mv (.tmp 3)),oq 142 (.mv (.tmp 10)),
 oq 143 (.idx 1 (.tmp 140) (.tmp 141)),
 .mk none none (.store 1 (.tmp 143) (.tmp 142))]
 [10])
 (.seq
 (.region
 [oq 144 (.mv (.tmp 10)),oq 8 (.mv (.tmp 144))]
 [8])
 .ret))))))
def S189 : FnS := ⟨145,[(8,none)],S189_0⟩
theorem tr189 : trFn Try.prog 189 [] [[0,1,2,3],[0,1,2,3,9],[0,1,2,3,9,22],[8],[0,1,2,3,9,37],[8],[0,1,2,3,9,42],[8],[0,1,2,3,9,10],[0,1,2,3,9,10,71,72],[10,72],[0,1,2,3,9,71],[0,1,2,3,9,10,71,72,73],[10],[0,1,2,3,9,71,72],[0,1,2,3,9,10,11,71,72],[0,1,2,3,9,10,11,71,72,101],[0,1,2,3,9,10,11,12,71,72],[12],[0,1,2,3,9,10,11,71,72],[0,1,2,3,9,10,11,12,71,72,107],[0,1,2,3,9,10,11,12,71,72],[0,1,2,3,9,10,71,72],[0,1,2,3,9,10,71,72],[10],[8]] = some S189 := by kernel_rfl
/- census: count and way walked; no condition. -/
theorem Arr.num {g : PH} {b : Nat} {T : TypeId} {xs : List Int} (h : Arr g b T xs) {i : Nat} (hi : i < xs.length) {Γ : Ctx} (hg : g ∈ Γ) : Cells Γ b i [.int .i64 xs[i]] := h.cell hi hg
def capN (x : Nat) : Nat := min x 1000000000
theorem capN_le (x : Nat) : capN x ≤ 1000000000 := Nat.min_le_right _ _
theorem capN_add (x y : Nat) : capN (capN x + capN y) = capN (x + y) := by unfold capN; omega
theorem capN_mul (x y : Nat) : capN (capN x * capN y) = capN (x * y) := by
 unfold capN
 rcases Nat.eq_zero_or_pos x with e | hx
 ·subst e; simp
 rcases Nat.eq_zero_or_pos y with e | hy
 ·subst e; simp
 rcases Nat.lt_or_ge 1000000000 x with h | h
 ·have h1 : min x 1000000000 = 1000000000 := by omega
  have h2 : 1 ≤ min y 1000000000 := by omega
  have h3 : 1000000000 ≤ 1000000000 * min y 1000000000 := Nat.le_mul_of_pos_right _ (by omega)
  have h4 : x ≤ x * y := Nat.le_mul_of_pos_right _ hy
  rw [h1]
  omega
 ·have h1 : min x 1000000000 = x := by omega
  rw [h1]
  rcases Nat.lt_or_ge 1000000000 y with h' | h'
  ·have h2 : min y 1000000000 = 1000000000 := by omega
   have h3 : 1000000000 ≤ x * 1000000000 := Nat.le_mul_of_pos_left _ hx
   have h4 : y ≤ x * y := Nat.le_mul_of_pos_left _ hx
   rw [h2]
   omega
  ·have h2 : min y 1000000000 = y := by omega
   rw [h2]
theorem capZ (x : Nat) : (if (x : Int) < 1000000000 then (x : Int) else 1000000000) = ((capN x : Nat) : Int) := by
 unfold capN
 split <;> omega
theorem capN_mul_le (n w : Nat) : capN n * capN w ≤ 1000000000000000000 := Nat.mul_le_mul (capN_le n) (capN_le w)
theorem way_arith (s n w : Nat) (a : Int) (ha : a = ((capN n : Nat) : Int)) :
  (if IntKind.i64.wrap (((capN s : Nat) : Int) + if IntKind.i64.wrap (a * ((capN w : Nat) : Int)) < 1000000000 then IntKind.i64.wrap (a * ((capN w : Nat) : Int)) else 1000000000) < 1000000000
    then IntKind.i64.wrap (((capN s : Nat) : Int) + if IntKind.i64.wrap (a * ((capN w : Nat) : Int)) < 1000000000 then IntKind.i64.wrap (a * ((capN w : Nat) : Int)) else 1000000000) else 1000000000) = ((capN (s + n * w) : Nat) : Int) := by
 have h1 := capN_mul_le n w
 have h2 := capN_le s
 have e : a * ((capN w : Nat) : Int) = ((capN n * capN w : Nat) : Int) := by rw [ha]; simp
 rw [e, wrap_id (x := ((capN n * capN w : Nat) : Int)) (by omega) (by omega), capZ, capN_mul]
 have h3 := capN_le (n * w)
 have e2 : ((capN s : Nat) : Int) + ((capN (n * w) : Nat) : Int) = ((capN s + capN (n * w) : Nat) : Int) := by simp
 rw [e2, wrap_id (by omega) (by omega), capZ, capN_add]
theorem sum_arith (s w : Nat) : (if IntKind.i64.wrap (((capN s : Nat) : Int) + ((capN w : Nat) : Int)) < 1000000000 then IntKind.i64.wrap (((capN s : Nat) : Int) + ((capN w : Nat) : Int)) else 1000000000) = ((capN (s + w) : Nat) : Int) := by
 have h1 := capN_le s
 have h2 := capN_le w
 have e2 : ((capN s : Nat) : Int) + ((capN w : Nat) : Int) = ((capN s + capN w : Nat) : Int) := by simp
 rw [e2, wrap_id (by omega) (by omega), capZ, capN_add]
def matI (w : List (List Int)) (b c : Nat) : Int := (w.getD b []).getD c (-1)
theorem matI_get {rows : List (List Int)} {p k : Nat} {row : List Int} (hr : rows[p]? = some row) (hk : k < row.length) : matI rows p k = row[k] := by
 simp [matI, List.getD_eq_getElem?_getD, hr, hk]
theorem matI_set {w : List (List Int)} {a b : Nat} (h : Shp a b w) {x y : Nat} (hx : x < a) (hy : y < b) {row : List Int} (hr : w[x]? = some row) (v : Int) (x' y' : Nat) : matI (w.set x (row.set y v)) x' y' = if x' = x ∧ y' = y then v else matI w x' y' := by
 have hl := h.1
 have hrl : row.length = b := h.2 _ (List.mem_of_getElem? hr)
 by_cases e : x' = x
 ·subst e
  simp only [matI, List.getD_eq_getElem?_getD, List.getElem?_set_self (show x' < w.length by omega), Option.getD_some, hr]
  simp only [List.getElem?_set]
  by_cases e' : y = y'
  ·subst e'
   simp [hrl, hy]
  ·have : ¬ y' = y := fun q => e' q.symm
   simp [e', this]
 ·have e'' : ¬ x = x' := fun q => e q.symm
  simp [matI, List.getD_eq_getElem?_getD, List.getElem?_set, e, e'']
def LpI (L : List (List Bool)) (a : Int) (k : Nat) : Prop := 0 ≤ a ∧ mat L a.toNat k = true
/-- what a finished table tells -/
structure TabP (g : Gr) (n : Nat) (H L : List (List Bool)) (E : List (List (List Bool))) : Prop where
 V : VG g
 n24 : n ≤ 24
 sh : Shp g.ns.toNat (n + 1) H
 sl : Shp g.ns.toNat (n + 1) L
 ei : EndsI g n H E
 ed : DoneR g n H E g.rs.length
 hx : ∀ (a : Int) k, 0 ≤ a → k ≤ n → (mat H a.toNat k = true ↔ 0 < cntT g (mostN g n) a k)
 lp : LoopS g n (LpI L)
structure TabR (Γr : Ctx) (t : Tb) (g : Gr) (n : Nat) (R : Option Addr) (cR : Nat) (H L : List (List Bool)) (E : List (List (List Bool))) (ge : PH) : Prop where
 k : TabK (lk Γr) t g n R cR
 has : SlOk (lk Γr) (some ⟨t.bh, 0, none⟩) g.ns.toNat H
 loop : SlOk (lk Γr) (some ⟨t.bl, 0, none⟩) g.ns.toNat L
 ends : Cube ge 22 4 t.be E
 le : Mem.le (lk [ge]) (lk Γr)
theorem TabR.mono {Γr Γ' : Ctx} {t : Tb} {g : Gr} {n : Nat} {R : Option Addr} {cR : Nat} {H L : List (List Bool)} {E : List (List (List Bool))} {ge : PH} (h : TabR Γr t g n R cR H L E ge) (hl : Mem.le (lk Γr) (lk Γ')) : TabR Γ' t g n R cR H L E ge :=
 ⟨h.k.mono hl, h.has.mono hl, h.loop.mono hl, h.ends, h.le.trans hl⟩
theorem TabP.sym {g : Gr} {n : Nat} {H L : List (List Bool)} {E : List (List (List Bool))} (P : TabP g n H L E) {s : Sy} (hs : 0 ≤ s.n) {k : Nat} (hk : k ≤ n) : symB H s k = true ↔ 0 < symT (cntT g (mostN g n)) s k := by
 unfold symB symT
 split
 ·by_cases e : k = 1 <;> simp [e]
 ·exact P.hx _ _ hs hk
theorem TabP.row {g : Gr} {n : Nat} {H L : List (List Bool)} {E : List (List (List Bool))} (P : TabP g n H L E) : ∀ {l : List Sy} {k : Nat}, (∀ s ∈ l, 0 ≤ s.n) → k ≤ n → (RowH H l k ↔ 0 < rowT (cntT g (mostN g n)) l k)
 | [], k, _, _ => by
  show k = 0 ↔ 0 < (if k = 0 then 1 else 0)
  by_cases e : k = 0 <;> simp [e]
 | s :: l, k, h0, hk => by
  rw [row_pos]
  constructor
  ·rintro ⟨j, h1, h2, h3⟩
   exact ⟨j, h1, (P.sym (h0 s (by simp)) (by omega)).1 h2, (P.row (fun s hs => h0 s (by simp [hs])) (by omega)).1 h3⟩
  ·rintro ⟨j, h1, h2, h3⟩
   exact ⟨j, h1, (P.sym (h0 s (by simp)) (by omega)).2 h2, (P.row (fun s hs => h0 s (by simp [hs])) (by omega)).2 h3⟩
/-- remembered counts -/
def KnI (g : Gr) (n : Nat) (K : List (List Int)) : Prop := Shp g.ns.toNat (n + 1) K ∧ ∀ (a : Int) k, 0 ≤ a → k ≤ n → 0 ≤ matI K a.toNat k → matI K a.toNat k = (capN (cntT g (mostN g n) a k) : Nat)
def WyI (g : Gr) (n : Nat) (W : List (List (List Int))) : Prop := W.length = g.rs.length ∧ ∀ (i : Nat) rows (r : Ru), W[i]? = some rows → g.rs[i]? = some r → Shp (r.r.length + 1) (n + 1) rows ∧
 ∀ p k, p ≤ r.r.length → k ≤ n → 0 ≤ matI rows p k → matI rows p k = (capN (rowT (cntT g (mostN g n)) (r.r.drop p) k) : Nat)
theorem WyI.set {g : Gr} {n : Nat} {W : List (List (List Int))} (h : WyI g n W) {i : Nat} {rows : List (List Int)} {r : Ru} (hi : W[i]? = some rows) (hr : g.rs[i]? = some r) {p k : Nat} (hp : p ≤ r.r.length) (hk : k ≤ n) {row : List Int} (hrow : rows[p]? = some row) :
  WyI g n (W.set i (rows.set p (row.set k ((capN (rowT (cntT g (mostN g n)) (r.r.drop p) k) : Nat) : Int)))) := by
 obtain ⟨h1, h2⟩ := h.2 i rows r hi hr
 have hrl : row.length = n + 1 := h1.2 _ (List.mem_of_getElem? hrow)
 refine ⟨by simp [h.1], fun j rows' r' q1 q2 => ?_⟩
 rw [List.getElem?_set] at q1
 by_cases e : i = j
 ·subst e
  rw [if_pos rfl, if_pos (List.getElem?_eq_some_iff.1 hi).1] at q1
  cases q1
  rw [hr] at q2
  cases q2
  refine ⟨h1.set p (by simp [hrl]), fun p' k' w1 w2 w3 => ?_⟩
  rw [matI_set h1 (by omega) (by omega) hrow] at w3 ⊢
  split
  ·rename_i e; rw [e.1, e.2]
  ·rename_i e
   rw [if_neg e] at w3
   exact h2 p' k' w1 w2 w3
 ·rw [if_neg e] at q1
  exact h.2 j rows' r' q1 q2
/-- of rows: nothing below loops or has more than h levels -/
def FinR (g : Gr) (n : Nat) (L : List (List Bool)) (h : Nat) (l : List Sy) (k : Nat) : Prop := ∀ b j, EdR (cntT g (mostN g n)) l k b j → FinT g h b j ∧ ¬ LpI L b j
/-- what is left after a count -/
def CntQ (t : Tb) (g : Gr) (n : Nat) (x : Nat) (v : Value) (Γ : Ctx) : Prop := ∃ gk gw K W, Γ = [gk, gw] ∧ v = .int .i64 (capN x : Nat) ∧ Grid gk t.bk 29 3 K ∧ KnI g n K ∧ Cube gw 29 3 t.bw W ∧ WyI g n W
def CountC (t : Tb) (g : Gr) (n : Nat) (R : Option Addr) (cR : Nat) (H L : List (List Bool)) (E : List (List (List Bool))) (ge : PH) (h : Nat) : Prop :=
 ∀ {Γr : Ctx} {gk gw : PH} {K : List (List Int)} {W : List (List (List Int))}, TabR Γr t g n R cR H L E ge → Grid gk t.bk 29 3 K → KnI g n K → Cube gw 29 3 t.bw W → WyI g n W → ∀ (a k : Nat), (a : Int) < g.ns → k ≤ n → ¬ LpI L a k → FinT g h a k →
  Ret Try.prog 150 [.pointer (some ⟨t.b, 0, none⟩), .int .i64 (a : Int), .int .i64 (k : Int)] Γr [gk, gw] (CntQ t g n (cntT g (mostN g n) a k))
theorem way_of {t : Tb} {g : Gr} {n : Nat} {R : Option Addr} {cR : Nat} {H L : List (List Bool)} {E : List (List (List Bool))} {ge : PH} (P : TabP g n H L E) {h : Nat} (hc : CountC t g n R cR H L E ge h) {i : Nat} (hi : i < g.rs.length) :
  ∀ (d p k : Nat), p + d = g.rs[i].r.length → k ≤ n → FinR g n L h (g.rs[i].r.drop p) k → ∀ {Γr : Ctx} {gk gw : PH} {K : List (List Int)} {W : List (List (List Int))}, TabR Γr t g n R cR H L E ge → Grid gk t.bk 29 3 K → KnI g n K → Cube gw 29 3 t.bw W → WyI g n W →
  Ret Try.prog 189 [.pointer (some ⟨t.b, 0, none⟩), .int .i64 (i : Int), .int .i64 (p : Int), .int .i64 (k : Int)] Γr [gk, gw] (CntQ t g n (rowT (cntT g (mostN g n)) (g.rs[i].r.drop p) k)) := by
 intro d
 induction d with
 | zero =>
  intro p k hp hk hF Γr gk gw K W hR hGk hK hGw hW
  generalize hRR : CntQ t g n _ = R'
  refine ret_of_vc tr189 (Nat.le_of_ble_eq_true rfl) ?_
  simp -implicitDefEqProofs only [S189, S189_0, go_sem,zA,zB,zC,zD,zE,reduceCtorEq,↓reduceIte,zF,zG,zH,zI]
  have hT := hR.k
  obtain ⟨b0, o0, h0, A1, c1, hr1, hcr⟩ := hT.rs.ru hi
  have hsh := hT.rs.short
  have V := P.V
  have hn := P.n24
  have hr4 := V.right _ (List.getElem_mem hi)
  have hsym := V.sym _ (List.getElem_mem hi)
  have hri := List.getElem?_eq_getElem hi
  obtain ⟨rows, hEi⟩ : ∃ rows, E[i]? = some rows := ⟨_, List.getElem?_eq_getElem (by rw [P.ei.1]; exact hi)⟩
  obtain ⟨hSr, hSo⟩ := P.ei.2 i _ _ hEi hri
  obtain ⟨hC, _⟩ := P.ed i _ _ hi hEi hri
  obtain ⟨be, hbe⟩ : ∃ be, t.be[i]? = some be := ⟨_, List.getElem?_eq_getElem (by rw [hT.be]; exact hi)⟩
  have hhd := hdG_at hbe hri
  have hdl := hdG_len hT.be
  obtain ⟨b2, o2, h2, hc2⟩ := hT.ends.hd (i := i) (by omega)
  rw [(List.getElem?_eq_some_iff.1 hhd).2] at hc2
  have hEx : ∀ p' k', p' ≤ g.rs[i].r.length → k' ≤ n → (mat rows p' k' = true ↔ 0 < rowT (cntT g (mostN g n)) (g.rs[i].r.drop p') k') := fun p' k' h1 h2 => by
   rw [← P.row (fun s hs => (hsym s (List.mem_of_mem_drop hs)).1) h2]
   exact ⟨hSo p' k' h1, hC p' k' (Nat.zero_le _) h1 h2⟩
  have hle' := hR.le.trans (lk_r [gk, gw] Γr)
  generalize g.rs[i].r = l at *
  have hpl : p = l.length := by omega
  obtain ⟨kp, hrd⟩ := hR.ends.rd hbe hEi hSr (p := p) (k := k) (by omega) (by omega)
  refine s_ld (j := 3) (cells_lk (lk_r [gk, gw] _ _ _ hT.out)) (by simp [Tb.cells]) (by simp) ?_
  simp -implicitDefEqProofs only [Tb.cells, go_sem,zA,zB,zC,zD,zE,reduceCtorEq,↓reduceIte,zF,zG,zH,zI]
  refine s_idx h0 (by omega) (by omega) ?_
  simp -implicitDefEqProofs only [go_sem,zA,zB,zC,zD,zE,reduceCtorEq,↓reduceIte,zF,zG,zH,zI]
  refine s_ld (j := 1) (by simpa using hcr _ (lk_r [gk, gw] _)) (by simp) (by simp) ?_
  simp -implicitDefEqProofs only [go_sem,zA,zB,zC,zD,zE,reduceCtorEq,↓reduceIte,zF,zG,zH,zI]
  refine s_ld (j := 8) (cells_lk (lk_r [gk, gw] _ _ _ hT.out)) (by simp [Tb.cells]) (by simp) ?_
  simp -implicitDefEqProofs only [Tb.cells, go_sem,zA,zB,zC,zD,zE,reduceCtorEq,↓reduceIte,zF,zG,zH,zI]
  refine s_idx h2 (by omega) (by omega) ?_
  simp -implicitDefEqProofs only [go_sem,zA,zB,zC,zD,zE,reduceCtorEq,↓reduceIte,zF,zG,zH,zI]
  refine s_ld0 (hc2 _ (lk_r [gk, gw] _)) (by simp) (by simp) ?_
  simp -implicitDefEqProofs only [go_sem,zA,zB,zC,zD,zE,reduceCtorEq,↓reduceIte,zF,zG,zH,zI]
  refine s_idx rfl (by omega) (by omega) ?_
  simp -implicitDefEqProofs only [go_sem,zA,zB,zC,zD,zE,reduceCtorEq,↓reduceIte,zF,zG,zH,zI]
  refine s_ld0 (by simpa using (hrd _ hle').1) (by simp) (by simp) ?_
  simp -implicitDefEqProofs only [go_sem,zA,zB,zC,zD,zE,reduceCtorEq,↓reduceIte,zF,zG,zH,zI]
  refine s_idx rfl (by omega) (by omega) ?_
  simp -implicitDefEqProofs only [go_sem,zA,zB,zC,zD,zE,reduceCtorEq,↓reduceIte,zF,zG,zH,zI]
  refine s_ld0 (by simpa using (hrd _ hle').2) (by simp) (by simp) ?_
  simp -implicitDefEqProofs only [go_sem,zA,zB,zC,zD,zE,reduceCtorEq,↓reduceIte,zF,zG,zH,zI]
  have hex0 := hEx p k (by omega) hk
  generalize mat rows p k = v0 at hex0
  cases v0 with
  | false =>
   simp -implicitDefEqProofs only [go_sem,zA,zB,zC,zD,zE,reduceCtorEq,↓reduceIte,zF,zG,zH,zI]
   refine Up.here ?_
   subst hRR
   have hz : rowT (cntT g (mostN g n)) (l.drop p) k = 0 := by
    rcases Nat.eq_zero_or_pos (rowT (cntT g (mostN g n)) (l.drop p) k) with e | e
    ·exact e
    ·have := hex0.2 e; cases this
   rw [hz]
   exact ⟨gk, gw, K, W, rfl, rfl, hGk, hK, hGw, hW⟩
  | true =>
   simp -implicitDefEqProofs only [go_sem,zA,zB,zC,zD,zE,reduceCtorEq,↓reduceIte,zF,zG,zH,zI]
   refine ⟨fun _ => Up.here ?_, fun hne => absurd (by omega) hne⟩
   subst hRR
   have hk0 := hex0.1 rfl
   rw [hpl, List.drop_length] at hk0 ⊢
   have e : rowT (cntT g (mostN g n)) [] k = 1 := by
    simp only [rowT] at hk0 ⊢
    split at hk0
    ·rename_i e; rw [if_pos e]
    ·omega
   rw [e]
   exact ⟨gk, gw, K, W, rfl, rfl, hGk, hK, hGw, hW⟩
 | succ d ih =>
  intro p k hp hk hF Γr gk gw K W hR hGk hK hGw hW
  generalize hRR : CntQ t g n _ = R'
  refine ret_of_vc tr189 (Nat.le_of_ble_eq_true rfl) ?_
  simp -implicitDefEqProofs only [S189, S189_0, go_sem,zA,zB,zC,zD,zE,reduceCtorEq,↓reduceIte,zF,zG,zH,zI]
  have hT := hR.k
  obtain ⟨b0, o0, h0, A1, c1, hr1, hcr⟩ := hT.rs.ru hi
  have hsh := hT.rs.short
  have V := P.V
  have hn := P.n24
  have hr4 := V.right _ (List.getElem_mem hi)
  have hsym := V.sym _ (List.getElem_mem hi)
  have hri := List.getElem?_eq_getElem hi
  obtain ⟨rows, hEi⟩ : ∃ rows, E[i]? = some rows := ⟨_, List.getElem?_eq_getElem (by rw [P.ei.1]; exact hi)⟩
  obtain ⟨hSr, hSo⟩ := P.ei.2 i _ _ hEi hri
  obtain ⟨hC, _⟩ := P.ed i _ _ hi hEi hri
  obtain ⟨be, hbe⟩ : ∃ be, t.be[i]? = some be := ⟨_, List.getElem?_eq_getElem (by rw [hT.be]; exact hi)⟩
  have hhd := hdG_at hbe hri
  have hdl := hdG_len hT.be
  obtain ⟨b2, o2, h2, hc2⟩ := hT.ends.hd (i := i) (by omega)
  rw [(List.getElem?_eq_some_iff.1 hhd).2] at hc2
  have hEx : ∀ p' k', p' ≤ g.rs[i].r.length → k' ≤ n → (mat rows p' k' = true ↔ 0 < rowT (cntT g (mostN g n)) (g.rs[i].r.drop p') k') := fun p' k' h1 h2 => by
   rw [← P.row (fun s hs => (hsym s (List.mem_of_mem_drop hs)).1) h2]
   exact ⟨hSo p' k' h1, hC p' k' (Nat.zero_le _) h1 h2⟩
  have hle' := hR.le.trans (lk_r [gk, gw] Γr)
  have hWl := hW.1
  obtain ⟨wrows, hWi⟩ : ∃ wrows, W[i]? = some wrows := ⟨_, List.getElem?_eq_getElem (by omega)⟩
  obtain ⟨hSw, hWv⟩ := hW.2 i _ _ hWi hri
  obtain ⟨bw, hbw⟩ : ∃ bw, t.bw[i]? = some bw := ⟨_, List.getElem?_eq_getElem (by rw [hT.bw]; exact hi)⟩
  have hhw := hdG_at hbw hri
  have hdw := hdG_len hT.bw
  obtain ⟨b4, o4, h4, hc4⟩ := hT.ways.hd (i := i) (by omega)
  rw [(List.getElem?_eq_some_iff.1 hhw).2] at hc4
  have hpd : p < g.rs[i].r.length := by omega
  have hdrop : g.rs[i].r.drop p = g.rs[i].r[p] :: g.rs[i].r.drop (p + 1) := List.drop_eq_getElem_cons hpd
  generalize hrr : g.rs[i] = r at *
  generalize hll : r.r = l at *
  have hrl : rows.length = l.length + 1 := hSr.1
  have hwrl : wrows.length = l.length + 1 := hSw.1
  have hs := hsym _ (List.getElem_mem hpd)
  obtain ⟨b3, o3, h3, hc3⟩ := hr1.sy hpd
  generalize l[p] = s at *
  obtain ⟨kp, hrd⟩ := hR.ends.rd hbe hEi hSr (p := p) (k := k) (by omega) (by omega)
  refine s_ld (j := 3) (cells_lk (lk_r [gk, gw] _ _ _ hT.out)) (by simp [Tb.cells]) (by simp) ?_
  simp -implicitDefEqProofs only [Tb.cells, go_sem,zA,zB,zC,zD,zE,reduceCtorEq,↓reduceIte,zF,zG,zH,zI]
  refine s_idx h0 (by omega) (by omega) ?_
  simp -implicitDefEqProofs only [go_sem,zA,zB,zC,zD,zE,reduceCtorEq,↓reduceIte,zF,zG,zH,zI]
  refine s_ld (j := 1) (by simpa using hcr _ (lk_r [gk, gw] _)) (by simp) (by simp) ?_
  simp -implicitDefEqProofs only [go_sem,zA,zB,zC,zD,zE,reduceCtorEq,↓reduceIte,zF,zG,zH,zI]
  refine s_ld (j := 8) (cells_lk (lk_r [gk, gw] _ _ _ hT.out)) (by simp [Tb.cells]) (by simp) ?_
  simp -implicitDefEqProofs only [Tb.cells, go_sem,zA,zB,zC,zD,zE,reduceCtorEq,↓reduceIte,zF,zG,zH,zI]
  refine s_idx h2 (by omega) (by omega) ?_
  simp -implicitDefEqProofs only [go_sem,zA,zB,zC,zD,zE,reduceCtorEq,↓reduceIte,zF,zG,zH,zI]
  refine s_ld0 (hc2 _ (lk_r [gk, gw] _)) (by simp) (by simp) ?_
  simp -implicitDefEqProofs only [go_sem,zA,zB,zC,zD,zE,reduceCtorEq,↓reduceIte,zF,zG,zH,zI]
  refine s_idx rfl (by omega) (by omega) ?_
  simp -implicitDefEqProofs only [go_sem,zA,zB,zC,zD,zE,reduceCtorEq,↓reduceIte,zF,zG,zH,zI]
  refine s_ld0 (by simpa using (hrd _ hle').1) (by simp) (by simp) ?_
  simp -implicitDefEqProofs only [go_sem,zA,zB,zC,zD,zE,reduceCtorEq,↓reduceIte,zF,zG,zH,zI]
  refine s_idx rfl (by omega) (by omega) ?_
  simp -implicitDefEqProofs only [go_sem,zA,zB,zC,zD,zE,reduceCtorEq,↓reduceIte,zF,zG,zH,zI]
  refine s_ld0 (by simpa using (hrd _ hle').2) (by simp) (by simp) ?_
  simp -implicitDefEqProofs only [go_sem,zA,zB,zC,zD,zE,reduceCtorEq,↓reduceIte,zF,zG,zH,zI]
  have hex0 := hEx p k (by omega) hk
  generalize mat rows p k = v0 at hex0
  cases v0 with
  | false =>
   simp -implicitDefEqProofs only [go_sem,zA,zB,zC,zD,zE,reduceCtorEq,↓reduceIte,zF,zG,zH,zI]
   refine Up.here ?_
   subst hRR
   have hz : rowT (cntT g (mostN g n)) (l.drop p) k = 0 := by
    rcases Nat.eq_zero_or_pos (rowT (cntT g (mostN g n)) (l.drop p) k) with e | e
    ·exact e
    ·have := hex0.2 e; cases this
   rw [hz]
   exact ⟨gk, gw, K, W, rfl, rfl, hGk, hK, hGw, hW⟩
  | true =>
   simp -implicitDefEqProofs only [go_sem,zA,zB,zC,zD,zE,reduceCtorEq,↓reduceIte,zF,zG,zH,zI]
   refine ⟨fun h => absurd h (by omega), fun _ => ?_⟩
   obtain ⟨kw, hcw, hAw, _⟩ := hGw.at' hbw hWi (p := p) (by omega) (by rw [hSw.at' (by omega)]; omega)
   have hwl := hSw.at' (i := p) (by omega)
   rw [hwl] at hcw
   have hgw := matI_get (List.getElem?_eq_getElem (show p < wrows.length by omega)) (show k < wrows[p].length by omega)
   refine s_ld (j := 9) (cells_lk (lk_r [gk, gw] _ _ _ hT.out)) (by simp [Tb.cells]) (by simp) ?_
   simp -implicitDefEqProofs only [Tb.cells, go_sem,zA,zB,zC,zD,zE,reduceCtorEq,↓reduceIte,zF,zG,zH,zI]
   refine s_idx h4 (by omega) (by omega) ?_
   simp -implicitDefEqProofs only [go_sem,zA,zB,zC,zD,zE,reduceCtorEq,↓reduceIte,zF,zG,zH,zI]
   refine s_ld0 (hc4 _ (lk_r [gk, gw] _)) (by simp) (by simp) ?_
   simp -implicitDefEqProofs only [go_sem,zA,zB,zC,zD,zE,reduceCtorEq,↓reduceIte,zF,zG,zH,zI]
   refine s_idx rfl (by omega) (by omega) ?_
   simp -implicitDefEqProofs only [go_sem,zA,zB,zC,zD,zE,reduceCtorEq,↓reduceIte,zF,zG,zH,zI]
   refine s_ld0 (by simpa using hcw _ (lk_sub (by simp))) (by simp) (by simp) ?_
   simp -implicitDefEqProofs only [go_sem,zA,zB,zC,zD,zE,reduceCtorEq,↓reduceIte,zF,zG,zH,zI]
   refine s_idx rfl (by omega) (by omega) ?_
   simp -implicitDefEqProofs only [go_sem,zA,zB,zC,zD,zE,reduceCtorEq,↓reduceIte,zF,zG,zH,zI]
   refine s_ld0 (hAw.num (i := k) (by omega) (by simp)) (by simp) (by simp) ?_
   simp -implicitDefEqProofs only [go_sem,zA,zB,zC,zD,zE,reduceCtorEq,↓reduceIte,zF,zG,zH,zI]
   refine ⟨fun hge => ?_, fun hlt => ?_⟩
   ·refine s_ld (j := 9) (cells_lk (lk_r [gk, gw] _ _ _ hT.out)) (by simp [Tb.cells]) (by simp) ?_
    simp -implicitDefEqProofs only [Tb.cells, go_sem,zA,zB,zC,zD,zE,reduceCtorEq,↓reduceIte,zF,zG,zH,zI]
    refine s_idx h4 (by omega) (by omega) ?_
    simp -implicitDefEqProofs only [go_sem,zA,zB,zC,zD,zE,reduceCtorEq,↓reduceIte,zF,zG,zH,zI]
    refine s_ld0 (hc4 _ (lk_r [gk, gw] _)) (by simp) (by simp) ?_
    simp -implicitDefEqProofs only [go_sem,zA,zB,zC,zD,zE,reduceCtorEq,↓reduceIte,zF,zG,zH,zI]
    refine s_idx rfl (by omega) (by omega) ?_
    simp -implicitDefEqProofs only [go_sem,zA,zB,zC,zD,zE,reduceCtorEq,↓reduceIte,zF,zG,zH,zI]
    refine s_ld0 (by simpa using hcw _ (lk_sub (by simp))) (by simp) (by simp) ?_
    simp -implicitDefEqProofs only [go_sem,zA,zB,zC,zD,zE,reduceCtorEq,↓reduceIte,zF,zG,zH,zI]
    refine s_idx rfl (by omega) (by omega) ?_
    simp -implicitDefEqProofs only [go_sem,zA,zB,zC,zD,zE,reduceCtorEq,↓reduceIte,zF,zG,zH,zI]
    refine s_ld0 (hAw.num (i := k) (by omega) (by simp)) (by simp) (by simp) ?_
    simp -implicitDefEqProofs only [go_sem,zA,zB,zC,zD,zE,reduceCtorEq,↓reduceIte,zF,zG,zH,zI]
    refine Up.here ?_
    subst hRR
    refine ⟨gk, gw, K, W, rfl, ?_, hGk, hK, hGw, hW⟩
    rw [← hgw] at hge ⊢
    rw [hWv p k (by omega) hk hge]
   ·clear hrd kp hcw hAw hgw hlt
    have hex1 := fun j (hj : j ≤ k) => hEx (p + 1) (k - j) (by omega) (by omega)
    have hFd := hF
    rw [hdrop] at hFd
    simp (disch := omega) only [wrap_id]
    refine s_loop (fun f vs Γ => ∃ (gk gw : PH) (K : List (List Int)) (W : List (List (List Int))) (j : Nat), vs = [.v true (.int .i64 (capN (sumN (fun j' => symT (cntT g (mostN g n)) s j' * rowT (cntT g (mostN g n)) (l.drop (p + 1)) (k - j')) j) : Nat)), .v true (.int .i64 (j : Int))] ∧ Γ = [gk, gw] ∧ j + f = k + 1 ∧ Grid gk t.bk 29 3 K ∧ KnI g n K ∧ Cube gw 29 3 t.bw W ∧ WyI g n W) (k + 1)
     (Up.here ⟨gk, gw, K, W, 0, rfl, rfl, by omega, hGk, hK, hGw, hW⟩) ?_
    clear hGk hK hGw hW hWi hWv hle'
    rintro f vs Γ ⟨gk, gw, K, W, j, rfl, rfl, hjf, hGk, hK, hGw, hW⟩
    have hle' := hR.le.trans (lk_r [gk, gw] Γr)
    simp -implicitDefEqProofs only [S189_5, go_sem,zA,zB,zC,zD,zE,reduceCtorEq,↓reduceIte,zF,zG,zH,zI]
    refine ⟨fun hlt => ?_, fun hge => ?_⟩
    ·have hj : j ≤ k := by omega
     have hskip : symT (cntT g (mostN g n)) s j * rowT (cntT g (mostN g n)) (l.drop (p + 1)) (k - j) = 0 → sumN (fun j' => symT (cntT g (mostN g n)) s j' * rowT (cntT g (mostN g n)) (l.drop (p + 1)) (k - j')) (j + 1) = sumN (fun j' => symT (cntT g (mostN g n)) s j' * rowT (cntT g (mostN g n)) (l.drop (p + 1)) (k - j')) j := fun e => by
      rw [sumN, e, Nat.add_zero]
     have hsyz := P.sym hs.1 (k := j) (by omega)
     refine s_split ?_
     simp -implicitDefEqProofs only [S189_3, go_sem,zA,zB,zC,zD,zE,reduceCtorEq,↓reduceIte,zF,zG,zH,zI]
     refine s_idx h3 (by omega) (by omega) ?_
     simp -implicitDefEqProofs only [go_sem,zA,zB,zC,zD,zE,reduceCtorEq,↓reduceIte,zF,zG,zH,zI]
     refine s_ld0 (by simpa using hc3 _ (lk_r [gk, gw] _)) (by simp) (by simp) ?_
     simp -implicitDefEqProofs only [go_sem,zA,zB,zC,zD,zE,reduceCtorEq,↓reduceIte,zF,zG,zH,zI]
     refine CallVC.read (tab_sym (Γr := [gk, gw] ++ Γr) (hT.mono (lk_r [gk, gw] _)) (hR.has.mono (lk_r [gk, gw] _)) P.sh (fun h => ⟨hs.1, hs.2.2 h⟩) (k := j) (by omega) hn) ?_
     rintro v Γ' ⟨rfl, rfl⟩
     generalize hsv : symB H s j = sv at hsyz
     cases sv with
     | false =>
      simp -implicitDefEqProofs only [go_sem,zA,zB,zC,zD,zE,reduceCtorEq,↓reduceIte,zF,zG,zH,zI]
      refine s_ldg0 (cs := [.slice none 0 0]) (by simp) (by simp) (by simp) (by simp) ?_
      simp -implicitDefEqProofs only [go_sem,zA,zB,zC,zD,zE,reduceCtorEq,↓reduceIte,zF,zG,zH,zI]
      refine s_idxg (b := 0) (o := 0) (by simp) ?_
      simp -implicitDefEqProofs only [go_sem,zA,zB,zC,zD,zE,reduceCtorEq,↓reduceIte,zF,zG,zH,zI]
      refine s_ldg0 (cs := [.slice none 0 0]) (by simp) (by simp) (by simp) (by simp) ?_
      simp -implicitDefEqProofs only [go_sem,zA,zB,zC,zD,zE,reduceCtorEq,↓reduceIte,zF,zG,zH,zI]
      refine s_idxg (b := 0) (o := 0) (by simp) ?_
      simp -implicitDefEqProofs only [go_sem,zA,zB,zC,zD,zE,reduceCtorEq,↓reduceIte,zF,zG,zH,zI]
      refine s_ldg0 (cs := [.slice none 0 0]) (by simp) (by simp) (by simp) (by simp) ?_
      simp -implicitDefEqProofs only [go_sem,zA,zB,zC,zD,zE,reduceCtorEq,↓reduceIte,zF,zG,zH,zI]
      refine s_idxg (b := 0) (o := 0) (by simp) ?_
      simp -implicitDefEqProofs only [go_sem,zA,zB,zC,zD,zE,reduceCtorEq,↓reduceIte,zF,zG,zH,zI]
      refine s_ldg0 (cs := [.bool false]) (by simp) (by simp) (by simp) (by simp) ?_
      simp -implicitDefEqProofs only [go_sem,zA,zB,zC,zD,zE,reduceCtorEq,↓reduceIte,zF,zG,zH,zI]
      simp -implicitDefEqProofs only [S189_4, go_sem,zA,zB,zC,zD,zE,reduceCtorEq,↓reduceIte,zF,zG,zH,zI]
      simp (disch := omega) only [wrap_id]
      have hz : symT (cntT g (mostN g n)) s j = 0 := by
       rcases Nat.eq_zero_or_pos (symT (cntT g (mostN g n)) s j) with e | e
       ·exact e
       ·have := hsyz.2 e; cases this
      exact Up.here ⟨f - 1, by omega, Up.here ⟨gk, gw, K, W, j + 1, by rw [hskip (by rw [hz, Nat.zero_mul])]; rfl, rfl, by omega, hGk, hK, hGw, hW⟩⟩
     | true =>
      obtain ⟨kq, hrq⟩ := hR.ends.rd hbe hEi hSr (p := p + 1) (k := k - j) (by omega) (by omega)
      have hex1 := hex1 j hj
      simp -implicitDefEqProofs only [go_sem,zA,zB,zC,zD,zE,reduceCtorEq,↓reduceIte,zF,zG,zH,zI]
      refine s_ld (j := 8) (cells_lk (lk_r [gk, gw] _ _ _ hT.out)) (by simp [Tb.cells]) (by simp) ?_
      simp -implicitDefEqProofs only [Tb.cells, go_sem,zA,zB,zC,zD,zE,reduceCtorEq,↓reduceIte,zF,zG,zH,zI]
      refine s_idx h2 (by omega) (by omega) ?_
      simp -implicitDefEqProofs only [go_sem,zA,zB,zC,zD,zE,reduceCtorEq,↓reduceIte,zF,zG,zH,zI]
      refine s_ld0 (hc2 _ (lk_r [gk, gw] _)) (by simp) (by simp) ?_
      simp -implicitDefEqProofs only [go_sem,zA,zB,zC,zD,zE,reduceCtorEq,↓reduceIte,zF,zG,zH,zI]
      simp (disch := omega) only [wrap_id]
      refine s_idx rfl (by omega) (by omega) ?_
      simp -implicitDefEqProofs only [go_sem,zA,zB,zC,zD,zE,reduceCtorEq,↓reduceIte,zF,zG,zH,zI]
      rw [show ((p : Int) + 1).toNat = p + 1 by omega]
      refine s_ld0 (by simpa using (hrq _ hle').1) (by simp) (by simp) ?_
      simp -implicitDefEqProofs only [go_sem,zA,zB,zC,zD,zE,reduceCtorEq,↓reduceIte,zF,zG,zH,zI]
      simp (disch := omega) only [wrap_id]
      refine s_idx rfl (by omega) (by omega) ?_
      simp -implicitDefEqProofs only [go_sem,zA,zB,zC,zD,zE,reduceCtorEq,↓reduceIte,zF,zG,zH,zI]
      rw [show ((k : Int) - (j : Int)).toNat = k - j by omega]
      refine s_ld0 (by simpa using (hrq _ hle').2) (by simp) (by simp) ?_
      generalize mat rows (p + 1) (k - j) = v1 at hex1
      cases v1 with
      | false =>
       simp -implicitDefEqProofs only [S189_4, go_sem,zA,zB,zC,zD,zE,reduceCtorEq,↓reduceIte,zF,zG,zH,zI]
       simp (disch := omega) only [wrap_id]
       have hz : rowT (cntT g (mostN g n)) (l.drop (p + 1)) (k - j) = 0 := by
        rcases Nat.eq_zero_or_pos (rowT (cntT g (mostN g n)) (l.drop (p + 1)) (k - j)) with e | e
        ·exact e
        ·have := hex1.2 e; cases this
       exact Up.here ⟨f - 1, by omega, Up.here ⟨gk, gw, K, W, j + 1, by rw [hskip (by rw [hz, Nat.mul_zero])]; rfl, rfl, by omega, hGk, hK, hGw, hW⟩⟩
      | true =>
       have hsp := hsyz.1 rfl
       have hrp := hex1.1 rfl
       simp -implicitDefEqProofs only [go_sem,zA,zB,zC,zD,zE,reduceCtorEq,↓reduceIte,zF,zG,zH,zI]
       refine s_split ?_
       simp -implicitDefEqProofs only [S189_1, go_sem,zA,zB,zC,zD,zE,reduceCtorEq,↓reduceIte,zF,zG,zH,zI]
       refine s_idx h3 (by omega) (by omega) ?_
       simp -implicitDefEqProofs only [go_sem,zA,zB,zC,zD,zE,reduceCtorEq,↓reduceIte,zF,zG,zH,zI]
       refine s_ld0 (by simpa using hc3 _ (lk_r [gk, gw] _)) (by simp) (by simp) ?_
       obtain ⟨st, sn⟩ := s
       cases st with
       | true =>
        simp -implicitDefEqProofs only [S189_2, go_sem,zA,zB,zC,zD,zE,reduceCtorEq,↓reduceIte,zF,zG,zH,zI]
        simp (disch := omega) only [wrap_id]
        rw [show ((p : Int) + 1) = ((p + 1 : Nat) : Int) by omega, show ((k : Int) - (j : Int)) = ((k - j : Nat) : Int) by omega]
        refine Up.here ?_
        refine CallVC.perm (Γm := [gk, gw]) (Γf := []) (ih (p + 1) (k - j) (by omega) (by omega) (fun b j' q => hFd b j' ⟨j, hj, hsp, hrp, .inr q⟩) (Γr := Γr) hR hGk hK hGw hW) (List.Perm.refl _) (List.Sublist.refl _) ?_
        rintro v Γ' ⟨gk, gw, K, W, rfl, rfl, hGk, hK, hGw, hW⟩
        simp -implicitDefEqProofs only [S189_4, go_sem,zA,zB,zC,zD,zE,reduceCtorEq,↓reduceIte,zF,zG,zH,zI]
        have hone : symT (cntT g (mostN g n)) ⟨true, sn⟩ j = 1 := by
         unfold symT at hsp ⊢
         simp only [if_true] at hsp ⊢
         split at hsp
         ·rename_i e; rw [if_pos e]
         ·omega
        refine Up.here ⟨f - 1, by omega, Up.here ⟨gk, gw, K, W, j + 1, ?_, rfl, by omega, hGk, hK, hGw, hW⟩⟩
        rw [way_arith _ 1 _ 1 rfl, sumN, hone, wrap_id (by omega) (by omega)]
        rfl
       | false =>
        have hs : 0 ≤ sn ∧ sn < g.ns := ⟨hs.1, hs.2.2 rfl⟩
        obtain ⟨c, rfl⟩ : ∃ c : Nat, sn = c := ⟨sn.toNat, by omega⟩
        obtain ⟨hF1, hF2⟩ := hFd (c : Int) j ⟨j, hj, hsp, hrp, .inl ⟨rfl, rfl, rfl⟩⟩
        simp -implicitDefEqProofs only [go_sem,zA,zB,zC,zD,zE,reduceCtorEq,↓reduceIte,zF,zG,zH,zI]
        refine s_idx h3 (by omega) (by omega) ?_
        simp -implicitDefEqProofs only [go_sem,zA,zB,zC,zD,zE,reduceCtorEq,↓reduceIte,zF,zG,zH,zI]
        refine s_ld (j := 1) (by simpa using hc3 _ (lk_r [gk, gw] _)) (by simp) (by simp) ?_
        simp -implicitDefEqProofs only [go_sem,zA,zB,zC,zD,zE,reduceCtorEq,↓reduceIte,zF,zG,zH,zI]
        refine CallVC.perm (Γm := [gk, gw]) (Γf := []) (hc (Γr := Γr) hR hGk hK hGw hW c j hs.2 (by omega) hF2 hF1) (List.Perm.refl _) (List.Sublist.refl _) ?_
        rintro v Γ' ⟨gk, gw, K, W, rfl, rfl, hGk, hK, hGw, hW⟩
        simp -implicitDefEqProofs only [S189_2, go_sem,zA,zB,zC,zD,zE,reduceCtorEq,↓reduceIte,zF,zG,zH,zI]
        simp (disch := omega) only [wrap_id]
        rw [show ((p : Int) + 1) = ((p + 1 : Nat) : Int) by omega, show ((k : Int) - (j : Int)) = ((k - j : Nat) : Int) by omega]
        refine Up.here ?_
        refine CallVC.perm (Γm := [gk, gw]) (Γf := []) (ih (p + 1) (k - j) (by omega) (by omega) (fun b j' q => hFd b j' ⟨j, hj, hsp, hrp, .inr q⟩) (Γr := Γr) hR hGk hK hGw hW) (List.Perm.refl _) (List.Sublist.refl _) ?_
        rintro v Γ' ⟨gk, gw, K, W, rfl, rfl, hGk, hK, hGw, hW⟩
        simp -implicitDefEqProofs only [S189_4, go_sem,zA,zB,zC,zD,zE,reduceCtorEq,↓reduceIte,zF,zG,zH,zI]
        refine Up.here ⟨f - 1, by omega, Up.here ⟨gk, gw, K, W, j + 1, ?_, rfl, by omega, hGk, hK, hGw, hW⟩⟩
        rw [way_arith _ (cntT g (mostN g n) c j) _ _ rfl, sumN, wrap_id (by omega) (by omega)]
        rfl
    ·have hje : j = k + 1 := by omega
     subst hje
     have hsum : sumN (fun j' => symT (cntT g (mostN g n)) s j' * rowT (cntT g (mostN g n)) (l.drop (p + 1)) (k - j')) (k + 1) = rowT (cntT g (mostN g n)) (l.drop p) k := by rw [hdrop]; rfl
     rw [hsum]
     have hWl := hW.1
     obtain ⟨wrows, hWi⟩ : ∃ wrows, W[i]? = some wrows := ⟨_, List.getElem?_eq_getElem (by omega)⟩
     obtain ⟨hSw, hWv⟩ := hW.2 i _ _ hWi hri
     rw [hll] at hSw hWv
     have hwrl : wrows.length = l.length + 1 := hSw.1
     have hwl := hSw.at' (i := p) (by omega)
     obtain ⟨kw, hcw, hAw, hpw⟩ := hGw.at' hbw hWi (p := p) (by omega) (by omega)
     rw [hwl] at hcw
     refine s_ld (j := 9) (cells_lk (lk_r [gk, gw] _ _ _ hT.out)) (by simp [Tb.cells]) (by simp) ?_
     simp -implicitDefEqProofs only [Tb.cells, go_sem,zA,zB,zC,zD,zE,reduceCtorEq,↓reduceIte,zF,zG,zH,zI]
     refine s_idx h4 (by omega) (by omega) ?_
     simp -implicitDefEqProofs only [go_sem,zA,zB,zC,zD,zE,reduceCtorEq,↓reduceIte,zF,zG,zH,zI]
     refine s_ld0 (hc4 _ (lk_r [gk, gw] _)) (by simp) (by simp) ?_
     simp -implicitDefEqProofs only [go_sem,zA,zB,zC,zD,zE,reduceCtorEq,↓reduceIte,zF,zG,zH,zI]
     refine s_idx rfl (by omega) (by omega) ?_
     simp -implicitDefEqProofs only [go_sem,zA,zB,zC,zD,zE,reduceCtorEq,↓reduceIte,zF,zG,zH,zI]
     refine s_ld0 (by simpa using hcw _ (lk_sub (by simp))) (by simp) (by simp) ?_
     simp -implicitDefEqProofs only [go_sem,zA,zB,zC,zD,zE,reduceCtorEq,↓reduceIte,zF,zG,zH,zI]
     refine s_idx rfl (by omega) (by omega) ?_
     simp -implicitDefEqProofs only [go_sem,zA,zB,zC,zD,zE,reduceCtorEq,↓reduceIte,zF,zG,zH,zI]
     refine s_storeA (ix := 1) (α := Int) ((capN (rowT (cntT g (mostN g n)) (l.drop p) k) : Nat) : Int) rfl hAw (i := k) (by omega) ?_
     intro g2 hA2 ho2
     have hG2 := hpw g2 _ hA2 (by simp) ho2
     simp -implicitDefEqProofs only [go_sem,zA,zB,zC,zD,zE,reduceCtorEq,↓reduceIte,zF,zG,zH,zI]
     refine Up.here ?_
     subst hRR
     have := hW.set hWi hri (p := p) (k := k) (by rw [hll]; omega) hk (List.getElem?_eq_getElem (show p < wrows.length by omega))
     rw [hll] at this
     exact ⟨gk, g2, K, _, rfl, rfl, hGk, hK, hG2, this⟩
theorem sumR_snoc (T : Int → Nat → Nat) (a : Int) (k : Nat) (r : Ru) : ∀ rs, sumR T a k (rs ++ [r]) = sumR T a k rs + (if r.l = a then rowT T r.r k else 0)
 | [] => by simp [sumR]
 | x :: rs => by
  rw [List.cons_append, sumR, sumR, sumR_snoc T a k r rs]
  omega
theorem KnI.set {g : Gr} {n : Nat} {K : List (List Int)} (h : KnI g n K) {a k : Nat} (ha : a < g.ns.toNat) (hk : k ≤ n) {row : List Int} (hrow : K[a]? = some row) : KnI g n (K.set a (row.set k ((capN (cntT g (mostN g n) a k) : Nat) : Int))) := by
 obtain ⟨h1, h2⟩ := h
 have hrl : row.length = n + 1 := h1.2 _ (List.mem_of_getElem? hrow)
 refine ⟨h1.set a (by simp [hrl]), fun a' k' w0 w1 w2 => ?_⟩
 rw [matI_set h1 ha (by omega) hrow] at w2 ⊢
 split
 ·rename_i e
  rw [e.2, ← e.1, Int.toNat_of_nonneg w0]
 ·rename_i e
  rw [if_neg e] at w2
  exact h2 a' k' w0 w1 w2
theorem count_step {t : Tb} {g : Gr} {n : Nat} {R : Option Addr} {cR : Nat} {H L : List (List Bool)} {E : List (List (List Bool))} {ge : PH} (P : TabP g n H L E) {h : Nat} (hprev : ∀ h', h = h' + 1 → CountC t g n R cR H L E ge h') : CountC t g n R cR H L E ge h := by
 intro Γr gk gw K W hR hGk hK hGw hW a k ha hk hL hF
 generalize hRR : CntQ t g n _ = R'
 refine ret_of_vc tr150 (Nat.le_of_ble_eq_true rfl) ?_
 simp -implicitDefEqProofs only [S150, S150_0, go_sem,zA,zB,zC,zD,zE,reduceCtorEq,↓reduceIte,zF,zG,zH,zI]
 have hT := hR.k
 have hsh := hT.rs.short
 have V := P.V
 have hn := P.n24
 have hns := V.ns
 obtain ⟨N, hN⟩ : ∃ N : Nat, g.ns = N := ⟨g.ns.toNat, by omega⟩
 have hN' : g.ns.toNat = N := by omega
 have hHl := P.sh.1
 have hHr := P.sh.at' (i := a) (by omega)
 have hLl := P.sl.1
 have hLr := P.sl.at' (i := a) (by omega)
 have hKl := hK.1.1
 have hKr := hK.1.at' (i := a) (by omega)
 have hhas := P.hx (a : Int) k (by omega) hk
 rw [Int.toNat_natCast] at hhas
 obtain ⟨b1, o1, h1, A5, c5, hr5, hc5⟩ := hR.has.list (i := a) (by omega)
 obtain ⟨b6, o6, h6, hc6⟩ := hr5.bool (i := k) (by omega)
 have hgh := mat_get (List.getElem?_eq_getElem (show a < H.length by omega)) (show k < H[a].length by omega)
 refine s_ld (j := 5) (cells_lk (lk_r [gk, gw] _ _ _ hT.out)) (by simp [Tb.cells]) (by simp) ?_
 simp -implicitDefEqProofs only [Tb.cells, go_sem,zA,zB,zC,zD,zE,reduceCtorEq,↓reduceIte,zF,zG,zH,zI]
 refine s_idx h1 (by omega) (by omega) ?_
 simp -implicitDefEqProofs only [go_sem,zA,zB,zC,zD,zE,reduceCtorEq,↓reduceIte,zF,zG,zH,zI]
 refine s_ld0 (hc5 _ (lk_r [gk, gw] _)) (by simp) (by simp) ?_
 simp -implicitDefEqProofs only [go_sem,zA,zB,zC,zD,zE,reduceCtorEq,↓reduceIte,zF,zG,zH,zI]
 refine s_idx h6 (by omega) (by omega) ?_
 simp -implicitDefEqProofs only [go_sem,zA,zB,zC,zD,zE,reduceCtorEq,↓reduceIte,zF,zG,zH,zI]
 refine s_ld0 (hc6 _ (lk_r [gk, gw] _)) (by simp) (by simp) ?_
 generalize H[a][k] = v0 at hgh
 cases v0 with
 | false =>
  simp -implicitDefEqProofs only [go_sem,zA,zB,zC,zD,zE,reduceCtorEq,↓reduceIte,zF,zG,zH,zI]
  refine Up.here ?_
  subst hRR
  have hz : cntT g (mostN g n) a k = 0 := by
   rcases Nat.eq_zero_or_pos (cntT g (mostN g n) a k) with e | e
   ·exact e
   ·have := hhas.2 e
    rw [hgh] at this
    cases this
  rw [hz]
  exact ⟨gk, gw, K, W, rfl, rfl, hGk, hK, hGw, hW⟩
 | true =>
  have hpos := hhas.1 hgh
  obtain ⟨h', rfl⟩ : ∃ h', h = h' + 1 := by
   cases h with
   | zero => have := hF.zero (mostN g n); omega
   | succ h' => exact ⟨h', rfl⟩
  have hprev : CountC t g n R cR H L E ge h' := @hprev h' rfl
  obtain ⟨b7, o7, h7, A8, c8, hr8, hc8⟩ := hR.loop.list (i := a) (by omega)
  obtain ⟨b9, o9, h9, hc9⟩ := hr8.bool (i := k) (by omega)
  have hgl := mat_get (List.getElem?_eq_getElem (show a < L.length by omega)) (show k < L[a].length by omega)
  simp -implicitDefEqProofs only [go_sem,zA,zB,zC,zD,zE,reduceCtorEq,↓reduceIte,zF,zG,zH,zI]
  refine s_ld (j := 6) (cells_lk (lk_r [gk, gw] _ _ _ hT.out)) (by simp [Tb.cells]) (by simp) ?_
  simp -implicitDefEqProofs only [Tb.cells, go_sem,zA,zB,zC,zD,zE,reduceCtorEq,↓reduceIte,zF,zG,zH,zI]
  refine s_idx h7 (by omega) (by omega) ?_
  simp -implicitDefEqProofs only [go_sem,zA,zB,zC,zD,zE,reduceCtorEq,↓reduceIte,zF,zG,zH,zI]
  refine s_ld0 (hc8 _ (lk_r [gk, gw] _)) (by simp) (by simp) ?_
  simp -implicitDefEqProofs only [go_sem,zA,zB,zC,zD,zE,reduceCtorEq,↓reduceIte,zF,zG,zH,zI]
  refine s_idx h9 (by omega) (by omega) ?_
  simp -implicitDefEqProofs only [go_sem,zA,zB,zC,zD,zE,reduceCtorEq,↓reduceIte,zF,zG,zH,zI]
  refine s_ld0 (hc9 _ (lk_r [gk, gw] _)) (by simp) (by simp) ?_
  generalize L[a][k] = v1 at hgl
  cases v1 with
  | true => exact absurd ⟨by omega, by rw [Int.toNat_natCast]; exact hgl⟩ hL
  | false =>
   obtain ⟨kk, hck, hAk, _⟩ := hGk.at' (i := a) (by omega) (by omega)
   rw [hKr] at hck
   have hgk := matI_get (List.getElem?_eq_getElem (show a < K.length by omega)) (show k < K[a].length by omega)
   simp -implicitDefEqProofs only [go_sem,zA,zB,zC,zD,zE,reduceCtorEq,↓reduceIte,zF,zG,zH,zI]
   refine s_ld (j := 7) (cells_lk (lk_r [gk, gw] _ _ _ hT.out)) (by simp [Tb.cells]) (by simp) ?_
   simp -implicitDefEqProofs only [Tb.cells, go_sem,zA,zB,zC,zD,zE,reduceCtorEq,↓reduceIte,zF,zG,zH,zI]
   refine s_idx rfl (by omega) (by omega) ?_
   simp -implicitDefEqProofs only [go_sem,zA,zB,zC,zD,zE,reduceCtorEq,↓reduceIte,zF,zG,zH,zI]
   refine s_ld0 (by simpa using hck _ (by simp)) (by simp) (by simp) ?_
   simp -implicitDefEqProofs only [go_sem,zA,zB,zC,zD,zE,reduceCtorEq,↓reduceIte,zF,zG,zH,zI]
   refine s_idx rfl (by omega) (by omega) ?_
   simp -implicitDefEqProofs only [go_sem,zA,zB,zC,zD,zE,reduceCtorEq,↓reduceIte,zF,zG,zH,zI]
   refine s_ld0 (hAk.num (i := k) (by omega) (by simp)) (by simp) (by simp) ?_
   simp -implicitDefEqProofs only [go_sem,zA,zB,zC,zD,zE,reduceCtorEq,↓reduceIte,zF,zG,zH,zI]
   refine ⟨fun hge => ?_, fun hlt => ?_⟩
   ·refine s_ld (j := 7) (cells_lk (lk_r [gk, gw] _ _ _ hT.out)) (by simp [Tb.cells]) (by simp) ?_
    simp -implicitDefEqProofs only [Tb.cells, go_sem,zA,zB,zC,zD,zE,reduceCtorEq,↓reduceIte,zF,zG,zH,zI]
    refine s_idx rfl (by omega) (by omega) ?_
    simp -implicitDefEqProofs only [go_sem,zA,zB,zC,zD,zE,reduceCtorEq,↓reduceIte,zF,zG,zH,zI]
    refine s_ld0 (by simpa using hck _ (by simp)) (by simp) (by simp) ?_
    simp -implicitDefEqProofs only [go_sem,zA,zB,zC,zD,zE,reduceCtorEq,↓reduceIte,zF,zG,zH,zI]
    refine s_idx rfl (by omega) (by omega) ?_
    simp -implicitDefEqProofs only [go_sem,zA,zB,zC,zD,zE,reduceCtorEq,↓reduceIte,zF,zG,zH,zI]
    refine s_ld0 (hAk.num (i := k) (by omega) (by simp)) (by simp) (by simp) ?_
    simp -implicitDefEqProofs only [go_sem,zA,zB,zC,zD,zE,reduceCtorEq,↓reduceIte,zF,zG,zH,zI]
    refine Up.here ?_
    subst hRR
    refine ⟨gk, gw, K, W, rfl, ?_, hGk, hK, hGw, hW⟩
    rw [← hgk] at hge ⊢
    have := hK.2 (a : Int) k (by omega) hk (by rw [Int.toNat_natCast]; exact hge)
    rw [Int.toNat_natCast] at this
    rw [this]
   ·clear hgk hAk hck hlt
    refine s_ld (j := 3) (cells_lk (lk_r [gk, gw] _ _ _ hT.out)) (by simp [Tb.cells]) (by simp) ?_
    simp -implicitDefEqProofs only [Tb.cells, go_sem,zA,zB,zC,zD,zE,reduceCtorEq,↓reduceIte,zF,zG,zH,zI]
    refine s_loop (fun f vs Γ => ∃ (gk gw : PH) (K : List (List Int)) (W : List (List (List Int))) (i : Nat), vs = [.v true (.int .i64 (capN (sumR (cntT g (mostN g n)) a k (g.rs.take i)) : Nat)), .v true (.int .i64 (i : Int))] ∧ Γ = [gk, gw] ∧ i + f = g.rs.length ∧ Grid gk t.bk 29 3 K ∧ KnI g n K ∧ Cube gw 29 3 t.bw W ∧ WyI g n W) g.rs.length
     (Up.here ⟨gk, gw, K, W, 0, rfl, rfl, by omega, hGk, hK, hGw, hW⟩) ?_
    clear hGk hK hGw hW
    rintro f vs Γ ⟨gk, gw, K, W, i, rfl, rfl, hif, hGk, hK, hGw, hW⟩
    simp -implicitDefEqProofs only [S150_3, go_sem,zA,zB,zC,zD,zE,reduceCtorEq,↓reduceIte,zF,zG,zH,zI]
    refine ⟨fun hlt => ?_, fun hge => ?_⟩
    ·have hi : i < g.rs.length := by omega
     have hmem := List.getElem_mem hi
     have hleft := V.left _ hmem
     have htk : g.rs.take (i + 1) = g.rs.take i ++ [g.rs[i]] := List.take_succ_eq_append_getElem hi
     have hsn := sumR_snoc (cntT g (mostN g n)) a k g.rs[i] (g.rs.take i)
     rw [← htk] at hsn
     obtain ⟨b0, o0, h0, A1, c1, hr1, hcr⟩ := hT.rs.ru hi
     have hway := fun (hl : g.rs[i].l = (a : Int)) => way_of P @hprev hi g.rs[i].r.length 0 k (by omega) hk (fun b j q => by
      rw [List.drop_zero] at q
      have he : Ed g (mostN g n) a k b j := ⟨_, hmem, hl, q⟩
      exact ⟨hF.down he, fun q' => hL (P.lp.pre _ _ _ _ hk he q')⟩) (Γr := Γr) hR hGk hK hGw hW
     generalize hrr : g.rs[i] = r at *
     refine s_split ?_
     simp -implicitDefEqProofs only [S150_1, go_sem,zA,zB,zC,zD,zE,reduceCtorEq,↓reduceIte,zF,zG,zH,zI]
     refine s_idx h0 (by omega) (by omega) ?_
     simp -implicitDefEqProofs only [go_sem,zA,zB,zC,zD,zE,reduceCtorEq,↓reduceIte,zF,zG,zH,zI]
     refine s_ld0 (by simpa using hcr _ (lk_r [gk, gw] _)) (by simp) (by simp) ?_
     simp -implicitDefEqProofs only [go_sem,zA,zB,zC,zD,zE,reduceCtorEq,↓reduceIte,zF,zG,zH,zI]
     refine ⟨fun heq => ?_, fun hne => ?_⟩
     ·refine CallVC.perm (Γm := [gk, gw]) (Γf := []) (hway heq) (List.Perm.refl _) (List.Sublist.refl _) ?_
      rintro v Γ' ⟨gk, gw, K, W, rfl, rfl, hGk, hK, hGw, hW⟩
      simp -implicitDefEqProofs only [S150_2, go_sem,zA,zB,zC,zD,zE,reduceCtorEq,↓reduceIte,zF,zG,zH,zI]
      rw [if_pos heq] at hsn
      refine Up.here ⟨f - 1, by omega, Up.here ⟨gk, gw, K, W, i + 1, ?_, rfl, by omega, hGk, hK, hGw, hW⟩⟩
      rw [sum_arith, hsn, wrap_id (by omega) (by omega)]
      rfl
     ·simp -implicitDefEqProofs only [S150_2, go_sem,zA,zB,zC,zD,zE,reduceCtorEq,↓reduceIte,zF,zG,zH,zI]
      rw [if_neg hne, Nat.add_zero] at hsn
      refine Up.here ⟨f - 1, by omega, Up.here ⟨gk, gw, K, W, i + 1, ?_, rfl, by omega, hGk, hK, hGw, hW⟩⟩
      rw [hsn, wrap_id (by omega) (by omega)]
      rfl
    ·have hie : i = g.rs.length := by omega
     subst hie
     rw [List.take_length]
     have hsum : sumR (cntT g (mostN g n)) a k g.rs = cntT g (mostN g n) a k := P.lp.stays V hk hL (h := mostN g n + 1) (by omega)
     rw [hsum]
     have hKl := hK.1.1
     have hKr := hK.1.at' (i := a) (by omega)
     obtain ⟨kk, hck, hAk, hpk⟩ := hGk.at' (i := a) (by omega) (by omega)
     rw [hKr] at hck
     refine s_ld (j := 7) (cells_lk (lk_r [gk, gw] _ _ _ hT.out)) (by simp [Tb.cells]) (by simp) ?_
     simp -implicitDefEqProofs only [Tb.cells, go_sem,zA,zB,zC,zD,zE,reduceCtorEq,↓reduceIte,zF,zG,zH,zI]
     refine s_idx rfl (by omega) (by omega) ?_
     simp -implicitDefEqProofs only [go_sem,zA,zB,zC,zD,zE,reduceCtorEq,↓reduceIte,zF,zG,zH,zI]
     refine s_ld0 (by simpa using hck _ (by simp)) (by simp) (by simp) ?_
     simp -implicitDefEqProofs only [go_sem,zA,zB,zC,zD,zE,reduceCtorEq,↓reduceIte,zF,zG,zH,zI]
     refine s_idx rfl (by omega) (by omega) ?_
     simp -implicitDefEqProofs only [go_sem,zA,zB,zC,zD,zE,reduceCtorEq,↓reduceIte,zF,zG,zH,zI]
     refine s_storeA (ix := 0) (α := Int) ((capN (cntT g (mostN g n) a k) : Nat) : Int) rfl hAk (i := k) (by omega) ?_
     intro g2 hA2 ho2
     have hG2 := hpk g2 _ hA2 (by simp) ho2
     simp -implicitDefEqProofs only [go_sem,zA,zB,zC,zD,zE,reduceCtorEq,↓reduceIte,zF,zG,zH,zI]
     refine Up.here ?_
     subst hRR
     exact ⟨g2, gw, _, W, rfl, rfl, hG2, hK.set (by omega) hk (List.getElem?_eq_getElem (by omega)), hGw, hW⟩
theorem count_all {t : Tb} {g : Gr} {n : Nat} {R : Option Addr} {cR : Nat} {H L : List (List Bool)} {E : List (List (List Bool))} {ge : PH} (P : TabP g n H L E) : ∀ h, CountC t g n R cR H L E ge h
 | 0 => count_step P (fun h' e => by omega)
 | h + 1 => count_step P (fun h' e => by
  have : h' = h := by omega
  subst this
  exact @count_all _ _ _ _ _ _ _ _ _ P h')
/- The text of parlance/census.newTable as a statement; no condition. -/
def S147_1 : Stmt :=
 .seq
 (.region [oq 31 (.ibin .lss (.tmp 30) (.tmp 29))] [1,5,28,29,30,31])
 (.seq (.cond (.tmp 31) .skip (.exit 0))
 (.seq
 (.block 1
 (.seq
 (.region
 [oq 32 (.idx 2 (.tmp 28) (.tmp 30)),
 oq 33 (.load true 2 (.tmp 32)),
 .mk (some 7) none
 (.alloc true 37 (.agg (Array.mk [.int .i64 0,.slice none 0 0]))),
 .mk none none (.store 2 (.tmp 7) (.tmp 33))]
 [1,5,7,28,29,30])
 (.seq
 (.tree
 (.q (false,oq 34 (.mv (.tmp 5)))
 (.q (false,oq 35 (.mv (.tmp 5)))
 (.q (false,oq 39 (.fld 1 (.tmp 7)))
 (.q (false,oq 43 (.mv (.tmp 1)))
 (.q (false,oq 36 (.nilCheck (.tmp 35)))
 (.q (false,oq 40 (.load false 1 (.tmp 39)))
 (.q
 (false,
 .mk (some 44) none
 (.ibin .add (.tmp 43) (.const (.int .i64 1))))
 (.q (false,oq 37 (.fld 8 (.tmp 36)))
 (.q (false,oq 41 (.len false (.tmp 40)))
 (.q
 (false,
 .mk (some 42) none
 (.ibin .add (.tmp 41) (.const (.int .i64 1))))
 (.alt (false,oq 38 (.load false 1 (.tmp 37)))
 (.alt
 (false,
 .mk (some 45) none
 (.call (.func 184)
 [.tmp 42,.tmp 44,.const (.bool false)]))
 (.alt
 (false,
 .mk (some 46) none
 (.buildS 154 1 [.slice none 0 0] [(0,1,.tmp 45)]))
 (.alt
 (false,
 .mk (some 47) none
 (.append 243 154 1 24 (.slice none 0 0) (.tmp 38)
 (.tmp 46)))
 (.q (false,oq 48 (.nilCheck (.tmp 34)))
 (.q (false,oq 49 (.fld 8 (.tmp 48)))
 (.alt
 (false,
 .mk none none (.store 1 (.tmp 49) (.tmp 47)))
 .fin .no)))
 .no)
 .no)
 .no)
 (.alt
 (false,
 .mk (some 45) none
 (.call (.func 184)
 [.tmp 42,.tmp 44,.const (.bool false)]))
 (.alt (false,oq 38 (.load false 1 (.tmp 37)))
 (.alt
 (false,
 .mk (some 46) none
 (.buildS 154 1 [.slice none 0 0] [(0,1,.tmp 45)]))
 (.alt
 (false,
 .mk (some 47) none
 (.append 243 154 1 24 (.slice none 0 0) (.tmp 38)
 (.tmp 46)))
 (.q (false,oq 48 (.nilCheck (.tmp 34)))
 (.q (false,oq 49 (.fld 8 (.tmp 48)))
 (.alt
 (false,
 .mk none none (.store 1 (.tmp 49) (.tmp 47)))
 .fin .no)))
 .no)
 .no)
 (.alt
 (false,
 .mk (some 46) none
 (.buildS 154 1 [.slice none 0 0] [(0,1,.tmp 45)]))
 (.alt (false,oq 38 (.load false 1 (.tmp 37)))
 (.alt
 (false,
 .mk (some 47) none
 (.append 243 154 1 24 (.slice none 0 0) (.tmp 38)
 (.tmp 46)))
 (.q (false,oq 48 (.nilCheck (.tmp 34)))
 (.q (false,oq 49 (.fld 8 (.tmp 48)))
 (.alt
 (false,
 .mk none none
 (.store 1 (.tmp 49) (.tmp 47)))
 .fin .no)))
 .no)
 .no)
 .no))
 .no))))))))))))
 [1,5,7,28,29,30])
 (.tree
 (.q (false,oq 50 (.mv (.tmp 5)))
 (.q (false,oq 51 (.mv (.tmp 5)))
 (.q (false,oq 55 (.fld 1 (.tmp 7)))
 (.q (false,oq 59 (.mv (.tmp 1)))
 (.q (false,oq 52 (.nilCheck (.tmp 51)))
 (.q (false,oq 56 (.load false 1 (.tmp 55)))
 (.q
 (false,
 .mk (some 60) none
 (.ibin .add (.tmp 59) (.const (.int .i64 1))))
 (.q (false,oq 53 (.fld 9 (.tmp 52)))
 (.q (false,oq 57 (.len false (.tmp 56)))
 (.q
 (false,
 .mk (some 58) none
 (.ibin .add (.tmp 57) (.const (.int .i64 1))))
 (.alt (false,oq 54 (.load false 1 (.tmp 53)))
 (.alt
 (false,
 .mk (some 61) none
 (.call (.func 185)
 [.tmp 58,.tmp 60,
 .const (.int .i64 (-1))]))
 (.alt
 (false,
 .mk (some 62) none
 (.buildS 65 1 [.slice none 0 0] [(0,1,.tmp 61)]))
 (.alt
 (false,
 .mk (some 63) none
 (.append 170 65 1 24 (.slice none 0 0) (.tmp 54)
 (.tmp 62)))
 (.q (false,oq 64 (.nilCheck (.tmp 50)))
 (.q (false,oq 65 (.fld 9 (.tmp 64)))
 (.alt
 (false,
 .mk none none (.store 1 (.tmp 65) (.tmp 63)))
 .fin .no)))
 .no)
 .no)
 .no)
 (.alt
 (false,
 .mk (some 61) none
 (.call (.func 185)
 [.tmp 58,.tmp 60,
 .const (.int .i64 (-1))]))
 (.alt (false,oq 54 (.load false 1 (.tmp 53)))
 (.alt
 (false,
 .mk (some 62) none
 (.buildS 65 1 [.slice none 0 0] [(0,1,.tmp 61)]))
 (.alt
 (false,
 .mk (some 63) none
 (.append 170 65 1 24 (.slice none 0 0) (.tmp 54)
 (.tmp 62)))
 (.q (false,oq 64 (.nilCheck (.tmp 50)))
 (.q (false,oq 65 (.fld 9 (.tmp 64)))
 (.alt
 (false,
 .mk none none (.store 1 (.tmp 65) (.tmp 63)))
 .fin .no)))
 .no)
 .no)
 (.alt
 (false,
 .mk (some 62) none
 (.buildS 65 1 [.slice none 0 0] [(0,1,.tmp 61)]))
 (.alt (false,oq 54 (.load false 1 (.tmp 53)))
 (.alt
 (false,
 .mk (some 63) none
 (.append 170 65 1 24 (.slice none 0 0) (.tmp 54)
 (.tmp 62)))
 (.q (false,oq 64 (.nilCheck (.tmp 50)))
 (.q (false,oq 65 (.fld 9 (.tmp 64)))
 (.alt
 (false,
 .mk none none
 (.store 1 (.tmp 65) (.tmp 63)))
 .fin .no)))
 .no)
 .no)
 .no))
 .no))))))))))))
 [1,5,28,29,30]))))
 (.region
 [oq 66 (.ibin .add (.tmp 30) (.const (.int .i64 1))),
 oq 30 (.mv (.tmp 66))]
 [1,5,28,29,30])))
def S147_0 : Stmt :=
 .seq
 (.region
 [oq 2 (.box true 57 (.tmp 0)),
 oq 4 (.mv (.const (.pointer none)))]
 [1,2])
 (.seq
 (.drawn
 [(true,oq 8 (.load true 4 (.tmp 2))),
 (false,oq 9 (.mv (.tmp 1))),
 (false,oq 10 (.fld 1 (.tmp 2))),
 (false,oq 11 (.load false 1 (.tmp 10))),
 (false,oq 12 (.mv (.tmp 1))),
 (false,
 oq 13 (.ibin .add (.tmp 12) (.const (.int .i64 1)))),
 (false,oq 15 (.fld 1 (.tmp 2))),
 (true,oq 16 (.load false 1 (.tmp 15))),
 (false,oq 17 (.mv (.tmp 1))),
 (false,
 oq 18 (.ibin .add (.tmp 17) (.const (.int .i64 1)))),
 (false,oq 20 (.fld 1 (.tmp 2))),
 (true,oq 21 (.load false 1 (.tmp 20))),
 (false,oq 22 (.mv (.tmp 1))),
 (false,
 oq 23 (.ibin .add (.tmp 22) (.const (.int .i64 1)))),
 (false,
 .mk (some 14) none
 (.call (.func 184) [.tmp 11,.tmp 13,.const (.bool false)])),
 (false,
 .mk (some 19) none
 (.call (.func 184) [.tmp 16,.tmp 18,.const (.bool false)])),
 (false,
 .mk (some 24) none
 (.call (.func 185) [.tmp 21,.tmp 23,.const (.int .i64 (-1))])),
 (false,
 .mk (some 25) none
 (.build 245
 [.int .i64 0,.int .i64 0,.int .i64 0,.slice none 0 0,
 .int .i64 0,.slice none 0 0,.slice none 0 0,.slice none 0 0,
 .slice none 0 0,.slice none 0 0]
 [(0,4,.tmp 8),(4,1,.tmp 9),(5,1,.tmp 14),(6,1,.tmp 19),
 (7,1,.tmp 24)])),
 (false,oq 26 (.box false 245 (.tmp 25))),
 (false,oq 5 (.mv (.tmp 26)))]
 [1,2,5])
 (.seq
 (.seq
 (.region
 [oq 27 (.fld 3 (.tmp 2)),
 oq 28 (.load false 1 (.tmp 27)),
 oq 29 (.len false (.tmp 28)),
 oq 30 (.mv (.const (.int .i64 0)))]
 [1,5,28,29,30])
 (.block 0 (.loop S147_1 [30] [1,5,28,29])))
 (.seq
 (.region
 [oq 67 (.mv (.tmp 5)),oq 4 (.mv (.tmp 67))] [4])
 .ret)))
def S147 : FnS := ⟨68,[(4,none)],S147_0⟩
theorem tr147 : trFn Try.prog 147 [2,7] [[1,2],[1,2,5],[0,1,2,3,4,5,7,8,9,10,12,13,14,15,6,11,16,17,18,19],[0,8,13],[],[],[],[2],[],[4],[2,3,4,5],[],[7],[],[9],[2,3,4,5,6,7,8,9,10],[],[12],[],[14],[2,3,4,5,6,7,8,9,10,11,12,13,14,15],[0,1,2,3,4,5,6,7,8,9,10,11,12,13,14,15,16],[0,1,2,3,4,5,6,7,8,9,10,11,12,13,14,15,16,17],[0,1,2,3,4,5,6,7,8,9,10,11,12,13,14,15,16,17,18],[1,5,28,29,30],[30],[1,5,28,29],[1,5,28,29,30,31],[1,5,7,28,29,30],[1,5,7,28,29,30],[],[2,0,2,1,2,5,2,9,2,2,2,6,2,10,2,3,2,7,2,8,3,4,3,11,3,12,3,13,2,14,2,15,3,16,0,1,1,1,1,3,11,3,4,3,12,3,13,2,14,2,15,3,16,0,1,1,1,3,12,3,4,3,13,2,14,2,15,3,16,0,1,1,1,1,1],[],[],[],[1],[1,2],[1,2,3],[],[5],[5,6],[5,6,7],[],[9],[5,6,7,8,9,10],[5,6,7,8,9,10,11],[1,2,3,4,5,6,7,8,9,10,11,12],[0,1,2,3,4,5,6,7,8,9,10,11,12,13],[0,1,2,3,4,5,6,7,8,9,10,11,12,13,14],[0,1,2,3,4,5,6,7,8,9,10,11,12,13,14,15],[1,5,28,29,30],[],[2,0,2,1,2,5,2,9,2,2,2,6,2,10,2,3,2,7,2,8,3,4,3,11,3,12,3,13,2,14,2,15,3,16,0,1,1,1,1,3,11,3,4,3,12,3,13,2,14,2,15,3,16,0,1,1,1,3,12,3,4,3,13,2,14,2,15,3,16,0,1,1,1,1,1],[],[],[],[1],[1,2],[1,2,3],[],[5],[5,6],[5,6,7],[],[9],[5,6,7,8,9,10],[5,6,7,8,9,10,11],[1,2,3,4,5,6,7,8,9,10,11,12],[0,1,2,3,4,5,6,7,8,9,10,11,12,13],[0,1,2,3,4,5,6,7,8,9,10,11,12,13,14],[0,1,2,3,4,5,6,7,8,9,10,11,12,13,14,15],[1,5,28,29,30],[4]] = some S147 := by kernel_rfl
/- census: newTable walked; no condition. -/
def made3 {α : Type} (rs : List Ru) (n : Nat) (z : α) : List (List (List α)) := rs.map fun r => List.replicate (r.r.length + 1) (List.replicate (n + 1) z)
/-- headers of the grids so far -/
def hdR (bs : List Nat) (rs : List Ru) : List Hd := List.zipWith (fun b (r : Ru) => ⟨some ⟨b, 0, none⟩, r.r.length + 1, r.r.length + 1⟩) bs rs
theorem hdR_snoc {bs : List Nat} {rs : List Ru} (h : bs.length = rs.length) (b : Nat) (r : Ru) : hdR (bs ++ [b]) (rs ++ [r]) = hdR bs rs ++ [⟨some ⟨b, 0, none⟩, r.r.length + 1, r.r.length + 1⟩] := by
 unfold hdR
 rw [List.zipWith_append h]
 rfl
theorem hdR_len {bs : List Nat} {rs : List Ru} (h : bs.length = rs.length) : (hdR bs rs).length = rs.length := by simp [hdR, h]
def ntC (g : Gr) (n : Nat) (R : Option Addr) (cR b1 b2 b3 : Nat) (va vb : Value) : List Value :=
 [.int .i64 g.ts, .int .i64 g.ns, .int .i64 g.st, .slice R g.rs.length cR, .int .i64 (n : Int), .slice (some ⟨b1, 0, none⟩) g.ns.toNat g.ns.toNat, .slice (some ⟨b2, 0, none⟩) g.ns.toNat g.ns.toNat, .slice (some ⟨b3, 0, none⟩) g.ns.toNat g.ns.toNat, va, vb]
theorem new_table {Γr : Ctx} {g : Gr} (V : VG g) {R : Option Addr} {cR : Nat} (hx : SlOk (lk Γr) R cR g.rs) {n : Nat} (hn : n ≤ 24) :
  Ret Try.prog 147 [.agg #[.int .i64 g.ts, .int .i64 g.ns, .int .i64 g.st, .slice R g.rs.length cR], .int .i64 (n : Int)] Γr [] (fun v Γ => ∃ t gt gh gl gk ge gw, Γ = [gt, gh, gl, gk, ge, gw] ∧ v = .pointer (some ⟨t.b, 0, none⟩) ∧ TabK (lk ([gt] ++ Γr)) t g n R cR ∧
   Grid gh t.bh 22 4 (List.replicate g.ns.toNat (List.replicate (n + 1) false)) ∧ Grid gl t.bl 22 4 (List.replicate g.ns.toNat (List.replicate (n + 1) false)) ∧ Grid gk t.bk 29 3 (List.replicate g.ns.toNat (List.replicate (n + 1) (-1 : Int))) ∧ Cube ge 22 4 t.be (made3 g.rs n false) ∧ Cube gw 29 3 t.bw (made3 g.rs n (-1 : Int))) := by
 generalize hR : (fun (v : Value) (Γ : Ctx) => ∃ t gt gh gl gk ge gw, _) = R'
 refine ret_of_vc tr147 (Nat.le_of_ble_eq_true rfl) ?_
 have hvl := V.len
 have hsh := hx.short
 have hns := V.ns
 obtain ⟨N, hN⟩ : ∃ N : Nat, g.ns = N := ⟨g.ns.toNat, by omega⟩
 have hN' : g.ns.toNat = N := by omega
 rw [hN'] at hR
 simp -implicitDefEqProofs only [S147, S147_0, go_sem,zA,zB,zC,zD,zE,reduceCtorEq,↓reduceIte,zF,zG,zH,zI]
 intro bg
 refine s_drawn [] [] (Ent.refl _) ?_
 simp -implicitDefEqProofs only [go_sem,zA,zB,zC,zD,zE,reduceCtorEq,↓reduceIte,zF,zG,zH,zI]
 simp (disch := omega) only [wrap_id]
 rw [hN, show (n : Int) + 1 = ((n + 1 : Nat) : Int) by omega]
 refine CallVC.read (rows_bool (Γr := [] ++ ([] ++ Γr)) N (n + 1) false (by omega) (by omega)) ?_
 rintro v Γ' ⟨g1, b1, rfl, rfl, hG1⟩
 simp -implicitDefEqProofs only [go_sem,zA,zB,zC,zD,zE,reduceCtorEq,↓reduceIte,zF,zG,zH,zI]
 refine CallVC.read (rows_bool (Γr := [g1] ++ Γr) N (n + 1) false (by omega) (by omega)) ?_
 rintro v Γ' ⟨g2, b2, rfl, rfl, hG2⟩
 simp -implicitDefEqProofs only [go_sem,zA,zB,zC,zD,zE,reduceCtorEq,↓reduceIte,zF,zG,zH,zI]
 refine CallVC.read (rows_int (Γr := [g2, g1] ++ Γr) N (n + 1) (-1) (by omega) (by omega)) ?_
 rintro v Γ' ⟨g3, b3, rfl, rfl, hG3⟩
 simp -implicitDefEqProofs only [go_sem,zA,zB,zC,zD,zE,reduceCtorEq,↓reduceIte,zF,zG,zH,zI]
 intro bt
 rw [show (Value.int IntKind.i64 (N : Int)) = .int .i64 g.ns by rw [hN]]
 have hgt0 : (one bt (.cells #[.int .i64 g.ts, .int .i64 g.ns, .int .i64 g.st, .slice R g.rs.length cR, .int .i64 (n : Int), .slice (some ⟨b1, 0, none⟩) N N, .slice (some ⟨b2, 0, none⟩) N N, .slice (some ⟨b3, 0, none⟩) N N, .slice none 0 0, .slice none 0 0] 245)) bt = some (.cells (ntC g n R cR b1 b2 b3 (.slice none 0 0) (.slice none 0 0)).toArray 245 (0, 0)) := by
  rw [one_self, ntC, hN']
 revert hgt0
 generalize one bt _ = gt
 intro hgt
 refine s_loop (fun f vs Γ => ∃ (i : Nat) (gt ga gb ge gw : PH) (va vb : Value) (be bw : List Nat), vs = [.v true (.int .i64 (i : Int))] ∧ Γ = [gt, ga, gb, ge, gw, g3, g2, g1] ∧ i + f = g.rs.length ∧ gt bt = some (.cells (ntC g n R cR b1 b2 b3 va vb).toArray 245 (0, 0)) ∧ Bld ga (lk []) 154 va (hdR be (g.rs.take i)) ∧ Bld gb (lk []) 65 vb (hdR bw (g.rs.take i)) ∧
  Cube ge 22 4 be (made3 (g.rs.take i) n false) ∧ Cube gw 29 3 bw (made3 (g.rs.take i) n (-1 : Int)) ∧ be.length = i ∧ bw.length = i) g.rs.length
  (Up.to [gt, emp, emp, emp, emp, g3, g2, g1] ((Ent.emps _ 4).trans (Ent.perm (List.perm_middle (l₁ := List.replicate 4 emp)))) ⟨0, gt, emp, emp, emp, emp, _, _, [], [], rfl, rfl, by omega, hgt, Bld.nil _ _ _, Bld.nil _ _ _, Cube.nil _ _ _, Cube.nil _ _ _, rfl, rfl⟩) ?_
 clear hgt
 rintro f vs Γ ⟨i, gt, ga, gb, ge, gw, va, vb, be, bw, rfl, rfl, hif, hgt, hBa, hBb, hCe, hCw, hle, hlw⟩
 have htl : (g.rs.take i).length = i := by simp; omega
 have hla := hdR_len (bs := be) (rs := g.rs.take i) (by omega)
 have hlb := hdR_len (bs := bw) (rs := g.rs.take i) (by omega)
 obtain ⟨Aa, ca, rfl⟩ := hBa.val
 obtain ⟨Ab, cb, rfl⟩ := hBb.val
 simp -implicitDefEqProofs only [S147_1, go_sem,zA,zB,zC,zD,zE,reduceCtorEq,↓reduceIte,zF,zG,zH,zI]
 refine ⟨fun hlt => ?_, fun hge => ?_⟩
 ·have hi : i < g.rs.length := by omega
  have hr4 := V.right _ (List.getElem_mem hi)
  have htk : g.rs.take (i + 1) = g.rs.take i ++ [g.rs[i]] := List.take_succ_eq_append_getElem hi
  obtain ⟨b0, o0, h0, A1, c1, hr1, hcr⟩ := hx.ru hi
  generalize g.rs[i] = r at *
  have hw1 : IntKind.i64.wrap ((r.r.length : Int) + 1) = ((r.r.length + 1 : Nat) : Int) := by rw [wrap_id (by omega) (by omega)]; rfl
  have hw2 : IntKind.i64.wrap ((n : Int) + 1) = ((n + 1 : Nat) : Int) := by rw [wrap_id (by omega) (by omega)]; rfl
  refine s_idx h0 (by omega) (by omega) ?_
  simp -implicitDefEqProofs only [go_sem,zA,zB,zC,zD,zE,reduceCtorEq,↓reduceIte,zF,zG,zH,zI]
  refine s_ld0 (by simpa using hcr _ (lk_r [gt, ga, gb, ge, gw, g3, g2, g1] _)) (by simp) (by simp) ?_
  simp -implicitDefEqProofs only [go_sem,zA,zB,zC,zD,zE,reduceCtorEq,↓reduceIte,zF,zG,zH,zI]
  intro bx
  refine ⟨[gt, ga, gb, ge, gw, g3, g2, g1], [], fun ψ Γ' => ∃ (gt' ga' ge' : PH) (va' : Value) (be' : List Nat), ψ = [(1, .v true (.int .i64 (n : Int))), (5, .v true (.pointer (some ⟨bt, 0, none⟩))), (7, .box bx 37 [.int .i64 r.l, .slice A1 r.r.length c1]), (28, .v true (.slice R g.rs.length cR)), (29, .v true (.int .i64 (g.rs.length : Int))), (30, .v true (.int .i64 (i : Int)))] ∧
   Γ' = [gt', ga', gb, ge', gw, g3, g2, g1] ∧ gt' bt = some (.cells (ntC g n R cR b1 b2 b3 va' (.slice Ab (hdR bw (g.rs.take i)).length cb)).toArray 245 (0, 0)) ∧ Bld ga' (lk []) 154 va' (hdR be' (g.rs.take (i + 1))) ∧ Cube ge' 22 4 be' (made3 (g.rs.take (i + 1)) n false) ∧ be'.length = i + 1, Ent.refl _, ?_, ?_⟩
  ·simp -implicitDefEqProofs only [hw1, hw2, go_sem,zA,zB,zC,zD,zE,reduceCtorEq,↓reduceIte,zF,zG,zH,zI]
   repeat' first
    | with_reducible exact True.intro
    | with_reducible refine And.intro ?_ ?_
    | with_reducible intro bk
    | (refine s_ld (j := 8) (cells_lk ⟨gt, by simp, hgt⟩) (by simp [ntC]) (by simp) ?_)
    | (refine CallVC.read (rows_bool (r.r.length + 1) (n + 1) false (by omega) (by omega)) ?_; rintro v Γ' ⟨gx, kx, rfl, rfl, hGx⟩)
    | (refine s_app1S (α := Hd) (ix := 3) ⟨some ⟨kx, 0, none⟩, r.r.length + 1, r.r.length + 1⟩ rfl hBa cells_one rfl (by omega) (by unfold maxLen; omega) ?_; intro va' ga' hBa' _; obtain ⟨Aa', ca', rfl⟩ := hBa'.val)
    | (refine s_storeF (ix := 2) (o := 8) (n := 1) rfl hgt (by simp [ntC]) ?_)
    | simp -implicitDefEqProofs only [hw1, hw2, ntC, go_sem,zA,zB,zC,zD,zE,reduceCtorEq,↓reduceIte,zF,zG,zH,zI]
   all_goals refine Up.sel [[2], [3], [4], [5, 1], [6], [7], [8], [9]] (by decide) fun hd hm => ⟨_, _, _, _, be ++ [kx], rfl, upd_self _ _ _, by rw [htk, hdR_snoc (by omega)]; exact hBa', ?_, by simp [hle]⟩
   all_goals rw [htk, made3, List.map_append]
   all_goals exact hCe.snoc hGx (fun k => ((List.pairwise_cons.1 (List.pairwise_cons.1 hd).2).1 ge (by simp) k).symm) (hm [5, 1] (by simp))
  ·rintro ψ Γ' ⟨gt, ga, ge, va, be, rfl, rfl, hgt, hBa, hCe, hle⟩
   obtain ⟨Aa, ca, rfl⟩ := hBa.val
   simp -implicitDefEqProofs only [go_sem,zA,zB,zC,zD,zE,reduceCtorEq,↓reduceIte,zF,zG,zH,zI]
   refine ⟨[gt, ga, gb, ge, gw, g3, g2, g1], [], fun ψ Γ' => ∃ (gt' gb' gw' : PH) (vb' : Value) (bw' : List Nat), ψ = [(1, .v true (.int .i64 (n : Int))), (5, .v true (.pointer (some ⟨bt, 0, none⟩))), (28, .v true (.slice R g.rs.length cR)), (29, .v true (.int .i64 (g.rs.length : Int))), (30, .v true (.int .i64 (i : Int)))] ∧
    Γ' = [gt', ga, gb', ge, gw', g3, g2, g1] ∧ gt' bt = some (.cells (ntC g n R cR b1 b2 b3 (.slice Aa (hdR be (g.rs.take (i + 1))).length ca) vb').toArray 245 (0, 0)) ∧ Bld gb' (lk []) 65 vb' (hdR bw' (g.rs.take (i + 1))) ∧ Cube gw' 29 3 bw' (made3 (g.rs.take (i + 1)) n (-1 : Int)) ∧ bw'.length = i + 1, Ent.refl _, ?_, ?_⟩
   ·simp -implicitDefEqProofs only [hw1, hw2, go_sem,zA,zB,zC,zD,zE,reduceCtorEq,↓reduceIte,zF,zG,zH,zI]
    repeat' first
     | with_reducible exact True.intro
     | with_reducible refine And.intro ?_ ?_
     | with_reducible intro bk
     | (refine s_ld (j := 9) (cells_lk ⟨gt, by simp, hgt⟩) (by simp [ntC]) (by simp) ?_)
     | (refine CallVC.read (rows_int (r.r.length + 1) (n + 1) (-1) (by omega) (by omega)) ?_; rintro v Γ' ⟨gx, kx, rfl, rfl, hGx⟩)
     | (refine s_app1S (α := Hd) (ix := 4) ⟨some ⟨kx, 0, none⟩, r.r.length + 1, r.r.length + 1⟩ rfl hBb cells_one rfl (by omega) (by unfold maxLen; omega) ?_; intro vb' gb' hBb' _; obtain ⟨Ab', cb', rfl⟩ := hBb'.val)
     | (refine s_storeF (ix := 2) (o := 9) (n := 1) rfl hgt (by simp [ntC]) ?_)
     | simp -implicitDefEqProofs only [hw1, hw2, ntC, go_sem,zA,zB,zC,zD,zE,reduceCtorEq,↓reduceIte,zF,zG,zH,zI]
    all_goals refine Up.sel [[2], [3], [4], [5], [6, 1], [7], [8], [9]] (by decide) fun hd hm => ⟨_, _, _, _, bw ++ [kx], rfl, upd_self _ _ _, by rw [htk, hdR_snoc (by omega)]; exact hBb', ?_, by simp [hlw]⟩
    all_goals rw [htk, made3, List.map_append]
    all_goals exact hCw.snoc hGx (fun k => ((List.pairwise_cons.1 (List.pairwise_cons.1 hd).2).1 gw (by simp) k).symm) (hm [6, 1] (by simp))
   ·rintro ψ Γ' ⟨gt, gb, gw, vb, bw, rfl, rfl, hgt, hBb, hCw, hlw⟩
    simp -implicitDefEqProofs only [go_sem,zA,zB,zC,zD,zE,reduceCtorEq,↓reduceIte,zF,zG,zH,zI]
    simp (disch := omega) only [wrap_id]
    exact ⟨f - 1, by omega, Up.here ⟨i + 1, gt, ga, gb, ge, gw, _, vb, be, bw, rfl, rfl, by omega, hgt, hBa, hBb, hCe, hCw, hle, hlw⟩⟩
 ·have hie : i = g.rs.length := by omega
  subst hie
  rw [List.take_length] at hBa hBb hCe hCw hla hlb hgt
  rw [hla, hlb] at hgt
  obtain ⟨Ae, ce, ea, hSa⟩ := hBa.slok (L' := lk [ga]) (Mem.le.refl _) (fun b o ⟨x, hx, _⟩ => by cases hx) (by omega)
  obtain ⟨Aw, cw, eb, hSb⟩ := hBb.slok (L' := lk [gb]) (Mem.le.refl _) (fun b o ⟨x, hx, _⟩ => by cases hx) (by omega)
  simp only [Value.slice.injEq, true_and] at ea eb
  obtain ⟨rfl, rfl⟩ := ea
  obtain ⟨rfl, rfl⟩ := eb
  refine Up.sel [[0, 1, 2], [7], [6], [5], [3], [4]] (by decide) fun _ hm => ?_
  have hmg := (hm [0, 1, 2] (by simp)).trans (lk_l _ Γr)
  subst hR
  refine ⟨⟨bt, b1, b2, b3, Aa, ca, be, Ab, cb, bw⟩, _, _, _, _, _, _, rfl, rfl, ⟨?_, hx.mono (lk_r _ _), hSa.mono (Mem.le.trans (lk_sub fun x hx => ?_) hmg), hSb.mono (Mem.le.trans (lk_sub fun x hx => ?_) hmg), hle, hlw⟩, hG1, hG2, hG3, hCe, hCw⟩
  ·exact hmg _ _ ⟨gt, by simp [sel], hgt⟩
  ·simp at hx; subst hx; simp [sel]
  ·simp at hx; subst hx; simp [sel]
end Go.Proofs.Ytniobbepliknmaa.V
