/- Lengths of words, item by item: parlref5.lengthsOf walked; no condition. -/
import Derived.Test.YtniobbepliknmaaDwork
import Derived.Test.YtniobbepliknmaaS114
namespace Go.Proofs.Ytniobbepliknmaa.V
open Go
set_option linter.unusedVariables false
set_option linter.unusedSimpArgs false
attribute [local go_sem] e_seq e_region e_quiet e_join e_loop e_cond e_block e_exit e_ret e_skip e_fin e_kseq e_snrm e_sret e_sex e_bnrm e_bret e_bex e_rnrm e_rret e_res e_condC e_nil e_g e_mv g_mv e_pick g_pick pickC_eq e_ibin g_ibin ibinC_eq e_sbin g_sbin e_beq g_beq beqC_eq e_nilq g_nilq nilqC_sl nilqC_pt nilqC_mp e_un g_un unC_not unC_neg e_conv g_conv convC_eq e_fld g_fld fldC_ref fldC_ptr e_nilCheck g_nilCheck nilCheckC_ref nilCheckC_ptr nilCheckC_fun e_field g_field fieldC_eq e_len g_len lenC_sl lenC_str e_extract g_extract extractC_eq e_mkFunc e_build g_build e_idiv g_idiv idivC_eq e_ishift g_ishift ishiftC_eq e_idx g_idx e_idxA g_idxA e_load g_load loadC_ref loadC_ptr loadB_eq e_slc g_slc e_box boxC_loc boxC_esc e_alloc allocC_loc allocC_esc e_buildS e_store storeC_ref storeC_ptr storeB_eq e_append e_appz e_mk mkC_eq e_call callC_eq e_fn g_fn fnC_eq fnV_min' fnV_max' fnV_rune' e_q g_q e_a e_n g_call g_box g_alloc g_buildS g_store g_append g_mk g_a g_n g_dead e_dead e_callK e_drawn e_tree e_finJ e_tk e_tfin e_tno e_nbt_q e_nbt_qn e_nbt_a e_nbt_an e_nbt_fin e_early_nil e_early_t e_early_f e_nob_nil e_nob_none e_nob_some isBox_dead isBox_v isBox_ref e_dnil e_dk e_ek e_finB vcOps_vc1 e_dcons e_tq e_ekt e_tearly e_talt e_dearly look_nil look_c proj_nil proj_c looks_nil looks_c zip_nil zip_c val_tmp val_const val_func slv_v slv_box slv_ref slot_tmp slot_const slot_func slotL_v slotL_box slotL_ref put_some put_none updBox_c boxSet_box gd_eq slotVals_nil slotVals_c slotVals_b boxV_box boxOn_box slotsOn_nil slotsOn_c slotsOn_b resV_one resV_two vals_nil vals_c allOn_nil allOn_c partOn_nil partOn_c partVals_nil partVals_c fits_nil fits_c fillL_nil fillL_c mkv_one mkv_agg cellsV_agg cellsV_int cellsV_bool cellsV_slice cellsV_string cellsV_pointer cellsV_func cellsV_nilf cellsV_map one'_nil one'_c oc_int oc_bool oc_slice oc_string oc_pointer oc_func oc_nilf oc_map setC_eq iv_add iv_sub iv_mul iv_eql iv_neq iv_lss iv_leq iv_gtr iv_geq iok_add iok_sub iok_mul iok_eql iok_neq iok_lss iok_leq iok_gtr iok_geq pickV_bool args0_nil args0_c bnd_none bnd_some imp_bt imp_bf imp_ebt imp_ebf imp_eb1 imp_np imp_pp beq_tt beq_tf beq_ft beq_ff cond_or cond_and e_round e_meet Int.le_refl Int.toNat_zero decide_true decide_false Bool.or_false Bool.false_or Bool.true_or Bool.or_true Bool.and_false Bool.false_and Bool.bne_false Bool.bne_true beq_iff_eq Int.cast_ofNat_Int not_false_eq_true not_true_eq_false false_and and_false false_implies true_implies true_and and_true Bool.true_and Bool.and_true Bool.not_true Bool.not_false forall_const implies_true List.take_zero List.drop_zero List.take_succ_cons List.drop_succ_cons List.take_nil List.drop_nil List.length_cons List.length_nil List.nil_append List.append_nil List.cons_append Int.toNat_natCast decide_eq_true_eq decide_eq_false_iff_not cond_true cond_false and_self List.getElem?_cons_zero List.getElem?_cons_succ List.set_cons_zero List.set_cons_succ Option.some.injEq exists_eq_left' Nat.zero_add Nat.add_zero Nat.mul_one imp_self true_or or_true or_false false_or Bool.or_eq_true Bool.or_eq_false_iff Bool.and_eq_true Bool.and_eq_false_iff Bool.not_eq_true' Bool.not_eq_false'

/-- what all was earlier -/
def SnapO (S : Option (Value × List It)) (ra : PH) (va : Value) (all : List It) : Prop := ∀ v0 xs0, S = some (v0, xs0) → Snap ra (lk []) 223 v0 va xs0 all
/-- where the work list, what was seen and what is told lie -/
def WS (S : Option (Value × List It)) (pn pm pa pr bm b3 n : Nat) (gg : PH) (all row : List It) (rows : List (List Bool)) (Γ : Ctx) : Prop := ∃ hm ca ra cr rr cm cn va vr, Γ = [hm, ca, ra, cr, rr, cm, gg, cn] ∧
  MapM hm bm itK Value.bool okIt (mset id all) ∧ ca pa = some (.cells [va].toArray 221 (0, 0)) ∧ Bld ra (lk []) 223 va all ∧ cr pr = some (.cells [vr].toArray 221 (0, 0)) ∧ Bld rr (lk []) 223 vr row ∧
  cm pm = some (.cells [.map (some bm)].toArray 220 (0, 0)) ∧ Grid gg b3 22 4 rows ∧ cn pn = some (.cells [.int .i64 n].toArray 3 (0, 0)) ∧ SnapO S ra va all
/-- what holds of the work list -/
structure WI (g : Gr) (n a : Nat) (all row : List It) (rows : List (List Bool)) : Prop where
  nodup : all.Nodup
  snd : ∀ x ∈ all, ItS g n x
  rin : ∀ x ∈ row, x ∈ all
  len : row.length ≤ all.length
  init : ∀ i : Nat, i < g.rs.length → (⟨i, 0, 0⟩ : It) ∈ all
  told : SoundL g rows
  dim : rows.length = a
  wide : ∀ x ∈ rows, x.length = n + 1
  cl : ∀ x ∈ all, x ∈ row ∨ ItC g n rows all x
theorem WI.bound {g : Gr} {n a : Nat} {all row : List It} {rows : List (List Bool)} (V : VG g) (h : WI g n a all row rows) : all.length ≤ 160 * (n + 1) := by
  have hlen := V.len
  refine items_bound h.nodup fun x hx => ?_
  obtain ⟨h1, h2, h3, h4, r, h5, h6, h7⟩ := h.snd x hx
  have h8 := V.right r (List.mem_of_getElem? h5)
  have h9 := (List.getElem?_eq_some_iff.1 h5).1
  omega
/-- the same while an item is worked on: that one is exempt -/
structure WJ (g : Gr) (n a c : Nat) (x : It) (all row : List It) (rows : List (List Bool)) : Prop where
  nodup : all.Nodup
  snd : ∀ x ∈ all, ItS g n x
  rin : ∀ x ∈ row, x ∈ all
  len : all.length = row.length + c
  init : ∀ i : Nat, i < g.rs.length → (⟨i, 0, 0⟩ : It) ∈ all
  told : SoundL g rows
  dim : rows.length = a
  wide : ∀ x ∈ rows, x.length = n + 1
  cl : ∀ y ∈ all, y ∈ row ∨ y = x ∨ ItC g n rows all y
theorem WJ.bound {g : Gr} {n a c : Nat} {x : It} {all row : List It} {rows : List (List Bool)} (V : VG g) (h : WJ g n a c x all row rows) : all.length ≤ 160 * (n + 1) := by
  have hlen := V.len
  refine items_bound h.nodup fun x hx => ?_
  obtain ⟨h1, h2, h3, h4, r, h5, h6, h7⟩ := h.snd x hx
  have h8 := V.right r (List.mem_of_getElem? h5)
  have h9 := (List.getElem?_eq_some_iff.1 h5).1
  omega
theorem ItC.mono {g : Gr} {n : Nat} {rows : List (List Bool)} {all all' : List It} {x : It} (h : ItC g n rows all x) (hs : ∀ y ∈ all, y ∈ all') : ItC g n rows all' x := fun r hr =>
  ⟨(h r hr).1, fun s hs' => ⟨fun h1 h2 => hs _ (((h r hr).2 s hs').1 h1 h2), fun h1 k h2 h3 => hs _ (((h r hr).2 s hs').2 h1 k h2 h3)⟩⟩
def addA (n : Nat) (all : List It) (y : It) : List It := if y.n ≤ n ∧ y ∉ all then all ++ [y] else all
def addR (n : Nat) (all row : List It) (y : It) : List It := if y.n ≤ n ∧ y ∉ all then row ++ [y] else row
theorem addA_sub {n : Nat} {all : List It} {y : It} : ∀ z ∈ all, z ∈ addA n all y := fun z hz => by unfold addA; split <;> simp [hz]
theorem addA_in {n : Nat} {all : List It} {y : It} (h : y.n ≤ n) : y ∈ addA n all y := by
  unfold addA
  by_cases hy : y ∈ all
  · rw [if_neg (by simp [hy])]; exact hy
  · rw [if_pos ⟨h, hy⟩]; simp
theorem WJ.add {g : Gr} {n a c : Nat} {x : It} {all row : List It} {rows : List (List Bool)} (h : WJ g n a c x all row rows) {y : It} (hy : y.n ≤ n → ItS g n y) : WJ g n a c x (addA n all y) (addR n all row y) rows := by
  have hsub := addA_sub (n := n) (all := all) (y := y)
  by_cases hc : y.n ≤ n ∧ y ∉ all
  · have e1 : addA n all y = all ++ [y] := if_pos hc
    have e2 : addR n all row y = row ++ [y] := if_pos hc
    rw [e1] at hsub
    rw [e1, e2]
    refine ⟨?_, ?_, ?_, by simp [h.len]; omega, fun i hi => hsub _ (h.init i hi), h.told, h.dim, h.wide, ?_⟩
    · rw [List.nodup_append]
      refine ⟨h.nodup, by simp, ?_⟩
      rintro z hz w hw rfl
      simp at hw
      subst hw
      exact hc.2 hz
    · intro z hz
      simp at hz
      rcases hz with hz | rfl
      · exact h.snd z hz
      · exact hy hc.1
    · intro z hz
      simp at hz ⊢
      rcases hz with hz | rfl
      · exact .inl (h.rin z hz)
      · exact .inr rfl
    · intro z hz
      simp at hz
      rcases hz with hz | rfl
      · rcases h.cl z hz with q | q | q
        · exact .inl (by simp [q])
        · exact .inr (.inl q)
        · exact .inr (.inr (q.mono hsub))
      · exact .inl (by simp)
  · have e1 : addA n all y = all := if_neg hc
    have e2 : addR n all row y = row := if_neg hc
    rw [e1, e2]
    exact h
/-- the item is done -/
theorem WJ.done {g : Gr} {n a c : Nat} {x : It} {all row : List It} {rows : List (List Bool)} (h : WJ g n a c x all row rows) (hx : ItC g n rows all x) : WI g n a all row rows :=
  ⟨h.nodup, h.snd, h.rin, by have := h.len; omega, h.init, h.told, h.dim, h.wide, fun y hy => by
    rcases h.cl y hy with q | rfl | q
    · exact .inl q
    · exact .inr hx
    · exact .inr q⟩
theorem call_add {Γr : Ctx} {S : Option (Value × List It)} {pn pm pa pr bm b3 n : Nat} {gg : PH} {all row : List It} {rows : List (List Bool)} {Γ : Ctx} {k : Value → Ctx → Prop} (h : WS S pn pm pa pr bm b3 n gg all row rows Γ) (x : It) (hx : okIt x) (hal : all.length ≤ 1000000) (hrl : row.length ≤ 1000000)
    (hk : ∀ v Γ', WS S pn pm pa pr bm b3 n gg (if x.n ≤ n ∧ x ∉ all then all ++ [x] else all) (if x.n ≤ n ∧ x ∉ all then row ++ [x] else row) rows Γ' → k v Γ') :
    CallVC Try.prog Γr 173 [.agg #[.int .i64 x.r, .int .i64 x.d, .int .i64 x.n], .pointer (some ⟨pn, 0, none⟩), .pointer (some ⟨pm, 0, none⟩), .pointer (some ⟨pa, 0, none⟩), .pointer (some ⟨pr, 0, none⟩)] Γ k := by
  obtain ⟨hm, ca, ra, cr, rr, cm, cn, va, vr, rfl, hM, hca, hra, hcr, hrr, hcm, hG, hcn, hsn⟩ := h
  refine CallVC.perm (Γm := [hm, ca, ra, cr, rr]) (Γf := [cm, gg, cn]) (lens_add (Γr := [cm, gg, cn] ++ Γr) x hx (n := n) ⟨cn, by simp, hcn⟩ ⟨cm, by simp, hcm⟩ hM hca hra hcr hrr hal hrl) (List.Perm.refl _) (List.Sublist.refl _) ?_
  rintro v Γ' ⟨hm', ca', ra', cr', rr', va', vr', rfl, h1, h2, h3, h4, h5, h6⟩
  exact hk _ _ ⟨hm', ca', ra', cr', rr', cm, cn, va', vr', rfl, h1, h2, h3, h4, h5, hcm, hG, hcn, fun v0 xs0 q => h6 v0 xs0 (hsn v0 xs0 q)⟩
theorem ref_lengths {Γr : Ctx} {g : Gr} {A : Option Addr} {c : Nat} (hx : SlOk (lk Γr) A c g.rs) (V : VG g) (n : Nat) (hn : n ≤ 400) :
    Ret Try.prog 114 [.agg #[.int .i64 g.ts, .int .i64 g.ns, .int .i64 g.st, .slice A g.rs.length c], .int .i64 n] Γr [] (fun v Γ => ∃ g' b rows, Γ = [g'] ∧ v = .slice (some ⟨b, 0, none⟩) g.ns.toNat g.ns.toNat ∧ rows.length = g.ns.toNat ∧ Grid g' b 22 4 rows ∧
      ∀ a : Nat, a < rows.length → Tells n (rows.getD a []) (HasD g a)) := by
  generalize hR : (fun (v : Value) (Γ : Ctx) => ∃ g' b rows, _) = R
  refine ret_of_vc tr114 (Nat.le_of_ble_eq_true rfl) ?_
  have hns := V.ns
  obtain ⟨a, ha⟩ : ∃ a : Nat, g.ns = a := ⟨g.ns.toNat, by omega⟩
  have ha10 : a ≤ 10 := by omega
  rw [ha]
  simp -implicitDefEqProofs only [S114, S114_0, go_sem, Nat.reduceBEq, Nat.reduceAdd, Nat.reduceSub, Nat.reduceMul, Nat.reduceLeDiff, reduceCtorEq, ↓reduceIte, Int.reduceLT, Int.reduceLE, Int.reduceEq, Int.reduceNe]
  intro b1 pn
  refine s_ld0 cells_one (by simp) (by simp) ?_
  simp -implicitDefEqProofs only [go_sem, Nat.reduceBEq, Nat.reduceAdd, Nat.reduceSub, Nat.reduceMul, Nat.reduceLeDiff, reduceCtorEq, ↓reduceIte, Int.reduceLT, Int.reduceLE, Int.reduceEq, Int.reduceNe]
  rw [wrap_id (x := (n : Int) + 1) (by omega) (by omega), show (n : Int) + 1 = ((n + 1 : Nat) : Int) by omega]
  refine CallVC.read (grid_bool a (n + 1) (by omega) (by omega)) ?_
  rintro v Γ' ⟨g1, b3, rfl, rfl, hG⟩
  simp -implicitDefEqProofs only [go_sem, Nat.reduceBEq, Nat.reduceAdd, Nat.reduceSub, Nat.reduceMul, Nat.reduceLeDiff, reduceCtorEq, ↓reduceIte, Int.reduceLT, Int.reduceLE, Int.reduceEq, Int.reduceNe]
  refine s_mkmap fun bm => ?_
  simp -implicitDefEqProofs only [go_sem, Nat.reduceBEq, Nat.reduceAdd, Nat.reduceSub, Nat.reduceMul, Nat.reduceLeDiff, reduceCtorEq, ↓reduceIte, Int.reduceLT, Int.reduceLE, Int.reduceEq, Int.reduceNe]
  intro pm
  refine s_storeV (ix := 0) rfl (one_self _ _) rfl rfl ?_
  simp -implicitDefEqProofs only [go_sem, Nat.reduceBEq, Nat.reduceAdd, Nat.reduceSub, Nat.reduceMul, Nat.reduceLeDiff, reduceCtorEq, ↓reduceIte, Int.reduceLT, Int.reduceLE, Int.reduceEq, Int.reduceNe]
  intro pa pr
  refine s_loop (fun f vs Γ => ∃ k : Nat, vs = [.v true (.int .i64 k)] ∧ k + f = g.rs.length ∧ ∃ (l : List It) (gg : PH), l = (List.range k).map (fun i : Nat => (⟨i, 0, 0⟩ : It)) ∧ WS none pn pm pa pr bm b3 n gg l l (List.replicate a (List.replicate (n + 1) false)) Γ) g.rs.length
    (Up.sel [[3], [1], [], [0], [], [2], [4], [5]] (by decide) fun _ _ => ⟨0, rfl, by omega, [], _, rfl, _, _, _, _, _, _, _, _, _, rfl, MapM.new _ _ _ _, ?_, Bld.nil _ _ _, ?_, Bld.nil _ _ _, ?_, ?_, ?_, by intro _ _ h; cases h⟩) ?_
  · exact one_self _ _
  · exact one_self _ _
  · exact upd_self _ _ _
  · exact hG
  · exact one_self _ _
  rintro f vs Γ ⟨k, rfl, hkf, l, gg, hl, hW⟩
  have hlen := V.len
  have hll : l.length = k := by rw [hl]; simp
  simp -implicitDefEqProofs only [S114_1, go_sem, Nat.reduceBEq, Nat.reduceAdd, Nat.reduceSub, Nat.reduceMul, Nat.reduceLeDiff, reduceCtorEq, ↓reduceIte, Int.reduceLT, Int.reduceLE, Int.reduceEq, Int.reduceNe]
  refine ⟨fun hlt => ?_, fun hge => ?_⟩
  · have hk : k < g.rs.length := by omega
    refine call_add hW ⟨k, 0, 0⟩ ⟨rfl, fun x hx => ?_⟩ (by omega) (by omega) ?_
    · simp at hx
      rcases hx with rfl | rfl <;> exact wf64 (by omega) (by omega)
    · intro v Γ' hW'
      have hno : (⟨k, 0, 0⟩ : It) ∉ l := by
        rw [hl]
        simp
        omega
      rw [if_pos ⟨by simp, hno⟩] at hW'
      simp -implicitDefEqProofs only [go_sem, Nat.reduceBEq, Nat.reduceAdd, Nat.reduceSub, Nat.reduceMul, Nat.reduceLeDiff, reduceCtorEq, ↓reduceIte, Int.reduceLT, Int.reduceLE, Int.reduceEq, Int.reduceNe]
      simp (disch := omega) only [wrap_id]
      exact ⟨f - 1, by omega, Up.here ⟨k + 1, rfl, by omega, l ++ [⟨k, 0, 0⟩], gg, by rw [hl, List.range_succ]; simp, hW'⟩⟩
  have hk : k = g.rs.length := by omega
  subst hk
  refine s_loop (fun f vs Γ => ∃ all row rows gg, vs = [.v true (.pointer (some ⟨pr, 0, none⟩))] ∧ f + (all.length - row.length) = 160 * (n + 1) ∧ WS none pn pm pa pr bm b3 n gg all row rows Γ ∧ WI g n a all row rows) (160 * (n + 1))
    (Up.here ⟨l, l, _, gg, rfl, by omega, hW, ⟨?_, ?_, fun x h => h, Nat.le_refl _, ?_, rep_false g _ _, by simp, fun x hx => by rw [List.eq_of_mem_replicate hx]; simp, fun x h => .inl h⟩⟩) ?_
  · rw [hl, List.Nodup, List.pairwise_map]
    exact List.nodup_range.imp fun h e => h (by simp at e; omega)
  · intro x hx
    rw [hl] at hx
    obtain ⟨i, hi, rfl⟩ := List.mem_map.1 hx
    have hi : i < g.rs.length := by simpa using hi
    refine ⟨by simp, by simp, by simp, by simp, g.rs[i], by simp [hi], by simp, ?_⟩
    simpa using LenD.nil
  · intro i hi
    rw [hl]
    exact List.mem_map.2 ⟨i, by simpa using hi, rfl⟩
  rintro f vs Γ ⟨all, row, rows, gg, rfl, hf, hW, hI⟩
  have hbd := hI.bound V
  obtain ⟨hm, ca, ra, cr, rr, cm, cn, va, vr, rfl, hM, hca, hra, hcr, hrr, hcm, hG, hcn, hsn⟩ := id hW
  obtain ⟨A2, c2, rfl⟩ := hrr.val
  simp -implicitDefEqProofs only [S114_10, go_sem, Nat.reduceBEq, Nat.reduceAdd, Nat.reduceSub, Nat.reduceMul, Nat.reduceLeDiff, reduceCtorEq, ↓reduceIte, Int.reduceLT, Int.reduceLE, Int.reduceEq, Int.reduceNe]
  refine s_ld0 (cells_lk ⟨cr, by simp, hcr⟩) (by simp) (by simp) ?_
  simp -implicitDefEqProofs only [go_sem, Nat.reduceBEq, Nat.reduceAdd, Nat.reduceSub, Nat.reduceMul, Nat.reduceLeDiff, reduceCtorEq, ↓reduceIte, Int.reduceLT, Int.reduceLE, Int.reduceEq, Int.reduceNe]
  refine ⟨fun hpos => ?_, fun hz => ?_⟩
  · obtain ⟨x, row', rfl⟩ : ∃ x row', row = x :: row' := by
      cases row with
      | nil => simp at hpos
      | cons x row' => exact ⟨x, row', rfl⟩
    have hsl : SlOk (lk [rr]) A2 c2 (x :: row') := by
      obtain ⟨A', c', e, h⟩ := hrr.slok (L' := lk [rr]) (Mem.le.refl _) (lk_sub (by simp)) (by have := hI.len; omega)
      simp only [Value.slice.injEq, true_and] at e
      obtain ⟨rfl, rfl⟩ := e
      exact h
    obtain ⟨b5, o5, hA5, cs5, hok, hc5⟩ := hsl.get (i := 0) (by simp)
    refine s_ld0 (cells_lk ⟨cr, by simp, hcr⟩) (by simp) (by simp) ?_
    simp -implicitDefEqProofs only [go_sem, Nat.reduceBEq, Nat.reduceAdd, Nat.reduceSub, Nat.reduceMul, Nat.reduceLeDiff, reduceCtorEq, ↓reduceIte, Int.reduceLT, Int.reduceLE, Int.reduceEq, Int.reduceNe]
    refine s_idx hA5 (by omega) (by simp) ?_
    simp -implicitDefEqProofs only [go_sem, Nat.reduceBEq, Nat.reduceAdd, Nat.reduceSub, Nat.reduceMul, Nat.reduceLeDiff, reduceCtorEq, ↓reduceIte, Int.reduceLT, Int.reduceLE, Int.reduceEq, Int.reduceNe]
    have hcs : cs5 = [.int .i64 x.r, .int .i64 x.d, .int .i64 x.n] := hok
    subst hcs
    have hcell : Cells ([hm, ca, ra, cr, rr, cm, gg, cn] ++ Γr) b5 o5 [.int .i64 x.r, .int .i64 x.d, .int .i64 x.n] := by simpa using hc5 _ (lk_sub (by simp))
    refine s_ld0 hcell (by simp) (by simp) ?_
    simp -implicitDefEqProofs only [go_sem, Nat.reduceBEq, Nat.reduceAdd, Nat.reduceSub, Nat.reduceMul, Nat.reduceLeDiff, reduceCtorEq, ↓reduceIte, Int.reduceLT, Int.reduceLE, Int.reduceEq, Int.reduceNe]
    intro b6
    refine s_ld0 (cells_lk ⟨cr, by simp, hcr⟩) (by simp) (by simp) ?_
    simp -implicitDefEqProofs only [go_sem, Nat.reduceBEq, Nat.reduceAdd, Nat.reduceSub, Nat.reduceMul, Nat.reduceLeDiff, reduceCtorEq, ↓reduceIte, Int.reduceLT, Int.reduceLE, Int.reduceEq, Int.reduceNe]
    refine s_lo 1 (by simp -implicitDefEqProofs only [go_sem, Nat.reduceBEq, Nat.reduceAdd, Nat.reduceSub, Nat.reduceMul, Nat.reduceLeDiff, reduceCtorEq, ↓reduceIte, Int.reduceLT, Int.reduceLE, Int.reduceEq, Int.reduceNe]; exact ⟨_, rfl⟩) (by simp) (by simpa using hsl.cap) ?_
    intro A7 hA7
    have hdr := hrr.drop (k := 1) (by simp)
    rw [show (if c2 = 1 then A2 else A2.map (·.add (1 * Rep.sz It))) = A7 from hA7.symm] at hdr
    simp -implicitDefEqProofs only [go_sem, Nat.reduceBEq, Nat.reduceAdd, Nat.reduceSub, Nat.reduceMul, Nat.reduceLeDiff, reduceCtorEq, ↓reduceIte, Int.reduceLT, Int.reduceLE, Int.reduceEq, Int.reduceNe]
    refine s_storeV (ix := 3) rfl hcr rfl rfl ?_
    simp -implicitDefEqProofs only [go_sem, Nat.reduceBEq, Nat.reduceAdd, Nat.reduceSub, Nat.reduceMul, Nat.reduceLeDiff, reduceCtorEq, ↓reduceIte, Int.reduceLT, Int.reduceLE, Int.reduceEq, Int.reduceNe]
    have hW1 : WS none pn pm pa pr bm b3 n gg all row' rows [hm, ca, ra, upd cr pr (.cells [.slice A7 (row'.length + 1 - 1) (c2 - 1)].toArray 221), rr, cm, gg, cn] :=
      ⟨hm, ca, ra, _, rr, cm, cn, _, _, rfl, hM, hca, hra, upd_self _ _ _, hdr, hcm, hG, hcn, hsn⟩
    have hxin : x ∈ all := hI.rin x (by simp)
    obtain ⟨hx1, hx2, hx3, hx4, r, hxr, hxd, hxl⟩ := hI.snd x hxin
    obtain ⟨ri, hri⟩ : ∃ ri : Nat, x.r = ri := ⟨x.r.toNat, by omega⟩
    obtain ⟨di, hdi⟩ : ∃ di : Nat, x.d = di := ⟨x.d.toNat, by omega⟩
    obtain ⟨ni, hni⟩ : ∃ ni : Nat, x.n = ni := ⟨x.n.toNat, by omega⟩
    rw [hri, Int.toNat_natCast] at hxr
    rw [hdi, Int.toNat_natCast] at hxd hxl
    rw [hni, Int.toNat_natCast] at hxl
    have hrig : ri < g.rs.length := (List.getElem?_eq_some_iff.1 hxr).1
    have hre : g.rs[ri] = r := (List.getElem?_eq_some_iff.1 hxr).2
    obtain ⟨b7, o7, hA8, A8, c8, hr8, hc8⟩ := hx.ru hrig
    rw [hre] at hr8 hc8
    generalize [hm, ca, ra, upd cr pr (.cells [.slice A7 (row'.length + 1 - 1) (c2 - 1)].toArray 221), rr, cm, gg, cn] = Γ1 at hW1 ⊢
    rw [hri, hdi, hni]
    refine s_idx hA8 (by omega) (by omega) ?_
    simp -implicitDefEqProofs only [go_sem, Nat.reduceBEq, Nat.reduceAdd, Nat.reduceSub, Nat.reduceMul, Nat.reduceLeDiff, reduceCtorEq, ↓reduceIte, Int.reduceLT, Int.reduceLE, Int.reduceEq, Int.reduceNe]
    refine s_ld0 (hc8 _ (lk_r _ _)) (by simp) (by simp) ?_
    simp -implicitDefEqProofs only [go_sem, Nat.reduceBEq, Nat.reduceAdd, Nat.reduceSub, Nat.reduceMul, Nat.reduceLeDiff, reduceCtorEq, ↓reduceIte, Int.reduceLT, Int.reduceLE, Int.reduceEq, Int.reduceNe]
    intro b8
    refine ⟨fun hend => ?_, fun hnend => ?_⟩
    · have hdl : di = r.r.length := by omega
      subst hdl
      have hlr := hI.len
      simp only [List.length_cons] at hlr hf
      have hrm : r ∈ g.rs := List.mem_of_getElem? hxr
      have hr4 := V.right r hrm
      have hlf := V.left r hrm
      have hhas : HasD g r.l ni := ⟨r, hrm, rfl, by simpa using hxl⟩
      have hJ : WJ g n a (all.length - row'.length) x all row' rows := ⟨hI.nodup, hI.snd, fun z hz => hI.rin z (by simp [hz]), by omega, hI.init, hI.told, hI.dim, hI.wide, fun z hz => by
        rcases hI.cl z hz with q | q
        · simp at q
          rcases q with rfl | q
          · exact .inr (.inl rfl)
          · exact .inl q
        · exact .inr (.inr q)⟩
      obtain ⟨sn, hsn⟩ : ∃ sn : Nat, r.l = sn := ⟨r.l.toNat, by omega⟩
      have hsa : sn < rows.length := by rw [hI.dim]; omega
      have hwd : rows[sn].length = n + 1 := hI.wide _ (List.getElem_mem hsa)
      have hni1 : ni < rows[sn].length := by omega
      obtain ⟨kb, hcell, hArr, hput⟩ := hG.at' hsa (by omega)
      have hggin : ∀ {S al rw' rows Γ}, WS S pn pm pa pr bm b3 n gg al rw' rows Γ → gg ∈ Γ := fun h => by
        obtain ⟨hm, ca, ra, cr, rr, cm, cn, va, vr, rfl, _⟩ := h
        simp
      rw [hsn]
      refine s_split ?_
      simp -implicitDefEqProofs only [S114_5, S114_6, go_sem, Nat.reduceBEq, Nat.reduceAdd, Nat.reduceSub, Nat.reduceMul, Nat.reduceLeDiff, reduceCtorEq, ↓reduceIte, Int.reduceLT, Int.reduceLE, Int.reduceEq, Int.reduceNe]
      refine s_idx rfl (by omega) (by have := hI.dim; omega) ?_
      simp -implicitDefEqProofs only [go_sem, Nat.reduceBEq, Nat.reduceAdd, Nat.reduceSub, Nat.reduceMul, Nat.reduceLeDiff, reduceCtorEq, ↓reduceIte, Int.reduceLT, Int.reduceLE, Int.reduceEq, Int.reduceNe]
      refine s_ld0 (hcell _ (by simp [hggin hW1])) (by simp) (by simp) ?_
      simp -implicitDefEqProofs only [go_sem, Nat.reduceBEq, Nat.reduceAdd, Nat.reduceSub, Nat.reduceMul, Nat.reduceLeDiff, reduceCtorEq, ↓reduceIte, Int.reduceLT, Int.reduceLE, Int.reduceEq, Int.reduceNe]
      refine s_idx rfl (by omega) (by omega) ?_
      simp -implicitDefEqProofs only [go_sem, Nat.reduceBEq, Nat.reduceAdd, Nat.reduceSub, Nat.reduceMul, Nat.reduceLeDiff, reduceCtorEq, ↓reduceIte, Int.reduceLT, Int.reduceLE, Int.reduceEq, Int.reduceNe]
      refine s_ld0 (hArr.bool hni1 (by simp [hggin hW1])) (by simp) (by simp) ?_
      simp -implicitDefEqProofs only [go_sem, Nat.reduceBEq, Nat.reduceAdd, Nat.reduceSub, Nat.reduceMul, Nat.reduceLeDiff, reduceCtorEq, ↓reduceIte, Int.reduceLT, Int.reduceLE, Int.reduceEq, Int.reduceNe]
      refine ⟨fun hno => ?_, fun hyes => ?_⟩
      · refine s_idx rfl (by omega) (by have := hI.dim; omega) ?_
        simp -implicitDefEqProofs only [go_sem, Nat.reduceBEq, Nat.reduceAdd, Nat.reduceSub, Nat.reduceMul, Nat.reduceLeDiff, reduceCtorEq, ↓reduceIte, Int.reduceLT, Int.reduceLE, Int.reduceEq, Int.reduceNe]
        refine s_ld0 (hcell _ (by simp [hggin hW1])) (by simp) (by simp) ?_
        simp -implicitDefEqProofs only [go_sem, Nat.reduceBEq, Nat.reduceAdd, Nat.reduceSub, Nat.reduceMul, Nat.reduceLeDiff, reduceCtorEq, ↓reduceIte, Int.reduceLT, Int.reduceLE, Int.reduceEq, Int.reduceNe]
        refine s_idx rfl (by omega) (by omega) ?_
        simp -implicitDefEqProofs only [go_sem, Nat.reduceBEq, Nat.reduceAdd, Nat.reduceSub, Nat.reduceMul, Nat.reduceLeDiff, reduceCtorEq, ↓reduceIte, Int.reduceLT, Int.reduceLE, Int.reduceEq, Int.reduceNe]
        obtain ⟨hm, ca, ra, cr, rr, cm, cn, va, vr, rfl, hM, hca, hra, hcr, hrr, hcm, hG1, hcn, _⟩ := hW1
        obtain ⟨Aa, caa, rfl⟩ := hra.val
        refine s_storeA (ix := 6) true rfl hArr hni1 ?_
        intro g9 hA9 ho9
        have hG9 := hput g9 _ hA9 (by simp) ho9
        simp -implicitDefEqProofs only [go_sem, Nat.reduceBEq, Nat.reduceAdd, Nat.reduceSub, Nat.reduceMul, Nat.reduceLeDiff, reduceCtorEq, ↓reduceIte, Int.reduceLT, Int.reduceLE, Int.reduceEq, Int.reduceNe]
        refine s_ld0 (cells_lk ⟨ca, by simp, hca⟩) (by simp) (by simp) ?_
        simp -implicitDefEqProofs only [go_sem, Nat.reduceBEq, Nat.reduceAdd, Nat.reduceSub, Nat.reduceMul, Nat.reduceLeDiff, reduceCtorEq, ↓reduceIte, Int.reduceLT, Int.reduceLE, Int.reduceEq, Int.reduceNe]
        refine s_loop (fun f2 vs Γ => ∃ (all2 row2 : List It) (k : Nat), vs = [.v true (.int .i64 k)] ∧ k + f2 = all.length ∧ WS (some (.slice Aa all.length caa, all)) pn pm pa pr bm b3 n g9 all2 row2 (rows.set sn (rows[sn].set ni true)) Γ ∧ WJ g n a (all.length - row'.length) x all2 row2 rows ∧ (∀ y ∈ all2, y ∈ all ∨ y ∈ row2) ∧
          (∀ (j : Nat) (hj : j < all.length), j < k → ∀ q, g.rs[all[j].r.toNat]? = some q → ∀ s, q.r[all[j].d.toNat]? = some s → s.t = false → s.n = sn → all[j].n + ni ≤ n → (⟨all[j].r, all[j].d + 1, all[j].n + ni⟩ : It) ∈ all2)) all.length
          (Up.here ⟨all, row', 0, rfl, by omega, ⟨hm, ca, ra, cr, rr, cm, cn, _, _, rfl, hM, hca, hra, hcr, hrr, hcm, hG9, hcn, fun v0 xs0 e => ?_⟩, hJ, fun y hy => .inl hy, by intro j _ h; omega⟩) ?_
        · simp only [Option.some.injEq, Prod.mk.injEq] at e
          obtain ⟨rfl, rfl⟩ := e
          exact Snap.refl hra
        rintro f2 vs Γ ⟨all2, row2, k, rfl, hkf2, hW2, hJ2, hfrom, hdone⟩
        simp -implicitDefEqProofs only [S114_4, go_sem, Nat.reduceBEq, Nat.reduceAdd, Nat.reduceSub, Nat.reduceMul, Nat.reduceLeDiff, reduceCtorEq, ↓reduceIte, Int.reduceLT, Int.reduceLE, Int.reduceEq, Int.reduceNe]
        refine ⟨fun hlt => ?_, fun hge => ?_⟩
        · refine s_split ?_
          simp -implicitDefEqProofs only [S114_2, S114_3, go_sem, Nat.reduceBEq, Nat.reduceAdd, Nat.reduceSub, Nat.reduceMul, Nat.reduceLeDiff, reduceCtorEq, ↓reduceIte, Int.reduceLT, Int.reduceLE, Int.reduceEq, Int.reduceNe]
          have hk : k < all.length := by omega
          have hslG : SlOk (lk Γ) Aa caa all := by
            obtain ⟨hm, ca, ra, cr, rr, cm, cn, va, vr, rfl, _, _, _, _, _, _, _, _, hsn2⟩ := hW2
            obtain ⟨A', c', e, h⟩ := (hsn2 _ _ rfl).old.slok (L' := lk [hm, ca, ra, cr, rr, cm, g9, cn]) (lk_sub (by simp)) (lk_sub (by simp)) (by omega)
            simp only [Value.slice.injEq, true_and] at e
            obtain ⟨rfl, rfl⟩ := e
            exact h
          obtain ⟨b9, o9, hA9', cs9, hok9, hc9⟩ := hslG.get hk
          have hcs9 : cs9 = [.int .i64 all[k].r, .int .i64 all[k].d, .int .i64 all[k].n] := hok9
          subst hcs9
          refine s_idx hA9' (by omega) (by omega) ?_
          simp -implicitDefEqProofs only [go_sem, Nat.reduceBEq, Nat.reduceAdd, Nat.reduceSub, Nat.reduceMul, Nat.reduceLeDiff, reduceCtorEq, ↓reduceIte, Int.reduceLT, Int.reduceLE, Int.reduceEq, Int.reduceNe]
          refine s_ld0 (hc9 _ (lk_l _ _)) (by simp) (by simp) ?_
          simp -implicitDefEqProofs only [go_sem, Nat.reduceBEq, Nat.reduceAdd, Nat.reduceSub, Nat.reduceMul, Nat.reduceLeDiff, reduceCtorEq, ↓reduceIte, Int.reduceLT, Int.reduceLE, Int.reduceEq, Int.reduceNe]
          intro b11
          obtain ⟨hy1, hy2, hy3, hy4, q, hyq, hyd, hyl⟩ := hI.snd _ (List.getElem_mem hk)
          have hstep : ∀ all3 : List It, (∀ z ∈ all2, z ∈ all3) → (∀ q, g.rs[all[k].r.toNat]? = some q → ∀ s, q.r[all[k].d.toNat]? = some s → s.t = false → s.n = sn → all[k].n + ni ≤ n → (⟨all[k].r, all[k].d + 1, all[k].n + ni⟩ : It) ∈ all3) →
              ∀ (j : Nat) (hj : j < all.length), j < k + 1 → ∀ q, g.rs[all[j].r.toNat]? = some q → ∀ s, q.r[all[j].d.toNat]? = some s → s.t = false → s.n = sn → all[j].n + ni ≤ n → (⟨all[j].r, all[j].d + 1, all[j].n + ni⟩ : It) ∈ all3 := by
            intro all3 h1 h2 j hj hjk
            by_cases e : j = k
            · subst e; exact h2
            · intro q' a1 s a2 a3 a4 a5; exact h1 _ (hdone j hj (by omega) q' a1 s a2 a3 a4 a5)
          generalize all[k] = y at *
          obtain ⟨yr, hyr⟩ : ∃ m : Nat, y.r = m := ⟨y.r.toNat, by omega⟩
          obtain ⟨yd, hydd⟩ : ∃ m : Nat, y.d = m := ⟨y.d.toNat, by omega⟩
          obtain ⟨yn, hyn⟩ : ∃ m : Nat, y.n = m := ⟨y.n.toNat, by omega⟩
          rw [hyr, Int.toNat_natCast] at hyq
          rw [hydd, Int.toNat_natCast] at hyd hyl
          rw [hyn, Int.toNat_natCast] at hyl
          rw [hyr, hydd, hyn] at hstep
          simp only [Int.toNat_natCast] at hstep
          have hyrg : yr < g.rs.length := (List.getElem?_eq_some_iff.1 hyq).1
          have hqe : g.rs[yr] = q := (List.getElem?_eq_some_iff.1 hyq).2
          have hqm : q ∈ g.rs := List.mem_of_getElem? hyq
          have hq4 := V.right q hqm
          obtain ⟨b12, o12, hA12, A12, c12, hr12, hc12⟩ := hx.ru hyrg
          rw [hqe] at hr12 hc12
          rw [hyr, hydd, hyn]
          refine s_idx hA12 (by omega) (by omega) ?_
          simp -implicitDefEqProofs only [go_sem, Nat.reduceBEq, Nat.reduceAdd, Nat.reduceSub, Nat.reduceMul, Nat.reduceLeDiff, reduceCtorEq, ↓reduceIte, Int.reduceLT, Int.reduceLE, Int.reduceEq, Int.reduceNe]
          refine s_ld (j := 1) (hc12 _ (lk_r _ _)) (by simp) (by simp) ?_
          simp -implicitDefEqProofs only [go_sem, Nat.reduceBEq, Nat.reduceAdd, Nat.reduceSub, Nat.reduceMul, Nat.reduceLeDiff, reduceCtorEq, ↓reduceIte, Int.reduceLT, Int.reduceLE, Int.reduceEq, Int.reduceNe]
          by_cases hlt2 : yd < q.r.length
          · have e1 : decide ((yd : Int) < (q.r.length : Int)) = true := by simpa using hlt2
            simp only [e1]
            simp -implicitDefEqProofs only [go_sem, Nat.reduceBEq, Nat.reduceAdd, Nat.reduceSub, Nat.reduceMul, Nat.reduceLeDiff, reduceCtorEq, ↓reduceIte, Int.reduceLT, Int.reduceLE, Int.reduceEq, Int.reduceNe]
            obtain ⟨b13, o13, hA13, hc13⟩ := hr12.sy hlt2
            refine s_idx hA13 (by omega) (by omega) ?_
            simp -implicitDefEqProofs only [go_sem, Nat.reduceBEq, Nat.reduceAdd, Nat.reduceSub, Nat.reduceMul, Nat.reduceLeDiff, reduceCtorEq, ↓reduceIte, Int.reduceLT, Int.reduceLE, Int.reduceEq, Int.reduceNe]
            refine s_ld0 (hc13 _ (lk_r _ _)) (by simp) (by simp) ?_
            cases ht : q.r[yd].t with
            | true =>
              simp -implicitDefEqProofs only [go_sem, Nat.reduceBEq, Nat.reduceAdd, Nat.reduceSub, Nat.reduceMul, Nat.reduceLeDiff, reduceCtorEq, ↓reduceIte, Int.reduceLT, Int.reduceLE, Int.reduceEq, Int.reduceNe]
              refine s_idxg (b := 0) (o := 0) (by simp) ?_
              simp -implicitDefEqProofs only [go_sem, Nat.reduceBEq, Nat.reduceAdd, Nat.reduceSub, Nat.reduceMul, Nat.reduceLeDiff, reduceCtorEq, ↓reduceIte, Int.reduceLT, Int.reduceLE, Int.reduceEq, Int.reduceNe]
              refine s_ldg0 (cs := [.int .i64 0]) (by simp) (by simp) (by simp) (by simp) ?_
              simp -implicitDefEqProofs only [go_sem, Nat.reduceBEq, Nat.reduceAdd, Nat.reduceSub, Nat.reduceMul, Nat.reduceLeDiff, reduceCtorEq, ↓reduceIte, Int.reduceLT, Int.reduceLE, Int.reduceEq, Int.reduceNe]
              simp (disch := omega) only [wrap_id]
              refine Up.here ⟨f2 - 1, by omega, Up.here ⟨all2, row2, k + 1, rfl, by omega, hW2, hJ2, hfrom, hstep all2 (fun z hz => hz) fun q' hq' s hs1 hs2 hs3 => ?_⟩⟩
              rw [hyq] at hq'
              cases hq'
              rw [List.getElem?_eq_getElem hlt2] at hs1
              cases hs1
              rw [ht] at hs2
              cases hs2
            | false =>
              simp -implicitDefEqProofs only [go_sem, Nat.reduceBEq, Nat.reduceAdd, Nat.reduceSub, Nat.reduceMul, Nat.reduceLeDiff, reduceCtorEq, ↓reduceIte, Int.reduceLT, Int.reduceLE, Int.reduceEq, Int.reduceNe]
              refine s_idx hA13 (by omega) (by omega) ?_
              simp -implicitDefEqProofs only [go_sem, Nat.reduceBEq, Nat.reduceAdd, Nat.reduceSub, Nat.reduceMul, Nat.reduceLeDiff, reduceCtorEq, ↓reduceIte, Int.reduceLT, Int.reduceLE, Int.reduceEq, Int.reduceNe]
              refine s_ld (j := 1) (hc13 _ (lk_r _ _)) (by simp) (by simp) ?_
              simp -implicitDefEqProofs only [go_sem, Nat.reduceBEq, Nat.reduceAdd, Nat.reduceSub, Nat.reduceMul, Nat.reduceLeDiff, reduceCtorEq, ↓reduceIte, Int.reduceLT, Int.reduceLE, Int.reduceEq, Int.reduceNe]
              refine ⟨fun heq => ?_, fun hne => ?_⟩
              · have hb2 := hJ2.bound V
                have hl2 := hJ2.len
                simp (disch := omega) only [wrap_id]
                refine call_add hW2 ⟨yr, (yd : Int) + 1, (yn : Int) + ni⟩ ⟨rfl, fun z hz => ?_⟩ (by omega) (by omega) ?_
                · simp at hz
                  rcases hz with rfl | rfl | rfl <;> exact wf64 (by omega) (by omega)
                · intro v Γ' hW'
                  have hadd := hJ2.add (y := ⟨yr, (yd : Int) + 1, (yn : Int) + ni⟩) (fun hle => by
                    refine ⟨by simp, by simp; omega, by simp; omega, hle, q, by simpa using hyq, by simp; omega, ?_⟩
                    have := hyl.snocN (a := q.r[yd].n) (j := ni) (by rw [heq, ← hsn]; exact hhas)
                    have e : q.r[yd] = ⟨false, q.r[yd].n⟩ := by rw [← ht]
                    rw [← e, ← List.take_succ_eq_append_getElem hlt2] at this
                    rw [show ((yn : Int) + ni).toNat = yn + ni by omega]
                    simpa using this)
                  simp -implicitDefEqProofs only [go_sem, Nat.reduceBEq, Nat.reduceAdd, Nat.reduceSub, Nat.reduceMul, Nat.reduceLeDiff, reduceCtorEq, ↓reduceIte, Int.reduceLT, Int.reduceLE, Int.reduceEq, Int.reduceNe]
                  refine Up.here ⟨f2 - 1, by omega, Up.here ⟨_, _, k + 1, rfl, by omega, hW', hadd, fun z hz => ?_, hstep _ addA_sub fun q' hq' s hs1 hs2 hs3 hle => addA_in hle⟩⟩
                  unfold addA at hz
                  by_cases hc : (yn : Int) + ni ≤ n ∧ (⟨yr, (yd : Int) + 1, (yn : Int) + ni⟩ : It) ∉ all2
                  · rw [if_pos hc] at hz ⊢
                    rcases List.mem_append.1 hz with hz | hz
                    · rcases hfrom z hz with q1 | q1
                      · exact .inl q1
                      · exact .inr (by simp [q1])
                    · exact .inr (by simp at hz; simp [hz])
                  · rw [if_neg hc] at hz ⊢
                    exact hfrom z hz
              · simp (disch := omega) only [wrap_id]
                refine Up.here ⟨f2 - 1, by omega, Up.here ⟨all2, row2, k + 1, rfl, by omega, hW2, hJ2, hfrom, hstep all2 (fun z hz => hz) fun q' hq' s hs1 hs2 hs3 => ?_⟩⟩
                rw [hyq] at hq'
                cases hq'
                rw [List.getElem?_eq_getElem hlt2] at hs1
                cases hs1
                exact absurd hs3 hne
          · have e1 : decide ((yd : Int) < (q.r.length : Int)) = false := by simpa using hlt2
            simp only [e1]
            simp -implicitDefEqProofs only [go_sem, Nat.reduceBEq, Nat.reduceAdd, Nat.reduceSub, Nat.reduceMul, Nat.reduceLeDiff, reduceCtorEq, ↓reduceIte, Int.reduceLT, Int.reduceLE, Int.reduceEq, Int.reduceNe]
            refine s_idxg (b := 0) (o := 0) (by simp) ?_
            simp -implicitDefEqProofs only [go_sem, Nat.reduceBEq, Nat.reduceAdd, Nat.reduceSub, Nat.reduceMul, Nat.reduceLeDiff, reduceCtorEq, ↓reduceIte, Int.reduceLT, Int.reduceLE, Int.reduceEq, Int.reduceNe]
            refine s_ldg0 (cs := [.bool false]) (by simp) (by simp) (by simp) (by simp) ?_
            simp -implicitDefEqProofs only [go_sem, Nat.reduceBEq, Nat.reduceAdd, Nat.reduceSub, Nat.reduceMul, Nat.reduceLeDiff, reduceCtorEq, ↓reduceIte, Int.reduceLT, Int.reduceLE, Int.reduceEq, Int.reduceNe]
            refine s_idxg (b := 0) (o := 0) (by simp) ?_
            simp -implicitDefEqProofs only [go_sem, Nat.reduceBEq, Nat.reduceAdd, Nat.reduceSub, Nat.reduceMul, Nat.reduceLeDiff, reduceCtorEq, ↓reduceIte, Int.reduceLT, Int.reduceLE, Int.reduceEq, Int.reduceNe]
            refine s_ldg0 (cs := [.int .i64 0]) (by simp) (by simp) (by simp) (by simp) ?_
            simp -implicitDefEqProofs only [go_sem, Nat.reduceBEq, Nat.reduceAdd, Nat.reduceSub, Nat.reduceMul, Nat.reduceLeDiff, reduceCtorEq, ↓reduceIte, Int.reduceLT, Int.reduceLE, Int.reduceEq, Int.reduceNe]
            simp (disch := omega) only [wrap_id]
            refine Up.here ⟨f2 - 1, by omega, Up.here ⟨all2, row2, k + 1, rfl, by omega, hW2, hJ2, hfrom, hstep all2 (fun z hz => hz) fun q' hq' s hs1 hs2 hs3 => ?_⟩⟩
            rw [hyq] at hq'
            cases hq'
            rw [List.getElem?_eq_none (by omega)] at hs1
            cases hs1
        · have hk : k = all.length := by omega
          have hl2 := hJ2.len
          have hW3 : WS none pn pm pa pr bm b3 n g9 all2 row2 (rows.set sn (rows[sn].set ni true)) Γ := by
            obtain ⟨hm, ca, ra, cr, rr, cm, cn, va, vr, q1, q2, q3, q4, q5, q6, q7, q8, q9, _⟩ := hW2
            exact ⟨hm, ca, ra, cr, rr, cm, cn, va, vr, q1, q2, q3, q4, q5, q6, q7, q8, q9, by intro _ _ h; cases h⟩
          have htold : ∀ b j, toldL (rows.set sn (rows[sn].set ni true)) b j → toldL rows b j ∨ (b.toNat = sn ∧ j = ni) := by
            intro b j h
            by_cases e : b.toNat = sn ∧ j = ni
            · exact .inr e
            · refine .inl ?_
              unfold toldL at h ⊢
              by_cases e1 : sn = b.toNat
              · subst e1
                have e2 : ¬ ni = j := fun q => e ⟨rfl, q.symm⟩
                simpa [List.getD_eq_getElem?_getD, hsa, List.getElem?_set, e2] using h
              · simpa [List.getD_eq_getElem?_getD, List.getElem?_set, e1] using h
          have hup : ∀ b j, toldL rows b j → toldL (rows.set sn (rows[sn].set ni true)) b j := by
            intro b j h
            unfold toldL at h ⊢
            by_cases e1 : sn = b.toNat
            · subst e1
              by_cases e2 : ni = j
              · subst e2
                simp [hsa, hni1]
              · simpa [List.getD_eq_getElem?_getD, hsa, List.getElem?_set, e2] using h
            · simpa [List.getD_eq_getElem?_getD, List.getElem?_set, e1] using h
          refine Up.here ⟨f - 1, by omega, Up.here ⟨all2, row2, _, g9, by omega, hW3, hJ2.nodup, hJ2.snd, hJ2.rin, by omega, hJ2.init, sound_set hI.told hsa (by rw [← hsn]; exact hhas), by simpa using hI.dim, fun z hz => ?_, fun y hy => ?_⟩⟩
          · rcases List.mem_or_eq_of_mem_set hz with h | h
            · exact hI.wide z h
            · rw [h]; simpa using hwd
          · rcases hJ2.cl y hy with q | q | q
            · exact .inl q
            · refine .inr fun r' hr' => ?_
              have er : r' = r := by rw [q, hri] at hr'; simpa [hxr] using hr'.symm
              subst er
              rw [q, hdi, hni]
              simp only [Int.toNat_natCast]
              refine ⟨fun _ => ?_, fun s hs => ?_⟩
              · simp [toldL, hsn, hsa, hni1]
              · rw [List.getElem?_eq_none (by omega)] at hs
                cases hs
            · rcases hfrom y hy with hya | hya
              · refine .inr fun r' hr' => ⟨fun h => hup _ _ ((q r' hr').1 h), fun s hs => ⟨((q r' hr').2 s hs).1, fun h1 k' h2 h3 => ?_⟩⟩
                rcases htold _ _ h2 with h4 | ⟨h4, rfl⟩
                · exact ((q r' hr').2 s hs).2 h1 k' h4 h3
                · obtain ⟨j, hj, rfl⟩ := List.getElem_of_mem hya
                  have hs0 := (V.sym r' (List.mem_of_getElem? hr') s (List.mem_of_getElem? hs)).1
                  exact hdone j hj (by omega) r' hr' s hs h1 (by omega) h3
              · exact .inl hya
      · refine Up.here ⟨f - 1, by omega, Up.here ⟨all, row', rows, gg, by omega, hW1, hJ.done fun r' hr' => ?_⟩⟩
        have er : r' = r := by rw [hri] at hr'; simpa [hxr] using hr'.symm
        subst er
        rw [hdi, hni]
        simp only [Int.toNat_natCast]
        refine ⟨fun _ => ?_, fun s hs => ?_⟩
        · simp [toldL, hsn, hsa, hni1, hyes]
        · rw [List.getElem?_eq_none (by omega)] at hs
          cases hs
    · have hdl : di < r.r.length := by omega
      obtain ⟨b9, o9, hA9, hc9⟩ := hr8.sy hdl
      refine s_idx hA9 (by omega) (by omega) ?_
      simp -implicitDefEqProofs only [go_sem, Nat.reduceBEq, Nat.reduceAdd, Nat.reduceSub, Nat.reduceMul, Nat.reduceLeDiff, reduceCtorEq, ↓reduceIte, Int.reduceLT, Int.reduceLE, Int.reduceEq, Int.reduceNe]
      refine s_ld0 (hc9 _ (lk_r _ _)) (by simp) (by simp) ?_
      simp -implicitDefEqProofs only [go_sem, Nat.reduceBEq, Nat.reduceAdd, Nat.reduceSub, Nat.reduceMul, Nat.reduceLeDiff, reduceCtorEq, ↓reduceIte, Int.reduceLT, Int.reduceLE, Int.reduceEq, Int.reduceNe]
      have hlr := hI.len
      simp only [List.length_cons] at hlr hf
      have hJ : WJ g n a (all.length - row'.length) x all row' rows := ⟨hI.nodup, hI.snd, fun z hz => hI.rin z (by simp [hz]), by omega, hI.init, hI.told, hI.dim, hI.wide, fun z hz => by
        rcases hI.cl z hz with q | q
        · simp at q
          rcases q with rfl | q
          · exact .inr (.inl rfl)
          · exact .inl q
        · exact .inr (.inr q)⟩
      have hrm : r ∈ g.rs := List.mem_of_getElem? hxr
      have hr4 := V.right r hrm
      intro b10
      simp (disch := omega) only [wrap_id]
      refine ⟨fun ht => ?_, fun ht => ?_⟩
      · refine call_add hW1 ⟨ri, di + 1, ni + 1⟩ ⟨rfl, fun z hz => ?_⟩ (by omega) (by omega) ?_
        · simp at hz
          rcases hz with rfl | rfl | rfl <;> exact wf64 (by omega) (by omega)
        · intro v Γ' hW'
          have hadd := hJ.add (y := ⟨ri, di + 1, ni + 1⟩) (fun hle => by
            refine ⟨by simp, by simp; omega, by simp; omega, hle, r, by simpa using hxr, by simp; omega, ?_⟩
            have := hxl.snocT (n := r.r[di].n)
            have e : r.r[di] = ⟨true, r.r[di].n⟩ := by rw [← ht]
            rw [← e, ← List.take_succ_eq_append_getElem hdl] at this
            simpa using this)
          have hal := hadd.len
          simp -implicitDefEqProofs only [go_sem, Nat.reduceBEq, Nat.reduceAdd, Nat.reduceSub, Nat.reduceMul, Nat.reduceLeDiff, reduceCtorEq, ↓reduceIte, Int.reduceLT, Int.reduceLE, Int.reduceEq, Int.reduceNe]
          refine ⟨f - 1, by omega, Up.here ⟨_, _, rows, gg, ?_, hW', hadd.done fun r' hr' => ?_⟩⟩
          · show f - 1 + ((addA n all _).length - (addR n all row' _).length) = _
            omega
          · have er : r' = r := by rw [hri] at hr'; simpa [hxr] using hr'.symm
            subst er
            rw [hdi, Int.toNat_natCast]
            refine ⟨fun q => by omega, fun s hs => ?_⟩
            have es : s = r'.r[di] := by rw [List.getElem?_eq_getElem hdl] at hs; simpa using hs.symm
            subst es
            refine ⟨fun _ hle => ?_, fun q => by rw [ht] at q; cases q⟩
            rw [hri, hdi, hni] at *
            exact addA_in (by simpa using hle)
      · have hsy := V.sym r hrm r.r[di] (List.getElem_mem hdl)
        obtain ⟨sn, hsn⟩ : ∃ sn : Nat, r.r[di].n = sn := ⟨r.r[di].n.toNat, by omega⟩
        have hsa : sn < rows.length := by have := hsy.2.2 ht; rw [hI.dim]; omega
        rw [hsn]
        have hwd : rows[sn].length = n + 1 := hI.wide _ (List.getElem_mem hsa)
        obtain ⟨kb, hcell, hArr, _⟩ := hG.at' hsa (by omega)
        have hggin : ∀ {al rw' Γ}, WS none pn pm pa pr bm b3 n gg al rw' rows Γ → gg ∈ Γ := fun h => by
          obtain ⟨hm, ca, ra, cr, rr, cm, cn, va, vr, rfl, _⟩ := h
          simp
        refine s_idx rfl (by omega) (by have := hI.dim; omega) ?_
        simp -implicitDefEqProofs only [go_sem, Nat.reduceBEq, Nat.reduceAdd, Nat.reduceSub, Nat.reduceMul, Nat.reduceLeDiff, reduceCtorEq, ↓reduceIte, Int.reduceLT, Int.reduceLE, Int.reduceEq, Int.reduceNe]
        refine s_ld0 (hcell _ (by simp [hggin hW1])) (by simp) (by simp) ?_
        simp -implicitDefEqProofs only [go_sem, Nat.reduceBEq, Nat.reduceAdd, Nat.reduceSub, Nat.reduceMul, Nat.reduceLeDiff, reduceCtorEq, ↓reduceIte, Int.reduceLT, Int.reduceLE, Int.reduceEq, Int.reduceNe]
        refine s_loop (fun f2 vs Γ => ∃ (all2 row2 : List It) (k : Nat), vs = [.v true (.int .i64 k)] ∧ k + f2 = n + 1 ∧ WS none pn pm pa pr bm b3 n gg all2 row2 rows Γ ∧ WJ g n a (all.length - row'.length) x all2 row2 rows ∧
          (∀ k' : Nat, k' < k → toldL rows sn k' → (ni : Int) + k' ≤ n → (⟨ri, di + 1, (ni : Int) + k'⟩ : It) ∈ all2)) (n + 1) (Up.here ⟨all, row', 0, rfl, by omega, hW1, hJ, by intro k' h; omega⟩) ?_
        rintro f2 vs Γ ⟨all2, row2, k, rfl, hkf2, hW2, hJ2, hdone⟩
        simp -implicitDefEqProofs only [S114_9, go_sem, Nat.reduceBEq, Nat.reduceAdd, Nat.reduceSub, Nat.reduceMul, Nat.reduceLeDiff, reduceCtorEq, ↓reduceIte, Int.reduceLT, Int.reduceLE, Int.reduceEq, Int.reduceNe]
        refine ⟨fun hlt => ?_, fun hge => ?_⟩
        · refine s_split ?_
          simp -implicitDefEqProofs only [S114_7, S114_8, go_sem, Nat.reduceBEq, Nat.reduceAdd, Nat.reduceSub, Nat.reduceMul, Nat.reduceLeDiff, reduceCtorEq, ↓reduceIte, Int.reduceLT, Int.reduceLE, Int.reduceEq, Int.reduceNe]
          refine s_idx rfl (by omega) (by omega) ?_
          simp -implicitDefEqProofs only [go_sem, Nat.reduceBEq, Nat.reduceAdd, Nat.reduceSub, Nat.reduceMul, Nat.reduceLeDiff, reduceCtorEq, ↓reduceIte, Int.reduceLT, Int.reduceLE, Int.reduceEq, Int.reduceNe]
          have hkr : k < rows[sn].length := by omega
          refine s_ld0 (hArr.bool hkr (by simp [hggin hW2])) (by simp) (by simp) ?_
          simp -implicitDefEqProofs only [go_sem, Nat.reduceBEq, Nat.reduceAdd, Nat.reduceSub, Nat.reduceMul, Nat.reduceLeDiff, reduceCtorEq, ↓reduceIte, Int.reduceLT, Int.reduceLE, Int.reduceEq, Int.reduceNe]
          simp (disch := omega) only [wrap_id]
          refine ⟨fun htl => ?_, fun htl => ?_⟩
          · have hb2 := hJ2.bound V
            have hl2 := hJ2.len
            refine call_add hW2 ⟨ri, di + 1, (ni : Int) + k⟩ ⟨rfl, fun z hz => ?_⟩ (by omega) (by omega) ?_
            · simp at hz
              rcases hz with rfl | rfl | rfl <;> exact wf64 (by omega) (by omega)
            · intro v Γ' hW'
              have hadd := hJ2.add (y := ⟨ri, di + 1, (ni : Int) + k⟩) (fun hle => by
                refine ⟨by simp, by simp; omega, by simp; omega, hle, r, by simpa using hxr, by simp; omega, ?_⟩
                have := hxl.snocN (a := r.r[di].n) (j := k) (by rw [hsn]; exact hJ2.told sn k (by simp [hsa, hkr, htl]))
                have e : r.r[di] = ⟨false, r.r[di].n⟩ := by rw [← ht]
                rw [← e, ← List.take_succ_eq_append_getElem hdl] at this
                rw [show ((ni : Int) + k).toNat = ni + k by omega]
                simpa using this)
              simp -implicitDefEqProofs only [go_sem, Nat.reduceBEq, Nat.reduceAdd, Nat.reduceSub, Nat.reduceMul, Nat.reduceLeDiff, reduceCtorEq, ↓reduceIte, Int.reduceLT, Int.reduceLE, Int.reduceEq, Int.reduceNe]
              refine Up.here ⟨f2 - 1, by omega, Up.here ⟨_, _, k + 1, rfl, by omega, hW', hadd, fun k' hk' ht' hle => ?_⟩⟩
              by_cases e : k' = k
              · subst e
                exact addA_in hle
              · exact addA_sub _ (hdone k' (by omega) ht' hle)
          · refine Up.here ⟨f2 - 1, by omega, Up.here ⟨all2, row2, k + 1, rfl, by omega, hW2, hJ2, fun k' hk' ht' hle => ?_⟩⟩
            by_cases e : k' = k
            · subst e
              simp [toldL, hsa, hkr, htl] at ht'
            · exact hdone k' (by omega) ht' hle
        · have hl2 := hJ2.len
          refine ⟨f - 1, by omega, Up.here ⟨all2, row2, rows, gg, by omega, hW2, hJ2.done fun r' hr' => ?_⟩⟩
          have er : r' = r := by rw [hri] at hr'; simpa [hxr] using hr'.symm
          subst er
          rw [hdi, Int.toNat_natCast]
          refine ⟨fun q => by omega, fun s hs => ?_⟩
          have es : s = r'.r[di] := by rw [List.getElem?_eq_getElem hdl] at hs; simpa using hs.symm
          subst es
          refine ⟨fun q => (by rw [ht] at q; cases q), fun _ k' htl hle => ?_⟩
          rw [hsn] at htl
          rw [hri, hni] at *
          refine hdone k' ?_ htl hle
          rcases Nat.lt_or_ge k' k with q | q
          · exact q
          · have hk1 : k' < n + 1 := by omega
            omega
  · have hrow : row = [] := List.eq_nil_of_length_eq_zero (by omega)
    subst hrow
    have hcl : ∀ x ∈ all, ItC g n rows all x := fun x hx => (hI.cl x hx).resolve_left (by simp)
    refine Up.sel [[6]] (by decide) fun _ _ => ?_
    subst hR
    have hag : g.ns.toNat = a := by omega
    rw [hag]
    refine ⟨_, b3, rows, rfl, rfl, hI.dim, hG, fun b hb => ?_⟩
    have hw := hI.wide _ (List.getElem_mem hb)
    rw [show rows.getD b [] = rows[b] by simp [hb]]
    refine ⟨hw, fun m hm => ⟨fun h => hI.told b m (by simp [hb, hm, h]), fun h => ?_⟩⟩
    have := work_told hI.init hcl (a := (b : Int)) (k := m) (by omega) h
    simpa [toldL, hb, hm] using this
end Go.Proofs.Ytniobbepliknmaa.V
