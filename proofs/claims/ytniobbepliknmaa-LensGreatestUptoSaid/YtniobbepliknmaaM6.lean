/- Texts put together, in the order in which they build; each says what it proves; no condition. -/
import Derived.Test.YtniobbepliknmaaM4
import Derived.Test.YtniobbepliknmaaM5
import Derived.Test.YtniobbepliknmaaM2
import Derived.Test.YtniobbepliknmaaProg
import Derived.Test.YtniobbepliknmaaM3
/- Lengths of words, item by item: parlref5.lengthsOf walked; no condition. -/
namespace Go.Proofs.Ytniobbepliknmaa.V
open Go
set_option linter.unusedVariables false
set_option linter.unusedSimpArgs false
attribute [local go_sem] e_seq e_region e_quiet e_join e_loop e_cond e_block e_exit e_ret e_skip e_fin e_kseq e_snrm e_sret e_sex e_bnrm e_bret e_bex e_rnrm e_rret e_res e_condC e_nil e_g e_mv g_mv e_pick g_pick pickC_eq e_ibin g_ibin ibinC_eq e_sbin g_sbin e_beq g_beq beqC_eq e_nilq g_nilq nilqC_sl nilqC_pt nilqC_mp e_un g_un unC_not unC_neg e_conv g_conv convC_eq e_fld g_fld fldC_ref fldC_ptr e_nilCheck g_nilCheck nilCheckC_ref nilCheckC_ptr nilCheckC_fun e_field g_field fieldC_eq e_len g_len lenC_sl lenC_str e_extract g_extract extractC_eq e_mkFunc e_build g_build e_idiv g_idiv idivC_eq e_ishift g_ishift ishiftC_eq e_idx g_idx e_idxA g_idxA e_load g_load loadC_ref loadC_ptr loadB_eq e_slc g_slc e_box boxC_loc boxC_esc e_alloc allocC_loc allocC_esc e_buildS e_store storeC_ref storeC_ptr storeB_eq e_append e_appz e_mk mkC_eq e_call callC_eq e_fn g_fn fnC_eq fnV_min' fnV_max' fnV_rune' e_q g_q e_a e_n g_call g_box g_alloc g_buildS g_store g_append g_mk g_a g_n g_dead e_dead e_callK e_drawn e_tree e_finJ e_tk e_tfin e_tno e_nbt_q e_nbt_qn e_nbt_a e_nbt_an e_nbt_fin e_early_nil e_early_t e_early_f e_nob_nil e_nob_none e_nob_some isBox_dead isBox_v isBox_ref e_dnil e_dk e_ek e_finB vcOps_vc1 e_dcons e_tq e_ekt e_tearly e_talt e_dearly look_nil look_c proj_nil proj_c looks_nil looks_c zip_nil zip_c val_tmp val_const val_func slv_v slv_box slv_ref slot_tmp slot_const slot_func slotL_v slotL_box slotL_ref put_some put_none updBox_c boxSet_box gd_eq slotVals_nil slotVals_c slotVals_b boxV_box boxOn_box slotsOn_nil slotsOn_c slotsOn_b resV_one resV_two vals_nil vals_c allOn_nil allOn_c partOn_nil partOn_c partVals_nil partVals_c fits_nil fits_c fillL_nil fillL_c mkv_one mkv_agg cellsV_agg cellsV_int cellsV_bool cellsV_slice cellsV_string cellsV_pointer cellsV_func cellsV_nilf cellsV_map one'_nil one'_c oc_int oc_bool oc_slice oc_string oc_pointer oc_func oc_nilf oc_map setC_eq iv_add iv_sub iv_mul iv_eql iv_neq iv_lss iv_leq iv_gtr iv_geq iok_add iok_sub iok_mul iok_eql iok_neq iok_lss iok_leq iok_gtr iok_geq pickV_bool args0_nil args0_c bnd_none bnd_some imp_bt imp_bf imp_ebt imp_ebf imp_eb1 imp_np imp_pp beq_tt beq_tf beq_ft beq_ff cond_or cond_and e_round e_meet Int.le_refl Int.toNat_zero decide_true decide_false Bool.or_false Bool.false_or Bool.true_or Bool.or_true Bool.and_false Bool.false_and Bool.bne_false Bool.bne_true beq_iff_eq Int.cast_ofNat_Int not_false_eq_true not_true_eq_false false_and and_false false_implies true_implies true_and and_true Bool.true_and Bool.and_true Bool.not_true Bool.not_false forall_const implies_true List.take_zero List.drop_zero List.take_succ_cons List.drop_succ_cons List.take_nil List.drop_nil List.length_cons List.length_nil List.nil_append List.append_nil List.cons_append Int.toNat_natCast decide_eq_true_eq decide_eq_false_iff_not cond_true cond_false and_self List.getElem?_cons_zero List.getElem?_cons_succ List.set_cons_zero List.set_cons_succ Option.some.injEq exists_eq_left' Nat.zero_add Nat.add_zero Nat.mul_one imp_self true_or or_true or_false false_or Bool.or_eq_true Bool.or_eq_false_iff Bool.and_eq_true Bool.and_eq_false_iff Bool.not_eq_true' Bool.not_eq_false'

/-- what all was earlier -/
def SnapO (S : Option (Value × List It)) (ra : PH) (va : Value) (all : List It) : Prop := ∀ v0 xs0, S = some (v0, xs0) → Snap ra (lk []) 223 v0 va xs0 all
/-- where the work list, what was seen and what is told lie -/
def WS (S : Option (Value × List It)) (pn pm pa pr bm b3 n : Nat) (gg : PH) (all row : List It) (rows : List (List Bool)) (Γ : Ctx) : Prop := ∃ hm ca ra cr rr cm cn va vr, Γ = [hm, ca, ra, cr, rr, cm, gg, cn] ∧
  MapM hm bm itK Value.bool okIt (mset id all) ∧ ca pa = some (.cells [va].toArray 221 (0, 0)) ∧ Bld ra (lk []) 223 va all ∧ cr pr = some (.cells [vr].toArray 221 (0, 0)) ∧ Bld rr (lk []) 223 vr row ∧
  cm pm = some (.cells [.map (some bm)].toArray 220 (0, 0)) ∧ Grid gg b3 22 4 rows ∧ cn pn = some (.cells [.int .i64 n].toArray 3 (0, 0)) ∧ SnapO S ra va all
/-- what holds of the work list -/
structure WI (g : Gr) (n a : Nat) (all row : List It) (rows : List (List Bool)) : Prop where
  nodup : all.Nodup
  snd : ∀ x ∈ all, ItS g n x
  rin : ∀ x ∈ row, x ∈ all
  len : row.length ≤ all.length
  init : ∀ i : Nat, i < g.rs.length → (⟨i, 0, 0⟩ : It) ∈ all
  told : SoundL g rows
  dim : rows.length = a
  wide : ∀ x ∈ rows, x.length = n + 1
  cl : ∀ x ∈ all, x ∈ row ∨ ItC g n rows all x
theorem WI.bound {g : Gr} {n a : Nat} {all row : List It} {rows : List (List Bool)} (V : VG g) (h : WI g n a all row rows) : all.length ≤ 160 * (n + 1) := by
  have hlen := V.len
  refine items_bound h.nodup fun x hx => ?_
  obtain ⟨h1, h2, h3, h4, r, h5, h6, h7⟩ := h.snd x hx
  have h8 := V.right r (List.mem_of_getElem? h5)
  have h9 := (List.getElem?_eq_some_iff.1 h5).1
  omega
/-- the same while an item is worked on: that one is exempt -/
structure WJ (g : Gr) (n a c : Nat) (x : It) (all row : List It) (rows : List (List Bool)) : Prop where
  nodup : all.Nodup
  snd : ∀ x ∈ all, ItS g n x
  rin : ∀ x ∈ row, x ∈ all
  len : all.length = row.length + c
  init : ∀ i : Nat, i < g.rs.length → (⟨i, 0, 0⟩ : It) ∈ all
  told : SoundL g rows
  dim : rows.length = a
  wide : ∀ x ∈ rows, x.length = n + 1
  cl : ∀ y ∈ all, y ∈ row ∨ y = x ∨ ItC g n rows all y
theorem WJ.bound {g : Gr} {n a c : Nat} {x : It} {all row : List It} {rows : List (List Bool)} (V : VG g) (h : WJ g n a c x all row rows) : all.length ≤ 160 * (n + 1) := by
  have hlen := V.len
  refine items_bound h.nodup fun x hx => ?_
  obtain ⟨h1, h2, h3, h4, r, h5, h6, h7⟩ := h.snd x hx
  have h8 := V.right r (List.mem_of_getElem? h5)
  have h9 := (List.getElem?_eq_some_iff.1 h5).1
  omega
theorem ItC.mono {g : Gr} {n : Nat} {rows : List (List Bool)} {all all' : List It} {x : It} (h : ItC g n rows all x) (hs : ∀ y ∈ all, y ∈ all') : ItC g n rows all' x := fun r hr =>
  ⟨(h r hr).1, fun s hs' => ⟨fun h1 h2 => hs _ (((h r hr).2 s hs').1 h1 h2), fun h1 k h2 h3 => hs _ (((h r hr).2 s hs').2 h1 k h2 h3)⟩⟩
def addA (n : Nat) (all : List It) (y : It) : List It := if y.n ≤ n ∧ y ∉ all then all ++ [y] else all
def addR (n : Nat) (all row : List It) (y : It) : List It := if y.n ≤ n ∧ y ∉ all then row ++ [y] else row
theorem addA_sub {n : Nat} {all : List It} {y : It} : ∀ z ∈ all, z ∈ addA n all y := fun z hz => by unfold addA; split <;> simp [hz]
theorem addA_in {n : Nat} {all : List It} {y : It} (h : y.n ≤ n) : y ∈ addA n all y := by
  unfold addA
  by_cases hy : y ∈ all
  · rw [if_neg (by simp [hy])]; exact hy
  · rw [if_pos ⟨h, hy⟩]; simp
theorem WJ.add {g : Gr} {n a c : Nat} {x : It} {all row : List It} {rows : List (List Bool)} (h : WJ g n a c x all row rows) {y : It} (hy : y.n ≤ n → ItS g n y) : WJ g n a c x (addA n all y) (addR n all row y) rows := by
  have hsub := addA_sub (n := n) (all := all) (y := y)
  by_cases hc : y.n ≤ n ∧ y ∉ all
  · have e1 : addA n all y = all ++ [y] := if_pos hc
    have e2 : addR n all row y = row ++ [y] := if_pos hc
    rw [e1] at hsub
    rw [e1, e2]
    refine ⟨?_, ?_, ?_, by simp [h.len]; omega, fun i hi => hsub _ (h.init i hi), h.told, h.dim, h.wide, ?_⟩
    · rw [List.nodup_append]
      refine ⟨h.nodup, by simp, ?_⟩
      rintro z hz w hw rfl
      simp at hw
      subst hw
      exact hc.2 hz
    · intro z hz
      simp at hz
      rcases hz with hz | rfl
      · exact h.snd z hz
      · exact hy hc.1
    · intro z hz
      simp at hz ⊢
      rcases hz with hz | rfl
      · exact .inl (h.rin z hz)
      · exact .inr rfl
    · intro z hz
      simp at hz
      rcases hz with hz | rfl
      · rcases h.cl z hz with q | q | q
        · exact .inl (by simp [q])
        · exact .inr (.inl q)
        · exact .inr (.inr (q.mono hsub))
      · exact .inl (by simp)
  · have e1 : addA n all y = all := if_neg hc
    have e2 : addR n all row y = row := if_neg hc
    rw [e1, e2]
    exact h
/-- the item is done -/
theorem WJ.done {g : Gr} {n a c : Nat} {x : It} {all row : List It} {rows : List (List Bool)} (h : WJ g n a c x all row rows) (hx : ItC g n rows all x) : WI g n a all row rows :=
  ⟨h.nodup, h.snd, h.rin, by have := h.len; omega, h.init, h.told, h.dim, h.wide, fun y hy => by
    rcases h.cl y hy with q | rfl | q
    · exact .inl q
    · exact .inr hx
    · exact .inr q⟩
theorem call_add {Γr : Ctx} {S : Option (Value × List It)} {pn pm pa pr bm b3 n : Nat} {gg : PH} {all row : List It} {rows : List (List Bool)} {Γ : Ctx} {k : Value → Ctx → Prop} (h : WS S pn pm pa pr bm b3 n gg all row rows Γ) (x : It) (hx : okIt x) (hal : all.length ≤ 1000000) (hrl : row.length ≤ 1000000)
    (hk : ∀ v Γ', WS S pn pm pa pr bm b3 n gg (if x.n ≤ n ∧ x ∉ all then all ++ [x] else all) (if x.n ≤ n ∧ x ∉ all then row ++ [x] else row) rows Γ' → k v Γ') :
    CallVC Try.prog Γr 173 [.agg #[.int .i64 x.r, .int .i64 x.d, .int .i64 x.n], .pointer (some ⟨pn, 0, none⟩), .pointer (some ⟨pm, 0, none⟩), .pointer (some ⟨pa, 0, none⟩), .pointer (some ⟨pr, 0, none⟩)] Γ k := by
  obtain ⟨hm, ca, ra, cr, rr, cm, cn, va, vr, rfl, hM, hca, hra, hcr, hrr, hcm, hG, hcn, hsn⟩ := h
  refine CallVC.perm (Γm := [hm, ca, ra, cr, rr]) (Γf := [cm, gg, cn]) (lens_add (Γr := [cm, gg, cn] ++ Γr) x hx (n := n) ⟨cn, by simp, hcn⟩ ⟨cm, by simp, hcm⟩ hM hca hra hcr hrr hal hrl) (List.Perm.refl _) (List.Sublist.refl _) ?_
  rintro v Γ' ⟨hm', ca', ra', cr', rr', va', vr', rfl, h1, h2, h3, h4, h5, h6⟩
  exact hk _ _ ⟨hm', ca', ra', cr', rr', cm, cn, va', vr', rfl, h1, h2, h3, h4, h5, hcm, hG, hcn, fun v0 xs0 q => h6 v0 xs0 (hsn v0 xs0 q)⟩
theorem ref_lengths {Γr : Ctx} {g : Gr} {A : Option Addr} {c : Nat} (hx : SlOk (lk Γr) A c g.rs) (V : VG g) (n : Nat) (hn : n ≤ 400) :
    Ret Try.prog 114 [.agg #[.int .i64 g.ts, .int .i64 g.ns, .int .i64 g.st, .slice A g.rs.length c], .int .i64 n] Γr [] (fun v Γ => ∃ g' b rows, Γ = [g'] ∧ v = .slice (some ⟨b, 0, none⟩) g.ns.toNat g.ns.toNat ∧ rows.length = g.ns.toNat ∧ Grid g' b 22 4 rows ∧
      ∀ a : Nat, a < rows.length → Tells n (rows.getD a []) (HasD g a)) := by
  generalize hR : (fun (v : Value) (Γ : Ctx) => ∃ g' b rows, _) = R
  refine ret_of_vc tr114 (Nat.le_of_ble_eq_true rfl) ?_
  have hns := V.ns
  obtain ⟨a, ha⟩ : ∃ a : Nat, g.ns = a := ⟨g.ns.toNat, by omega⟩
  have ha10 : a ≤ 10 := by omega
  rw [ha]
  simp -implicitDefEqProofs only [S114, S114_0, go_sem, Nat.reduceBEq, Nat.reduceAdd, Nat.reduceSub, Nat.reduceMul, Nat.reduceLeDiff, reduceCtorEq, ↓reduceIte, Int.reduceLT, Int.reduceLE, Int.reduceEq, Int.reduceNe]
  intro b1 pn
  refine s_ld0 cells_one (by simp) (by simp) ?_
  simp -implicitDefEqProofs only [go_sem, Nat.reduceBEq, Nat.reduceAdd, Nat.reduceSub, Nat.reduceMul, Nat.reduceLeDiff, reduceCtorEq, ↓reduceIte, Int.reduceLT, Int.reduceLE, Int.reduceEq, Int.reduceNe]
  rw [wrap_id (x := (n : Int) + 1) (by omega) (by omega), show (n : Int) + 1 = ((n + 1 : Nat) : Int) by omega]
  refine CallVC.read (grid_bool a (n + 1) (by omega) (by omega)) ?_
  rintro v Γ' ⟨g1, b3, rfl, rfl, hG⟩
  simp -implicitDefEqProofs only [go_sem, Nat.reduceBEq, Nat.reduceAdd, Nat.reduceSub, Nat.reduceMul, Nat.reduceLeDiff, reduceCtorEq, ↓reduceIte, Int.reduceLT, Int.reduceLE, Int.reduceEq, Int.reduceNe]
  refine s_mkmap fun bm => ?_
  simp -implicitDefEqProofs only [go_sem, Nat.reduceBEq, Nat.reduceAdd, Nat.reduceSub, Nat.reduceMul, Nat.reduceLeDiff, reduceCtorEq, ↓reduceIte, Int.reduceLT, Int.reduceLE, Int.reduceEq, Int.reduceNe]
  intro pm
  refine s_storeV (ix := 0) rfl (one_self _ _) rfl rfl ?_
  simp -implicitDefEqProofs only [go_sem, Nat.reduceBEq, Nat.reduceAdd, Nat.reduceSub, Nat.reduceMul, Nat.reduceLeDiff, reduceCtorEq, ↓reduceIte, Int.reduceLT, Int.reduceLE, Int.reduceEq, Int.reduceNe]
  intro pa pr
  refine s_loop (fun f vs Γ => ∃ k : Nat, vs = [.v true (.int .i64 k)] ∧ k + f = g.rs.length ∧ ∃ (l : List It) (gg : PH), l = (List.range k).map (fun i : Nat => (⟨i, 0, 0⟩ : It)) ∧ WS none pn pm pa pr bm b3 n gg l l (List.replicate a (List.replicate (n + 1) false)) Γ) g.rs.length
    (Up.sel [[3], [1], [], [0], [], [2], [4], [5]] (by decide) fun _ _ => ⟨0, rfl, by omega, [], _, rfl, _, _, _, _, _, _, _, _, _, rfl, MapM.new _ _ _ _, ?_, Bld.nil _ _ _, ?_, Bld.nil _ _ _, ?_, ?_, ?_, by intro _ _ h; cases h⟩) ?_
  · exact one_self _ _
  · exact one_self _ _
  · exact upd_self _ _ _
  · exact hG
  · exact one_self _ _
  rintro f vs Γ ⟨k, rfl, hkf, l, gg, hl, hW⟩
  have hlen := V.len
  have hll : l.length = k := by rw [hl]; simp
  simp -implicitDefEqProofs only [S114_1, go_sem, Nat.reduceBEq, Nat.reduceAdd, Nat.reduceSub, Nat.reduceMul, Nat.reduceLeDiff, reduceCtorEq, ↓reduceIte, Int.reduceLT, Int.reduceLE, Int.reduceEq, Int.reduceNe]
  refine ⟨fun hlt => ?_, fun hge => ?_⟩
  · have hk : k < g.rs.length := by omega
    refine call_add hW ⟨k, 0, 0⟩ ⟨rfl, fun x hx => ?_⟩ (by omega) (by omega) ?_
    · simp at hx
      rcases hx with rfl | rfl <;> exact wf64 (by omega) (by omega)
    · intro v Γ' hW'
      have hno : (⟨k, 0, 0⟩ : It) ∉ l := by
        rw [hl]
        simp
        omega
      rw [if_pos ⟨by simp, hno⟩] at hW'
      simp -implicitDefEqProofs only [go_sem, Nat.reduceBEq, Nat.reduceAdd, Nat.reduceSub, Nat.reduceMul, Nat.reduceLeDiff, reduceCtorEq, ↓reduceIte, Int.reduceLT, Int.reduceLE, Int.reduceEq, Int.reduceNe]
      simp (disch := omega) only [wrap_id]
      exact ⟨f - 1, by omega, Up.here ⟨k + 1, rfl, by omega, l ++ [⟨k, 0, 0⟩], gg, by rw [hl, List.range_succ]; simp, hW'⟩⟩
  have hk : k = g.rs.length := by omega
  subst hk
  refine s_loop (fun f vs Γ => ∃ all row rows gg, vs = [.v true (.pointer (some ⟨pr, 0, none⟩))] ∧ f + (all.length - row.length) = 160 * (n + 1) ∧ WS none pn pm pa pr bm b3 n gg all row rows Γ ∧ WI g n a all row rows) (160 * (n + 1))
    (Up.here ⟨l, l, _, gg, rfl, by omega, hW, ⟨?_, ?_, fun x h => h, Nat.le_refl _, ?_, rep_false g _ _, by simp, fun x hx => by rw [List.eq_of_mem_replicate hx]; simp, fun x h => .inl h⟩⟩) ?_
  · rw [hl, List.Nodup, List.pairwise_map]
    exact List.nodup_range.imp fun h e => h (by simp at e; omega)
  · intro x hx
    rw [hl] at hx
    obtain ⟨i, hi, rfl⟩ := List.mem_map.1 hx
    have hi : i < g.rs.length := by simpa using hi
    refine ⟨by simp, by simp, by simp, by simp, g.rs[i], by simp [hi], by simp, ?_⟩
    simpa using LenD.nil
  · intro i hi
    rw [hl]
    exact List.mem_map.2 ⟨i, by simpa using hi, rfl⟩
  rintro f vs Γ ⟨all, row, rows, gg, rfl, hf, hW, hI⟩
  have hbd := hI.bound V
  obtain ⟨hm, ca, ra, cr, rr, cm, cn, va, vr, rfl, hM, hca, hra, hcr, hrr, hcm, hG, hcn, hsn⟩ := id hW
  obtain ⟨A2, c2, rfl⟩ := hrr.val
  simp -implicitDefEqProofs only [S114_10, go_sem, Nat.reduceBEq, Nat.reduceAdd, Nat.reduceSub, Nat.reduceMul, Nat.reduceLeDiff, reduceCtorEq, ↓reduceIte, Int.reduceLT, Int.reduceLE, Int.reduceEq, Int.reduceNe]
  refine s_ld0 (cells_lk ⟨cr, by simp, hcr⟩) (by simp) (by simp) ?_
  simp -implicitDefEqProofs only [go_sem, Nat.reduceBEq, Nat.reduceAdd, Nat.reduceSub, Nat.reduceMul, Nat.reduceLeDiff, reduceCtorEq, ↓reduceIte, Int.reduceLT, Int.reduceLE, Int.reduceEq, Int.reduceNe]
  refine ⟨fun hpos => ?_, fun hz => ?_⟩
  · obtain ⟨x, row', rfl⟩ : ∃ x row', row = x :: row' := by
      cases row with
      | nil => simp at hpos
      | cons x row' => exact ⟨x, row', rfl⟩
    have hsl : SlOk (lk [rr]) A2 c2 (x :: row') := by
      obtain ⟨A', c', e, h⟩ := hrr.slok (L' := lk [rr]) (Mem.le.refl _) (lk_sub (by simp)) (by have := hI.len; omega)
      simp only [Value.slice.injEq, true_and] at e
      obtain ⟨rfl, rfl⟩ := e
      exact h
    obtain ⟨b5, o5, hA5, cs5, hok, hc5⟩ := hsl.get (i := 0) (by simp)
    refine s_ld0 (cells_lk ⟨cr, by simp, hcr⟩) (by simp) (by simp) ?_
    simp -implicitDefEqProofs only [go_sem, Nat.reduceBEq, Nat.reduceAdd, Nat.reduceSub, Nat.reduceMul, Nat.reduceLeDiff, reduceCtorEq, ↓reduceIte, Int.reduceLT, Int.reduceLE, Int.reduceEq, Int.reduceNe]
    refine s_idx hA5 (by omega) (by simp) ?_
    simp -implicitDefEqProofs only [go_sem, Nat.reduceBEq, Nat.reduceAdd, Nat.reduceSub, Nat.reduceMul, Nat.reduceLeDiff, reduceCtorEq, ↓reduceIte, Int.reduceLT, Int.reduceLE, Int.reduceEq, Int.reduceNe]
    have hcs : cs5 = [.int .i64 x.r, .int .i64 x.d, .int .i64 x.n] := hok
    subst hcs
    have hcell : Cells ([hm, ca, ra, cr, rr, cm, gg, cn] ++ Γr) b5 o5 [.int .i64 x.r, .int .i64 x.d, .int .i64 x.n] := by simpa using hc5 _ (lk_sub (by simp))
    refine s_ld0 hcell (by simp) (by simp) ?_
    simp -implicitDefEqProofs only [go_sem, Nat.reduceBEq, Nat.reduceAdd, Nat.reduceSub, Nat.reduceMul, Nat.reduceLeDiff, reduceCtorEq, ↓reduceIte, Int.reduceLT, Int.reduceLE, Int.reduceEq, Int.reduceNe]
    intro b6
    refine s_ld0 (cells_lk ⟨cr, by simp, hcr⟩) (by simp) (by simp) ?_
    simp -implicitDefEqProofs only [go_sem, Nat.reduceBEq, Nat.reduceAdd, Nat.reduceSub, Nat.reduceMul, Nat.reduceLeDiff, reduceCtorEq, ↓reduceIte, Int.reduceLT, Int.reduceLE, Int.reduceEq, Int.reduceNe]
    refine s_lo 1 (by simp -implicitDefEqProofs only [go_sem, Nat.reduceBEq, Nat.reduceAdd, Nat.reduceSub, Nat.reduceMul, Nat.reduceLeDiff, reduceCtorEq, ↓reduceIte, Int.reduceLT, Int.reduceLE, Int.reduceEq, Int.reduceNe]; exact ⟨_, rfl⟩) (by simp) (by simpa using hsl.cap) ?_
    intro A7 hA7
    have hdr := hrr.drop (k := 1) (by simp)
    rw [show (if c2 = 1 then A2 else A2.map (·.add (1 * Rep.sz It))) = A7 from hA7.symm] at hdr
    simp -implicitDefEqProofs only [go_sem, Nat.reduceBEq, Nat.reduceAdd, Nat.reduceSub, Nat.reduceMul, Nat.reduceLeDiff, reduceCtorEq, ↓reduceIte, Int.reduceLT, Int.reduceLE, Int.reduceEq, Int.reduceNe]
    refine s_storeV (ix := 3) rfl hcr rfl rfl ?_
    simp -implicitDefEqProofs only [go_sem, Nat.reduceBEq, Nat.reduceAdd, Nat.reduceSub, Nat.reduceMul, Nat.reduceLeDiff, reduceCtorEq, ↓reduceIte, Int.reduceLT, Int.reduceLE, Int.reduceEq, Int.reduceNe]
    have hW1 : WS none pn pm pa pr bm b3 n gg all row' rows [hm, ca, ra, upd cr pr (.cells [.slice A7 (row'.length + 1 - 1) (c2 - 1)].toArray 221), rr, cm, gg, cn] :=
      ⟨hm, ca, ra, _, rr, cm, cn, _, _, rfl, hM, hca, hra, upd_self _ _ _, hdr, hcm, hG, hcn, hsn⟩
    have hxin : x ∈ all := hI.rin x (by simp)
    obtain ⟨hx1, hx2, hx3, hx4, r, hxr, hxd, hxl⟩ := hI.snd x hxin
    obtain ⟨ri, hri⟩ : ∃ ri : Nat, x.r = ri := ⟨x.r.toNat, by omega⟩
    obtain ⟨di, hdi⟩ : ∃ di : Nat, x.d = di := ⟨x.d.toNat, by omega⟩
    obtain ⟨ni, hni⟩ : ∃ ni : Nat, x.n = ni := ⟨x.n.toNat, by omega⟩
    rw [hri, Int.toNat_natCast] at hxr
    rw [hdi, Int.toNat_natCast] at hxd hxl
    rw [hni, Int.toNat_natCast] at hxl
    have hrig : ri < g.rs.length := (List.getElem?_eq_some_iff.1 hxr).1
    have hre : g.rs[ri] = r := (List.getElem?_eq_some_iff.1 hxr).2
    obtain ⟨b7, o7, hA8, A8, c8, hr8, hc8⟩ := hx.ru hrig
    rw [hre] at hr8 hc8
    generalize [hm, ca, ra, upd cr pr (.cells [.slice A7 (row'.length + 1 - 1) (c2 - 1)].toArray 221), rr, cm, gg, cn] = Γ1 at hW1 ⊢
    rw [hri, hdi, hni]
    refine s_idx hA8 (by omega) (by omega) ?_
    simp -implicitDefEqProofs only [go_sem, Nat.reduceBEq, Nat.reduceAdd, Nat.reduceSub, Nat.reduceMul, Nat.reduceLeDiff, reduceCtorEq, ↓reduceIte, Int.reduceLT, Int.reduceLE, Int.reduceEq, Int.reduceNe]
    refine s_ld0 (hc8 _ (lk_r _ _)) (by simp) (by simp) ?_
    simp -implicitDefEqProofs only [go_sem, Nat.reduceBEq, Nat.reduceAdd, Nat.reduceSub, Nat.reduceMul, Nat.reduceLeDiff, reduceCtorEq, ↓reduceIte, Int.reduceLT, Int.reduceLE, Int.reduceEq, Int.reduceNe]
    intro b8
    refine ⟨fun hend => ?_, fun hnend => ?_⟩
    · have hdl : di = r.r.length := by omega
      subst hdl
      have hlr := hI.len
      simp only [List.length_cons] at hlr hf
      have hrm : r ∈ g.rs := List.mem_of_getElem? hxr
      have hr4 := V.right r hrm
      have hlf := V.left r hrm
      have hhas : HasD g r.l ni := ⟨r, hrm, rfl, by simpa using hxl⟩
      have hJ : WJ g n a (all.length - row'.length) x all row' rows := ⟨hI.nodup, hI.snd, fun z hz => hI.rin z (by simp [hz]), by omega, hI.init, hI.told, hI.dim, hI.wide, fun z hz => by
        rcases hI.cl z hz with q | q
        · simp at q
          rcases q with rfl | q
          · exact .inr (.inl rfl)
          · exact .inl q
        · exact .inr (.inr q)⟩
      obtain ⟨sn, hsn⟩ : ∃ sn : Nat, r.l = sn := ⟨r.l.toNat, by omega⟩
      have hsa : sn < rows.length := by rw [hI.dim]; omega
      have hwd : rows[sn].length = n + 1 := hI.wide _ (List.getElem_mem hsa)
      have hni1 : ni < rows[sn].length := by omega
      obtain ⟨kb, hcell, hArr, hput⟩ := hG.at' hsa (by omega)
      have hggin : ∀ {S al rw' rows Γ}, WS S pn pm pa pr bm b3 n gg al rw' rows Γ → gg ∈ Γ := fun h => by
        obtain ⟨hm, ca, ra, cr, rr, cm, cn, va, vr, rfl, _⟩ := h
        simp
      rw [hsn]
      refine s_split ?_
      simp -implicitDefEqProofs only [S114_5, S114_6, go_sem, Nat.reduceBEq, Nat.reduceAdd, Nat.reduceSub, Nat.reduceMul, Nat.reduceLeDiff, reduceCtorEq, ↓reduceIte, Int.reduceLT, Int.reduceLE, Int.reduceEq, Int.reduceNe]
      refine s_idx rfl (by omega) (by have := hI.dim; omega) ?_
      simp -implicitDefEqProofs only [go_sem, Nat.reduceBEq, Nat.reduceAdd, Nat.reduceSub, Nat.reduceMul, Nat.reduceLeDiff, reduceCtorEq, ↓reduceIte, Int.reduceLT, Int.reduceLE, Int.reduceEq, Int.reduceNe]
      refine s_ld0 (hcell _ (by simp [hggin hW1])) (by simp) (by simp) ?_
      simp -implicitDefEqProofs only [go_sem, Nat.reduceBEq, Nat.reduceAdd, Nat.reduceSub, Nat.reduceMul, Nat.reduceLeDiff, reduceCtorEq, ↓reduceIte, Int.reduceLT, Int.reduceLE, Int.reduceEq, Int.reduceNe]
      refine s_idx rfl (by omega) (by omega) ?_
      simp -implicitDefEqProofs only [go_sem, Nat.reduceBEq, Nat.reduceAdd, Nat.reduceSub, Nat.reduceMul, Nat.reduceLeDiff, reduceCtorEq, ↓reduceIte, Int.reduceLT, Int.reduceLE, Int.reduceEq, Int.reduceNe]
      refine s_ld0 (hArr.bool hni1 (by simp [hggin hW1])) (by simp) (by simp) ?_
      simp -implicitDefEqProofs only [go_sem, Nat.reduceBEq, Nat.reduceAdd, Nat.reduceSub, Nat.reduceMul, Nat.reduceLeDiff, reduceCtorEq, ↓reduceIte, Int.reduceLT, Int.reduceLE, Int.reduceEq, Int.reduceNe]
      refine ⟨fun hno => ?_, fun hyes => ?_⟩
      · refine s_idx rfl (by omega) (by have := hI.dim; omega) ?_
        simp -implicitDefEqProofs only [go_sem, Nat.reduceBEq, Nat.reduceAdd, Nat.reduceSub, Nat.reduceMul, Nat.reduceLeDiff, reduceCtorEq, ↓reduceIte, Int.reduceLT, Int.reduceLE, Int.reduceEq, Int.reduceNe]
        refine s_ld0 (hcell _ (by simp [hggin hW1])) (by simp) (by simp) ?_
        simp -implicitDefEqProofs only [go_sem, Nat.reduceBEq, Nat.reduceAdd, Nat.reduceSub, Nat.reduceMul, Nat.reduceLeDiff, reduceCtorEq, ↓reduceIte, Int.reduceLT, Int.reduceLE, Int.reduceEq, Int.reduceNe]
        refine s_idx rfl (by omega) (by omega) ?_
        simp -implicitDefEqProofs only [go_sem, Nat.reduceBEq, Nat.reduceAdd, Nat.reduceSub, Nat.reduceMul, Nat.reduceLeDiff, reduceCtorEq, ↓reduceIte, Int.reduceLT, Int.reduceLE, Int.reduceEq, Int.reduceNe]
        obtain ⟨hm, ca, ra, cr, rr, cm, cn, va, vr, rfl, hM, hca, hra, hcr, hrr, hcm, hG1, hcn, _⟩ := hW1
        obtain ⟨Aa, caa, rfl⟩ := hra.val
        refine s_storeA (ix := 6) true rfl hArr hni1 ?_
        intro g9 hA9 ho9
        have hG9 := hput g9 _ hA9 (by simp) ho9
        simp -implicitDefEqProofs only [go_sem, Nat.reduceBEq, Nat.reduceAdd, Nat.reduceSub, Nat.reduceMul, Nat.reduceLeDiff, reduceCtorEq, ↓reduceIte, Int.reduceLT, Int.reduceLE, Int.reduceEq, Int.reduceNe]
        refine s_ld0 (cells_lk ⟨ca, by simp, hca⟩) (by simp) (by simp) ?_
        simp -implicitDefEqProofs only [go_sem, Nat.reduceBEq, Nat.reduceAdd, Nat.reduceSub, Nat.reduceMul, Nat.reduceLeDiff, reduceCtorEq, ↓reduceIte, Int.reduceLT, Int.reduceLE, Int.reduceEq, Int.reduceNe]
        refine s_loop (fun f2 vs Γ => ∃ (all2 row2 : List It) (k : Nat), vs = [.v true (.int .i64 k)] ∧ k + f2 = all.length ∧ WS (some (.slice Aa all.length caa, all)) pn pm pa pr bm b3 n g9 all2 row2 (rows.set sn (rows[sn].set ni true)) Γ ∧ WJ g n a (all.length - row'.length) x all2 row2 rows ∧ (∀ y ∈ all2, y ∈ all ∨ y ∈ row2) ∧
          (∀ (j : Nat) (hj : j < all.length), j < k → ∀ q, g.rs[all[j].r.toNat]? = some q → ∀ s, q.r[all[j].d.toNat]? = some s → s.t = false → s.n = sn → all[j].n + ni ≤ n → (⟨all[j].r, all[j].d + 1, all[j].n + ni⟩ : It) ∈ all2)) all.length
          (Up.here ⟨all, row', 0, rfl, by omega, ⟨hm, ca, ra, cr, rr, cm, cn, _, _, rfl, hM, hca, hra, hcr, hrr, hcm, hG9, hcn, fun v0 xs0 e => ?_⟩, hJ, fun y hy => .inl hy, by intro j _ h; omega⟩) ?_
        · simp only [Option.some.injEq, Prod.mk.injEq] at e
          obtain ⟨rfl, rfl⟩ := e
          exact Snap.refl hra
        rintro f2 vs Γ ⟨all2, row2, k, rfl, hkf2, hW2, hJ2, hfrom, hdone⟩
        simp -implicitDefEqProofs only [S114_4, go_sem, Nat.reduceBEq, Nat.reduceAdd, Nat.reduceSub, Nat.reduceMul, Nat.reduceLeDiff, reduceCtorEq, ↓reduceIte, Int.reduceLT, Int.reduceLE, Int.reduceEq, Int.reduceNe]
        refine ⟨fun hlt => ?_, fun hge => ?_⟩
        · refine s_split ?_
          simp -implicitDefEqProofs only [S114_2, S114_3, go_sem, Nat.reduceBEq, Nat.reduceAdd, Nat.reduceSub, Nat.reduceMul, Nat.reduceLeDiff, reduceCtorEq, ↓reduceIte, Int.reduceLT, Int.reduceLE, Int.reduceEq, Int.reduceNe]
          have hk : k < all.length := by omega
          have hslG : SlOk (lk Γ) Aa caa all := by
            obtain ⟨hm, ca, ra, cr, rr, cm, cn, va, vr, rfl, _, _, _, _, _, _, _, _, hsn2⟩ := hW2
            obtain ⟨A', c', e, h⟩ := (hsn2 _ _ rfl).old.slok (L' := lk [hm, ca, ra, cr, rr, cm, g9, cn]) (lk_sub (by simp)) (lk_sub (by simp)) (by omega)
            simp only [Value.slice.injEq, true_and] at e
            obtain ⟨rfl, rfl⟩ := e
            exact h
          obtain ⟨b9, o9, hA9', cs9, hok9, hc9⟩ := hslG.get hk
          have hcs9 : cs9 = [.int .i64 all[k].r, .int .i64 all[k].d, .int .i64 all[k].n] := hok9
          subst hcs9
          refine s_idx hA9' (by omega) (by omega) ?_
          simp -implicitDefEqProofs only [go_sem, Nat.reduceBEq, Nat.reduceAdd, Nat.reduceSub, Nat.reduceMul, Nat.reduceLeDiff, reduceCtorEq, ↓reduceIte, Int.reduceLT, Int.reduceLE, Int.reduceEq, Int.reduceNe]
          refine s_ld0 (hc9 _ (lk_l _ _)) (by simp) (by simp) ?_
          simp -implicitDefEqProofs only [go_sem, Nat.reduceBEq, Nat.reduceAdd, Nat.reduceSub, Nat.reduceMul, Nat.reduceLeDiff, reduceCtorEq, ↓reduceIte, Int.reduceLT, Int.reduceLE, Int.reduceEq, Int.reduceNe]
          intro b11
          obtain ⟨hy1, hy2, hy3, hy4, q, hyq, hyd, hyl⟩ := hI.snd _ (List.getElem_mem hk)
          have hstep : ∀ all3 : List It, (∀ z ∈ all2, z ∈ all3) → (∀ q, g.rs[all[k].r.toNat]? = some q → ∀ s, q.r[all[k].d.toNat]? = some s → s.t = false → s.n = sn → all[k].n + ni ≤ n → (⟨all[k].r, all[k].d + 1, all[k].n + ni⟩ : It) ∈ all3) →
              ∀ (j : Nat) (hj : j < all.length), j < k + 1 → ∀ q, g.rs[all[j].r.toNat]? = some q → ∀ s, q.r[all[j].d.toNat]? = some s → s.t = false → s.n = sn → all[j].n + ni ≤ n → (⟨all[j].r, all[j].d + 1, all[j].n + ni⟩ : It) ∈ all3 := by
            intro all3 h1 h2 j hj hjk
            by_cases e : j = k
            · subst e; exact h2
            · intro q' a1 s a2 a3 a4 a5; exact h1 _ (hdone j hj (by omega) q' a1 s a2 a3 a4 a5)
          generalize all[k] = y at *
          obtain ⟨yr, hyr⟩ : ∃ m : Nat, y.r = m := ⟨y.r.toNat, by omega⟩
          obtain ⟨yd, hydd⟩ : ∃ m : Nat, y.d = m := ⟨y.d.toNat, by omega⟩
          obtain ⟨yn, hyn⟩ : ∃ m : Nat, y.n = m := ⟨y.n.toNat, by omega⟩
          rw [hyr, Int.toNat_natCast] at hyq
          rw [hydd, Int.toNat_natCast] at hyd hyl
          rw [hyn, Int.toNat_natCast] at hyl
          rw [hyr, hydd, hyn] at hstep
          simp only [Int.toNat_natCast] at hstep
          have hyrg : yr < g.rs.length := (List.getElem?_eq_some_iff.1 hyq).1
          have hqe : g.rs[yr] = q := (List.getElem?_eq_some_iff.1 hyq).2
          have hqm : q ∈ g.rs := List.mem_of_getElem? hyq
          have hq4 := V.right q hqm
          obtain ⟨b12, o12, hA12, A12, c12, hr12, hc12⟩ := hx.ru hyrg
          rw [hqe] at hr12 hc12
          rw [hyr, hydd, hyn]
          refine s_idx hA12 (by omega) (by omega) ?_
          simp -implicitDefEqProofs only [go_sem, Nat.reduceBEq, Nat.reduceAdd, Nat.reduceSub, Nat.reduceMul, Nat.reduceLeDiff, reduceCtorEq, ↓reduceIte, Int.reduceLT, Int.reduceLE, Int.reduceEq, Int.reduceNe]
          refine s_ld (j := 1) (hc12 _ (lk_r _ _)) (by simp) (by simp) ?_
          simp -implicitDefEqProofs only [go_sem, Nat.reduceBEq, Nat.reduceAdd, Nat.reduceSub, Nat.reduceMul, Nat.reduceLeDiff, reduceCtorEq, ↓reduceIte, Int.reduceLT, Int.reduceLE, Int.reduceEq, Int.reduceNe]
          by_cases hlt2 : yd < q.r.length
          · have e1 : decide ((yd : Int) < (q.r.length : Int)) = true := by simpa using hlt2
            simp only [e1]
            simp -implicitDefEqProofs only [go_sem, Nat.reduceBEq, Nat.reduceAdd, Nat.reduceSub, Nat.reduceMul, Nat.reduceLeDiff, reduceCtorEq, ↓reduceIte, Int.reduceLT, Int.reduceLE, Int.reduceEq, Int.reduceNe]
            obtain ⟨b13, o13, hA13, hc13⟩ := hr12.sy hlt2
            refine s_idx hA13 (by omega) (by omega) ?_
            simp -implicitDefEqProofs only [go_sem, Nat.reduceBEq, Nat.reduceAdd, Nat.reduceSub, Nat.reduceMul, Nat.reduceLeDiff, reduceCtorEq, ↓reduceIte, Int.reduceLT, Int.reduceLE, Int.reduceEq, Int.reduceNe]
            refine s_ld0 (hc13 _ (lk_r _ _)) (by simp) (by simp) ?_
            cases ht : q.r[yd].t with
            | true =>
              simp -implicitDefEqProofs only [go_sem, Nat.reduceBEq, Nat.reduceAdd, Nat.reduceSub, Nat.reduceMul, Nat.reduceLeDiff, reduceCtorEq, ↓reduceIte, Int.reduceLT, Int.reduceLE, Int.reduceEq, Int.reduceNe]
              refine s_idxg (b := 0) (o := 0) (by simp) ?_
              simp -implicitDefEqProofs only [go_sem, Nat.reduceBEq, Nat.reduceAdd, Nat.reduceSub, Nat.reduceMul, Nat.reduceLeDiff, reduceCtorEq, ↓reduceIte, Int.reduceLT, Int.reduceLE, Int.reduceEq, Int.reduceNe]
              refine s_ldg0 (cs := [.int .i64 0]) (by simp) (by simp) (by simp) (by simp) ?_
              simp -implicitDefEqProofs only [go_sem, Nat.reduceBEq, Nat.reduceAdd, Nat.reduceSub, Nat.reduceMul, Nat.reduceLeDiff, reduceCtorEq, ↓reduceIte, Int.reduceLT, Int.reduceLE, Int.reduceEq, Int.reduceNe]
              simp (disch := omega) only [wrap_id]
              refine Up.here ⟨f2 - 1, by omega, Up.here ⟨all2, row2, k + 1, rfl, by omega, hW2, hJ2, hfrom, hstep all2 (fun z hz => hz) fun q' hq' s hs1 hs2 hs3 => ?_⟩⟩
              rw [hyq] at hq'
              cases hq'
              rw [List.getElem?_eq_getElem hlt2] at hs1
              cases hs1
              rw [ht] at hs2
              cases hs2
            | false =>
              simp -implicitDefEqProofs only [go_sem, Nat.reduceBEq, Nat.reduceAdd, Nat.reduceSub, Nat.reduceMul, Nat.reduceLeDiff, reduceCtorEq, ↓reduceIte, Int.reduceLT, Int.reduceLE, Int.reduceEq, Int.reduceNe]
              refine s_idx hA13 (by omega) (by omega) ?_
              simp -implicitDefEqProofs only [go_sem, Nat.reduceBEq, Nat.reduceAdd, Nat.reduceSub, Nat.reduceMul, Nat.reduceLeDiff, reduceCtorEq, ↓reduceIte, Int.reduceLT, Int.reduceLE, Int.reduceEq, Int.reduceNe]
              refine s_ld (j := 1) (hc13 _ (lk_r _ _)) (by simp) (by simp) ?_
              simp -implicitDefEqProofs only [go_sem, Nat.reduceBEq, Nat.reduceAdd, Nat.reduceSub, Nat.reduceMul, Nat.reduceLeDiff, reduceCtorEq, ↓reduceIte, Int.reduceLT, Int.reduceLE, Int.reduceEq, Int.reduceNe]
              refine ⟨fun heq => ?_, fun hne => ?_⟩
              · have hb2 := hJ2.bound V
                have hl2 := hJ2.len
                simp (disch := omega) only [wrap_id]
                refine call_add hW2 ⟨yr, (yd : Int) + 1, (yn : Int) + ni⟩ ⟨rfl, fun z hz => ?_⟩ (by omega) (by omega) ?_
                · simp at hz
                  rcases hz with rfl | rfl | rfl <;> exact wf64 (by omega) (by omega)
                · intro v Γ' hW'
                  have hadd := hJ2.add (y := ⟨yr, (yd : Int) + 1, (yn : Int) + ni⟩) (fun hle => by
                    refine ⟨by simp, by simp; omega, by simp; omega, hle, q, by simpa using hyq, by simp; omega, ?_⟩
                    have := hyl.snocN (a := q.r[yd].n) (j := ni) (by rw [heq, ← hsn]; exact hhas)
                    have e : q.r[yd] = ⟨false, q.r[yd].n⟩ := by rw [← ht]
                    rw [← e, ← List.take_succ_eq_append_getElem hlt2] at this
                    rw [show ((yn : Int) + ni).toNat = yn + ni by omega]
                    simpa using this)
                  simp -implicitDefEqProofs only [go_sem, Nat.reduceBEq, Nat.reduceAdd, Nat.reduceSub, Nat.reduceMul, Nat.reduceLeDiff, reduceCtorEq, ↓reduceIte, Int.reduceLT, Int.reduceLE, Int.reduceEq, Int.reduceNe]
                  refine Up.here ⟨f2 - 1, by omega, Up.here ⟨_, _, k + 1, rfl, by omega, hW', hadd, fun z hz => ?_, hstep _ addA_sub fun q' hq' s hs1 hs2 hs3 hle => addA_in hle⟩⟩
                  unfold addA at hz
                  by_cases hc : (yn : Int) + ni ≤ n ∧ (⟨yr, (yd : Int) + 1, (yn : Int) + ni⟩ : It) ∉ all2
                  · rw [if_pos hc] at hz ⊢
                    rcases List.mem_append.1 hz with hz | hz
                    · rcases hfrom z hz with q1 | q1
                      · exact .inl q1
                      · exact .inr (by simp [q1])
                    · exact .inr (by simp at hz; simp [hz])
                  · rw [if_neg hc] at hz ⊢
                    exact hfrom z hz
              · simp (disch := omega) only [wrap_id]
                refine Up.here ⟨f2 - 1, by omega, Up.here ⟨all2, row2, k + 1, rfl, by omega, hW2, hJ2, hfrom, hstep all2 (fun z hz => hz) fun q' hq' s hs1 hs2 hs3 => ?_⟩⟩
                rw [hyq] at hq'
                cases hq'
                rw [List.getElem?_eq_getElem hlt2] at hs1
                cases hs1
                exact absurd hs3 hne
          · have e1 : decide ((yd : Int) < (q.r.length : Int)) = false := by simpa using hlt2
            simp only [e1]
            simp -implicitDefEqProofs only [go_sem, Nat.reduceBEq, Nat.reduceAdd, Nat.reduceSub, Nat.reduceMul, Nat.reduceLeDiff, reduceCtorEq, ↓reduceIte, Int.reduceLT, Int.reduceLE, Int.reduceEq, Int.reduceNe]
            refine s_idxg (b := 0) (o := 0) (by simp) ?_
            simp -implicitDefEqProofs only [go_sem, Nat.reduceBEq, Nat.reduceAdd, Nat.reduceSub, Nat.reduceMul, Nat.reduceLeDiff, reduceCtorEq, ↓reduceIte, Int.reduceLT, Int.reduceLE, Int.reduceEq, Int.reduceNe]
            refine s_ldg0 (cs := [.bool false]) (by simp) (by simp) (by simp) (by simp) ?_
            simp -implicitDefEqProofs only [go_sem, Nat.reduceBEq, Nat.reduceAdd, Nat.reduceSub, Nat.reduceMul, Nat.reduceLeDiff, reduceCtorEq, ↓reduceIte, Int.reduceLT, Int.reduceLE, Int.reduceEq, Int.reduceNe]
            refine s_idxg (b := 0) (o := 0) (by simp) ?_
            simp -implicitDefEqProofs only [go_sem, Nat.reduceBEq, Nat.reduceAdd, Nat.reduceSub, Nat.reduceMul, Nat.reduceLeDiff, reduceCtorEq, ↓reduceIte, Int.reduceLT, Int.reduceLE, Int.reduceEq, Int.reduceNe]
            refine s_ldg0 (cs := [.int .i64 0]) (by simp) (by simp) (by simp) (by simp) ?_
            simp -implicitDefEqProofs only [go_sem, Nat.reduceBEq, Nat.reduceAdd, Nat.reduceSub, Nat.reduceMul, Nat.reduceLeDiff, reduceCtorEq, ↓reduceIte, Int.reduceLT, Int.reduceLE, Int.reduceEq, Int.reduceNe]
            simp (disch := omega) only [wrap_id]
            refine Up.here ⟨f2 - 1, by omega, Up.here ⟨all2, row2, k + 1, rfl, by omega, hW2, hJ2, hfrom, hstep all2 (fun z hz => hz) fun q' hq' s hs1 hs2 hs3 => ?_⟩⟩
            rw [hyq] at hq'
            cases hq'
            rw [List.getElem?_eq_none (by omega)] at hs1
            cases hs1
        · have hk : k = all.length := by omega
          have hl2 := hJ2.len
          have hW3 : WS none pn pm pa pr bm b3 n g9 all2 row2 (rows.set sn (rows[sn].set ni true)) Γ := by
            obtain ⟨hm, ca, ra, cr, rr, cm, cn, va, vr, q1, q2, q3, q4, q5, q6, q7, q8, q9, _⟩ := hW2
            exact ⟨hm, ca, ra, cr, rr, cm, cn, va, vr, q1, q2, q3, q4, q5, q6, q7, q8, q9, by intro _ _ h; cases h⟩
          have htold : ∀ b j, toldL (rows.set sn (rows[sn].set ni true)) b j → toldL rows b j ∨ (b.toNat = sn ∧ j = ni) := by
            intro b j h
            by_cases e : b.toNat = sn ∧ j = ni
            · exact .inr e
            · refine .inl ?_
              unfold toldL at h ⊢
              by_cases e1 : sn = b.toNat
              · subst e1
                have e2 : ¬ ni = j := fun q => e ⟨rfl, q.symm⟩
                simpa [List.getD_eq_getElem?_getD, hsa, List.getElem?_set, e2] using h
              · simpa [List.getD_eq_getElem?_getD, List.getElem?_set, e1] using h
          have hup : ∀ b j, toldL rows b j → toldL (rows.set sn (rows[sn].set ni true)) b j := by
            intro b j h
            unfold toldL at h ⊢
            by_cases e1 : sn = b.toNat
            · subst e1
              by_cases e2 : ni = j
              · subst e2
                simp [hsa, hni1]
              · simpa [List.getD_eq_getElem?_getD, hsa, List.getElem?_set, e2] using h
            · simpa [List.getD_eq_getElem?_getD, List.getElem?_set, e1] using h
          refine Up.here ⟨f - 1, by omega, Up.here ⟨all2, row2, _, g9, by omega, hW3, hJ2.nodup, hJ2.snd, hJ2.rin, by omega, hJ2.init, sound_set hI.told hsa (by rw [← hsn]; exact hhas), by simpa using hI.dim, fun z hz => ?_, fun y hy => ?_⟩⟩
          · rcases List.mem_or_eq_of_mem_set hz with h | h
            · exact hI.wide z h
            · rw [h]; simpa using hwd
          · rcases hJ2.cl y hy with q | q | q
            · exact .inl q
            · refine .inr fun r' hr' => ?_
              have er : r' = r := by rw [q, hri] at hr'; simpa [hxr] using hr'.symm
              subst er
              rw [q, hdi, hni]
              simp only [Int.toNat_natCast]
              refine ⟨fun _ => ?_, fun s hs => ?_⟩
              · simp [toldL, hsn, hsa, hni1]
              · rw [List.getElem?_eq_none (by omega)] at hs
                cases hs
            · rcases hfrom y hy with hya | hya
              · refine .inr fun r' hr' => ⟨fun h => hup _ _ ((q r' hr').1 h), fun s hs => ⟨((q r' hr').2 s hs).1, fun h1 k' h2 h3 => ?_⟩⟩
                rcases htold _ _ h2 with h4 | ⟨h4, rfl⟩
                · exact ((q r' hr').2 s hs).2 h1 k' h4 h3
                · obtain ⟨j, hj, rfl⟩ := List.getElem_of_mem hya
                  have hs0 := (V.sym r' (List.mem_of_getElem? hr') s (List.mem_of_getElem? hs)).1
                  exact hdone j hj (by omega) r' hr' s hs h1 (by omega) h3
              · exact .inl hya
      · refine Up.here ⟨f - 1, by omega, Up.here ⟨all, row', rows, gg, by omega, hW1, hJ.done fun r' hr' => ?_⟩⟩
        have er : r' = r := by rw [hri] at hr'; simpa [hxr] using hr'.symm
        subst er
        rw [hdi, hni]
        simp only [Int.toNat_natCast]
        refine ⟨fun _ => ?_, fun s hs => ?_⟩
        · simp [toldL, hsn, hsa, hni1, hyes]
        · rw [List.getElem?_eq_none (by omega)] at hs
          cases hs
    · have hdl : di < r.r.length := by omega
      obtain ⟨b9, o9, hA9, hc9⟩ := hr8.sy hdl
      refine s_idx hA9 (by omega) (by omega) ?_
      simp -implicitDefEqProofs only [go_sem, Nat.reduceBEq, Nat.reduceAdd, Nat.reduceSub, Nat.reduceMul, Nat.reduceLeDiff, reduceCtorEq, ↓reduceIte, Int.reduceLT, Int.reduceLE, Int.reduceEq, Int.reduceNe]
      refine s_ld0 (hc9 _ (lk_r _ _)) (by simp) (by simp) ?_
      simp -implicitDefEqProofs only [go_sem, Nat.reduceBEq, Nat.reduceAdd, Nat.reduceSub, Nat.reduceMul, Nat.reduceLeDiff, reduceCtorEq, ↓reduceIte, Int.reduceLT, Int.reduceLE, Int.reduceEq, Int.reduceNe]
      have hlr := hI.len
      simp only [List.length_cons] at hlr hf
      have hJ : WJ g n a (all.length - row'.length) x all row' rows := ⟨hI.nodup, hI.snd, fun z hz => hI.rin z (by simp [hz]), by omega, hI.init, hI.told, hI.dim, hI.wide, fun z hz => by
        rcases hI.cl z hz with q | q
        · simp at q
          rcases q with rfl | q
          · exact .inr (.inl rfl)
          · exact .inl q
        · exact .inr (.inr q)⟩
      have hrm : r ∈ g.rs := List.mem_of_getElem? hxr
      have hr4 := V.right r hrm
      intro b10
      simp (disch := omega) only [wrap_id]
      refine ⟨fun ht => ?_, fun ht => ?_⟩
      · refine call_add hW1 ⟨ri, di + 1, ni + 1⟩ ⟨rfl, fun z hz => ?_⟩ (by omega) (by omega) ?_
        · simp at hz
          rcases hz with rfl | rfl | rfl <;> exact wf64 (by omega) (by omega)
        · intro v Γ' hW'
          have hadd := hJ.add (y := ⟨ri, di + 1, ni + 1⟩) (fun hle => by
            refine ⟨by simp, by simp; omega, by simp; omega, hle, r, by simpa using hxr, by simp; omega, ?_⟩
            have := hxl.snocT (n := r.r[di].n)
            have e : r.r[di] = ⟨true, r.r[di].n⟩ := by rw [← ht]
            rw [← e, ← List.take_succ_eq_append_getElem hdl] at this
            simpa using this)
          have hal := hadd.len
          simp -implicitDefEqProofs only [go_sem, Nat.reduceBEq, Nat.reduceAdd, Nat.reduceSub, Nat.reduceMul, Nat.reduceLeDiff, reduceCtorEq, ↓reduceIte, Int.reduceLT, Int.reduceLE, Int.reduceEq, Int.reduceNe]
          refine ⟨f - 1, by omega, Up.here ⟨_, _, rows, gg, ?_, hW', hadd.done fun r' hr' => ?_⟩⟩
          · show f - 1 + ((addA n all _).length - (addR n all row' _).length) = _
            omega
          · have er : r' = r := by rw [hri] at hr'; simpa [hxr] using hr'.symm
            subst er
            rw [hdi, Int.toNat_natCast]
            refine ⟨fun q => by omega, fun s hs => ?_⟩
            have es : s = r'.r[di] := by rw [List.getElem?_eq_getElem hdl] at hs; simpa using hs.symm
            subst es
            refine ⟨fun _ hle => ?_, fun q => by rw [ht] at q; cases q⟩
            rw [hri, hdi, hni] at *
            exact addA_in (by simpa using hle)
      · have hsy := V.sym r hrm r.r[di] (List.getElem_mem hdl)
        obtain ⟨sn, hsn⟩ : ∃ sn : Nat, r.r[di].n = sn := ⟨r.r[di].n.toNat, by omega⟩
        have hsa : sn < rows.length := by have := hsy.2.2 ht; rw [hI.dim]; omega
        rw [hsn]
        have hwd : rows[sn].length = n + 1 := hI.wide _ (List.getElem_mem hsa)
        obtain ⟨kb, hcell, hArr, _⟩ := hG.at' hsa (by omega)
        have hggin : ∀ {al rw' Γ}, WS none pn pm pa pr bm b3 n gg al rw' rows Γ → gg ∈ Γ := fun h => by
          obtain ⟨hm, ca, ra, cr, rr, cm, cn, va, vr, rfl, _⟩ := h
          simp
        refine s_idx rfl (by omega) (by have := hI.dim; omega) ?_
        simp -implicitDefEqProofs only [go_sem, Nat.reduceBEq, Nat.reduceAdd, Nat.reduceSub, Nat.reduceMul, Nat.reduceLeDiff, reduceCtorEq, ↓reduceIte, Int.reduceLT, Int.reduceLE, Int.reduceEq, Int.reduceNe]
        refine s_ld0 (hcell _ (by simp [hggin hW1])) (by simp) (by simp) ?_
        simp -implicitDefEqProofs only [go_sem, Nat.reduceBEq, Nat.reduceAdd, Nat.reduceSub, Nat.reduceMul, Nat.reduceLeDiff, reduceCtorEq, ↓reduceIte, Int.reduceLT, Int.reduceLE, Int.reduceEq, Int.reduceNe]
        refine s_loop (fun f2 vs Γ => ∃ (all2 row2 : List It) (k : Nat), vs = [.v true (.int .i64 k)] ∧ k + f2 = n + 1 ∧ WS none pn pm pa pr bm b3 n gg all2 row2 rows Γ ∧ WJ g n a (all.length - row'.length) x all2 row2 rows ∧
          (∀ k' : Nat, k' < k → toldL rows sn k' → (ni : Int) + k' ≤ n → (⟨ri, di + 1, (ni : Int) + k'⟩ : It) ∈ all2)) (n + 1) (Up.here ⟨all, row', 0, rfl, by omega, hW1, hJ, by intro k' h; omega⟩) ?_
        rintro f2 vs Γ ⟨all2, row2, k, rfl, hkf2, hW2, hJ2, hdone⟩
        simp -implicitDefEqProofs only [S114_9, go_sem, Nat.reduceBEq, Nat.reduceAdd, Nat.reduceSub, Nat.reduceMul, Nat.reduceLeDiff, reduceCtorEq, ↓reduceIte, Int.reduceLT, Int.reduceLE, Int.reduceEq, Int.reduceNe]
        refine ⟨fun hlt => ?_, fun hge => ?_⟩
        · refine s_split ?_
          simp -implicitDefEqProofs only [S114_7, S114_8, go_sem, Nat.reduceBEq, Nat.reduceAdd, Nat.reduceSub, Nat.reduceMul, Nat.reduceLeDiff, reduceCtorEq, ↓reduceIte, Int.reduceLT, Int.reduceLE, Int.reduceEq, Int.reduceNe]
          refine s_idx rfl (by omega) (by omega) ?_
          simp -implicitDefEqProofs only [go_sem, Nat.reduceBEq, Nat.reduceAdd, Nat.reduceSub, Nat.reduceMul, Nat.reduceLeDiff, reduceCtorEq, ↓reduceIte, Int.reduceLT, Int.reduceLE, Int.reduceEq, Int.reduceNe]
          have hkr : k < rows[sn].length := by omega
          refine s_ld0 (hArr.bool hkr (by simp [hggin hW2])) (by simp) (by simp) ?_
          simp -implicitDefEqProofs only [go_sem, Nat.reduceBEq, Nat.reduceAdd, Nat.reduceSub, Nat.reduceMul, Nat.reduceLeDiff, reduceCtorEq, ↓reduceIte, Int.reduceLT, Int.reduceLE, Int.reduceEq, Int.reduceNe]
          simp (disch := omega) only [wrap_id]
          refine ⟨fun htl => ?_, fun htl => ?_⟩
          · have hb2 := hJ2.bound V
            have hl2 := hJ2.len
            refine call_add hW2 ⟨ri, di + 1, (ni : Int) + k⟩ ⟨rfl, fun z hz => ?_⟩ (by omega) (by omega) ?_
            · simp at hz
              rcases hz with rfl | rfl | rfl <;> exact wf64 (by omega) (by omega)
            · intro v Γ' hW'
              have hadd := hJ2.add (y := ⟨ri, di + 1, (ni : Int) + k⟩) (fun hle => by
                refine ⟨by simp, by simp; omega, by simp; omega, hle, r, by simpa using hxr, by simp; omega, ?_⟩
                have := hxl.snocN (a := r.r[di].n) (j := k) (by rw [hsn]; exact hJ2.told sn k (by simp [hsa, hkr, htl]))
                have e : r.r[di] = ⟨false, r.r[di].n⟩ := by rw [← ht]
                rw [← e, ← List.take_succ_eq_append_getElem hdl] at this
                rw [show ((ni : Int) + k).toNat = ni + k by omega]
                simpa using this)
              simp -implicitDefEqProofs only [go_sem, Nat.reduceBEq, Nat.reduceAdd, Nat.reduceSub, Nat.reduceMul, Nat.reduceLeDiff, reduceCtorEq, ↓reduceIte, Int.reduceLT, Int.reduceLE, Int.reduceEq, Int.reduceNe]
              refine Up.here ⟨f2 - 1, by omega, Up.here ⟨_, _, k + 1, rfl, by omega, hW', hadd, fun k' hk' ht' hle => ?_⟩⟩
              by_cases e : k' = k
              · subst e
                exact addA_in hle
              · exact addA_sub _ (hdone k' (by omega) ht' hle)
          · refine Up.here ⟨f2 - 1, by omega, Up.here ⟨all2, row2, k + 1, rfl, by omega, hW2, hJ2, fun k' hk' ht' hle => ?_⟩⟩
            by_cases e : k' = k
            · subst e
              simp [toldL, hsa, hkr, htl] at ht'
            · exact hdone k' (by omega) ht' hle
        · have hl2 := hJ2.len
          refine ⟨f - 1, by omega, Up.here ⟨all2, row2, rows, gg, by omega, hW2, hJ2.done fun r' hr' => ?_⟩⟩
          have er : r' = r := by rw [hri] at hr'; simpa [hxr] using hr'.symm
          subst er
          rw [hdi, Int.toNat_natCast]
          refine ⟨fun q => by omega, fun s hs => ?_⟩
          have es : s = r'.r[di] := by rw [List.getElem?_eq_getElem hdl] at hs; simpa using hs.symm
          subst es
          refine ⟨fun q => (by rw [ht] at q; cases q), fun _ k' htl hle => ?_⟩
          rw [hsn] at htl
          rw [hri, hni] at *
          refine hdone k' ?_ htl hle
          rcases Nat.lt_or_ge k' k with q | q
          · exact q
          · have hk1 : k' < n + 1 := by omega
            omega
  · have hrow : row = [] := List.eq_nil_of_length_eq_zero (by omega)
    subst hrow
    have hcl : ∀ x ∈ all, ItC g n rows all x := fun x hx => (hI.cl x hx).resolve_left (by simp)
    refine Up.sel [[6]] (by decide) fun _ _ => ?_
    subst hR
    have hag : g.ns.toNat = a := by omega
    rw [hag]
    refine ⟨_, b3, rows, rfl, rfl, hI.dim, hG, fun b hb => ?_⟩
    have hw := hI.wide _ (List.getElem_mem hb)
    rw [show rows.getD b [] = rows[b] by simp [hb]]
    refine ⟨hw, fun m hm => ⟨fun h => hI.told b m (by simp [hb, hm, h]), fun h => ?_⟩⟩
    have := work_told hI.init hcl (a := (b : Int)) (k := m) (by omega) h
    simpa [toldL, hb, hm] using this
end Go.Proofs.Ytniobbepliknmaa.V
/- The text of parlance/parlref5.Lens as a statement (slots: 0 g, 1 n, 2 g, 3 n); no condition. -/
namespace Go.Proofs.Ytniobbepliknmaa.V
open Go
def S43_0 : Stmt :=
  Stmt.seq
  (Stmt.region
    [SOper.mk (some 2) none (SOp.box true 57 (Operand.tmp 0)),
      SOper.mk (some 4) none (SOp.mv (Operand.const (Value.slice none 0 0)))]
    [1, 2])
  (Stmt.seq
    (Stmt.drawn
      [(false, SOper.mk (some 5) none (SOp.load true 4 (Operand.tmp 2))),
        (false, SOper.mk (some 6) none (SOp.mv (Operand.tmp 1))),
        (false, SOper.mk (some 8) none (SOp.fld 2 (Operand.tmp 2))),
        (true, SOper.mk (some 9) none (SOp.load false 1 (Operand.tmp 8))),
        (false, SOper.mk (some 7) none (SOp.call (Operand.func 114) [Operand.tmp 5, Operand.tmp 6])),
        (false, SOper.mk (some 10) none (SOp.idx 1 (Operand.tmp 7) (Operand.tmp 9))),
        (false, SOper.mk (some 11) none (SOp.load false 1 (Operand.tmp 10))),
        (false, SOper.mk (some 4) none (SOp.mv (Operand.tmp 11)))]
      [4])
    Stmt.ret)
def S43 : FnS := ⟨12, [(4, none)], S43_0⟩
theorem tr43 : trFn Try.prog 43 [2] [[1, 2], [4], [0, 1, 3, 4, 2, 5, 6, 7], [4], [], [], [0, 1], [], [3], [0, 1, 2, 3, 4], [0, 1, 2, 3, 4, 5], [0, 1, 2, 3, 4, 5, 6]] = some S43 := by kernel_rfl
end Go.Proofs.Ytniobbepliknmaa.V
/- Lengths of words of the start symbol: parlref5.Lens walked; no condition. -/
namespace Go.Proofs.Ytniobbepliknmaa.V
open Go
set_option linter.unusedVariables false
set_option linter.unusedSimpArgs false
attribute [local go_sem] e_seq e_region e_quiet e_join e_loop e_cond e_block e_exit e_ret e_skip e_fin e_kseq e_snrm e_sret e_sex e_bnrm e_bret e_bex e_rnrm e_rret e_res e_condC e_nil e_g e_mv g_mv e_pick g_pick pickC_eq e_ibin g_ibin ibinC_eq e_sbin g_sbin e_beq g_beq beqC_eq e_nilq g_nilq nilqC_sl nilqC_pt nilqC_mp e_un g_un unC_not unC_neg e_conv g_conv convC_eq e_fld g_fld fldC_ref fldC_ptr e_nilCheck g_nilCheck nilCheckC_ref nilCheckC_ptr nilCheckC_fun e_field g_field fieldC_eq e_len g_len lenC_sl lenC_str e_extract g_extract extractC_eq e_mkFunc e_build g_build e_idiv g_idiv idivC_eq e_ishift g_ishift ishiftC_eq e_idx g_idx e_idxA g_idxA e_load g_load loadC_ref loadC_ptr loadB_eq e_slc g_slc e_box boxC_loc boxC_esc e_alloc allocC_loc allocC_esc e_buildS e_store storeC_ref storeC_ptr storeB_eq e_append e_appz e_mk mkC_eq e_call callC_eq e_fn g_fn fnC_eq fnV_min' fnV_max' fnV_rune' e_q g_q e_a e_n g_call g_box g_alloc g_buildS g_store g_append g_mk g_a g_n g_dead e_dead e_callK e_drawn e_tree e_finJ e_tk e_tfin e_tno e_nbt_q e_nbt_qn e_nbt_a e_nbt_an e_nbt_fin e_early_nil e_early_t e_early_f e_nob_nil e_nob_none e_nob_some isBox_dead isBox_v isBox_ref e_dnil e_dk e_ek e_finB vcOps_vc1 e_dcons e_tq e_ekt e_tearly e_talt e_dearly look_nil look_c proj_nil proj_c looks_nil looks_c zip_nil zip_c val_tmp val_const val_func slv_v slv_box slv_ref slot_tmp slot_const slot_func slotL_v slotL_box slotL_ref put_some put_none updBox_c boxSet_box gd_eq slotVals_nil slotVals_c slotVals_b boxV_box boxOn_box slotsOn_nil slotsOn_c slotsOn_b resV_one resV_two vals_nil vals_c allOn_nil allOn_c partOn_nil partOn_c partVals_nil partVals_c fits_nil fits_c fillL_nil fillL_c mkv_one mkv_agg cellsV_agg cellsV_int cellsV_bool cellsV_slice cellsV_string cellsV_pointer cellsV_func cellsV_nilf cellsV_map one'_nil one'_c oc_int oc_bool oc_slice oc_string oc_pointer oc_func oc_nilf oc_map setC_eq iv_add iv_sub iv_mul iv_eql iv_neq iv_lss iv_leq iv_gtr iv_geq iok_add iok_sub iok_mul iok_eql iok_neq iok_lss iok_leq iok_gtr iok_geq pickV_bool args0_nil args0_c bnd_none bnd_some imp_bt imp_bf imp_ebt imp_ebf imp_eb1 imp_np imp_pp beq_tt beq_tf beq_ft beq_ff cond_or cond_and e_round e_meet Int.le_refl Int.toNat_zero decide_true decide_false Bool.or_false Bool.false_or Bool.true_or Bool.or_true Bool.and_false Bool.false_and Bool.bne_false Bool.bne_true beq_iff_eq Int.cast_ofNat_Int not_false_eq_true not_true_eq_false false_and and_false false_implies true_implies true_and and_true Bool.true_and Bool.and_true Bool.not_true Bool.not_false forall_const implies_true List.take_zero List.drop_zero List.take_succ_cons List.drop_succ_cons List.take_nil List.drop_nil List.length_cons List.length_nil List.nil_append List.append_nil List.cons_append Int.toNat_natCast decide_eq_true_eq decide_eq_false_iff_not cond_true cond_false and_self List.getElem?_cons_zero List.getElem?_cons_succ List.set_cons_zero List.set_cons_succ Option.some.injEq exists_eq_left' Nat.zero_add Nat.add_zero Nat.mul_one imp_self true_or or_true or_false false_or Bool.or_eq_true Bool.or_eq_false_iff Bool.and_eq_true Bool.and_eq_false_iff Bool.not_eq_true' Bool.not_eq_false'

theorem ref_lens {Γr : Ctx} {g : Gr} {A : Option Addr} {c : Nat} (hx : SlOk (lk Γr) A c g.rs) (V : VG g) (n : Nat) (hn : n ≤ 400) :
    Ret Try.prog 43 [.agg #[.int .i64 g.ts, .int .i64 g.ns, .int .i64 g.st, .slice A g.rs.length c], .int .i64 n] Γr [] (fun v Γ => ∃ g' B d xs, Γ = [g'] ∧ v = .slice B xs.length d ∧ SlOk (lk [g']) B d xs ∧ Tells n xs (HasD g g.st)) := by
  generalize hR : (fun (v : Value) (Γ : Ctx) => ∃ g' B d xs, _) = R
  refine ret_of_vc tr43 (Nat.le_of_ble_eq_true rfl) ?_
  simp -implicitDefEqProofs only [S43, S43_0, go_sem, Nat.reduceBEq, Nat.reduceAdd, Nat.reduceSub, Nat.reduceMul, Nat.reduceLeDiff, reduceCtorEq, ↓reduceIte, Int.reduceLT, Int.reduceLE, Int.reduceEq, Int.reduceNe]
  intro b
  refine s_drawn [] [] (Ent.refl _) ?_
  simp -implicitDefEqProofs only [go_sem, Nat.reduceBEq, Nat.reduceAdd, Nat.reduceSub, Nat.reduceMul, Nat.reduceLeDiff, reduceCtorEq, ↓reduceIte, Int.reduceLT, Int.reduceLE, Int.reduceEq, Int.reduceNe]
  refine CallVC.read (ref_lengths (hx.mono (lk_sub (by simp))) V n hn) ?_
  rintro v Γ' ⟨g1, b1, rows, rfl, rfl, hrl, hG, hT⟩
  simp -implicitDefEqProofs only [go_sem, Nat.reduceBEq, Nat.reduceAdd, Nat.reduceSub, Nat.reduceMul, Nat.reduceLeDiff, reduceCtorEq, ↓reduceIte, Int.reduceLT, Int.reduceLE, Int.reduceEq, Int.reduceNe]
  have hns := V.ns
  have hst := V.st
  obtain ⟨S, hSt⟩ : ∃ S : Nat, g.st = S := ⟨g.st.toNat, by omega⟩
  rw [hSt]
  have hSk : S < rows.length := by omega
  obtain ⟨b5, o5, hA5, A6, c6, hs6, hc6⟩ := (hG.slok (Mem.le.refl _)).list hSk
  refine s_idx hA5 (by omega) (by omega) ?_
  simp -implicitDefEqProofs only [go_sem, Nat.reduceBEq, Nat.reduceAdd, Nat.reduceSub, Nat.reduceMul, Nat.reduceLeDiff, reduceCtorEq, ↓reduceIte, Int.reduceLT, Int.reduceLE, Int.reduceEq, Int.reduceNe]
  refine s_ld0 (hc6 _ (lk_l _ _)) (by simp) (by simp) ?_
  simp -implicitDefEqProofs only [go_sem, Nat.reduceBEq, Nat.reduceAdd, Nat.reduceSub, Nat.reduceMul, Nat.reduceLeDiff, reduceCtorEq, ↓reduceIte, Int.reduceLT, Int.reduceLE, Int.reduceEq, Int.reduceNe]
  refine Up.here ?_
  subst hR
  refine ⟨g1, A6, c6, rows[S], rfl, rfl, hs6, ?_⟩
  have := hT S hSk
  rw [hSt]
  simpa [hSk] using this
end Go.Proofs.Ytniobbepliknmaa.V
/- Lengths of words: lens.Set walked; no condition. -/
namespace Go.Proofs.Ytniobbepliknmaa.V
open Go
set_option linter.unusedVariables false
set_option linter.unusedSimpArgs false
attribute [local go_sem] e_seq e_region e_quiet e_join e_loop e_cond e_block e_exit e_ret e_skip e_fin e_kseq e_snrm e_sret e_sex e_bnrm e_bret e_bex e_rnrm e_rret e_res e_condC e_nil e_g e_mv g_mv e_pick g_pick pickC_eq e_ibin g_ibin ibinC_eq e_sbin g_sbin e_beq g_beq beqC_eq e_nilq g_nilq nilqC_sl nilqC_pt nilqC_mp e_un g_un unC_not unC_neg e_conv g_conv convC_eq e_fld g_fld fldC_ref fldC_ptr e_nilCheck g_nilCheck nilCheckC_ref nilCheckC_ptr nilCheckC_fun e_field g_field fieldC_eq e_len g_len lenC_sl lenC_str e_extract g_extract extractC_eq e_mkFunc e_build g_build e_idiv g_idiv idivC_eq e_ishift g_ishift ishiftC_eq e_idx g_idx e_idxA g_idxA e_load g_load loadC_ref loadC_ptr loadB_eq e_slc g_slc e_box boxC_loc boxC_esc e_alloc allocC_loc allocC_esc e_buildS e_store storeC_ref storeC_ptr storeB_eq e_append e_appz e_mk mkC_eq e_call callC_eq e_fn g_fn fnC_eq fnV_min' fnV_max' fnV_rune' e_q g_q e_a e_n g_call g_box g_alloc g_buildS g_store g_append g_mk g_a g_n g_dead e_dead e_callK e_drawn e_tree e_finJ e_tk e_tfin e_tno e_nbt_q e_nbt_qn e_nbt_a e_nbt_an e_nbt_fin e_early_nil e_early_t e_early_f e_nob_nil e_nob_none e_nob_some isBox_dead isBox_v isBox_ref e_dnil e_dk e_ek e_finB vcOps_vc1 e_dcons e_tq e_ekt e_tearly e_talt e_dearly look_nil look_c proj_nil proj_c looks_nil looks_c zip_nil zip_c val_tmp val_const val_func slv_v slv_box slv_ref slot_tmp slot_const slot_func slotL_v slotL_box slotL_ref put_some put_none updBox_c boxSet_box gd_eq slotVals_nil slotVals_c slotVals_b boxV_box boxOn_box slotsOn_nil slotsOn_c slotsOn_b resV_one resV_two vals_nil vals_c allOn_nil allOn_c partOn_nil partOn_c partVals_nil partVals_c fits_nil fits_c fillL_nil fillL_c mkv_one mkv_agg cellsV_agg cellsV_int cellsV_bool cellsV_slice cellsV_string cellsV_pointer cellsV_func cellsV_nilf cellsV_map one'_nil one'_c oc_int oc_bool oc_slice oc_string oc_pointer oc_func oc_nilf oc_map setC_eq iv_add iv_sub iv_mul iv_eql iv_neq iv_lss iv_leq iv_gtr iv_geq iok_add iok_sub iok_mul iok_eql iok_neq iok_lss iok_leq iok_gtr iok_geq pickV_bool args0_nil args0_c bnd_none bnd_some imp_bt imp_bf imp_ebt imp_ebf imp_eb1 imp_np imp_pp beq_tt beq_tf beq_ft beq_ff cond_or cond_and e_round e_meet Int.le_refl Int.toNat_zero decide_true decide_false Bool.or_false Bool.false_or Bool.true_or Bool.or_true Bool.and_false Bool.false_and Bool.bne_false Bool.bne_true beq_iff_eq Int.cast_ofNat_Int not_false_eq_true not_true_eq_false false_and and_false false_implies true_implies true_and and_true Bool.true_and Bool.and_true Bool.not_true Bool.not_false forall_const implies_true List.take_zero List.drop_zero List.take_succ_cons List.drop_succ_cons List.take_nil List.drop_nil List.length_cons List.length_nil List.nil_append List.append_nil List.cons_append Int.toNat_natCast decide_eq_true_eq decide_eq_false_iff_not cond_true cond_false and_self List.getElem?_cons_zero List.getElem?_cons_succ List.set_cons_zero List.set_cons_succ Option.some.injEq exists_eq_left' Nat.zero_add Nat.add_zero Nat.mul_one imp_self true_or or_true or_false false_or Bool.or_eq_true Bool.or_eq_false_iff Bool.and_eq_true Bool.and_eq_false_iff Bool.not_eq_true' Bool.not_eq_false'

/-- what lens.Set answers -/
def SetR (g : Gr) (n : Int) (xs : List Bool) (e : Int) : Prop :=
  (ckF g ≠ 0 ∧ e = ckF g ∧ xs = []) ∨ (ckF g = 0 ∧ (n < 0 ∨ 200 < n) ∧ e = 1 ∧ xs = []) ∨ (ckF g = 0 ∧ e = 0 ∧ ∃ N : Nat, n = N ∧ N ≤ 200 ∧ Tells N xs (HasD g g.st))

theorem lens_set {Γr : Ctx} {g : Gr} {A : Option Addr} {c : Nat} (hx : SlOk (lk Γr) A c g.rs) (n : Int) :
    Ret Try.prog 39 [.agg #[.int .i64 g.ts, .int .i64 g.ns, .int .i64 g.st, .slice A g.rs.length c], .int .i64 n] Γr [] (fun v Γ => ∃ g' B d xs e, Γ = [g'] ∧ SlOk (lk [g']) B d xs ∧ v = .tuple #[.slice B xs.length d, .int .i64 e] ∧ SetR g n xs e) := by
  generalize hR : (fun (v : Value) (Γ : Ctx) => ∃ g' B d xs e, _) = R
  refine ret_of_vc tr39 (Nat.le_of_ble_eq_true rfl) ?_
  simp -implicitDefEqProofs only [S39, S39_0, go_sem, Nat.reduceBEq, Nat.reduceAdd, Nat.reduceSub, Nat.reduceMul, Nat.reduceLeDiff, reduceCtorEq, ↓reduceIte, Int.reduceLT, Int.reduceLE, Int.reduceEq, Int.reduceNe]
  intro b
  refine CallVC.read (gram_check hx) ?_
  rintro v Γ' ⟨rfl, rfl⟩
  simp -implicitDefEqProofs only [go_sem, Nat.reduceBEq, Nat.reduceAdd, Nat.reduceSub, Nat.reduceMul, Nat.reduceLeDiff, reduceCtorEq, ↓reduceIte, Int.reduceLT, Int.reduceLE, Int.reduceEq, Int.reduceNe]
  refine ⟨fun h => Up.one fun g' _ => ?_, fun h0 => ⟨fun h => Up.one fun g' _ => ?_, fun hn => ?_⟩⟩
  · subst hR
    exact ⟨g', none, 0, [], _, rfl, SlOk.nil, rfl, .inl ⟨h, rfl, rfl⟩⟩
  · subst hR
    exact ⟨g', none, 0, [], _, rfl, SlOk.nil, rfl, .inr (.inl ⟨h0, h, rfl, rfl⟩)⟩
  obtain ⟨N, rfl⟩ : ∃ m : Nat, n = m := ⟨n.toNat, by omega⟩
  have hN : N ≤ 200 := by omega
  have V := ckF_ok h0
  have hns := V.ns
  obtain ⟨a, ha⟩ : ∃ a : Nat, g.ns = a := ⟨g.ns.toNat, by omega⟩
  have ha10 : a ≤ 10 := by omega
  rw [ha]
  refine ⟨by omega, by omega, fun b1 => ?_⟩
  rw [Int.toNat_natCast]
  refine s_loop (fun f vs Γ => ∃ g, Γ = [g] ∧ ∃ k : Nat, vs = [.v true (.int .i64 k)] ∧ k + f = a ∧ Grid g b1 22 4 (part false a (N + 1) k)) a
    (Up.here ⟨_, rfl, 0, rfl, by omega, by have := Grid.made (α := Bool) b1 22 4 (m := a) (by omega); simpa [part] using this⟩) ?_
  rintro f vs Γ ⟨gg, rfl, k, rfl, hkf, hG⟩
  simp -implicitDefEqProofs only [S39_1, go_sem, Nat.reduceBEq, Nat.reduceAdd, Nat.reduceSub, Nat.reduceMul, Nat.reduceLeDiff, reduceCtorEq, ↓reduceIte, Int.reduceLT, Int.reduceLE, Int.reduceEq, Int.reduceNe]
  refine ⟨fun hlt => ?_, fun hge => ?_⟩
  · have hk : k < a := by omega
    simp (disch := omega) only [wrap_id]
    refine ⟨by omega, by omega, fun b2 => ?_⟩
    rw [show ((N : Int) + 1).toNat = N + 1 by omega]
    refine s_idx rfl (by omega) (by omega) ?_
    simp -implicitDefEqProofs only [go_sem, Nat.reduceBEq, Nat.reduceAdd, Nat.reduceSub, Nat.reduceMul, Nat.reduceLeDiff, reduceCtorEq, ↓reduceIte, Int.reduceLT, Int.reduceLE, Int.reduceEq, Int.reduceNe]
    refine s_storeG (ix := 1) (k := b2) (List.replicate (N + 1) false) (by simp) rfl hG (by rw [part_len _ (by omega)]; omega) (by simp; omega) ?_
    intro g' hput
    simp -implicitDefEqProofs only [go_sem, Nat.reduceBEq, Nat.reduceAdd, Nat.reduceSub, Nat.reduceMul, Nat.reduceLeDiff, reduceCtorEq, ↓reduceIte, Int.reduceLT, Int.reduceLE, Int.reduceEq, Int.reduceNe]
    simp (disch := omega) only [wrap_id]
    refine ⟨f - 1, by omega, Up.apart fun hd => Up.one fun G hG' => ⟨_, rfl, k + 1, rfl, by omega, ?_⟩⟩
    rw [← part_set _ hk]
    exact hput _ _ (Arr.made false b2 4 (N + 1)) ((List.pairwise_cons.1 hd).1 g' (by simp)) hG'
  have hk : k = a := by omega
  subst hk
  have hG0 : Grid gg b1 22 4 (List.replicate k (List.replicate (N + 1) false)) := by simpa [part] using hG
  have hcl : ∀ rows : List (List Bool), rows.length = k → (∀ x ∈ rows, x.length = N + 1) → cntL rows ≤ 10 * (N + 1) := fun rows h1 h2 => by
    have := cntL_le h2
    rw [h1] at this
    exact Nat.le_trans this (Nat.mul_le_mul_right _ ha10)
  refine s_loop (fun f vs Γ => ∃ gg, Γ = [gg] ∧ ∃ (ag : Bool) (rows : List (List Bool)), vs = [.v true (.bool ag)] ∧ f + cntL rows = 10 * (N + 1) + (if ag then 1 else 0) ∧ rows.length = k ∧ (∀ x ∈ rows, x.length = N + 1) ∧ Grid gg b1 22 4 rows ∧ SoundL g rows ∧ (ag = false → ClosedL g N rows)) (10 * (N + 1) + 1)
    (Up.here ⟨_, rfl, true, _, rfl, by rw [cntL_zero]; rfl, by simp, fun x hx => by rw [List.eq_of_mem_replicate hx]; simp, hG0, rep_false g _ _, by simp⟩) ?_
  rintro f vs Γ ⟨gg, rfl, ag, rows, rfl, hf, hrl, hrow, hG, hS, hC⟩
  simp -implicitDefEqProofs only [S39_6, go_sem, Nat.reduceBEq, Nat.reduceAdd, Nat.reduceSub, Nat.reduceMul, Nat.reduceLeDiff, reduceCtorEq, ↓reduceIte, Int.reduceLT, Int.reduceLE, Int.reduceEq, Int.reduceNe]
  refine ⟨fun hag => ?_, fun hag => ?_⟩
  · subst hag
    refine s_loop (fun f' vs Γ => ∃ gg, Γ = [gg] ∧ ∃ (ag' : Bool) (i : Nat) (rows' : List (List Bool)), vs = [.v true (.bool ag'), .v true (.int .i64 i)] ∧ i + f' = g.rs.length ∧ rows'.length = k ∧ (∀ x ∈ rows', x.length = N + 1) ∧ Grid gg b1 22 4 rows' ∧ SoundL g rows' ∧
      cntL rows ≤ cntL rows' ∧ (ag' = true → cntL rows < cntL rows') ∧ (ag' = false → ∀ (j : Nat) (hj : j < g.rs.length), j < i → ∀ m, m ≤ N → SumP rows' g.rs[j].r m → (rows'.getD g.rs[j].l.toNat []).getD m false = true)) g.rs.length
      (Up.here ⟨_, rfl, false, 0, rows, rfl, by omega, hrl, hrow, hG, hS, Nat.le_refl _, by simp, by intro _ j _ h; omega⟩) ?_
    rintro f' vs Γ ⟨gg, rfl, ag', i, rows', rfl, hif, hrl', hrow', hG', hS', hle, hag1, hag0⟩
    simp -implicitDefEqProofs only [S39_5, go_sem, Nat.reduceBEq, Nat.reduceAdd, Nat.reduceSub, Nat.reduceMul, Nat.reduceLeDiff, reduceCtorEq, ↓reduceIte, Int.reduceLT, Int.reduceLE, Int.reduceEq, Int.reduceNe]
    refine ⟨fun hlt => ?_, fun hge => ?_⟩
    · have hi : i < g.rs.length := by omega
      have hmem : g.rs[i] ∈ g.rs := List.getElem_mem hi
      obtain ⟨b2, o2, hA2, A3, c3, hr3, hc2⟩ := hx.ru hi
      refine s_idx hA2 (by omega) (by omega) ?_
      simp -implicitDefEqProofs only [go_sem, Nat.reduceBEq, Nat.reduceAdd, Nat.reduceSub, Nat.reduceMul, Nat.reduceLeDiff, reduceCtorEq, ↓reduceIte, Int.reduceLT, Int.reduceLE, Int.reduceEq, Int.reduceNe]
      refine s_ld0 (hc2 _ (lk_r _ _)) (by simp) (by simp) ?_
      simp -implicitDefEqProofs only [go_sem, Nat.reduceBEq, Nat.reduceAdd, Nat.reduceSub, Nat.reduceMul, Nat.reduceLeDiff, reduceCtorEq, ↓reduceIte, Int.reduceLT, Int.reduceLE, Int.reduceEq, Int.reduceNe]
      intro b4
      have hV := V.sym _ hmem
      have hL := V.left _ hmem
      obtain ⟨al, hal⟩ : ∃ al : Nat, g.rs[i].l = al := ⟨g.rs[i].l.toNat, by omega⟩
      have halk : al < k := by omega
      have hsl := (hG'.slok (L := lk ([gg] ++ Γr)) (lk_l _ _))
      rw [hrl'] at hsl
      have hsum := lens_sums (Γr := [gg] ++ Γr) N (by omega) (hr3.r (Γ := [gg])) (by rw [← hrl'] at hsl; exact hsl) hrow' (fun s hs ht => by have := hV s hs; have := this.2.2 ht; omega)
      rw [hrl'] at hsum
      refine CallVC.read hsum ?_
      rintro v Γ' ⟨g5, b5, xs, rfl, rfl, hA5, hT5⟩
      have hxl := hT5.1
      simp -implicitDefEqProofs only [go_sem, Nat.reduceBEq, Nat.reduceAdd, Nat.reduceSub, Nat.reduceMul, Nat.reduceLeDiff, reduceCtorEq, ↓reduceIte, Int.reduceLT, Int.reduceLE, Int.reduceEq, Int.reduceNe]
      refine s_loop (fun f2 vs Γ => ∃ g5 gg, Γ = [g5, gg] ∧ Arr g5 b5 4 xs ∧ ∃ (ag2 : Bool) (q : Nat) (rows2 : List (List Bool)), vs = [.v true (.bool ag2), .v true (.int .i64 q)] ∧ q + f2 = N + 1 ∧ rows2.length = k ∧ (∀ x ∈ rows2, x.length = N + 1) ∧ Grid gg b1 22 4 rows2 ∧ SoundL g rows2 ∧
        cntL rows ≤ cntL rows2 ∧ (ag2 = true → cntL rows < cntL rows2) ∧ (ag2 = false → ag' = false ∧ rows2 = rows' ∧ ∀ m, m < q → SumP rows' g.rs[i].r m → (rows'.getD al []).getD m false = true)) (N + 1)
        (Up.here ⟨_, _, rfl, hA5, ag', 0, rows', rfl, by omega, hrl', hrow', hG', hS', hle, hag1, fun h => ⟨h, rfl, by intro m hm; omega⟩⟩) ?_
      rintro f2 vs Γ ⟨g5, gg, rfl, hA5, ag2, q, rows2, rfl, hqf, hrl2, hrow2, hG2, hS2, hle2, hag21, hag20⟩
      simp -implicitDefEqProofs only [S39_4, go_sem, Nat.reduceBEq, Nat.reduceAdd, Nat.reduceSub, Nat.reduceMul, Nat.reduceLeDiff, reduceCtorEq, ↓reduceIte, Int.reduceLT, Int.reduceLE, Int.reduceEq, Int.reduceNe]
      refine ⟨fun hlt => ?_, fun hge => ?_⟩
      · have hq : q < xs.length := by omega
        refine s_split ?_
        simp -implicitDefEqProofs only [S39_2, S39_3, go_sem, Nat.reduceBEq, Nat.reduceAdd, Nat.reduceSub, Nat.reduceMul, Nat.reduceLeDiff, reduceCtorEq, ↓reduceIte, Int.reduceLT, Int.reduceLE, Int.reduceEq, Int.reduceNe]
        refine s_idx rfl (by omega) (by omega) ?_
        simp -implicitDefEqProofs only [go_sem, Nat.reduceBEq, Nat.reduceAdd, Nat.reduceSub, Nat.reduceMul, Nat.reduceLeDiff, reduceCtorEq, ↓reduceIte, Int.reduceLT, Int.reduceLE, Int.reduceEq, Int.reduceNe]
        refine s_ld0 (hA5.bool hq (by simp)) (by simp) (by simp) ?_
        have hal2 : al < rows2.length := by omega
        have hal2' : rows2[al].length = N + 1 := hrow2 _ (List.getElem_mem hal2)
        have hxq := hT5.2 q hq
        generalize xs[q] = o at hxq ⊢
        cases o
        · simp -implicitDefEqProofs only [go_sem, Nat.reduceBEq, Nat.reduceAdd, Nat.reduceSub, Nat.reduceMul, Nat.reduceLeDiff, reduceCtorEq, ↓reduceIte, Int.reduceLT, Int.reduceLE, Int.reduceEq, Int.reduceNe]
          refine s_idxg (b := 0) (o := 0) (by simp) ?_
          simp -implicitDefEqProofs only [go_sem, Nat.reduceBEq, Nat.reduceAdd, Nat.reduceSub, Nat.reduceMul, Nat.reduceLeDiff, reduceCtorEq, ↓reduceIte, Int.reduceLT, Int.reduceLE, Int.reduceEq, Int.reduceNe]
          refine s_ldg0 (cs := [.slice none 0 0]) (by simp) (by simp) (by simp) (by simp) ?_
          simp -implicitDefEqProofs only [go_sem, Nat.reduceBEq, Nat.reduceAdd, Nat.reduceSub, Nat.reduceMul, Nat.reduceLeDiff, reduceCtorEq, ↓reduceIte, Int.reduceLT, Int.reduceLE, Int.reduceEq, Int.reduceNe]
          refine s_idxg (b := 0) (o := 0) (by simp) ?_
          simp -implicitDefEqProofs only [go_sem, Nat.reduceBEq, Nat.reduceAdd, Nat.reduceSub, Nat.reduceMul, Nat.reduceLeDiff, reduceCtorEq, ↓reduceIte, Int.reduceLT, Int.reduceLE, Int.reduceEq, Int.reduceNe]
          refine s_ldg0 (cs := [.bool false]) (by simp) (by simp) (by simp) (by simp) ?_
          simp -implicitDefEqProofs only [go_sem, Nat.reduceBEq, Nat.reduceAdd, Nat.reduceSub, Nat.reduceMul, Nat.reduceLeDiff, reduceCtorEq, ↓reduceIte, Int.reduceLT, Int.reduceLE, Int.reduceEq, Int.reduceNe]
          simp (disch := omega) only [wrap_id]
          refine Up.here ⟨f2 - 1, by omega, Up.here ⟨_, _, rfl, hA5, ag2, q + 1, rows2, rfl, by omega, hrl2, hrow2, hG2, hS2, hle2, hag21, fun h => ?_⟩⟩
          obtain ⟨h1, h2, h3⟩ := hag20 h
          refine ⟨h1, h2, fun m hm hs => ?_⟩
          by_cases e : m = q
          · subst e; have := hxq.2 hs; cases this
          · exact h3 m (by omega) hs
        · rw [hal]
          simp -implicitDefEqProofs only [go_sem, Nat.reduceBEq, Nat.reduceAdd, Nat.reduceSub, Nat.reduceMul, Nat.reduceLeDiff, reduceCtorEq, ↓reduceIte, Int.reduceLT, Int.reduceLE, Int.reduceEq, Int.reduceNe]
          obtain ⟨kb, hcell, hArr, hput⟩ := hG2.at' hal2 (by omega)
          refine s_idx rfl (by omega) (by omega) ?_
          simp -implicitDefEqProofs only [go_sem, Nat.reduceBEq, Nat.reduceAdd, Nat.reduceSub, Nat.reduceMul, Nat.reduceLeDiff, reduceCtorEq, ↓reduceIte, Int.reduceLT, Int.reduceLE, Int.reduceEq, Int.reduceNe]
          refine s_ld0 (hcell _ (by simp)) (by simp) (by simp) ?_
          simp -implicitDefEqProofs only [go_sem, Nat.reduceBEq, Nat.reduceAdd, Nat.reduceSub, Nat.reduceMul, Nat.reduceLeDiff, reduceCtorEq, ↓reduceIte, Int.reduceLT, Int.reduceLE, Int.reduceEq, Int.reduceNe]
          refine s_idx rfl (by omega) (by omega) ?_
          simp -implicitDefEqProofs only [go_sem, Nat.reduceBEq, Nat.reduceAdd, Nat.reduceSub, Nat.reduceMul, Nat.reduceLeDiff, reduceCtorEq, ↓reduceIte, Int.reduceLT, Int.reduceLE, Int.reduceEq, Int.reduceNe]
          have hqr : q < rows2[al].length := by omega
          refine s_ld0 (hArr.bool hqr (by simp)) (by simp) (by simp) ?_
          simp -implicitDefEqProofs only [go_sem, Nat.reduceBEq, Nat.reduceAdd, Nat.reduceSub, Nat.reduceMul, Nat.reduceLeDiff, reduceCtorEq, ↓reduceIte, Int.reduceLT, Int.reduceLE, Int.reduceEq, Int.reduceNe]
          refine ⟨fun hnew => ?_, fun hold => ?_⟩
          · refine s_idx rfl (by omega) (by omega) ?_
            simp -implicitDefEqProofs only [go_sem, Nat.reduceBEq, Nat.reduceAdd, Nat.reduceSub, Nat.reduceMul, Nat.reduceLeDiff, reduceCtorEq, ↓reduceIte, Int.reduceLT, Int.reduceLE, Int.reduceEq, Int.reduceNe]
            refine s_ld0 (hcell _ (by simp)) (by simp) (by simp) ?_
            simp -implicitDefEqProofs only [go_sem, Nat.reduceBEq, Nat.reduceAdd, Nat.reduceSub, Nat.reduceMul, Nat.reduceLeDiff, reduceCtorEq, ↓reduceIte, Int.reduceLT, Int.reduceLE, Int.reduceEq, Int.reduceNe]
            refine s_idx rfl (by omega) (by omega) ?_
            simp -implicitDefEqProofs only [go_sem, Nat.reduceBEq, Nat.reduceAdd, Nat.reduceSub, Nat.reduceMul, Nat.reduceLeDiff, reduceCtorEq, ↓reduceIte, Int.reduceLT, Int.reduceLE, Int.reduceEq, Int.reduceNe]
            refine s_storeA (ix := 1) true rfl hArr hqr ?_
            intro g9 hA9 ho9
            have hG9 := hput g9 _ hA9 (by simp) ho9
            have hcnt := cntL_set hal2 (y := rows2[al].set q true) (count_set hqr hnew)
            have hS9 := sound_set hS2 hal2 (k := q) ⟨g.rs[i], hmem, by rw [hal], sum_sound hS' (fun s hs => (hV s hs).1) (hxq.1 rfl)⟩
            simp -implicitDefEqProofs only [go_sem, Nat.reduceBEq, Nat.reduceAdd, Nat.reduceSub, Nat.reduceMul, Nat.reduceLeDiff, reduceCtorEq, ↓reduceIte, Int.reduceLT, Int.reduceLE, Int.reduceEq, Int.reduceNe]
            simp (disch := omega) only [wrap_id]
            refine Up.here ⟨f2 - 1, by omega, Up.here ⟨_, _, rfl, hA5, true, q + 1, _, rfl, by omega, by simpa using hrl2, fun x hx => ?_, hG9, hS9, by omega, fun _ => by omega, by simp⟩⟩
            rcases List.mem_or_eq_of_mem_set hx with h | h
            · exact hrow2 x h
            · rw [h]; simpa using hal2'
          · simp (disch := omega) only [wrap_id]
            refine Up.here ⟨f2 - 1, by omega, Up.here ⟨_, _, rfl, hA5, ag2, q + 1, rows2, rfl, by omega, hrl2, hrow2, hG2, hS2, hle2, hag21, fun h => ?_⟩⟩
            obtain ⟨h1, h2, h3⟩ := hag20 h
            refine ⟨h1, h2, fun m hm hs => ?_⟩
            by_cases e : m = q
            · subst e
              rw [← h2]
              simp [hal2, hqr, hold]
            · exact h3 m (by omega) hs
      · have hq : q = N + 1 := by omega
        subst hq
        have hvl := V.len
        simp (disch := omega) only [wrap_id]
        refine ⟨f' - 1, by omega, Up.sel [[1]] (by decide) fun _ _ => ⟨_, rfl, ag2, i + 1, rows2, rfl, by omega, hrl2, hrow2, hG2, hS2, hle2, hag21, fun h j hj hji m hm hs => ?_⟩⟩
        obtain ⟨h1, rfl, h3⟩ := hag20 h
        by_cases e : j = i
        · subst e
          rw [hal]
          exact h3 m (by omega) hs
        · exact hag0 h1 j hj (by omega) m hm hs
    · have hi : i = g.rs.length := by omega
      subst hi
      have hcb := hcl rows' hrl' hrow'
      refine ⟨10 * (N + 1) + (if ag' then 1 else 0) - cntL rows', ?_, Up.here ⟨_, rfl, ag', rows', rfl, ?_, hrl', hrow', hG', hS', fun h r hr m hm hs => ?_⟩⟩
      · cases ag'
        · simp at hf ⊢; omega
        · have := hag1 rfl; simp at hf ⊢; omega
      · cases ag' <;> simp <;> omega
      · obtain ⟨j, hj, rfl⟩ := List.getElem_of_mem hr
        exact hag0 h j hj hj m hm hs
  · subst hag
    have hC := hC rfl
    have hst := V.st
    obtain ⟨S, hSt⟩ : ∃ S : Nat, g.st = S := ⟨g.st.toNat, by omega⟩
    rw [hSt]
    have hSk : S < rows.length := by omega
    have hrS : rows[S].length = N + 1 := hrow _ (List.getElem_mem hSk)
    obtain ⟨b5, o5, hA5, A6, c6, hs6, hc6⟩ := (hG.slok (Mem.le.refl _)).list hSk
    refine s_idx hA5 (by omega) (by omega) ?_
    simp -implicitDefEqProofs only [go_sem, Nat.reduceBEq, Nat.reduceAdd, Nat.reduceSub, Nat.reduceMul, Nat.reduceLeDiff, reduceCtorEq, ↓reduceIte, Int.reduceLT, Int.reduceLE, Int.reduceEq, Int.reduceNe]
    refine s_ld0 (hc6 _ (lk_l _ _)) (by simp) (by simp) ?_
    simp -implicitDefEqProofs only [go_sem, Nat.reduceBEq, Nat.reduceAdd, Nat.reduceSub, Nat.reduceMul, Nat.reduceLeDiff, reduceCtorEq, ↓reduceIte, Int.reduceLT, Int.reduceLE, Int.reduceEq, Int.reduceNe]
    refine Up.here ?_
    subst hR
    refine ⟨gg, A6, c6, rows[S], 0, rfl, hs6, rfl, .inr (.inr ⟨h0, rfl, N, rfl, hN, hrS, fun m hm => ?_⟩)⟩
    rw [hSt, ← told_iff hS hC (a := S) (k := m) (by omega)]
    simp [hSk, hm]
end Go.Proofs.Ytniobbepliknmaa.V
/- The text of parlance/draw.Number as a statement (slots: 0 n, 1 coins, 2 n, 3 coins, 7 bits, 8 used, 9 x, 10 _, 11 c); no condition. -/
namespace Go.Proofs.Ytniobbepliknmaa.V
open Go
def S21_1 : Stmt :=
  Stmt.seq
  (Stmt.seq
    (Stmt.region
      [SOper.mk (some 18) none (SOp.mv (Operand.tmp 7)),
        SOper.mk (some 19) none (SOp.ishift BinOp.shl (Operand.const (Value.int IntKind.i64 1)) (Operand.tmp 18)),
        SOper.mk (some 20) none (SOp.mv (Operand.tmp 0)),
        SOper.mk (some 21) none (SOp.ibin BinOp.lss (Operand.tmp 19) (Operand.tmp 20))]
      [0, 1, 7, 21])
    (Stmt.cond (Operand.tmp 21) Stmt.skip (Stmt.exit 0)))
  (Stmt.block 1
    (Stmt.region
      [SOper.mk (some 22) none (SOp.mv (Operand.tmp 7)),
        SOper.mk (some 23) none (SOp.ibin BinOp.add (Operand.tmp 22) (Operand.const (Value.int IntKind.i64 1))),
        SOper.mk (some 7) none (SOp.mv (Operand.tmp 23))]
      [0, 1, 7]))
def S21_2 : Stmt :=
  Stmt.block 5
  (Stmt.seq
    (Stmt.region
      [SOper.mk (some 39) none (SOp.idx 1 (Operand.tmp 35) (Operand.tmp 37)),
        SOper.mk (some 40) none (SOp.load false 1 (Operand.tmp 39)), SOper.mk (some 11) none (SOp.mv (Operand.tmp 40))]
      [0, 1, 7, 8, 9, 11, 35, 36, 37])
    (Stmt.seq
      (Stmt.region
        [SOper.mk (some 41) none (SOp.mv (Operand.tmp 9)),
          SOper.mk (some 42) none (SOp.ibin BinOp.mul (Operand.tmp 41) (Operand.const (Value.int IntKind.i64 2))),
          SOper.mk (some 9) none (SOp.mv (Operand.tmp 42))]
        [0, 1, 7, 8, 9, 11, 35, 36, 37])
      (Stmt.seq (Stmt.region [SOper.mk (some 43) none (SOp.mv (Operand.tmp 11))] [0, 1, 7, 8, 9, 35, 36, 37, 43])
        (Stmt.cond (Operand.tmp 43)
          (Stmt.region
            [SOper.mk (some 44) none (SOp.mv (Operand.tmp 9)),
              SOper.mk (some 45) none (SOp.ibin BinOp.add (Operand.tmp 44) (Operand.const (Value.int IntKind.i64 1))),
              SOper.mk (some 9) none (SOp.mv (Operand.tmp 45))]
            [0, 1, 7, 8, 9, 35, 36, 37])
          Stmt.skip))))
def S21_3 : Stmt :=
  Stmt.region
  [SOper.mk (some 46) none (SOp.ibin BinOp.add (Operand.tmp 37) (Operand.const (Value.int IntKind.i64 1))),
    SOper.mk (some 37) none (SOp.mv (Operand.tmp 46))]
  [0, 1, 7, 8, 9, 35, 36, 37]
def S21_4 : Stmt :=
  Stmt.seq
  (Stmt.region [SOper.mk (some 38) none (SOp.ibin BinOp.lss (Operand.tmp 37) (Operand.tmp 36))]
    [0, 1, 7, 8, 9, 35, 36, 37, 38])
  (Stmt.seq (Stmt.cond (Operand.tmp 38) Stmt.skip (Stmt.exit 4)) (Stmt.join S21_2 S21_3 [9] [0, 1, 7, 8, 35, 36, 37]))
def S21_5 : Stmt :=
  Stmt.seq
  (Stmt.seq
    (Stmt.region
      [SOper.mk (some 24) none (SOp.mv (Operand.tmp 8)), SOper.mk (some 25) none (SOp.mv (Operand.tmp 7)),
        SOper.mk (some 26) none (SOp.ibin BinOp.add (Operand.tmp 24) (Operand.tmp 25)),
        SOper.mk (some 27) none (SOp.mv (Operand.tmp 1)), SOper.mk (some 28) none (SOp.len false (Operand.tmp 27)),
        SOper.mk (some 29) none (SOp.ibin BinOp.leq (Operand.tmp 26) (Operand.tmp 28))]
      [0, 1, 7, 8, 29])
    (Stmt.cond (Operand.tmp 29) Stmt.skip (Stmt.exit 2)))
  (Stmt.block 3
    (Stmt.seq (Stmt.region [SOper.mk (some 9) none (SOp.mv (Operand.const (Value.int IntKind.i64 0)))] [0, 1, 7, 8, 9])
      (Stmt.seq
        (Stmt.seq
          (Stmt.region
            [SOper.mk (some 30) none (SOp.mv (Operand.tmp 1)), SOper.mk (some 31) none (SOp.mv (Operand.tmp 8)),
              SOper.mk (some 32) none (SOp.mv (Operand.tmp 8)), SOper.mk (some 33) none (SOp.mv (Operand.tmp 7)),
              SOper.mk (some 34) none (SOp.ibin BinOp.add (Operand.tmp 32) (Operand.tmp 33)),
              SOper.mk (some 35) none (SOp.slc 1 (Operand.tmp 30) (some (Operand.tmp 31)) (some (Operand.tmp 34)) none),
              SOper.mk (some 36) none (SOp.len false (Operand.tmp 35)),
              SOper.mk (some 37) none (SOp.mv (Operand.const (Value.int IntKind.i64 0)))]
            [0, 1, 7, 8, 9, 35, 36, 37])
          (Stmt.block 4 (Stmt.loop S21_4 [9, 37] [0, 1, 7, 8, 35, 36])))
        (Stmt.seq
          (Stmt.region
            [SOper.mk (some 47) none (SOp.mv (Operand.tmp 8)), SOper.mk (some 48) none (SOp.mv (Operand.tmp 7)),
              SOper.mk (some 49) none (SOp.ibin BinOp.add (Operand.tmp 47) (Operand.tmp 48)),
              SOper.mk (some 8) none (SOp.mv (Operand.tmp 49))]
            [0, 1, 7, 8, 9])
          (Stmt.seq
            (Stmt.region
              [SOper.mk (some 50) none (SOp.mv (Operand.tmp 9)), SOper.mk (some 51) none (SOp.mv (Operand.tmp 0)),
                SOper.mk (some 52) none (SOp.ibin BinOp.lss (Operand.tmp 50) (Operand.tmp 51))]
              [0, 1, 7, 8, 9, 52])
            (Stmt.cond (Operand.tmp 52)
              (Stmt.seq
                (Stmt.region
                  [SOper.mk (some 53) none (SOp.mv (Operand.tmp 9)), SOper.mk (some 54) none (SOp.mv (Operand.tmp 8)),
                    SOper.mk (some 4) none (SOp.mv (Operand.tmp 53)), SOper.mk (some 5) none (SOp.mv (Operand.tmp 54)),
                    SOper.mk (some 6) none (SOp.mv (Operand.const (Value.int IntKind.i64 0)))]
                  [4, 5, 6])
                Stmt.ret)
              Stmt.skip))))))
def S21_0 : Stmt :=
  Stmt.seq
  (Stmt.region
    [SOper.mk (some 4) none (SOp.mv (Operand.const (Value.int IntKind.i64 0))),
      SOper.mk (some 5) none (SOp.mv (Operand.const (Value.int IntKind.i64 0))),
      SOper.mk (some 6) none (SOp.mv (Operand.const (Value.int IntKind.i64 0)))]
    [0, 1])
  (Stmt.seq
    (Stmt.seq
      (Stmt.region
        [SOper.mk (some 12) none (SOp.mv (Operand.tmp 0)),
          SOper.mk (some 13) none (SOp.ibin BinOp.lss (Operand.tmp 12) (Operand.const (Value.int IntKind.i64 1))),
          SOper.mk (some 14) none (SOp.mv (Operand.tmp 13)),
          SOper.mk (some 15) (some (14, false)) (SOp.mv (Operand.tmp 0)),
          SOper.mk (some 16) (some (14, false))
            (SOp.ibin BinOp.gtr (Operand.tmp 15) (Operand.const (Value.int IntKind.i64 1000000000))),
          SOper.mk (some 17) none (SOp.pick (Operand.tmp 14) (Operand.const (Value.bool true)) (Operand.tmp 16))]
        [0, 1, 17])
      (Stmt.cond (Operand.tmp 17)
        (Stmt.seq
          (Stmt.region
            [SOper.mk (some 4) none (SOp.mv (Operand.const (Value.int IntKind.i64 0))),
              SOper.mk (some 5) none (SOp.mv (Operand.const (Value.int IntKind.i64 0))),
              SOper.mk (some 6) none (SOp.mv (Operand.const (Value.int IntKind.i64 1)))]
            [4, 5, 6])
          Stmt.ret)
        Stmt.skip))
    (Stmt.seq (Stmt.region [SOper.mk (some 7) none (SOp.mv (Operand.const (Value.int IntKind.i64 0)))] [0, 1, 7])
      (Stmt.seq (Stmt.block 0 (Stmt.loop S21_1 [7] [0, 1]))
        (Stmt.seq
          (Stmt.seq
            (Stmt.region [SOper.mk (some 8) none (SOp.mv (Operand.const (Value.int IntKind.i64 0)))] [0, 1, 7, 8])
            (Stmt.block 2 (Stmt.loop S21_5 [8] [0, 1, 7])))
          (Stmt.seq
            (Stmt.region
              [SOper.mk (some 4) none (SOp.mv (Operand.const (Value.int IntKind.i64 0))),
                SOper.mk (some 5) none (SOp.mv (Operand.const (Value.int IntKind.i64 0))),
                SOper.mk (some 6) none (SOp.mv (Operand.const (Value.int IntKind.i64 5)))]
              [4, 5, 6])
            Stmt.ret)))))
def S21 : FnS := ⟨55, [(4, none), (5, none), (6, none)], S21_0⟩
theorem tr21 : trFn Try.prog 21 [] [[0, 1], [0, 1, 17], [4, 5, 6], [0, 1, 7], [7], [0, 1], [0, 1, 7, 21], [0, 1, 7], [0, 1, 7, 8], [8], [0, 1, 7], [0, 1, 7, 8, 29], [0, 1, 7, 8, 9], [0, 1, 7, 8, 9, 35, 36, 37], [9, 37], [0, 1, 7, 8, 35, 36], [0, 1, 7, 8, 9, 35, 36, 37, 38], [9], [0, 1, 7, 8, 35, 36, 37], [0, 1, 7, 8, 9, 11, 35, 36, 37], [0, 1, 7, 8, 9, 11, 35, 36, 37], [0, 1, 7, 8, 9, 35, 36, 37, 43], [0, 1, 7, 8, 9, 35, 36, 37], [0, 1, 7, 8, 9, 35, 36, 37], [0, 1, 7, 8, 9], [0, 1, 7, 8, 9, 52], [4, 5, 6], [4, 5, 6]] = some S21 := by kernel_rfl
end Go.Proofs.Ytniobbepliknmaa.V
/- The text of parlance/parlref5.Coins as a statement (slots: 0 n, 1 coins, 2 n, 3 coins, 7 k, 8 p, 9 i, 10 part, 11 x, 12 j); no condition. -/
namespace Go.Proofs.Ytniobbepliknmaa.V
open Go
def S22_1 : Stmt :=
  Stmt.seq
  (Stmt.seq
    (Stmt.region
      [SOper.mk (some 13) none (SOp.mv (Operand.tmp 8)), SOper.mk (some 14) none (SOp.mv (Operand.tmp 0)),
        SOper.mk (some 15) none (SOp.ibin BinOp.lss (Operand.tmp 13) (Operand.tmp 14))]
      [0, 1, 7, 8, 15])
    (Stmt.cond (Operand.tmp 15) Stmt.skip (Stmt.exit 0)))
  (Stmt.seq
    (Stmt.block 1
      (Stmt.region
        [SOper.mk (some 18) none (SOp.mv (Operand.tmp 7)),
          SOper.mk (some 19) none (SOp.ibin BinOp.add (Operand.tmp 18) (Operand.const (Value.int IntKind.i64 1))),
          SOper.mk (some 7) none (SOp.mv (Operand.tmp 19))]
        [0, 1, 7, 8]))
    (Stmt.region
      [SOper.mk (some 16) none (SOp.mv (Operand.tmp 8)),
        SOper.mk (some 17) none (SOp.ibin BinOp.mul (Operand.tmp 16) (Operand.const (Value.int IntKind.i64 2))),
        SOper.mk (some 8) none (SOp.mv (Operand.tmp 17))]
      [0, 1, 7, 8]))
def S22_2 : Stmt :=
  Stmt.block 5
  (Stmt.seq
    (Stmt.region [SOper.mk (some 40) none (SOp.mv (Operand.tmp 38)), SOper.mk (some 12) none (SOp.mv (Operand.tmp 40))]
      [0, 1, 7, 9, 10, 11, 12, 37, 38])
    (Stmt.seq
      (Stmt.region
        [SOper.mk (some 41) none (SOp.mv (Operand.tmp 10)), SOper.mk (some 42) none (SOp.mv (Operand.tmp 12)),
          SOper.mk (some 43) none (SOp.idx 1 (Operand.tmp 41) (Operand.tmp 42)),
          SOper.mk (some 44) none (SOp.load false 1 (Operand.tmp 43))]
        [0, 1, 7, 9, 10, 11, 12, 37, 38, 44])
      (Stmt.cond (Operand.tmp 44)
        (Stmt.region
          [SOper.mk (some 45) none (SOp.mv (Operand.tmp 11)), SOper.mk (some 46) none (SOp.mv (Operand.tmp 7)),
            SOper.mk (some 47) none (SOp.ibin BinOp.sub (Operand.tmp 46) (Operand.const (Value.int IntKind.i64 1))),
            SOper.mk (some 48) none (SOp.mv (Operand.tmp 12)),
            SOper.mk (some 49) none (SOp.ibin BinOp.sub (Operand.tmp 47) (Operand.tmp 48)),
            SOper.mk (some 50) none (SOp.ishift BinOp.shl (Operand.const (Value.int IntKind.i64 1)) (Operand.tmp 49)),
            SOper.mk (some 51) none (SOp.ibin BinOp.add (Operand.tmp 45) (Operand.tmp 50)),
            SOper.mk (some 11) none (SOp.mv (Operand.tmp 51))]
          [0, 1, 7, 9, 10, 11, 37, 38])
        Stmt.skip)))
def S22_3 : Stmt :=
  Stmt.region
  [SOper.mk (some 52) none (SOp.ibin BinOp.add (Operand.tmp 38) (Operand.const (Value.int IntKind.i64 1))),
    SOper.mk (some 38) none (SOp.mv (Operand.tmp 52))]
  [0, 1, 7, 9, 10, 11, 37, 38]
def S22_4 : Stmt :=
  Stmt.seq
  (Stmt.region [SOper.mk (some 39) none (SOp.ibin BinOp.lss (Operand.tmp 38) (Operand.tmp 37))]
    [0, 1, 7, 9, 10, 11, 37, 38, 39])
  (Stmt.seq (Stmt.cond (Operand.tmp 39) Stmt.skip (Stmt.exit 4)) (Stmt.join S22_2 S22_3 [11] [0, 1, 7, 9, 10, 37, 38]))
def S22_5 : Stmt :=
  Stmt.seq
  (Stmt.seq
    (Stmt.region
      [SOper.mk (some 20) none (SOp.mv (Operand.tmp 9)), SOper.mk (some 21) none (SOp.mv (Operand.tmp 7)),
        SOper.mk (some 22) none (SOp.ibin BinOp.mul (Operand.tmp 20) (Operand.tmp 21)),
        SOper.mk (some 23) none (SOp.mv (Operand.tmp 1)), SOper.mk (some 24) none (SOp.len false (Operand.tmp 23)),
        SOper.mk (some 25) none (SOp.ibin BinOp.leq (Operand.tmp 22) (Operand.tmp 24))]
      [0, 1, 7, 9, 25])
    (Stmt.cond (Operand.tmp 25) Stmt.skip (Stmt.exit 2)))
  (Stmt.seq
    (Stmt.block 3
      (Stmt.seq
        (Stmt.region
          [SOper.mk (some 28) none (SOp.mv (Operand.tmp 1)), SOper.mk (some 29) none (SOp.mv (Operand.tmp 9)),
            SOper.mk (some 30) none (SOp.mv (Operand.tmp 7)),
            SOper.mk (some 31) none (SOp.ibin BinOp.mul (Operand.tmp 29) (Operand.tmp 30)),
            SOper.mk (some 32) none (SOp.slc 1 (Operand.tmp 28) (some (Operand.tmp 31)) none none),
            SOper.mk (some 10) none (SOp.mv (Operand.tmp 32))]
          [0, 1, 7, 9, 10])
        (Stmt.seq
          (Stmt.seq
            (Stmt.region
              [SOper.mk (some 33) none (SOp.mv (Operand.tmp 10)),
                SOper.mk (some 34) none (SOp.len false (Operand.tmp 33)),
                SOper.mk (some 35) none (SOp.mv (Operand.tmp 7)),
                SOper.mk (some 36) none (SOp.ibin BinOp.lss (Operand.tmp 34) (Operand.tmp 35))]
              [0, 1, 7, 9, 10, 36])
            (Stmt.cond (Operand.tmp 36)
              (Stmt.seq
                (Stmt.region
                  [SOper.mk (some 4) none (SOp.mv (Operand.const (Value.int IntKind.i64 0))),
                    SOper.mk (some 5) none (SOp.mv (Operand.const (Value.int IntKind.i64 0))),
                    SOper.mk (some 6) none (SOp.mv (Operand.const (Value.bool false)))]
                  [4, 5, 6])
                Stmt.ret)
              Stmt.skip))
          (Stmt.seq
            (Stmt.region [SOper.mk (some 11) none (SOp.mv (Operand.const (Value.int IntKind.i64 0)))]
              [0, 1, 7, 9, 10, 11])
            (Stmt.seq
              (Stmt.seq
                (Stmt.region
                  [SOper.mk (some 37) none (SOp.mv (Operand.tmp 7)),
                    SOper.mk (some 38) none (SOp.mv (Operand.const (Value.int IntKind.i64 0)))]
                  [0, 1, 7, 9, 10, 11, 37, 38])
                (Stmt.block 4 (Stmt.loop S22_4 [11, 38] [0, 1, 7, 9, 10, 37])))
              (Stmt.seq
                (Stmt.region
                  [SOper.mk (some 53) none (SOp.mv (Operand.tmp 11)), SOper.mk (some 54) none (SOp.mv (Operand.tmp 0)),
                    SOper.mk (some 55) none (SOp.ibin BinOp.lss (Operand.tmp 53) (Operand.tmp 54))]
                  [0, 1, 7, 9, 11, 55])
                (Stmt.cond (Operand.tmp 55)
                  (Stmt.seq
                    (Stmt.region
                      [SOper.mk (some 56) none (SOp.mv (Operand.tmp 11)),
                        SOper.mk (some 57) none (SOp.mv (Operand.tmp 9)),
                        SOper.mk (some 58) none
                          (SOp.ibin BinOp.add (Operand.tmp 57) (Operand.const (Value.int IntKind.i64 1))),
                        SOper.mk (some 59) none (SOp.mv (Operand.tmp 7)),
                        SOper.mk (some 60) none (SOp.ibin BinOp.mul (Operand.tmp 58) (Operand.tmp 59)),
                        SOper.mk (some 4) none (SOp.mv (Operand.tmp 56)),
                        SOper.mk (some 5) none (SOp.mv (Operand.tmp 60)),
                        SOper.mk (some 6) none (SOp.mv (Operand.const (Value.bool true)))]
                      [4, 5, 6])
                    Stmt.ret)
                  Stmt.skip)))))))
    (Stmt.region
      [SOper.mk (some 26) none (SOp.mv (Operand.tmp 9)),
        SOper.mk (some 27) none (SOp.ibin BinOp.add (Operand.tmp 26) (Operand.const (Value.int IntKind.i64 1))),
        SOper.mk (some 9) none (SOp.mv (Operand.tmp 27))]
      [0, 1, 7, 9]))
def S22_0 : Stmt :=
  Stmt.seq
  (Stmt.region
    [SOper.mk (some 4) none (SOp.mv (Operand.const (Value.int IntKind.i64 0))),
      SOper.mk (some 5) none (SOp.mv (Operand.const (Value.int IntKind.i64 0))),
      SOper.mk (some 6) none (SOp.mv (Operand.const (Value.bool false)))]
    [0, 1])
  (Stmt.seq (Stmt.region [SOper.mk (some 7) none (SOp.mv (Operand.const (Value.int IntKind.i64 0)))] [0, 1, 7])
    (Stmt.seq
      (Stmt.seq (Stmt.region [SOper.mk (some 8) none (SOp.mv (Operand.const (Value.int IntKind.i64 1)))] [0, 1, 7, 8])
        (Stmt.block 0 (Stmt.loop S22_1 [7, 8] [0, 1])))
      (Stmt.seq
        (Stmt.seq (Stmt.region [SOper.mk (some 9) none (SOp.mv (Operand.const (Value.int IntKind.i64 0)))] [0, 1, 7, 9])
          (Stmt.block 2 (Stmt.loop S22_5 [9] [0, 1, 7])))
        (Stmt.seq
          (Stmt.region
            [SOper.mk (some 4) none (SOp.mv (Operand.const (Value.int IntKind.i64 0))),
              SOper.mk (some 5) none (SOp.mv (Operand.const (Value.int IntKind.i64 0))),
              SOper.mk (some 6) none (SOp.mv (Operand.const (Value.bool false)))]
            [4, 5, 6])
          Stmt.ret))))
def S22 : FnS := ⟨61, [(4, none), (5, none), (6, none)], S22_0⟩
theorem tr22 : trFn Try.prog 22 [] [[0, 1], [0, 1, 7], [0, 1, 7, 8], [7, 8], [0, 1], [0, 1, 7, 8, 15], [0, 1, 7, 8], [0, 1, 7, 8], [0, 1, 7, 9], [9], [0, 1, 7], [0, 1, 7, 9, 25], [0, 1, 7, 9, 10], [0, 1, 7, 9, 10, 36], [4, 5, 6], [0, 1, 7, 9, 10, 11], [0, 1, 7, 9, 10, 11, 37, 38], [11, 38], [0, 1, 7, 9, 10, 37], [0, 1, 7, 9, 10, 11, 37, 38, 39], [11], [0, 1, 7, 9, 10, 37, 38], [0, 1, 7, 9, 10, 11, 12, 37, 38], [0, 1, 7, 9, 10, 11, 12, 37, 38, 44], [0, 1, 7, 9, 10, 11, 37, 38], [0, 1, 7, 9, 10, 11, 37, 38], [0, 1, 7, 9, 11, 55], [4, 5, 6], [0, 1, 7, 9], [4, 5, 6]] = some S22 := by kernel_rfl
end Go.Proofs.Ytniobbepliknmaa.V
/- Numbers by coins: the plain law of draw.Number and parlref5.Coins, and both walked; no condition. -/
namespace Go.Proofs.Ytniobbepliknmaa.V
open Go
set_option linter.unusedVariables false
set_option linter.unusedSimpArgs false
attribute [local go_sem] e_seq e_region e_quiet e_join e_loop e_cond e_block e_exit e_ret e_skip e_fin e_kseq e_snrm e_sret e_sex e_bnrm e_bret e_bex e_rnrm e_rret e_res e_condC e_nil e_g e_mv g_mv e_pick g_pick pickC_eq e_ibin g_ibin ibinC_eq e_sbin g_sbin e_beq g_beq beqC_eq e_nilq g_nilq nilqC_sl nilqC_pt nilqC_mp e_un g_un unC_not unC_neg e_conv g_conv convC_eq e_fld g_fld fldC_ref fldC_ptr e_nilCheck g_nilCheck nilCheckC_ref nilCheckC_ptr nilCheckC_fun e_field g_field fieldC_eq e_len g_len lenC_sl lenC_str e_extract g_extract extractC_eq e_mkFunc e_build g_build e_idiv g_idiv idivC_eq e_ishift g_ishift ishiftC_eq e_idx g_idx e_idxA g_idxA e_load g_load loadC_ref loadC_ptr loadB_eq e_slc g_slc e_box boxC_loc boxC_esc e_alloc allocC_loc allocC_esc e_buildS e_store storeC_ref storeC_ptr storeB_eq e_append e_appz e_mk mkC_eq e_call callC_eq e_fn g_fn fnC_eq fnV_min' fnV_max' fnV_rune' e_q g_q e_a e_n g_call g_box g_alloc g_buildS g_store g_append g_mk g_a g_n g_dead e_dead e_callK e_drawn e_tree e_finJ e_tk e_tfin e_tno e_nbt_q e_nbt_qn e_nbt_a e_nbt_an e_nbt_fin e_early_nil e_early_t e_early_f e_nob_nil e_nob_none e_nob_some isBox_dead isBox_v isBox_ref e_dnil e_dk e_ek e_finB vcOps_vc1 e_dcons e_tq e_ekt e_tearly e_talt e_dearly look_nil look_c proj_nil proj_c looks_nil looks_c zip_nil zip_c val_tmp val_const val_func slv_v slv_box slv_ref slot_tmp slot_const slot_func slotL_v slotL_box slotL_ref put_some put_none updBox_c boxSet_box gd_eq slotVals_nil slotVals_c slotVals_b boxV_box boxOn_box slotsOn_nil slotsOn_c slotsOn_b resV_one resV_two vals_nil vals_c allOn_nil allOn_c partOn_nil partOn_c partVals_nil partVals_c fits_nil fits_c fillL_nil fillL_c mkv_one mkv_agg cellsV_agg cellsV_int cellsV_bool cellsV_slice cellsV_string cellsV_pointer cellsV_func cellsV_nilf cellsV_map one'_nil one'_c oc_int oc_bool oc_slice oc_string oc_pointer oc_func oc_nilf oc_map setC_eq iv_add iv_sub iv_mul iv_eql iv_neq iv_lss iv_leq iv_gtr iv_geq iok_add iok_sub iok_mul iok_eql iok_neq iok_lss iok_leq iok_gtr iok_geq pickV_bool args0_nil args0_c bnd_none bnd_some imp_bt imp_bf imp_ebt imp_ebf imp_eb1 imp_np imp_pp beq_tt beq_tf beq_ft beq_ff cond_or cond_and e_round e_meet Int.le_refl Int.toNat_zero decide_true decide_false Bool.or_false Bool.false_or Bool.true_or Bool.or_true Bool.and_false Bool.false_and Bool.bne_false Bool.bne_true beq_iff_eq Int.cast_ofNat_Int not_false_eq_true not_true_eq_false false_and and_false false_implies true_implies true_and and_true Bool.true_and Bool.and_true Bool.not_true Bool.not_false forall_const implies_true List.take_zero List.drop_zero List.take_succ_cons List.drop_succ_cons List.take_nil List.drop_nil List.length_cons List.length_nil List.nil_append List.append_nil List.cons_append Int.toNat_natCast decide_eq_true_eq decide_eq_false_iff_not cond_true cond_false and_self List.getElem?_cons_zero List.getElem?_cons_succ List.set_cons_zero List.set_cons_succ Option.some.injEq exists_eq_left' Nat.zero_add Nat.add_zero Nat.mul_one imp_self true_or or_true or_false false_or Bool.or_eq_true Bool.or_eq_false_iff Bool.and_eq_true Bool.and_eq_false_iff Bool.not_eq_true' Bool.not_eq_false'

/-- the number that coins tell, the first one being worth most -/
def bval (l : List Bool) : Nat := l.foldl (fun x c => 2 * x + c.toNat) 0
def coinsG (n b : Nat) (coins : List Bool) : Nat → Nat → Option (Nat × Nat)
  | 0, _ => none
  | f + 1, used => if used + b ≤ coins.length then
      (if bval ((coins.drop used).take b) < n then some (bval ((coins.drop used).take b), used + b) else coinsG n b coins f (used + b)) else none
/-- how many coins tell a number below n -/
def bitsG (n : Nat) : Nat → Nat → Nat
  | 0, b => b
  | f + 1, b => if 2 ^ b < n then bitsG n f (b + 1) else b
def coinsF (n : Nat) (coins : List Bool) : Option (Nat × Nat) := coinsG n (bitsG n 40 0) coins (coins.length + 1) 0

theorem bval_snoc (l : List Bool) (c : Bool) : bval (l ++ [c]) = 2 * bval l + c.toNat := by simp [bval]
theorem bval_lt (l : List Bool) : bval l < 2 ^ l.length := by
  suffices h : ∀ (l : List Bool) (x : Nat), l.foldl (fun x c => 2 * x + c.toNat) x < (x + 1) * 2 ^ l.length by simpa [bval] using h l 0
  intro l
  induction l with
  | nil => intro x; simp
  | cons c l ih =>
    intro x
    have h := ih (2 * x + c.toNat)
    have hc : c.toNat ≤ 1 := by cases c <;> simp
    simp only [List.foldl_cons, List.length_cons]
    refine Nat.lt_of_lt_of_le h ?_
    rw [Nat.pow_succ, Nat.mul_comm (2 ^ l.length) 2, ← Nat.mul_assoc]
    exact Nat.mul_le_mul_right _ (by omega)

/-- the bits that are found are few -/
theorem bitsG_le (n : Nat) (hn : n ≤ 2 ^ 40) : ∀ f b, b + f = 40 → bitsG n f b ≤ 40
  | 0, b, h => by simp [bitsG]; omega
  | f + 1, b, h => by
    simp only [bitsG]
    split
    · exact bitsG_le n hn f (b + 1) (by omega)
    · omega

theorem shl_one (b : Nat) (hb : b ≤ 40) : ishiftV .shl .i64 1 (b : Int) = .int .i64 ((2 ^ b : Nat) : Int) := by
  have h1 : min (b : Int).toNat IntKind.i64.bits = b := by
    have : IntKind.i64.bits = 64 := rfl
    rw [this]; omega
  have h2 : (2 : Nat) ^ b ≤ 2 ^ 40 := Nat.pow_le_pow_right (by omega) hb
  simp only [ishiftV, h1, Int.one_mul]
  rw [wrap_id]
  · simp
  · have : (0 : Int) ≤ ((2 ^ b : Nat) : Int) := Int.natCast_nonneg _
    simp at this ⊢; omega
  · have h3 : ((2 ^ b : Nat) : Int) ≤ ((2 ^ 40 : Nat) : Int) := by exact_mod_cast h2
    simp at h3 ⊢; omega

theorem draw_number {Γr : Ctx} (n : Int) (A : Option Addr) (c : Nat) (coins : List Bool) (hc : SlOk (lk Γr) A c coins) :
    Ret Try.prog 21 [.int .i64 n, .slice A coins.length c] Γr [] (fun v Γ => Γ = [] ∧
      v = if n < 1 ∨ 1000000000 < n then .tuple #[.int .i64 0, .int .i64 0, .int .i64 1] else
        match coinsF n.toNat coins with
        | some (x, u) => .tuple #[.int .i64 x, .int .i64 u, .int .i64 0]
        | none => .tuple #[.int .i64 0, .int .i64 0, .int .i64 5]) := by
  generalize hR : (fun v Γ => Γ = [] ∧ v = _) = R
  refine ret_of_vc tr21 (Nat.le_of_ble_eq_true rfl) ?_
  simp only [S21, S21_0, go_sem, Nat.reduceBEq, Nat.reduceAdd, Nat.reduceSub, Nat.reduceMul, Nat.reduceLeDiff, reduceCtorEq, ↓reduceIte, Int.reduceLT, Int.reduceLE, Int.reduceEq, Int.reduceNe]
  refine ⟨fun h => Up.here ?_, fun hn => ?_⟩
  · subst hR
    rw [if_pos h]
    exact ⟨rfl, rfl⟩
  have hno : ¬ (n < 1 ∨ 1000000000 < n) := by omega
  obtain ⟨m, rfl⟩ : ∃ m : Nat, n = m := ⟨n.toNat, by omega⟩
  have hlen := hc.short
  have hm40 : m ≤ 2 ^ 40 := by omega
  -- how many bits
  refine s_loop (fun f vs Γ => Γ = [] ∧ ∃ b : Nat, vs = [.v true (.int .i64 b)] ∧ b + f = 40 ∧ bitsG m f b = bitsG m 40 0) 40 (Up.here ⟨rfl, 0, rfl, rfl, rfl⟩) ?_
  rintro f vs Γ ⟨rfl, b, rfl, hbf, hb⟩
  simp only [S21_1, go_sem, Nat.reduceBEq, Nat.reduceAdd, Nat.reduceSub, Nat.reduceMul, Nat.reduceLeDiff, reduceCtorEq, ↓reduceIte, Int.reduceLT, Int.reduceLE, Int.reduceEq, Int.reduceNe]
  have hb40 : b ≤ 40 := by omega
  rw [shl_one b hb40]
  simp only [go_sem, Nat.reduceBEq, Nat.reduceAdd, Nat.reduceSub, Nat.reduceMul, Nat.reduceLeDiff, reduceCtorEq, ↓reduceIte, Int.reduceLT, Int.reduceLE, Int.reduceEq, Int.reduceNe]
  refine ⟨by omega, fun hlt => ?_, fun hge => ?_⟩
  · have hf : f ≠ 0 := by
      intro h0
      subst h0
      have : b = 40 := by omega
      subst this
      omega
    obtain ⟨f, rfl⟩ := Nat.exists_eq_succ_of_ne_zero hf
    refine ⟨f, by omega, Up.here ⟨rfl, b + 1, ?_, by omega, ?_⟩⟩
    · rw [wrap_id (by omega) (by omega)]; rfl
    · rw [← hb]
      have : 2 ^ b < m := by exact_mod_cast hlt
      simp [bitsG, this]
  · have hbits : bitsG m 40 0 = b := by
      rw [← hb]
      have : ¬ 2 ^ b < m := by intro q; exact hge (by exact_mod_cast q)
      cases f <;> simp [bitsG, this]
    -- chunk after chunk
    refine s_loop (fun f vs Γ => Γ = [] ∧ ∃ used : Nat, vs = [.v true (.int .i64 used)] ∧ used ≤ coins.length ∧ coins.length < f + used ∧ coinsG m b coins f used = coinsF m coins) (coins.length + 1)
      (Up.here ⟨rfl, 0, rfl, by omega, by omega, by rw [coinsF, hbits]⟩) ?_
    rintro f vs Γ ⟨rfl, used, rfl, hu, hfu, hres⟩
    simp only [S21_5, go_sem, Nat.reduceBEq, Nat.reduceAdd, Nat.reduceSub, Nat.reduceMul, Nat.reduceLeDiff, reduceCtorEq, ↓reduceIte, Int.reduceLT, Int.reduceLE, Int.reduceEq, Int.reduceNe]
    obtain ⟨f, rfl⟩ : ∃ k, f = k + 1 := ⟨f - 1, by omega⟩
    rw [wrap_id (by omega) (by omega)]
    simp only [coinsG] at hres
    refine ⟨fun hle => ?_, fun hgt => ?_⟩
    · have hle' : used + b ≤ coins.length := by omega
      rw [if_pos hle'] at hres
      refine s_slice used (used + b) ?_ ?_ (by omega) (by have := hc.cap; omega) ?_
      · simp only [go_sem, Nat.reduceBEq, Nat.reduceAdd, Nat.reduceSub, Nat.reduceMul, Nat.reduceLeDiff, reduceCtorEq, ↓reduceIte, Int.reduceLT, Int.reduceLE, Int.reduceEq, Int.reduceNe]
        exact ⟨.i64, rfl⟩
      · simp only [go_sem, Nat.reduceBEq, Nat.reduceAdd, Nat.reduceSub, Nat.reduceMul, Nat.reduceLeDiff, reduceCtorEq, ↓reduceIte, Int.reduceLT, Int.reduceLE, Int.reduceEq, Int.reduceNe]
        exact ⟨.i64, by simp⟩
      simp only [go_sem, Nat.reduceBEq, Nat.reduceAdd, Nat.reduceSub, Nat.reduceMul, Nat.reduceLeDiff, reduceCtorEq, ↓reduceIte, Int.reduceLT, Int.reduceLE, Int.reduceEq, Int.reduceNe]
      have hsl := hc.slice (l := used) (m := used + b) (by omega) hle'
      have hck : (coins.take (used + b)).drop used = (coins.drop used).take b := by
        rw [← List.take_drop]
      rw [hck] at hsl
      obtain ⟨ch, hch⟩ : ∃ ch, ch = (coins.drop used).take b := ⟨_, rfl⟩
      have hcl : ch.length = b := by rw [hch]; simp; omega
      rw [← hch] at hsl hres
      obtain ⟨A', hA'⟩ : ∃ A', A' = (if c = used then A else A.map (fun x => x.add used)) := ⟨_, rfl⟩
      have hsl' : SlOk (lk Γr) A' (c - used) ch := by rw [hA']; simpa [Rep.sz] using hsl
      rw [← hA', show used + b - used = b by omega]
      -- the number that the chunk tells
      refine s_loop (fun g vs Γ => Γ = [] ∧ ∃ j : Nat, vs = [.v true (.int .i64 (bval (ch.take j) : Nat)), .v true (.int .i64 j)] ∧ j + g = b) b
        (Up.here ⟨rfl, 0, by simp [bval, looks, look], by omega⟩) ?_
      rintro g vs Γ ⟨rfl, j, rfl, hjg⟩
      have hbv := bval_lt (ch.take j)
      have hb2 : 2 ^ (ch.take j).length ≤ 2 ^ 40 := Nat.pow_le_pow_right (by omega) (by simp; omega)
      simp only [S21_4, go_sem, Nat.reduceBEq, Nat.reduceAdd, Nat.reduceSub, Nat.reduceMul, Nat.reduceLeDiff, reduceCtorEq, ↓reduceIte, Int.reduceLT, Int.reduceLE, Int.reduceEq, Int.reduceNe]
      refine ⟨fun hlt => ?_, fun hge2 => ?_⟩
      · have hj : j < b := by omega
        have hjc : j < ch.length := by omega
        refine s_split ?_
        obtain ⟨bb, oo, rfl, cs, hok, hcells⟩ := hsl'.elem (i := j) (x := ch[j]) (List.getElem?_eq_getElem hjc)
        obtain rfl := ok_bool hok
        simp only [S21_2, S21_3, go_sem, Nat.reduceBEq, Nat.reduceAdd, Nat.reduceSub, Nat.reduceMul, Nat.reduceLeDiff, reduceCtorEq, ↓reduceIte, Int.reduceLT, Int.reduceLE, Int.reduceEq, Int.reduceNe]
        refine s_idx rfl (by omega) (by omega) ?_
        simp only [go_sem, Nat.reduceBEq, Nat.reduceAdd, Nat.reduceSub, Nat.reduceMul, Nat.reduceLeDiff, reduceCtorEq, ↓reduceIte, Int.reduceLT, Int.reduceLE, Int.reduceEq, Int.reduceNe]
        refine s_load (vs := [.bool ch[j]]) (by simpa [Rep.sz] using hcells _ (Mem.le.refl _)) ?_
        simp only [go_sem, Nat.reduceBEq, Nat.reduceAdd, Nat.reduceSub, Nat.reduceMul, Nat.reduceLeDiff, reduceCtorEq, ↓reduceIte, Int.reduceLT, Int.reduceLE, Int.reduceEq, Int.reduceNe]
        have w1 : IntKind.i64.wrap (((bval (ch.take j) : Nat) : Int) * 2) = ((bval (ch.take j) : Nat) : Int) * 2 := wrap_id (by omega) (by omega)
        have w2 : IntKind.i64.wrap (((bval (ch.take j) : Nat) : Int) * 2 + 1) = ((bval (ch.take j) : Nat) : Int) * 2 + 1 := wrap_id (by omega) (by omega)
        have w3 : IntKind.i64.wrap ((j : Int) + 1) = (j : Int) + 1 := wrap_id (by omega) (by omega)
        simp only [w1, w2, w3]
        have htake : ch.take (j + 1) = ch.take j ++ [ch[j]] := by rw [List.take_succ_eq_append_getElem hjc]
        have hstep : bval (ch.take (j + 1)) = 2 * bval (ch.take j) + ch[j].toNat := by rw [htake, bval_snoc]
        refine ⟨fun ht => ?_, fun ht => ?_⟩
        · refine Up.here ⟨g - 1, by omega, Up.here ⟨rfl, j + 1, ?_, by omega⟩⟩
          rw [hstep, ht]
          simp
          omega
        · refine Up.here ⟨g - 1, by omega, Up.here ⟨rfl, j + 1, ?_, by omega⟩⟩
          rw [hstep, ht]
          simp
          omega
      · have hj : j = b := by omega
        subst hj
        have htk : ch.take j = ch := by rw [← hcl]; exact List.take_length
        rw [htk]
        rw [wrap_id (by omega) (by omega)]
        refine ⟨fun hlt => ?_, fun hge3 => ?_⟩
        · have : bval ch < m := by exact_mod_cast hlt
          rw [if_pos this] at hres
          refine Up.here ?_
          subst hR
          refine ⟨rfl, ?_⟩
          rw [if_neg hno]
          simp [← hres]
        · have : ¬ bval ch < m := by intro q; exact hge3 (by exact_mod_cast q)
          rw [if_neg this] at hres
          have hjpos : 0 < j := by
            rcases Nat.eq_zero_or_pos j with q | q
            · subst q
              have : ch = [] := List.eq_nil_of_length_eq_zero hcl
              subst this
              simp [bval] at hge3
              omega
            · exact q
          exact ⟨f, by omega, Up.here ⟨rfl, used + j, by simp, hle', by omega, hres⟩⟩
    · have hgt' : ¬ used + b ≤ coins.length := by omega
      rw [if_neg hgt'] at hres
      refine Up.here ?_
      subst hR
      refine ⟨rfl, ?_⟩
      rw [if_neg hno]
      simp [← hres]

theorem ref_coins {Γr : Ctx} (m : Nat) (hm0 : 1 ≤ m) (hm1 : m ≤ 1000000000) (A : Option Addr) (c : Nat) (coins : List Bool) (hc : SlOk (lk Γr) A c coins) :
    Ret Try.prog 22 [.int .i64 m, .slice A coins.length c] Γr [] (fun v Γ => Γ = [] ∧
      v = match coinsF m coins with
        | some (x, u) => .tuple #[.int .i64 x, .int .i64 u, .bool true]
        | none => .tuple #[.int .i64 0, .int .i64 0, .bool false]) := by
  generalize hR : (fun v Γ => Γ = [] ∧ v = _) = R
  refine ret_of_vc tr22 (Nat.le_of_ble_eq_true rfl) ?_
  simp only [S22, S22_0, go_sem, Nat.reduceBEq, Nat.reduceAdd, Nat.reduceSub, Nat.reduceMul, Nat.reduceLeDiff, reduceCtorEq, ↓reduceIte, Int.reduceLT, Int.reduceLE, Int.reduceEq, Int.reduceNe]
  have hlen := hc.short
  refine s_loop (fun f vs Γ => Γ = [] ∧ ∃ b : Nat, vs = [.v true (.int .i64 b), .v true (.int .i64 (2 ^ b : Nat))] ∧ b + f = 40 ∧ bitsG m f b = bitsG m 40 0) 40 (Up.here ⟨rfl, 0, rfl, rfl, rfl⟩) ?_
  rintro f vs Γ ⟨rfl, b, rfl, hbf, hb⟩
  have hb40 : b ≤ 40 := by omega
  have hpow : 2 ^ b ≤ 2 ^ 40 := Nat.pow_le_pow_right (by omega) hb40
  simp only [S22_1, go_sem, Nat.reduceBEq, Nat.reduceAdd, Nat.reduceSub, Nat.reduceMul, Nat.reduceLeDiff, reduceCtorEq, ↓reduceIte, Int.reduceLT, Int.reduceLE, Int.reduceEq, Int.reduceNe]
  refine ⟨fun hlt => ?_, fun hge => ?_⟩
  · have hlt' : 2 ^ b < m := by exact_mod_cast hlt
    have hf : f ≠ 0 := by
      intro h0
      subst h0
      have : b = 40 := by omega
      subst this
      omega
    obtain ⟨f, rfl⟩ := Nat.exists_eq_succ_of_ne_zero hf
    refine ⟨f, by omega, Up.here ⟨rfl, b + 1, ?_, by omega, ?_⟩⟩
    · have hq : IntKind.i64.wrap (((2 ^ b : Nat) : Int) * 2) = ((2 ^ (b + 1) : Nat) : Int) := by
        rw [Nat.pow_succ]
        obtain ⟨p, hp⟩ : ∃ p, p = 2 ^ b := ⟨_, rfl⟩
        rw [← hp] at hpow ⊢
        rw [wrap_id (by omega) (by omega)]
        rfl
      have hq2 : IntKind.i64.wrap ((b : Int) + 1) = ((b + 1 : Nat) : Int) := wrap_id (by omega) (by omega)
      rw [hq, hq2]
    · rw [← hb]
      simp [bitsG, hlt']
  · have hge' : ¬ 2 ^ b < m := by intro q; exact hge (by exact_mod_cast q)
    have hbits : bitsG m 40 0 = b := by
      rw [← hb]
      cases f <;> simp [bitsG, hge']
    refine s_loop (fun f vs Γ => Γ = [] ∧ ∃ i used : Nat, vs = [.v true (.int .i64 i)] ∧ used = i * b ∧ i ≤ used ∧ used ≤ coins.length ∧ coins.length < f + used ∧ coinsG m b coins f used = coinsF m coins) (coins.length + 1)
      (Up.here ⟨rfl, 0, 0, rfl, by omega, by omega, by omega, by omega, by rw [coinsF, hbits]⟩) ?_
    rintro f vs Γ ⟨rfl, i, used, rfl, hui, hiu, hu, hfu, hres⟩
    have wi : IntKind.i64.wrap ((i : Int) * (b : Int)) = (used : Int) := by
      have : (i : Int) * (b : Int) = (used : Int) := by rw [hui]; simp
      rw [this]
      exact wrap_id (by omega) (by omega)
    simp only [S22_5, wi, go_sem, Nat.reduceBEq, Nat.reduceAdd, Nat.reduceSub, Nat.reduceMul, Nat.reduceLeDiff, reduceCtorEq, ↓reduceIte, Int.reduceLT, Int.reduceLE, Int.reduceEq, Int.reduceNe]
    obtain ⟨f, rfl⟩ : ∃ k, f = k + 1 := ⟨f - 1, by omega⟩
    simp only [coinsG] at hres
    refine ⟨fun _ => ?_, fun hgt => by omega⟩
    refine s_slice used coins.length ?_ ?_ (by omega) hc.cap ?_
    · simp only [go_sem, Nat.reduceBEq, Nat.reduceAdd, Nat.reduceSub, Nat.reduceMul, Nat.reduceLeDiff, reduceCtorEq, ↓reduceIte, Int.reduceLT, Int.reduceLE, Int.reduceEq, Int.reduceNe]
      exact ⟨.i64, rfl⟩
    · simp only [go_sem, Nat.reduceBEq, Nat.reduceAdd, Nat.reduceSub, Nat.reduceMul, Nat.reduceLeDiff, reduceCtorEq, ↓reduceIte, Int.reduceLT, Int.reduceLE, Int.reduceEq, Int.reduceNe]
    simp only [go_sem, Nat.reduceBEq, Nat.reduceAdd, Nat.reduceSub, Nat.reduceMul, Nat.reduceLeDiff, reduceCtorEq, ↓reduceIte, Int.reduceLT, Int.reduceLE, Int.reduceEq, Int.reduceNe]
    have hsl := hc.slice (l := used) (m := coins.length) (by omega) (Nat.le_refl _)
    rw [List.take_length] at hsl
    refine ⟨fun hshort => ?_, fun hlong => ?_⟩
    · have : ¬ used + b ≤ coins.length := by omega
      rw [if_neg this] at hres
      refine Up.here ?_
      subst hR
      exact ⟨rfl, by simp [← hres]⟩
    have hle' : used + b ≤ coins.length := by omega
    rw [if_pos hle'] at hres
    obtain ⟨A', hA'⟩ : ∃ A', A' = (if c = used then A else A.map (fun x => x.add used)) := ⟨_, rfl⟩
    have hsl' : SlOk (lk Γr) A' (c - used) (coins.drop used) := by rw [hA']; simpa [Rep.sz] using hsl
    rw [← hA']
    obtain ⟨ch, hch⟩ : ∃ ch, ch = (coins.drop used).take b := ⟨_, rfl⟩
    have hcl : ch.length = b := by rw [hch]; simp; omega
    rw [← hch] at hres
    -- the sum of what the coins are worth
    refine s_loop (fun g vs Γ => Γ = [] ∧ ∃ j : Nat, vs = [.v true (.int .i64 (bval (ch.take j) * 2 ^ (b - j) : Nat)), .v true (.int .i64 j)] ∧ j + g = b) b
      (Up.here ⟨rfl, 0, by simp [bval, looks, look], by omega⟩) ?_
    rintro g vs Γ ⟨rfl, j, rfl, hjg⟩
    have hbv := bval_lt (ch.take j)
    have hbnd : bval (ch.take j) * 2 ^ (b - j) + 2 ^ (b - j) ≤ 2 ^ 40 := by
      have h1 : (bval (ch.take j) + 1) * 2 ^ (b - j) ≤ 2 ^ j * 2 ^ (b - j) := Nat.mul_le_mul_right _ (by
        have : (ch.take j).length = j := by simp; omega
        rw [this] at hbv
        omega)
      rw [← Nat.pow_add, show j + (b - j) = b by omega, Nat.add_mul, Nat.one_mul] at h1
      omega
    simp only [S22_4, go_sem, Nat.reduceBEq, Nat.reduceAdd, Nat.reduceSub, Nat.reduceMul, Nat.reduceLeDiff, reduceCtorEq, ↓reduceIte, Int.reduceLT, Int.reduceLE, Int.reduceEq, Int.reduceNe]
    refine ⟨fun hlt => ?_, fun hge2 => ?_⟩
    · have hj : j < b := by omega
      have hjc : j < ch.length := by omega
      have hjd : j < (coins.drop used).length := by simp; omega
      have hcj : (coins.drop used)[j] = ch[j] := by simp [hch]
      refine s_split ?_
      obtain ⟨bb, oo, rfl, cs, hok, hcells⟩ := hsl'.elem (i := j) (x := ch[j]) (by rw [← hcj]; exact List.getElem?_eq_getElem hjd)
      obtain rfl := ok_bool hok
      have w1 : IntKind.i64.wrap ((b : Int) - 1) = (b : Int) - 1 := wrap_id (by omega) (by omega)
      have w2 : IntKind.i64.wrap ((b : Int) - 1 - (j : Int)) = ((b - 1 - j : Nat) : Int) := by rw [wrap_id (by omega) (by omega)]; omega
      have w3 : IntKind.i64.wrap ((j : Int) + 1) = ((j + 1 : Nat) : Int) := wrap_id (by omega) (by omega)
      have hsplit : 2 ^ (b - j) = 2 ^ (b - 1 - j) * 2 := by rw [← Nat.pow_succ]; congr 1; omega
      have w4 : IntKind.i64.wrap (((bval (ch.take j) * 2 ^ (b - j) : Nat) : Int) + ((2 ^ (b - 1 - j) : Nat) : Int)) = ((bval (ch.take j) * 2 ^ (b - j) + 2 ^ (b - 1 - j) : Nat) : Int) := by
        rw [wrap_id (by omega) (by omega)]; rfl
      have htake : ch.take (j + 1) = ch.take j ++ [ch[j]] := by rw [List.take_succ_eq_append_getElem hjc]
      have hstep : bval (ch.take (j + 1)) = 2 * bval (ch.take j) + ch[j].toNat := by rw [htake, bval_snoc]
      have hexp : b - (j + 1) = b - 1 - j := by omega
      have hnext : bval (ch.take (j + 1)) * 2 ^ (b - (j + 1)) = bval (ch.take j) * 2 ^ (b - j) + ch[j].toNat * 2 ^ (b - 1 - j) := by
        rw [hstep, hexp, hsplit, Nat.add_mul, Nat.mul_comm 2, Nat.mul_assoc, Nat.mul_comm 2]
      simp only [S22_2, S22_3, go_sem, Nat.reduceBEq, Nat.reduceAdd, Nat.reduceSub, Nat.reduceMul, Nat.reduceLeDiff, reduceCtorEq, ↓reduceIte, Int.reduceLT, Int.reduceLE, Int.reduceEq, Int.reduceNe]
      refine s_idx rfl (by omega) (by simp; omega) ?_
      simp only [go_sem, Nat.reduceBEq, Nat.reduceAdd, Nat.reduceSub, Nat.reduceMul, Nat.reduceLeDiff, reduceCtorEq, ↓reduceIte, Int.reduceLT, Int.reduceLE, Int.reduceEq, Int.reduceNe]
      refine s_load (vs := [.bool ch[j]]) (by simpa [Rep.sz] using hcells _ (Mem.le.refl _)) ?_
      simp only [w1, w2, shl_one (b - 1 - j) (by omega), w3, w4, go_sem, Nat.reduceBEq, Nat.reduceAdd, Nat.reduceSub, Nat.reduceMul, Nat.reduceLeDiff, reduceCtorEq, ↓reduceIte, Int.reduceLT, Int.reduceLE, Int.reduceEq, Int.reduceNe]
      refine ⟨fun ht => ⟨by omega, ?_⟩, fun ht => ?_⟩
      · refine Up.here ⟨g - 1, by omega, Up.here ⟨rfl, j + 1, ?_, by omega⟩⟩
        rw [hnext, ht]
        simp
      · refine Up.here ⟨g - 1, by omega, Up.here ⟨rfl, j + 1, ?_, by omega⟩⟩
        rw [hnext, ht]
        simp
    · have hj : j = b := by omega
      subst hj
      have htk : ch.take j = ch := by rw [← hcl]; exact List.take_length
      rw [htk]
      simp only [Nat.sub_self, Nat.pow_zero, Nat.mul_one]
      have hx : bval ch < 2 ^ j := by have := bval_lt ch; rwa [hcl] at this
      have hjle : 2 ^ j ≤ 2 ^ 40 := Nat.pow_le_pow_right (by omega) (by omega)
      refine ⟨fun hlt => ?_, fun hge3 => ?_⟩
      · have : bval ch < m := by exact_mod_cast hlt
        rw [if_pos this] at hres
        have w5 : IntKind.i64.wrap ((i : Int) + 1) = ((i + 1 : Nat) : Int) := wrap_id (by omega) (by omega)
        have w6 : IntKind.i64.wrap (((i + 1 : Nat) : Int) * (j : Int)) = ((used + j : Nat) : Int) := by
          have : ((i + 1 : Nat) : Int) * (j : Int) = ((used + j : Nat) : Int) := by rw [hui, ← Nat.add_one_mul]; simp
          rw [this]
          exact wrap_id (by omega) (by omega)
        rw [w5, w6]
        refine Up.here ?_
        subst hR
        exact ⟨rfl, by simp [← hres]⟩
      · have : ¬ bval ch < m := by intro q; exact hge3 (by exact_mod_cast q)
        rw [if_neg this] at hres
        have hjpos : 0 < j := by
          rcases Nat.eq_zero_or_pos j with q | q
          · subst q
            have : ch = [] := List.eq_nil_of_length_eq_zero hcl
            subst this
            simp [bval] at hge3
            omega
          · exact q
        refine ⟨f, by omega, Up.here ⟨rfl, i + 1, used + j, by simp; exact wrap_id (by omega) (by omega), by rw [hui, Nat.add_mul, Nat.one_mul], by omega, hle', by omega, hres⟩⟩
end Go.Proofs.Ytniobbepliknmaa.V
/- The text of slices.Equal[[]int,int] as a statement (slots: 0 s1, 1 s2, 2 s1, 3 s2, 5 i); no condition. -/
namespace Go.Proofs.Ytniobbepliknmaa.V
open Go
def S28_1 : Stmt :=
  Stmt.seq
  (Stmt.region [SOper.mk (some 14) none (SOp.ibin BinOp.lss (Operand.tmp 13) (Operand.tmp 12))] [0, 1, 12, 13, 14])
  (Stmt.seq (Stmt.cond (Operand.tmp 14) Stmt.skip (Stmt.exit 0))
    (Stmt.seq
      (Stmt.block 1
        (Stmt.seq
          (Stmt.region
            [SOper.mk (some 15) none (SOp.mv (Operand.tmp 13)), SOper.mk (some 5) none (SOp.mv (Operand.tmp 15))]
            [0, 1, 5, 12, 13])
          (Stmt.seq
            (Stmt.quiet
              [SOper.mk (some 16) none (SOp.mv (Operand.tmp 0)), SOper.mk (some 17) none (SOp.mv (Operand.tmp 5)),
                SOper.mk (some 18) none (SOp.idx 1 (Operand.tmp 16) (Operand.tmp 17)),
                SOper.mk (some 19) none (SOp.load false 1 (Operand.tmp 18)),
                SOper.mk (some 20) none (SOp.mv (Operand.tmp 1)), SOper.mk (some 21) none (SOp.mv (Operand.tmp 5)),
                SOper.mk (some 22) none (SOp.idx 1 (Operand.tmp 20) (Operand.tmp 21)),
                SOper.mk (some 23) none (SOp.load false 1 (Operand.tmp 22)),
                SOper.mk (some 24) none (SOp.ibin BinOp.neq (Operand.tmp 19) (Operand.tmp 23))]
              [0, 1, 12, 13, 24])
            (Stmt.cond (Operand.tmp 24)
              (Stmt.seq (Stmt.region [SOper.mk (some 4) none (SOp.mv (Operand.const (Value.bool false)))] [4]) Stmt.ret)
              Stmt.skip))))
      (Stmt.region
        [SOper.mk (some 25) none (SOp.ibin BinOp.add (Operand.tmp 13) (Operand.const (Value.int IntKind.i64 1))),
          SOper.mk (some 13) none (SOp.mv (Operand.tmp 25))]
        [0, 1, 12, 13])))
def S28_0 : Stmt :=
  Stmt.seq (Stmt.region [SOper.mk (some 4) none (SOp.mv (Operand.const (Value.bool false)))] [0, 1])
  (Stmt.seq
    (Stmt.seq
      (Stmt.region
        [SOper.mk (some 6) none (SOp.mv (Operand.tmp 0)), SOper.mk (some 7) none (SOp.len false (Operand.tmp 6)),
          SOper.mk (some 8) none (SOp.mv (Operand.tmp 1)), SOper.mk (some 9) none (SOp.len false (Operand.tmp 8)),
          SOper.mk (some 10) none (SOp.ibin BinOp.neq (Operand.tmp 7) (Operand.tmp 9))]
        [0, 1, 10])
      (Stmt.cond (Operand.tmp 10)
        (Stmt.seq (Stmt.region [SOper.mk (some 4) none (SOp.mv (Operand.const (Value.bool false)))] [4]) Stmt.ret)
        Stmt.skip))
    (Stmt.seq
      (Stmt.seq
        (Stmt.region
          [SOper.mk (some 11) none (SOp.mv (Operand.tmp 0)), SOper.mk (some 12) none (SOp.len false (Operand.tmp 11)),
            SOper.mk (some 13) none (SOp.mv (Operand.const (Value.int IntKind.i64 0)))]
          [0, 1, 12, 13])
        (Stmt.block 0 (Stmt.loop S28_1 [13] [0, 1, 12])))
      (Stmt.seq (Stmt.region [SOper.mk (some 4) none (SOp.mv (Operand.const (Value.bool true)))] [4]) Stmt.ret)))
def S28 : FnS := ⟨26, [(4, none)], S28_0⟩
theorem tr28 : trFn Try.prog 28 [] [[0, 1], [0, 1, 10], [4], [0, 1, 12, 13], [13], [0, 1, 12], [0, 1, 12, 13, 14], [0, 1, 5, 12, 13], [0, 1, 12, 13, 24], [4], [0, 1, 12, 13], [4]] = some S28 := by kernel_rfl
end Go.Proofs.Ytniobbepliknmaa.V
/- The text of slices.Delete[[]int,int] as a statement (slots: 0 s, 1 i, 2 j, 3 s, 4 i, 5 j, 7 oldlen); no condition. -/
namespace Go.Proofs.Ytniobbepliknmaa.V
open Go
def S29_0 : Stmt :=
  Stmt.seq (Stmt.region [SOper.mk (some 6) none (SOp.mv (Operand.const (Value.slice none 0 0)))] [0, 1, 2])
  (Stmt.seq
    (Stmt.region
      [SOper.mk (some 8) none (SOp.mv (Operand.tmp 0)), SOper.mk (some 9) none (SOp.mv (Operand.tmp 1)),
        SOper.mk (some 10) none (SOp.mv (Operand.tmp 2)), SOper.mk (some 11) none (SOp.mv (Operand.tmp 0)),
        SOper.mk (some 12) none (SOp.len false (Operand.tmp 11)),
        SOper.mk (some 13) none
          (SOp.q (Qk.slc 29 true true true) [Operand.tmp 8, Operand.tmp 9, Operand.tmp 10, Operand.tmp 12])]
      [0, 1, 2])
    (Stmt.seq
      (Stmt.seq
        (Stmt.region
          [SOper.mk (some 14) none (SOp.mv (Operand.tmp 1)), SOper.mk (some 15) none (SOp.mv (Operand.tmp 2)),
            SOper.mk (some 16) none (SOp.ibin BinOp.eql (Operand.tmp 14) (Operand.tmp 15))]
          [0, 1, 2, 16])
        (Stmt.cond (Operand.tmp 16)
          (Stmt.seq
            (Stmt.region
              [SOper.mk (some 17) none (SOp.mv (Operand.tmp 0)), SOper.mk (some 6) none (SOp.mv (Operand.tmp 17))] [6])
            Stmt.ret)
          Stmt.skip))
      (Stmt.seq
        (Stmt.region
          [SOper.mk (some 18) none (SOp.mv (Operand.tmp 0)), SOper.mk (some 19) none (SOp.len false (Operand.tmp 18)),
            SOper.mk (some 7) none (SOp.mv (Operand.tmp 19))]
          [0, 1, 2, 7])
        (Stmt.seq
          (Stmt.drawn
            [(false, SOper.mk (some 20) none (SOp.mv (Operand.tmp 0))),
              (false, SOper.mk (some 21) none (SOp.mv (Operand.tmp 1))),
              (false, SOper.mk (some 22) none (SOp.slc 1 (Operand.tmp 20) none (some (Operand.tmp 21)) none)),
              (false, SOper.mk (some 23) none (SOp.mv (Operand.tmp 0))),
              (false, SOper.mk (some 24) none (SOp.mv (Operand.tmp 2))),
              (false, SOper.mk (some 25) none (SOp.slc 1 (Operand.tmp 23) (some (Operand.tmp 24)) none none)),
              (false,
                SOper.mk (some 26) none
                  (SOp.append 29 3 1 8 (Value.int IntKind.i64 0) (Operand.tmp 22) (Operand.tmp 25))),
              (false, SOper.mk (some 0) none (SOp.mv (Operand.tmp 26)))]
            [0, 7])
          (Stmt.seq
            (Stmt.region
              [SOper.mk (some 27) none (SOp.mv (Operand.tmp 0)), SOper.mk (some 28) none (SOp.mv (Operand.tmp 0)),
                SOper.mk (some 29) none (SOp.len false (Operand.tmp 28)),
                SOper.mk (some 30) none (SOp.mv (Operand.tmp 7)),
                SOper.mk (some 31) none
                  (SOp.slc 1 (Operand.tmp 27) (some (Operand.tmp 29)) (some (Operand.tmp 30)) none),
                SOper.mk none none (SOp.a (Qk.bi 1 [29]) [Operand.tmp 31])]
              [0])
            (Stmt.seq
              (Stmt.region
                [SOper.mk (some 32) none (SOp.mv (Operand.tmp 0)), SOper.mk (some 6) none (SOp.mv (Operand.tmp 32))]
                [6])
              Stmt.ret))))))
def S29 : FnS := ⟨33, [(6, none)], S29_0⟩
theorem tr29 : trFn Try.prog 29 [] [[0, 1, 2], [0, 1, 2], [0, 1, 2, 16], [6], [0, 1, 2, 7], [0, 7], [0, 1, 2, 3, 4, 5, 6, 7], [], [], [], [0, 1], [], [], [3, 4], [0, 1, 2, 3, 4, 5], [0, 1, 2, 3, 4, 5, 6], [0], [6]] = some S29 := by kernel_rfl
end Go.Proofs.Ytniobbepliknmaa.V
/- The text of parlance/draw.Order as a statement (slots: 0 n, 1 coins, 2 n, 3 coins, 7 left, 8 out, 9 i, 10 used, 11 i, 12 k, 13 e); no condition. -/
namespace Go.Proofs.Ytniobbepliknmaa.V
open Go
def S27_1 : Stmt :=
  Stmt.seq
  (Stmt.region [SOper.mk (some 22) none (SOp.ibin BinOp.lss (Operand.tmp 21) (Operand.tmp 20))] [1, 7, 8, 20, 21, 22])
  (Stmt.seq (Stmt.cond (Operand.tmp 22) Stmt.skip (Stmt.exit 0))
    (Stmt.seq
      (Stmt.block 1
        (Stmt.seq
          (Stmt.region
            [SOper.mk (some 23) none (SOp.mv (Operand.tmp 21)), SOper.mk (some 9) none (SOp.mv (Operand.tmp 23))]
            [1, 7, 8, 9, 20, 21])
          (Stmt.region
            [SOper.mk (some 24) none (SOp.mv (Operand.tmp 7)), SOper.mk (some 25) none (SOp.mv (Operand.tmp 9)),
              SOper.mk (some 26) none (SOp.buildS 3 1 [Value.int IntKind.i64 0] [(0, 1, Operand.tmp 25)]),
              SOper.mk (some 27) none (SOp.append 29 3 1 8 (Value.int IntKind.i64 0) (Operand.tmp 24) (Operand.tmp 26)),
              SOper.mk (some 7) none (SOp.mv (Operand.tmp 27))]
            [1, 7, 8, 20, 21])))
      (Stmt.region
        [SOper.mk (some 28) none (SOp.ibin BinOp.add (Operand.tmp 21) (Operand.const (Value.int IntKind.i64 1))),
          SOper.mk (some 21) none (SOp.mv (Operand.tmp 28))]
        [1, 7, 8, 20, 21])))
def S27_2 : Stmt :=
  Stmt.seq
  (Stmt.seq
    (Stmt.region
      [SOper.mk (some 29) none (SOp.mv (Operand.tmp 7)), SOper.mk (some 30) none (SOp.len false (Operand.tmp 29)),
        SOper.mk (some 31) none (SOp.ibin BinOp.gtr (Operand.tmp 30) (Operand.const (Value.int IntKind.i64 0)))]
      [1, 7, 8, 10, 31])
    (Stmt.cond (Operand.tmp 31) Stmt.skip (Stmt.exit 2)))
  (Stmt.block 3
    (Stmt.seq
      (Stmt.region
        [SOper.mk (some 33) none (SOp.mv (Operand.tmp 7)), SOper.mk (some 34) none (SOp.len false (Operand.tmp 33)),
          SOper.mk (some 35) none (SOp.mv (Operand.tmp 1)), SOper.mk (some 36) none (SOp.mv (Operand.tmp 10)),
          SOper.mk (some 37) none (SOp.slc 1 (Operand.tmp 35) (some (Operand.tmp 36)) none none),
          SOper.mk (some 38) none (SOp.call (Operand.func 21) [Operand.tmp 34, Operand.tmp 37]),
          SOper.mk (some 32) none (SOp.mv (Operand.tmp 38)), SOper.mk (some 39) none (SOp.extract 0 (Operand.tmp 32)),
          SOper.mk (some 40) none (SOp.extract 1 (Operand.tmp 32)),
          SOper.mk (some 41) none (SOp.extract 2 (Operand.tmp 32)), SOper.mk (some 11) none (SOp.mv (Operand.tmp 39)),
          SOper.mk (some 12) none (SOp.mv (Operand.tmp 40)), SOper.mk (some 13) none (SOp.mv (Operand.tmp 41))]
        [1, 7, 8, 10, 11, 12, 13])
      (Stmt.seq
        (Stmt.seq
          (Stmt.region
            [SOper.mk (some 42) none (SOp.mv (Operand.tmp 13)),
              SOper.mk (some 43) none (SOp.ibin BinOp.neq (Operand.tmp 42) (Operand.const (Value.int IntKind.i64 0)))]
            [1, 7, 8, 10, 11, 12, 13, 43])
          (Stmt.cond (Operand.tmp 43)
            (Stmt.seq
              (Stmt.region
                [SOper.mk (some 44) none (SOp.mv (Operand.tmp 13)),
                  SOper.mk (some 4) none (SOp.mv (Operand.const (Value.slice none 0 0))),
                  SOper.mk (some 5) none (SOp.mv (Operand.const (Value.int IntKind.i64 0))),
                  SOper.mk (some 6) none (SOp.mv (Operand.tmp 44))]
                [4, 5, 6])
              Stmt.ret)
            Stmt.skip))
        (Stmt.seq
          (Stmt.region
            [SOper.mk (some 45) none (SOp.mv (Operand.tmp 10)), SOper.mk (some 46) none (SOp.mv (Operand.tmp 12)),
              SOper.mk (some 47) none (SOp.ibin BinOp.add (Operand.tmp 45) (Operand.tmp 46)),
              SOper.mk (some 10) none (SOp.mv (Operand.tmp 47))]
            [1, 7, 8, 10, 11])
          (Stmt.seq
            (Stmt.region
              [SOper.mk (some 48) none (SOp.mv (Operand.tmp 8)), SOper.mk (some 49) none (SOp.mv (Operand.tmp 7)),
                SOper.mk (some 50) none (SOp.mv (Operand.tmp 11)),
                SOper.mk (some 51) none (SOp.idx 1 (Operand.tmp 49) (Operand.tmp 50)),
                SOper.mk (some 52) none (SOp.load false 1 (Operand.tmp 51)),
                SOper.mk (some 53) none (SOp.buildS 3 1 [Value.int IntKind.i64 0] [(0, 1, Operand.tmp 52)]),
                SOper.mk (some 54) none
                  (SOp.append 29 3 1 8 (Value.int IntKind.i64 0) (Operand.tmp 48) (Operand.tmp 53)),
                SOper.mk (some 8) none (SOp.mv (Operand.tmp 54))]
              [1, 7, 8, 10, 11])
            (Stmt.drawn
              [(false, SOper.mk (some 55) none (SOp.mv (Operand.tmp 7))),
                (false, SOper.mk (some 56) none (SOp.mv (Operand.tmp 11))),
                (false, SOper.mk (some 57) none (SOp.slc 1 (Operand.tmp 55) none (some (Operand.tmp 56)) none)),
                (false, SOper.mk (some 58) none (SOp.mv (Operand.tmp 7))),
                (false, SOper.mk (some 59) none (SOp.mv (Operand.tmp 11))),
                (false,
                  SOper.mk (some 60) none
                    (SOp.ibin BinOp.add (Operand.tmp 59) (Operand.const (Value.int IntKind.i64 1)))),
                (false, SOper.mk (some 61) none (SOp.slc 1 (Operand.tmp 58) (some (Operand.tmp 60)) none none)),
                (false,
                  SOper.mk (some 62) none
                    (SOp.append 29 3 1 8 (Value.int IntKind.i64 0) (Operand.tmp 57) (Operand.tmp 61))),
                (false, SOper.mk (some 7) none (SOp.mv (Operand.tmp 62)))]
              [1, 7, 8, 10]))))))
def S27_0 : Stmt :=
  Stmt.seq
  (Stmt.region
    [SOper.mk (some 4) none (SOp.mv (Operand.const (Value.slice none 0 0))),
      SOper.mk (some 5) none (SOp.mv (Operand.const (Value.int IntKind.i64 0))),
      SOper.mk (some 6) none (SOp.mv (Operand.const (Value.int IntKind.i64 0)))]
    [0, 1])
  (Stmt.seq
    (Stmt.seq
      (Stmt.region
        [SOper.mk (some 14) none (SOp.mv (Operand.tmp 0)),
          SOper.mk (some 15) none (SOp.ibin BinOp.lss (Operand.tmp 14) (Operand.const (Value.int IntKind.i64 0))),
          SOper.mk (some 16) none (SOp.mv (Operand.tmp 15)),
          SOper.mk (some 17) (some (16, false)) (SOp.mv (Operand.tmp 0)),
          SOper.mk (some 18) (some (16, false))
            (SOp.ibin BinOp.gtr (Operand.tmp 17) (Operand.const (Value.int IntKind.i64 100))),
          SOper.mk (some 19) none (SOp.pick (Operand.tmp 16) (Operand.const (Value.bool true)) (Operand.tmp 18))]
        [0, 1, 19])
      (Stmt.cond (Operand.tmp 19)
        (Stmt.seq
          (Stmt.region
            [SOper.mk (some 4) none (SOp.mv (Operand.const (Value.slice none 0 0))),
              SOper.mk (some 5) none (SOp.mv (Operand.const (Value.int IntKind.i64 0))),
              SOper.mk (some 6) none (SOp.mv (Operand.const (Value.int IntKind.i64 1)))]
            [4, 5, 6])
          Stmt.ret)
        Stmt.skip))
    (Stmt.seq
      (Stmt.region
        [SOper.mk (some 7) none (SOp.mv (Operand.const (Value.slice none 0 0))),
          SOper.mk (some 8) none (SOp.mv (Operand.const (Value.slice none 0 0)))]
        [0, 1, 7, 8])
      (Stmt.seq
        (Stmt.seq
          (Stmt.region
            [SOper.mk (some 20) none (SOp.mv (Operand.tmp 0)),
              SOper.mk (some 21) none (SOp.mv (Operand.const (Value.int IntKind.i64 0)))]
            [1, 7, 8, 20, 21])
          (Stmt.block 0 (Stmt.loop S27_1 [7, 21] [1, 8, 20])))
        (Stmt.seq
          (Stmt.region [SOper.mk (some 10) none (SOp.mv (Operand.const (Value.int IntKind.i64 0)))] [1, 7, 8, 10])
          (Stmt.seq (Stmt.block 2 (Stmt.loop S27_2 [7, 8, 10] [1]))
            (Stmt.seq
              (Stmt.region
                [SOper.mk (some 63) none (SOp.mv (Operand.tmp 8)), SOper.mk (some 64) none (SOp.mv (Operand.tmp 10)),
                  SOper.mk (some 4) none (SOp.mv (Operand.tmp 63)), SOper.mk (some 5) none (SOp.mv (Operand.tmp 64)),
                  SOper.mk (some 6) none (SOp.mv (Operand.const (Value.int IntKind.i64 0)))]
                [4, 5, 6])
              Stmt.ret))))))
def S27 : FnS := ⟨65, [(4, none), (5, none), (6, none)], S27_0⟩
theorem tr27 : trFn Try.prog 27 [] [[0, 1], [0, 1, 19], [4, 5, 6], [0, 1, 7, 8], [1, 7, 8, 20, 21], [7, 21], [1, 8, 20], [1, 7, 8, 20, 21, 22], [1, 7, 8, 9, 20, 21], [1, 7, 8, 20, 21], [1, 7, 8, 20, 21], [1, 7, 8, 10], [7, 8, 10], [1], [1, 7, 8, 10, 31], [1, 7, 8, 10, 11, 12, 13], [1, 7, 8, 10, 11, 12, 13, 43], [4, 5, 6], [1, 7, 8, 10, 11], [1, 7, 8, 10, 11], [1, 7, 8, 10], [0, 1, 2, 3, 4, 5, 6, 7, 8], [], [], [], [0, 1], [], [], [4], [3, 4, 5], [0, 1, 2, 3, 4, 5, 6], [0, 1, 2, 3, 4, 5, 6, 7], [4, 5, 6]] = some S27 := by kernel_rfl
end Go.Proofs.Ytniobbepliknmaa.V
/- Orders by coins: slices.Equal, slices.Delete and draw.Order walked; no condition. -/
namespace Go.Proofs.Ytniobbepliknmaa.V
open Go
set_option linter.unusedVariables false
set_option linter.unusedSimpArgs false
attribute [local go_sem] e_seq e_region e_quiet e_join e_loop e_cond e_block e_exit e_ret e_skip e_fin e_kseq e_snrm e_sret e_sex e_bnrm e_bret e_bex e_rnrm e_rret e_res e_condC e_nil e_g e_mv g_mv e_pick g_pick pickC_eq e_ibin g_ibin ibinC_eq e_sbin g_sbin e_beq g_beq beqC_eq e_nilq g_nilq nilqC_sl nilqC_pt nilqC_mp e_un g_un unC_not unC_neg e_conv g_conv convC_eq e_fld g_fld fldC_ref fldC_ptr e_nilCheck g_nilCheck nilCheckC_ref nilCheckC_ptr nilCheckC_fun e_field g_field fieldC_eq e_len g_len lenC_sl lenC_str e_extract g_extract extractC_eq e_mkFunc e_build g_build e_idiv g_idiv idivC_eq e_ishift g_ishift ishiftC_eq e_idx g_idx e_idxA g_idxA e_load g_load loadC_ref loadC_ptr loadB_eq e_slc g_slc e_box boxC_loc boxC_esc e_alloc allocC_loc allocC_esc e_buildS e_store storeC_ref storeC_ptr storeB_eq e_append e_appz e_mk mkC_eq e_call callC_eq e_fn g_fn fnC_eq fnV_min' fnV_max' fnV_rune' e_q g_q e_a e_n g_call g_box g_alloc g_buildS g_store g_append g_mk g_a g_n g_dead e_dead e_callK e_drawn e_tree e_finJ e_tk e_tfin e_tno e_nbt_q e_nbt_qn e_nbt_a e_nbt_an e_nbt_fin e_early_nil e_early_t e_early_f e_nob_nil e_nob_none e_nob_some isBox_dead isBox_v isBox_ref e_dnil e_dk e_ek e_finB vcOps_vc1 e_dcons e_tq e_ekt e_tearly e_talt e_dearly look_nil look_c proj_nil proj_c looks_nil looks_c zip_nil zip_c val_tmp val_const val_func slv_v slv_box slv_ref slot_tmp slot_const slot_func slotL_v slotL_box slotL_ref put_some put_none updBox_c boxSet_box gd_eq slotVals_nil slotVals_c slotVals_b boxV_box boxOn_box slotsOn_nil slotsOn_c slotsOn_b resV_one resV_two vals_nil vals_c allOn_nil allOn_c partOn_nil partOn_c partVals_nil partVals_c fits_nil fits_c fillL_nil fillL_c mkv_one mkv_agg cellsV_agg cellsV_int cellsV_bool cellsV_slice cellsV_string cellsV_pointer cellsV_func cellsV_nilf cellsV_map one'_nil one'_c oc_int oc_bool oc_slice oc_string oc_pointer oc_func oc_nilf oc_map setC_eq iv_add iv_sub iv_mul iv_eql iv_neq iv_lss iv_leq iv_gtr iv_geq iok_add iok_sub iok_mul iok_eql iok_neq iok_lss iok_leq iok_gtr iok_geq pickV_bool args0_nil args0_c bnd_none bnd_some imp_bt imp_bf imp_ebt imp_ebf imp_eb1 imp_np imp_pp beq_tt beq_tf beq_ft beq_ff cond_or cond_and e_round e_meet Int.le_refl Int.toNat_zero decide_true decide_false Bool.or_false Bool.false_or Bool.true_or Bool.or_true Bool.and_false Bool.false_and Bool.bne_false Bool.bne_true beq_iff_eq Int.cast_ofNat_Int not_false_eq_true not_true_eq_false false_and and_false false_implies true_implies true_and and_true Bool.true_and Bool.and_true Bool.not_true Bool.not_false forall_const implies_true List.take_zero List.drop_zero List.take_succ_cons List.drop_succ_cons List.take_nil List.drop_nil List.length_cons List.length_nil List.nil_append List.append_nil List.cons_append Int.toNat_natCast decide_eq_true_eq decide_eq_false_iff_not cond_true cond_false and_self List.getElem?_cons_zero List.getElem?_cons_succ List.set_cons_zero List.set_cons_succ Option.some.injEq exists_eq_left' Nat.zero_add Nat.add_zero Nat.mul_one imp_self true_or or_true or_false false_or Bool.or_eq_true Bool.or_eq_false_iff Bool.and_eq_true Bool.and_eq_false_iff Bool.not_eq_true' Bool.not_eq_false'

theorem take_eq_succ {α : Type} {xs ys : List α} {k : Nat} (hk : k < xs.length) (hk' : k < ys.length) (h : xs.take k = ys.take k) (e : xs[k] = ys[k]) : xs.take (k + 1) = ys.take (k + 1) := by
  rw [List.take_succ_eq_append_getElem hk, List.take_succ_eq_append_getElem hk', h, e]

theorem slices_equal {Γr : Ctx} {A B : Option Addr} {c d : Nat} {xs ys : List Int} (hx : SlOk (lk Γr) A c xs) (hy : SlOk (lk Γr) B d ys) :
    Ret Try.prog 28 [.slice A xs.length c, .slice B ys.length d] Γr [] (fun v Γ => Γ = [] ∧ v = .bool (decide (xs = ys))) := by
  generalize hR : (fun v Γ => Γ = [] ∧ v = _) = R
  refine ret_of_vc tr28 (Nat.le_of_ble_eq_true rfl) ?_
  have h1 := hx.short
  have h2 := hy.short
  simp only [S28, S28_0, go_sem, Nat.reduceBEq, Nat.reduceAdd, Nat.reduceSub, Nat.reduceMul, Nat.reduceLeDiff, reduceCtorEq, ↓reduceIte, Int.reduceLT, Int.reduceLE, Int.reduceEq, Int.reduceNe]
  refine ⟨fun hne => Up.here ?_, fun heq => ?_⟩
  · subst hR
    refine ⟨rfl, ?_⟩
    have : xs ≠ ys := fun e => by subst e; exact hne rfl
    simp [this]
  have hl : xs.length = ys.length := by omega
  refine s_loop (fun f vs Γ => Γ = [] ∧ ∃ k : Nat, vs = [.v true (.int .i64 k)] ∧ k + f = xs.length ∧ xs.take k = ys.take k) xs.length (Up.here ⟨rfl, 0, rfl, by omega, by simp⟩) ?_
  rintro f vs Γ ⟨rfl, k, rfl, hkf, htk⟩
  simp only [S28_1, go_sem, Nat.reduceBEq, Nat.reduceAdd, Nat.reduceSub, Nat.reduceMul, Nat.reduceLeDiff, reduceCtorEq, ↓reduceIte, Int.reduceLT, Int.reduceLE, Int.reduceEq, Int.reduceNe]
  refine ⟨fun hlt => ?_, fun hge => ?_⟩
  · have hk : k < xs.length := by omega
    have hk' : k < ys.length := by omega
    obtain ⟨b, o, hA, hc1⟩ := hx.int hk
    obtain ⟨b', o', hB, hc2⟩ := hy.int hk'
    refine s_idx hA (by omega) (by omega) ?_
    simp only [go_sem, Nat.reduceBEq, Nat.reduceAdd, Nat.reduceSub, Nat.reduceMul, Nat.reduceLeDiff, reduceCtorEq, ↓reduceIte, Int.reduceLT, Int.reduceLE, Int.reduceEq, Int.reduceNe]
    refine s_ld0 (hc1 _ (Mem.le.refl _)) (by simp) (by simp) ?_
    simp only [go_sem, Nat.reduceBEq, Nat.reduceAdd, Nat.reduceSub, Nat.reduceMul, Nat.reduceLeDiff, reduceCtorEq, ↓reduceIte, Int.reduceLT, Int.reduceLE, Int.reduceEq, Int.reduceNe]
    refine s_idx hB (by omega) (by omega) ?_
    simp only [go_sem, Nat.reduceBEq, Nat.reduceAdd, Nat.reduceSub, Nat.reduceMul, Nat.reduceLeDiff, reduceCtorEq, ↓reduceIte, Int.reduceLT, Int.reduceLE, Int.reduceEq, Int.reduceNe]
    refine s_ld0 (hc2 _ (Mem.le.refl _)) (by simp) (by simp) ?_
    simp only [go_sem, Nat.reduceBEq, Nat.reduceAdd, Nat.reduceSub, Nat.reduceMul, Nat.reduceLeDiff, reduceCtorEq, ↓reduceIte, Int.reduceLT, Int.reduceLE, Int.reduceEq, Int.reduceNe]
    refine ⟨fun hne => Up.here ?_, fun heq => ?_⟩
    · subst hR
      refine ⟨rfl, ?_⟩
      have : xs ≠ ys := fun e => by subst e; exact hne rfl
      simp [this]
    · simp (disch := omega) only [wrap_id]
      exact ⟨f - 1, by omega, Up.here ⟨rfl, k + 1, rfl, by omega, take_eq_succ hk hk' htk heq⟩⟩
  · have hk : k = xs.length := by omega
    refine Up.here ?_
    subst hR
    refine ⟨rfl, ?_⟩
    have : xs = ys := by
      rw [hk, List.take_length, hl, List.take_length] at htk
      exact htk
    simp [this]

theorem eraseIdx_eq {α : Type} (xs : List α) (i : Nat) : xs.eraseIdx i = xs.take i ++ xs.drop (i + 1) := List.eraseIdx_eq_take_drop_succ xs i

theorem slices_delete {Γr : Ctx} {g : PH} {A : Option Addr} {c : Nat} {xs : List Int} (hx : Bld g (lk []) 3 (.slice A xs.length c) xs) (hs : xs.length ≤ 1000) (i : Nat) (hi : i < xs.length) :
    Ret Try.prog 29 [.slice A xs.length c, .int .i64 i, .int .i64 ((i : Int) + 1)] Γr [g] (fun v Γ => ∃ g', Γ = [g'] ∧ Bld g' (lk []) 3 v (xs.eraseIdx i)) := by
  generalize hR : (fun (v : Value) (Γ : Ctx) => ∃ g', _) = R
  refine ret_of_vc tr29 (Nat.le_of_ble_eq_true rfl) ?_
  have hcap : xs.length ≤ c := by
    obtain ⟨cs, h, _⟩ := hx
    obtain ⟨A', c', e, hl⟩ := h.len
    simp only [Value.slice.injEq] at e
    omega
  have hel : (xs.eraseIdx i).length = xs.length - 1 := by rw [List.length_eraseIdx, if_pos hi]
  simp only [S29, S29_0, go_sem, Nat.reduceBEq, Nat.reduceAdd, Nat.reduceSub, Nat.reduceMul, Nat.reduceLeDiff, reduceCtorEq, ↓reduceIte, Int.reduceLT, Int.reduceLE, Int.reduceEq, Int.reduceNe]
  refine s_q trivial (qr_slc3 (e := 3) (sz := 1) (l := i) (h := i + 1) (m := xs.length) (by kernel_rfl) (by kernel_rfl) (by omega) (by omega) hcap) ?_
  simp only [go_sem, Nat.reduceBEq, Nat.reduceAdd, Nat.reduceSub, Nat.reduceMul, Nat.reduceLeDiff, reduceCtorEq, ↓reduceIte, Int.reduceLT, Int.reduceLE, Int.reduceEq, Int.reduceNe]
  refine ⟨fun h => by omega, fun _ => ?_⟩
  refine s_hi i (by simp only [go_sem, Nat.reduceBEq, Nat.reduceAdd, Nat.reduceSub, Nat.reduceMul, Nat.reduceLeDiff, reduceCtorEq, ↓reduceIte, Int.reduceLT, Int.reduceLE, Int.reduceEq, Int.reduceNe]; exact ⟨_, rfl⟩) (by omega) ?_
  simp only [go_sem, Nat.reduceBEq, Nat.reduceAdd, Nat.reduceSub, Nat.reduceMul, Nat.reduceLeDiff, reduceCtorEq, ↓reduceIte, Int.reduceLT, Int.reduceLE, Int.reduceEq, Int.reduceNe]
  refine s_lo (i + 1) (by simp only [go_sem, Nat.reduceBEq, Nat.reduceAdd, Nat.reduceSub, Nat.reduceMul, Nat.reduceLeDiff, reduceCtorEq, ↓reduceIte, Int.reduceLT, Int.reduceLE, Int.reduceEq, Int.reduceNe]; exact ⟨_, rfl⟩) (by omega) hcap ?_
  intro A2 hA2
  simp only [go_sem, Nat.reduceBEq, Nat.reduceAdd, Nat.reduceSub, Nat.reduceMul, Nat.reduceLeDiff, reduceCtorEq, ↓reduceIte, Int.reduceLT, Int.reduceLE, Int.reduceEq, Int.reduceNe]
  have hsl : ∃ A' c', (Value.slice A xs.length c) = .slice A' xs.length c' ∧ SlOk (lk [g]) A' c' xs := hx.slok (Mem.le.refl _) (lk_sub (by simp)) (by omega)
  obtain ⟨A', c', e, hsl⟩ := hsl
  simp only [Value.slice.injEq, true_and] at e
  obtain ⟨rfl, rfl⟩ := e
  have hd := hsl.drop (l := i + 1) (by omega)
  rw [show (if c = i + 1 then A else A.map (·.add ((i + 1) * Rep.sz Int))) = A2 from hA2.symm] at hd
  refine s_appS (ix := 0) rfl (hx.take (k := i) (by omega)) hd (by simp) (lk_l _ _) rfl (by simp; omega) (by simp [maxLen]; omega) ?_
  intro v g' hB hkp
  rw [← eraseIdx_eq] at hB
  obtain ⟨A3, c3, rfl⟩ := hB.val
  have hc3 : xs.length ≤ c3 := by
    have := ((hkp.2 _ _ _ _ _ _ rfl rfl).1 (by rw [hel]; omega)).2
    omega
  rw [hel] at hB ⊢
  simp only [go_sem, Nat.reduceBEq, Nat.reduceAdd, Nat.reduceSub, Nat.reduceMul, Nat.reduceLeDiff, reduceCtorEq, ↓reduceIte, Int.reduceLT, Int.reduceLE, Int.reduceEq, Int.reduceNe]
  refine s_lohi (xs.length - 1) xs.length (by simp only [go_sem, Nat.reduceBEq, Nat.reduceAdd, Nat.reduceSub, Nat.reduceMul, Nat.reduceLeDiff, reduceCtorEq, ↓reduceIte, Int.reduceLT, Int.reduceLE, Int.reduceEq, Int.reduceNe]; exact ⟨_, rfl⟩) (by simp only [go_sem, Nat.reduceBEq, Nat.reduceAdd, Nat.reduceSub, Nat.reduceMul, Nat.reduceLeDiff, reduceCtorEq, ↓reduceIte, Int.reduceLT, Int.reduceLE, Int.reduceEq, Int.reduceNe]; exact ⟨_, rfl⟩) (by omega) hc3 ?_
  rintro A4 hA4
  simp only [go_sem, Nat.reduceBEq, Nat.reduceAdd, Nat.reduceSub, Nat.reduceMul, Nat.reduceLeDiff, reduceCtorEq, ↓reduceIte, Int.reduceLT, Int.reduceLE, Int.reduceEq, Int.reduceNe]
  rw [hA4]
  refine s_clear (α := Int) (ix := 0) (z := .int .i64 0) (n := xs.length - 1) (e := 3) (by kernel_rfl) (by kernel_rfl) rfl (by simp [Value.cells, one', Value.oneCell']) rfl hB (by omega) rfl ?_
  intro g2 hB2
  simp only [go_sem, Nat.reduceBEq, Nat.reduceAdd, Nat.reduceSub, Nat.reduceMul, Nat.reduceLeDiff, reduceCtorEq, ↓reduceIte, Int.reduceLT, Int.reduceLE, Int.reduceEq, Int.reduceNe]
  refine Up.here ?_
  subst hR
  exact ⟨g2, rfl, hB2⟩

/-! the order that coins draw -/
def ordF (coins : List Bool) : Nat → List Int → List Int → Nat → Option (List Int × Nat)
  | 0, _, out, used => some (out, used)
  | f + 1, left, out, used => match coinsF left.length (coins.drop used) with
    | none => none
    | some (i, u) => ordF coins f (left.eraseIdx i) (out ++ [left.getD i 0]) (used + u)
def orderR (n : Int) (coins : List Bool) : List Int × Int × Int :=
  if n < 0 ∨ 100 < n then ([], 0, 1) else match ordF coins n.toNat (numsI n.toNat) [] 0 with
    | none => ([], 0, 5)
    | some (o, k) => (o, k, 0)
theorem coinsG_lt' {n b : Nat} {coins : List Bool} : ∀ {f u : Nat} {x v : Nat}, coinsG n b coins f u = some (x, v) → x < n ∧ v ≤ coins.length
  | 0, u, x, v, h => by simp [coinsG] at h
  | f + 1, u, x, v, h => by
    simp only [coinsG] at h
    split at h
    · split at h
      · simp at h; omega
      · exact coinsG_lt' h
    · cases h
theorem coinsF_lt' {n : Nat} {coins : List Bool} {x v : Nat} (h : coinsF n coins = some (x, v)) : x < n ∧ v ≤ coins.length := coinsG_lt' h

theorem draw_order {Γr : Ctx} (n : Int) {A : Option Addr} {c : Nat} {coins : List Bool} (hc : SlOk (lk Γr) A c coins) :
    Ret Try.prog 27 [.int .i64 n, .slice A coins.length c] Γr [] (fun v Γ => ∃ g B cb, Γ = [g] ∧ SlOk (lk [g]) B cb (orderR n coins).1 ∧
      v = .tuple #[.slice B (orderR n coins).1.length cb, .int .i64 (orderR n coins).2.1, .int .i64 (orderR n coins).2.2]) := by
  generalize hR : (fun (v : Value) (Γ : Ctx) => ∃ g B cb, _) = R
  refine ret_of_vc tr27 (Nat.le_of_ble_eq_true rfl) ?_
  have hcl := hc.short
  simp only [S27, S27_0, go_sem, Nat.reduceBEq, Nat.reduceAdd, Nat.reduceSub, Nat.reduceMul, Nat.reduceLeDiff, reduceCtorEq, ↓reduceIte, Int.reduceLT, Int.reduceLE, Int.reduceEq, Int.reduceNe]
  refine ⟨fun h => Up.one fun g _ => ?_, fun hn => ?_⟩
  · subst hR
    have : orderR n coins = ([], 0, 1) := by unfold orderR; rw [if_pos h]
    rw [this]
    exact ⟨g, none, 0, rfl, SlOk.nil, rfl⟩
  obtain ⟨m, rfl⟩ : ∃ m : Nat, n = m := ⟨n.toNat, by omega⟩
  have hm : m ≤ 100 := by omega
  have hres : orderR m coins = match ordF coins m (numsI m) [] 0 with
    | none => ([], 0, 5)
    | some (o, k) => (o, k, 0) := by
    unfold orderR
    rw [if_neg (by omega), Int.toNat_natCast]
  -- the numbers
  refine s_loop (fun f vs Γ => ∃ g g2 : PH, Γ = [g, g2] ∧ ∃ (k : Nat) (u : Value), vs = [.v true u, .v true (.int .i64 k)] ∧ k + f = m ∧ Bld g (lk []) 3 u (numsI k)) m
    (Up.sel [[], []] (by decide) fun _ _ => ⟨_, _, rfl, 0, _, rfl, by omega, Bld.nil _ _ _⟩) ?_
  rintro f vs Γ ⟨g, g2, rfl, k, u, rfl, hkf, hB⟩
  have hkl := numsI_len k
  simp only [S27_1, go_sem, Nat.reduceBEq, Nat.reduceAdd, Nat.reduceSub, Nat.reduceMul, Nat.reduceLeDiff, reduceCtorEq, ↓reduceIte, Int.reduceLT, Int.reduceLE, Int.reduceEq, Int.reduceNe]
  refine ⟨fun hlt => ?_, fun hge => ?_⟩
  · intro b
    refine s_app1S (ix := 1) (k : Int) rfl hB cells_one rfl (by omega) (by simp [maxLen]; omega) ?_
    intro v' g' hB' _
    simp only [go_sem, Nat.reduceBEq, Nat.reduceAdd, Nat.reduceSub, Nat.reduceMul, Nat.reduceLeDiff, reduceCtorEq, ↓reduceIte, Int.reduceLT, Int.reduceLE, Int.reduceEq, Int.reduceNe]
    simp (disch := omega) only [wrap_id]
    rw [← numsI_succ] at hB'
    exact ⟨f - 1, by omega, Up.sel [[1], [2]] (by decide) fun _ _ => ⟨_, _, rfl, k + 1, v', rfl, by omega, hB'⟩⟩
  · have hk : k = m := by omega
    subst hk
    refine s_loop (fun f vs Γ => ∃ g g2 : PH, Γ = [g, g2] ∧ ∃ (left out : List Int) (used : Nat) (u1 u2 : Value), vs = [.v true u1, .v true u2, .v true (.int .i64 used)] ∧ f = left.length ∧ Bld g (lk []) 3 u1 left ∧ Bld g2 (lk []) 3 u2 out ∧
      left.length + out.length = k ∧ used ≤ coins.length ∧ ordF coins left.length left out used = ordF coins k (numsI k) [] 0) k
      (Up.here ⟨g, g2, rfl, numsI k, [], 0, _, _, rfl, hkl.symm, hB, Bld.nil _ _ _, by simp [hkl], by omega, by rw [hkl]⟩) ?_
    rintro f vs Γ ⟨g, g2, rfl, left, out, used, u1, u2, rfl, hf, hB1, hB2, hlen, hused, hord⟩
    obtain ⟨A1, c1, rfl⟩ := hB1.val
    simp only [S27_2, go_sem, Nat.reduceBEq, Nat.reduceAdd, Nat.reduceSub, Nat.reduceMul, Nat.reduceLeDiff, reduceCtorEq, ↓reduceIte, Int.reduceLT, Int.reduceLE, Int.reduceEq, Int.reduceNe]
    refine ⟨fun hlt => ?_, fun hge => ?_⟩
    · refine s_lo used (by simp only [go_sem, Nat.reduceBEq, Nat.reduceAdd, Nat.reduceSub, Nat.reduceMul, Nat.reduceLeDiff, reduceCtorEq, ↓reduceIte, Int.reduceLT, Int.reduceLE, Int.reduceEq, Int.reduceNe]; exact ⟨_, rfl⟩) hused hc.cap ?_
      intro A2 hA2
      simp only [go_sem, Nat.reduceBEq, Nat.reduceAdd, Nat.reduceSub, Nat.reduceMul, Nat.reduceLeDiff, reduceCtorEq, ↓reduceIte, Int.reduceLT, Int.reduceLE, Int.reduceEq, Int.reduceNe]
      have hd := (hc.drop (l := used) hused).r (Γ := [g, g2])
      rw [show (if c = used then A else A.map (·.add (used * Rep.sz Bool))) = A2 from hA2.symm] at hd
      have hdl : (coins.drop used).length = coins.length - used := by simp
      rw [← hdl]
      refine CallVC.read (draw_number _ _ _ _ hd) ?_
      rintro v Γ' ⟨rfl, rfl⟩
      rw [if_neg (by omega), Int.toNat_natCast]
      obtain ⟨l, hl⟩ : ∃ l, left.length = l + 1 := ⟨left.length - 1, by omega⟩
      rw [hl] at hord
      simp only [ordF, hl] at hord
      rw [hl]
      cases hcf : coinsF (l + 1) (coins.drop used) with
      | none =>
        rw [hcf] at hord
        simp only at hord
        rw [← hord] at hres
        simp only [go_sem, Nat.reduceBEq, Nat.reduceAdd, Nat.reduceSub, Nat.reduceMul, Nat.reduceLeDiff, reduceCtorEq, ↓reduceIte, Int.reduceLT, Int.reduceLE, Int.reduceEq, Int.reduceNe]
        refine Up.one fun g3 _ => ?_
        subst hR
        rw [hres]
        exact ⟨g3, none, 0, rfl, SlOk.nil, rfl⟩
      | some p =>
        obtain ⟨i, w⟩ := p
        rw [hcf] at hord
        simp only at hord
        obtain ⟨hi, hw⟩ := coinsF_lt' hcf
        simp only [List.length_drop] at hw
        simp only [go_sem, Nat.reduceBEq, Nat.reduceAdd, Nat.reduceSub, Nat.reduceMul, Nat.reduceLeDiff, reduceCtorEq, ↓reduceIte, Int.reduceLT, Int.reduceLE, Int.reduceEq, Int.reduceNe]
        have hcap : left.length ≤ c1 := by
          obtain ⟨cs, h, _⟩ := hB1
          obtain ⟨A', c', e, hl⟩ := h.len
          simp only [Value.slice.injEq] at e
          omega
        have hsl : ∃ A' c', (Value.slice A1 left.length c1) = .slice A' left.length c' ∧ SlOk (lk [g]) A' c' left := hB1.slok (Mem.le.refl _) (lk_sub (by simp)) (by omega)
        obtain ⟨A', c', e, hsl⟩ := hsl
        simp only [Value.slice.injEq, true_and] at e
        obtain ⟨rfl, rfl⟩ := e
        have hil : i < left.length := by omega
        obtain ⟨b, o, hA1, hcells⟩ := hsl.int hil
        refine s_idx hA1 (by omega) (by omega) ?_
        simp only [go_sem, Nat.reduceBEq, Nat.reduceAdd, Nat.reduceSub, Nat.reduceMul, Nat.reduceLeDiff, reduceCtorEq, ↓reduceIte, Int.reduceLT, Int.reduceLE, Int.reduceEq, Int.reduceNe]
        refine s_ld0 (hcells _ (lk_sub (by simp))) (by simp) (by simp) ?_
        simp only [go_sem, Nat.reduceBEq, Nat.reduceAdd, Nat.reduceSub, Nat.reduceMul, Nat.reduceLeDiff, reduceCtorEq, ↓reduceIte, Int.reduceLT, Int.reduceLE, Int.reduceEq, Int.reduceNe]
        intro b'
        refine s_app1S (ix := 2) left[i] rfl hB2 cells_one rfl (by omega) (by simp [maxLen]; omega) ?_
        intro v2 g2' hB2' _
        simp only [go_sem, Nat.reduceBEq, Nat.reduceAdd, Nat.reduceSub, Nat.reduceMul, Nat.reduceLeDiff, reduceCtorEq, ↓reduceIte, Int.reduceLT, Int.reduceLE, Int.reduceEq, Int.reduceNe]
        refine s_hi i (by simp only [go_sem, Nat.reduceBEq, Nat.reduceAdd, Nat.reduceSub, Nat.reduceMul, Nat.reduceLeDiff, reduceCtorEq, ↓reduceIte, Int.reduceLT, Int.reduceLE, Int.reduceEq, Int.reduceNe]; exact ⟨_, rfl⟩) (by omega) ?_
        simp only [go_sem, Nat.reduceBEq, Nat.reduceAdd, Nat.reduceSub, Nat.reduceMul, Nat.reduceLeDiff, reduceCtorEq, ↓reduceIte, Int.reduceLT, Int.reduceLE, Int.reduceEq, Int.reduceNe]
        simp (disch := omega) only [wrap_id]
        refine s_lo (i + 1) (by simp only [go_sem, Nat.reduceBEq, Nat.reduceAdd, Nat.reduceSub, Nat.reduceMul, Nat.reduceLeDiff, reduceCtorEq, ↓reduceIte, Int.reduceLT, Int.reduceLE, Int.reduceEq, Int.reduceNe]; exact ⟨_, rfl⟩) (by omega) (by omega) ?_
        intro A3 hA3
        simp only [go_sem, Nat.reduceBEq, Nat.reduceAdd, Nat.reduceSub, Nat.reduceMul, Nat.reduceLeDiff, reduceCtorEq, ↓reduceIte, Int.reduceLT, Int.reduceLE, Int.reduceEq, Int.reduceNe]
        have hd := hsl.drop (l := i + 1) (by omega)
        rw [show (if c1 = i + 1 then A1 else A1.map (·.add ((i + 1) * Rep.sz Int))) = A3 from hA3.symm] at hd
        have hel : (left.eraseIdx i).length = l := by rw [List.length_eraseIdx, if_pos hil]; omega
        refine s_appS (ix := 1) rfl (hB1.take (k := i) (by omega)) hd (by simp [hl]) (lk_sub (by simp)) rfl (by simp; omega) (by simp [maxLen]; omega) ?_
        intro v g' hB' hkp
        rw [← eraseIdx_eq] at hB'
        simp only [go_sem, Nat.reduceBEq, Nat.reduceAdd, Nat.reduceSub, Nat.reduceMul, Nat.reduceLeDiff, reduceCtorEq, ↓reduceIte, Int.reduceLT, Int.reduceLE, Int.reduceEq, Int.reduceNe]
        have hg : left.getD i 0 = left[i] := by rw [List.getD_eq_getElem?_getD, List.getElem?_eq_getElem hil]; rfl
        rw [hg] at hord
        exact ⟨l, by omega, Up.sel [[1], [2]] (by decide) fun _ _ => ⟨_, _, rfl, left.eraseIdx i, out ++ [left[i]], used + w, _, _, rfl, hel.symm, hB', hB2', by simp [hel]; omega, by omega, by rw [hel]; exact hord⟩⟩
    · have hl0 : left = [] := List.eq_nil_of_length_eq_zero (by omega)
      subst hl0
      simp only [List.length_nil, ordF] at hord
      rw [← hord] at hres
      have hol : out.length ≤ 100 := by simp at hlen; omega
      refine Up.one fun g3 hg3 => ?_
      obtain ⟨B, cb, rfl, hs⟩ := hB2.slok (L' := lk [g3]) ((lk_m (by simp)).trans hg3) (fun _ _ h => by obtain ⟨_, h, _⟩ := h; cases h) (by omega)
      subst hR
      rw [hres]
      exact ⟨g3, B, cb, rfl, hs, rfl⟩
end Go.Proofs.Ytniobbepliknmaa.V
/- The text of slices.Equal[[]bool,bool] as a statement (slots: 0 s1, 1 s2, 2 s1, 3 s2, 5 i); no condition. -/
namespace Go.Proofs.Ytniobbepliknmaa.V
open Go
def S41_1 : Stmt :=
  Stmt.seq
  (Stmt.region [SOper.mk (some 14) none (SOp.ibin BinOp.lss (Operand.tmp 13) (Operand.tmp 12))] [0, 1, 12, 13, 14])
  (Stmt.seq (Stmt.cond (Operand.tmp 14) Stmt.skip (Stmt.exit 0))
    (Stmt.seq
      (Stmt.block 1
        (Stmt.seq
          (Stmt.region
            [SOper.mk (some 15) none (SOp.mv (Operand.tmp 13)), SOper.mk (some 5) none (SOp.mv (Operand.tmp 15))]
            [0, 1, 5, 12, 13])
          (Stmt.seq
            (Stmt.quiet
              [SOper.mk (some 16) none (SOp.mv (Operand.tmp 0)), SOper.mk (some 17) none (SOp.mv (Operand.tmp 5)),
                SOper.mk (some 18) none (SOp.idx 1 (Operand.tmp 16) (Operand.tmp 17)),
                SOper.mk (some 19) none (SOp.load false 1 (Operand.tmp 18)),
                SOper.mk (some 20) none (SOp.mv (Operand.tmp 1)), SOper.mk (some 21) none (SOp.mv (Operand.tmp 5)),
                SOper.mk (some 22) none (SOp.idx 1 (Operand.tmp 20) (Operand.tmp 21)),
                SOper.mk (some 23) none (SOp.load false 1 (Operand.tmp 22)),
                SOper.mk (some 24) none (SOp.beq true (Operand.tmp 19) (Operand.tmp 23))]
              [0, 1, 12, 13, 24])
            (Stmt.cond (Operand.tmp 24)
              (Stmt.seq (Stmt.region [SOper.mk (some 4) none (SOp.mv (Operand.const (Value.bool false)))] [4]) Stmt.ret)
              Stmt.skip))))
      (Stmt.region
        [SOper.mk (some 25) none (SOp.ibin BinOp.add (Operand.tmp 13) (Operand.const (Value.int IntKind.i64 1))),
          SOper.mk (some 13) none (SOp.mv (Operand.tmp 25))]
        [0, 1, 12, 13])))
def S41_0 : Stmt :=
  Stmt.seq (Stmt.region [SOper.mk (some 4) none (SOp.mv (Operand.const (Value.bool false)))] [0, 1])
  (Stmt.seq
    (Stmt.seq
      (Stmt.region
        [SOper.mk (some 6) none (SOp.mv (Operand.tmp 0)), SOper.mk (some 7) none (SOp.len false (Operand.tmp 6)),
          SOper.mk (some 8) none (SOp.mv (Operand.tmp 1)), SOper.mk (some 9) none (SOp.len false (Operand.tmp 8)),
          SOper.mk (some 10) none (SOp.ibin BinOp.neq (Operand.tmp 7) (Operand.tmp 9))]
        [0, 1, 10])
      (Stmt.cond (Operand.tmp 10)
        (Stmt.seq (Stmt.region [SOper.mk (some 4) none (SOp.mv (Operand.const (Value.bool false)))] [4]) Stmt.ret)
        Stmt.skip))
    (Stmt.seq
      (Stmt.seq
        (Stmt.region
          [SOper.mk (some 11) none (SOp.mv (Operand.tmp 0)), SOper.mk (some 12) none (SOp.len false (Operand.tmp 11)),
            SOper.mk (some 13) none (SOp.mv (Operand.const (Value.int IntKind.i64 0)))]
          [0, 1, 12, 13])
        (Stmt.block 0 (Stmt.loop S41_1 [13] [0, 1, 12])))
      (Stmt.seq (Stmt.region [SOper.mk (some 4) none (SOp.mv (Operand.const (Value.bool true)))] [4]) Stmt.ret)))
def S41 : FnS := ⟨26, [(4, none)], S41_0⟩
theorem tr41 : trFn Try.prog 41 [] [[0, 1], [0, 1, 10], [4], [0, 1, 12, 13], [13], [0, 1, 12], [0, 1, 12, 13, 14], [0, 1, 5, 12, 13], [0, 1, 12, 13, 24], [4], [0, 1, 12, 13], [4]] = some S41 := by kernel_rfl
end Go.Proofs.Ytniobbepliknmaa.V
/- The text of parlance/parllaw5.plain as a statement (slots: ); no condition. -/
namespace Go.Proofs.Ytniobbepliknmaa.V
open Go
def S40_0 : Stmt :=
  Stmt.seq
  (Stmt.region
    [SOper.mk (some 0) none
        (SOp.alloc true 57
          (Value.agg
            (Array.mk
              [Value.int IntKind.i64 0, Value.int IntKind.i64 0, Value.int IntKind.i64 0, Value.slice none 0 0])))]
    [0])
  (Stmt.seq
    (Stmt.region
      [SOper.mk (some 1) none
          (SOp.build 39 [Value.bool false, Value.int IntKind.i64 0] [(0, 1, Operand.const (Value.bool true))]),
        SOper.mk (some 2) none (SOp.buildS 39 1 [Value.bool false, Value.int IntKind.i64 0] [(0, 2, Operand.tmp 1)]),
        SOper.mk (some 3) none (SOp.build 37 [Value.int IntKind.i64 0, Value.slice none 0 0] [(1, 1, Operand.tmp 2)]),
        SOper.mk (some 4) none
          (SOp.build 39 [Value.bool false, Value.int IntKind.i64 0]
            [(0, 1, Operand.const (Value.bool true)), (1, 1, Operand.const (Value.int IntKind.i64 1))]),
        SOper.mk (some 5) none (SOp.build 39 [Value.bool false, Value.int IntKind.i64 0] []),
        SOper.mk (some 6) none
          (SOp.buildS 39 2 [Value.bool false, Value.int IntKind.i64 0, Value.bool false, Value.int IntKind.i64 0]
            [(0, 2, Operand.tmp 4), (2, 2, Operand.tmp 5)]),
        SOper.mk (some 7) none (SOp.build 37 [Value.int IntKind.i64 0, Value.slice none 0 0] [(1, 1, Operand.tmp 6)]),
        SOper.mk (some 8) none
          (SOp.buildS 37 2
            [Value.int IntKind.i64 0, Value.slice none 0 0, Value.int IntKind.i64 0, Value.slice none 0 0]
            [(0, 2, Operand.tmp 3), (2, 2, Operand.tmp 7)]),
        SOper.mk (some 9) none
          (SOp.build 57
            [Value.int IntKind.i64 0, Value.int IntKind.i64 0, Value.int IntKind.i64 0, Value.slice none 0 0]
            [(0, 1, Operand.const (Value.int IntKind.i64 2)), (1, 1, Operand.const (Value.int IntKind.i64 1)),
              (3, 1, Operand.tmp 8)]),
        SOper.mk none none (SOp.store 4 (Operand.tmp 0) (Operand.tmp 9))]
      [0])
    Stmt.ret)
def S40 : FnS := ⟨10, [(0, some (true, 4))], S40_0⟩
theorem tr40 : trFn Try.prog 40 [0] [[0], [0]] = some S40 := by kernel_rfl
end Go.Proofs.Ytniobbepliknmaa.V
/- parllaw5.plain and slices.Equal of bools walked; no condition. -/
namespace Go.Proofs.Ytniobbepliknmaa.V
open Go
set_option linter.unusedVariables false
set_option linter.unusedSimpArgs false
attribute [local go_sem] e_seq e_region e_quiet e_join e_loop e_cond e_block e_exit e_ret e_skip e_fin e_kseq e_snrm e_sret e_sex e_bnrm e_bret e_bex e_rnrm e_rret e_res e_condC e_nil e_g e_mv g_mv e_pick g_pick pickC_eq e_ibin g_ibin ibinC_eq e_sbin g_sbin e_beq g_beq beqC_eq e_nilq g_nilq nilqC_sl nilqC_pt nilqC_mp e_un g_un unC_not unC_neg e_conv g_conv convC_eq e_fld g_fld fldC_ref fldC_ptr e_nilCheck g_nilCheck nilCheckC_ref nilCheckC_ptr nilCheckC_fun e_field g_field fieldC_eq e_len g_len lenC_sl lenC_str e_extract g_extract extractC_eq e_mkFunc e_build g_build e_idiv g_idiv idivC_eq e_ishift g_ishift ishiftC_eq e_idx g_idx e_idxA g_idxA e_load g_load loadC_ref loadC_ptr loadB_eq e_slc g_slc e_box boxC_loc boxC_esc e_alloc allocC_loc allocC_esc e_buildS e_store storeC_ref storeC_ptr storeB_eq e_append e_appz e_mk mkC_eq e_call callC_eq e_fn g_fn fnC_eq fnV_min' fnV_max' fnV_rune' e_q g_q e_a e_n g_call g_box g_alloc g_buildS g_store g_append g_mk g_a g_n g_dead e_dead e_callK e_drawn e_tree e_finJ e_tk e_tfin e_tno e_nbt_q e_nbt_qn e_nbt_a e_nbt_an e_nbt_fin e_early_nil e_early_t e_early_f e_nob_nil e_nob_none e_nob_some isBox_dead isBox_v isBox_ref e_dnil e_dk e_ek e_finB vcOps_vc1 e_dcons e_tq e_ekt e_tearly e_talt e_dearly look_nil look_c proj_nil proj_c looks_nil looks_c zip_nil zip_c val_tmp val_const val_func slv_v slv_box slv_ref slot_tmp slot_const slot_func slotL_v slotL_box slotL_ref put_some put_none updBox_c boxSet_box gd_eq slotVals_nil slotVals_c slotVals_b boxV_box boxOn_box slotsOn_nil slotsOn_c slotsOn_b resV_one resV_two vals_nil vals_c allOn_nil allOn_c partOn_nil partOn_c partVals_nil partVals_c fits_nil fits_c fillL_nil fillL_c mkv_one mkv_agg cellsV_agg cellsV_int cellsV_bool cellsV_slice cellsV_string cellsV_pointer cellsV_func cellsV_nilf cellsV_map one'_nil one'_c oc_int oc_bool oc_slice oc_string oc_pointer oc_func oc_nilf oc_map setC_eq iv_add iv_sub iv_mul iv_eql iv_neq iv_lss iv_leq iv_gtr iv_geq iok_add iok_sub iok_mul iok_eql iok_neq iok_lss iok_leq iok_gtr iok_geq pickV_bool args0_nil args0_c bnd_none bnd_some imp_bt imp_bf imp_ebt imp_ebf imp_eb1 imp_np imp_pp beq_tt beq_tf beq_ft beq_ff cond_or cond_and e_round e_meet Int.le_refl Int.toNat_zero decide_true decide_false Bool.or_false Bool.false_or Bool.true_or Bool.or_true Bool.and_false Bool.false_and Bool.bne_false Bool.bne_true beq_iff_eq Int.cast_ofNat_Int not_false_eq_true not_true_eq_false false_and and_false false_implies true_implies true_and and_true Bool.true_and Bool.and_true Bool.not_true Bool.not_false forall_const implies_true List.take_zero List.drop_zero List.take_succ_cons List.drop_succ_cons List.take_nil List.drop_nil List.length_cons List.length_nil List.nil_append List.append_nil List.cons_append Int.toNat_natCast decide_eq_true_eq decide_eq_false_iff_not cond_true cond_false and_self List.getElem?_cons_zero List.getElem?_cons_succ List.set_cons_zero List.set_cons_succ Option.some.injEq exists_eq_left' Nat.zero_add Nat.add_zero Nat.mul_one imp_self true_or or_true or_false false_or Bool.or_eq_true Bool.or_eq_false_iff Bool.and_eq_true Bool.and_eq_false_iff Bool.not_eq_true' Bool.not_eq_false'

theorem equal_bools {Γr : Ctx} {A B : Option Addr} {c d : Nat} {xs ys : List Bool} (hx : SlOk (lk Γr) A c xs) (hy : SlOk (lk Γr) B d ys) :
    Ret Try.prog 41 [.slice A xs.length c, .slice B ys.length d] Γr [] (fun v Γ => Γ = [] ∧ v = .bool (decide (xs = ys))) := by
  generalize hR : (fun v Γ => Γ = [] ∧ v = _) = R
  refine ret_of_vc tr41 (Nat.le_of_ble_eq_true rfl) ?_
  have h1 := hx.short
  have h2 := hy.short
  simp -implicitDefEqProofs only [S41, S41_0, go_sem, Nat.reduceBEq, Nat.reduceAdd, Nat.reduceSub, Nat.reduceMul, Nat.reduceLeDiff, reduceCtorEq, ↓reduceIte, Int.reduceLT, Int.reduceLE, Int.reduceEq, Int.reduceNe]
  refine ⟨fun hne => Up.here ?_, fun heq => ?_⟩
  · subst hR
    refine ⟨rfl, ?_⟩
    have : xs ≠ ys := fun e => by subst e; exact hne rfl
    simp [this]
  have hl : xs.length = ys.length := by omega
  refine s_loop (fun f vs Γ => Γ = [] ∧ ∃ k : Nat, vs = [.v true (.int .i64 k)] ∧ k + f = xs.length ∧ xs.take k = ys.take k) xs.length (Up.here ⟨rfl, 0, rfl, by omega, by simp⟩) ?_
  rintro f vs Γ ⟨rfl, k, rfl, hkf, htk⟩
  simp -implicitDefEqProofs only [S41_1, go_sem, Nat.reduceBEq, Nat.reduceAdd, Nat.reduceSub, Nat.reduceMul, Nat.reduceLeDiff, reduceCtorEq, ↓reduceIte, Int.reduceLT, Int.reduceLE, Int.reduceEq, Int.reduceNe]
  refine ⟨fun hlt => ?_, fun hge => ?_⟩
  · have hk : k < xs.length := by omega
    have hk' : k < ys.length := by omega
    obtain ⟨b, o, hA, hc1⟩ := hx.bool hk
    obtain ⟨b', o', hB, hc2⟩ := hy.bool hk'
    refine s_idx hA (by omega) (by omega) ?_
    simp -implicitDefEqProofs only [go_sem, Nat.reduceBEq, Nat.reduceAdd, Nat.reduceSub, Nat.reduceMul, Nat.reduceLeDiff, reduceCtorEq, ↓reduceIte, Int.reduceLT, Int.reduceLE, Int.reduceEq, Int.reduceNe]
    refine s_ld0 (hc1 _ (Mem.le.refl _)) (by simp) (by simp) ?_
    simp -implicitDefEqProofs only [go_sem, Nat.reduceBEq, Nat.reduceAdd, Nat.reduceSub, Nat.reduceMul, Nat.reduceLeDiff, reduceCtorEq, ↓reduceIte, Int.reduceLT, Int.reduceLE, Int.reduceEq, Int.reduceNe]
    refine s_idx hB (by omega) (by omega) ?_
    simp -implicitDefEqProofs only [go_sem, Nat.reduceBEq, Nat.reduceAdd, Nat.reduceSub, Nat.reduceMul, Nat.reduceLeDiff, reduceCtorEq, ↓reduceIte, Int.reduceLT, Int.reduceLE, Int.reduceEq, Int.reduceNe]
    refine s_ld0 (hc2 _ (Mem.le.refl _)) (by simp) (by simp) ?_
    simp -implicitDefEqProofs only [go_sem, Nat.reduceBEq, Nat.reduceAdd, Nat.reduceSub, Nat.reduceMul, Nat.reduceLeDiff, reduceCtorEq, ↓reduceIte, Int.reduceLT, Int.reduceLE, Int.reduceEq, Int.reduceNe]
    refine ⟨fun hne => Up.here ?_, fun heq => ?_⟩
    · subst hR
      refine ⟨rfl, ?_⟩
      have : xs ≠ ys := fun e => by subst e; simp at hne
      simp [this]
    · simp (disch := omega) only [wrap_id]
      exact ⟨f - 1, by omega, Up.here ⟨rfl, k + 1, rfl, by omega, take_eq_succ hk hk' htk heq⟩⟩
  · have hk : k = xs.length := by omega
    refine Up.here ?_
    subst hR
    refine ⟨rfl, ?_⟩
    have : xs = ys := by
      rw [hk, List.take_length, hl, List.take_length] at htk
      exact htk
    simp [this]
def plainG : Gr := ⟨2, 1, 0, [⟨0, [⟨true, 0⟩]⟩, ⟨0, [⟨true, 1⟩, ⟨false, 0⟩]⟩]⟩
theorem plain_ {Γr : Ctx} : Ret Try.prog 40 [] Γr [] (fun v Γ => ∃ g A c, Γ = [g] ∧ SlOk (lk [g]) A c plainG.rs ∧ v = .agg #[.int .i64 2, .int .i64 1, .int .i64 0, .slice A 2 c]) := by
  generalize hR : (fun (v : Value) (Γ : Ctx) => ∃ g A c, _) = R
  refine ret_of_vc tr40 (Nat.le_of_ble_eq_true rfl) ?_
  simp -implicitDefEqProofs only [S40, S40_0, go_sem, Nat.reduceBEq, Nat.reduceAdd, Nat.reduceSub, Nat.reduceMul, Nat.reduceLeDiff, reduceCtorEq, ↓reduceIte, Int.reduceLT, Int.reduceLE, Int.reduceEq, Int.reduceNe]
  intro b b1 b2
  refine Up.one fun g hg => ?_
  subst hR
  refine ⟨g, _, 2, rfl, ?_, rfl⟩
  refine lit_rep2 (cs := [.int .i64 0, .slice (some ⟨b, 0, none⟩) 1 1]) (ds := [.int .i64 0, .slice (some ⟨b1, 0, none⟩) 2 2]) _ _ (hg _ _ lk_head) rfl ⟨_, _, rfl, ?_⟩ ⟨_, _, rfl, ?_⟩
  · exact lit_rep1 (cs := [.bool true, .int .i64 0]) (⟨true, 0⟩ : Sy) (hg _ _ (lk_tail (lk_tail lk_head))) rfl
  · exact lit_rep2 (cs := [.bool true, .int .i64 1]) (ds := [.bool false, .int .i64 0]) (⟨true, 1⟩ : Sy) (⟨false, 0⟩ : Sy) (hg _ _ (lk_tail lk_head)) rfl rfl rfl
end Go.Proofs.Ytniobbepliknmaa.V
/- The text of parlance/parlref5.RuleFault as a statement (slots: 0 g, 1 g, 3 seen, 4 _, 5 r, 6 key, 7 _, 8 s, 9 most); no condition. -/
namespace Go.Proofs.Ytniobbepliknmaa.V
open Go
def S42_1 : Stmt :=
  Stmt.seq
  (Stmt.region
    [SOper.mk (some 79) none (SOp.fld 0 (Operand.tmp 8)), SOper.mk (some 80) none (SOp.load false 1 (Operand.tmp 79))]
    [1, 3, 6, 8, 9, 46, 47, 48, 71, 72, 73, 80])
  (Stmt.cond (Operand.tmp 80)
    (Stmt.seq
      (Stmt.region
        [SOper.mk (some 81) none (SOp.fld 0 (Operand.tmp 1)),
          SOper.mk (some 82) none (SOp.load false 1 (Operand.tmp 81)), SOper.mk (some 9) none (SOp.mv (Operand.tmp 82))]
        [1, 3, 6, 8, 9, 46, 47, 48, 71, 72, 73])
      (Stmt.region
        [SOper.mk (some 83) none (SOp.mv (Operand.tmp 6)),
          SOper.mk (some 84) none
            (SOp.fn Fk.cat [Operand.tmp 83, Operand.const (Value.string (ByteArray.mk (Array.mk [UInt8.ofNat 116])))]),
          SOper.mk (some 6) none (SOp.mv (Operand.tmp 84))]
        [1, 3, 6, 8, 9, 46, 47, 48, 71, 72, 73]))
    (Stmt.region
      [SOper.mk (some 85) none (SOp.mv (Operand.tmp 6)),
        SOper.mk (some 86) none
          (SOp.fn Fk.cat [Operand.tmp 85, Operand.const (Value.string (ByteArray.mk (Array.mk [UInt8.ofNat 110])))]),
        SOper.mk (some 6) none (SOp.mv (Operand.tmp 86))]
      [1, 3, 6, 8, 9, 46, 47, 48, 71, 72, 73]))
def S42_2 : Stmt :=
  Stmt.seq
  (Stmt.seq
    (Stmt.region
      [SOper.mk (some 87) none (SOp.fld 1 (Operand.tmp 8)), SOper.mk (some 88) none (SOp.load false 1 (Operand.tmp 87)),
        SOper.mk (some 89) none (SOp.ibin BinOp.lss (Operand.tmp 88) (Operand.const (Value.int IntKind.i64 0))),
        SOper.mk (some 90) none (SOp.mv (Operand.tmp 89)),
        SOper.mk (some 91) (some (90, false)) (SOp.fld 1 (Operand.tmp 8)),
        SOper.mk (some 92) (some (90, false)) (SOp.load false 1 (Operand.tmp 91)),
        SOper.mk (some 93) (some (90, false)) (SOp.mv (Operand.tmp 9)),
        SOper.mk (some 94) (some (90, false)) (SOp.ibin BinOp.geq (Operand.tmp 92) (Operand.tmp 93)),
        SOper.mk (some 95) none (SOp.pick (Operand.tmp 90) (Operand.const (Value.bool true)) (Operand.tmp 94))]
      [1, 3, 6, 8, 46, 47, 48, 71, 72, 73, 95])
    (Stmt.cond (Operand.tmp 95)
      (Stmt.seq (Stmt.region [SOper.mk (some 2) none (SOp.mv (Operand.const (Value.int IntKind.i64 3)))] [2]) Stmt.ret)
      Stmt.skip))
  (Stmt.region
    [SOper.mk (some 96) none (SOp.mv (Operand.tmp 6)), SOper.mk (some 97) none (SOp.fld 1 (Operand.tmp 8)),
      SOper.mk (some 98) none (SOp.load false 1 (Operand.tmp 97)),
      SOper.mk (some 99) none (SOp.conv IntKind.i32 (Operand.tmp 98)),
      SOper.mk (some 100) none (SOp.fn Fk.rune [Operand.tmp 99]),
      SOper.mk (some 101) none (SOp.fn Fk.cat [Operand.tmp 96, Operand.tmp 100]),
      SOper.mk (some 6) none (SOp.mv (Operand.tmp 101))]
    [1, 3, 6, 46, 47, 48, 71, 72, 73])
def S42_3 : Stmt :=
  Stmt.block 3
  (Stmt.seq
    (Stmt.region
      [SOper.mk (some 75) none (SOp.idx 2 (Operand.tmp 71) (Operand.tmp 73)),
        SOper.mk (some 76) none (SOp.load true 2 (Operand.tmp 75)),
        SOper.mk (some 8) none (SOp.alloc true 39 (Value.agg (Array.mk [Value.bool false, Value.int IntKind.i64 0]))),
        SOper.mk none none (SOp.store 2 (Operand.tmp 8) (Operand.tmp 76))]
      [1, 3, 6, 8, 46, 47, 48, 71, 72, 73])
    (Stmt.seq
      (Stmt.region
        [SOper.mk (some 77) none (SOp.fld 1 (Operand.tmp 1)),
          SOper.mk (some 78) none (SOp.load false 1 (Operand.tmp 77)), SOper.mk (some 9) none (SOp.mv (Operand.tmp 78))]
        [1, 3, 6, 8, 9, 46, 47, 48, 71, 72, 73])
      (Stmt.join S42_1 S42_2 [6, 9] [1, 3, 8, 46, 47, 48, 71, 72, 73])))
def S42_4 : Stmt :=
  Stmt.region
  [SOper.mk (some 102) none (SOp.ibin BinOp.add (Operand.tmp 73) (Operand.const (Value.int IntKind.i64 1))),
    SOper.mk (some 73) none (SOp.mv (Operand.tmp 102))]
  [1, 3, 6, 46, 47, 48, 71, 72, 73]
def S42_5 : Stmt :=
  Stmt.seq
  (Stmt.region [SOper.mk (some 74) none (SOp.ibin BinOp.lss (Operand.tmp 73) (Operand.tmp 72))]
    [1, 3, 6, 46, 47, 48, 71, 72, 73, 74])
  (Stmt.seq (Stmt.cond (Operand.tmp 74) Stmt.skip (Stmt.exit 2))
    (Stmt.join S42_3 S42_4 [6] [1, 3, 46, 47, 48, 71, 72, 73]))
def S42_6 : Stmt :=
  Stmt.seq
  (Stmt.region [SOper.mk (some 49) none (SOp.ibin BinOp.lss (Operand.tmp 48) (Operand.tmp 47))] [1, 3, 46, 47, 48, 49])
  (Stmt.seq (Stmt.cond (Operand.tmp 49) Stmt.skip (Stmt.exit 0))
    (Stmt.seq
      (Stmt.block 1
        (Stmt.seq
          (Stmt.region
            [SOper.mk (some 50) none (SOp.idx 2 (Operand.tmp 46) (Operand.tmp 48)),
              SOper.mk (some 51) none (SOp.load true 2 (Operand.tmp 50)),
              SOper.mk (some 5) none
                (SOp.alloc true 37 (Value.agg (Array.mk [Value.int IntKind.i64 0, Value.slice none 0 0]))),
              SOper.mk none none (SOp.store 2 (Operand.tmp 5) (Operand.tmp 51))]
            [1, 3, 5, 46, 47, 48])
          (Stmt.seq
            (Stmt.seq
              (Stmt.region
                [SOper.mk (some 52) none (SOp.fld 0 (Operand.tmp 5)),
                  SOper.mk (some 53) none (SOp.load false 1 (Operand.tmp 52)),
                  SOper.mk (some 54) none
                    (SOp.ibin BinOp.lss (Operand.tmp 53) (Operand.const (Value.int IntKind.i64 0))),
                  SOper.mk (some 55) none (SOp.mv (Operand.tmp 54)),
                  SOper.mk (some 56) (some (55, false)) (SOp.fld 0 (Operand.tmp 5)),
                  SOper.mk (some 57) (some (55, false)) (SOp.load false 1 (Operand.tmp 56)),
                  SOper.mk (some 58) (some (55, false)) (SOp.fld 1 (Operand.tmp 1)),
                  SOper.mk (some 59) (some (55, false)) (SOp.load false 1 (Operand.tmp 58)),
                  SOper.mk (some 60) (some (55, false)) (SOp.ibin BinOp.geq (Operand.tmp 57) (Operand.tmp 59)),
                  SOper.mk (some 61) none
                    (SOp.pick (Operand.tmp 55) (Operand.const (Value.bool true)) (Operand.tmp 60))]
                [1, 3, 5, 46, 47, 48, 61])
              (Stmt.cond (Operand.tmp 61)
                (Stmt.seq (Stmt.region [SOper.mk (some 2) none (SOp.mv (Operand.const (Value.int IntKind.i64 3)))] [2])
                  Stmt.ret)
                Stmt.skip))
            (Stmt.seq
              (Stmt.seq
                (Stmt.region
                  [SOper.mk (some 62) none (SOp.fld 1 (Operand.tmp 5)),
                    SOper.mk (some 63) none (SOp.load false 1 (Operand.tmp 62)),
                    SOper.mk (some 64) none (SOp.len false (Operand.tmp 63)),
                    SOper.mk (some 65) none
                      (SOp.ibin BinOp.gtr (Operand.tmp 64) (Operand.const (Value.int IntKind.i64 4)))]
                  [1, 3, 5, 46, 47, 48, 65])
                (Stmt.cond (Operand.tmp 65)
                  (Stmt.seq
                    (Stmt.region [SOper.mk (some 2) none (SOp.mv (Operand.const (Value.int IntKind.i64 2)))] [2])
                    Stmt.ret)
                  Stmt.skip))
              (Stmt.seq
                (Stmt.region
                  [SOper.mk (some 66) none (SOp.fld 0 (Operand.tmp 5)),
                    SOper.mk (some 67) none (SOp.load false 1 (Operand.tmp 66)),
                    SOper.mk (some 68) none (SOp.conv IntKind.i32 (Operand.tmp 67)),
                    SOper.mk (some 69) none (SOp.fn Fk.rune [Operand.tmp 68]),
                    SOper.mk (some 6) none (SOp.mv (Operand.tmp 69))]
                  [1, 3, 5, 6, 46, 47, 48])
                (Stmt.seq
                  (Stmt.seq
                    (Stmt.region
                      [SOper.mk (some 70) none (SOp.fld 1 (Operand.tmp 5)),
                        SOper.mk (some 71) none (SOp.load false 1 (Operand.tmp 70)),
                        SOper.mk (some 72) none (SOp.len false (Operand.tmp 71)),
                        SOper.mk (some 73) none (SOp.mv (Operand.const (Value.int IntKind.i64 0)))]
                      [1, 3, 6, 46, 47, 48, 71, 72, 73])
                    (Stmt.block 2 (Stmt.loop S42_5 [6, 73] [1, 3, 46, 47, 48, 71, 72])))
                  (Stmt.seq
                    (Stmt.seq
                      (Stmt.region
                        [SOper.mk (some 103) none (SOp.mv (Operand.tmp 3)),
                          SOper.mk (some 104) none (SOp.mv (Operand.tmp 6)),
                          SOper.mk (some 105) none (SOp.q (Qk.look 118 false) [Operand.tmp 103, Operand.tmp 104])]
                        [1, 3, 6, 46, 47, 48, 105])
                      (Stmt.cond (Operand.tmp 105)
                        (Stmt.seq
                          (Stmt.region [SOper.mk (some 2) none (SOp.mv (Operand.const (Value.int IntKind.i64 6)))] [2])
                          Stmt.ret)
                        Stmt.skip))
                    (Stmt.region
                      [SOper.mk (some 106) none (SOp.mv (Operand.tmp 3)),
                        SOper.mk (some 107) none (SOp.mv (Operand.tmp 6)),
                        SOper.mk none none
                          (SOp.a (Qk.upd 118) [Operand.tmp 106, Operand.tmp 107, Operand.const (Value.bool true)])]
                      [1, 3, 46, 47, 48]))))))))
      (Stmt.region
        [SOper.mk (some 108) none (SOp.ibin BinOp.add (Operand.tmp 48) (Operand.const (Value.int IntKind.i64 1))),
          SOper.mk (some 48) none (SOp.mv (Operand.tmp 108))]
        [1, 3, 46, 47, 48])))
def S42_0 : Stmt :=
  Stmt.seq
  (Stmt.region
    [SOper.mk (some 1) none (SOp.box true 57 (Operand.tmp 0)),
      SOper.mk (some 2) none (SOp.mv (Operand.const (Value.int IntKind.i64 0)))]
    [1])
  (Stmt.seq
    (Stmt.seq
      (Stmt.region
        [SOper.mk (some 10) none (SOp.fld 0 (Operand.tmp 1)),
          SOper.mk (some 11) none (SOp.load false 1 (Operand.tmp 10)),
          SOper.mk (some 12) none (SOp.ibin BinOp.lss (Operand.tmp 11) (Operand.const (Value.int IntKind.i64 1))),
          SOper.mk (some 13) none (SOp.mv (Operand.tmp 12)),
          SOper.mk (some 14) (some (13, false)) (SOp.fld 0 (Operand.tmp 1)),
          SOper.mk (some 15) (some (13, false)) (SOp.load false 1 (Operand.tmp 14)),
          SOper.mk (some 16) (some (13, false))
            (SOp.ibin BinOp.gtr (Operand.tmp 15) (Operand.const (Value.int IntKind.i64 8))),
          SOper.mk (some 17) none (SOp.pick (Operand.tmp 13) (Operand.const (Value.bool true)) (Operand.tmp 16)),
          SOper.mk (some 18) none (SOp.mv (Operand.tmp 17)),
          SOper.mk (some 19) (some (18, false)) (SOp.fld 1 (Operand.tmp 1)),
          SOper.mk (some 20) (some (18, false)) (SOp.load false 1 (Operand.tmp 19)),
          SOper.mk (some 21) (some (18, false))
            (SOp.ibin BinOp.lss (Operand.tmp 20) (Operand.const (Value.int IntKind.i64 1))),
          SOper.mk (some 22) none (SOp.pick (Operand.tmp 18) (Operand.const (Value.bool true)) (Operand.tmp 21)),
          SOper.mk (some 23) none (SOp.mv (Operand.tmp 22)),
          SOper.mk (some 24) (some (23, false)) (SOp.fld 1 (Operand.tmp 1)),
          SOper.mk (some 25) (some (23, false)) (SOp.load false 1 (Operand.tmp 24)),
          SOper.mk (some 26) (some (23, false))
            (SOp.ibin BinOp.gtr (Operand.tmp 25) (Operand.const (Value.int IntKind.i64 10))),
          SOper.mk (some 27) none (SOp.pick (Operand.tmp 23) (Operand.const (Value.bool true)) (Operand.tmp 26)),
          SOper.mk (some 28) none (SOp.mv (Operand.tmp 27)),
          SOper.mk (some 29) (some (28, false)) (SOp.fld 2 (Operand.tmp 1)),
          SOper.mk (some 30) (some (28, false)) (SOp.load false 1 (Operand.tmp 29)),
          SOper.mk (some 31) (some (28, false))
            (SOp.ibin BinOp.lss (Operand.tmp 30) (Operand.const (Value.int IntKind.i64 0))),
          SOper.mk (some 32) none (SOp.pick (Operand.tmp 28) (Operand.const (Value.bool true)) (Operand.tmp 31)),
          SOper.mk (some 33) none (SOp.mv (Operand.tmp 32)),
          SOper.mk (some 34) (some (33, false)) (SOp.fld 2 (Operand.tmp 1)),
          SOper.mk (some 35) (some (33, false)) (SOp.load false 1 (Operand.tmp 34)),
          SOper.mk (some 36) (some (33, false)) (SOp.fld 1 (Operand.tmp 1)),
          SOper.mk (some 37) (some (33, false)) (SOp.load false 1 (Operand.tmp 36)),
          SOper.mk (some 38) (some (33, false)) (SOp.ibin BinOp.geq (Operand.tmp 35) (Operand.tmp 37)),
          SOper.mk (some 39) none (SOp.pick (Operand.tmp 33) (Operand.const (Value.bool true)) (Operand.tmp 38))]
        [1, 39])
      (Stmt.cond (Operand.tmp 39)
        (Stmt.seq (Stmt.region [SOper.mk (some 2) none (SOp.mv (Operand.const (Value.int IntKind.i64 1)))] [2])
          Stmt.ret)
        Stmt.skip))
    (Stmt.seq
      (Stmt.seq
        (Stmt.region
          [SOper.mk (some 40) none (SOp.fld 3 (Operand.tmp 1)),
            SOper.mk (some 41) none (SOp.load false 1 (Operand.tmp 40)),
            SOper.mk (some 42) none (SOp.len false (Operand.tmp 41)),
            SOper.mk (some 43) none (SOp.ibin BinOp.gtr (Operand.tmp 42) (Operand.const (Value.int IntKind.i64 32)))]
          [1, 43])
        (Stmt.cond (Operand.tmp 43)
          (Stmt.seq (Stmt.region [SOper.mk (some 2) none (SOp.mv (Operand.const (Value.int IntKind.i64 2)))] [2])
            Stmt.ret)
          Stmt.skip))
      (Stmt.seq
        (Stmt.region
          [SOper.mk (some 44) none (SOp.n (Qk.mkmap 118) []), SOper.mk (some 3) none (SOp.mv (Operand.tmp 44))] [1, 3])
        (Stmt.seq
          (Stmt.seq
            (Stmt.region
              [SOper.mk (some 45) none (SOp.fld 3 (Operand.tmp 1)),
                SOper.mk (some 46) none (SOp.load false 1 (Operand.tmp 45)),
                SOper.mk (some 47) none (SOp.len false (Operand.tmp 46)),
                SOper.mk (some 48) none (SOp.mv (Operand.const (Value.int IntKind.i64 0)))]
              [1, 3, 46, 47, 48])
            (Stmt.block 0 (Stmt.loop S42_6 [48] [1, 3, 46, 47])))
          (Stmt.seq (Stmt.region [SOper.mk (some 2) none (SOp.mv (Operand.const (Value.int IntKind.i64 0)))] [2])
            Stmt.ret)))))
def S42 : FnS := ⟨109, [(2, none)], S42_0⟩
theorem tr42 : trFn Try.prog 42 [1, 5, 8] [[1], [1, 39], [2], [1, 43], [2], [1, 3], [1, 3, 46, 47, 48], [48], [1, 3, 46, 47], [1, 3, 46, 47, 48, 49], [1, 3, 5, 46, 47, 48], [1, 3, 5, 46, 47, 48, 61], [2], [1, 3, 5, 46, 47, 48, 65], [2], [1, 3, 5, 6, 46, 47, 48], [1, 3, 6, 46, 47, 48, 71, 72, 73], [6, 73], [1, 3, 46, 47, 48, 71, 72], [1, 3, 6, 46, 47, 48, 71, 72, 73, 74], [6], [1, 3, 46, 47, 48, 71, 72, 73], [1, 3, 6, 8, 46, 47, 48, 71, 72, 73], [1, 3, 6, 8, 9, 46, 47, 48, 71, 72, 73], [6, 9], [1, 3, 8, 46, 47, 48, 71, 72, 73], [1, 3, 6, 8, 9, 46, 47, 48, 71, 72, 73, 80], [1, 3, 6, 8, 9, 46, 47, 48, 71, 72, 73], [1, 3, 6, 8, 9, 46, 47, 48, 71, 72, 73], [1, 3, 6, 8, 9, 46, 47, 48, 71, 72, 73], [1, 3, 6, 8, 46, 47, 48, 71, 72, 73, 95], [2], [1, 3, 6, 46, 47, 48, 71, 72, 73], [1, 3, 6, 46, 47, 48, 71, 72, 73], [1, 3, 6, 46, 47, 48, 105], [2], [1, 3, 46, 47, 48], [1, 3, 46, 47, 48], [2]] = some S42 := by kernel_rfl
end Go.Proofs.Ytniobbepliknmaa.V
/- Grammars are checked once more: parlref5.RuleFault walked; no condition. -/
namespace Go.Proofs.Ytniobbepliknmaa.V
open Go
set_option linter.unusedVariables false
set_option linter.unusedSimpArgs false
attribute [local go_sem] e_seq e_region e_quiet e_join e_loop e_cond e_block e_exit e_ret e_skip e_fin e_kseq e_snrm e_sret e_sex e_bnrm e_bret e_bex e_rnrm e_rret e_res e_condC e_nil e_g e_mv g_mv e_pick g_pick pickC_eq e_ibin g_ibin ibinC_eq e_sbin g_sbin e_beq g_beq beqC_eq e_nilq g_nilq nilqC_sl nilqC_pt nilqC_mp e_un g_un unC_not unC_neg e_conv g_conv convC_eq e_fld g_fld fldC_ref fldC_ptr e_nilCheck g_nilCheck nilCheckC_ref nilCheckC_ptr nilCheckC_fun e_field g_field fieldC_eq e_len g_len lenC_sl lenC_str e_extract g_extract extractC_eq e_mkFunc e_build g_build e_idiv g_idiv idivC_eq e_ishift g_ishift ishiftC_eq e_idx g_idx e_idxA g_idxA e_load g_load loadC_ref loadC_ptr loadB_eq e_slc g_slc e_box boxC_loc boxC_esc e_alloc allocC_loc allocC_esc e_buildS e_store storeC_ref storeC_ptr storeB_eq e_append e_appz e_mk mkC_eq e_call callC_eq e_fn g_fn fnC_eq fnV_min' fnV_max' fnV_rune' e_q g_q e_a e_n g_call g_box g_alloc g_buildS g_store g_append g_mk g_a g_n g_dead e_dead e_callK e_drawn e_tree e_finJ e_tk e_tfin e_tno e_nbt_q e_nbt_qn e_nbt_a e_nbt_an e_nbt_fin e_early_nil e_early_t e_early_f e_nob_nil e_nob_none e_nob_some isBox_dead isBox_v isBox_ref e_dnil e_dk e_ek e_finB vcOps_vc1 e_dcons e_tq e_ekt e_tearly e_talt e_dearly look_nil look_c proj_nil proj_c looks_nil looks_c zip_nil zip_c val_tmp val_const val_func slv_v slv_box slv_ref slot_tmp slot_const slot_func slotL_v slotL_box slotL_ref put_some put_none updBox_c boxSet_box gd_eq slotVals_nil slotVals_c slotVals_b boxV_box boxOn_box slotsOn_nil slotsOn_c slotsOn_b resV_one resV_two vals_nil vals_c allOn_nil allOn_c partOn_nil partOn_c partVals_nil partVals_c fits_nil fits_c fillL_nil fillL_c mkv_one mkv_agg cellsV_agg cellsV_int cellsV_bool cellsV_slice cellsV_string cellsV_pointer cellsV_func cellsV_nilf cellsV_map one'_nil one'_c oc_int oc_bool oc_slice oc_string oc_pointer oc_func oc_nilf oc_map setC_eq iv_add iv_sub iv_mul iv_eql iv_neq iv_lss iv_leq iv_gtr iv_geq iok_add iok_sub iok_mul iok_eql iok_neq iok_lss iok_leq iok_gtr iok_geq pickV_bool args0_nil args0_c bnd_none bnd_some imp_bt imp_bf imp_ebt imp_ebf imp_eb1 imp_np imp_pp beq_tt beq_tf beq_ft beq_ff cond_or cond_and e_round e_meet Int.le_refl Int.toNat_zero decide_true decide_false Bool.or_false Bool.false_or Bool.true_or Bool.or_true Bool.and_false Bool.false_and Bool.bne_false Bool.bne_true beq_iff_eq Int.cast_ofNat_Int not_false_eq_true not_true_eq_false false_and and_false false_implies true_implies true_and and_true Bool.true_and Bool.and_true Bool.not_true Bool.not_false forall_const implies_true List.take_zero List.drop_zero List.take_succ_cons List.drop_succ_cons List.take_nil List.drop_nil List.length_cons List.length_nil List.nil_append List.append_nil List.cons_append Int.toNat_natCast decide_eq_true_eq decide_eq_false_iff_not cond_true cond_false and_self List.getElem?_cons_zero List.getElem?_cons_succ List.set_cons_zero List.set_cons_succ Option.some.injEq exists_eq_left' Nat.zero_add Nat.add_zero Nat.mul_one imp_self true_or or_true or_false false_or Bool.or_eq_true Bool.or_eq_false_iff Bool.and_eq_true Bool.and_eq_false_iff Bool.not_eq_true' Bool.not_eq_false'

def strB (l : List UInt8) : Value := .string ⟨l.toArray⟩
theorem strB_inj (a b : List UInt8) (h : strB a = strB b) : a = b := by
  simp only [strB, Value.string.injEq, ByteArray.mk.injEq] at h
  simpa using congrArg Array.toList h
theorem kt_str {P : Program} {k : TypeId} (hk : P.underlying k = some .string) : KT P k strB (fun l => l.length ≤ 1000) :=
  KT.of (Maps.string_keyed hk) strB_inj fun a ha => ⟨Lit.string a, by simp [strB, keyOf, hk, mapKey, ByteArray.size]; unfold maxLen; omega⟩
theorem rune_str {n : Int} (h0 : 0 ≤ n) (h1 : n < 10) : Value.string (Utf8.encode (IntKind.i32.wrap n)) = strB [UInt8.ofNat n.toNat] := by
  obtain ⟨m, rfl⟩ : ∃ m : Nat, n = m := ⟨n.toNat, by omega⟩
  have : m = 0 ∨ m = 1 ∨ m = 2 ∨ m = 3 ∨ m = 4 ∨ m = 5 ∨ m = 6 ∨ m = 7 ∨ m = 8 ∨ m = 9 := by omega
  rcases this with rfl | rfl | rfl | rfl | rfl | rfl | rfl | rfl | rfl | rfl <;> rfl
theorem fn_cat {a b : List UInt8} (h : a.length + b.length ≤ 1000000) : fnV .cat [strB a, strB b] = some (strB (a ++ b)) := by
  have : (ByteArray.mk a.toArray).size + (ByteArray.mk b.toArray).size ≤ 9223372036854775807 := by simp only [ByteArray.size, List.size_toArray]; omega
  simp only [fnV, strB, if_pos this]
  refine congrArg (fun x => some (Value.string x)) (ByteArray.ext ?_)
  simp

def symK (s : Sy) : List UInt8 := [if s.t then 116 else 110, UInt8.ofNat s.n.toNat]
def symsK (l : List Sy) : List UInt8 := l.flatMap symK
def keyK (r : Ru) : List UInt8 := UInt8.ofNat r.l.toNat :: symsK r.r
def okSy (s : Sy) : Prop := 0 ≤ s.n ∧ s.n < 10
theorem byte_inj {a b : Int} (h0 : 0 ≤ a) (h1 : a < 10) (h2 : 0 ≤ b) (h3 : b < 10) (h : UInt8.ofNat a.toNat = UInt8.ofNat b.toNat) : a = b := by
  have := congrArg UInt8.toNat h
  simp only [UInt8.toNat_ofNat'] at this
  omega
theorem symK_inj {s t : Sy} (hs : okSy s) (ht : okSy t) (h : symK s = symK t) : s = t := by
  obtain ⟨a, m⟩ := s
  obtain ⟨b, n⟩ := t
  simp only [symK, List.cons.injEq, and_true] at h
  have := byte_inj hs.1 hs.2 ht.1 ht.2 h.2
  simp only at this
  subst this
  cases a <;> cases b <;> simp at h ⊢
theorem symsK_inj : ∀ {l k : List Sy}, (∀ s ∈ l, okSy s) → (∀ s ∈ k, okSy s) → symsK l = symsK k → l = k
  | [], [], _, _, _ => rfl
  | [], t :: k, _, _, h => by simp [symsK, symK] at h
  | s :: l, [], _, _, h => by simp [symsK, symK] at h
  | s :: l, t :: k, hl, hk, h => by
    have e : symsK (s :: l) = symK s ++ symsK l := rfl
    have e' : symsK (t :: k) = symK t ++ symsK k := rfl
    rw [e, e'] at h
    have h1 := List.append_inj h rfl
    rw [symK_inj (hl s (by simp)) (hk t (by simp)) h1.1, symsK_inj (fun x hx => hl x (by simp [hx])) (fun x hx => hk x (by simp [hx])) h1.2]
theorem symsK_len (l : List Sy) : (symsK l).length = 2 * l.length := by
  induction l with
  | nil => rfl
  | cons s l ih => rw [show symsK (s :: l) = symK s ++ symsK l from rfl, List.length_append, ih]; simp [symK]; omega

theorem rule_fault {Γr : Ctx} {g : Gr} {A : Option Addr} {c : Nat} (hx : SlOk (lk Γr) A c g.rs) :
    Ret Try.prog 42 [.agg #[.int .i64 g.ts, .int .i64 g.ns, .int .i64 g.st, .slice A g.rs.length c]] Γr [] (fun v Γ => Γ = [] ∧ v = .int .i64 (ckF g)) := by
  generalize hR : (fun (v : Value) (Γ : Ctx) => Γ = [] ∧ _) = R
  refine ret_of_vc tr42 (Nat.le_of_ble_eq_true rfl) ?_
  simp -implicitDefEqProofs only [S42, S42_0, go_sem, Nat.reduceBEq, Nat.reduceAdd, Nat.reduceSub, Nat.reduceMul, Nat.reduceLeDiff, reduceCtorEq, ↓reduceIte, Int.reduceLT, Int.reduceLE, Int.reduceEq, Int.reduceNe]
  intro b
  refine ⟨fun h => Up.here ?_, fun hok => ⟨fun h => Up.here ?_, fun h32 => ?_⟩⟩
  · subst hR
    exact ⟨rfl, by rw [ckF, if_pos (by unfold badHead; omega)]⟩
  · subst hR
    exact ⟨rfl, by rw [ckF, if_neg (by unfold badHead; omega), if_pos (by omega)]⟩
  have hck : ckF g = ckR g g.rs.length := by rw [ckF, if_neg (by unfold badHead; omega), if_neg (by omega)]
  refine s_mkmap fun bm => ?_
  simp -implicitDefEqProofs only [go_sem, Nat.reduceBEq, Nat.reduceAdd, Nat.reduceSub, Nat.reduceMul, Nat.reduceLeDiff, reduceCtorEq, ↓reduceIte, Int.reduceLT, Int.reduceLE, Int.reduceEq, Int.reduceNe]
  have hkt : KT Try.prog 9 strB (fun l => l.length ≤ 1000) := kt_str (by kernel_rfl)
  refine s_loop (fun f vs Γ => ∃ gm, Γ = [gm] ∧ ∃ (k : Nat), vs = [.v true (.int .i64 k)] ∧ k + f = g.rs.length ∧ ckR g k = 0 ∧ (∀ r ∈ g.rs.take k, (0 ≤ r.l ∧ r.l < 10) ∧ r.r.length ≤ 4 ∧ ∀ s ∈ r.r, okSy s) ∧ MapM gm bm strB Value.bool (fun l => l.length ≤ 1000) (mset keyK (g.rs.take k))) g.rs.length
    (Up.here ⟨_, rfl, 0, rfl, by omega, rfl, by simp, MapM.new _ _ _ _⟩) ?_
  rintro f vs Γ ⟨gm, rfl, k, rfl, hkf, hck0, hall, hM⟩
  simp -implicitDefEqProofs only [S42_6, go_sem, Nat.reduceBEq, Nat.reduceAdd, Nat.reduceSub, Nat.reduceMul, Nat.reduceLeDiff, reduceCtorEq, ↓reduceIte, Int.reduceLT, Int.reduceLE, Int.reduceEq, Int.reduceNe]
  refine ⟨fun hlt => ?_, fun hge => ?_⟩
  · have hk : k < g.rs.length := by omega
    have hgen : ∀ x, faultAt g k g.rs[k] = x → x ≠ 0 → ckF g = x := fun x h1 h2 => by rw [hck, ckR_fault hk hck0 (by rw [h1]; exact h2), h1]
    have hzero : faultAt g k g.rs[k] = 0 → ckR g (k + 1) = 0 := fun h => by rw [ckR_step hk hck0, h]
    obtain ⟨b1, o1, hA, A', c', hr, hc1⟩ := hx.ru hk
    have hrl := hr.short
    refine s_idx hA (by omega) (by omega) ?_
    simp -implicitDefEqProofs only [go_sem, Nat.reduceBEq, Nat.reduceAdd, Nat.reduceSub, Nat.reduceMul, Nat.reduceLeDiff, reduceCtorEq, ↓reduceIte, Int.reduceLT, Int.reduceLE, Int.reduceEq, Int.reduceNe]
    refine s_ld0 (hc1 _ (lk_r _ _)) (by simp) (by simp) ?_
    simp -implicitDefEqProofs only [go_sem, Nat.reduceBEq, Nat.reduceAdd, Nat.reduceSub, Nat.reduceMul, Nat.reduceLeDiff, reduceCtorEq, ↓reduceIte, Int.reduceLT, Int.reduceLE, Int.reduceEq, Int.reduceNe]
    refine ⟨fun h => Up.to [] (Ent.nil _) ?_, fun hl => ⟨fun h => Up.to [] (Ent.nil _) ?_, fun h4 => ?_⟩⟩
    · subst hR
      exact ⟨rfl, by rw [hgen 3 (by rw [faultAt, if_pos h]) (by decide)]⟩
    · subst hR
      exact ⟨rfl, by rw [hgen 2 (by rw [faultAt, if_neg (by omega), if_pos (by omega)]) (by decide)]⟩
    have hf1 : faultAt g k g.rs[k] = if g.rs[k].r.any (badSy g.ts g.ns) = true then 3 else if g.rs[k] ∈ g.rs.take k then 6 else 0 := by
      rw [faultAt, if_neg (by omega), if_neg (by omega)]
    rw [rune_str (by omega) (by omega)]
    refine s_loop (fun f' vs Γ => ∃ gm, Γ = [gm] ∧ MapM gm bm strB Value.bool (fun l => l.length ≤ 1000) (mset keyK (g.rs.take k)) ∧ ∃ j : Nat, vs = [.v true (strB (UInt8.ofNat g.rs[k].l.toNat :: symsK (g.rs[k].r.take j))), .v true (.int .i64 j)] ∧ j + f' = g.rs[k].r.length ∧ ∀ (i : Nat) (h : i < g.rs[k].r.length), i < j → badSy g.ts g.ns g.rs[k].r[i] = false ∧ okSy g.rs[k].r[i]) g.rs[k].r.length
      (Up.here ⟨_, rfl, hM, 0, rfl, by omega, by intro i _ h; omega⟩) ?_
    rintro f' vs Γ ⟨gm, rfl, hM, j, rfl, hjf, hno⟩
    simp -implicitDefEqProofs only [S42_5, go_sem, Nat.reduceBEq, Nat.reduceAdd, Nat.reduceSub, Nat.reduceMul, Nat.reduceLeDiff, reduceCtorEq, ↓reduceIte, Int.reduceLT, Int.reduceLE, Int.reduceEq, Int.reduceNe]
    refine ⟨fun hlt => ?_, fun hge => ?_⟩
    · have hj : j < g.rs[k].r.length := by omega
      refine s_split ?_
      simp -implicitDefEqProofs only [S42_3, S42_4, go_sem, Nat.reduceBEq, Nat.reduceAdd, Nat.reduceSub, Nat.reduceMul, Nat.reduceLeDiff, reduceCtorEq, ↓reduceIte, Int.reduceLT, Int.reduceLE, Int.reduceEq, Int.reduceNe]
      obtain ⟨b3, o3, hA3, hc3⟩ := hr.sy hj
      refine s_idx hA3 (by omega) (by omega) ?_
      simp -implicitDefEqProofs only [go_sem, Nat.reduceBEq, Nat.reduceAdd, Nat.reduceSub, Nat.reduceMul, Nat.reduceLeDiff, reduceCtorEq, ↓reduceIte, Int.reduceLT, Int.reduceLE, Int.reduceEq, Int.reduceNe]
      refine s_ld0 (hc3 _ (lk_r _ _)) (by simp) (by simp) ?_
      simp -implicitDefEqProofs only [go_sem, Nat.reduceBEq, Nat.reduceAdd, Nat.reduceSub, Nat.reduceMul, Nat.reduceLeDiff, reduceCtorEq, ↓reduceIte, Int.reduceLT, Int.reduceLE, Int.reduceEq, Int.reduceNe]
      intro b4
      have hlen1 : (symsK (g.rs[k].r.take j)).length ≤ 8 := by rw [symsK_len, List.length_take]; omega
      refine s_join (fun vs Γ' => Γ' = [gm] ∧ vs = [.v true (strB (UInt8.ofNat g.rs[k].l.toNat :: symsK (g.rs[k].r.take j) ++ [if g.rs[k].r[j].t then 116 else 110])), .v true (.int .i64 (if g.rs[k].r[j].t then g.ts else g.ns))]) ?_ ?_
      · simp -implicitDefEqProofs only [S42_1, go_sem, Nat.reduceBEq, Nat.reduceAdd, Nat.reduceSub, Nat.reduceMul, Nat.reduceLeDiff, reduceCtorEq, ↓reduceIte, Int.reduceLT, Int.reduceLE, Int.reduceEq, Int.reduceNe]
        refine ⟨fun ht => ?_, fun ht => ?_⟩
        · rw [show Value.string (ByteArray.mk (Array.mk [UInt8.ofNat 116])) = strB [116] from rfl, fn_cat (by simp only [List.length_cons, List.length_nil]; omega)]
          simp -implicitDefEqProofs only [go_sem, Nat.reduceBEq, Nat.reduceAdd, Nat.reduceSub, Nat.reduceMul, Nat.reduceLeDiff, reduceCtorEq, ↓reduceIte, Int.reduceLT, Int.reduceLE, Int.reduceEq, Int.reduceNe]
          exact Up.here ⟨rfl, by rw [ht]; rfl⟩
        · rw [show Value.string (ByteArray.mk (Array.mk [UInt8.ofNat 110])) = strB [110] from rfl, fn_cat (by simp only [List.length_cons, List.length_nil]; omega)]
          simp -implicitDefEqProofs only [go_sem, Nat.reduceBEq, Nat.reduceAdd, Nat.reduceSub, Nat.reduceMul, Nat.reduceLeDiff, reduceCtorEq, ↓reduceIte, Int.reduceLT, Int.reduceLE, Int.reduceEq, Int.reduceNe]
          exact Up.here ⟨rfl, by rw [ht]; rfl⟩
      · rintro vs Γ' ⟨rfl, rfl⟩
        simp -implicitDefEqProofs only [S42_2, go_sem, Nat.reduceBEq, Nat.reduceAdd, Nat.reduceSub, Nat.reduceMul, Nat.reduceLeDiff, reduceCtorEq, ↓reduceIte, Int.reduceLT, Int.reduceLE, Int.reduceEq, Int.reduceNe]
        refine ⟨fun h => Up.to [] (Ent.nil _) ?_, fun h => ?_⟩
        · have hb : g.rs[k].r.any (badSy g.ts g.ns) = true := List.any_eq_true.2 ⟨g.rs[k].r[j], List.getElem_mem hj, by
            unfold badSy
            cases ht : g.rs[k].r[j].t <;> simp only [ht, if_true, if_false, Bool.false_eq_true] at h <;> simp <;> omega⟩
          subst hR
          exact ⟨rfl, by rw [hgen 3 (by rw [hf1, if_pos hb]) (by decide)]⟩
        · have hok2 : okSy g.rs[k].r[j] := by
            unfold okSy
            cases ht : g.rs[k].r[j].t <;> simp only [ht, if_true, if_false, Bool.false_eq_true] at h <;> omega
          have hnb : badSy g.ts g.ns g.rs[k].r[j] = false := by
            unfold badSy
            cases ht : g.rs[k].r[j].t <;> simp only [ht, if_true, if_false, Bool.false_eq_true] at h <;> simp <;> omega
          rw [rune_str hok2.1 hok2.2, fn_cat (by simp only [List.length_cons, List.length_append, List.length_nil]; omega)]
          simp -implicitDefEqProofs only [go_sem, Nat.reduceBEq, Nat.reduceAdd, Nat.reduceSub, Nat.reduceMul, Nat.reduceLeDiff, reduceCtorEq, ↓reduceIte, Int.reduceLT, Int.reduceLE, Int.reduceEq, Int.reduceNe]
          simp (disch := omega) only [wrap_id]
          refine Up.here ⟨f' - 1, by omega, Up.here ⟨_, rfl, hM, j + 1, ?_, by omega, fun i hi hij => ?_⟩⟩
          · have e : symsK (g.rs[k].r.take (j + 1)) = symsK (g.rs[k].r.take j) ++ symK g.rs[k].r[j] := by
              rw [List.take_succ_eq_append_getElem hj]
              simp only [symsK, List.flatMap_append, List.flatMap_cons, List.flatMap_nil, List.append_nil]
            rw [e]
            simp [symK]
          · by_cases e : i = j
            · subst e; exact ⟨hnb, hok2⟩
            · exact hno i hi (by omega)
    have hj : j = g.rs[k].r.length := by omega
    rw [hj, List.take_length]
    have hnb : ¬ (g.rs[k].r.any (badSy g.ts g.ns) = true) := by
      intro h
      obtain ⟨x, hx, hb⟩ := List.any_eq_true.1 h
      obtain ⟨i, hi, rfl⟩ := List.getElem_of_mem hx
      rw [(hno i hi (by omega)).1] at hb
      cases hb
    have hf2 : faultAt g k g.rs[k] = if g.rs[k] ∈ g.rs.take k then 6 else 0 := by rw [hf1, if_neg hnb]
    have hokr : (0 ≤ g.rs[k].l ∧ g.rs[k].l < 10) ∧ g.rs[k].r.length ≤ 4 ∧ ∀ s ∈ g.rs[k].r, okSy s := by
      refine ⟨by omega, by omega, fun s hs => ?_⟩
      obtain ⟨i, hi, rfl⟩ := List.getElem_of_mem hs
      exact (hno i hi (by omega)).2
    rw [show UInt8.ofNat g.rs[k].l.toNat :: symsK g.rs[k].r = keyK g.rs[k] from rfl]
    have hkl : (keyK g.rs[k]).length ≤ 1000 := by simp only [keyK, List.length_cons, symsK_len]; omega
    have hkinj : ∀ r ∈ g.rs.take k, keyK r = keyK g.rs[k] → r = g.rs[k] := by
      intro r hr he
      have h1 := hall r hr
      simp only [keyK, List.cons.injEq] at he
      have e1 := byte_inj h1.1.1 h1.1.2 hokr.1.1 hokr.1.2 he.1
      have e2 := symsK_inj h1.2.2 hokr.2.2 he.2
      cases r
      simp only at e1 e2
      rw [e1, e2]
    refine s_q trivial (qr_look hkt (et := 4) (z := .bool false) (by kernel_rfl) (zero_run (by kernel_rfl)) false (hM.l (by simp)) hkl) ?_
    simp -implicitDefEqProofs only [go_sem, Nat.reduceBEq, Nat.reduceAdd, Nat.reduceSub, Nat.reduceMul, Nat.reduceLeDiff, reduceCtorEq, ↓reduceIte, Int.reduceLT, Int.reduceLE, Int.reduceEq, Int.reduceNe]
    rw [mget_set]
    by_cases hin : g.rs[k] ∈ g.rs.take k
    · rw [if_pos (List.mem_map.2 ⟨_, hin, rfl⟩)]
      simp only [Option.elim_some]
      simp -implicitDefEqProofs only [go_sem, Nat.reduceBEq, Nat.reduceAdd, Nat.reduceSub, Nat.reduceMul, Nat.reduceLeDiff, reduceCtorEq, ↓reduceIte, Int.reduceLT, Int.reduceLE, Int.reduceEq, Int.reduceNe]
      refine Up.to [] (Ent.nil _) ?_
      subst hR
      exact ⟨rfl, by rw [hgen 6 (by rw [hf2, if_pos hin]) (by decide)]⟩
    · have hnk : keyK g.rs[k] ∉ (g.rs.take k).map keyK := by
        intro h
        obtain ⟨r, hr, he⟩ := List.mem_map.1 h
        exact hin (hkinj r hr he ▸ hr)
      rw [if_neg hnk]
      simp only [Option.elim_none]
      simp -implicitDefEqProofs only [go_sem, Nat.reduceBEq, Nat.reduceAdd, Nat.reduceSub, Nat.reduceMul, Nat.reduceLeDiff, reduceCtorEq, ↓reduceIte, Int.reduceLT, Int.reduceLE, Int.reduceEq, Int.reduceNe]
      refine s_upd hkt (et := 4) (ix := 0) (eV := Value.bool) (by kernel_rfl) rfl hM true hkl ?_
      intro g' hM' _
      rw [mput_set _ _ _ hnk, ← List.take_succ_eq_append_getElem hk] at hM'
      simp -implicitDefEqProofs only [go_sem, Nat.reduceBEq, Nat.reduceAdd, Nat.reduceSub, Nat.reduceMul, Nat.reduceLeDiff, reduceCtorEq, ↓reduceIte, Int.reduceLT, Int.reduceLE, Int.reduceEq, Int.reduceNe]
      simp (disch := omega) only [wrap_id]
      refine ⟨f - 1, by omega, Up.here ⟨_, rfl, k + 1, rfl, by omega, hzero (by rw [hf2, if_neg hin]), fun r hr => ?_, hM'⟩⟩
      rw [List.take_succ_eq_append_getElem hk, List.mem_append, List.mem_singleton] at hr
      rcases hr with hr | rfl
      · exact hall r hr
      · exact hokr
  · have hk : k = g.rs.length := by omega
    subst hk
    refine Up.to [] (Ent.nil _) ?_
    subst hR
    exact ⟨rfl, by rw [hck, hck0]⟩
end Go.Proofs.Ytniobbepliknmaa.V
/- The text of parlance/parllaw5.LensTells as a statement (slots: 0 g, 1 n, 2 g, 3 n, 5 l, 6 e, 7 l, 8 e, 9 f); no condition. -/
namespace Go.Proofs.Ytniobbepliknmaa.V
open Go
def S8_1 : Stmt :=
  Stmt.seq
  (Stmt.region
    [SOper.mk (some 31) none (SOp.mv (Operand.tmp 9)),
      SOper.mk (some 32) none (SOp.ibin BinOp.eql (Operand.tmp 31) (Operand.const (Value.int IntKind.i64 0))),
      SOper.mk (some 33) none (SOp.mv (Operand.tmp 32)), SOper.mk (some 34) (some (33, true)) (SOp.mv (Operand.tmp 1)),
      SOper.mk (some 35) (some (33, true))
        (SOp.ibin BinOp.lss (Operand.tmp 34) (Operand.const (Value.int IntKind.i64 0))),
      SOper.mk (some 36) (some (33, true)) (SOp.mv (Operand.tmp 35)),
      SOper.mk (some 37) (some (36, false)) (SOp.mv (Operand.tmp 1)),
      SOper.mk (some 38) (some (36, false))
        (SOp.ibin BinOp.gtr (Operand.tmp 37) (Operand.const (Value.int IntKind.i64 200))),
      SOper.mk (some 39) (some (33, true))
        (SOp.pick (Operand.tmp 36) (Operand.const (Value.bool true)) (Operand.tmp 38)),
      SOper.mk (some 40) none (SOp.pick (Operand.tmp 33) (Operand.tmp 39) (Operand.const (Value.bool false)))]
    [1, 2, 7, 8, 9, 40])
  (Stmt.cond (Operand.tmp 40)
    (Stmt.region [SOper.mk (some 9) none (SOp.mv (Operand.const (Value.int IntKind.i64 1)))] [1, 2, 7, 8, 9]) Stmt.skip)
def S8_2 : Stmt :=
  Stmt.seq
  (Stmt.seq
    (Stmt.region
      [SOper.mk (some 41) none (SOp.mv (Operand.tmp 9)),
        SOper.mk (some 42) none (SOp.ibin BinOp.neq (Operand.tmp 41) (Operand.const (Value.int IntKind.i64 0)))]
      [1, 2, 7, 8, 9, 42])
    (Stmt.cond (Operand.tmp 42)
      (Stmt.seq
        (Stmt.region
          [SOper.mk (some 43) none (SOp.mv (Operand.tmp 8)), SOper.mk (some 44) none (SOp.mv (Operand.tmp 9)),
            SOper.mk (some 45) none (SOp.ibin BinOp.eql (Operand.tmp 43) (Operand.tmp 44)),
            SOper.mk (some 46) none (SOp.mv (Operand.tmp 45)),
            SOper.mk (some 47) (some (46, true)) (SOp.mv (Operand.tmp 7)),
            SOper.mk (some 48) (some (46, true)) (SOp.len false (Operand.tmp 47)),
            SOper.mk (some 49) (some (46, true))
              (SOp.ibin BinOp.eql (Operand.tmp 48) (Operand.const (Value.int IntKind.i64 0))),
            SOper.mk (some 50) none (SOp.pick (Operand.tmp 46) (Operand.tmp 49) (Operand.const (Value.bool false))),
            SOper.mk (some 4) none (SOp.mv (Operand.tmp 50))]
          [4])
        Stmt.ret)
      Stmt.skip))
  (Stmt.seq
    (Stmt.region
      [SOper.mk (some 51) none (SOp.mv (Operand.tmp 8)),
        SOper.mk (some 52) none (SOp.ibin BinOp.eql (Operand.tmp 51) (Operand.const (Value.int IntKind.i64 0))),
        SOper.mk (some 53) none (SOp.mv (Operand.tmp 52)),
        SOper.mk (some 54) (some (53, true)) (SOp.mv (Operand.tmp 7)),
        SOper.mk (some 55) (some (53, true)) (SOp.load true 4 (Operand.tmp 2)),
        SOper.mk (some 56) (some (53, true)) (SOp.mv (Operand.tmp 1)),
        SOper.mk (some 57) (some (53, true)) (SOp.call (Operand.func 43) [Operand.tmp 55, Operand.tmp 56]),
        SOper.mk (some 58) (some (53, true)) (SOp.call (Operand.func 41) [Operand.tmp 54, Operand.tmp 57]),
        SOper.mk (some 59) none (SOp.pick (Operand.tmp 53) (Operand.tmp 58) (Operand.const (Value.bool false))),
        SOper.mk (some 4) none (SOp.mv (Operand.tmp 59))]
      [4])
    Stmt.ret)
def S8_0 : Stmt :=
  Stmt.seq
  (Stmt.region
    [SOper.mk (some 2) none (SOp.box true 57 (Operand.tmp 0)),
      SOper.mk (some 4) none (SOp.mv (Operand.const (Value.bool false)))]
    [1, 2])
  (Stmt.seq
    (Stmt.seq
      (Stmt.region
        [SOper.mk (some 11) none (SOp.call (Operand.func 40) []),
          SOper.mk (some 12) none
            (SOp.call (Operand.func 39) [Operand.tmp 11, Operand.const (Value.int IntKind.i64 1)]),
          SOper.mk (some 10) none (SOp.mv (Operand.tmp 12)), SOper.mk (some 13) none (SOp.extract 0 (Operand.tmp 10)),
          SOper.mk (some 14) none (SOp.extract 1 (Operand.tmp 10)), SOper.mk (some 5) none (SOp.mv (Operand.tmp 13)),
          SOper.mk (some 6) none (SOp.mv (Operand.tmp 14))]
        [1, 2, 5, 6])
      (Stmt.seq
        (Stmt.region
          [SOper.mk (some 15) none (SOp.mv (Operand.tmp 6)),
            SOper.mk (some 16) none (SOp.ibin BinOp.neq (Operand.tmp 15) (Operand.const (Value.int IntKind.i64 0))),
            SOper.mk (some 17) none (SOp.mv (Operand.tmp 16)),
            SOper.mk (some 18) (some (17, false)) (SOp.mv (Operand.tmp 5)),
            SOper.mk (some 19) (some (17, false))
              (SOp.buildS 4 2 [Value.bool false, Value.bool false]
                [(0, 1, Operand.const (Value.bool false)), (1, 1, Operand.const (Value.bool true))]),
            SOper.mk (some 20) (some (17, false)) (SOp.call (Operand.func 41) [Operand.tmp 18, Operand.tmp 19]),
            SOper.mk (some 21) (some (17, false)) (SOp.un UnOp.not (Operand.tmp 20)),
            SOper.mk (some 22) none (SOp.pick (Operand.tmp 17) (Operand.const (Value.bool true)) (Operand.tmp 21))]
          [1, 2, 22])
        (Stmt.cond (Operand.tmp 22)
          (Stmt.seq (Stmt.region [SOper.mk (some 4) none (SOp.mv (Operand.const (Value.bool false)))] [4]) Stmt.ret)
          Stmt.skip)))
    (Stmt.seq
      (Stmt.region
        [SOper.mk (some 24) none (SOp.load true 4 (Operand.tmp 2)), SOper.mk (some 25) none (SOp.mv (Operand.tmp 1)),
          SOper.mk (some 26) none (SOp.call (Operand.func 39) [Operand.tmp 24, Operand.tmp 25]),
          SOper.mk (some 23) none (SOp.mv (Operand.tmp 26)), SOper.mk (some 27) none (SOp.extract 0 (Operand.tmp 23)),
          SOper.mk (some 28) none (SOp.extract 1 (Operand.tmp 23)), SOper.mk (some 7) none (SOp.mv (Operand.tmp 27)),
          SOper.mk (some 8) none (SOp.mv (Operand.tmp 28))]
        [1, 2, 7, 8])
      (Stmt.seq
        (Stmt.region
          [SOper.mk (some 29) none (SOp.load true 4 (Operand.tmp 2)),
            SOper.mk (some 30) none (SOp.call (Operand.func 42) [Operand.tmp 29]),
            SOper.mk (some 9) none (SOp.mv (Operand.tmp 30))]
          [1, 2, 7, 8, 9])
        (Stmt.join S8_1 S8_2 [9] [1, 2, 7, 8]))))
def S8 : FnS := ⟨60, [(4, none)], S8_0⟩
theorem tr8 : trFn Try.prog 8 [2] [[1, 2], [1, 2, 5, 6], [1, 2, 22], [4], [1, 2, 7, 8], [1, 2, 7, 8, 9], [9], [1, 2, 7, 8], [1, 2, 7, 8, 9, 40], [1, 2, 7, 8, 9], [1, 2, 7, 8, 9, 42], [4], [4]] = some S8 := by kernel_rfl
end Go.Proofs.Ytniobbepliknmaa.V
/- The law of parllaw5.LensTells: it answers true; no condition. -/
namespace Go.Proofs.Ytniobbepliknmaa.V
open Go
set_option linter.unusedVariables false
set_option linter.unusedSimpArgs false
attribute [local go_sem] e_seq e_region e_quiet e_join e_loop e_cond e_block e_exit e_ret e_skip e_fin e_kseq e_snrm e_sret e_sex e_bnrm e_bret e_bex e_rnrm e_rret e_res e_condC e_nil e_g e_mv g_mv e_pick g_pick pickC_eq e_ibin g_ibin ibinC_eq e_sbin g_sbin e_beq g_beq beqC_eq e_nilq g_nilq nilqC_sl nilqC_pt nilqC_mp e_un g_un unC_not unC_neg e_conv g_conv convC_eq e_fld g_fld fldC_ref fldC_ptr e_nilCheck g_nilCheck nilCheckC_ref nilCheckC_ptr nilCheckC_fun e_field g_field fieldC_eq e_len g_len lenC_sl lenC_str e_extract g_extract extractC_eq e_mkFunc e_build g_build e_idiv g_idiv idivC_eq e_ishift g_ishift ishiftC_eq e_idx g_idx e_idxA g_idxA e_load g_load loadC_ref loadC_ptr loadB_eq e_slc g_slc e_box boxC_loc boxC_esc e_alloc allocC_loc allocC_esc e_buildS e_store storeC_ref storeC_ptr storeB_eq e_append e_appz e_mk mkC_eq e_call callC_eq e_fn g_fn fnC_eq fnV_min' fnV_max' fnV_rune' e_q g_q e_a e_n g_call g_box g_alloc g_buildS g_store g_append g_mk g_a g_n g_dead e_dead e_callK e_drawn e_tree e_finJ e_tk e_tfin e_tno e_nbt_q e_nbt_qn e_nbt_a e_nbt_an e_nbt_fin e_early_nil e_early_t e_early_f e_nob_nil e_nob_none e_nob_some isBox_dead isBox_v isBox_ref e_dnil e_dk e_ek e_finB vcOps_vc1 e_dcons e_tq e_ekt e_tearly e_talt e_dearly look_nil look_c proj_nil proj_c looks_nil looks_c zip_nil zip_c val_tmp val_const val_func slv_v slv_box slv_ref slot_tmp slot_const slot_func slotL_v slotL_box slotL_ref put_some put_none updBox_c boxSet_box gd_eq slotVals_nil slotVals_c slotVals_b boxV_box boxOn_box slotsOn_nil slotsOn_c slotsOn_b resV_one resV_two vals_nil vals_c allOn_nil allOn_c partOn_nil partOn_c partVals_nil partVals_c fits_nil fits_c fillL_nil fillL_c mkv_one mkv_agg cellsV_agg cellsV_int cellsV_bool cellsV_slice cellsV_string cellsV_pointer cellsV_func cellsV_nilf cellsV_map one'_nil one'_c oc_int oc_bool oc_slice oc_string oc_pointer oc_func oc_nilf oc_map setC_eq iv_add iv_sub iv_mul iv_eql iv_neq iv_lss iv_leq iv_gtr iv_geq iok_add iok_sub iok_mul iok_eql iok_neq iok_lss iok_leq iok_gtr iok_geq pickV_bool args0_nil args0_c bnd_none bnd_some imp_bt imp_bf imp_ebt imp_ebf imp_eb1 imp_np imp_pp beq_tt beq_tf beq_ft beq_ff cond_or cond_and e_round e_meet Int.le_refl Int.toNat_zero decide_true decide_false Bool.or_false Bool.false_or Bool.true_or Bool.or_true Bool.and_false Bool.false_and Bool.bne_false Bool.bne_true beq_iff_eq Int.cast_ofNat_Int not_false_eq_true not_true_eq_false false_and and_false false_implies true_implies true_and and_true Bool.true_and Bool.and_true Bool.not_true Bool.not_false forall_const implies_true List.take_zero List.drop_zero List.take_succ_cons List.drop_succ_cons List.take_nil List.drop_nil List.length_cons List.length_nil List.nil_append List.append_nil List.cons_append Int.toNat_natCast decide_eq_true_eq decide_eq_false_iff_not cond_true cond_false and_self List.getElem?_cons_zero List.getElem?_cons_succ List.set_cons_zero List.set_cons_succ Option.some.injEq exists_eq_left' Nat.zero_add Nat.add_zero Nat.mul_one imp_self true_or or_true or_false false_or Bool.or_eq_true Bool.or_eq_false_iff Bool.and_eq_true Bool.and_eq_false_iff Bool.not_eq_true' Bool.not_eq_false'

theorem plain_pos {l : List Sy} {k : Nat} (h : LenD plainG l k) : l ≠ [] → (∀ s, l.head? = some s → s.t = true) → 0 < k := by
  cases h with
  | nil => intro h; exact absurd rfl h
  | term _ => intro _ _; omega
  | non _ _ _ _ => intro _ h; have := h _ rfl; simp at this
theorem plain_has : ¬ HasD plainG 0 0 ∧ HasD plainG 0 1 := by
  constructor
  · rintro ⟨r, hr, ha, hd⟩
    simp [plainG] at hr
    rcases hr with rfl | rfl
    · have := plain_pos hd (by simp) (by simp); omega
    · have := plain_pos hd (by simp) (by simp); omega
  · exact ⟨⟨0, [⟨true, 0⟩]⟩, by simp [plainG], rfl, .term .nil⟩
theorem tells_same {n : Nat} {xs ys : List Bool} {p : Nat → Prop} (h : Tells n xs p) (h' : Tells n ys p) : xs = ys := by
  apply List.ext_getElem
  · rw [h.1, h'.1]
  · intro i h1 h2
    have q1 := h.2 i h1
    have q2 := h'.2 i h2
    cases e1 : xs[i] <;> cases e2 : ys[i] <;> simp_all
theorem law_lens {Γr : Ctx} {g : Gr} {cs : List Value} (hg : Rep.ok (lk Γr) g cs) (n : Int) (h0 : -9223372036854775808 ≤ n) (h1 : n ≤ 9223372036854775807) :
    Ret Try.prog 8 [.agg cs.toArray, .int .i64 n] Γr [] (fun v Γ => Γ = [] ∧ v = .bool true) := by
  obtain ⟨A, c, rfl, hx⟩ := ok_gr hg
  generalize hR : (fun (v : Value) (Γ : Ctx) => Γ = [] ∧ v = Value.bool true) = R
  refine ret_of_vc tr8 (Nat.le_of_ble_eq_true rfl) ?_
  simp -implicitDefEqProofs only [S8, S8_0, go_sem, Nat.reduceBEq, Nat.reduceAdd, Nat.reduceSub, Nat.reduceMul, Nat.reduceLeDiff, reduceCtorEq, ↓reduceIte, Int.reduceLT, Int.reduceLE, Int.reduceEq, Int.reduceNe]
  intro b
  refine CallVC.read plain_ ?_
  rintro v Γ' ⟨g1, A1, c1, rfl, hp, rfl⟩
  simp -implicitDefEqProofs only [go_sem, Nat.reduceBEq, Nat.reduceAdd, Nat.reduceSub, Nat.reduceMul, Nat.reduceLeDiff, reduceCtorEq, ↓reduceIte, Int.reduceLT, Int.reduceLE, Int.reduceEq, Int.reduceNe]
  refine CallVC.read (lens_set (g := plainG) (hp.mono (lk_sub (by simp))) 1) ?_
  rintro v Γ' ⟨g2, B2, d2, xs, e, rfl, hxs, rfl, hS⟩
  have hck : ckF plainG = 0 := by decide
  have hplain : e = 0 ∧ xs = [false, true] := by
    rcases hS with ⟨h, _⟩ | ⟨_, h, _⟩ | ⟨_, h, N, hN, _, hT⟩
    · exact absurd hck h
    · omega
    · have hN1 : N = 1 := by omega
      subst hN1
      refine ⟨h, tells_same hT ⟨rfl, fun m hm => ?_⟩⟩
      have := plain_has
      match m, hm with
      | 0, _ => exact ⟨fun h => Bool.noConfusion h, fun h => absurd h this.1⟩
      | 1, _ => exact ⟨fun _ => this.2, fun _ => rfl⟩
  obtain ⟨rfl, rfl⟩ := hplain
  simp -implicitDefEqProofs only [go_sem, Nat.reduceBEq, Nat.reduceAdd, Nat.reduceSub, Nat.reduceMul, Nat.reduceLeDiff, reduceCtorEq, ↓reduceIte, Int.reduceLT, Int.reduceLE, Int.reduceEq, Int.reduceNe]
  intro b1
  have hlit : SlOk (lk [one b1 (Obj.cells #[Value.bool false, Value.bool true] 4), g2, g1]) (some ⟨b1, 0, none⟩) 2 [false, true] := lit_slok [false, true] rfl (by simp)
  refine CallVC.read (equal_bools (xs := [false, true]) (ys := [false, true]) (hxs.mono (lk_sub (by simp))) (hlit.mono (lk_l _ _))) ?_
  rintro v Γ' ⟨rfl, rfl⟩
  simp only [decide_true]
  simp -implicitDefEqProofs only [go_sem, Nat.reduceBEq, Nat.reduceAdd, Nat.reduceSub, Nat.reduceMul, Nat.reduceLeDiff, reduceCtorEq, ↓reduceIte, Int.reduceLT, Int.reduceLE, Int.reduceEq, Int.reduceNe]
  refine CallVC.read (lens_set (g := g) (hx.mono (lk_r _ _)) n) ?_
  rintro v Γ' ⟨g3, B3, d3, xs3, e3, rfl, hxs3, rfl, hS3⟩
  simp -implicitDefEqProofs only [go_sem, Nat.reduceBEq, Nat.reduceAdd, Nat.reduceSub, Nat.reduceMul, Nat.reduceLeDiff, reduceCtorEq, ↓reduceIte, Int.reduceLT, Int.reduceLE, Int.reduceEq, Int.reduceNe]
  refine CallVC.read (rule_fault (g := g) (hx.mono (lk_r _ _))) ?_
  rintro v Γ' ⟨rfl, rfl⟩
  simp -implicitDefEqProofs only [go_sem, Nat.reduceBEq, Nat.reduceAdd, Nat.reduceSub, Nat.reduceMul, Nat.reduceLeDiff, reduceCtorEq, ↓reduceIte, Int.reduceLT, Int.reduceLE, Int.reduceEq, Int.reduceNe]
  refine s_split ?_
  simp -implicitDefEqProofs only [S8_1, S8_2, go_sem, Nat.reduceBEq, Nat.reduceAdd, Nat.reduceSub, Nat.reduceMul, Nat.reduceLeDiff, reduceCtorEq, ↓reduceIte, Int.reduceLT, Int.reduceLE, Int.reduceEq, Int.reduceNe]
  rcases hS3 with ⟨hk, rfl, rfl⟩ | ⟨hk, hn, rfl, rfl⟩ | ⟨hk, rfl, N, rfl, hN, hT⟩
  · refine ⟨fun h => absurd h hk, fun h => absurd h.1 hk, fun _ => Up.here ⟨fun _ => Up.to [] (Ent.nil _) ?_, fun h => absurd h hk⟩⟩
    subst hR
    simp
  · refine ⟨fun _ h => ⟨hk, h⟩, fun _ => Up.here (Up.to [] (Ent.nil _) ?_), fun h => ?_⟩
    · subst hR
      simp
    · rcases h with h | h
      · exact absurd hk h
      · omega
  · refine ⟨fun _ h => ⟨hk, h⟩, fun h => by omega, fun _ => Up.here ⟨fun h => absurd hk h, fun _ => ⟨fun _ => ⟨rfl, ?_⟩, fun h => ?_⟩⟩⟩
    · refine CallVC.read (ref_lens (g := g) (hx.mono (lk_r _ _)) (ckF_ok hk) N (by omega)) ?_
      rintro v Γ' ⟨g5, B5, d5, xs5, rfl, rfl, hs5, hT5⟩
      simp -implicitDefEqProofs only [go_sem, Nat.reduceBEq, Nat.reduceAdd, Nat.reduceSub, Nat.reduceMul, Nat.reduceLeDiff, reduceCtorEq, ↓reduceIte, Int.reduceLT, Int.reduceLE, Int.reduceEq, Int.reduceNe]
      refine CallVC.read (equal_bools (hxs3.mono (lk_sub (by simp))) (hs5.mono (lk_sub (by simp)))) ?_
      rintro v Γ' ⟨rfl, rfl⟩
      rw [tells_same hT hT5]
      simp only [decide_true]
      simp -implicitDefEqProofs only [go_sem, Nat.reduceBEq, Nat.reduceAdd, Nat.reduceSub, Nat.reduceMul, Nat.reduceLeDiff, reduceCtorEq, ↓reduceIte, Int.reduceLT, Int.reduceLE, Int.reduceEq, Int.reduceNe]
      refine Up.to [] (Ent.nil _) ?_
      subst hR
      exact ⟨rfl, rfl⟩
    · simp at h
end Go.Proofs.Ytniobbepliknmaa.V
/- The text of parlance/parllaw5.LensGreatest as a statement (slots: 0 g, 1 g, 3 n, 4 e, 5 n, 6 e, 7 f, 8 _, 9 r, 10 l, 11 want, 12 k, 13 ok); no condition. -/
namespace Go.Proofs.Ytniobbepliknmaa.V
open Go
def S10_1 : Stmt :=
  Stmt.seq
  (Stmt.region [SOper.mk (some 47) none (SOp.ibin BinOp.lss (Operand.tmp 46) (Operand.tmp 45))] [1, 5, 44, 45, 46, 47])
  (Stmt.seq (Stmt.cond (Operand.tmp 47) Stmt.skip (Stmt.exit 0))
    (Stmt.seq
      (Stmt.block 1
        (Stmt.seq
          (Stmt.region
            [SOper.mk (some 48) none (SOp.idx 2 (Operand.tmp 44) (Operand.tmp 46)),
              SOper.mk (some 49) none (SOp.load true 2 (Operand.tmp 48)),
              SOper.mk (some 9) none
                (SOp.alloc true 37 (Value.agg (Array.mk [Value.int IntKind.i64 0, Value.slice none 0 0]))),
              SOper.mk none none (SOp.store 2 (Operand.tmp 9) (Operand.tmp 49))]
            [1, 5, 9, 44, 45, 46])
          (Stmt.seq
            (Stmt.region
              [SOper.mk (some 50) none (SOp.fld 1 (Operand.tmp 1)),
                SOper.mk (some 51) none (SOp.load false 1 (Operand.tmp 50)),
                SOper.mk (some 52) none (SOp.ibin BinOp.gtr (Operand.tmp 51) (Operand.const (Value.int IntKind.i64 4))),
                SOper.mk (some 53) none (SOp.mv (Operand.tmp 52)),
                SOper.mk (some 54) (some (53, false)) (SOp.fld 1 (Operand.tmp 9)),
                SOper.mk (some 55) (some (53, false)) (SOp.load false 1 (Operand.tmp 54)),
                SOper.mk (some 56) (some (53, false)) (SOp.len false (Operand.tmp 55)),
                SOper.mk (some 57) (some (53, false))
                  (SOp.ibin BinOp.gtr (Operand.tmp 56) (Operand.const (Value.int IntKind.i64 3))),
                SOper.mk (some 58) none (SOp.pick (Operand.tmp 53) (Operand.const (Value.bool true)) (Operand.tmp 57))]
              [1, 5, 44, 45, 46, 58])
            (Stmt.cond (Operand.tmp 58)
              (Stmt.seq (Stmt.region [SOper.mk (some 2) none (SOp.mv (Operand.const (Value.bool true)))] [2]) Stmt.ret)
              Stmt.skip))))
      (Stmt.region
        [SOper.mk (some 59) none (SOp.ibin BinOp.add (Operand.tmp 46) (Operand.const (Value.int IntKind.i64 1))),
          SOper.mk (some 46) none (SOp.mv (Operand.tmp 59))]
        [1, 5, 44, 45, 46])))
def S10_2 : Stmt :=
  Stmt.block 3
  (Stmt.seq
    (Stmt.region
      [SOper.mk (some 66) none (SOp.mv (Operand.tmp 64)),
        SOper.mk (some 67) none (SOp.idx 1 (Operand.tmp 62) (Operand.tmp 64)),
        SOper.mk (some 68) none (SOp.load false 1 (Operand.tmp 67)), SOper.mk (some 12) none (SOp.mv (Operand.tmp 66)),
        SOper.mk (some 13) none (SOp.mv (Operand.tmp 68))]
      [5, 11, 12, 13, 62, 63, 64])
    (Stmt.seq (Stmt.region [SOper.mk (some 69) none (SOp.mv (Operand.tmp 13))] [5, 11, 12, 62, 63, 64, 69])
      (Stmt.cond (Operand.tmp 69)
        (Stmt.region
          [SOper.mk (some 70) none (SOp.mv (Operand.tmp 12)), SOper.mk (some 11) none (SOp.mv (Operand.tmp 70))]
          [5, 11, 62, 63, 64])
        Stmt.skip)))
def S10_3 : Stmt :=
  Stmt.region
  [SOper.mk (some 71) none (SOp.ibin BinOp.add (Operand.tmp 64) (Operand.const (Value.int IntKind.i64 1))),
    SOper.mk (some 64) none (SOp.mv (Operand.tmp 71))]
  [5, 11, 62, 63, 64]
def S10_4 : Stmt :=
  Stmt.seq
  (Stmt.region [SOper.mk (some 65) none (SOp.ibin BinOp.lss (Operand.tmp 64) (Operand.tmp 63))] [5, 11, 62, 63, 64, 65])
  (Stmt.seq (Stmt.cond (Operand.tmp 65) Stmt.skip (Stmt.exit 2)) (Stmt.join S10_2 S10_3 [11] [5, 62, 63, 64]))
def S10_5 : Stmt :=
  Stmt.seq
  (Stmt.region
    [SOper.mk (some 72) none (SOp.mv (Operand.tmp 11)),
      SOper.mk (some 73) none (SOp.ibin BinOp.gtr (Operand.tmp 72) (Operand.const (Value.int IntKind.i64 81)))]
    [5, 11, 73])
  (Stmt.cond (Operand.tmp 73)
    (Stmt.region [SOper.mk (some 11) none (SOp.mv (Operand.const (Value.int IntKind.i64 (-2))))] [5, 11]) Stmt.skip)
def S10_6 : Stmt :=
  Stmt.seq
  (Stmt.region
    [SOper.mk (some 74) none (SOp.mv (Operand.tmp 5)), SOper.mk (some 75) none (SOp.mv (Operand.tmp 11)),
      SOper.mk (some 76) none (SOp.ibin BinOp.eql (Operand.tmp 74) (Operand.tmp 75)),
      SOper.mk (some 2) none (SOp.mv (Operand.tmp 76))]
    [2])
  Stmt.ret
def S10_0 : Stmt :=
  Stmt.seq
  (Stmt.region
    [SOper.mk (some 1) none (SOp.box true 57 (Operand.tmp 0)),
      SOper.mk (some 2) none (SOp.mv (Operand.const (Value.bool false)))]
    [1])
  (Stmt.seq
    (Stmt.seq
      (Stmt.region
        [SOper.mk (some 15) none (SOp.call (Operand.func 40) []),
          SOper.mk (some 16) none (SOp.call (Operand.func 54) [Operand.tmp 15]),
          SOper.mk (some 14) none (SOp.mv (Operand.tmp 16)), SOper.mk (some 17) none (SOp.extract 0 (Operand.tmp 14)),
          SOper.mk (some 18) none (SOp.extract 1 (Operand.tmp 14)), SOper.mk (some 3) none (SOp.mv (Operand.tmp 17)),
          SOper.mk (some 4) none (SOp.mv (Operand.tmp 18))]
        [1, 3, 4])
      (Stmt.seq
        (Stmt.region
          [SOper.mk (some 19) none (SOp.mv (Operand.tmp 4)),
            SOper.mk (some 20) none (SOp.ibin BinOp.neq (Operand.tmp 19) (Operand.const (Value.int IntKind.i64 0))),
            SOper.mk (some 21) none (SOp.mv (Operand.tmp 20)),
            SOper.mk (some 22) (some (21, false)) (SOp.mv (Operand.tmp 3)),
            SOper.mk (some 23) (some (21, false))
              (SOp.ibin BinOp.neq (Operand.tmp 22) (Operand.const (Value.int IntKind.i64 (-2)))),
            SOper.mk (some 24) none (SOp.pick (Operand.tmp 21) (Operand.const (Value.bool true)) (Operand.tmp 23))]
          [1, 24])
        (Stmt.cond (Operand.tmp 24)
          (Stmt.seq (Stmt.region [SOper.mk (some 2) none (SOp.mv (Operand.const (Value.bool false)))] [2]) Stmt.ret)
          Stmt.skip)))
    (Stmt.seq
      (Stmt.region
        [SOper.mk (some 26) none (SOp.load true 4 (Operand.tmp 1)),
          SOper.mk (some 27) none (SOp.call (Operand.func 54) [Operand.tmp 26]),
          SOper.mk (some 25) none (SOp.mv (Operand.tmp 27)), SOper.mk (some 28) none (SOp.extract 0 (Operand.tmp 25)),
          SOper.mk (some 29) none (SOp.extract 1 (Operand.tmp 25)), SOper.mk (some 5) none (SOp.mv (Operand.tmp 28)),
          SOper.mk (some 6) none (SOp.mv (Operand.tmp 29))]
        [1, 5, 6])
      (Stmt.seq
        (Stmt.seq
          (Stmt.region
            [SOper.mk (some 30) none (SOp.load true 4 (Operand.tmp 1)),
              SOper.mk (some 31) none (SOp.call (Operand.func 42) [Operand.tmp 30]),
              SOper.mk (some 7) none (SOp.mv (Operand.tmp 31))]
            [1, 5, 6, 7])
          (Stmt.seq
            (Stmt.region
              [SOper.mk (some 32) none (SOp.mv (Operand.tmp 7)),
                SOper.mk (some 33) none (SOp.ibin BinOp.neq (Operand.tmp 32) (Operand.const (Value.int IntKind.i64 0)))]
              [1, 5, 6, 7, 33])
            (Stmt.cond (Operand.tmp 33)
              (Stmt.seq
                (Stmt.region
                  [SOper.mk (some 34) none (SOp.mv (Operand.tmp 6)), SOper.mk (some 35) none (SOp.mv (Operand.tmp 7)),
                    SOper.mk (some 36) none (SOp.ibin BinOp.eql (Operand.tmp 34) (Operand.tmp 35)),
                    SOper.mk (some 37) none (SOp.mv (Operand.tmp 36)),
                    SOper.mk (some 38) (some (37, true)) (SOp.mv (Operand.tmp 5)),
                    SOper.mk (some 39) (some (37, true))
                      (SOp.ibin BinOp.eql (Operand.tmp 38) (Operand.const (Value.int IntKind.i64 0))),
                    SOper.mk (some 40) none
                      (SOp.pick (Operand.tmp 37) (Operand.tmp 39) (Operand.const (Value.bool false))),
                    SOper.mk (some 2) none (SOp.mv (Operand.tmp 40))]
                  [2])
                Stmt.ret)
              Stmt.skip)))
        (Stmt.seq
          (Stmt.seq
            (Stmt.region
              [SOper.mk (some 41) none (SOp.mv (Operand.tmp 6)),
                SOper.mk (some 42) none (SOp.ibin BinOp.neq (Operand.tmp 41) (Operand.const (Value.int IntKind.i64 0)))]
              [1, 5, 42])
            (Stmt.cond (Operand.tmp 42)
              (Stmt.seq (Stmt.region [SOper.mk (some 2) none (SOp.mv (Operand.const (Value.bool false)))] [2]) Stmt.ret)
              Stmt.skip))
          (Stmt.seq
            (Stmt.seq
              (Stmt.region
                [SOper.mk (some 43) none (SOp.fld 3 (Operand.tmp 1)),
                  SOper.mk (some 44) none (SOp.load false 1 (Operand.tmp 43)),
                  SOper.mk (some 45) none (SOp.len false (Operand.tmp 44)),
                  SOper.mk (some 46) none (SOp.mv (Operand.const (Value.int IntKind.i64 0)))]
                [1, 5, 44, 45, 46])
              (Stmt.block 0 (Stmt.loop S10_1 [46] [1, 5, 44, 45])))
            (Stmt.seq
              (Stmt.region
                [SOper.mk (some 60) none (SOp.load true 4 (Operand.tmp 1)),
                  SOper.mk (some 61) none
                    (SOp.call (Operand.func 43) [Operand.tmp 60, Operand.const (Value.int IntKind.i64 324)]),
                  SOper.mk (some 10) none (SOp.mv (Operand.tmp 61))]
                [5, 10])
              (Stmt.seq
                (Stmt.region [SOper.mk (some 11) none (SOp.mv (Operand.const (Value.int IntKind.i64 (-1))))]
                  [5, 10, 11])
                (Stmt.seq
                  (Stmt.seq
                    (Stmt.region
                      [SOper.mk (some 62) none (SOp.mv (Operand.tmp 10)),
                        SOper.mk (some 63) none (SOp.len false (Operand.tmp 62)),
                        SOper.mk (some 64) none (SOp.mv (Operand.const (Value.int IntKind.i64 0)))]
                      [5, 11, 62, 63, 64])
                    (Stmt.block 2 (Stmt.loop S10_4 [11, 64] [5, 62, 63])))
                  (Stmt.join S10_5 S10_6 [11] [5])))))))))
def S10 : FnS := ⟨77, [(2, none)], S10_0⟩
theorem tr10 : trFn Try.prog 10 [1, 9] [[1], [1, 3, 4], [1, 24], [2], [1, 5, 6], [1, 5, 6, 7], [1, 5, 6, 7, 33], [2], [1, 5, 42], [2], [1, 5, 44, 45, 46], [46], [1, 5, 44, 45], [1, 5, 44, 45, 46, 47], [1, 5, 9, 44, 45, 46], [1, 5, 44, 45, 46, 58], [2], [1, 5, 44, 45, 46], [5, 10], [5, 10, 11], [5, 11, 62, 63, 64], [11, 64], [5, 62, 63], [5, 11, 62, 63, 64, 65], [11], [5, 62, 63, 64], [5, 11, 12, 13, 62, 63, 64], [5, 11, 12, 62, 63, 64, 69], [5, 11, 62, 63, 64], [5, 11, 62, 63, 64], [11], [5], [5, 11, 73], [5, 11], [2]] = some S10 := by kernel_rfl
end Go.Proofs.Ytniobbepliknmaa.V
