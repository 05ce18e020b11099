/- Texts put together, in the order in which they build; each says what it proves; no condition. -/
import Derived.Test.YtniobbepliknmaaM6
import Derived.Test.YtniobbepliknmaaM3
import Derived.Test.YtniobbepliknmaaM1
import Derived.Test.YtniobbepliknmaaProg
import Derived.Test.YtniobbepliknmaaM5
namespace Go.Proofs.Ytniobbepliknmaa.V
open Go
set_option linter.unusedVariables false
set_option linter.unusedSimpArgs false
open Nat renaming reduceBEq → zA, reduceAdd → zB, reduceSub → zC, reduceMul → zD, reduceLeDiff → zE
open Int renaming reduceLT → zF, reduceLE → zG, reduceEq → zH, reduceNe → zI
/- parlref5.Census walked; no condition. -/
attribute [local go_sem] e_seq e_region e_quiet e_join e_loop e_cond e_block e_exit e_ret e_skip e_fin e_kseq e_snrm e_sret e_sex e_bnrm e_bret e_bex e_rnrm e_rret e_res e_condC e_nil e_g e_mv g_mv e_pick g_pick pickC_eq e_ibin g_ibin ibinC_eq e_sbin g_sbin e_beq g_beq beqC_eq e_nilq g_nilq nilqC_sl nilqC_pt nilqC_mp e_un g_un unC_not unC_neg e_conv g_conv convC_eq e_fld g_fld fldC_ref fldC_ptr e_nilCheck g_nilCheck nilCheckC_ref nilCheckC_ptr nilCheckC_fun e_field g_field fieldC_eq e_len g_len lenC_sl lenC_str e_extract g_extract extractC_eq e_mkFunc e_build g_build e_idiv g_idiv idivC_eq e_ishift g_ishift ishiftC_eq e_idx g_idx e_idxA g_idxA e_load g_load e_loadB g_loadB atB_ref atB_v g_mkFunc loadC_ref loadC_ptr loadB_eq e_slc g_slc e_box boxC_loc boxC_esc e_alloc allocC_loc allocC_esc e_buildS e_store storeC_ref storeC_ptr storeB_eq e_append e_appz e_mk mkC_eq e_call callC_eq e_fn g_fn fnC_eq fnV_min' fnV_max' fnV_rune' e_q g_q e_a e_n g_call g_box g_alloc g_buildS g_store g_append g_mk g_a g_n g_dead e_dead e_callK e_drawn e_tree e_finJ e_tk e_tfin e_tno e_nbt_q e_nbt_qn e_nbt_a e_nbt_an e_nbt_fin e_drawnB e_bxb_nil e_bxb e_stB_none e_stB_some boxSt_store bs_mv bs_pick bs_ibin bs_idiv bs_ishift bs_sbin bs_beq bs_nilq bs_un bs_conv bs_box bs_alloc bs_build bs_buildS bs_load bs_fld bs_nilCheck bs_idx bs_idxA bs_field bs_slc bs_len bs_append bs_appz bs_mk bs_call bs_extract bs_mkFunc bs_fn bs_q bs_a bs_n bs_loadB bs_dead isBox_box e_early_nil e_early_t e_early_f e_nob_nil e_nob_none e_nob_some isBox_dead isBox_v isBox_ref e_dnil e_dk e_ek e_finB vcOps_vc1 e_dcons e_tq e_ekt e_tearly e_talt e_dearly look_nil look_c proj_nil proj_c looks_nil looks_c zip_nil zip_c val_tmp val_const val_func slv_v slv_box slv_ref slot_tmp slot_const slot_func slotL_v slotL_box slotL_ref put_some put_none updBox_c boxSet_box gd_eq slotVals_nil slotVals_c slotVals_b boxV_box boxOn_box slotsOn_nil slotsOn_c slotsOn_b resV_one resV_two vals_nil vals_c allOn_nil allOn_c partOn_nil partOn_c partVals_nil partVals_c fits_nil fits_c fillL_nil fillL_c mkv_one mkv_agg cellsV_agg cellsV_int cellsV_bool cellsV_slice cellsV_string cellsV_pointer cellsV_func cellsV_nilf cellsV_map one'_nil one'_c oc_int oc_bool oc_slice oc_string oc_pointer oc_func oc_nilf oc_map setC_eq iv_add iv_sub iv_mul iv_eql iv_neq iv_lss iv_leq iv_gtr iv_geq iok_add iok_sub iok_mul iok_eql iok_neq iok_lss iok_leq iok_gtr iok_geq pickV_bool args0_nil args0_c bnd_none bnd_some imp_bt imp_bf imp_ebt imp_ebf imp_eb1 imp_np imp_pp beq_tt beq_tf beq_ft beq_ff cond_or cond_and e_round e_meet Int.le_refl Int.toNat_zero decide_true decide_false Bool.or_false Bool.false_or Bool.true_or Bool.or_true Bool.and_false Bool.false_and Bool.bne_false Bool.bne_true beq_iff_eq Int.cast_ofNat_Int not_false_eq_true not_true_eq_false false_and and_false false_implies true_implies true_and and_true Bool.true_and Bool.and_true Bool.not_true Bool.not_false forall_const implies_true List.take_zero List.drop_zero List.take_succ_cons List.drop_succ_cons List.take_nil List.drop_nil List.length_cons List.length_nil List.nil_append List.append_nil List.cons_append Int.toNat_natCast decide_eq_true_eq decide_eq_false_iff_not cond_true cond_false and_self List.getElem?_cons_zero List.getElem?_cons_succ List.set_cons_zero List.set_cons_succ Option.some.injEq exists_eq_left' Nat.zero_add Nat.add_zero Nat.mul_one imp_self true_or or_true or_false false_or Bool.or_eq_true Bool.or_eq_false_iff Bool.and_eq_true Bool.and_eq_false_iff Bool.not_eq_true' Bool.not_eq_false'

theorem capN_small {x : Nat} (h : x ≤ 1000) : capN x = x := Nat.min_eq_left (Nat.le_trans h (by decide))
def OutV (g : Gr) (m N : Nat) (Om : List (List Int)) : Prop := Shp N (m + 1) Om ∧ ∀ a k, a < N → k ≤ m → matI Om a k = (capN (cntT g (mostN g m + 1) (a : Int) k) : Nat)
/-- where there are more trees than at mostN levels, up to lev levels -/
def EndW (g : Gr) (m N : Nat) (lev : Nat → Nat → Nat) (E : List (List Bool)) : Prop := Shp N (m + 1) E ∧ ∀ a k, a < N → k ≤ m → (mat E a k = true ↔ cntT g (mostN g m) (a : Int) k < cntT g (max (mostN g m) (lev a k)) (a : Int) k)
theorem EndW.congr {g : Gr} {m N : Nat} {lev lev' : Nat → Nat → Nat} {E : List (List Bool)} (h : EndW g m N lev E) (e : ∀ a k, a < N → k ≤ m → max (mostN g m) (lev a k) = max (mostN g m) (lev' a k)) : EndW g m N lev' E :=
 ⟨h.1, fun a k q1 q2 => by rw [← e a k q1 q2]; exact h.2 a k q1 q2⟩
def levA (a0 k0 h a k : Nat) : Nat := if a < a0 ∨ (a = a0 ∧ k < k0) then h else h - 1
def OutS (g : Gr) (m N h : Nat) (go : PH) (ov : Value) : Prop := (h ≤ mostN g m + 1 ∧ ov = .slice none 0 0) ∨ (mostN g m + 1 < h ∧ ∃ bo Om, ov = .slice (some ⟨bo, 0, none⟩) N N ∧ Grid go bo 29 3 Om ∧ OutV g m N Om)
def OutM (g : Gr) (m N h : Nat) (gm go : PH) (ov : Value) : Prop := (h ≤ mostN g m ∧ ov = .slice none 0 0) ∨ (mostN g m < h ∧ ∃ bo Om, ov = .slice (some ⟨bo, 0, none⟩) N N ∧ (Grid gm bo 29 3 Om ∨ Grid go bo 29 3 Om) ∧ OutV g m N Om)
def StC (g : Gr) (m : Nat) (R : Option Addr) (cR N h bt : Nat) (gt gm ga gj : PH) : Prop := ∃ bm ba bj M A J, gt bt = some (.cells (htC g m R cR bm ba bj).toArray 193 (0, 0)) ∧ Grid gm bm 29 3 M ∧ Grid ga ba 22 4 A ∧ Grid gj bj 22 4 J ∧ Tri N m (fun a => cntT g h (a : Int)) (fun a => cntT g (h - 1) (a : Int)) M A J
theorem rows_eq {g : Gr} {m N : Nat} {Om : List (List Int)} (h1 : Shp N (m + 1) Om) (h2 : ∀ a k, a < N → k ≤ m → matI Om a k = cenF g m a k) : Om = cenRows g m N := by
 have hl := h1.1
 refine List.ext_getElem (by simp [cenRows, hl]) fun a q1 q2 => ?_
 have hr := h1.at' (i := a) q1
 have e : (cenRows g m N)[a] = cenRow g m a (m + 1) := by simp [cenRows]
 rw [e]
 refine List.ext_getElem (by simp [cenRow, hr]) fun k w1 w2 => ?_
 have := h2 a k (by omega) (by omega)
 rw [matI_get (List.getElem?_eq_getElem q1) w1] at this
 rw [this]
 simp [cenRow]
set_option maxHeartbeats 6400000 in
theorem ref_census {Γr : Ctx} {g : Gr} {R : Option Addr} {cR : Nat} (hx : SlOk (lk Γr) R cR g.rs) {n : Int} (hn0 : -9223372036854775808 ≤ n ∧ n ≤ 9223372036854775807) :
  Ret Try.prog 80 [.agg #[.int .i64 g.ts, .int .i64 g.ns, .int .i64 g.st, .slice R g.rs.length cR], .int .i64 n] Γr [] (CenR g n) := by
 generalize hR : CenR g n = R'
 refine ret_of_vc tr80 (Nat.le_of_ble_eq_true rfl) ?_
 simp -implicitDefEqProofs only [S80, S80_0, go_sem,zA,zB,zC,zD,zE,reduceCtorEq,↓reduceIte,zF,zG,zH,zI]
 intro bg
 refine CallVC.read (Γ := []) (rule_fault (Γr := [] ++ Γr) hx) ?_
 rintro v Γ' ⟨rfl, rfl⟩
 simp -implicitDefEqProofs only [go_sem,zA,zB,zC,zD,zE,reduceCtorEq,↓reduceIte,zF,zG,zH,zI]
 refine ⟨fun hne => Up.here ?_, fun h0 => ?_⟩
 ·subst hR
  have : cenE g n = ckF g := if_pos hne
  exact .inl ⟨by rw [this]; exact hne, rfl, by rw [this]⟩
 refine ⟨fun hbad => Up.here ?_, fun hgood => ?_⟩
 ·subst hR
  have : cenE g n = 1 := by unfold cenE; rw [if_neg (by omega), if_pos hbad]
  exact .inl ⟨by omega, rfl, by rw [this]⟩
 have hce : cenE g n = 0 := by unfold cenE; rw [if_neg (by omega), if_neg (by omega)]
 have V := ckF_ok (show ckF g = 0 by omega)
 obtain ⟨m, rfl⟩ : ∃ m : Nat, n = m := ⟨n.toNat, by omega⟩
 have hm : m ≤ 24 := by omega
 have hns := V.ns
 have hvl := V.len
 have hsh := hx.short
 obtain ⟨N, hN⟩ : ∃ N : Nat, g.ns = N := ⟨g.ns.toNat, by omega⟩
 have hN' : g.ns.toNat = N := by omega
 have hw : IntKind.i64.wrap ((m : Int) + 1) = ((m + 1 : Nat) : Int) := by rw [wrap_id (by omega) (by omega)]; rfl
 refine s_drawn [] [] (Ent.refl _) ?_
 simp -implicitDefEqProofs only [hw, go_sem,zA,zB,zC,zD,zE,reduceCtorEq,↓reduceIte,zF,zG,zH,zI]
 rw [hN]
 refine CallVC.read (grid_int N (m + 1) (by omega) (by omega)) ?_
 rintro v Γ' ⟨gm, bm, rfl, rfl, hGm⟩
 simp -implicitDefEqProofs only [go_sem,zA,zB,zC,zD,zE,reduceCtorEq,↓reduceIte,zF,zG,zH,zI]
 refine CallVC.read (grid_bool N (m + 1) (by omega) (by omega)) ?_
 rintro v Γ' ⟨ga, ba, rfl, rfl, hGa⟩
 simp -implicitDefEqProofs only [go_sem,zA,zB,zC,zD,zE,reduceCtorEq,↓reduceIte,zF,zG,zH,zI]
 refine CallVC.read (grid_bool N (m + 1) (by omega) (by omega)) ?_
 rintro v Γ' ⟨gj, bj, rfl, rfl, hGj⟩
 simp -implicitDefEqProofs only [go_sem,zA,zB,zC,zD,zE,reduceCtorEq,↓reduceIte,zF,zG,zH,zI]
 intro bt
 have hgt0 : one bt (.cells (htC g m R cR bm ba bj).toArray 193 (0, 0)) bt = some (.cells (htC g m R cR bm ba bj).toArray 193 (0, 0)) := one_self _ _
 have hcells : #[Value.int .i64 g.ts, .int .i64 (N : Int), .int .i64 g.st, .slice R g.rs.length cR, .int .i64 (m : Int), .slice (some ⟨bm, 0, none⟩) N N, .slice (some ⟨ba, 0, none⟩) N N, .slice (some ⟨bj, 0, none⟩) N N] = (htC g m R cR bm ba bj).toArray := by rw [htC, hN', hN]
 rw [hcells]
 revert hgt0
 generalize one bt (.cells (htC g m R cR bm ba bj).toArray 193 (0, 0)) = gt
 intro hgt0
 refine s_loop (fun f vs Γ => ∃ (gm ga gj : PH) (M : List (List Int)) (A J : List (List Bool)) (i : Nat), vs = [.v true (.int .i64 (i : Int))] ∧ Γ = [gt, gm, ga, gj] ∧ i + f = g.rs.length ∧ Grid gm bm 29 3 M ∧ Grid ga ba 22 4 A ∧ Grid gj bj 22 4 J ∧ Tri N m (firT g i) (fun _ _ => 0) M A J) g.rs.length
  (Up.sel [[0], [3], [2], [1]] (by decide) fun _ _ => ⟨gm, ga, gj, _, _, _, 0, rfl, rfl, by omega, hGm, hGa, hGj, (Tri.zero N m).congr (fun x k _ _ => rfl) (fun x k _ _ => rfl)⟩) ?_
 ·clear hGm hGa hGj
  rintro f vs Γ ⟨gm, ga, gj, M, A, J, i, rfl, rfl, hif, hGm, hGa, hGj, hT⟩
  simp -implicitDefEqProofs only [S80_8, go_sem,zA,zB,zC,zD,zE,reduceCtorEq,↓reduceIte,zF,zG,zH,zI]
  refine ⟨fun hlt => ?_, fun hge => ?_⟩
  ·have hi : i < g.rs.length := by omega
   have hmem := List.getElem_mem hi
   have hleft := V.left _ hmem
   have hr4 := V.right _ hmem
   have hsym := V.sym _ hmem
   obtain ⟨b0, o0, h0', A1, c1, hr1, hcr⟩ := hx.ru hi
   have hfs := fun a k => firT_succ hi a k
   have hfle := fun a k => firT_le (g := g) a k i (by omega)
   generalize g.rs[i] = r at *
   obtain ⟨p, hp⟩ : ∃ p : Nat, r.l = p := ⟨r.l.toNat, by omega⟩
   have hpN : p < N := by omega
   refine s_join (fun vs Γ => vs = [] ∧ ∃ (gm ga gj : PH) (M : List (List Int)) (A J : List (List Bool)), Γ = [gt, gm, ga, gj] ∧ Grid gm bm 29 3 M ∧ Grid ga ba 22 4 A ∧ Grid gj bj 22 4 J ∧ Tri N m (firT g (i + 1)) (fun _ _ => 0) M A J) ?_ ?_
   ·simp -implicitDefEqProofs only [S80_6, go_sem,zA,zB,zC,zD,zE,reduceCtorEq,↓reduceIte,zF,zG,zH,zI]
    refine s_idx h0' (by omega) (by omega) ?_
    simp -implicitDefEqProofs only [go_sem,zA,zB,zC,zD,zE,reduceCtorEq,↓reduceIte,zF,zG,zH,zI]
    refine s_ld0 (by simpa using hcr _ (lk_r [gt, gm, ga, gj] _)) (by simp) (by simp) ?_
    simp -implicitDefEqProofs only [go_sem,zA,zB,zC,zD,zE,reduceCtorEq,↓reduceIte,zF,zG,zH,zI]
    intro bx
    refine s_loop (fun f2 vs Γ => Γ = [gt, gm, ga, gj] ∧ ∃ (kv : Int) (q : Nat), vs = [.v true (.int .i64 kv), .v true (.int .i64 (q : Int))] ∧ q + f2 = r.r.length ∧ (((∀ s ∈ r.r.take q, s.t = true) ∧ kv = q) ∨ ((¬ ∀ s ∈ r.r.take q, s.t = true) ∧ (m : Int) + 2 ≤ kv ∧ kv ≤ m + 2 + q))) r.r.length
     (Up.here ⟨rfl, 0, 0, rfl, by omega, .inl ⟨by simp, rfl⟩⟩) ?_
    rintro f2 vs Γ ⟨rfl, kv, q, rfl, hqf, hkv⟩
    simp -implicitDefEqProofs only [S80_5, go_sem,zA,zB,zC,zD,zE,reduceCtorEq,↓reduceIte,zF,zG,zH,zI]
    refine ⟨fun hlt => ?_, fun hge => ?_⟩
    ·have hq : q < r.r.length := by omega
     obtain ⟨b3, o3, h3, hc3⟩ := hr1.sy hq
     have htk : r.r.take (q + 1) = r.r.take q ++ [r.r[q]] := List.take_succ_eq_append_getElem hq
     have hall : (∀ s ∈ r.r.take (q + 1), s.t = true) ↔ (∀ s ∈ r.r.take q, s.t = true) ∧ r.r[q].t = true := by
      rw [htk]
      constructor
      ·intro h
       exact ⟨fun s hs => h s (List.mem_append.2 (.inl hs)), h _ (List.mem_append.2 (.inr (List.mem_singleton.2 rfl)))⟩
      ·rintro ⟨h1, h2⟩ s hs
       rcases List.mem_append.1 hs with e | e
       ·exact h1 s e
       ·simp at e; rw [e]; exact h2
     generalize r.r[q] = s at *
     have hw6 : ∀ x : Int, -2 ≤ x → x ≤ 1000 → IntKind.i64.wrap (x + 1) = x + 1 := fun x q1 q2 => wrap_id (by omega) (by omega)
     refine s_split ?_
     simp -implicitDefEqProofs only [S80_3, go_sem,zA,zB,zC,zD,zE,reduceCtorEq,↓reduceIte,zF,zG,zH,zI]
     refine s_idx h3 (by omega) (by omega) ?_
     simp -implicitDefEqProofs only [go_sem,zA,zB,zC,zD,zE,reduceCtorEq,↓reduceIte,zF,zG,zH,zI]
     refine s_ld0 (by simpa using hc3 _ (lk_r [gt, gm, ga, gj] _)) (by simp) (by simp) ?_
     simp -implicitDefEqProofs only [go_sem,zA,zB,zC,zD,zE,reduceCtorEq,↓reduceIte,zF,zG,zH,zI]
     intro bs
     refine s_split ?_
     obtain ⟨st, sn⟩ := s
     cases st with
     | true =>
      simp -implicitDefEqProofs only [S80_1, go_sem,zA,zB,zC,zD,zE,reduceCtorEq,↓reduceIte,zF,zG,zH,zI]
      refine Up.here ?_
      simp -implicitDefEqProofs only [S80_2, go_sem,zA,zB,zC,zD,zE,reduceCtorEq,↓reduceIte,zF,zG,zH,zI]
      refine Up.here ?_
      simp -implicitDefEqProofs only [S80_4, go_sem,zA,zB,zC,zD,zE,reduceCtorEq,↓reduceIte,zF,zG,zH,zI]
      rw [hw6 kv (by omega) (by omega), hw6 q (by omega) (by omega)]
      refine ⟨f2 - 1, by omega, Up.here ⟨rfl, kv + 1, q + 1, rfl, by omega, ?_⟩⟩
      rw [hall]
      rcases hkv with ⟨q1, q2⟩ | ⟨q1, q2, q3⟩
      ·exact .inl ⟨⟨q1, rfl⟩, by omega⟩
      ·exact .inr ⟨fun h => q1 h.1, by omega, by omega⟩
     | false =>
      simp -implicitDefEqProofs only [S80_1, go_sem,zA,zB,zC,zD,zE,reduceCtorEq,↓reduceIte,zF,zG,zH,zI]
      refine Up.here ?_
      simp -implicitDefEqProofs only [S80_2, go_sem,zA,zB,zC,zD,zE,reduceCtorEq,↓reduceIte,zF,zG,zH,zI]
      refine Up.here ?_
      simp -implicitDefEqProofs only [S80_4, go_sem,zA,zB,zC,zD,zE,reduceCtorEq,↓reduceIte,zF,zG,zH,zI]
      rw [hw6 m (by omega) (by omega), hw6 ((m : Int) + 1) (by omega) (by omega), hw6 q (by omega) (by omega)]
      refine ⟨f2 - 1, by omega, Up.here ⟨rfl, _, q + 1, rfl, by omega, .inr ⟨fun h => ?_, by omega, by omega⟩⟩⟩
      have := (hall.1 h).2
      cases this
    ·have hqe : q = r.r.length := by omega
     subst hqe
     rw [List.take_length] at hkv
     refine ⟨fun hle => ?_, fun hgt => ?_⟩
     ·obtain ⟨hall, rfl⟩ : (∀ s ∈ r.r, s.t = true) ∧ kv = r.r.length := by
       rcases hkv with h | ⟨_, h, _⟩
       ·exact h
       ·omega
      have hlm : r.r.length ≤ m := by omega
      generalize hlL : r.r.length = L at *
      have hMl := hT.m.1
      have hAl := hT.a.1
      have hJl := hT.j.1
      have hMr := hT.m.at' (i := p) (by omega)
      have hAr := hT.a.at' (i := p) (by omega)
      have hJr := hT.j.at' (i := p) (by omega)
      have hfl := hfle p L
      obtain ⟨v1, v2, v3⟩ := hT.at' p L hpN hlm
      rw [matI_get (List.getElem?_eq_getElem (show p < M.length by omega)) (show L < M[p].length by omega), show capN (firT g i p L) = firT g i p L by unfold capN; omega] at v1
      obtain ⟨km, hcm, hAm, hsm⟩ := hGm.at' (i := p) (by omega) (by omega)
      obtain ⟨ka, hca, hAa, hsa⟩ := hGa.at' (i := p) (by omega) (by omega)
      obtain ⟨kj, hcj, hAj, hsj⟩ := hGj.at' (i := p) (by omega) (by omega)
      rw [hMr] at hcm
      rw [hAr] at hca
      rw [hJr] at hcj
      have hcM : ∀ Γ : Ctx, gm ∈ Γ → Cells Γ km L [.int .i64 ((firT g i p L : Nat) : Int)] := fun Γ hg => by
       have := hAm.num (i := L) (by omega) hg
       rwa [v1] at this
      have hw7 : IntKind.i64.wrap (((firT g i p L : Nat) : Int) + 1) = ((firT g i p L + 1 : Nat) : Int) := by rw [wrap_id (by omega) (by omega)]; rfl
      refine s_ld (j := 5) (cells_lk (lk_l [gt, gm, ga, gj] Γr _ _ ⟨gt, by simp, hgt0⟩)) (by simp [htC]) (by simp) ?_
      simp -implicitDefEqProofs only [htC, go_sem,zA,zB,zC,zD,zE,reduceCtorEq,↓reduceIte,zF,zG,zH,zI]
      rw [hp, hN']
      refine s_idx rfl (by omega) (by omega) ?_
      simp -implicitDefEqProofs only [go_sem,zA,zB,zC,zD,zE,reduceCtorEq,↓reduceIte,zF,zG,zH,zI]
      refine s_ld0 (by simpa using hcm _ (by simp)) (by simp) (by simp) ?_
      simp -implicitDefEqProofs only [go_sem,zA,zB,zC,zD,zE,reduceCtorEq,↓reduceIte,zF,zG,zH,zI]
      refine s_idx rfl (by omega) (by omega) ?_
      simp -implicitDefEqProofs only [go_sem,zA,zB,zC,zD,zE,reduceCtorEq,↓reduceIte,zF,zG,zH,zI]
      refine s_ld0 (hcM _ (by simp)) (by simp) (by simp) ?_
      simp -implicitDefEqProofs only [hw7, go_sem,zA,zB,zC,zD,zE,reduceCtorEq,↓reduceIte,zF,zG,zH,zI]
      refine s_idx rfl (by omega) (by omega) ?_
      simp -implicitDefEqProofs only [go_sem,zA,zB,zC,zD,zE,reduceCtorEq,↓reduceIte,zF,zG,zH,zI]
      refine s_storeA (ix := 1) (α := Int) ((firT g i p L + 1 : Nat) : Int) rfl hAm (i := L) (by omega) ?_
      intro gmx hMx hom
      simp -implicitDefEqProofs only [go_sem,zA,zB,zC,zD,zE,reduceCtorEq,↓reduceIte,zF,zG,zH,zI]
      refine s_ld (j := 6) (cells_lk (lk_l [gt, gmx, ga, gj] Γr _ _ ⟨gt, by simp, hgt0⟩)) (by simp [htC]) (by simp) ?_
      simp -implicitDefEqProofs only [htC, go_sem,zA,zB,zC,zD,zE,reduceCtorEq,↓reduceIte,zF,zG,zH,zI]
      rw [hN']
      refine s_idx rfl (by omega) (by omega) ?_
      simp -implicitDefEqProofs only [go_sem,zA,zB,zC,zD,zE,reduceCtorEq,↓reduceIte,zF,zG,zH,zI]
      refine s_ld0 (by simpa using hca _ (by simp)) (by simp) (by simp) ?_
      simp -implicitDefEqProofs only [go_sem,zA,zB,zC,zD,zE,reduceCtorEq,↓reduceIte,zF,zG,zH,zI]
      refine s_ld (j := 7) (cells_lk (lk_l [gt, gmx, ga, gj] Γr _ _ ⟨gt, by simp, hgt0⟩)) (by simp [htC]) (by simp) ?_
      simp -implicitDefEqProofs only [htC, go_sem,zA,zB,zC,zD,zE,reduceCtorEq,↓reduceIte,zF,zG,zH,zI]
      rw [hN']
      refine s_idx rfl (by omega) (by omega) ?_
      simp -implicitDefEqProofs only [go_sem,zA,zB,zC,zD,zE,reduceCtorEq,↓reduceIte,zF,zG,zH,zI]
      refine s_ld0 (by simpa using hcj _ (by simp)) (by simp) (by simp) ?_
      simp -implicitDefEqProofs only [go_sem,zA,zB,zC,zD,zE,reduceCtorEq,↓reduceIte,zF,zG,zH,zI]
      refine s_idx rfl (by omega) (by omega) ?_
      simp -implicitDefEqProofs only [go_sem,zA,zB,zC,zD,zE,reduceCtorEq,↓reduceIte,zF,zG,zH,zI]
      refine s_storeA (ix := 2) (α := Bool) true rfl hAa (i := L) (by omega) ?_
      intro gax hAx hoa
      simp -implicitDefEqProofs only [go_sem,zA,zB,zC,zD,zE,reduceCtorEq,↓reduceIte,zF,zG,zH,zI]
      refine s_idx rfl (by omega) (by omega) ?_
      simp -implicitDefEqProofs only [go_sem,zA,zB,zC,zD,zE,reduceCtorEq,↓reduceIte,zF,zG,zH,zI]
      refine s_storeA (ix := 3) (α := Bool) true rfl hAj (i := L) (by omega) ?_
      intro gjx hJx hoj
      simp -implicitDefEqProofs only [go_sem,zA,zB,zC,zD,zE,reduceCtorEq,↓reduceIte,zF,zG,zH,zI]
      have hset := hT.set hpN hlm (List.getElem?_eq_getElem (show p < M.length by omega)) (List.getElem?_eq_getElem (show p < A.length by omega)) (List.getElem?_eq_getElem (show p < J.length by omega)) (v := firT g i p L + 1) (v' := 0) (c := ((firT g i p L + 1 : Nat) : Int))
       (b := true) (d := true) (by rw [capN_small (show firT g i p L + 1 ≤ 1000 by omega)]) ⟨fun _ => Nat.succ_pos _, fun _ => rfl⟩ ⟨fun _ => Nat.succ_pos _, fun _ => rfl⟩
      refine Up.here ⟨gmx, gax, gjx, _, _, _, rfl, hsm gmx _ hMx (by simp) hom, hsa gax _ hAx (by simp) hoa, hsj gjx _ hJx (by simp) hoj, hset.congr (fun a k _ hk => ?_) (fun a k _ _ => by unfold updF; split <;> rfl)⟩
      rw [hfs]
      unfold updF oneR
      by_cases e1 : a = p
      ·subst e1
       rw [if_pos hp]
       by_cases e2 : k = L
       ·subst e2
        rw [if_pos ⟨rfl, rfl⟩, if_pos ⟨hall, hlL.symm⟩]
       ·rw [if_neg (fun q => e2 q.2), if_neg (fun q => e2 (q.2.trans hlL))]
        omega
      ·rw [if_neg (fun q => e1 q.1), if_neg (fun q => e1 (by omega))]
       omega
     ·refine Up.here ⟨gm, ga, gj, M, A, J, rfl, hGm, hGa, hGj, hT.congr (fun a k _ hk => ?_) (fun _ _ _ _ => rfl)⟩
      rw [hfs]
      unfold oneR
      have : ¬ ((∀ s ∈ r.r, s.t = true) ∧ k = r.r.length) := by
       rintro ⟨q1, q2⟩
       rcases hkv with ⟨_, q3⟩ | ⟨q3, _⟩
       ·omega
       ·exact q3 q1
      rw [if_neg this]
      split <;> omega
   ·rintro vs Γ' ⟨rfl, gm, ga, gj, M, A, J, rfl, hGm, hGa, hGj, hT⟩
    simp -implicitDefEqProofs only [S80_7, go_sem,zA,zB,zC,zD,zE,reduceCtorEq,↓reduceIte,zF,zG,zH,zI]
    simp (disch := omega) only [wrap_id]
    exact ⟨f - 1, by omega, Up.here ⟨gm, ga, gj, M, A, J, i + 1, rfl, rfl, by omega, hGm, hGa, hGj, hT⟩⟩
  ·have hie : i = g.rs.length := by omega
   subst hie
   obtain ⟨mo, hmo⟩ : ∃ mo, mostN g m = mo := ⟨_, rfl⟩
   have hmoN : N * (m + 1) = mo := by rw [← hmo, mostN, hN']
   have hmo1 : mo ≤ 250 := by
    have h1 : N * (m + 1) ≤ 10 * (m + 1) := Nat.mul_le_mul_right _ (by omega)
    omega
   have hw9 : IntKind.i64.wrap ((N : Int) * ((m + 1 : Nat) : Int)) = (mo : Int) := by rw [← Int.natCast_mul, hmoN, wrap_id (by omega) (by omega)]
   rw [hw, hw9]
   refine CallVC.read (grid_bool N (m + 1) (by omega) (by omega)) ?_
   rintro v Γ' ⟨ge, be, rfl, rfl, hGe⟩
   have hSt1 : StC g m R cR N 1 bt gt gm ga gj := ⟨bm, ba, bj, M, A, J, hgt0, hGm, hGa, hGj, hT.congr (fun a k _ _ => firT_all g a k) (fun _ _ _ _ => rfl)⟩
   have hE1 : EndW g m N (fun _ _ => 0) (List.replicate N (List.replicate (m + 1) false)) := ⟨shpR _ _ _, fun a k _ _ => by
    rw [show mat (List.replicate N (List.replicate (m + 1) false)) a k = false from rep_mat _ _ _ _ rfl a k, Nat.max_eq_left (Nat.zero_le _)]
    simp⟩
   clear hGm hGa hGj hT hgt0 hcells
   generalize List.replicate N (List.replicate (m + 1) false) = E at hGe hE1
   simp -implicitDefEqProofs only [go_sem,zA,zB,zC,zD,zE,reduceCtorEq,↓reduceIte,zF,zG,zH,zI]
   refine s_loop (fun f vs Γ => ∃ (gt gm ga gj ge go : PH) (ov : Value) (h : Nat) (E : List (List Bool)), vs = [.v true ov, .v true (.int .i64 (h : Int))] ∧ Γ = [gt, gm, ga, gj, ge, go] ∧ h + f = 2 * mo + 3 ∧ 1 ≤ h ∧ StC g m R cR N h bt gt gm ga gj ∧ Grid ge be 22 4 E ∧ EndW g m N (fun _ _ => h - 1) E ∧ OutS g m N h go ov) (2 * mo + 2)
    (Up.emp (Up.sel [[2], [3], [4], [5], [1], [0]] (by decide) fun _ _ => ⟨gt, gm, ga, gj, ge, _, _, 1, E, rfl, rfl, by omega, by omega, hSt1, hGe, hE1, .inl ⟨by omega, rfl⟩⟩)) ?_
   clear hSt1 hGe hE1
   rintro f vs Γ ⟨gt, gm, ga, gj, ge, go, ov, h, E, rfl, rfl, hhf, hh1, hSt, hGe, hE, hO⟩
   have hw10 : IntKind.i64.wrap (2 * (mo : Int)) = ((2 * mo : Nat) : Int) := by rw [wrap_id (by omega) (by omega)]; omega
   have hw11 : IntKind.i64.wrap (((2 * mo : Nat) : Int) + 2) = ((2 * mo + 2 : Nat) : Int) := by rw [wrap_id (by omega) (by omega)]; omega
   simp -implicitDefEqProofs only [S80_17, hw10, hw11, go_sem,zA,zB,zC,zD,zE,reduceCtorEq,↓reduceIte,zF,zG,zH,zI]
   refine ⟨fun hlt => ?_, fun hge => ?_⟩
   ·refine s_join (fun vs Γ => ∃ (gt gm ga gj ge go : PH) (ov : Value) (E : List (List Bool)), vs = [.v true ov] ∧ Γ = [gt, gm, ga, gj, ge, go] ∧ StC g m R cR N (h + 1) bt gt gm ga gj ∧ Grid ge be 22 4 E ∧ EndW g m N (fun _ _ => h) E ∧ OutS g m N (h + 1) go ov) ?_ ?_
    ·simp -implicitDefEqProofs only [S80_15, go_sem,zA,zB,zC,zD,zE,reduceCtorEq,↓reduceIte,zF,zG,zH,zI]
     refine s_join (fun vs Γ => ∃ (ge : PH) (ov : Value) (E : List (List Bool)), vs = [.v true ov] ∧ Γ = [gt, gm, ga, gj, ge, go] ∧ Grid ge be 22 4 E ∧ EndW g m N (fun _ _ => h) E ∧ OutM g m N h gm go ov) ?_ ?_
     ·simp -implicitDefEqProofs only [S80_13, go_sem,zA,zB,zC,zD,zE,reduceCtorEq,↓reduceIte,zF,zG,zH,zI]
      refine ⟨fun hgt => ?_, fun hle => ?_⟩
      ·refine s_join (fun vs Γ => ∃ ov, vs = [.v true ov] ∧ Γ = [gt, gm, ga, gj, ge, go] ∧ OutM g m N h gm go ov) ?_ ?_
       ·rcases hO with ⟨q1, rfl⟩ | ⟨q1, bo, Om, rfl, q2, q3⟩
        ·obtain ⟨bm, ba, bj, M, A, J, hgt0, hGm, hGa, hGj, hT⟩ := hSt
         simp -implicitDefEqProofs only [S80_9, go_sem,zA,zB,zC,zD,zE,reduceCtorEq,↓reduceIte,zF,zG,zH,zI]
         refine ⟨fun _ => ?_, fun hc => (by cases hc)⟩
         refine s_ld (j := 5) (cells_lk (lk_l [gt, gm, ga, gj, ge, go] Γr _ _ ⟨gt, by simp, hgt0⟩)) (by simp [htC]) (by simp) ?_
         simp -implicitDefEqProofs only [htC, go_sem,zA,zB,zC,zD,zE,reduceCtorEq,↓reduceIte,zF,zG,zH,zI]
         rw [hN']
         refine Up.here ⟨_, rfl, rfl, .inr ⟨by omega, bm, M, rfl, .inl hGm, hT.m, fun a k w1 w2 => ?_⟩⟩
         have he : h = mostN g m + 1 := by omega
         rw [← he]
         exact (hT.at' a k w1 w2).1
        ·simp -implicitDefEqProofs only [S80_9, go_sem,zA,zB,zC,zD,zE,reduceCtorEq,↓reduceIte,zF,zG,zH,zI]
         exact ⟨fun hc => (by cases hc), fun _ => Up.here ⟨_, rfl, rfl, .inr ⟨by omega, bo, Om, rfl, .inr q2, q3⟩⟩⟩
       ·rintro vs Γ' ⟨ov, rfl, rfl, hO⟩
        simp -implicitDefEqProofs only [S80_12, go_sem,zA,zB,zC,zD,zE,reduceCtorEq,↓reduceIte,zF,zG,zH,zI]
        obtain ⟨bm, ba, bj, M, A, J, hgt0, hGm, hGa, hGj, hT⟩ := hSt
        refine s_loop (fun f1 vs Γ => ∃ (ge : PH) (E : List (List Bool)) (a : Nat), vs = [.v true (.int .i64 (a : Int))] ∧ Γ = [gt, gm, ga, gj, ge, go] ∧ a + f1 = N ∧ Grid ge be 22 4 E ∧ EndW g m N (levA a 0 h) E) N
         (Up.here ⟨ge, E, 0, rfl, rfl, by omega, hGe, hE.congr (fun a k _ _ => by unfold levA; rw [if_neg (by omega)])⟩) ?_
        clear hGe hE
        rintro f1 vs Γ ⟨ge, E, a, rfl, rfl, haf, hGe, hE⟩
        simp -implicitDefEqProofs only [S80_11, go_sem,zA,zB,zC,zD,zE,reduceCtorEq,↓reduceIte,zF,zG,zH,zI]
        refine ⟨fun hlt => ?_, fun hge => ?_⟩
        ·have ha : a < N := by omega
         have hEl := hE.1.1
         have hEr := hE.1.at' (i := a) (by omega)
         obtain ⟨ke, hce, hAe, hse⟩ := hGe.at' (i := a) (by omega) (by omega)
         rw [hEr] at hce
         refine s_idx rfl (by omega) (by omega) ?_
         simp -implicitDefEqProofs only [go_sem,zA,zB,zC,zD,zE,reduceCtorEq,↓reduceIte,zF,zG,zH,zI]
         refine s_ld0 (by simpa using hce _ (by simp)) (by simp) (by simp) ?_
         simp -implicitDefEqProofs only [go_sem,zA,zB,zC,zD,zE,reduceCtorEq,↓reduceIte,zF,zG,zH,zI]
         clear hse hAe hce ke
         refine s_loop (fun f2 vs Γ => ∃ (ge : PH) (E : List (List Bool)) (k : Nat), vs = [.v true (.int .i64 (k : Int))] ∧ Γ = [gt, gm, ga, gj, ge, go] ∧ k + f2 = m + 1 ∧ Grid ge be 22 4 E ∧ EndW g m N (levA a k h) E) (m + 1)
          (Up.here ⟨ge, E, 0, rfl, rfl, by omega, hGe, hE⟩) ?_
         clear hGe hE hEl hEr
         rintro f2 vs Γ ⟨ge, E, k, rfl, rfl, hkf, hGe, hE⟩
         simp -implicitDefEqProofs only [S80_10, go_sem,zA,zB,zC,zD,zE,reduceCtorEq,↓reduceIte,zF,zG,zH,zI]
         refine ⟨fun hlt => ?_, fun hge => ?_⟩
         ·have hk : k ≤ m := by omega
          have hEl := hE.1.1
          have hEr := hE.1.at' (i := a) (by omega)
          have hJl := hT.j.1
          have hJr := hT.j.at' (i := a) (by omega)
          have v3 := (hT.at' a k ha hk).2.2
          have v4 := hE.2 a k ha hk
          rw [mat_get (List.getElem?_eq_getElem (show a < J.length by omega)) (show k < J[a].length by omega)] at v3
          rw [mat_get (List.getElem?_eq_getElem (show a < E.length by omega)) (show k < E[a].length by omega)] at v4
          rw [show levA a k h a k = h - 1 by unfold levA; rw [if_neg (by omega)]] at v4
          obtain ⟨ke, hce, hAe, hse⟩ := hGe.at' (i := a) (by omega) (by omega)
          obtain ⟨kj, hcj, hAj, hsj⟩ := hGj.at' (i := a) (by omega) (by omega)
          rw [hEr] at hce
          rw [hJr] at hcj
          have hcE : ∀ Γ : Ctx, ge ∈ Γ → Cells Γ ke k [.bool E[a][k]] := fun Γ hg => hAe.bool (by omega) hg
          have hcJ : ∀ Γ : Ctx, gj ∈ Γ → Cells Γ kj k [.bool J[a][k]] := fun Γ hg => hAj.bool (by omega) hg
          have fin : ∀ (v : Bool) (gex : PH), Arr gex ke 4 (E[a].set k v) → (∀ x, x ≠ ke → gex x = ge x) → (v = true ↔ E[a][k] = true ∨ J[a][k] = true) →
            Up [gt, gm, ga, gj, gex, go] (fun Γ => ∃ (ge : PH) (E : List (List Bool)) (k1 : Nat), [Sl.v true (.int .i64 ((k : Int) + 1))] = [.v true (.int .i64 (k1 : Int))] ∧ Γ = [gt, gm, ga, gj, ge, go] ∧ k1 + (f2 - 1) = m + 1 ∧ Grid ge be 22 4 E ∧ EndW g m N (levA a k1 h) E) := by
           intro v gex w1 w2 w3
           refine Up.here ⟨gex, _, k + 1, rfl, rfl, by omega, hse gex _ w1 (by simp) w2, hE.1.set a (by simp [hEr]), fun a' k' u1 u2 => ?_⟩
           rw [mat_setR hE.1 ha (by omega) (List.getElem?_eq_getElem (show a < E.length by omega))]
           by_cases e : a' = a ∧ k' = k
           ·obtain ⟨rfl, rfl⟩ := e
            rw [if_pos ⟨rfl, rfl⟩, show levA a' (k' + 1) h a' k' = h by unfold levA; rw [if_pos (by omega)], w3, v4, v3]
            have m1 := cntT_le g (show mostN g m ≤ max (mostN g m) (h - 1) by omega) (a' : Int) k'
            have m2 := cntT_le g (show h - 1 ≤ h by omega) (a' : Int) k'
            rw [show max (mostN g m) (h - 1) = h - 1 by omega] at m1 ⊢
            rw [show max (mostN g m) h = h by omega]
            omega
           ·rw [if_neg e, hE.2 a' k' u1 u2, show levA a (k + 1) h a' k' = levA a k h a' k' by
             unfold levA
             by_cases c : a' < a ∨ (a' = a ∧ k' < k)
             ·rw [if_pos c, if_pos (by omega)]
             ·rw [if_neg c, if_neg (by omega)]]
          generalize E[a][k] = e0 at *
          generalize J[a][k] = j0 at *
          refine s_idx rfl (by omega) (by omega) ?_
          simp -implicitDefEqProofs only [go_sem,zA,zB,zC,zD,zE,reduceCtorEq,↓reduceIte,zF,zG,zH,zI]
          refine s_ld0 (by simpa using hce _ (by simp)) (by simp) (by simp) ?_
          simp -implicitDefEqProofs only [go_sem,zA,zB,zC,zD,zE,reduceCtorEq,↓reduceIte,zF,zG,zH,zI]
          refine s_idx rfl (by omega) (by omega) ?_
          simp -implicitDefEqProofs only [go_sem,zA,zB,zC,zD,zE,reduceCtorEq,↓reduceIte,zF,zG,zH,zI]
          refine s_ld0 (by simpa using hce _ (by simp)) (by simp) (by simp) ?_
          simp -implicitDefEqProofs only [go_sem,zA,zB,zC,zD,zE,reduceCtorEq,↓reduceIte,zF,zG,zH,zI]
          refine s_idx rfl (by omega) (by omega) ?_
          simp -implicitDefEqProofs only [go_sem,zA,zB,zC,zD,zE,reduceCtorEq,↓reduceIte,zF,zG,zH,zI]
          refine s_ld0 (hcE _ (by simp)) (by simp) (by simp) ?_
          cases e0 with
          | true =>
           simp -implicitDefEqProofs only [go_sem,zA,zB,zC,zD,zE,reduceCtorEq,↓reduceIte,zF,zG,zH,zI]
           refine s_ldg0 (cs := [.slice none 0 0]) (by simp) (by simp) (by simp) (by simp) ?_
           simp -implicitDefEqProofs only [go_sem,zA,zB,zC,zD,zE,reduceCtorEq,↓reduceIte,zF,zG,zH,zI]
           refine s_idxg (b := 0) (o := 0) (by simp) ?_
           simp -implicitDefEqProofs only [go_sem,zA,zB,zC,zD,zE,reduceCtorEq,↓reduceIte,zF,zG,zH,zI]
           refine s_ldg0 (cs := [.slice none 0 0]) (by simp) (by simp) (by simp) (by simp) ?_
           simp -implicitDefEqProofs only [go_sem,zA,zB,zC,zD,zE,reduceCtorEq,↓reduceIte,zF,zG,zH,zI]
           refine s_idxg (b := 0) (o := 0) (by simp) ?_
           simp -implicitDefEqProofs only [go_sem,zA,zB,zC,zD,zE,reduceCtorEq,↓reduceIte,zF,zG,zH,zI]
           refine s_ldg0 (cs := [.bool false]) (by simp) (by simp) (by simp) (by simp) ?_
           simp -implicitDefEqProofs only [go_sem,zA,zB,zC,zD,zE,reduceCtorEq,↓reduceIte,zF,zG,zH,zI]
           refine s_idx rfl (by omega) (by omega) ?_
           simp -implicitDefEqProofs only [go_sem,zA,zB,zC,zD,zE,reduceCtorEq,↓reduceIte,zF,zG,zH,zI]
           refine s_storeA (ix := 4) (α := Bool) true rfl hAe (i := k) (by omega) ?_
           intro gex hEx hoe
           simp -implicitDefEqProofs only [go_sem,zA,zB,zC,zD,zE,reduceCtorEq,↓reduceIte,zF,zG,zH,zI]
           simp (disch := omega) only [wrap_id]
           exact ⟨f2 - 1, by omega, fin true gex hEx hoe (by simp)⟩
          | false =>
           simp -implicitDefEqProofs only [go_sem,zA,zB,zC,zD,zE,reduceCtorEq,↓reduceIte,zF,zG,zH,zI]
           refine s_ld (j := 7) (cells_lk (lk_l [gt, gm, ga, gj, ge, go] Γr _ _ ⟨gt, by simp, hgt0⟩)) (by simp [htC]) (by simp) ?_
           simp -implicitDefEqProofs only [htC, go_sem,zA,zB,zC,zD,zE,reduceCtorEq,↓reduceIte,zF,zG,zH,zI]
           rw [hN']
           refine s_idx rfl (by omega) (by omega) ?_
           simp -implicitDefEqProofs only [go_sem,zA,zB,zC,zD,zE,reduceCtorEq,↓reduceIte,zF,zG,zH,zI]
           refine s_ld0 (by simpa using hcj _ (by simp)) (by simp) (by simp) ?_
           simp -implicitDefEqProofs only [go_sem,zA,zB,zC,zD,zE,reduceCtorEq,↓reduceIte,zF,zG,zH,zI]
           refine s_idx rfl (by omega) (by omega) ?_
           simp -implicitDefEqProofs only [go_sem,zA,zB,zC,zD,zE,reduceCtorEq,↓reduceIte,zF,zG,zH,zI]
           refine s_ld0 (hcJ _ (by simp)) (by simp) (by simp) ?_
           simp -implicitDefEqProofs only [go_sem,zA,zB,zC,zD,zE,reduceCtorEq,↓reduceIte,zF,zG,zH,zI]
           refine s_idx rfl (by omega) (by omega) ?_
           simp -implicitDefEqProofs only [go_sem,zA,zB,zC,zD,zE,reduceCtorEq,↓reduceIte,zF,zG,zH,zI]
           refine s_storeA (ix := 4) (α := Bool) j0 rfl hAe (i := k) (by omega) ?_
           intro gex hEx hoe
           simp -implicitDefEqProofs only [go_sem,zA,zB,zC,zD,zE,reduceCtorEq,↓reduceIte,zF,zG,zH,zI]
           simp (disch := omega) only [wrap_id]
           exact ⟨f2 - 1, by omega, fin j0 gex hEx hoe (by simp)⟩
         ·have hke : k = m + 1 := by omega
          subst hke
          simp (disch := omega) only [wrap_id]
          refine ⟨f1 - 1, by omega, Up.here ⟨ge, E, a + 1, rfl, rfl, by omega, hGe, hE.congr (fun a' k' _ _ => ?_)⟩⟩
          rw [show levA a (m + 1) h a' k' = levA (a + 1) 0 h a' k' by
           unfold levA
           by_cases c : a' < a + 1
           ·rw [if_pos (by omega), if_pos (by omega)]
           ·rw [if_neg (by omega), if_neg (by omega)]]
        ·have hae : a = N := by omega
         subst hae
         exact Up.here ⟨ge, ov, E, rfl, rfl, hGe, hE.congr (fun a' k' q _ => by unfold levA; rw [if_pos (by omega)]), hO⟩
      ·refine Up.here ⟨ge, ov, E, rfl, rfl, hGe, hE.congr (fun a k _ _ => by omega), ?_⟩
       rcases hO with ⟨q1, q2⟩ | ⟨q1, _⟩
       ·exact .inl ⟨by omega, q2⟩
       ·omega
     ·rintro vs Γ' ⟨ge, ov, E, rfl, rfl, hGe, hE, hO⟩
      simp -implicitDefEqProofs only [S80_14, go_sem,zA,zB,zC,zD,zE,reduceCtorEq,↓reduceIte,zF,zG,zH,zI]
      obtain ⟨bm, ba, bj, M, A, J, hgt0, hGm, hGa, hGj, hT⟩ := hSt
      have hsm := hGm.slok (L := lk ([gm, ga, gj, ge, go] ++ Γr)) (lk_sub (by simp))
      have hsa := hGa.slok (L := lk ([gm, ga, gj, ge, go] ++ Γr)) (lk_sub (by simp))
      have hsj := hGj.slok (L := lk ([gm, ga, gj, ge, go] ++ Γr)) (lk_sub (by simp))
      rw [hT.m.1, ← hN'] at hsm
      rw [hT.a.1, ← hN'] at hsa
      rw [hT.j.1, ← hN'] at hsj
      refine CallVC.perm (Γm := [gt]) (Γf := [gm, ga, gj, ge, go]) (heights_up (Γr := [gm, ga, gj, ge, go] ++ Γr) V hm (hx.mono (lk_r [gm, ga, gj, ge, go] Γr)) hgt0 (cntT_le g (show h - 1 ≤ h by omega)) (by rw [hN']; exact hT) hsm hsa hsj) (List.Perm.refl _) (List.Sublist.refl _) ?_
      rintro v Γ' ⟨gt', gm', ga', gj', bm', ba', bj', M', A', J', rfl, rfl, hgt1, hGm', hGa', hGj', hT'⟩
      simp -implicitDefEqProofs only [go_sem,zA,zB,zC,zD,zE,reduceCtorEq,↓reduceIte,zF,zG,zH,zI]
      have hSt' : StC g m R cR N (h + 1) bt gt' gm' ga' gj' := ⟨bm', ba', bj', M', A', J', hgt1, hGm', hGa', hGj', by
       rw [hN'] at hT'
       refine hT'.congr (fun a k _ hk => nxtT_all g h (n := m) (fun _ _ => rfl) a k hk) (fun a k _ hk => ?_)
       have := nxtT_all g (h - 1) (c := fun _ => g.rs.length) (n := m) (fun _ _ => rfl) a k hk
       rw [this, show h - 1 + 1 = h + 1 - 1 by omega]⟩
      rcases hO with ⟨q1, rfl⟩ | ⟨q1, bo, Om, rfl, q2 | q2, q3⟩
      ·exact Up.sel [[0], [1], [2], [3], [7], [8]] (by decide) fun _ _ => ⟨gt', gm', ga', gj', ge, go, _, E, rfl, rfl, hSt', hGe, hE, .inl ⟨by omega, rfl⟩⟩
      ·exact Up.sel [[0], [1], [2], [3], [7], [4]] (by decide) fun _ _ => ⟨gt', gm', ga', gj', ge, gm, _, E, rfl, rfl, hSt', hGe, hE, .inr ⟨by omega, bo, Om, rfl, q2, q3⟩⟩
      ·exact Up.sel [[0], [1], [2], [3], [7], [8]] (by decide) fun _ _ => ⟨gt', gm', ga', gj', ge, go, _, E, rfl, rfl, hSt', hGe, hE, .inr ⟨by omega, bo, Om, rfl, q2, q3⟩⟩
    ·rintro vs Γ' ⟨gt, gm, ga, gj, ge, go, ov, E, rfl, rfl, hSt, hGe, hE, hO⟩
     simp -implicitDefEqProofs only [S80_16, go_sem,zA,zB,zC,zD,zE,reduceCtorEq,↓reduceIte,zF,zG,zH,zI]
     simp (disch := omega) only [wrap_id]
     exact ⟨f - 1, by omega, Up.here ⟨gt, gm, ga, gj, ge, go, ov, h + 1, E, rfl, rfl, by omega, by omega, hSt, hGe, hE, hO⟩⟩
   ·have hhe : h = 2 * mo + 3 := by omega
    rcases hO with ⟨q1, _⟩ | ⟨q1, bo, Om, rfl, hGo, hOv⟩
    ·omega
    have hEv := hE.2
    rw [show h - 1 = 2 * mo + 2 by omega] at hEv
    have hEs := hE.1
    clear hSt hE
    simp -implicitDefEqProofs only [go_sem,zA,zB,zC,zD,zE,reduceCtorEq,↓reduceIte,zF,zG,zH,zI]
    refine s_loop (fun f vs Γ => ∃ (go : PH) (Om : List (List Int)) (a : Nat), vs = [.v true (.int .i64 (a : Int))] ∧ Γ = [go, ge] ∧ a + f = N ∧ Grid go bo 29 3 Om ∧ Shp N (m + 1) Om ∧ ∀ a' k', a' < N → k' ≤ m → matI Om a' k' = if a' < a then cenF g m a' k' else ((capN (cntT g (mostN g m + 1) (a' : Int) k') : Nat) : Int)) N
     (Up.sel [[5], [4]] (by decide) fun _ _ => ⟨go, Om, 0, rfl, rfl, by omega, hGo, hOv.1, fun a' k' w1 w2 => by rw [if_neg (by omega)]; exact hOv.2 a' k' w1 w2⟩) ?_
    clear hGo hOv
    rintro f1 vs Γ ⟨go, Om, a, rfl, rfl, haf, hGo, hOs, hOv⟩
    simp -implicitDefEqProofs only [S80_21, go_sem,zA,zB,zC,zD,zE,reduceCtorEq,↓reduceIte,zF,zG,zH,zI]
    refine ⟨fun hlt => ?_, fun hge => ?_⟩
    ·have ha : a < N := by omega
     have hOl := hOs.1
     have hOr := hOs.at' (i := a) (by omega)
     obtain ⟨ko, hco, hAo, hso⟩ := hGo.at' (i := a) (by omega) (by omega)
     rw [hOr] at hco
     refine s_idx rfl (by omega) (by omega) ?_
     simp -implicitDefEqProofs only [go_sem,zA,zB,zC,zD,zE,reduceCtorEq,↓reduceIte,zF,zG,zH,zI]
     refine s_ld0 (by simpa using hco _ (by simp)) (by simp) (by simp) ?_
     simp -implicitDefEqProofs only [go_sem,zA,zB,zC,zD,zE,reduceCtorEq,↓reduceIte,zF,zG,zH,zI]
     clear hco hAo hso ko
     refine s_loop (fun f2 vs Γ => ∃ (go : PH) (Om : List (List Int)) (k : Nat), vs = [.v true (.int .i64 (k : Int))] ∧ Γ = [go, ge] ∧ k + f2 = m + 1 ∧ Grid go bo 29 3 Om ∧ Shp N (m + 1) Om ∧ ∀ a' k', a' < N → k' ≤ m → matI Om a' k' = if a' < a ∨ (a' = a ∧ k' < k) then cenF g m a' k' else ((capN (cntT g (mostN g m + 1) (a' : Int) k') : Nat) : Int)) (m + 1)
      (Up.here ⟨go, Om, 0, rfl, rfl, by omega, hGo, hOs, fun a' k' w1 w2 => by
        rw [hOv a' k' w1 w2]
        by_cases c : a' < a
        ·rw [if_pos c, if_pos (by omega)]
        ·rw [if_neg c, if_neg (by omega)]⟩) ?_
     clear hGo hOs hOv hOl hOr
     rintro f2 vs Γ ⟨go, Om, k, rfl, rfl, hkf, hGo, hOs, hOv⟩
     simp -implicitDefEqProofs only [S80_20, go_sem,zA,zB,zC,zD,zE,reduceCtorEq,↓reduceIte,zF,zG,zH,zI]
     refine ⟨fun hlt => ?_, fun hge => ?_⟩
     ·have hk : k ≤ m := by omega
      have hOl := hOs.1
      have hOr := hOs.at' (i := a) (by omega)
      have hEl := hEs.1
      have hEr := hEs.at' (i := a) (by omega)
      obtain ⟨ko, hco, hAo, hso⟩ := hGo.at' (i := a) (by omega) (by omega)
      obtain ⟨ke, hce, hAe, _⟩ := hGe.at' (i := a) (by omega) (by omega)
      rw [hOr] at hco
      rw [hEr] at hce
      have v4 := hEv a k ha hk
      rw [mat_get (List.getElem?_eq_getElem (show a < E.length by omega)) (show k < E[a].length by omega), show max (mostN g m) (2 * mo + 2) = 2 * mostN g m + 2 by omega] at v4
      have hcE : ∀ Γ : Ctx, ge ∈ Γ → Cells Γ ke k [.bool E[a][k]] := fun Γ hg => hAe.bool (by omega) hg
      generalize E[a][k] = e0 at *
      refine s_join (fun vs Γ => vs = [] ∧ ∃ (go : PH) (Om : List (List Int)), Γ = [go, ge] ∧ Grid go bo 29 3 Om ∧ Shp N (m + 1) Om ∧ ∀ a' k', a' < N → k' ≤ m → matI Om a' k' = if a' < a ∨ (a' = a ∧ k' < k + 1) then cenF g m a' k' else ((capN (cntT g (mostN g m + 1) (a' : Int) k') : Nat) : Int)) ?_ ?_
      ·simp -implicitDefEqProofs only [S80_18, go_sem,zA,zB,zC,zD,zE,reduceCtorEq,↓reduceIte,zF,zG,zH,zI]
       refine s_idx rfl (by omega) (by omega) ?_
       simp -implicitDefEqProofs only [go_sem,zA,zB,zC,zD,zE,reduceCtorEq,↓reduceIte,zF,zG,zH,zI]
       refine s_ld0 (by simpa using hce _ (by simp)) (by simp) (by simp) ?_
       simp -implicitDefEqProofs only [go_sem,zA,zB,zC,zD,zE,reduceCtorEq,↓reduceIte,zF,zG,zH,zI]
       refine s_idx rfl (by omega) (by omega) ?_
       simp -implicitDefEqProofs only [go_sem,zA,zB,zC,zD,zE,reduceCtorEq,↓reduceIte,zF,zG,zH,zI]
       refine s_ld0 (hcE _ (by simp)) (by simp) (by simp) ?_
       cases e0 with
       | true =>
        simp -implicitDefEqProofs only [go_sem,zA,zB,zC,zD,zE,reduceCtorEq,↓reduceIte,zF,zG,zH,zI]
        refine s_idx rfl (by omega) (by omega) ?_
        simp -implicitDefEqProofs only [go_sem,zA,zB,zC,zD,zE,reduceCtorEq,↓reduceIte,zF,zG,zH,zI]
        refine s_ld0 (by simpa using hco _ (by simp)) (by simp) (by simp) ?_
        simp -implicitDefEqProofs only [go_sem,zA,zB,zC,zD,zE,reduceCtorEq,↓reduceIte,zF,zG,zH,zI]
        refine s_idx rfl (by omega) (by omega) ?_
        simp -implicitDefEqProofs only [go_sem,zA,zB,zC,zD,zE,reduceCtorEq,↓reduceIte,zF,zG,zH,zI]
        refine s_storeA (ix := 0) (α := Int) (-1) rfl hAo (i := k) (by omega) ?_
        intro gox hOx hoo
        simp -implicitDefEqProofs only [go_sem,zA,zB,zC,zD,zE,reduceCtorEq,↓reduceIte,zF,zG,zH,zI]
        refine Up.here ⟨gox, _, rfl, hso gox _ hOx (by simp) hoo, hOs.set a (by simp [hOr]), fun a' k' w1 w2 => ?_⟩
        rw [matI_set hOs ha (by omega) (List.getElem?_eq_getElem (show a < Om.length by omega))]
        by_cases c : a' = a ∧ k' = k
        ·obtain ⟨rfl, rfl⟩ := c
         rw [if_pos ⟨rfl, rfl⟩, if_pos (by omega)]
         exact (if_pos (v4.1 rfl)).symm
        ·rw [if_neg c, hOv a' k' w1 w2]
         by_cases d : a' < a ∨ (a' = a ∧ k' < k)
         ·rw [if_pos d, if_pos (by omega)]
         ·rw [if_neg d, if_neg (by omega)]
       | false =>
        simp -implicitDefEqProofs only [go_sem,zA,zB,zC,zD,zE,reduceCtorEq,↓reduceIte,zF,zG,zH,zI]
        refine Up.here ⟨go, Om, rfl, hGo, hOs, fun a' k' w1 w2 => ?_⟩
        rw [hOv a' k' w1 w2]
        by_cases c : a' = a ∧ k' = k
        ·obtain ⟨rfl, rfl⟩ := c
         rw [if_neg (by omega), if_pos (by omega)]
         have hnl : ¬ cntT g (mostN g m) (a' : Int) k' < cntT g (2 * mostN g m + 2) (a' : Int) k' := fun q => by have := v4.2 q; cases this
         have m1 := cntT_le g (show mostN g m ≤ mostN g m + 1 by omega) (a' : Int) k'
         have m2 := cntT_le g (show mostN g m + 1 ≤ 2 * mostN g m + 2 by omega) (a' : Int) k'
         unfold cenF
         rw [if_neg hnl, show cntT g (mostN g m + 1) (a' : Int) k' = cntT g (mostN g m) (a' : Int) k' by omega]
        ·by_cases d : a' < a ∨ (a' = a ∧ k' < k)
         ·rw [if_pos d, if_pos (by omega)]
         ·rw [if_neg d, if_neg (by omega)]
      ·rintro vs Γ' ⟨rfl, go, Om, rfl, hGo, hOs, hOv⟩
       simp -implicitDefEqProofs only [S80_19, go_sem,zA,zB,zC,zD,zE,reduceCtorEq,↓reduceIte,zF,zG,zH,zI]
       simp (disch := omega) only [wrap_id]
       exact ⟨f2 - 1, by omega, Up.here ⟨go, Om, k + 1, rfl, rfl, by omega, hGo, hOs, hOv⟩⟩
     ·have hke : k = m + 1 := by omega
      subst hke
      simp (disch := omega) only [wrap_id]
      refine ⟨f1 - 1, by omega, Up.here ⟨go, Om, a + 1, rfl, rfl, by omega, hGo, hOs, fun a' k' w1 w2 => ?_⟩⟩
      rw [hOv a' k' w1 w2]
      by_cases c : a' < a + 1
      ·rw [if_pos (by omega), if_pos c]
      ·rw [if_neg (by omega), if_neg c]
    ·have hae : a = N := by omega
     subst hae
     have he := rows_eq hOs (fun a' k' w1 w2 => by rw [hOv a' k' w1 w2, if_pos w1])
     refine Up.sel [[0]] (by decide) fun _ _ => ?_
     subst hR
     refine .inr ⟨hce, go, _, _, rfl, by rw [hN'], ?_⟩
     rw [Int.toNat_natCast, hN', ← he]
     have := hGo.slok (L := lk [go]) (lk_sub (by simp))
     rw [hOs.1] at this
     exact this
/- The text of parlance/parllaw5.plain as a statement; no condition. -/
def S40_0 : Stmt :=
 .seq
 (.region
 [.mk (some 0) none
 (.alloc true 57
 (.agg
 (Array.mk
 [.int .i64 0,.int .i64 0,.int .i64 0,.slice none 0 0])))]
 [0])
 (.seq
 (.region
 [.mk (some 1) none
 (.build 39 [.bool false,.int .i64 0] [(0,1,.const (.bool true))]),
 oq 2 (.buildS 39 1 [.bool false,.int .i64 0] [(0,2,.tmp 1)]),
 oq 3 (.build 37 [.int .i64 0,.slice none 0 0] [(1,1,.tmp 2)]),
 .mk (some 4) none
 (.build 39 [.bool false,.int .i64 0]
 [(0,1,.const (.bool true)),(1,1,.const (.int .i64 1))]),
 oq 5 (.build 39 [.bool false,.int .i64 0] []),
 .mk (some 6) none
 (.buildS 39 2 [.bool false,.int .i64 0,.bool false,.int .i64 0]
 [(0,2,.tmp 4),(2,2,.tmp 5)]),
 oq 7 (.build 37 [.int .i64 0,.slice none 0 0] [(1,1,.tmp 6)]),
 .mk (some 8) none
 (.buildS 37 2
 [.int .i64 0,.slice none 0 0,.int .i64 0,.slice none 0 0]
 [(0,2,.tmp 3),(2,2,.tmp 7)]),
 .mk (some 9) none
 (.build 57
 [.int .i64 0,.int .i64 0,.int .i64 0,.slice none 0 0]
 [(0,1,.const (.int .i64 2)),(1,1,.const (.int .i64 1)),
 (3,1,.tmp 8)]),
 .mk none none (.store 4 (.tmp 0) (.tmp 9))]
 [0])
 .ret)
def S40 : FnS := ⟨10,[(0,some (true,4))],S40_0⟩
theorem tr40 : trFn Try.prog 40 [0] [[0],[0]] = some S40 := by kernel_rfl
/- parllaw5.plain and slices.Equal of bools walked; no condition. -/
def plainG : Gr := ⟨2, 1, 0, [⟨0, [⟨true, 0⟩]⟩, ⟨0, [⟨true, 1⟩, ⟨false, 0⟩]⟩]⟩
theorem plain_ {Γr : Ctx} : Ret Try.prog 40 [] Γr [] (fun v Γ => ∃ g A c, Γ = [g] ∧ SlOk (lk [g]) A c plainG.rs ∧ v = .agg #[.int .i64 2, .int .i64 1, .int .i64 0, .slice A 2 c]) := by
 generalize hR : (fun (v : Value) (Γ : Ctx) => ∃ g A c, _) = R
 refine ret_of_vc tr40 (Nat.le_of_ble_eq_true rfl) ?_
 simp -implicitDefEqProofs only [S40, S40_0, go_sem,zA,zB,zC,zD,zE,reduceCtorEq,↓reduceIte,zF,zG,zH,zI]
 intro b b1 b2
 refine Up.one fun g hg => ?_
 subst hR
 refine ⟨g, _, 2, rfl, ?_, rfl⟩
 refine lit_rep2 (cs := [.int .i64 0, .slice (some ⟨b, 0, none⟩) 1 1]) (ds := [.int .i64 0, .slice (some ⟨b1, 0, none⟩) 2 2]) _ _ (hg _ _ lk_head) rfl ⟨_, _, rfl, ?_⟩ ⟨_, _, rfl, ?_⟩
 ·exact lit_rep1 (cs := [.bool true, .int .i64 0]) (⟨true, 0⟩ : Sy) (hg _ _ (lk_tail (lk_tail lk_head))) rfl
 ·exact lit_rep2 (cs := [.bool true, .int .i64 1]) (ds := [.bool false, .int .i64 0]) (⟨true, 1⟩ : Sy) (⟨false, 0⟩ : Sy) (hg _ _ (lk_tail lk_head)) rfl rfl rfl
/- How many nodes the trees of a start symbol have of which there are not too many: the plain law; no condition. -/
/-- trees of no terminals, of at most e levels -/
def epsS : Nat → Nat
 | 0 => 0
 | e + 1 => 1 + 4 * epsS e
theorem epsS_ten : epsS 10 = 349525 := by decide
/-- one kid's bound: W = 1500000 for each tenth -/
def KidB (F K : Nat) (x : Tr) (j : Nat) : Prop := (j = 0 → numT x ≤ 349525) ∧ (1 ≤ j → numT x + 15000000 ≤ 45000000 * j) ∧ (j = K → 1 ≤ j → numT x ≤ F)
theorem addB {a b u v w z A B : Nat} (h1 : b + w ≤ v + z) (b2 : a + A ≤ u) : a + b + (w + A) ≤ u + v + (z + B) := by omega
theorem row_size {L : Int → Nat → List Tr} {T : Int → Nat → Nat} (hL : LenL L T) {F K : Nat} : ∀ {l : List Sy} {k : Nat} {ks : List Tr}, ks ∈ rowL L l k → (∀ s ∈ l, s.t = true → ∀ j x, x ∈ symL L s j → KidB F K x j) → (∀ b j x, EdR T l k b j → x ∈ L b j → x ∈ ks → KidB F K x j) →
  ∃ c, numL ks + 15000000 * c ≤ 45000000 * k + 349525 * l.length ∧ (c = 0 → k = 0 ∧ numL ks ≤ 349525 * l.length) ∧ (c = 1 → k = K → numL ks ≤ F + 349525 * l.length)
 | [], k, ks, h, _, _ => by
  simp only [rowL] at h
  split at h
  ·rename_i e
   simp only [List.mem_singleton] at h
   subst h e
   exact ⟨0, by simp [numL], fun _ => ⟨rfl, by simp [numL]⟩, fun h => by omega⟩
  ·simp at h
 | s :: l, k, ks, h, ht, he => by
  rw [rowL] at h
  obtain ⟨j, hj, h⟩ := List.mem_flatMap.1 h
  obtain ⟨x, hx, h⟩ := List.mem_flatMap.1 h
  obtain ⟨y, hy, rfl⟩ := List.mem_map.1 h
  have hj : j ≤ k := by have := List.mem_range.1 hj; omega
  have hsp : 0 < symT T s j := by rw [← symL_len hL]; exact List.length_pos_of_mem hx
  have hrp : 0 < rowT T l (k - j) := by rw [← rowL_len hL]; exact List.length_pos_of_mem hy
  have hB : KidB F K x j := by
   obtain ⟨st, sn⟩ := s
   cases st with
   | true => exact ht _ (by simp) rfl j x hx
   | false => exact he sn j x ⟨j, hj, hsp, hrp, .inl ⟨rfl, rfl, rfl⟩⟩ hx (by simp)
  obtain ⟨c, h1, h2, h3⟩ := row_size hL hy (fun s' hs' => ht s' (by simp [hs'])) (fun b i z hz hm hz2 => he b i z ⟨j, hj, hsp, hrp, .inr hz⟩ hm (by simp [hz2]))
  obtain ⟨b1, b2, b3⟩ := hB
  have hnl : numL (x :: y) = numT x + numL y := rfl
  rw [hnl]
  simp only [List.length_cons]
  rcases Nat.eq_zero_or_pos j with e | e
  ·subst e
   have b1 := b1 rfl
   rw [Nat.sub_zero] at h1 h2 h3
   refine ⟨c, by omega, fun hc => ?_, fun hc hk => ?_⟩
   ·obtain ⟨q1, q2⟩ := h2 hc
    exact ⟨q1, by omega⟩
   ·have := h3 hc hk
    omega
  ·have b2 := b2 (by omega)
   refine ⟨c + 1, ?_, fun hc => by omega, fun hc hk => ?_⟩
   ·obtain ⟨i, hi⟩ : ∃ i, k - j = i := ⟨_, rfl⟩
    rw [hi] at h1
    have hk : k = j + i := by omega
    have e1 : 15000000 * (c + 1) = 15000000 * c + 15000000 := Nat.mul_succ _ _
    have e2 : 45000000 * k = 45000000 * j + 45000000 * i := by rw [hk, Nat.mul_add]
    have e3 : 349525 * (l.length + 1) = 349525 * l.length + 349525 := Nat.mul_succ _ _
    rw [e1, e2, e3]
    exact addB h1 b2
   ·obtain ⟨q1, q2⟩ := h2 (by omega)
    have := b3 (by omega) (by omega)
    omega
theorem row_eps {L : Int → Nat → List Tr} {T : Int → Nat → Nat} (hL : LenL L T) {S : Nat} : ∀ {l : List Sy} {ks : List Tr}, ks ∈ rowL L l 0 → (∀ b x, EdR T l 0 b 0 → x ∈ L b 0 → x ∈ ks → numT x ≤ S) → numL ks ≤ S * l.length
 | [], ks, h, _ => by
  simp only [rowL, if_true, List.mem_singleton] at h
  subst h
  simp [numL]
 | s :: l, ks, h, he => by
  rw [rowL] at h
  obtain ⟨j, hj, h⟩ := List.mem_flatMap.1 h
  obtain ⟨x, hx, h⟩ := List.mem_flatMap.1 h
  obtain ⟨y, hy, rfl⟩ := List.mem_map.1 h
  obtain rfl : j = 0 := by have := List.mem_range.1 hj; omega
  have hsp : 0 < symT T s 0 := by rw [← symL_len hL]; exact List.length_pos_of_mem hx
  have hrp : 0 < rowT T l (0 - 0) := by rw [← rowL_len hL]; exact List.length_pos_of_mem hy
  have h1 := row_eps hL hy (fun b z hz hm hz2 => he b z ⟨0, Nat.le_refl _, hsp, hrp, .inr hz⟩ hm (by simp [hz2]))
  have h2 : numT x ≤ S := by
   obtain ⟨st, sn⟩ := s
   cases st with
   | true => simp [symL] at hx
   | false => exact he sn x ⟨0, Nat.le_refl _, hsp, hrp, .inl ⟨rfl, rfl, rfl⟩⟩ hx (by simp)
  have hnl : numL (x :: y) = numT x + numL y := rfl
  rw [hnl, List.length_cons, Nat.mul_succ]
  omega
theorem cap_arith {e S W : Nat} (h : 4 * S + 1 ≤ W) {numL len : Nat} (hl : len ≤ 4) (h1 : numL ≤ S * len) : 1 + numL ≤ W := by
 have : S * len ≤ S * 4 := Nat.mul_le_mul_left _ hl
 omega
/-- a bound for trees of k terminals, where so many nonterminals may still follow with as many terminals -/
def capS (k e : Nat) : Nat := if k = 0 then epsS e else 45000000 * k - 30000000 + 1500000 * e
theorem size_all {g : Gr} (V : VG g) {n : Nat} (x : Tr) : ∀ (a k : Nat) (X : List Nat), k ≤ n → ¬ LpC g n (a : Int) k → x ∈ lstT g (mostN g n) (a : Int) k → X.Nodup → (∀ b ∈ X, (b : Int) < g.ns ∧ EdP g (mostN g n) (b : Int) k (a : Int) k) → X.length ≤ 9 ∧ numT x ≤ capS k (10 - X.length) := by
 refine Tr.ind (p := fun x => ∀ (a k : Nat) (X : List Nat), k ≤ n → ¬ LpC g n (a : Int) k → x ∈ lstT g (mostN g n) (a : Int) k → X.Nodup → (∀ b ∈ X, (b : Int) < g.ns ∧ EdP g (mostN g n) (b : Int) k (a : Int) k) → X.length ≤ 9 ∧ numT x ≤ capS k (10 - X.length)) (fun x ih a k X hk hL hx hn hX => ?_) x
 have S := loop_ex g n
 have hns := V.ns
 have hpos : 0 < cntT g (mostN g n) (a : Int) k := by rw [← lstT_len g]; exact List.length_pos_of_mem hx
 have hin := cnt_in V hk hpos
 have hnot : a ∉ X := fun hm => hL (S.cyc _ _ hk (hX a hm).2)
 have hnd : (a :: X).Nodup := List.nodup_cons.2 ⟨hnot, hn⟩
 have hlen := nodup_bound g.ns.toNat (a :: X) hnd (fun y hy => by
  have h1 := hin.2.1
  rcases List.mem_cons.1 hy with e | e
  ·omega
  ·have := (hX y e).1
   omega)
 simp only [List.length_cons] at hlen
 have hx2 : x ∈ rulL (lstT g (mostN g n)) (a : Int) k 0 g.rs := (lstT_sub1 g (mostN g n) (a : Int) k).subset hx
 obtain ⟨i, hi⟩ := List.mem_iff_getElem?.1 hx2
 obtain ⟨p, y, ks, hp, hpl, hy, hie, hks, rfl⟩ := rulL_at (lstT_len g (mostN g n)) hi
 have hmem := List.getElem_mem hp
 have hr4 := V.right _ hmem
 have hksm := List.mem_of_getElem? hks
 have hnum : numT (⟨(p : Int), 0, ks⟩ : Tr) = 1 + numL ks := by rw [numT_eq]; rfl
 refine ⟨by omega, ?_⟩
 rw [hnum]
 have kid : ∀ (b : Int) j z, EdR (cntT g (mostN g n)) g.rs[p].r k b j → z ∈ lstT g (mostN g n) b j → z ∈ ks → numT z ≤ (if j = k then capS k (9 - X.length) else capS j 10) := by
  intro b j z he hz hzk
  have hed : Ed g (mostN g n) (a : Int) k b j := ⟨_, hmem, hpl, he⟩
  have hjk := hed.le
  have hzpos : 0 < cntT g (mostN g n) b j := by rw [← lstT_len g]; exact List.length_pos_of_mem hz
  have hbin := cnt_in V (show j ≤ n by omega) hzpos
  obtain ⟨b, rfl⟩ : ∃ b' : Nat, b = b' := ⟨b.toNat, by have := hbin.1; omega⟩
  have hLb : ¬ LpC g n (b : Int) j := fun q => hL (S.pre _ _ _ _ hk hed q)
  split
  ·rename_i e
   subst e
   have := (ih z hzk b j (a :: X) hk hLb hz hnd (fun c hc => by
    rcases List.mem_cons.1 hc with e | e
    ·subst e
     exact ⟨hin.2.1, .one hed⟩
    ·exact ⟨(hX c e).1, .step (hX c e).2 hed⟩)).2
   rw [List.length_cons, show 10 - (X.length + 1) = 9 - X.length by omega] at this
   exact this
  ·have := (ih z hzk b j [] (by omega) hLb hz List.nodup_nil (fun c hc => by simp at hc)).2
   simpa using this
 rcases Nat.eq_zero_or_pos k with e | e
 ·subst e
  have h1 := row_eps (lstT_len g (mostN g n)) hksm (S := epsS (9 - X.length)) (fun b z he hz hzk => by
   have := kid b 0 z he hz hzk
   rw [if_pos rfl] at this
   exact this)
  show 1 + numL ks ≤ epsS (10 - X.length)
  refine cap_arith (S := epsS (9 - X.length)) (e := 0) ?_ hr4 h1
  rw [show 10 - X.length = (9 - X.length) + 1 by omega, epsS]
  omega
 ·have hk0 : k ≠ 0 := by omega
  have hcapk : capS k (9 - X.length) = 45000000 * k - 30000000 + 1500000 * (9 - X.length) := if_neg hk0
  have hcapk2 : capS k (10 - X.length) = 45000000 * k - 30000000 + 1500000 * (10 - X.length) := if_neg hk0
  obtain ⟨c, h1, h2, h3⟩ := row_size (lstT_len g (mostN g n)) (F := capS k (9 - X.length)) (K := k) hksm (fun s hs ht j z hz => by
   have hz1 : numT z = 1 ∧ j = 1 := by
    unfold symL at hz
    rw [if_pos ht] at hz
    split at hz
    ·rename_i q
     simp only [List.mem_singleton] at hz
     subst hz
     exact ⟨by rw [numT_eq]; rfl, q⟩
    ·simp at hz
   refine ⟨fun q => by omega, fun q => by omega, fun q _ => ?_⟩
   rw [hcapk]
   omega) (fun b j z he hz hzk => by
   have hz1 := kid b j z he hz hzk
   refine ⟨fun q => ?_, fun q => ?_, fun q q2 => ?_⟩
   ·subst q
    rw [if_neg (by omega)] at hz1
    have : capS 0 10 = 349525 := epsS_ten
    omega
   ·by_cases q2 : j = k
    ·rw [if_pos q2, hcapk] at hz1
     omega
    ·have : capS j 10 = 45000000 * j - 30000000 + 1500000 * 10 := if_neg (by omega)
     rw [if_neg q2, this] at hz1
     omega
   ·rw [if_pos q] at hz1
    exact hz1)
  rw [hcapk2]
  rcases Nat.lt_or_ge c 2 with q | q
  ·rcases Nat.eq_zero_or_pos c with q2 | q2
   ·exact absurd (h2 q2).1 hk0
   ·have h4 := h3 (by omega) rfl
    rw [hcapk] at h4
    omega
  ·omega
theorem size_start {g : Gr} {n : Nat} (F : Fine g n) (hn : n ≤ 24) {x : Tr} (hx : x ∈ lstT g (mostN g n) g.st n) : numT x ≤ 20000000000 := by
 have hst := F.V.st
 obtain ⟨s, hs⟩ : ∃ s : Nat, g.st = s := ⟨g.st.toNat, by omega⟩
 have hL := InS.free F (Nat.le_refl n) (InS.self g g.st n)
 rw [hs] at hx hL
 obtain ⟨_, h⟩ := size_all F.V x s n [] (Nat.le_refl n) hL hx List.nodup_nil (fun b hb => by simp at hb)
 unfold capS at h
 simp only [List.length_nil, Nat.sub_zero] at h
 split at h
 ·have := epsS_ten
  omega
 ·omega
/- The text of parlance/parllaw5.RankTells as a statement; no condition. -/
def S20_1 : Stmt :=
 .block 0
 (.seq
 (.region
 [oq 51 (.mv (.tmp 14)),
 oq 52 (.ibin .neq (.tmp 51) (.const (.int .i64 0))),
 oq 50 (.mv (.tmp 52))]
 [1,2,3,9,10,11,12,13,14,50])
 (.cond (.tmp 50) .skip
 (.seq
 (.region
 [oq 54 (.mv (.tmp 13)),oq 55 (.fld 2 (.tmp 3)),
 oq 56 (.load false 1 (.tmp 55)),
 oq 57 (.idx 1 (.tmp 54) (.tmp 56)),
 oq 58 (.load false 1 (.tmp 57)),
 oq 59 (.mv (.tmp 1)),
 oq 60 (.idx 1 (.tmp 58) (.tmp 59)),
 oq 61 (.load false 1 (.tmp 60)),
 oq 62 (.ibin .lss (.tmp 61) (.const (.int .i64 0))),
 oq 53 (.mv (.tmp 62))]
 [1,2,3,9,10,11,12,13,14,53])
 (.cond (.tmp 53)
 (.region [oq 14 (.mv (.const (.int .i64 9)))]
 [1,2,3,9,10,11,12,13,14])
 (.seq
 (.region
 [oq 64 (.mv (.tmp 13)),oq 65 (.fld 2 (.tmp 3)),
 oq 66 (.load false 1 (.tmp 65)),
 oq 67 (.idx 1 (.tmp 64) (.tmp 66)),
 oq 68 (.load false 1 (.tmp 67)),
 oq 69 (.mv (.tmp 1)),
 oq 70 (.idx 1 (.tmp 68) (.tmp 69)),
 oq 71 (.load false 1 (.tmp 70)),
 .mk (some 72) none
 (.ibin .geq (.tmp 71) (.const (.int .i64 1000000000))),
 oq 63 (.mv (.tmp 72))]
 [1,2,3,9,10,11,12,13,14,63])
 (.cond (.tmp 63)
 (.region [oq 14 (.mv (.const (.int .i64 2)))]
 [1,2,3,9,10,11,12,13,14])
 .skip))))))
def S20_2 : Stmt :=
 .seq
 (.seq
 (.region
 [oq 73 (.mv (.tmp 14)),
 oq 74 (.ibin .neq (.tmp 73) (.const (.int .i64 0)))]
 [1,2,3,9,10,11,12,13,14,74])
 (.cond (.tmp 74)
 (.seq
 (.region
 [oq 75 (.mv (.tmp 10)),oq 76 (.mv (.tmp 14)),
 oq 77 (.ibin .eql (.tmp 75) (.tmp 76)),
 oq 78 (.mv (.tmp 77)),
 .mk (some 79) (some (78,true)) (.mv (.tmp 12)),
 .mk (some 80) (some (78,true)) (.mv (.tmp 14)),
 .mk (some 81) (some (78,true)) (.ibin .eql (.tmp 79) (.tmp 80)),
 oq 82 (.pick (.tmp 78) (.tmp 81) (.const (.bool false))),
 oq 83 (.mv (.tmp 82)),
 .mk (some 84) (some (83,true)) (.mv (.tmp 9)),
 .mk (some 85) (some (83,true))
 (.ibin .eql (.tmp 84) (.const (.int .i64 0))),
 oq 86 (.pick (.tmp 83) (.tmp 85) (.const (.bool false))),
 oq 87 (.mv (.tmp 86)),
 .mk (some 88) (some (87,true)) (.load true 3 (.tmp 11)),
 .mk (some 89) (some (87,true)) (.call (.func 67) [.tmp 88]),
 .mk (some 90) (some (87,true))
 (.ibin .eql (.tmp 89) (.const (.int .i64 1))),
 oq 91 (.pick (.tmp 87) (.tmp 90) (.const (.bool false))),
 oq 92 (.mv (.tmp 91)),
 .mk (some 93) (some (92,true)) (.fld 0 (.tmp 11)),
 .mk (some 94) (some (92,true)) (.load false 1 (.tmp 93)),
 .mk (some 95) (some (92,true))
 (.ibin .eql (.tmp 94) (.const (.int .i64 0))),
 oq 96 (.pick (.tmp 92) (.tmp 95) (.const (.bool false))),
 oq 6 (.mv (.tmp 96))]
 [6])
 .ret)
 .skip))
 (.seq
 (.seq
 (.region
 [oq 97 (.mv (.tmp 10)),
 oq 98 (.ibin .neq (.tmp 97) (.const (.int .i64 0))),
 oq 99 (.mv (.tmp 98)),
 .mk (some 100) (some (99,false)) (.mv (.tmp 9)),
 .mk (some 101) (some (99,false)) (.mv (.tmp 13)),
 .mk (some 102) (some (99,false)) (.fld 2 (.tmp 3)),
 .mk (some 103) (some (99,false)) (.load false 1 (.tmp 102)),
 .mk (some 104) (some (99,false)) (.idx 1 (.tmp 101) (.tmp 103)),
 .mk (some 105) (some (99,false)) (.load false 1 (.tmp 104)),
 .mk (some 106) (some (99,false)) (.mv (.tmp 1)),
 .mk (some 107) (some (99,false)) (.idx 1 (.tmp 105) (.tmp 106)),
 .mk (some 108) (some (99,false)) (.load false 1 (.tmp 107)),
 .mk (some 109) (some (99,false)) (.ibin .neq (.tmp 100) (.tmp 108)),
 oq 110 (.pick (.tmp 99) (.const (.bool true)) (.tmp 109))]
 [1,2,3,9,11,12,110])
 (.cond (.tmp 110)
 (.seq (.region [oq 6 (.mv (.const (.bool false)))] [6]) .ret)
 .skip))
 (.seq
 (.region
 [oq 112 (.load true 4 (.tmp 3)),oq 113 (.mv (.tmp 1)),
 .mk (some 114) none
 (.call (.func 102)
 [.tmp 112,.tmp 113,.const (.int .i64 300),
 .const (.int .i64 60)]),
 oq 111 (.mv (.tmp 114)),
 oq 115 (.extract 0 (.tmp 111)),
 oq 116 (.extract 1 (.tmp 111)),
 oq 15 (.mv (.tmp 115)),oq 16 (.mv (.tmp 116))]
 [1,2,3,9,11,12,15,16])
 (.seq
 (.seq
 (.region
 [oq 117 (.mv (.tmp 16)),
 oq 118 (.un .not (.tmp 117))]
 [1,2,3,9,11,12,15,118])
 (.cond (.tmp 118)
 (.seq (.region [oq 6 (.mv (.const (.bool true)))] [6]) .ret)
 .skip))
 (.seq
 (.seq
 (.region
 [oq 119 (.mv (.tmp 15)),
 oq 120 (.len false (.tmp 119)),
 oq 121 (.mv (.tmp 9)),
 oq 122 (.ibin .neq (.tmp 120) (.tmp 121))]
 [1,2,3,11,12,15,122])
 (.cond (.tmp 122)
 (.seq (.region [oq 6 (.mv (.const (.bool false)))] [6]) .ret)
 .skip))
 (.seq
 (.seq
 (.region
 [oq 123 (.mv (.tmp 2)),
 .mk (some 124) none
 (.ibin .lss (.tmp 123) (.const (.int .i64 0))),
 oq 125 (.mv (.tmp 124)),
 .mk (some 126) (some (125,false)) (.mv (.tmp 2)),
 .mk (some 127) (some (125,false)) (.mv (.tmp 15)),
 .mk (some 128) (some (125,false)) (.len false (.tmp 127)),
 .mk (some 129) (some (125,false)) (.ibin .geq (.tmp 126) (.tmp 128)),
 .mk (some 130) none
 (.pick (.tmp 125) (.const (.bool true)) (.tmp 129))]
 [1,2,3,11,12,15,130])
 (.cond (.tmp 130)
 (.seq
 (.region
 [oq 131 (.mv (.tmp 12)),
 .mk (some 132) none
 (.ibin .eql (.tmp 131) (.const (.int .i64 5))),
 oq 6 (.mv (.tmp 132))]
 [6])
 .ret)
 .skip))
 (.seq
 (.drawn
 [(false,oq 134 (.load true 4 (.tmp 3))),
 (false,oq 135 (.mv (.tmp 15))),
 (false,oq 136 (.mv (.tmp 2))),
 (false,oq 137 (.idx 3 (.tmp 135) (.tmp 136))),
 (false,oq 138 (.load true 3 (.tmp 137))),
 (false,oq 139 (.call (.func 99) [.tmp 134,.tmp 138])),
 (false,oq 133 (.mv (.tmp 139))),
 (false,oq 140 (.extract 0 (.tmp 133))),
 (false,oq 141 (.extract 1 (.tmp 133))),
 (false,oq 142 (.extract 2 (.tmp 133))),
 (false,oq 17 (.mv (.tmp 140))),
 (false,oq 18 (.mv (.tmp 141))),
 (false,oq 19 (.mv (.tmp 142)))]
 [1,2,11,12,15,17,18,19])
 (.seq
 (.seq
 (.region
 [oq 143 (.mv (.tmp 15)),
 oq 144 (.mv (.tmp 2)),
 oq 145 (.idx 3 (.tmp 143) (.tmp 144)),
 oq 146 (.load true 3 (.tmp 145)),
 oq 147 (.call (.func 67) [.tmp 146]),
 .mk (some 148) none
 (.ibin .gtr (.tmp 147) (.const (.int .i64 5000)))]
 [1,2,11,12,15,17,18,19,148])
 (.cond (.tmp 148)
 (.seq
 (.drawn
 [(false,oq 149 (.mv (.tmp 12))),
 (false,
 .mk (some 150) none
 (.ibin .eql (.tmp 149) (.const (.int .i64 0)))),
 (false,oq 151 (.mv (.tmp 150))),
 (false,.mk (some 152) (some (151,true)) (.load true 3 (.tmp 11))),
 (false,.mk (some 153) (some (151,true)) (.mv (.tmp 15))),
 (false,.mk (some 154) (some (151,true)) (.mv (.tmp 2))),
 (false,
 .mk (some 155) (some (151,true)) (.idx 3 (.tmp 153) (.tmp 154))),
 (false,.mk (some 156) (some (151,true)) (.load true 3 (.tmp 155))),
 (false,
 .mk (some 157) (some (151,true))
 (.call (.func 103) [.tmp 152,.tmp 156])),
 (false,
 .mk (some 158) (some (151,true))
 (.ibin .eql (.tmp 157) (.const (.int .i64 0)))),
 (false,
 .mk (some 159) none
 (.pick (.tmp 151) (.tmp 158) (.const (.bool false)))),
 (false,oq 160 (.mv (.tmp 159))),
 (false,.mk (some 161) (some (160,true)) (.mv (.tmp 17))),
 (false,
 .mk (some 162) (some (160,true))
 (.ibin .eql (.tmp 161) (.const (.int .i64 0)))),
 (false,
 .mk (some 163) none
 (.pick (.tmp 160) (.tmp 162) (.const (.bool false)))),
 (false,oq 164 (.mv (.tmp 163))),
 (false,.mk (some 165) (some (164,true)) (.mv (.tmp 18))),
 (false,
 .mk (some 166) (some (164,true))
 (.ibin .eql (.tmp 165) (.const (.int .i64 0)))),
 (false,
 .mk (some 167) none
 (.pick (.tmp 164) (.tmp 166) (.const (.bool false)))),
 (false,oq 168 (.mv (.tmp 167))),
 (false,.mk (some 169) (some (168,true)) (.mv (.tmp 19))),
 (false,
 .mk (some 170) (some (168,true))
 (.ibin .eql (.tmp 169) (.const (.int .i64 2)))),
 (false,
 .mk (some 171) none
 (.pick (.tmp 168) (.tmp 170) (.const (.bool false)))),
 (false,oq 6 (.mv (.tmp 171)))]
 [6])
 .ret)
 .skip))
 (.seq
 (.drawn
 [(false,oq 172 (.mv (.tmp 12))),
 (false,
 .mk (some 173) none
 (.ibin .eql (.tmp 172) (.const (.int .i64 0)))),
 (false,oq 174 (.mv (.tmp 173))),
 (false,.mk (some 175) (some (174,true)) (.load true 3 (.tmp 11))),
 (false,.mk (some 176) (some (174,true)) (.mv (.tmp 15))),
 (false,.mk (some 177) (some (174,true)) (.mv (.tmp 2))),
 (false,.mk (some 178) (some (174,true)) (.idx 3 (.tmp 176) (.tmp 177))),
 (false,.mk (some 179) (some (174,true)) (.load true 3 (.tmp 178))),
 (false,
 .mk (some 180) (some (174,true))
 (.call (.func 103) [.tmp 175,.tmp 179])),
 (false,
 .mk (some 181) (some (174,true))
 (.ibin .eql (.tmp 180) (.const (.int .i64 0)))),
 (false,
 .mk (some 182) none
 (.pick (.tmp 174) (.tmp 181) (.const (.bool false)))),
 (false,oq 183 (.mv (.tmp 182))),
 (false,.mk (some 184) (some (183,true)) (.mv (.tmp 17))),
 (false,.mk (some 185) (some (183,true)) (.mv (.tmp 1))),
 (false,
 .mk (some 186) (some (183,true))
 (.ibin .eql (.tmp 184) (.tmp 185))),
 (false,
 .mk (some 187) none
 (.pick (.tmp 183) (.tmp 186) (.const (.bool false)))),
 (false,oq 188 (.mv (.tmp 187))),
 (false,.mk (some 189) (some (188,true)) (.mv (.tmp 18))),
 (false,.mk (some 190) (some (188,true)) (.mv (.tmp 2))),
 (false,
 .mk (some 191) (some (188,true))
 (.ibin .eql (.tmp 189) (.tmp 190))),
 (false,
 .mk (some 192) none
 (.pick (.tmp 188) (.tmp 191) (.const (.bool false)))),
 (false,oq 193 (.mv (.tmp 192))),
 (false,.mk (some 194) (some (193,true)) (.mv (.tmp 19))),
 (false,
 .mk (some 195) (some (193,true))
 (.ibin .eql (.tmp 194) (.const (.int .i64 0)))),
 (false,
 .mk (some 196) none
 (.pick (.tmp 193) (.tmp 195) (.const (.bool false)))),
 (false,oq 6 (.mv (.tmp 196)))]
 [6])
 .ret))))))))
def S20_0 : Stmt :=
 .seq
 (.region
 [oq 3 (.box true 57 (.tmp 0)),
 oq 6 (.mv (.const (.bool false)))]
 [1,2,3])
 (.seq
 (.seq
 (.region
 [oq 21 (.call (.func 40) []),
 .mk (some 22) none
 (.call (.func 98) [.tmp 21,.const (.int .i64 4)]),
 oq 20 (.mv (.tmp 22)),oq 23 (.extract 0 (.tmp 20)),
 oq 24 (.extract 1 (.tmp 20)),oq 7 (.mv (.tmp 23)),
 oq 8 (.mv (.tmp 24))]
 [1,2,3,7,8])
 (.seq
 (.region
 [oq 25 (.mv (.tmp 7)),
 oq 26 (.ibin .neq (.tmp 25) (.const (.int .i64 1))),
 oq 27 (.mv (.tmp 26)),
 .mk (some 28) (some (27,false)) (.mv (.tmp 8)),
 .mk (some 29) (some (27,false))
 (.ibin .neq (.tmp 28) (.const (.int .i64 0))),
 oq 30 (.pick (.tmp 27) (.const (.bool true)) (.tmp 29))]
 [1,2,3,30])
 (.cond (.tmp 30)
 (.seq (.region [oq 6 (.mv (.const (.bool false)))] [6]) .ret)
 .skip)))
 (.seq
 (.region
 [oq 32 (.load true 4 (.tmp 3)),oq 33 (.mv (.tmp 1)),
 oq 34 (.call (.func 98) [.tmp 32,.tmp 33]),
 oq 31 (.mv (.tmp 34)),oq 35 (.extract 0 (.tmp 31)),
 oq 36 (.extract 1 (.tmp 31)),oq 9 (.mv (.tmp 35)),
 oq 10 (.mv (.tmp 36))]
 [1,2,3,9,10])
 (.seq
 (.region
 [oq 38 (.load true 4 (.tmp 3)),oq 39 (.mv (.tmp 1)),
 oq 40 (.mv (.tmp 2)),
 oq 41 (.call (.func 104) [.tmp 38,.tmp 39,.tmp 40]),
 oq 37 (.mv (.tmp 41)),oq 42 (.extract 0 (.tmp 37)),
 oq 43 (.extract 1 (.tmp 37)),
 .mk (some 11) none
 (.alloc true 106
 (.agg (Array.mk [.int .i64 0,.int .i64 0,.slice none 0 0]))),
 .mk none none (.store 3 (.tmp 11) (.tmp 42)),
 oq 12 (.mv (.tmp 43))]
 [1,2,3,9,10,11,12])
 (.seq
 (.region
 [oq 45 (.load true 4 (.tmp 3)),
 oq 46 (.mv (.tmp 1)),
 oq 47 (.call (.func 80) [.tmp 45,.tmp 46]),
 oq 44 (.mv (.tmp 47)),
 oq 48 (.extract 0 (.tmp 44)),
 oq 49 (.extract 1 (.tmp 44)),
 oq 13 (.mv (.tmp 48)),oq 14 (.mv (.tmp 49))]
 [1,2,3,9,10,11,12,13,14])
 (.join S20_1 S20_2 [14] [1,2,3,9,10,11,12,13])))))
def S20 : FnS := ⟨197,[(6,none)],S20_0⟩
theorem tr20 : trFn Try.prog 20 [3,11] [[1,2,3],[1,2,3,7,8],[1,2,3,30],[6],[1,2,3,9,10],[1,2,3,9,10,11,12],[1,2,3,9,10,11,12,13,14],[14],[1,2,3,9,10,11,12,13],[1,2,3,9,10,11,12,13,14,50],[1,2,3,9,10,11,12,13,14,53],[1,2,3,9,10,11,12,13,14],[1,2,3,9,10,11,12,13,14,63],[1,2,3,9,10,11,12,13,14],[1,2,3,9,10,11,12,13,14,74],[6],[1,2,3,9,11,12,110],[6],[1,2,3,9,11,12,15,16],[1,2,3,9,11,12,15,118],[6],[1,2,3,11,12,15,122],[6],[1,2,3,11,12,15,130],[6],[1,2,11,12,15,17,18,19],[0,1,2,3,4,5,6,7,8,9,10,11,12],[],[],[],[],[1,2],[1,2,3],[0,1,2,3,4],[0,1,2,3,4,5],[0,1,2,3,4,5,6],[0,1,2,3,4,5,6],[0,1,2,3,4,5,6],[0,1,2,3,4,5,6,7],[0,1,2,3,4,5,6,7,8,10],[0,1,2,3,4,5,6,7,8,9,10,11],[1,2,11,12,15,17,18,19,148],[6],[0,1,2,3,4,5,6,7,8,9,10,11,12,13,14,15,16,17,18,19,20,21,22,23],[],[],[0],[0,1],[0,1,2],[0,1,2],[0,1,2],[0,1,2,4,5],[0,1,2,4,5,6],[0,1,2,3,4,5,6,7],[0,1,2,3,4,5,6,7,8],[0,1,2,3,4,5,6,7,8,9],[0,1,2,3,4,5,6,7,8,9,10],[0,1,2,3,4,5,6,7,8,9,10,11],[0,1,2,3,4,5,6,7,8,9,10,11,12],[0,1,2,3,4,5,6,7,8,9,10,11,12,13],[0,1,2,3,4,5,6,7,8,9,10,11,12,13,14],[0,1,2,3,4,5,6,7,8,9,10,11,12,13,14,15],[0,1,2,3,4,5,6,7,8,9,10,11,12,13,14,15,16],[0,1,2,3,4,5,6,7,8,9,10,11,12,13,14,15,16,17],[0,1,2,3,4,5,6,7,8,9,10,11,12,13,14,15,16,17,18],[0,1,2,3,4,5,6,7,8,9,10,11,12,13,14,15,16,17,18,19],[0,1,2,3,4,5,6,7,8,9,10,11,12,13,14,15,16,17,18,19,20],[0,1,2,3,4,5,6,7,8,9,10,11,12,13,14,15,16,17,18,19,20,21],[0,1,2,3,4,5,6,7,8,9,10,11,12,13,14,15,16,17,18,19,20,21,22],[6],[0,1,2,3,4,5,6,7,8,9,10,11,12,13,14,15,16,17,18,19,20,21,22,23,24,25],[],[],[0],[0,1],[0,1,2],[0,1,2],[0,1,2],[0,1,2,4,5],[0,1,2,4,5,6],[0,1,2,3,4,5,6,7],[0,1,2,3,4,5,6,7,8],[0,1,2,3,4,5,6,7,8,9],[0,1,2,3,4,5,6,7,8,9,10],[0,1,2,3,4,5,6,7,8,9,10,11],[0,1,2,3,4,5,6,7,8,9,10,11],[0,1,2,3,4,5,6,7,8,9,10,11,12,13],[0,1,2,3,4,5,6,7,8,9,10,11,12,13,14],[0,1,2,3,4,5,6,7,8,9,10,11,12,13,14,15],[0,1,2,3,4,5,6,7,8,9,10,11,12,13,14,15,16],[0,1,2,3,4,5,6,7,8,9,10,11,12,13,14,15,16],[0,1,2,3,4,5,6,7,8,9,10,11,12,13,14,15,16,17,18],[0,1,2,3,4,5,6,7,8,9,10,11,12,13,14,15,16,17,18,19],[0,1,2,3,4,5,6,7,8,9,10,11,12,13,14,15,16,17,18,19,20],[0,1,2,3,4,5,6,7,8,9,10,11,12,13,14,15,16,17,18,19,20,21],[0,1,2,3,4,5,6,7,8,9,10,11,12,13,14,15,16,17,18,19,20,21,22],[0,1,2,3,4,5,6,7,8,9,10,11,12,13,14,15,16,17,18,19,20,21,22,23],[0,1,2,3,4,5,6,7,8,9,10,11,12,13,14,15,16,17,18,19,20,21,22,23,24]] = some S20 := by kernel_rfl
/- The law of parllaw5.RankTells; no condition. -/
theorem plain_count : opE plainG 4 = 0 ∧ cntT plainG (mostN plainG 4) plainG.st 4 = 1 := by decide +kernel
theorem law_rankTells {Γr : Ctx} {g : Gr} {cs : List Value} (hg : Rep.ok (lk Γr) g cs) {n i : Int} (hn : -9223372036854775808 ≤ n ∧ n ≤ 9223372036854775807) (hi : -9223372036854775808 ≤ i ∧ i ≤ 9223372036854775807) :
  Ret Try.prog 20 [.agg cs.toArray, .int .i64 n, .int .i64 i] Γr [] (fun v Γ => Γ = [] ∧ v = .bool true) := by
 obtain ⟨R, cR, rfl, hx⟩ := ok_gr hg
 generalize hR : (fun (v : Value) (Γ : Ctx) => Γ = [] ∧ v = Value.bool true) = R'
 refine ret_of_vc tr20 (Nat.le_of_ble_eq_true rfl) ?_
 simp -implicitDefEqProofs only [S20, S20_0, go_sem,zA,zB,zC,zD,zE,reduceCtorEq,↓reduceIte,zF,zG,zH,zI]
 intro bg
 refine CallVC.read (plain_ (Γr := [] ++ Γr)) ?_
 rintro v Γ' ⟨gp, Ap, cp, rfl, hp, rfl⟩
 simp -implicitDefEqProofs only [go_sem,zA,zB,zC,zD,zE,reduceCtorEq,↓reduceIte,zF,zG,zH,zI]
 refine CallVC.read (Γ := [gp]) (rank_count (g := plainG) (Γr := [gp] ++ Γr) (n := 4) (hp.mono (lk_l [gp] Γr)) (by omega)) ?_
 rintro v Γ' ⟨rfl, ⟨hne, _⟩ | ⟨_, m, hm, _, F, rfl⟩⟩
 ·exact absurd plain_count.1 hne
 obtain rfl : m = 4 := by omega
 clear F
 rw [plain_count.2]
 simp -implicitDefEqProofs only [go_sem,zA,zB,zC,zD,zE,reduceCtorEq,↓reduceIte,zF,zG,zH,zI]
 refine CallVC.read (Γ := [gp]) (rank_count (Γr := [gp] ++ Γr) (hx.mono (lk_r [gp] Γr)) hn) ?_
 rintro v Γ' ⟨rfl, hcnt⟩
 have htree := rank_tree (Γr := [gp] ++ Γr) (i := i) (hx.mono (lk_r [gp] Γr)) hn
 by_cases hc : cenE g n = 0
 ·have hck : ckF g = 0 := by
   unfold cenE at hc
   split at hc
   ·rename_i h; exact absurd hc h
   ·rename_i h; exact Classical.not_not.1 h
  have V := ckF_ok hck
  have hst := V.st
  have hns := V.ns
  obtain ⟨s, hs⟩ : ∃ s : Nat, g.st = s := ⟨g.st.toNat, by omega⟩
  have hs' : g.st.toNat = s := by omega
  have hnl : 0 ≤ n ∧ n ≤ 24 := by
   unfold cenE at hc
   rw [if_neg (by omega)] at hc
   split at hc
   ·cases hc
   ·omega
  obtain ⟨m, rfl⟩ : ∃ m : Nat, n = m := ⟨n.toNat, by omega⟩
  have hcl : (cenRows g m g.ns.toNat).length = g.ns.toNat := by simp [cenRows]
  have hrow : (cenRows g m g.ns.toNat)[s]'(by omega) = cenRow g m s (m + 1) := by simp [cenRows]
  have hl5 : (cenRow g m s (m + 1)).length = m + 1 := by simp [cenRow]
  have hcell : (cenRow g m s (m + 1))[m]'(by omega) = cenF g m s m := by simp [cenRow]
  have hoe : opE g m = if cenF g m s m = -1 then 9 else if cenF g m s m = 1000000000 then 2 else 0 := by
   unfold opE
   rw [if_neg (by omega), hs', Int.toNat_natCast]
  have hy := cenF_okI g m s m
  have htop : cenF g m s m ≠ -1 → cenF g m s m ≠ 1000000000 → cenF g m s m = (cntT g (mostN g m) g.st m : Nat) := fun h1 h2 => (fine_of V hs h1 h2).2
  generalize cenF g m s m = y at *
  rcases hcnt with ⟨hne, rfl⟩ | ⟨h0, m', hmm, hm, F, rfl⟩
  ·simp -implicitDefEqProofs only [go_sem,zA,zB,zC,zD,zE,reduceCtorEq,↓reduceIte,zF,zG,zH,zI]
   refine CallVC.read (Γ := [gp]) htree ?_
   rintro v Γ' (⟨_, rfl, rfl⟩ | ⟨h0, _⟩)
   ·simp -implicitDefEqProofs only [go_sem,zA,zB,zC,zD,zE,reduceCtorEq,↓reduceIte,zF,zG,zH,zI]
    intro bt
    refine CallVC.read (Γ := [gp]) (ref_census (Γr := [gp] ++ Γr) (hx.mono (lk_r [gp] Γr)) hn) ?_
    rintro v Γ' (⟨h, _⟩ | ⟨_, go, A, c, rfl, rfl, hS⟩)
    ·exact absurd hc h
    ·rw [Int.toNat_natCast] at hS
     obtain ⟨b1, o1, h1, A5, c5, hr5, hc5⟩ := hS.list (i := s) (by omega)
     rw [hrow] at hr5 hc5
     obtain ⟨b2, o2, h2, hc2⟩ := hr5.int (i := m) (by omega)
     rw [hcell] at hc2
     simp -implicitDefEqProofs only [decide_true, go_sem,zA,zB,zC,zD,zE,reduceCtorEq,↓reduceIte,zF,zG,zH,zI]
     refine s_split ?_
     simp -implicitDefEqProofs only [S20_1, decide_true, go_sem,zA,zB,zC,zD,zE,reduceCtorEq,↓reduceIte,zF,zG,zH,zI]
     rw [hs]
     refine s_idx h1 (by omega) (by omega) ?_
     simp -implicitDefEqProofs only [go_sem,zA,zB,zC,zD,zE,reduceCtorEq,↓reduceIte,zF,zG,zH,zI]
     refine s_ld0 (hc5 _ (lk_l [go] ([gp] ++ Γr))) (by simp) (by simp) ?_
     simp -implicitDefEqProofs only [go_sem,zA,zB,zC,zD,zE,reduceCtorEq,↓reduceIte,zF,zG,zH,zI]
     refine s_idx h2 (by omega) (by omega) ?_
     simp -implicitDefEqProofs only [go_sem,zA,zB,zC,zD,zE,reduceCtorEq,↓reduceIte,zF,zG,zH,zI]
     refine s_ld0 (by simpa using hc2 _ (lk_l [go] ([gp] ++ Γr))) (by simp) (by simp) ?_
     simp -implicitDefEqProofs only [decide_true, go_sem,zA,zB,zC,zD,zE,reduceCtorEq,↓reduceIte,zF,zG,zH,zI]
     refine ⟨fun hlt => Up.here ?_, fun hge => ?_⟩
     ·obtain rfl : y = -1 := by omega
      have h9 : opE g m = 9 := by rw [hoe]; rfl
      rw [h9]
      simp -implicitDefEqProofs only [S20_2, decide_true, go_sem,zA,zB,zC,zD,zE,reduceCtorEq,↓reduceIte,zF,zG,zH,zI]
      refine CallVC.read (Γ := [go, gp]) (tree_sizeB ⟨0, 0, []⟩ SlOk.nil (by decide)) ?_
      rintro v Γ' ⟨rfl, rfl⟩
      rw [show szT ⟨0, 0, []⟩ = 1 from rfl]
      simp -implicitDefEqProofs only [decide_true, go_sem,zA,zB,zC,zD,zE,reduceCtorEq,↓reduceIte,zF,zG,zH,zI]
      refine Up.to [] (Ent.nil _) ?_
      subst hR
      exact ⟨rfl, rfl⟩
     ·refine s_idx h1 (by omega) (by omega) ?_
      simp -implicitDefEqProofs only [go_sem,zA,zB,zC,zD,zE,reduceCtorEq,↓reduceIte,zF,zG,zH,zI]
      refine s_ld0 (hc5 _ (lk_l [go] ([gp] ++ Γr))) (by simp) (by simp) ?_
      simp -implicitDefEqProofs only [go_sem,zA,zB,zC,zD,zE,reduceCtorEq,↓reduceIte,zF,zG,zH,zI]
      refine s_idx h2 (by omega) (by omega) ?_
      simp -implicitDefEqProofs only [go_sem,zA,zB,zC,zD,zE,reduceCtorEq,↓reduceIte,zF,zG,zH,zI]
      refine s_ld0 (by simpa using hc2 _ (lk_l [go] ([gp] ++ Γr))) (by simp) (by simp) ?_
      simp -implicitDefEqProofs only [decide_true, go_sem,zA,zB,zC,zD,zE,reduceCtorEq,↓reduceIte,zF,zG,zH,zI]
      have hbig : y = 1000000000 := by
       rw [if_neg (by omega)] at hoe
       by_cases e : y = 1000000000
       ·exact e
       ·rw [if_neg e] at hoe
        exact absurd hoe hne
      subst hbig
      refine ⟨fun _ => Up.here ?_, fun h => absurd (Int.le_refl _) h⟩
      have h9 : opE g m = 2 := by rw [hoe]; rfl
      rw [h9]
      simp -implicitDefEqProofs only [S20_2, decide_true, go_sem,zA,zB,zC,zD,zE,reduceCtorEq,↓reduceIte,zF,zG,zH,zI]
      refine CallVC.read (Γ := [go, gp]) (tree_sizeB ⟨0, 0, []⟩ SlOk.nil (by decide)) ?_
      rintro v Γ' ⟨rfl, rfl⟩
      rw [show szT ⟨0, 0, []⟩ = 1 from rfl]
      simp -implicitDefEqProofs only [decide_true, go_sem,zA,zB,zC,zD,zE,reduceCtorEq,↓reduceIte,zF,zG,zH,zI]
      refine Up.to [] (Ent.nil _) ?_
      subst hR
      exact ⟨rfl, rfl⟩
   ·exact absurd h0 hne
  ·obtain rfl : m' = m := by omega
   simp -implicitDefEqProofs only [go_sem,zA,zB,zC,zD,zE,reduceCtorEq,↓reduceIte,zF,zG,zH,zI]
   refine CallVC.read (Γ := [gp]) htree ?_
   rintro v Γ' (⟨hne, _⟩ | ⟨_, m2, hm2, _, _, htr⟩)
   ·exact absurd h0 hne
   obtain rfl : m2 = m' := by omega
   have hy1 : y ≠ -1 := by
    rintro rfl
    rw [if_pos rfl] at hoe
    omega
   have hy2 : y ≠ 1000000000 := by
    rintro rfl
    rw [if_neg (by omega), if_pos rfl] at hoe
    omega
   obtain rfl := htop hy1 hy2
   rcases htr with ⟨hout, rfl, rfl⟩ | ⟨k, x, gk, A1, c1, rfl, hxk, rfl, rfl, hS1⟩
   ·simp -implicitDefEqProofs only [go_sem,zA,zB,zC,zD,zE,reduceCtorEq,↓reduceIte,zF,zG,zH,zI]
    intro bt
    refine CallVC.read (Γ := [gp]) (ref_census (Γr := [gp] ++ Γr) (hx.mono (lk_r [gp] Γr)) hn) ?_
    rintro v Γ' (⟨h, _⟩ | ⟨_, go, A, c, rfl, rfl, hS⟩)
    ·exact absurd hc h
    rw [Int.toNat_natCast] at hS
    obtain ⟨b1, o1, h1, A5, c5, hr5, hc5⟩ := hS.list (i := s) (by omega)
    rw [hrow] at hr5 hc5
    obtain ⟨b2, o2, h2, hc2⟩ := hr5.int (i := m2) (by omega)
    rw [hcell] at hc2
    simp -implicitDefEqProofs only [decide_true, go_sem,zA,zB,zC,zD,zE,reduceCtorEq,↓reduceIte,zF,zG,zH,zI]
    refine s_split ?_
    simp -implicitDefEqProofs only [S20_1, decide_true, go_sem,zA,zB,zC,zD,zE,reduceCtorEq,↓reduceIte,zF,zG,zH,zI]
    rw [hs]
    refine s_idx h1 (by omega) (by omega) ?_
    simp -implicitDefEqProofs only [go_sem,zA,zB,zC,zD,zE,reduceCtorEq,↓reduceIte,zF,zG,zH,zI]
    refine s_ld0 (hc5 _ (lk_l [go] ([gp] ++ Γr))) (by simp) (by simp) ?_
    simp -implicitDefEqProofs only [go_sem,zA,zB,zC,zD,zE,reduceCtorEq,↓reduceIte,zF,zG,zH,zI]
    refine s_idx h2 (by omega) (by omega) ?_
    simp -implicitDefEqProofs only [go_sem,zA,zB,zC,zD,zE,reduceCtorEq,↓reduceIte,zF,zG,zH,zI]
    refine s_ld0 (by simpa using hc2 _ (lk_l [go] ([gp] ++ Γr))) (by simp) (by simp) ?_
    simp -implicitDefEqProofs only [decide_true, go_sem,zA,zB,zC,zD,zE,reduceCtorEq,↓reduceIte,zF,zG,zH,zI]
    refine ⟨fun h => absurd h (by omega), fun _ => ?_⟩
    refine s_idx h1 (by omega) (by omega) ?_
    simp -implicitDefEqProofs only [go_sem,zA,zB,zC,zD,zE,reduceCtorEq,↓reduceIte,zF,zG,zH,zI]
    refine s_ld0 (hc5 _ (lk_l [go] ([gp] ++ Γr))) (by simp) (by simp) ?_
    simp -implicitDefEqProofs only [go_sem,zA,zB,zC,zD,zE,reduceCtorEq,↓reduceIte,zF,zG,zH,zI]
    refine s_idx h2 (by omega) (by omega) ?_
    simp -implicitDefEqProofs only [go_sem,zA,zB,zC,zD,zE,reduceCtorEq,↓reduceIte,zF,zG,zH,zI]
    refine s_ld0 (by simpa using hc2 _ (lk_l [go] ([gp] ++ Γr))) (by simp) (by simp) ?_
    simp -implicitDefEqProofs only [decide_true, go_sem,zA,zB,zC,zD,zE,reduceCtorEq,↓reduceIte,zF,zG,zH,zI]
    refine ⟨fun h => absurd h (by omega), fun _ => Up.here ?_⟩
    simp -implicitDefEqProofs only [S20_2, decide_true, go_sem,zA,zB,zC,zD,zE,reduceCtorEq,↓reduceIte,zF,zG,zH,zI]
    refine s_idx h1 (by omega) (by omega) ?_
    simp -implicitDefEqProofs only [go_sem,zA,zB,zC,zD,zE,reduceCtorEq,↓reduceIte,zF,zG,zH,zI]
    refine s_ld0 (hc5 _ (lk_l [go] ([gp] ++ Γr))) (by simp) (by simp) ?_
    simp -implicitDefEqProofs only [go_sem,zA,zB,zC,zD,zE,reduceCtorEq,↓reduceIte,zF,zG,zH,zI]
    refine s_idx h2 (by omega) (by omega) ?_
    simp -implicitDefEqProofs only [go_sem,zA,zB,zC,zD,zE,reduceCtorEq,↓reduceIte,zF,zG,zH,zI]
    refine s_ld0 (by simpa using hc2 _ (lk_l [go] ([gp] ++ Γr))) (by simp) (by simp) ?_
    simp -implicitDefEqProofs only [decide_true, go_sem,zA,zB,zC,zD,zE,reduceCtorEq,↓reduceIte,zF,zG,zH,zI]
    rw [← hs]
    refine ⟨fun h => absurd rfl h, fun _ => ?_⟩
    refine CallVC.read (Γ := [go, gp]) (ref_listed (Γr := [go, gp] ++ Γr) (hx.mono (lk_r [go, gp] Γr)) F.V (n := m2) (most := 300) (deep := 60) (by omega) (by omega) (by omega)) ?_
    rintro v Γ' (⟨rfl, rfl⟩ | ⟨gl, Al, cl, out, rfl, rfl, hSl, hol, hout2⟩)
    ·simp -implicitDefEqProofs only [decide_true, go_sem,zA,zB,zC,zD,zE,reduceCtorEq,↓reduceIte,zF,zG,zH,zI]
     refine Up.to [] (Ent.nil _) ?_
     subst hR
     exact ⟨rfl, rfl⟩
    have hfin := (InS.self g g.st m2).fin F (Nat.le_refl m2)
    have hlx : lstT g (mostN g m2) g.st m2 = out := by
     have h1 := hout2 (max 60 (mostN g m2)) (by omega)
     have h2 := lstT_eq (g := g) (h := mostN g m2) (h' := max 60 (mostN g m2)) (a := g.st) (k := m2) (by omega) (hfin _ (by omega)).symm
     exact h2.trans h1
    have hlen : out.length = cntT g (mostN g m2) g.st m2 := by rw [← hlx, lstT_len]
    simp -implicitDefEqProofs only [decide_true, go_sem,zA,zB,zC,zD,zE,reduceCtorEq,↓reduceIte,zF,zG,zH,zI]
    refine ⟨fun h => absurd (by rw [hlen]) h, fun _ => ⟨fun _ => Up.to [] (Ent.nil _) ?_, fun h => by exfalso; rw [hlen] at h; omega⟩⟩
    subst hR
    exact ⟨rfl, rfl⟩
   ·simp -implicitDefEqProofs only [go_sem,zA,zB,zC,zD,zE,reduceCtorEq,↓reduceIte,zF,zG,zH,zI]
    intro bt
    refine CallVC.read (Γ := [gk, gp]) (ref_census (Γr := [gk, gp] ++ Γr) (hx.mono (lk_r [gk, gp] Γr)) hn) ?_
    rintro v Γ' (⟨h, _⟩ | ⟨_, go, A, c, rfl, rfl, hS⟩)
    ·exact absurd hc h
    rw [Int.toNat_natCast] at hS
    obtain ⟨b1, o1, h1, A5, c5, hr5, hc5⟩ := hS.list (i := s) (by omega)
    rw [hrow] at hr5 hc5
    obtain ⟨b2, o2, h2, hc2⟩ := hr5.int (i := m2) (by omega)
    rw [hcell] at hc2
    simp -implicitDefEqProofs only [decide_true, go_sem,zA,zB,zC,zD,zE,reduceCtorEq,↓reduceIte,zF,zG,zH,zI]
    refine s_split ?_
    simp -implicitDefEqProofs only [S20_1, decide_true, go_sem,zA,zB,zC,zD,zE,reduceCtorEq,↓reduceIte,zF,zG,zH,zI]
    rw [hs]
    refine s_idx h1 (by omega) (by omega) ?_
    simp -implicitDefEqProofs only [go_sem,zA,zB,zC,zD,zE,reduceCtorEq,↓reduceIte,zF,zG,zH,zI]
    refine s_ld0 (hc5 _ (lk_l [go] ([gk, gp] ++ Γr))) (by simp) (by simp) ?_
    simp -implicitDefEqProofs only [go_sem,zA,zB,zC,zD,zE,reduceCtorEq,↓reduceIte,zF,zG,zH,zI]
    refine s_idx h2 (by omega) (by omega) ?_
    simp -implicitDefEqProofs only [go_sem,zA,zB,zC,zD,zE,reduceCtorEq,↓reduceIte,zF,zG,zH,zI]
    refine s_ld0 (by simpa using hc2 _ (lk_l [go] ([gk, gp] ++ Γr))) (by simp) (by simp) ?_
    simp -implicitDefEqProofs only [decide_true, go_sem,zA,zB,zC,zD,zE,reduceCtorEq,↓reduceIte,zF,zG,zH,zI]
    refine ⟨fun h => absurd h (by omega), fun _ => ?_⟩
    refine s_idx h1 (by omega) (by omega) ?_
    simp -implicitDefEqProofs only [go_sem,zA,zB,zC,zD,zE,reduceCtorEq,↓reduceIte,zF,zG,zH,zI]
    refine s_ld0 (hc5 _ (lk_l [go] ([gk, gp] ++ Γr))) (by simp) (by simp) ?_
    simp -implicitDefEqProofs only [go_sem,zA,zB,zC,zD,zE,reduceCtorEq,↓reduceIte,zF,zG,zH,zI]
    refine s_idx h2 (by omega) (by omega) ?_
    simp -implicitDefEqProofs only [go_sem,zA,zB,zC,zD,zE,reduceCtorEq,↓reduceIte,zF,zG,zH,zI]
    refine s_ld0 (by simpa using hc2 _ (lk_l [go] ([gk, gp] ++ Γr))) (by simp) (by simp) ?_
    simp -implicitDefEqProofs only [decide_true, go_sem,zA,zB,zC,zD,zE,reduceCtorEq,↓reduceIte,zF,zG,zH,zI]
    refine ⟨fun h => absurd h (by omega), fun _ => Up.here ?_⟩
    simp -implicitDefEqProofs only [S20_2, decide_true, go_sem,zA,zB,zC,zD,zE,reduceCtorEq,↓reduceIte,zF,zG,zH,zI]
    refine s_idx h1 (by omega) (by omega) ?_
    simp -implicitDefEqProofs only [go_sem,zA,zB,zC,zD,zE,reduceCtorEq,↓reduceIte,zF,zG,zH,zI]
    refine s_ld0 (hc5 _ (lk_l [go] ([gk, gp] ++ Γr))) (by simp) (by simp) ?_
    simp -implicitDefEqProofs only [go_sem,zA,zB,zC,zD,zE,reduceCtorEq,↓reduceIte,zF,zG,zH,zI]
    refine s_idx h2 (by omega) (by omega) ?_
    simp -implicitDefEqProofs only [go_sem,zA,zB,zC,zD,zE,reduceCtorEq,↓reduceIte,zF,zG,zH,zI]
    refine s_ld0 (by simpa using hc2 _ (lk_l [go] ([gk, gp] ++ Γr))) (by simp) (by simp) ?_
    simp -implicitDefEqProofs only [decide_true, go_sem,zA,zB,zC,zD,zE,reduceCtorEq,↓reduceIte,zF,zG,zH,zI]
    rw [← hs]
    refine ⟨fun h => absurd rfl h, fun _ => ?_⟩
    refine CallVC.read (Γ := [go, gk, gp]) (ref_listed (Γr := [go, gk, gp] ++ Γr) (hx.mono (lk_r [go, gk, gp] Γr)) F.V (n := m2) (most := 300) (deep := 60) (by omega) (by omega) (by omega)) ?_
    rintro v Γ' (⟨rfl, rfl⟩ | ⟨gl, Al, cl, out, rfl, rfl, hSl, hol, hout2⟩)
    ·simp -implicitDefEqProofs only [decide_true, go_sem,zA,zB,zC,zD,zE,reduceCtorEq,↓reduceIte,zF,zG,zH,zI]
     refine Up.to [] (Ent.nil _) ?_
     subst hR
     exact ⟨rfl, rfl⟩
    have hfin := (InS.self g g.st m2).fin F (Nat.le_refl m2)
    have hlx : lstT g (mostN g m2) g.st m2 = out := by
     have h1 := hout2 (max 60 (mostN g m2)) (by omega)
     have h2 := lstT_eq (g := g) (h := mostN g m2) (h' := max 60 (mostN g m2)) (a := g.st) (k := m2) (by omega) (hfin _ (by omega)).symm
     exact h2.trans h1
    have hlen : out.length = cntT g (mostN g m2) g.st m2 := by rw [← hlx, lstT_len]
    simp -implicitDefEqProofs only [decide_true, go_sem,zA,zB,zC,zD,zE,reduceCtorEq,↓reduceIte,zF,zG,zH,zI]
    have hmem := List.mem_of_getElem? hxk
    have hnx := size_start F hm hmem
    have hsm := lst_few F hmem
    have hxk0 := hxk
    rw [hlx] at hxk
    obtain ⟨hkl, hke⟩ := List.getElem?_eq_some_iff.1 hxk
    refine ⟨fun h => absurd (by rw [hlen]) h, fun _ => ⟨fun h => by exfalso; omega, fun _ => ?_⟩⟩
    obtain ⟨b5, o5, h5, A5', c5', hs5, hc5'⟩ := hSl.tr hkl
    rw [hke] at hs5 hc5'
    refine s_idx h5 (by omega) (by omega) ?_
    simp -implicitDefEqProofs only [go_sem,zA,zB,zC,zD,zE,reduceCtorEq,↓reduceIte,zF,zG,zH,zI]
    refine s_ld0 (by simpa using hc5' _ (lk_l [gl] ([go, gk, gp] ++ Γr))) (by simp) (by simp) ?_
    simp -implicitDefEqProofs only [go_sem,zA,zB,zC,zD,zE,reduceCtorEq,↓reduceIte,zF,zG,zH,zI]
    have hgx : SlOk (lk ([gl, go, gk, gp] ++ Γr)) R cR g.rs := hx.mono (lk_r [gl, go, gk, gp] Γr)
    have hs6 : SlOk (lk ([gl, go, gk, gp] ++ Γr)) A5' c5' x.kids := hs5.mono (lk_sub fun g hg => by simp at hg; subst hg; simp)
    have hS6 : SlOk (lk ([gl, go, gk, gp] ++ Γr)) A1 c1 x.kids := hS1.mono (lk_sub fun g hg => by simp at hg; subst hg; simp)
    refine CallVC.read (rank_ofB hgx x hs6 hnx hsm) ?_
    rintro v Γ' ⟨rfl, hof⟩
    have hszm := szT_le x
    rcases of_lst F h0 hxk0 hof with ⟨hbig, rfl⟩ | ⟨hsml, rfl⟩
    ·simp -implicitDefEqProofs only [go_sem,zA,zB,zC,zD,zE,reduceCtorEq,↓reduceIte,zF,zG,zH,zI]
     refine s_idx h5 (by omega) (by omega) ?_
     simp -implicitDefEqProofs only [go_sem,zA,zB,zC,zD,zE,reduceCtorEq,↓reduceIte,zF,zG,zH,zI]
     refine s_ld0 (by simpa using hc5' _ (lk_l [gl] ([go, gk, gp] ++ Γr))) (by simp) (by simp) ?_
     simp -implicitDefEqProofs only [go_sem,zA,zB,zC,zD,zE,reduceCtorEq,↓reduceIte,zF,zG,zH,zI]
     refine CallVC.read (tree_sizeB x hs6 hnx) ?_
     rintro v Γ' ⟨rfl, rfl⟩
     simp -implicitDefEqProofs only [decide_true, go_sem,zA,zB,zC,zD,zE,reduceCtorEq,↓reduceIte,zF,zG,zH,zI]
     refine ⟨fun _ => ?_, fun h => absurd hbig (by omega)⟩
     refine s_idx h5 (by omega) (by omega) ?_
     simp -implicitDefEqProofs only [go_sem,zA,zB,zC,zD,zE,reduceCtorEq,↓reduceIte,zF,zG,zH,zI]
     refine s_ld0 (by simpa using hc5' _ (lk_l [gl] ([go, gk, gp] ++ Γr))) (by simp) (by simp) ?_
     simp -implicitDefEqProofs only [go_sem,zA,zB,zC,zD,zE,reduceCtorEq,↓reduceIte,zF,zG,zH,zI]
     refine CallVC.read (tree_compare x hS6 hs6 hnx) ?_
     rintro v Γ' ⟨rfl, rfl⟩
     simp -implicitDefEqProofs only [decide_true, go_sem,zA,zB,zC,zD,zE,reduceCtorEq,↓reduceIte,zF,zG,zH,zI]
     refine Up.to [] (Ent.nil _) ?_
     subst hR
     exact ⟨rfl, rfl⟩
    ·simp -implicitDefEqProofs only [go_sem,zA,zB,zC,zD,zE,reduceCtorEq,↓reduceIte,zF,zG,zH,zI]
     refine s_idx h5 (by omega) (by omega) ?_
     simp -implicitDefEqProofs only [go_sem,zA,zB,zC,zD,zE,reduceCtorEq,↓reduceIte,zF,zG,zH,zI]
     refine s_ld0 (by simpa using hc5' _ (lk_l [gl] ([go, gk, gp] ++ Γr))) (by simp) (by simp) ?_
     simp -implicitDefEqProofs only [go_sem,zA,zB,zC,zD,zE,reduceCtorEq,↓reduceIte,zF,zG,zH,zI]
     refine CallVC.read (tree_sizeB x hs6 hnx) ?_
     rintro v Γ' ⟨rfl, rfl⟩
     simp -implicitDefEqProofs only [decide_true, go_sem,zA,zB,zC,zD,zE,reduceCtorEq,↓reduceIte,zF,zG,zH,zI]
     refine ⟨fun h => absurd h (by omega), fun _ => ?_⟩
     refine s_idx h5 (by omega) (by omega) ?_
     simp -implicitDefEqProofs only [go_sem,zA,zB,zC,zD,zE,reduceCtorEq,↓reduceIte,zF,zG,zH,zI]
     refine s_ld0 (by simpa using hc5' _ (lk_l [gl] ([go, gk, gp] ++ Γr))) (by simp) (by simp) ?_
     simp -implicitDefEqProofs only [go_sem,zA,zB,zC,zD,zE,reduceCtorEq,↓reduceIte,zF,zG,zH,zI]
     refine CallVC.read (tree_compare x hS6 hs6 hnx) ?_
     rintro v Γ' ⟨rfl, rfl⟩
     simp -implicitDefEqProofs only [decide_true, go_sem,zA,zB,zC,zD,zE,reduceCtorEq,↓reduceIte,zF,zG,zH,zI]
     refine Up.to [] (Ent.nil _) ?_
     subst hR
     exact ⟨rfl, rfl⟩
 ·have ho : opE g n = cenE g n := if_pos hc
  have hne : opE g n ≠ 0 := by omega
  rcases hcnt with ⟨_, rfl⟩ | ⟨h0, _⟩
  ·simp -implicitDefEqProofs only [go_sem,zA,zB,zC,zD,zE,reduceCtorEq,↓reduceIte,zF,zG,zH,zI]
   refine CallVC.read (Γ := [gp]) htree ?_
   rintro v Γ' (⟨_, rfl, rfl⟩ | ⟨h0, _⟩)
   ·simp -implicitDefEqProofs only [go_sem,zA,zB,zC,zD,zE,reduceCtorEq,↓reduceIte,zF,zG,zH,zI]
    intro bt
    refine CallVC.read (Γ := [gp]) (ref_census (Γr := [gp] ++ Γr) (hx.mono (lk_r [gp] Γr)) hn) ?_
    rintro v Γ' (⟨_, rfl, rfl⟩ | ⟨h0, _⟩)
    ·rw [ho]
     simp -implicitDefEqProofs only [decide_true, go_sem,zA,zB,zC,zD,zE,reduceCtorEq,↓reduceIte,zF,zG,zH,zI]
     refine s_split ?_
     simp -implicitDefEqProofs only [S20_1, decide_true, go_sem,zA,zB,zC,zD,zE,reduceCtorEq,↓reduceIte,zF,zG,zH,zI]
     refine ⟨fun _ => Up.here ?_, fun h => absurd h hc⟩
     simp -implicitDefEqProofs only [S20_2, decide_true, go_sem,zA,zB,zC,zD,zE,reduceCtorEq,↓reduceIte,zF,zG,zH,zI]
     refine ⟨fun _ => ?_, fun h => absurd h hc⟩
     refine CallVC.read (Γ := [gp]) (tree_sizeB ⟨0, 0, []⟩ SlOk.nil (by decide)) ?_
     rintro v Γ' ⟨rfl, rfl⟩
     rw [show szT ⟨0, 0, []⟩ = 1 from rfl]
     simp -implicitDefEqProofs only [decide_true, go_sem,zA,zB,zC,zD,zE,reduceCtorEq,↓reduceIte,zF,zG,zH,zI]
     refine Up.to [] (Ent.nil _) ?_
     subst hR
     exact ⟨rfl, rfl⟩
    ·exact absurd h0 hc
   ·exact absurd h0 hne
  ·exact absurd h0 hne
end Go.Proofs.Ytniobbepliknmaa.V
