/- Texts put together, in the order in which they build; each says what it proves; no condition. -/
import Derived.Test.YtiipiapfnedfjaaM4
import Derived.Test.YtiipiapfnedfjaaM1
import Derived.Test.YtiipiapfnedfjaaProg
import Derived.Test.YtiipiapfnedfjaaM3
import Derived.Test.YtiipiapfnedfjaaM2
namespace Go.Proofs.Ytiipiapfnedfjaa.V
open Go
set_option linter.unusedVariables false
set_option linter.unusedSimpArgs false
open Nat renaming reduceBEq → zA, reduceAdd → zB, reduceSub → zC, reduceMul → zD, reduceLeDiff → zE
open Int renaming reduceLT → zF, reduceLE → zG, reduceEq → zH, reduceNe → zI
/- The word of a rule: meet's word walked; no condition. -/
attribute [local go_sem] e_seq e_region e_quiet e_join e_loop e_cond e_block e_exit e_ret e_skip e_fin e_kseq e_snrm e_sret e_sex e_bnrm e_bret e_bex e_rnrm e_rret e_res e_condC e_nil e_g e_mv g_mv e_pick g_pick pickC_eq e_ibin g_ibin ibinC_eq e_sbin g_sbin e_beq g_beq beqC_eq e_nilq g_nilq nilqC_sl nilqC_pt nilqC_mp e_un g_un unC_not unC_neg e_conv g_conv convC_eq e_fld g_fld fldC_ref fldC_ptr e_nilCheck g_nilCheck nilCheckC_ref nilCheckC_ptr nilCheckC_fun e_field g_field fieldC_eq e_len g_len lenC_sl lenC_str e_extract g_extract extractC_eq e_mkFunc e_build g_build e_idiv g_idiv idivC_eq e_ishift g_ishift ishiftC_eq e_idx g_idx e_idxA g_idxA e_load g_load e_loadB g_loadB atB_ref atB_v g_mkFunc loadC_ref loadC_ptr loadB_eq e_slc g_slc e_box boxC_loc boxC_esc e_alloc allocC_loc allocC_esc e_buildS e_store storeC_ref storeC_ptr storeB_eq e_append e_appz e_mk mkC_eq e_call callC_eq e_fn g_fn fnC_eq fnV_min' fnV_max' fnV_rune' e_q g_q e_a e_n g_call g_box g_alloc g_buildS g_store g_append g_mk g_a g_n g_dead e_dead e_callK e_drawn e_tree e_finJ e_tk e_tfin e_tno e_nbt_q e_nbt_qn e_nbt_a e_nbt_an e_nbt_fin e_drawnB e_bxb_nil e_bxb e_stB_none e_stB_some boxSt_store bs_mv bs_pick bs_ibin bs_idiv bs_ishift bs_sbin bs_beq bs_nilq bs_un bs_conv bs_box bs_alloc bs_build bs_buildS bs_load bs_fld bs_nilCheck bs_idx bs_idxA bs_field bs_slc bs_len bs_append bs_appz bs_mk bs_call bs_extract bs_mkFunc bs_fn bs_q bs_a bs_n bs_loadB bs_dead isBox_box e_early_nil e_early_t e_early_f e_nob_nil e_nob_none e_nob_some isBox_dead isBox_v isBox_ref e_dnil e_dk e_ek e_finB vcOps_vc1 e_dcons e_tq e_ekt e_tearly e_talt e_dearly look_nil look_c proj_nil proj_c looks_nil looks_c zip_nil zip_c val_tmp val_const val_func slv_v slv_box slv_ref slot_tmp slot_const slot_func slotL_v slotL_box slotL_ref put_some put_none updBox_c boxSet_box gd_eq slotVals_nil slotVals_c slotVals_b boxV_box boxOn_box slotsOn_nil slotsOn_c slotsOn_b resV_one resV_two vals_nil vals_c allOn_nil allOn_c partOn_nil partOn_c partVals_nil partVals_c fits_nil fits_c fillL_nil fillL_c mkv_one mkv_agg cellsV_agg cellsV_int cellsV_bool cellsV_slice cellsV_string cellsV_pointer cellsV_func cellsV_nilf cellsV_map one'_nil one'_c oc_int oc_bool oc_slice oc_string oc_pointer oc_func oc_nilf oc_map setC_eq iv_add iv_sub iv_mul iv_eql iv_neq iv_lss iv_leq iv_gtr iv_geq iok_add iok_sub iok_mul iok_eql iok_neq iok_lss iok_leq iok_gtr iok_geq pickV_bool args0_nil args0_c bnd_none bnd_some imp_bt imp_bf imp_ebt imp_ebf imp_eb1 imp_np imp_pp beq_tt beq_tf beq_ft beq_ff cond_or cond_and e_round e_meet Int.le_refl Int.toNat_zero decide_true decide_false Bool.or_false Bool.false_or Bool.true_or Bool.or_true Bool.and_false Bool.false_and Bool.bne_false Bool.bne_true beq_iff_eq Int.cast_ofNat_Int not_false_eq_true not_true_eq_false false_and and_false false_implies true_implies true_and and_true Bool.true_and Bool.and_true Bool.not_true Bool.not_false forall_const implies_true List.take_zero List.drop_zero List.take_succ_cons List.drop_succ_cons List.take_nil List.drop_nil List.length_cons List.length_nil List.nil_append List.append_nil List.cons_append Int.toNat_natCast decide_eq_true_eq decide_eq_false_iff_not cond_true cond_false and_self List.getElem?_cons_zero List.getElem?_cons_succ List.set_cons_zero List.set_cons_succ Option.some.injEq exists_eq_left' Nat.zero_add Nat.add_zero Nat.mul_one imp_self true_or or_true or_false false_or Bool.or_eq_true Bool.or_eq_false_iff Bool.and_eq_true Bool.and_eq_false_iff Bool.not_eq_true' Bool.not_eq_false'

/-- what word answers -/
def WordR (L : List Int) (W : List (List Int)) (D : List Bool) (r : Ru) (v : Value) (Γ : Ctx) : Prop :=
 (∃ w gw A c, wcat W D r.r = some w ∧ (w.length : Int) = L.getD r.l.toNat 0 ∧ w.length ≤ 2000 ∧ Γ = [gw] ∧ v = .tuple #[.slice A w.length c, .bool true] ∧ SlOk (lk [gw]) A c w) ∨
 (∃ A n c, v = .tuple #[.slice A n c, .bool false] ∧ ∀ w, wcat W D r.r = some w → (w.length : Int) = L.getD r.l.toNat 0 → w.length ≤ 2000 → False)
theorem meet_word {Γr : Ctx} {g : Gr} {N : Nat} {r : Ru} {A AW AD AL : Option Addr} {c cW cD cL : Nat} {L : List Int} {W : List (List Int)} {D : List Bool} (G : WG g N) (hr : r ∈ g.rs) (hA : SlOk (lk Γr) A c r.r) (hW : SlOk (lk Γr) AW cW W) (hD : SlOk (lk Γr) AD cD D) (hL : SlOk (lk Γr) AL cL L)
  (hWl : W.length = N) (hDl : D.length = N) (hLl : L.length = N) (hw : ∀ a, (W.getD a []).length ≤ 2000) (hLb : ∀ a, L.getD a 0 ≤ 2001) :
  Ret Try.prog 170 [.agg #[.int .i64 r.l, .slice A r.r.length c], .slice AW N cW, .slice AD N cD, .slice AL N cL] Γr [] (fun v Γ => WordR L W D r v Γ) := by
 generalize hR : (fun (v : Value) (Γ : Ctx) => WordR L W D r v Γ) = R
 refine ret_of_vc tr170 (Nat.le_of_ble_eq_true rfl) ?_
 have hN := G.n
 have hleft := G.left r hr
 have hr4 := G.right r hr
 have hsym := G.sym r hr
 obtain ⟨a, ha⟩ : ∃ a : Nat, r.l = a := ⟨r.l.toNat, by omega⟩
 have haL : a < L.length := by omega
 have hga : L.getD r.l.toNat 0 = L[a] := by rw [ha, Int.toNat_natCast]; simp [List.getD_eq_getElem?_getD, haL]
 have hLa := hLb r.l.toNat
 obtain ⟨bL, oL, hAL, hcL⟩ := hL.int haL
 rw [hga] at hLa
 simp -implicitDefEqProofs only [S170, S170_0, go_sem,zA,zB,zC,zD,zE,reduceCtorEq,↓reduceIte,zF,zG,zH,zI]
 intro b0
 refine s_loop (fun f vs Γ => ∃ (go : PH) (v : Value) (k : Nat) (u : List Int), vs = [.v true v, .v true (.int .i64 k)] ∧ Γ = [go] ∧ k + f = r.r.length ∧ Bld go (lk []) 3 v u ∧ wcat W D (r.r.take k) = some u ∧ u.length ≤ 2001) r.r.length
  (Up.emp (Up.here ⟨emp, _, 0, [], rfl, rfl, by omega, Bld.nil _ _ _, rfl, by simp⟩)) ?_
 rintro f vs Γ ⟨go, v, k, u, rfl, rfl, hkf, hBo, hu, hul⟩
 obtain ⟨Ao, co, rfl⟩ := hBo.val
 simp -implicitDefEqProofs only [S170_5, go_sem,zA,zB,zC,zD,zE,reduceCtorEq,↓reduceIte,zF,zG,zH,zI]
 refine ⟨fun hlt => ?_, fun hge => ?_⟩
 ·have hk : k < r.r.length := by omega
  obtain ⟨b4, o4, hA4, hc4⟩ := hA.sy hk
  have htk := List.take_succ_eq_append_getElem hk
  have hdr : r.r = r.r.take k ++ r.r[k] :: r.r.drop (k + 1) := by rw [List.getElem_cons_drop, List.take_append_drop]
  have hs := hsym _ (List.getElem_mem hk)
  generalize r.r[k] = s at *
  refine s_split ?_
  simp -implicitDefEqProofs only [S170_3, S170_4, go_sem,zA,zB,zC,zD,zE,reduceCtorEq,↓reduceIte,zF,zG,zH,zI]
  refine s_idx hA4 (by omega) (by omega) ?_
  simp -implicitDefEqProofs only [go_sem,zA,zB,zC,zD,zE,reduceCtorEq,↓reduceIte,zF,zG,zH,zI]
  refine s_ld0 (hc4 _ (lk_r _ _)) (by simp) (by simp) ?_
  simp -implicitDefEqProofs only [go_sem,zA,zB,zC,zD,zE,reduceCtorEq,↓reduceIte,zF,zG,zH,zI]
  intro b5
  have hnext : ∀ x, wcat W D [s] = some x → wcat W D (r.r.take (k + 1)) = some (u ++ x) := fun x hx => by rw [htk]; exact wcat_app.2 ⟨u, x, hu, hx, rfl⟩
  have hlong : ∀ x, wcat W D [s] = some x → L[a] < ((u ++ x).length : Int) → ∀ w, wcat W D r.r = some w → (w.length : Int) = L.getD r.l.toNat 0 → w.length ≤ 2000 → False := fun x hx hbig w hw hwl _ => by
   rw [← List.take_append_drop (k + 1) r.r] at hw
   obtain ⟨u', v', h1, h2, rfl⟩ := wcat_app.1 hw
   rw [hnext x hx] at h1
   cases h1
   rw [hga] at hwl
   simp only [List.length_append] at hwl hbig
   omega
  refine s_split ?_
  simp -implicitDefEqProofs only [S170_1, S170_2, go_sem,zA,zB,zC,zD,zE,reduceCtorEq,↓reduceIte,zF,zG,zH,zI]
  refine ⟨fun hst => ?_, fun hst => ?_⟩
  ·have hone : wcat W D [s] = some [s.n] := by rw [wcat_one, if_pos hst]
   intro b6
   refine s_app1S (ix := 1) s.n rfl hBo cells_one rfl (by omega) (by unfold maxLen; omega) ?_
   intro v1 go' hB1 _
   obtain ⟨A1, c1, rfl⟩ := hB1.val
   simp -implicitDefEqProofs only [go_sem,zA,zB,zC,zD,zE,reduceCtorEq,↓reduceIte,zF,zG,zH,zI]
   refine Up.here ?_
   rw [ha]
   refine s_idx hAL (by omega) (by omega) ?_
   simp -implicitDefEqProofs only [go_sem,zA,zB,zC,zD,zE,reduceCtorEq,↓reduceIte,zF,zG,zH,zI]
   refine s_ld0 (hcL _ (lk_r _ _)) (by simp) (by simp) ?_
   simp -implicitDefEqProofs only [go_sem,zA,zB,zC,zD,zE,reduceCtorEq,↓reduceIte,zF,zG,zH,zI]
   refine ⟨fun hbig => ?_, fun hsm => ?_⟩
   ·refine Up.to [] (Ent.nil _) ?_
    subst hR
    exact .inr ⟨none, 0, 0, rfl, hlong _ hone (by simpa using hbig)⟩
   ·simp (disch := omega) only [wrap_id]
    exact Up.here ⟨f - 1, by omega, Up.skip (Up.here ⟨go', _, k + 1, _, rfl, rfl, by omega, hB1, hnext _ hone, by simp at hsm ⊢; omega⟩)⟩
  ·obtain ⟨x, hx⟩ : ∃ x : Nat, s.n = x := ⟨s.n.toNat, by omega⟩
   have hsx := hs.2.2 hst
   have hxD : x < D.length := by omega
   have hxW : x < W.length := by omega
   obtain ⟨bD, oD, hAD, hcD⟩ := hD.bool hxD
   have hgD : D.getD s.n.toNat false = D[x] := by rw [hx, Int.toNat_natCast]; simp [List.getD_eq_getElem?_getD, hxD]
   have hgW : W.getD s.n.toNat [] = W[x] := by rw [hx, Int.toNat_natCast]; simp [List.getD_eq_getElem?_getD, hxW]
   have hone : wcat W D [s] = if D[x] = true then some W[x] else none := by rw [wcat_one, if_neg (by simp [hst]), hgD, hgW]
   rw [hx]
   refine s_idx hAD (by omega) (by omega) ?_
   simp -implicitDefEqProofs only [go_sem,zA,zB,zC,zD,zE,reduceCtorEq,↓reduceIte,zF,zG,zH,zI]
   refine s_ld0 (hcD _ (lk_r _ _)) (by simp) (by simp) ?_
   simp -implicitDefEqProofs only [go_sem,zA,zB,zC,zD,zE,reduceCtorEq,↓reduceIte,zF,zG,zH,zI]
   refine ⟨fun hd => ?_, fun hd => ?_⟩
   ·refine Up.to [] (Ent.nil _) ?_
    subst hR
    refine .inr ⟨none, 0, 0, rfl, fun w hw _ _ => ?_⟩
    rw [hdr] at hw
    obtain ⟨u', v', h1, h2, rfl⟩ := wcat_app.1 hw
    obtain ⟨u2, v2, h3, h4, rfl⟩ := wcat_app (l := [s]).1 h2
    rw [hone, if_neg (by simp [hd])] at h3
    cases h3
   rw [if_pos hd] at hone
   obtain ⟨bW, oW, hAW, A6, c6, hs6, hc6⟩ := hW.list hxW
   have hwx := hw x
   rw [show W.getD x [] = W[x] by simp [List.getD_eq_getElem?_getD, hxW]] at hwx
   refine s_idx hAW (by omega) (by omega) ?_
   simp -implicitDefEqProofs only [go_sem,zA,zB,zC,zD,zE,reduceCtorEq,↓reduceIte,zF,zG,zH,zI]
   refine s_ld0 (hc6 _ (lk_r _ _)) (by simp) (by simp) ?_
   simp -implicitDefEqProofs only [go_sem,zA,zB,zC,zD,zE,reduceCtorEq,↓reduceIte,zF,zG,zH,zI]
   refine s_appS (ix := 0) rfl hBo hs6 rfl (lk_r _ _) rfl (by omega) (by unfold maxLen; omega) ?_
   intro v1 go' hB1 _
   obtain ⟨A1, c1, rfl⟩ := hB1.val
   simp -implicitDefEqProofs only [go_sem,zA,zB,zC,zD,zE,reduceCtorEq,↓reduceIte,zF,zG,zH,zI]
   refine Up.here ?_
   rw [ha]
   refine s_idx hAL (by omega) (by omega) ?_
   simp -implicitDefEqProofs only [go_sem,zA,zB,zC,zD,zE,reduceCtorEq,↓reduceIte,zF,zG,zH,zI]
   refine s_ld0 (hcL _ (lk_r _ _)) (by simp) (by simp) ?_
   simp -implicitDefEqProofs only [go_sem,zA,zB,zC,zD,zE,reduceCtorEq,↓reduceIte,zF,zG,zH,zI]
   refine ⟨fun hbig => ?_, fun hsm => ?_⟩
   ·refine Up.to [] (Ent.nil _) ?_
    subst hR
    exact .inr ⟨none, 0, 0, rfl, hlong _ hone (by simpa using hbig)⟩
   ·simp (disch := omega) only [wrap_id]
    exact Up.here ⟨f - 1, by omega, Up.here ⟨go', _, k + 1, _, rfl, rfl, by omega, hB1, hnext _ hone, by simp at hsm ⊢; omega⟩⟩
 ·have hk : k = r.r.length := by omega
  rw [hk, List.take_length] at hu
  rw [ha]
  refine s_idx hAL (by omega) (by omega) ?_
  simp -implicitDefEqProofs only [go_sem,zA,zB,zC,zD,zE,reduceCtorEq,↓reduceIte,zF,zG,zH,zI]
  refine s_ld0 (hcL _ (lk_r _ _)) (by simp) (by simp) ?_
  simp -implicitDefEqProofs only [go_sem,zA,zB,zC,zD,zE,reduceCtorEq,↓reduceIte,zF,zG,zH,zI]
  refine Up.here ?_
  obtain ⟨_, _, e1, hso⟩ := hBo.slok (L' := lk [go]) (Mem.le.refl _) (lk_sub (by simp)) (by omega)
  simp only [Value.slice.injEq, true_and] at e1
  obtain ⟨rfl, rfl⟩ := e1
  subst hR
  by_cases hq : (u.length : Int) = L[a] ∧ u.length ≤ 2000
  ·refine .inl ⟨u, go, _, _, hu, by rw [hga]; exact hq.1, hq.2, rfl, ?_, hso⟩
   rw [decide_eq_true hq.1, decide_eq_true (show (u.length : Int) ≤ 2000 by omega)]
   rfl
  ·refine .inr ⟨Ao, u.length, co, ?_, fun w hw h1 h2 => ?_⟩
   ·by_cases h1 : (u.length : Int) = L[a]
    ·rw [decide_eq_false (show ¬ (u.length : Int) ≤ 2000 from fun h => hq ⟨h1, by omega⟩), Bool.and_false]
    ·rw [decide_eq_false h1, Bool.false_and]
   ·rw [hu] at hw
    cases hw
    rw [hga] at h1
    exact hq ⟨h1, h2⟩
/- The text of parlance/meet.Least as a statement; no condition. -/
def S74_1 : Stmt :=
 .block 3
 (.seq
 (.region
 [oq 45 (.idx 2 (.tmp 41) (.tmp 43)),
 oq 46 (.load true 2 (.tmp 45)),
 .mk (some 9) none
 (.alloc true 129 (.agg (Array.mk [.int .i64 0,.slice none 0 0]))),
 .mk none none (.store 2 (.tmp 9) (.tmp 46))]
 [1,4,5,6,7,9,41,42,43])
 (.seq
 (.region
 [oq 48 (.load true 2 (.tmp 9)),oq 49 (.mv (.tmp 5)),
 oq 50 (.mv (.tmp 6)),oq 51 (.mv (.tmp 4)),
 .mk (some 52) none
 (.call (.func 170) [.tmp 48,.tmp 49,.tmp 50,.tmp 51]),
 oq 47 (.mv (.tmp 52)),oq 53 (.extract 0 (.tmp 47)),
 oq 54 (.extract 1 (.tmp 47)),oq 10 (.mv (.tmp 53)),
 oq 11 (.mv (.tmp 54))]
 [1,4,5,6,7,9,10,11,41,42,43])
 (.seq
 (.region
 [oq 55 (.mv (.tmp 11)),oq 56 (.mv (.tmp 55)),
 .mk (some 57) (some (56,true)) (.mv (.tmp 6)),
 .mk (some 58) (some (56,true)) (.fld 0 (.tmp 9)),
 .mk (some 59) (some (56,true)) (.load false 1 (.tmp 58)),
 .mk (some 60) (some (56,true)) (.idx 1 (.tmp 57) (.tmp 59)),
 .mk (some 61) (some (56,true)) (.load false 1 (.tmp 60)),
 .mk (some 62) (some (56,true)) (.un .not (.tmp 61)),
 .mk (some 63) (some (56,true)) (.mv (.tmp 62)),
 .mk (some 64) (some (63,false)) (.mv (.tmp 10)),
 .mk (some 65) (some (63,false)) (.mv (.tmp 5)),
 .mk (some 66) (some (63,false)) (.fld 0 (.tmp 9)),
 .mk (some 67) (some (63,false)) (.load false 1 (.tmp 66)),
 .mk (some 68) (some (63,false)) (.idx 1 (.tmp 65) (.tmp 67)),
 .mk (some 69) (some (63,false)) (.load false 1 (.tmp 68)),
 .mk (some 70) (some (63,false)) (.call (.func 104) [.tmp 64,.tmp 69]),
 .mk (some 71) (some (63,false))
 (.ibin .lss (.tmp 70) (.const (.int .i64 0))),
 .mk (some 72) (some (56,true))
 (.pick (.tmp 63) (.const (.bool true)) (.tmp 71)),
 oq 73 (.pick (.tmp 56) (.tmp 72) (.const (.bool false)))]
 [1,4,5,6,7,9,10,41,42,43,73])
 (.cond (.tmp 73)
 (.tree
 (.q (false,oq 74 (.mv (.tmp 5)))
 (.q (false,oq 75 (.fld 0 (.tmp 9)))
 (.q (false,oq 77 (.mv (.tmp 6)))
 (.q (false,oq 78 (.fld 0 (.tmp 9)))
 (.q (false,oq 80 (.mv (.tmp 10)))
 (.q (false,oq 76 (.load false 1 (.tmp 75)))
 (.q (false,oq 81 (.idx 1 (.tmp 74) (.tmp 76)))
 (.alt (false,oq 79 (.load false 1 (.tmp 78)))
 (.alt (false,.mk none none (.store 1 (.tmp 81) (.tmp 80)))
 (.q (false,oq 82 (.idx 1 (.tmp 77) (.tmp 79)))
 (.alt
 (false,
 .mk none none (.store 1 (.tmp 82) (.const (.bool true))))
 (.q (false,oq 7 (.mv (.const (.bool true))))
 .fin)
 .no))
 .no)
 (.alt (false,.mk none none (.store 1 (.tmp 81) (.tmp 80)))
 (.alt (false,oq 79 (.load false 1 (.tmp 78)))
 (.q (false,oq 82 (.idx 1 (.tmp 77) (.tmp 79)))
 (.alt
 (false,
 .mk none none
 (.store 1 (.tmp 82) (.const (.bool true))))
 (.q (false,oq 7 (.mv (.const (.bool true))))
 .fin)
 .no))
 .no)
 .no)))))))))
 [1,4,5,6,7,41,42,43])
 .skip))))
def S74_2 : Stmt :=
 .region
 [oq 83 (.ibin .add (.tmp 43) (.const (.int .i64 1))),
 oq 43 (.mv (.tmp 83))]
 [1,4,5,6,7,41,42,43]
def S74_3 : Stmt :=
 .seq
 (.region [oq 44 (.ibin .lss (.tmp 43) (.tmp 42))]
 [1,4,5,6,7,41,42,43,44])
 (.seq (.cond (.tmp 44) .skip (.exit 2)) (.join S74_1 S74_2 [7] [1,4,5,6,41,42,43]))
def S74_4 : Stmt :=
 .seq
 (.seq (.region [oq 38 (.mv (.tmp 7))] [1,4,5,6,38])
 (.cond (.tmp 38) .skip (.exit 0)))
 (.block 1
 (.seq (.region [oq 7 (.mv (.const (.bool false)))] [1,4,5,6,7])
 (.seq
 (.region
 [oq 39 (.fld 0 (.tmp 1)),oq 40 (.fld 3 (.tmp 39)),
 oq 41 (.load false 1 (.tmp 40)),
 oq 42 (.len false (.tmp 41)),
 oq 43 (.mv (.const (.int .i64 0)))]
 [1,4,5,6,7,41,42,43])
 (.block 2 (.loop S74_3 [7,43] [1,4,5,6,41,42])))))
def S74_0 : Stmt :=
 .seq
 (.region
 [oq 1 (.box true 118 (.tmp 0)),
 oq 2 (.mv (.const (.slice none 0 0))),
 oq 3 (.mv (.const (.int .i64 0)))]
 [1])
 (.seq
 (.seq
 (.region
 [oq 12 (.fld 0 (.tmp 1)),
 oq 13 (.load true 4 (.tmp 12)),
 oq 14 (.call (.func 168) [.tmp 13]),
 oq 15 (.un .not (.tmp 14))]
 [1,15])
 (.cond (.tmp 15)
 (.seq
 (.region
 [oq 2 (.mv (.const (.slice none 0 0))),
 oq 3 (.mv (.const (.int .i64 3)))]
 [2,3])
 .ret)
 .skip))
 (.seq
 (.region
 [oq 16 (.fld 0 (.tmp 1)),
 oq 17 (.load true 4 (.tmp 16)),
 oq 18 (.call (.func 169) [.tmp 17]),
 oq 4 (.mv (.tmp 18))]
 [1,4])
 (.seq
 (.seq
 (.region
 [oq 19 (.mv (.tmp 4)),oq 20 (.len false (.tmp 19)),
 oq 21 (.ibin .eql (.tmp 20) (.const (.int .i64 0))),
 oq 22 (.mv (.tmp 21)),
 .mk (some 23) (some (22,false)) (.mv (.tmp 4)),
 .mk (some 24) (some (22,false))
 (.idx 1 (.tmp 23) (.const (.int .i64 0))),
 .mk (some 25) (some (22,false)) (.load false 1 (.tmp 24)),
 .mk (some 26) (some (22,false))
 (.ibin .lss (.tmp 25) (.const (.int .i64 0))),
 oq 27 (.pick (.tmp 22) (.const (.bool true)) (.tmp 26))]
 [1,4,27])
 (.cond (.tmp 27)
 (.seq
 (.region
 [oq 2 (.mv (.const (.slice none 0 0))),
 oq 3 (.mv (.const (.int .i64 5)))]
 [2,3])
 .ret)
 .skip))
 (.seq
 (.seq
 (.region
 [oq 28 (.mv (.tmp 4)),
 oq 29 (.idx 1 (.tmp 28) (.const (.int .i64 0))),
 oq 30 (.load false 1 (.tmp 29)),
 .mk (some 31) none
 (.ibin .gtr (.tmp 30) (.const (.int .i64 2000)))]
 [1,4,31])
 (.cond (.tmp 31)
 (.seq
 (.region
 [oq 2 (.mv (.const (.slice none 0 0))),
 oq 3 (.mv (.const (.int .i64 2)))]
 [2,3])
 .ret)
 .skip))
 (.seq
 (.region
 [oq 32 (.mv (.tmp 4)),
 oq 33 (.len false (.tmp 32)),
 oq 34 (.mk 25 1 24 (.slice none 0 0) (.tmp 33) (.tmp 33)),
 oq 5 (.mv (.tmp 34))]
 [1,4,5])
 (.seq
 (.region
 [oq 35 (.mv (.tmp 4)),
 oq 36 (.len false (.tmp 35)),
 oq 37 (.mk 4 1 1 (.bool false) (.tmp 36) (.tmp 36)),
 oq 6 (.mv (.tmp 37))]
 [1,4,5,6])
 (.seq
 (.seq
 (.region [oq 7 (.mv (.const (.bool true)))] [1,4,5,6,7])
 (.block 0 (.loop S74_4 [7] [1,4,5,6])))
 (.seq
 (.region
 [oq 84 (.mv (.tmp 5)),
 oq 85 (.idx 1 (.tmp 84) (.const (.int .i64 0))),
 oq 86 (.load false 1 (.tmp 85)),
 oq 2 (.mv (.tmp 86)),
 oq 3 (.mv (.const (.int .i64 0)))]
 [2,3])
 .ret))))))))
def S74 : FnS := ⟨87,[(2,none),(3,none)],S74_0⟩
theorem tr74 : trFn Try.prog 74 [1,9] [[1],[1,15],[2,3],[1,4],[1,4,27],[2,3],[1,4,31],[2,3],[1,4,5],[1,4,5,6],[1,4,5,6,7],[7],[1,4,5,6],[1,4,5,6,38],[1,4,5,6,7],[1,4,5,6,7,41,42,43],[7,43],[1,4,5,6,41,42],[1,4,5,6,7,41,42,43,44],[7],[1,4,5,6,41,42,43],[1,4,5,6,7,9,41,42,43],[1,4,5,6,7,9,10,11,41,42,43],[1,4,5,6,7,9,10,41,42,43,73],[1,4,5,6,7,41,42,43],[],[2,0,2,1,2,3,2,4,2,6,2,2,2,7,3,5,3,8,2,9,3,10,2,11,0,1,1,3,8,3,5,2,9,3,10,2,11,0,1,1,1],[],[],[],[1],[],[],[4],[],[0,1,2,6],[0,1,2,6,7],[0,1,2,3,4,5,6,7,8],[0,1,2,3,4,5,6,7,8,9],[0,1,2,3,4,5,6,7,8,9,10],[1,4,5,6,7,41,42,43],[2,3]] = some S74 := by kernel_rfl
/- The least word of a product: meet's Least walked; no condition. -/
theorem cmpL_lex : ∀ {v w : List Int}, v.length = w.length → (cmpL v w < 0 ↔ lexLt v w)
 | [], [], _ => by simp [cmpL, lexLt]
 | [], _ :: _, h => by simp at h
 | _ :: _, [], h => by simp at h
 | x :: v, y :: w, h => by
  have ih := cmpL_lex (v := v) (w := w) (by simpa using h)
  have e : cmpL (x :: v) (y :: w) = if cmpI x y = 0 then cmpL v w else cmpI x y := rfl
  rw [e]
  simp only [lexLt]
  rcases Int.lt_trichotomy x y with q | q | q
  ·have : cmpI x y = -1 := if_pos q
   rw [this]
   simp [q]
  ·subst q
   have : cmpI x x = 0 := by simp [cmpI]
   rw [this]
   simp [ih]
  ·have : cmpI x y = 1 := by rw [cmpI, if_neg (show ¬ x < y by omega), if_pos q]
   rw [this]
   simp
   omega
/-- what Least answers -/
def LeastR (g : Gr) (v : Value) (Γ : Ctx) : Prop :=
 ((∀ w, ¬ DerN id g.rs 0 w) ∧ v = .tuple #[.slice none 0 0, .int .i64 5]) ∨
 ((∀ w, DerN id g.rs 0 w → 2000 < w.length) ∧ (∃ w, DerN id g.rs 0 w) ∧ v = .tuple #[.slice none 0 0, .int .i64 2]) ∨
 (∃ w gx A c, LstN g.rs 0 w ∧ w.length ≤ 2000 ∧ Γ = [gx] ∧ v = .tuple #[.slice A w.length c, .int .i64 0] ∧ SlOk (lk [gx]) A c w)
set_option maxHeartbeats 4000000 in
theorem meet_least {Γr : Ctx} {g : Gr} {N : Nat} {R F Ms : Option Addr × Nat} {nn nf : Nat} (G : WG g N) (hx : SlOk (lk Γr) R.1 R.2 g.rs) :
  Ret Try.prog 74 [.agg #[.int .i64 g.ts, .int .i64 g.ns, .int .i64 g.st, .slice R.1 g.rs.length R.2, .slice Ms.1 nn Ms.2, .slice F.1 nf F.2]] Γr [] (fun v Γ => LeastR g v Γ) := by
 generalize hR : (fun (v : Value) (Γ : Ctx) => LeastR g v Γ) = R'
 refine ret_of_vc tr74 (Nat.le_of_ble_eq_true rfl) ?_
 have hts := G.ts
 have hns := G.ns
 have hN := G.n
 have hlen := G.len
 obtain ⟨t, ht⟩ : ∃ t : Nat, g.ts = t := ⟨g.ts.toNat, by omega⟩
 simp -implicitDefEqProofs only [S74, S74_0, go_sem,zA,zB,zC,zD,zE,reduceCtorEq,↓reduceIte,zF,zG,zH,zI]
 intro b0
 refine CallVC.read (Γ := []) (meet_whole (Γr := [] ++ Γr) G hx) ?_
 rintro v Γ' ⟨rfl, rfl⟩
 simp -implicitDefEqProofs only [go_sem,zA,zB,zC,zD,zE,reduceCtorEq,↓reduceIte,zF,zG,zH,zI]
 refine CallVC.read (Γ := []) (meet_lengths (Γr := [] ++ Γr) G hx) ?_
 rintro v Γ' ⟨gL, AL, cL, L, rfl, rfl, hsL, hLS⟩
 have hLl := hLS.1
 obtain ⟨bL, oL, hAL, hcL⟩ := hsL.int (i := 0) (by omega)
 have hL0 : L.getD 0 0 = L[0]'(by omega) := by simp [List.getD_eq_getElem?_getD, show 0 < L.length by omega]
 simp -implicitDefEqProofs only [go_sem,zA,zB,zC,zD,zE,reduceCtorEq,↓reduceIte,zF,zG,zH,zI]
 rw [show decide ((N : Int) = 0) = false from decide_eq_false (by omega)]
 simp -implicitDefEqProofs only [go_sem,zA,zB,zC,zD,zE,reduceCtorEq,↓reduceIte,zF,zG,zH,zI]
 refine s_idx hAL (by omega) (by omega) ?_
 simp -implicitDefEqProofs only [go_sem,zA,zB,zC,zD,zE,reduceCtorEq,↓reduceIte,zF,zG,zH,zI]
 refine s_ld0 (hcL _ (lk_sub (by simp))) (by simp) (by simp) ?_
 simp -implicitDefEqProofs only [go_sem,zA,zB,zC,zD,zE,reduceCtorEq,↓reduceIte,zF,zG,zH,zI]
 refine ⟨fun hneg => ?_, fun hpos => ?_⟩
 ·refine Up.to [] (Ent.nil _) ?_
  subst hR
  refine .inl ⟨fun w hw => ?_, rfl⟩
  rcases hLS.2 0 (by omega) with ⟨_, q⟩ | ⟨⟨w', q1, q2⟩, _⟩
  ·exact q w hw
  ·omega
 refine s_idx hAL (by omega) (by omega) ?_
 simp -implicitDefEqProofs only [go_sem,zA,zB,zC,zD,zE,reduceCtorEq,↓reduceIte,zF,zG,zH,zI]
 refine s_ld0 (hcL _ (lk_sub (by simp))) (by simp) (by simp) ?_
 simp -implicitDefEqProofs only [go_sem,zA,zB,zC,zD,zE,reduceCtorEq,↓reduceIte,zF,zG,zH,zI]
 refine ⟨fun hbig => ?_, fun hsm => ?_⟩
 ·refine Up.to [] (Ent.nil _) ?_
  subst hR
  rcases hLS.2 0 (by omega) with ⟨q, _⟩ | ⟨⟨w', q1, q2⟩, q3⟩
  ·omega
  ·exact .inr (.inl ⟨fun w hw => by have := q3 w hw; omega, ⟨w', q1⟩, rfl⟩)
 refine ⟨by omega, by omega, fun bW => ?_⟩
 refine ⟨by omega, by omega, fun bD => ?_⟩
 have hA1 : Arr (one bD (.cells (zerosL [Value.bool false] N).toArray 4)) bD 4 (List.replicate N false) := Arr.made false bD 4 N
 have hA2 : Arr (one bW (.cells (zerosL [Value.slice none 0 0] N).toArray 25)) bW 25 (List.replicate N (⟨none, 0, 0⟩ : Hd)) := Arr.made (⟨none, 0, 0⟩ : Hd) bW 25 N
 have hH0 : HdsOk (lk [emp]) (List.replicate N (⟨none, 0, 0⟩ : Hd)) (List.replicate N ([] : List Int)) := HdsOk.made _ N
 have hS0 := WrdS.zero g.rs N L
 have hLE := fun a => LenI.le (rs := g.rs) (N := N) (L := L) ⟨hLl, fun a ha => by
  rcases hLS.2 a ha with ⟨q, _⟩ | ⟨q, _⟩
  ·exact .inl q
  ·exact .inr q⟩ a
 generalize one bD (.cells (zerosL [Value.bool false] N).toArray 4) = gD at *
 generalize one bW (.cells (zerosL [Value.slice none 0 0] N).toArray 25) = gW at *
 generalize List.replicate N false = D at *
 generalize List.replicate N (⟨none, 0, 0⟩ : Hd) = hs at *
 generalize List.replicate N ([] : List Int) = W at *
 obtain ⟨K, hK⟩ : ∃ K : Nat, 2000 ≤ K := ⟨2000, Nat.le_refl _⟩
 obtain ⟨M, hM⟩ : ∃ M, t ^ K = M := ⟨_, rfl⟩
 refine s_loop (fun f vs Γ => ∃ (gD gW gx : PH) (D : List Bool) (hs : List Hd) (W : List (List Int)) (ag : Bool), vs = [.v true (.bool ag)] ∧ Γ = [gD, gW, gL, gx] ∧ Arr gD bD 4 D ∧ Arr gW bW 25 hs ∧ HdsOk (lk [gx]) hs W ∧ WrdS g.rs N L W D ∧ f = wtD t M W D + (if ag then 1 else 0) ∧ (ag = false → ∀ r ∈ g.rs, WrdC g.rs L W D r)) (wtD t M W D + 1)
  (Up.emp (Up.sel [[1], [2], [3], [0]] (by decide) fun _ _ => ⟨gD, gW, emp, D, hs, W, true, rfl, rfl, hA1, hA2, hH0, hS0, rfl, fun h => by cases h⟩)) ?_
 clear hA1 hA2 hH0 hS0
 rintro f vs Γ ⟨gD, gW, gx, D0, hs, W0, ag, rfl, rfl, hAD, hAW, hH, hS, hf, hC⟩
 cases ag with
 | false =>
  have hWl := hS.len.1
  have hhl := hH.1
  simp -implicitDefEqProofs only [S74_4, go_sem,zA,zB,zC,zD,zE,reduceCtorEq,↓reduceIte,zF,zG,zH,zI]
  have hcell : ∀ Γ : Ctx, gW ∈ Γ → Cells Γ bW 0 [.slice (hs[0]'(by omega)).A (hs[0]'(by omega)).n (hs[0]'(by omega)).c] := fun Γ hg => hAW.cell (i := 0) (by omega) hg
  obtain ⟨hn0, hs0⟩ := hH.2 0 _ _ (List.getElem?_eq_getElem (show 0 < hs.length by omega)) (List.getElem?_eq_getElem (show 0 < W0.length by omega))
  obtain ⟨h0, hh0⟩ : ∃ h0, hs[0]'(by omega) = h0 := ⟨_, rfl⟩
  rw [hh0] at hn0 hs0
  simp only [hh0] at hcell
  obtain ⟨A0, n0, c0⟩ := h0
  simp only at hn0 hs0 hcell
  refine s_idx rfl (by omega) (by omega) ?_
  simp -implicitDefEqProofs only [go_sem,zA,zB,zC,zD,zE,reduceCtorEq,↓reduceIte,zF,zG,zH,zI]
  refine s_ld0 (by simpa using hcell _ (by simp)) (by simp) (by simp) ?_
  simp -implicitDefEqProofs only [go_sem,zA,zB,zC,zD,zE,reduceCtorEq,↓reduceIte,zF,zG,zH,zI]
  refine Up.sel [[3]] (by decide) fun _ _ => ?_
  subst hR
  have hsym : ∀ r ∈ g.rs, ∀ s ∈ r.r, s.t = true → 0 ≤ s.n ∧ s.n < t := fun r hr s hs q => by have := G.sym r hr s hs; have := this.2.1 q; omega
  obtain ⟨_, q2⟩ := least_word (t := t) (by omega) G.left hsym hLS hS (hC rfl) (a := 0) (by omega) (by omega) (by omega)
  have hg0 : W0.getD 0 [] = W0[0]'(by omega) := by simp [List.getD_eq_getElem?_getD, show 0 < W0.length by omega]
  rw [hg0] at q2
  have hlen2 : (W0[0]'(by omega)).length ≤ 2000 := by
   rcases hLS.2 0 (by omega) with ⟨q, _⟩ | ⟨_, q3⟩
   ·omega
   ·have h3 := q3 _ q2.1
    rcases hLS.2 0 (by omega) with ⟨q, _⟩ | ⟨⟨w', h4, h5⟩, _⟩
    ·omega
    ·have : (W0[0]'(by omega)).length ≤ w'.length := by
      rcases q2.2 w' h4 with e | e | e
      ·rw [← e]; exact Nat.le_refl _
      ·omega
      ·omega
     omega
  refine .inr (.inr ⟨_, _, A0, c0, q2, hlen2, rfl, ?_, hs0⟩)
  rw [hn0]
 | true =>
  simp -implicitDefEqProofs only [S74_4, go_sem,zA,zB,zC,zD,zE,reduceCtorEq,↓reduceIte,zF,zG,zH,zI]
  refine s_loop (fun f1 vs Γ => ∃ (gD gW gx : PH) (D : List Bool) (hs : List Hd) (W : List (List Int)) (ag : Bool) (i : Nat), vs = [.v true (.bool ag), .v true (.int .i64 (i : Int))] ∧ Γ = [gD, gW, gL, gx] ∧ i + f1 = g.rs.length ∧ Arr gD bD 4 D ∧ Arr gW bW 25 hs ∧ HdsOk (lk [gx]) hs W ∧ WrdS g.rs N L W D ∧ wtD t M W D + (if ag then 1 else 0) ≤ wtD t M W0 D0 ∧ (ag = false → ∀ r ∈ g.rs.take i, WrdC g.rs L W D r)) g.rs.length
   (Up.here ⟨gD, gW, gx, D0, hs, W0, false, 0, rfl, rfl, by omega, hAD, hAW, hH, hS, by simp, fun _ r hr => by simp at hr⟩) ?_
  clear hAD hAW hH hS hC hs
  rintro f1 vs Γ ⟨gD, gW, gx, D, hs, W, ag, i, rfl, rfl, hif, hAD, hAW, hH, hS, hw, hC⟩
  simp -implicitDefEqProofs only [S74_3, go_sem,zA,zB,zC,zD,zE,reduceCtorEq,↓reduceIte,zF,zG,zH,zI]
  refine ⟨fun hlt => ?_, fun hge => ?_⟩
  ·have hi : i < g.rs.length := by omega
   have hmem := List.getElem_mem hi
   have htk : g.rs.take (i + 1) = g.rs.take i ++ [g.rs[i]] := List.take_succ_eq_append_getElem hi
   have hleft := G.left _ hmem
   obtain ⟨b1, o1, hA1, A2, c2, hr2, hc2⟩ := hx.ru hi
   generalize g.rs[i] = r at *
   obtain ⟨a, ha⟩ : ∃ a : Nat, r.l = a := ⟨r.l.toNat, by omega⟩
   have hWl := hS.len.1
   have hDl := hS.len.2
   have hhl := hH.1
   have haD : a < D.length := by omega
   have haW : a < hs.length := by omega
   have hgD : D.getD r.l.toNat false = D[a] := by rw [ha, Int.toNat_natCast]; simp [List.getD_eq_getElem?_getD, haD]
   have hcellD : ∀ Γ : Ctx, gD ∈ Γ → Cells Γ bD a [.bool D[a]] := fun Γ hg => hAD.cell (i := a) haD hg
   have hcellW : ∀ Γ : Ctx, gW ∈ Γ → Cells Γ bW a [.slice hs[a].A hs[a].n hs[a].c] := fun Γ hg => hAW.cell (i := a) haW hg
   have hput := fun w => hS.put G hK ht hmem ha (w := w)
   simp only [hM] at hput
   have hnext : WrdC g.rs L W D r → ag = false → ∀ r' ∈ g.rs.take (i + 1), WrdC g.rs L W D r' := by
    intro q h r' hr'
    rw [htk] at hr'
    rcases List.mem_append.1 hr' with w | w
    ·exact hC h r' w
    ·simp only [List.mem_singleton] at w
     subst w
     exact q
   have hSW := HdsOk.slok (L := lk ([gD, gW, gL, gx] ++ Γr)) (Arr.slok (g := gW) (b := bW) (T := 25) (L := lk ([gD, gW, gL, gx] ++ Γr)) hAW (lk_sub (by simp)) (Nat.le_refl _) (by unfold maxLen; omega) (by omega)) hH (Mem.le.refl _) (lk_sub (by simp))
   have hSD := Arr.slok (g := gD) (b := bD) (T := 4) (L := lk ([gD, gW, gL, gx] ++ Γr)) hAD (lk_sub (by simp)) (Nat.le_refl _) (by unfold maxLen; omega) (by omega)
   rw [hhl, hWl] at hSW
   rw [hDl] at hSD
   have hw2 : ∀ a, (W.getD a []).length ≤ 2000 := fun a => by
    by_cases h : a < N
    ·by_cases h2 : D.getD a false = true
     ·exact (hS.sound a h h2).2.2
     ·rw [hS.bare a (by simpa using h2)]; simp
    ·rw [List.getD_eq_getElem?_getD, List.getElem?_eq_none (by omega)]; simp
   refine s_split ?_
   simp -implicitDefEqProofs only [S74_1, S74_2, go_sem,zA,zB,zC,zD,zE,reduceCtorEq,↓reduceIte,zF,zG,zH,zI]
   refine s_idx hA1 (by omega) (by omega) ?_
   simp -implicitDefEqProofs only [go_sem,zA,zB,zC,zD,zE,reduceCtorEq,↓reduceIte,zF,zG,zH,zI]
   refine s_ld0 (hc2 _ (lk_r _ _)) (by simp) (by simp) ?_
   simp -implicitDefEqProofs only [go_sem,zA,zB,zC,zD,zE,reduceCtorEq,↓reduceIte,zF,zG,zH,zI]
   intro b3
   refine CallVC.read (meet_word (Γr := [gD, gW, gL, gx] ++ Γr) G hmem (hr2.mono (lk_r _ _)) hSW hSD (hsL.mono (lk_sub (by simp))) hWl hDl hLl hw2 (fun a => (hLE a).1)) ?_
   rintro v Γ' (⟨w, gw, Aw, cw, hcat, hwl, hw20, rfl, rfl, hsw⟩ | ⟨Aw, nw, cw, rfl, hno⟩)
   ·simp -implicitDefEqProofs only [go_sem,zA,zB,zC,zD,zE,reduceCtorEq,↓reduceIte,zF,zG,zH,zI]
    rw [ha]
    refine s_idx rfl (by omega) (by omega) ?_
    simp -implicitDefEqProofs only [go_sem,zA,zB,zC,zD,zE,reduceCtorEq,↓reduceIte,zF,zG,zH,zI]
    refine s_ld0 (by simpa using hcellD _ (by simp)) (by simp) (by simp) ?_
    simp -implicitDefEqProofs only [go_sem,zA,zB,zC,zD,zE,reduceCtorEq,↓reduceIte,zF,zG,zH,zI]
    rw [ha, Int.toNat_natCast] at hwl
    cases hDa : D[a] with
    | false =>
     simp -implicitDefEqProofs only [go_sem,zA,zB,zC,zD,zE,reduceCtorEq,↓reduceIte,zF,zG,zH,zI]
     refine s_idxg (b := 0) (o := 0) (by simp) ?_
     simp -implicitDefEqProofs only [go_sem,zA,zB,zC,zD,zE,reduceCtorEq,↓reduceIte,zF,zG,zH,zI]
     refine s_ldg0 (cs := [.slice none 0 0]) (by simp) (by simp) (by simp) (by simp) ?_
     simp -implicitDefEqProofs only [go_sem,zA,zB,zC,zD,zE,reduceCtorEq,↓reduceIte,zF,zG,zH,zI]
     refine ⟨.int .i64 0, ?_⟩
     simp -implicitDefEqProofs only [go_sem,zA,zB,zC,zD,zE,reduceCtorEq,↓reduceIte,zF,zG,zH,zI]
     have hc0 : D.getD a false = false ∨ lexLt w (W.getD a []) := .inl (by rw [show D.getD a false = D[a] by simp [List.getD_eq_getElem?_getD, haD], hDa])
     refine ⟨[gw, gD, gW, gL, gx], [], fun ψ Γ' => ∃ (gD gW gx : PH) (hs : List Hd), ψ = [(1, .box b0 118 [.int .i64 g.ts, .int .i64 g.ns, .int .i64 g.st, .slice R.1 g.rs.length R.2, .slice Ms.1 nn Ms.2, .slice F.1 nf F.2]), (4, .v true (.slice AL N cL)), (5, .v true (.slice (some ⟨bW, 0, none⟩) N N)), (6, .v true (.slice (some ⟨bD, 0, none⟩) N N)), (7, .v true (.bool true)), (41, .v true (.slice R.1 g.rs.length R.2)), (42, .v true (.int .i64 (g.rs.length : Int))), (43, .v true (.int .i64 (i : Int)))] ∧
      Γ' = [gD, gW, gL, gx] ∧ Arr gD bD 4 (D.set a true) ∧ Arr gW bW 25 hs ∧ HdsOk (lk [gx]) hs (W.set a w), Ent.refl _, ?_, ?_⟩
     ·simp -implicitDefEqProofs only [go_sem,zA,zB,zC,zD,zE,reduceCtorEq,↓reduceIte,zF,zG,zH,zI]
      refine s_idx rfl (by omega) (by omega) ?_
      simp -implicitDefEqProofs only [go_sem,zA,zB,zC,zD,zE,reduceCtorEq,↓reduceIte,zF,zG,zH,zI]
      have hfin : ∀ gW' gD' : PH, Arr gW' bW 25 (hs.set a ⟨Aw, w.length, cw⟩) → Arr gD' bD 4 (D.set a true) → Up [gw, gD', gW', gL, gx] fun Γ' => ∃ (gD gW gx : PH) (hs : List Hd), Γ' = [gD, gW, gL, gx] ∧ Arr gD bD 4 (D.set a true) ∧ Arr gW bW 25 hs ∧ HdsOk (lk [gx]) hs (W.set a w) := fun gW' gD' h1 h2 =>
       Up.sel [[1], [2], [3], [0, 4]] (by decide) fun _ hm2 => ⟨gD', gW', _, _, rfl, h2, h1, HdsOk.set a hH (Mem.le.trans (lk_sub (by simp [sel])) (hm2 [0, 4] (by simp))) rfl (hsw.mono (Mem.le.trans (lk_sub (by simp [sel])) (hm2 [0, 4] (by simp))))⟩
      refine ⟨?_, ?_⟩
      ·refine s_storeA (ix := 2) (α := Hd) (⟨Aw, w.length, cw⟩ : Hd) rfl hAW (i := a) haW ?_
       intro gW' hAW' _
       simp -implicitDefEqProofs only [go_sem,zA,zB,zC,zD,zE,reduceCtorEq,↓reduceIte,zF,zG,zH,zI]
       refine s_idx rfl (by omega) (by omega) ?_
       simp -implicitDefEqProofs only [go_sem,zA,zB,zC,zD,zE,reduceCtorEq,↓reduceIte,zF,zG,zH,zI]
       refine s_storeA (ix := 1) (α := Bool) true rfl hAD (i := a) haD ?_
       intro gD' hAD' _
       simp -implicitDefEqProofs only [go_sem,zA,zB,zC,zD,zE,reduceCtorEq,↓reduceIte,zF,zG,zH,zI]
       exact hfin gW' gD' hAW' hAD'
      ·refine s_storeA (ix := 2) (α := Hd) (⟨Aw, w.length, cw⟩ : Hd) rfl hAW (i := a) haW ?_
       intro gW' hAW' _
       simp -implicitDefEqProofs only [go_sem,zA,zB,zC,zD,zE,reduceCtorEq,↓reduceIte,zF,zG,zH,zI]
       refine s_idx rfl (by omega) (by omega) ?_
       simp -implicitDefEqProofs only [go_sem,zA,zB,zC,zD,zE,reduceCtorEq,↓reduceIte,zF,zG,zH,zI]
       refine s_storeA (ix := 1) (α := Bool) true rfl hAD (i := a) haD ?_
       intro gD' hAD' _
       simp -implicitDefEqProofs only [go_sem,zA,zB,zC,zD,zE,reduceCtorEq,↓reduceIte,zF,zG,zH,zI]
       exact hfin gW' gD' hAW' hAD'
     ·rintro ψ Γ' ⟨gD', gW', gx', hs', rfl, rfl, hAD', hAW', hH'⟩
      simp -implicitDefEqProofs only [S74_2, go_sem,zA,zB,zC,zD,zE,reduceCtorEq,↓reduceIte,zF,zG,zH,zI]
      simp (disch := omega) only [wrap_id]
      obtain ⟨hS2, hw3⟩ := hput w hcat hwl hw20 hc0
      refine Up.here ⟨f1 - 1, by omega, Up.here ⟨gD', gW', gx', _, hs', _, true, i + 1, rfl, rfl, by omega, hAD', hAW', hH', hS2, ?_, fun h => by cases h⟩⟩
      generalize wtD t M (W.set a w) (D.set a true) = q1 at *
      generalize wtD t M W D = q2 at *
      generalize wtD t M W0 D0 = q3 at *
      revert hw
      cases ag <;> simp <;> omega
    | true =>
     have hWa : a < W.length := by omega
     obtain ⟨hna, hsa⟩ := hH.2 a _ _ (List.getElem?_eq_getElem haW) (List.getElem?_eq_getElem hWa)
     simp -implicitDefEqProofs only [go_sem,zA,zB,zC,zD,zE,reduceCtorEq,↓reduceIte,zF,zG,zH,zI]
     refine s_idx rfl (by omega) (by omega) ?_
     simp -implicitDefEqProofs only [go_sem,zA,zB,zC,zD,zE,reduceCtorEq,↓reduceIte,zF,zG,zH,zI]
     refine s_ld0 (by simpa using hcellW _ (by simp)) (by simp) (by simp) ?_
     simp -implicitDefEqProofs only [go_sem,zA,zB,zC,zD,zE,reduceCtorEq,↓reduceIte,zF,zG,zH,zI]
     rw [hna]
     refine CallVC.read (slices_compare (xs := w) (ys := W[a]) (hsw.mono (lk_sub (by simp))) (hsa.mono (lk_sub (by simp)))) ?_
     rintro v Γ' ⟨rfl, rfl⟩
     simp -implicitDefEqProofs only [go_sem,zA,zB,zC,zD,zE,reduceCtorEq,↓reduceIte,zF,zG,zH,zI]
     have hgW : W.getD a [] = W[a] := by simp [List.getD_eq_getElem?_getD, hWa]
     have hgDa : D.getD a false = true := by rw [show D.getD a false = D[a] by simp [List.getD_eq_getElem?_getD, haD], hDa]
     have hsd := (hS.sound a (by omega) hgDa).2.1
     rw [hgW] at hsd
     have hlx := cmpL_lex (v := w) (w := W[a]) (by omega)
     refine ⟨fun hlt2 => ?_, fun hge2 => ?_⟩
     ·have hc0 : D.getD a false = false ∨ lexLt w (W.getD a []) := .inr (by rw [hgW]; exact hlx.1 hlt2)
      refine ⟨[gw, gD, gW, gL, gx], [], fun ψ Γ' => ∃ (gD gW gx : PH) (hs : List Hd), ψ = [(1, .box b0 118 [.int .i64 g.ts, .int .i64 g.ns, .int .i64 g.st, .slice R.1 g.rs.length R.2, .slice Ms.1 nn Ms.2, .slice F.1 nf F.2]), (4, .v true (.slice AL N cL)), (5, .v true (.slice (some ⟨bW, 0, none⟩) N N)), (6, .v true (.slice (some ⟨bD, 0, none⟩) N N)), (7, .v true (.bool true)), (41, .v true (.slice R.1 g.rs.length R.2)), (42, .v true (.int .i64 (g.rs.length : Int))), (43, .v true (.int .i64 (i : Int)))] ∧
       Γ' = [gD, gW, gL, gx] ∧ Arr gD bD 4 (D.set a true) ∧ Arr gW bW 25 hs ∧ HdsOk (lk [gx]) hs (W.set a w), Ent.refl _, ?_, ?_⟩
      ·simp -implicitDefEqProofs only [go_sem,zA,zB,zC,zD,zE,reduceCtorEq,↓reduceIte,zF,zG,zH,zI]
       refine s_idx rfl (by omega) (by omega) ?_
       simp -implicitDefEqProofs only [go_sem,zA,zB,zC,zD,zE,reduceCtorEq,↓reduceIte,zF,zG,zH,zI]
       have hfin : ∀ gW' gD' : PH, Arr gW' bW 25 (hs.set a ⟨Aw, w.length, cw⟩) → Arr gD' bD 4 (D.set a true) → Up [gw, gD', gW', gL, gx] fun Γ' => ∃ (gD gW gx : PH) (hs : List Hd), Γ' = [gD, gW, gL, gx] ∧ Arr gD bD 4 (D.set a true) ∧ Arr gW bW 25 hs ∧ HdsOk (lk [gx]) hs (W.set a w) := fun gW' gD' h1 h2 =>
        Up.sel [[1], [2], [3], [0, 4]] (by decide) fun _ hm2 => ⟨gD', gW', _, _, rfl, h2, h1, HdsOk.set a hH (Mem.le.trans (lk_sub (by simp [sel])) (hm2 [0, 4] (by simp))) rfl (hsw.mono (Mem.le.trans (lk_sub (by simp [sel])) (hm2 [0, 4] (by simp))))⟩
       refine ⟨?_, ?_⟩
       ·refine s_storeA (ix := 2) (α := Hd) (⟨Aw, w.length, cw⟩ : Hd) rfl hAW (i := a) haW ?_
        intro gW' hAW' _
        simp -implicitDefEqProofs only [go_sem,zA,zB,zC,zD,zE,reduceCtorEq,↓reduceIte,zF,zG,zH,zI]
        refine s_idx rfl (by omega) (by omega) ?_
        simp -implicitDefEqProofs only [go_sem,zA,zB,zC,zD,zE,reduceCtorEq,↓reduceIte,zF,zG,zH,zI]
        refine s_storeA (ix := 1) (α := Bool) true rfl hAD (i := a) haD ?_
        intro gD' hAD' _
        simp -implicitDefEqProofs only [go_sem,zA,zB,zC,zD,zE,reduceCtorEq,↓reduceIte,zF,zG,zH,zI]
        exact hfin gW' gD' hAW' hAD'
       ·refine s_storeA (ix := 2) (α := Hd) (⟨Aw, w.length, cw⟩ : Hd) rfl hAW (i := a) haW ?_
        intro gW' hAW' _
        simp -implicitDefEqProofs only [go_sem,zA,zB,zC,zD,zE,reduceCtorEq,↓reduceIte,zF,zG,zH,zI]
        refine s_idx rfl (by omega) (by omega) ?_
        simp -implicitDefEqProofs only [go_sem,zA,zB,zC,zD,zE,reduceCtorEq,↓reduceIte,zF,zG,zH,zI]
        refine s_storeA (ix := 1) (α := Bool) true rfl hAD (i := a) haD ?_
        intro gD' hAD' _
        simp -implicitDefEqProofs only [go_sem,zA,zB,zC,zD,zE,reduceCtorEq,↓reduceIte,zF,zG,zH,zI]
        exact hfin gW' gD' hAW' hAD'
      ·rintro ψ Γ' ⟨gD', gW', gx', hs', rfl, rfl, hAD', hAW', hH'⟩
       simp -implicitDefEqProofs only [S74_2, go_sem,zA,zB,zC,zD,zE,reduceCtorEq,↓reduceIte,zF,zG,zH,zI]
       simp (disch := omega) only [wrap_id]
       obtain ⟨hS2, hw3⟩ := hput w hcat hwl hw20 hc0
       refine Up.here ⟨f1 - 1, by omega, Up.here ⟨gD', gW', gx', _, hs', _, true, i + 1, rfl, rfl, by omega, hAD', hAW', hH', hS2, ?_, fun h => by cases h⟩⟩
       generalize wtD t M (W.set a w) (D.set a true) = q1 at *
       generalize wtD t M W D = q2 at *
       generalize wtD t M W0 D0 = q3 at *
       revert hw
       cases ag <;> simp <;> omega
     ·simp (disch := omega) only [wrap_id]
      refine Up.skip ?_
      refine Up.here ⟨f1 - 1, by omega, Up.here ⟨gD, gW, gx, D, hs, W, ag, i + 1, rfl, rfl, by omega, hAD, hAW, hH, hS, hw, hnext fun w' h1 h2 h3 => ?_⟩⟩
      rw [hcat] at h1
      cases h1
      rw [ha, Int.toNat_natCast, hgDa, hgW]
      exact ⟨rfl, fun q => hge2 (hlx.2 q)⟩
   ·simp -implicitDefEqProofs only [go_sem,zA,zB,zC,zD,zE,reduceCtorEq,↓reduceIte,zF,zG,zH,zI]
    refine s_idxg (b := 0) (o := 0) (by simp) ?_
    simp -implicitDefEqProofs only [go_sem,zA,zB,zC,zD,zE,reduceCtorEq,↓reduceIte,zF,zG,zH,zI]
    refine s_ldg0 (cs := [.bool false]) (by simp) (by simp) (by simp) (by simp) ?_
    simp -implicitDefEqProofs only [go_sem,zA,zB,zC,zD,zE,reduceCtorEq,↓reduceIte,zF,zG,zH,zI]
    refine s_idxg (b := 0) (o := 0) (by simp) ?_
    simp -implicitDefEqProofs only [go_sem,zA,zB,zC,zD,zE,reduceCtorEq,↓reduceIte,zF,zG,zH,zI]
    refine s_ldg0 (cs := [.slice none 0 0]) (by simp) (by simp) (by simp) (by simp) ?_
    simp -implicitDefEqProofs only [go_sem,zA,zB,zC,zD,zE,reduceCtorEq,↓reduceIte,zF,zG,zH,zI]
    refine ⟨.int .i64 0, ?_⟩
    simp -implicitDefEqProofs only [go_sem,zA,zB,zC,zD,zE,reduceCtorEq,↓reduceIte,zF,zG,zH,zI]
    simp (disch := omega) only [wrap_id]
    refine Up.to [gD, gW, gL, gx] (Ent.sub (List.sublist_append_right _ _)) ?_
    refine ⟨f1 - 1, by omega, Up.here ⟨gD, gW, gx, D, hs, W, ag, i + 1, rfl, rfl, by omega, hAD, hAW, hH, hS, hw, hnext fun w' h1 h2 h3 => (hno w' h1 h2 h3).elim⟩⟩
  ·have hie : i = g.rs.length := by omega
   subst hie
   rw [List.take_length] at hC
   refine ⟨wtD t M W D + (if ag then 1 else 0), ?_, Up.here ⟨gD, gW, gx, D, hs, W, ag, rfl, rfl, hAD, hAW, hH, hS, rfl, hC⟩⟩
   rw [hf]
   generalize wtD t M W D = q1 at *
   generalize wtD t M W0 D0 = q2 at *
   revert hw
   cases ag <;> simp <;> omega
/- The product's words and sizes; the product of two small ones; the plain law; no condition. -/
/-- the product as a grammar -/
def prdG (g : Gr) (d : Da) (T : Int → Int → List Int) (used : List Tri) : Gr := ⟨g.ts, 1 + used.length, 0, (rulesP g d T (numU used) used).map (·.1)⟩
section
variable {g : Gr} {d : Da} {T : Int → Int → List Int} {used : List Tri}
theorem rea_len (V : VG g) (D : VD d) (hT : g.ts = colsD d) (h12 : d.nx.length ≤ 12) (hI : TabI g d T) (hn : used.Nodup) (hu : ∀ t ∈ used, ReaQ g d T t) : used.length ≤ 1440 := by
 have hns := V.ns
 refine tri_many (n := 12) (m := 10) (k := 12) hn fun t ht => ?_
 have := rea_st V D hT (fun q n p hp => (hI.rng q n p hp).2.2) (hu t ht)
 obtain ⟨h1, h2, h3⟩ := this
 have := h1.2
 have := h3.2
 exact ⟨⟨h1.1, by omega⟩, ⟨h2.1, by omega⟩, ⟨h3.1, by omega⟩⟩
theorem symW_sym (V : VG g) {num : Tri → Int} {N : Int} (hnum : ∀ t, ReaQ g d T t → 1 ≤ num t ∧ num t < N) : ∀ {l : List Sy} {q : Int} {xs : List Int}, (∀ s ∈ l, 0 ≤ s.n ∧ (s.t = true → s.n < g.ts)) → (∀ t ∈ triL l q xs, ReaQ g d T t) → ∀ s ∈ symW num l q xs, 0 ≤ s.n ∧ (s.t = true → s.n < g.ts) ∧ (s.t = false → s.n < N)
 | [], q, xs, _, _, s, hs => by simp [symW] at hs
 | x :: l, q, [], _, _, s, hs => by simp [symW] at hs
 | x :: l, q, y :: xs, hl, ht, s, hs => by
  simp only [symW, List.mem_cons] at hs
  rcases hs with rfl | hs
  ·by_cases hx : x.t = true
   ·rw [if_pos hx]
    have := hl x (by simp)
    exact ⟨this.1, this.2, fun h => by rw [hx] at h; cases h⟩
   ·rw [if_neg hx]
    have := hnum (q, x.n, y) (ht _ (by simp [triL, hx]))
    exact ⟨Int.le_trans (by decide) this.1, fun h => (by cases h), fun _ => this.2⟩
  ·exact symW_sym V hnum (fun s' h => hl s' (by simp [h])) (fun t h => ht t (by simp [triL, h])) s hs
theorem numU_rng {t : Tri} (h : t ∈ used) : 1 ≤ numU used t ∧ numU used t < 1 + (used.length : Int) := by
 have := List.idxOf_lt_length_of_mem h
 unfold numU
 omega
theorem symW_le {num : Tri → Int} : ∀ {l : List Sy} {q : Int} {xs : List Int}, (symW num l q xs).length ≤ l.length
 | [], q, xs => by simp [symW]
 | s :: l, q, [] => by simp [symW]
 | s :: l, q, x :: xs => by
  simp only [symW, List.length_cons]
  have := symW_le (num := num) (l := l) (q := x) (xs := xs)
  omega
theorem prd_wg (V : VG g) (D : VD d) (hT : g.ts = colsD d) (h12 : d.nx.length ≤ 12) (hI : TabI g d T) (hn : used.Nodup) (hu : ∀ t, t ∈ used ↔ ReaQ g d T t) (h4 : sumC g d T used used.length ≤ 4000) : WG (prdG g d T used) (1 + used.length) := by
 have hlen := rea_len V D hT h12 hI hn fun t h => (hu t).1 h
 have hnum : ∀ t, ReaQ g d T t → 1 ≤ numU used t ∧ numU used t < 1 + (used.length : Int) := fun t h => numU_rng ((hu t).2 h)
 have hcase : ∀ r ∈ (prdG g d T used).rs, (0 ≤ r.l ∧ r.l < 1 + (used.length : Int)) ∧ r.r.length ≤ 4 ∧ ∀ s ∈ r.r, 0 ≤ s.n ∧ (s.t = true → s.n < g.ts) ∧ (s.t = false → s.n < 1 + (used.length : Int)) := by
  intro r hr
  rcases mem_rulesP.1 hr with ⟨p, h1, h2, rfl⟩ | ⟨t, ht, r0, hr0, hl, xs, h1, h2, rfl⟩
  ·have := hnum _ (.start h1 h2)
   refine ⟨⟨Int.le_refl _, by show (0 : Int) < _; omega⟩, by simp, fun s hs => ?_⟩
   simp at hs
   subst hs
   exact ⟨Int.le_trans (by decide) this.1, fun h => (by cases h), fun _ => this.2⟩
  ·have h3 := hnum t ((hu t).1 ht)
   refine ⟨⟨Int.le_trans (by decide) h3.1, h3.2⟩, Nat.le_trans symW_le (V.right _ hr0), ?_⟩
   exact symW_sym V hnum (fun s hs => ⟨(V.sym _ hr0 s hs).1, (V.sym _ hr0 s hs).2.1⟩) fun t' ht' => .step ((hu t).1 ht) hr0 hl (mem_ways.2 ⟨h1, h2⟩) ht'
 have hts := V.ts
 refine ⟨⟨hts.1, by show g.ts ≤ 16; omega⟩, by simp [prdG], by omega, ?_, fun r hr => by have := (hcase r hr).1; omega, fun r hr => (hcase r hr).2.1, fun r hr s hs => ?_⟩
 ·show ((rulesP g d T (numU used) used).map (·.1)).length ≤ 5000
  rw [List.length_map, ← rulP_all, rulP_len (Nat.le_refl _)]
  omega
 ·have := (hcase r hr).2.2 s hs
  exact ⟨this.1, this.2.1, fun h => by have := this.2.2 h; omega⟩
theorem prdG_words (V : VG g) (D : VD d) (hT : g.ts = colsD d) (hI : TabI g d T) (hc : ClsQ g d (TofL T)) (hu : ∀ t, t ∈ used ↔ ReaQ g d T t) (w : List Int) : DerN id (prdG g d T used).rs 0 w ↔ DerN id g.rs g.st w ∧ endsD d d.st w = true :=
 prd_words V D hT hI.snd hc (prd_of V D hu fun t h => (rea_st V D hT (fun q n p hp => (hI.rng q n p hp).2.2) ((hu t).1 h)).1) w
end
/- The text of parlance/compare.Within as a statement; no condition. -/
def S76_0 : Stmt :=
 .seq
 (.region
 [oq 2 (.box true 24 (.tmp 0)),oq 3 (.box true 94 (.tmp 1)),
 oq 4 (.mv (.const (.bool false))),
 oq 5 (.mv (.const (.slice none 0 0))),
 oq 6 (.mv (.const (.int .i64 0)))]
 [2,3])
 (.seq
 (.seq
 (.region
 [oq 11 (.load true 4 (.tmp 2)),
 oq 12 (.load true 3 (.tmp 3)),
 oq 13 (.call (.func 69) [.tmp 11,.tmp 12]),
 oq 7 (.mv (.tmp 13))]
 [2,3,7])
 (.seq
 (.region
 [oq 14 (.mv (.tmp 7)),
 oq 15 (.ibin .neq (.tmp 14) (.const (.int .i64 0)))]
 [2,3,7,15])
 (.cond (.tmp 15)
 (.seq
 (.region
 [oq 16 (.mv (.tmp 7)),
 oq 4 (.mv (.const (.bool false))),
 oq 5 (.mv (.const (.slice none 0 0))),
 oq 6 (.mv (.tmp 16))]
 [4,5,6])
 .ret)
 .skip)))
 (.seq
 (.seq
 (.region
 [oq 17 (.fld 2 (.tmp 3)),
 oq 18 (.load false 1 (.tmp 17)),
 oq 19 (.len false (.tmp 18)),
 oq 20 (.ibin .eql (.tmp 19) (.const (.int .i64 12)))]
 [2,3,20])
 (.cond (.tmp 20)
 (.seq
 (.region
 [oq 4 (.mv (.const (.bool false))),
 oq 5 (.mv (.const (.slice none 0 0))),
 oq 6 (.mv (.const (.int .i64 2)))]
 [4,5,6])
 .ret)
 .skip))
 (.seq
 (.tree
 (.q (true,oq 22 (.load true 4 (.tmp 2)))
 (.q (false,oq 23 (.load true 3 (.tmp 3)))
 (.alt (false,oq 24 (.call (.func 171) [.tmp 23]))
 (.alt (false,oq 25 (.call (.func 66) [.tmp 22,.tmp 24]))
 (.q (false,oq 21 (.mv (.tmp 25)))
 (.q (false,oq 26 (.extract 0 (.tmp 21)))
 (.q (false,oq 27 (.extract 1 (.tmp 21)))
 (.alt
 (false,
 .mk (some 8) none
 (.alloc true 118
 (.agg
 (Array.mk
 [.int .i64 0,.int .i64 0,.int .i64 0,
 .slice none 0 0,.slice none 0 0,.slice none 0 0]))))
 (.alt (false,.mk none none (.store 6 (.tmp 8) (.tmp 26)))
 (.q (false,oq 9 (.mv (.tmp 27))) .fin) .no)
 .no))))
 (.alt
 (false,
 .mk (some 8) none
 (.alloc true 118
 (.agg
 (Array.mk
 [.int .i64 0,.int .i64 0,.int .i64 0,
 .slice none 0 0,.slice none 0 0,.slice none 0 0]))))
 (.alt
 (false,oq 25 (.call (.func 66) [.tmp 22,.tmp 24]))
 (.q (false,oq 21 (.mv (.tmp 25)))
 (.q (false,oq 26 (.extract 0 (.tmp 21)))
 (.q (false,oq 27 (.extract 1 (.tmp 21)))
 (.alt (false,.mk none none (.store 6 (.tmp 8) (.tmp 26)))
 (.q (false,oq 9 (.mv (.tmp 27))) .fin) .no))))
 .no)
 .no))
 (.alt
 (false,
 .mk (some 8) none
 (.alloc true 118
 (.agg
 (Array.mk
 [.int .i64 0,.int .i64 0,.int .i64 0,
 .slice none 0 0,.slice none 0 0,.slice none 0 0]))))
 (.alt (false,oq 24 (.call (.func 171) [.tmp 23]))
 (.alt
 (false,oq 25 (.call (.func 66) [.tmp 22,.tmp 24]))
 (.q (false,oq 21 (.mv (.tmp 25)))
 (.q (false,oq 26 (.extract 0 (.tmp 21)))
 (.q (false,oq 27 (.extract 1 (.tmp 21)))
 (.alt (false,.mk none none (.store 6 (.tmp 8) (.tmp 26)))
 (.q (false,oq 9 (.mv (.tmp 27))) .fin) .no))))
 .no)
 .no)
 .no))))
 [8,9])
 (.seq
 (.seq
 (.region
 [oq 28 (.mv (.tmp 9)),
 oq 29 (.ibin .neq (.tmp 28) (.const (.int .i64 0)))]
 [8,9,29])
 (.cond (.tmp 29)
 (.seq
 (.region
 [oq 30 (.mv (.tmp 9)),
 oq 4 (.mv (.const (.bool false))),
 oq 5 (.mv (.const (.slice none 0 0))),
 oq 6 (.mv (.tmp 30))]
 [4,5,6])
 .ret)
 .skip))
 (.seq
 (.region
 [oq 32 (.load true 6 (.tmp 8)),
 oq 33 (.call (.func 74) [.tmp 32]),
 oq 31 (.mv (.tmp 33)),
 oq 34 (.extract 0 (.tmp 31)),
 oq 35 (.extract 1 (.tmp 31)),
 oq 10 (.mv (.tmp 34)),oq 9 (.mv (.tmp 35))]
 [9,10])
 (.seq
 (.seq
 (.region
 [oq 36 (.mv (.tmp 9)),
 .mk (some 37) none
 (.ibin .eql (.tmp 36) (.const (.int .i64 5)))]
 [9,10,37])
 (.cond (.tmp 37)
 (.seq
 (.region
 [oq 4 (.mv (.const (.bool true))),
 oq 5 (.mv (.const (.slice none 0 0))),
 oq 6 (.mv (.const (.int .i64 0)))]
 [4,5,6])
 .ret)
 .skip))
 (.seq
 (.region
 [oq 38 (.mv (.tmp 10)),oq 39 (.mv (.tmp 9)),
 oq 4 (.mv (.const (.bool false))),
 oq 5 (.mv (.tmp 38)),oq 6 (.mv (.tmp 39))]
 [4,5,6])
 .ret)))))))
def S76 : FnS := ⟨40,[(4,none),(5,none),(6,none)],S76_0⟩
theorem tr76 : trFn Try.prog 76 [2,3,8] [[2,3],[2,3,7],[2,3,7,15],[4,5,6],[2,3,20],[4,5,6],[8,9],[],[2,0,2,1,3,2,3,3,2,4,2,5,2,6,3,7,3,8,2,9,0,1,1,3,7,3,3,2,4,2,5,2,6,3,8,2,9,0,1,1,1,3,7,3,2,3,3,2,4,2,5,2,6,3,8,2,9,0,1,1,1,1],[0],[],[],[1],[0,1,2],[0,1,2,3],[0,1,2,3,4],[0,1,2,3,4],[],[0,1,2,3,4,5,7],[0,1,2,3,4,5,6,7,8],[8,9,29],[4,5,6],[9,10],[9,10,37],[4,5,6],[4,5,6]] = some S76 := by kernel_rfl
/- Whether an automaton accepts all words of a grammar: compare.Within walked; no condition. -/
theorem dfF_vd {d : Da} (D : VD d) : dfF d = 0 := by
 have h1 := D.len
 have h2 := D.acc
 have h3 := D.cols
 have h4 := D.st
 unfold dfF
 rw [if_neg (by omega), if_neg (by omega), if_neg (by omega), if_neg ?_, if_neg ?_]
 ·rintro (q | q | ⟨x, hx, q⟩ | ⟨r, hr, t, ht, q⟩)
  ·omega
  ·omega
  ·have := D.ac x hx
   omega
  ·have := D.to r hr t ht
   omega
 ·rintro ⟨r, hr, q⟩
  have := D.row r hr
  omega
theorem meet_form {g : Gr} {d : Da} {v : Value} {Γ : Ctx} (h : MeetR g d v Γ) : ∃ ts nr nn R N F e, v = .tuple #[prdV ts nr nn R N F, .int .i64 e] := by
 rcases h with ⟨_, rfl⟩ | ⟨_, T, _, _, ⟨rfl, _⟩ | ⟨gx, used, R, N, F, _, rfl, _⟩⟩
 ·exact ⟨_, _, _, _, _, _, _, rfl⟩
 ·exact ⟨_, _, _, _, _, _, _, rfl⟩
 ·exact ⟨_, _, _, _, _, _, _, rfl⟩
/-- a word of a grammar that an automaton does not accept -/
def OutW (g : Gr) (d : Da) (w : List Int) : Prop := DerN id g.rs g.st w ∧ endsD d d.st w = false
/-- what Within answers -/
def WithinR (g : Gr) (d : Da) (v : Value) (Γ : Ctx) : Prop :=
 (meetE g d ≠ 0 ∧ v = .tuple #[.bool false, .slice none 0 0, .int .i64 (meetE g d)]) ∨
 (meetE g d = 0 ∧ v = .tuple #[.bool false, .slice none 0 0, .int .i64 2] ∧ (d.nx.length = 12 ∨ (∃ T row n, TabI g (othD d) T ∧ RowI g (othD d) T row ∧ 4000 < sumC g (othD d) T row n) ∨ ∃ w, OutW g d w)) ∨
 (meetE g d = 0 ∧ d.nx.length ≠ 12 ∧ (∀ w, ¬ OutW g d w) ∧ v = .tuple #[.bool true, .slice none 0 0, .int .i64 0]) ∨
 (meetE g d = 0 ∧ d.nx.length ≠ 12 ∧ ∃ w A c, OutW g d w ∧ (∀ u, OutW g d u → LLe w u) ∧ v = .tuple #[.bool false, .slice A w.length c, .int .i64 0] ∧ SlOk (lk Γ) A c w)
set_option maxHeartbeats 2000000 in
theorem cmp_within {Γr : Ctx} {g : Gr} {d : Da} {G A B : Option Addr × Nat} (hG : SlOk (lk Γr) G.1 G.2 g.rs) (hA : SlOk (lk Γr) A.1 A.2 d.ac) (hB : SlOk (lk Γr) B.1 B.2 d.nx) :
  Ret Try.prog 76 [.agg #[.int .i64 g.ts, .int .i64 g.ns, .int .i64 g.st, .slice G.1 g.rs.length G.2], .agg #[.int .i64 d.st, .slice A.1 d.ac.length A.2, .slice B.1 d.nx.length B.2]] Γr [] (fun v Γ => WithinR g d v Γ ∧ (meetE g d = 0 → d.nx.length = 12 → v = .tuple #[.bool false, .slice none 0 0, .int .i64 2])) := by
 generalize hR : (fun (v : Value) (Γ : Ctx) => WithinR g d v Γ ∧ _) = R
 refine ret_of_vc tr76 (Nat.le_of_ble_eq_true rfl) ?_
 simp -implicitDefEqProofs only [S76, S76_0, go_sem,zA,zB,zC,zD,zE,reduceCtorEq,↓reduceIte,zF,zG,zH,zI]
 intro b0 b1
 refine CallVC.read (Γ := []) (meet_check (Γr := [] ++ Γr) hG hA hB) ?_
 rintro v Γ' ⟨rfl, rfl⟩
 simp -implicitDefEqProofs only [go_sem,zA,zB,zC,zD,zE,reduceCtorEq,↓reduceIte,zF,zG,zH,zI]
 refine ⟨fun h => Up.here ?_, fun h0 => ?_⟩
 ·subst hR
  exact ⟨.inl ⟨h, rfl⟩, fun q => absurd q h⟩
 obtain ⟨V, D, hT, h12⟩ := meetE_ok h0
 refine ⟨fun h => Up.here ?_, fun hn12 => ?_⟩
 ·subst hR
  exact ⟨.inr (.inl ⟨h0, rfl, .inl (by omega)⟩), fun _ _ => rfl⟩
 have hno : d.nx.length ≠ 12 := by omega
 refine ⟨[], [], fun ψ Γ' => ∃ (b8 : Nat) (ts : Int) (nr nn : Nat) (P N F : Option Addr × Nat) (e : Int) (Γm : Ctx) (go : PH), ψ = [(8, .box b8 118 [.int .i64 ts, .int .i64 nn, .int .i64 0, .slice P.1 nr P.2, .slice N.1 nn N.2, .slice F.1 nr F.2]), (9, .v true (.int .i64 e))] ∧
  Γ' = Γm ++ [go] ∧ MeetR g (othD d) (.tuple #[prdV ts nr nn P N F, .int .i64 e]) Γm, Ent.refl _, ?_, ?_⟩
 ·simp -implicitDefEqProofs only [go_sem,zA,zB,zC,zD,zE,reduceCtorEq,↓reduceIte,zF,zG,zH,zI]
  refine ⟨?_, fun b8 => ?_⟩
  ·refine CallVC.read (Γ := []) (cmp_other (Γr := [] ++ Γr) D (dfF_vd D) hA hB) ?_
   rintro v Γ' ⟨go, Ao, co, Bo, eo, rfl, rfl, hso, hsx⟩
   simp -implicitDefEqProofs only [go_sem,zA,zB,zC,zD,zE,reduceCtorEq,↓reduceIte,zF,zG,zH,zI]
   refine ⟨?_, fun b8 => ?_⟩
   ·refine CallVC.read (meet_of (Γr := [go] ++ Γr) (g := g) (d := othD d) (G := G) (A := (Ao, co)) (B := (Bo, eo)) (hG.mono (lk_r _ _)) (hso.mono (lk_sub (by simp))) (hsx.mono (lk_sub (by simp)))) ?_
    rintro v Γm hM
    obtain ⟨ts, nr, nn, P, N, F, e, rfl⟩ := meet_form hM
    unfold prdV
    simp -implicitDefEqProofs only [go_sem,zA,zB,zC,zD,zE,reduceCtorEq,↓reduceIte,zF,zG,zH,zI]
    intro b8
    exact Up.here ⟨b8, ts, nr, nn, P, N, F, e, Γm, go, rfl, rfl, hM⟩
   ·refine CallVC.read (meet_of (Γr := [go] ++ Γr) (g := g) (d := othD d) (G := G) (A := (Ao, co)) (B := (Bo, eo)) (hG.mono (lk_r _ _)) (hso.mono (lk_sub (by simp))) (hsx.mono (lk_sub (by simp)))) ?_
    rintro v Γm hM
    obtain ⟨ts, nr, nn, P, N, F, e, rfl⟩ := meet_form hM
    unfold prdV
    simp -implicitDefEqProofs only [go_sem,zA,zB,zC,zD,zE,reduceCtorEq,↓reduceIte,zF,zG,zH,zI]
    exact Up.here ⟨b8, ts, nr, nn, P, N, F, e, Γm, go, rfl, rfl, hM⟩
  ·refine CallVC.read (Γ := []) (cmp_other (Γr := [] ++ Γr) D (dfF_vd D) hA hB) ?_
   rintro v Γ' ⟨go, Ao, co, Bo, eo, rfl, rfl, hso, hsx⟩
   simp -implicitDefEqProofs only [go_sem,zA,zB,zC,zD,zE,reduceCtorEq,↓reduceIte,zF,zG,zH,zI]
   refine CallVC.read (meet_of (Γr := [go] ++ Γr) (g := g) (d := othD d) (G := G) (A := (Ao, co)) (B := (Bo, eo)) (hG.mono (lk_r _ _)) (hso.mono (lk_sub (by simp))) (hsx.mono (lk_sub (by simp)))) ?_
   rintro v Γm hM
   obtain ⟨ts, nr, nn, P, N, F, e, rfl⟩ := meet_form hM
   unfold prdV
   simp -implicitDefEqProofs only [go_sem,zA,zB,zC,zD,zE,reduceCtorEq,↓reduceIte,zF,zG,zH,zI]
   exact Up.here ⟨b8, ts, nr, nn, P, N, F, e, Γm, go, rfl, rfl, hM⟩
 ·rintro ψ Γ' ⟨b8, ts, nr, nn, P, N, F, e, Γm, go, rfl, rfl, hM⟩
  simp -implicitDefEqProofs only [go_sem,zA,zB,zC,zD,zE,reduceCtorEq,↓reduceIte,zF,zG,zH,zI]
  have hC := D.cols
  have hE : meetE g (othD d) = 0 := by
   have D2 := oth_ok D (by omega)
   have h1 : ckF g = 0 := by
    unfold meetE at h0
    split at h0
    ·rename_i q; exact absurd h0 q
    ·rename_i q; exact Classical.not_not.1 q
   unfold meetE
   rw [if_neg (by omega), if_neg (by rw [dfF_vd D2]; omega), if_neg (by rw [oth_cols D]; omega), if_neg (by simp [othD]; omega)]
  have hout : ∀ w, (DerN id g.rs g.st w ∧ endsD (othD d) (othD d).st w = true) ↔ OutW g d w := by
   intro w
   unfold OutW
   refine and_congr_right fun hw => ?_
   have hok : okW d w := by
    obtain ⟨r, hr, _, hdr⟩ := hw
    have h1 : ∀ x ∈ w, 0 ≤ x ∧ x < g.ts := hdr.all (fun r hr s hs q => V.term hr hs q) (fun s hs q => V.term hr hs q)
    intro x hx
    have := h1 x hx
    omega
   have hst := D.st
   have := oth_ends D (w := w) (s := d.st) (by omega) hst.2 hok
   rw [show othX d.nx.length d.st = d.st from if_neg (by omega)] at this
   show endsD (othD d) d.st w = true ↔ _
   rw [this]
   simp
  obtain ⟨V2, D2, hT2, h122⟩ := meetE_ok hE
  rcases hM with ⟨h, _⟩ | ⟨_, T, hI, hc, ⟨hv, row, rn, hrow, hrs⟩ | ⟨gx, used, R2, N2, F2, rfl, hv, hnd, hsrt, hu, hle, hs1, hs2, hs3⟩⟩
  ·exact absurd hE h
  ·simp only [Value.tuple.injEq, Array.mk.injEq, List.cons.injEq, Value.int.injEq, true_and, and_true] at hv
   obtain ⟨_, rfl⟩ := hv
   refine ⟨fun _ => ?_, fun h => by cases h⟩
   refine Up.to [] (Ent.nil _) ?_
   subst hR
   exact ⟨.inr (.inl ⟨h0, rfl, .inr (.inl ⟨T, row, rn, hI, hrow, hrs⟩)⟩), fun _ q => absurd q hno⟩
  ·unfold prdV at hv
   simp only [Value.tuple.injEq, Value.agg.injEq, Array.mk.injEq, List.cons.injEq, Value.int.injEq, Value.slice.injEq, true_and, and_true] at hv
   obtain ⟨⟨rfl, hnn, ⟨hp1, hp2, hp3⟩, ⟨hn1, _, hn2⟩, hf1, _, hf2⟩, rfl⟩ := hv
   have hnn : nn = 1 + used.length := by omega
   subst hnn
   refine ⟨fun h => absurd rfl h, fun _ => ?_⟩
   have hGp := prd_wg V2 D2 hT2 h122 hI hnd hu hle
   have hwords := prdG_words V2 D2 hT2 hI hc hu
   obtain ⟨Q, hQ⟩ : ∃ Q, prdG g (othD d) T used = Q := ⟨_, rfl⟩
   have hP1 : Q.ts = g.ts := by rw [← hQ]; rfl
   have hP2 : Q.ns = ((1 + used.length : Nat) : Int) := by rw [← hQ]; simp [prdG]
   have hP3 : Q.st = 0 := by rw [← hQ]; rfl
   have hP4 : Q.rs = (rulesP g (othD d) T (numU used) used).map (·.1) := by rw [← hQ]; rfl
   have hPl : nr = Q.rs.length := by rw [hP4, List.length_map]; exact hp2
   rw [← hP4] at hs1
   rw [hQ] at hGp hwords
   rw [hPl]
   have hLc := meet_least (Γr := ([gx] ++ [go]) ++ Γr) (R := P) (F := F) (Ms := N) (nn := 1 + used.length) (nf := Q.rs.length) hGp (by rw [hp1, hp3]; exact hs1.mono (lk_sub (by simp)))
   rw [hP1, hP2, hP3] at hLc
   refine CallVC.read hLc ?_
   have hall : ∀ w, DerN id Q.rs 0 w ↔ OutW g d w := fun w => (hwords w).trans (hout w)
   rintro v Γ2 (⟨hnone, rfl⟩ | ⟨hbig, ⟨w0, hw0⟩, rfl⟩ | ⟨w, gw, Aw, cw, hlst, hw20, rfl, rfl, hsw⟩)
   ·simp -implicitDefEqProofs only [go_sem,zA,zB,zC,zD,zE,reduceCtorEq,↓reduceIte,zF,zG,zH,zI]
    refine Up.to [] (Ent.nil _) ?_
    subst hR
    exact ⟨.inr (.inr (.inl ⟨h0, hno, fun w hw => hnone w ((hall w).2 hw), rfl⟩)), fun _ q => absurd q hno⟩
   ·simp -implicitDefEqProofs only [go_sem,zA,zB,zC,zD,zE,reduceCtorEq,↓reduceIte,zF,zG,zH,zI]
    refine Up.to [] (Ent.nil _) ?_
    subst hR
    exact ⟨.inr (.inl ⟨h0, rfl, .inr (.inr ⟨w0, (hall w0).1 hw0⟩)⟩), fun _ q => absurd q hno⟩
   ·simp -implicitDefEqProofs only [go_sem,zA,zB,zC,zD,zE,reduceCtorEq,↓reduceIte,zF,zG,zH,zI]
    refine Up.sel [[0]] (by decide) fun _ _ => ?_
    subst hR
    exact ⟨.inr (.inr (.inr ⟨h0, hno, w, Aw, cw, (hall w).1 hlst.1, fun u hu' => hlst.2 u ((hall u).2 hu'), rfl, hsw⟩)), fun _ q => absurd q hno⟩
/- The text of parlance/parllaw5.plain as a statement; no condition. -/
def S61_0 : Stmt :=
 .seq
 (.region
 [.mk (some 0) none
 (.alloc true 24
 (.agg
 (Array.mk
 [.int .i64 0,.int .i64 0,.int .i64 0,.slice none 0 0])))]
 [0])
 (.seq
 (.region
 [.mk (some 1) none
 (.build 53 [.bool false,.int .i64 0] [(0,1,.const (.bool true))]),
 oq 2 (.buildS 53 1 [.bool false,.int .i64 0] [(0,2,.tmp 1)]),
 oq 3 (.build 129 [.int .i64 0,.slice none 0 0] [(1,1,.tmp 2)]),
 .mk (some 4) none
 (.build 53 [.bool false,.int .i64 0]
 [(0,1,.const (.bool true)),(1,1,.const (.int .i64 1))]),
 oq 5 (.build 53 [.bool false,.int .i64 0] []),
 .mk (some 6) none
 (.buildS 53 2 [.bool false,.int .i64 0,.bool false,.int .i64 0]
 [(0,2,.tmp 4),(2,2,.tmp 5)]),
 oq 7 (.build 129 [.int .i64 0,.slice none 0 0] [(1,1,.tmp 6)]),
 .mk (some 8) none
 (.buildS 129 2
 [.int .i64 0,.slice none 0 0,.int .i64 0,.slice none 0 0]
 [(0,2,.tmp 3),(2,2,.tmp 7)]),
 .mk (some 9) none
 (.build 24
 [.int .i64 0,.int .i64 0,.int .i64 0,.slice none 0 0]
 [(0,1,.const (.int .i64 2)),(1,1,.const (.int .i64 1)),
 (3,1,.tmp 8)]),
 .mk none none (.store 4 (.tmp 0) (.tmp 9))]
 [0])
 .ret)
def S61 : FnS := ⟨10,[(0,some (true,4))],S61_0⟩
theorem tr61 : trFn Try.prog 61 [0] [[0],[0]] = some S61 := by kernel_rfl
/- parllaw5.plain walked; no condition. -/
def plainG : Gr := ⟨2, 1, 0, [⟨0, [⟨true, 0⟩]⟩, ⟨0, [⟨true, 1⟩, ⟨false, 0⟩]⟩]⟩
theorem plain_ {Γr : Ctx} : Ret Try.prog 61 [] Γr [] (fun v Γ => ∃ g A c, Γ = [g] ∧ SlOk (lk [g]) A c plainG.rs ∧ v = .agg #[.int .i64 2, .int .i64 1, .int .i64 0, .slice A 2 c]) := by
 generalize hR : (fun (v : Value) (Γ : Ctx) => ∃ g A c, _) = R
 refine ret_of_vc tr61 (Nat.le_of_ble_eq_true rfl) ?_
 simp -implicitDefEqProofs only [S61, S61_0, go_sem,zA,zB,zC,zD,zE,reduceCtorEq,↓reduceIte,zF,zG,zH,zI]
 intro b b1 b2
 refine Up.one fun g hg => ?_
 subst hR
 refine ⟨g, _, 2, rfl, ?_, rfl⟩
 refine lit_rep2 (cs := [.int .i64 0, .slice (some ⟨b, 0, none⟩) 1 1]) (ds := [.int .i64 0, .slice (some ⟨b1, 0, none⟩) 2 2]) _ _ (hg _ _ lk_head) rfl ⟨_, _, rfl, ?_⟩ ⟨_, _, rfl, ?_⟩
 ·exact lit_rep1 (cs := [.bool true, .int .i64 0]) (⟨true, 0⟩ : Sy) (hg _ _ (lk_tail (lk_tail lk_head))) rfl
 ·exact lit_rep2 (cs := [.bool true, .int .i64 1]) (ds := [.bool false, .int .i64 0]) (⟨true, 1⟩ : Sy) (⟨false, 0⟩ : Sy) (hg _ _ (lk_tail lk_head)) rfl rfl rfl
/- The product of a small grammar and a small automaton has three rules; the plain law; no condition. -/
/-- the automaton of the words that end in terminal 0 -/
def endsA : Da := ⟨0, [-1, 0], [[1, 0], [1, 0]]⟩
theorem plain_ck : ckF plainG = 0 := by decide
theorem ends_df : dfF endsA = 0 := by decide
section
variable {T : Int → Int → List Int}
theorem small_st {q : Int} (h : StQ endsA q) : q = 0 ∨ q = 1 := by
 have h1 := h.1
 have h2 : q < 2 := h.2
 omega
theorem small_step {q : Int} (h : StQ endsA q) : stepD endsA q 0 = 1 ∧ stepD endsA q 1 = 0 := by
 rcases small_st h with rfl | rfl <;> decide
theorem small_any (q x : Int) : StQ endsA (stepD endsA q x) := by
 unfold stepD
 have h : ∀ (a b : Nat), 0 ≤ ((endsA.nx.getD a []).getD b 0) ∧ ((endsA.nx.getD a []).getD b 0) < 2 := by
  intro a b
  match a, b with
  | 0, 0 => decide
  | 0, 1 => decide
  | 1, 0 => decide
  | 1, 1 => decide
  | 0, b + 2 => exact ⟨by simp [endsA], by simp [endsA]⟩
  | 1, b + 2 => exact ⟨by simp [endsA], by simp [endsA]⟩
  | a + 2, b => exact ⟨by simp [endsA], by simp [endsA]⟩
 exact h _ _
theorem small_run {l : List Sy} {w : List Int} (hd : DerF id plainG.rs l w) : ∀ {q p : Int}, StQ endsA q → RunQ endsA q w p → StQ endsA p ∧ ((∃ s, l.getLast? = some s ∧ (s.t = false ∨ s.n = 0)) → p = 1) := by
 induction hd with
 | nil =>
  intro q p hq h
  have h : p = q := h
  subst h
  exact ⟨hq, fun ⟨s, h, _⟩ => by cases h⟩
 | @term l w n hw ih =>
  intro q p hq h
  obtain ⟨h1, h2⟩ := h
  obtain ⟨h3, h4⟩ := ih (small_any q n) h2
  refine ⟨h3, ?_⟩
  rintro ⟨s, hs, hs2⟩
  cases l with
  | nil =>
   simp at hs
   subst hs
   have hs2 : n = 0 := by simpa using hs2
   subst hs2
   cases hw
   have h2 : p = stepD endsA q 0 := h2
   rw [h2]
   exact (small_step hq).1
  | cons s' l =>
   rw [List.getLast?_cons_cons] at hs
   exact h4 ⟨s, hs, hs2⟩
 | @non l u v r hr hu hv ih1 ih2 =>
  intro q p hq h
  obtain ⟨m, h1, h2⟩ := runQ_app.1 h
  obtain ⟨h3, h4⟩ := ih1 hq h1
  have hm : m = 1 := by
   apply h4
   simp [plainG] at hr
   rcases hr with rfl | rfl
   ·exact ⟨⟨true, 0⟩, rfl, .inr rfl⟩
   ·exact ⟨⟨false, 0⟩, rfl, .inl rfl⟩
  obtain ⟨h5, h6⟩ := ih2 h3 h2
  refine ⟨h5, ?_⟩
  rintro ⟨s, hs, hs2⟩
  cases l with
  | nil =>
   cases hv
   have h2 : p = m := h2
   rw [h2, hm]
  | cons s' l =>
   rw [List.getLast?_cons_cons] at hs
   exact h6 ⟨s, hs, hs2⟩
end
/- The text of parlance/parllaw5.ends as a statement; no condition. -/
def S67_0 : Stmt :=
 .seq
 (.region
 [.mk (some 0) none
 (.alloc true 94
 (.agg (Array.mk [.int .i64 0,.slice none 0 0,.slice none 0 0])))]
 [0])
 (.seq
 (.region
 [.mk (some 1) none
 (.buildS 3 2 [.int .i64 0,.int .i64 0]
 [(0,1,.const (.int .i64 (-1))),(1,1,.const (.int .i64 0))]),
 .mk (some 2) none
 (.buildS 3 2 [.int .i64 0,.int .i64 0]
 [(0,1,.const (.int .i64 1)),(1,1,.const (.int .i64 0))]),
 .mk (some 3) none
 (.buildS 3 2 [.int .i64 0,.int .i64 0]
 [(0,1,.const (.int .i64 1)),(1,1,.const (.int .i64 0))]),
 .mk (some 4) none
 (.buildS 25 2 [.slice none 0 0,.slice none 0 0] [(0,1,.tmp 2),(1,1,.tmp 3)]),
 .mk (some 5) none
 (.build 94 [.int .i64 0,.slice none 0 0,.slice none 0 0]
 [(1,1,.tmp 1),(2,1,.tmp 4)]),
 .mk none none (.store 3 (.tmp 0) (.tmp 5))]
 [0])
 .ret)
def S67 : FnS := ⟨6,[(0,some (true,3))],S67_0⟩
theorem tr67 : trFn Try.prog 67 [0] [[0],[0]] = some S67 := by kernel_rfl
/- An automaton of a law; how many words there are; no condition. -/
theorem ends_ {Γr : Ctx} : Ret Try.prog 67 [] Γr [] (fun v Γ => ∃ g A c B e, Γ = [g] ∧ SlOk (lk [g]) A c endsA.ac ∧ SlOk (lk [g]) B e endsA.nx ∧ v = .agg #[.int .i64 0, .slice A 2 c, .slice B 2 e]) := by
 generalize hR : (fun (v : Value) (Γ : Ctx) => ∃ g A c B e, _) = R
 refine ret_of_vc tr67 (Nat.le_of_ble_eq_true rfl) ?_
 simp -implicitDefEqProofs only [S67, S67_0, go_sem,zA,zB,zC,zD,zE,reduceCtorEq,↓reduceIte,zF,zG,zH,zI]
 intro b1 b2 b3 b4
 refine Up.one fun g hg => ?_
 subst hR
 refine ⟨g, _, 2, _, 2, rfl, ?_, ?_, rfl⟩
 ·exact (lit_slok (Γ := []) (b := b1) (T := 3) [(-1 : Int), 0] rfl (by simp)).mono (Mem.le.trans (lk_sub (by simp [Sc.enc])) hg)
 ·refine lit_rep2 (cs := [.slice (some ⟨b2, 0, none⟩) 2 2]) (ds := [.slice (some ⟨b3, 0, none⟩) 2 2]) ([1, 0] : List Int) ([1, 0] : List Int) (hg _ _ lk_head) rfl ⟨_, _, rfl, ?_⟩ ⟨_, _, rfl, ?_⟩
  ·exact (lit_slok (Γ := []) (b := b2) (T := 3) [(1 : Int), 0] rfl (by simp)).mono (Mem.le.trans (lk_sub (by simp [Sc.enc])) hg)
  ·exact (lit_slok (Γ := []) (b := b3) (T := 3) [(1 : Int), 0] rfl (by simp)).mono (Mem.le.trans (lk_sub (by simp [Sc.enc])) hg)
theorem lvs_five {t : Nat} (ht : t ≤ 8) : (lvs t 6).length ≤ 37449 := by
 have h : ∀ k, t ^ k ≤ 8 ^ k := fun k => Nat.pow_le_pow_left ht k
 have h0 := h 0
 have h1 := h 1
 have h2 := h 2
 have h3 := h 3
 have h4 := h 4
 have h5 := h 5
 rw [lvs_len_succ, lvs_len_succ, lvs_len_succ, lvs_len_succ, lvs_len_succ, lvs_len_succ]
 have : (lvs t 0).length = 0 := by simp [lvs_zero]
 omega
/- The text of parlance/parlref5.RuleFault as a statement; no condition. -/
def S62_1 : Stmt :=
 .seq
 (.region
 [oq 79 (.fld 0 (.tmp 8)),oq 80 (.load false 1 (.tmp 79))]
 [1,3,6,8,9,46,47,48,71,72,73,80])
 (.cond (.tmp 80)
 (.seq
 (.region
 [oq 81 (.fld 0 (.tmp 1)),
 oq 82 (.load false 1 (.tmp 81)),oq 9 (.mv (.tmp 82))]
 [1,3,6,8,9,46,47,48,71,72,73])
 (.region
 [oq 83 (.mv (.tmp 6)),
 .mk (some 84) none
 (.fn Fk.cat [.tmp 83,.const (.string (ByteArray.mk (Array.mk [UInt8.ofNat 116])))]),
 oq 6 (.mv (.tmp 84))]
 [1,3,6,8,9,46,47,48,71,72,73]))
 (.region
 [oq 85 (.mv (.tmp 6)),
 .mk (some 86) none
 (.fn Fk.cat [.tmp 85,.const (.string (ByteArray.mk (Array.mk [UInt8.ofNat 110])))]),
 oq 6 (.mv (.tmp 86))]
 [1,3,6,8,9,46,47,48,71,72,73]))
def S62_2 : Stmt :=
 .seq
 (.seq
 (.region
 [oq 87 (.fld 1 (.tmp 8)),oq 88 (.load false 1 (.tmp 87)),
 oq 89 (.ibin .lss (.tmp 88) (.const (.int .i64 0))),
 oq 90 (.mv (.tmp 89)),
 .mk (some 91) (some (90,false)) (.fld 1 (.tmp 8)),
 .mk (some 92) (some (90,false)) (.load false 1 (.tmp 91)),
 .mk (some 93) (some (90,false)) (.mv (.tmp 9)),
 .mk (some 94) (some (90,false)) (.ibin .geq (.tmp 92) (.tmp 93)),
 oq 95 (.pick (.tmp 90) (.const (.bool true)) (.tmp 94))]
 [1,3,6,8,46,47,48,71,72,73,95])
 (.cond (.tmp 95)
 (.seq (.region [oq 2 (.mv (.const (.int .i64 3)))] [2]) .ret)
 .skip))
 (.region
 [oq 96 (.mv (.tmp 6)),oq 97 (.fld 1 (.tmp 8)),
 oq 98 (.load false 1 (.tmp 97)),
 oq 99 (.conv .i32 (.tmp 98)),
 oq 100 (.fn Fk.rune [.tmp 99]),
 oq 101 (.fn Fk.cat [.tmp 96,.tmp 100]),
 oq 6 (.mv (.tmp 101))]
 [1,3,6,46,47,48,71,72,73])
def S62_3 : Stmt :=
 .block 3
 (.seq
 (.region
 [oq 75 (.idx 2 (.tmp 71) (.tmp 73)),
 oq 76 (.load true 2 (.tmp 75)),
 oq 8 (.alloc true 53 (.agg (Array.mk [.bool false,.int .i64 0]))),
 .mk none none (.store 2 (.tmp 8) (.tmp 76))]
 [1,3,6,8,46,47,48,71,72,73])
 (.seq
 (.region
 [oq 77 (.fld 1 (.tmp 1)),
 oq 78 (.load false 1 (.tmp 77)),oq 9 (.mv (.tmp 78))]
 [1,3,6,8,9,46,47,48,71,72,73])
 (.join S62_1 S62_2 [6,9] [1,3,8,46,47,48,71,72,73])))
def S62_4 : Stmt :=
 .region
 [oq 102 (.ibin .add (.tmp 73) (.const (.int .i64 1))),
 oq 73 (.mv (.tmp 102))]
 [1,3,6,46,47,48,71,72,73]
def S62_5 : Stmt :=
 .seq
 (.region [oq 74 (.ibin .lss (.tmp 73) (.tmp 72))]
 [1,3,6,46,47,48,71,72,73,74])
 (.seq (.cond (.tmp 74) .skip (.exit 2))
 (.join S62_3 S62_4 [6] [1,3,46,47,48,71,72,73]))
def S62_6 : Stmt :=
 .seq
 (.region [oq 49 (.ibin .lss (.tmp 48) (.tmp 47))] [1,3,46,47,48,49])
 (.seq (.cond (.tmp 49) .skip (.exit 0))
 (.seq
 (.block 1
 (.seq
 (.region
 [oq 50 (.idx 2 (.tmp 46) (.tmp 48)),
 oq 51 (.load true 2 (.tmp 50)),
 .mk (some 5) none
 (.alloc true 129 (.agg (Array.mk [.int .i64 0,.slice none 0 0]))),
 .mk none none (.store 2 (.tmp 5) (.tmp 51))]
 [1,3,5,46,47,48])
 (.seq
 (.seq
 (.region
 [oq 52 (.fld 0 (.tmp 5)),
 oq 53 (.load false 1 (.tmp 52)),
 .mk (some 54) none
 (.ibin .lss (.tmp 53) (.const (.int .i64 0))),
 oq 55 (.mv (.tmp 54)),
 .mk (some 56) (some (55,false)) (.fld 0 (.tmp 5)),
 .mk (some 57) (some (55,false)) (.load false 1 (.tmp 56)),
 .mk (some 58) (some (55,false)) (.fld 1 (.tmp 1)),
 .mk (some 59) (some (55,false)) (.load false 1 (.tmp 58)),
 .mk (some 60) (some (55,false)) (.ibin .geq (.tmp 57) (.tmp 59)),
 .mk (some 61) none
 (.pick (.tmp 55) (.const (.bool true)) (.tmp 60))]
 [1,3,5,46,47,48,61])
 (.cond (.tmp 61)
 (.seq (.region [oq 2 (.mv (.const (.int .i64 3)))] [2])
 .ret)
 .skip))
 (.seq
 (.seq
 (.region
 [oq 62 (.fld 1 (.tmp 5)),
 oq 63 (.load false 1 (.tmp 62)),
 oq 64 (.len false (.tmp 63)),
 .mk (some 65) none
 (.ibin .gtr (.tmp 64) (.const (.int .i64 4)))]
 [1,3,5,46,47,48,65])
 (.cond (.tmp 65)
 (.seq
 (.region [oq 2 (.mv (.const (.int .i64 2)))] [2])
 .ret)
 .skip))
 (.seq
 (.region
 [oq 66 (.fld 0 (.tmp 5)),
 oq 67 (.load false 1 (.tmp 66)),
 oq 68 (.conv .i32 (.tmp 67)),
 oq 69 (.fn Fk.rune [.tmp 68]),
 oq 6 (.mv (.tmp 69))]
 [1,3,5,6,46,47,48])
 (.seq
 (.seq
 (.region
 [oq 70 (.fld 1 (.tmp 5)),
 oq 71 (.load false 1 (.tmp 70)),
 oq 72 (.len false (.tmp 71)),
 oq 73 (.mv (.const (.int .i64 0)))]
 [1,3,6,46,47,48,71,72,73])
 (.block 2 (.loop S62_5 [6,73] [1,3,46,47,48,71,72])))
 (.seq
 (.seq
 (.region
 [oq 103 (.mv (.tmp 3)),
 oq 104 (.mv (.tmp 6)),
 oq 105 (.q (Qk.look 112 false) [.tmp 103,.tmp 104])]
 [1,3,6,46,47,48,105])
 (.cond (.tmp 105)
 (.seq
 (.region [oq 2 (.mv (.const (.int .i64 6)))] [2])
 .ret)
 .skip))
 (.region
 [oq 106 (.mv (.tmp 3)),
 oq 107 (.mv (.tmp 6)),
 .mk none none
 (.a (Qk.upd 112) [.tmp 106,.tmp 107,.const (.bool true)])]
 [1,3,46,47,48]))))))))
 (.region
 [oq 108 (.ibin .add (.tmp 48) (.const (.int .i64 1))),
 oq 48 (.mv (.tmp 108))]
 [1,3,46,47,48])))
def S62_0 : Stmt :=
 .seq
 (.region
 [oq 1 (.box true 24 (.tmp 0)),
 oq 2 (.mv (.const (.int .i64 0)))]
 [1])
 (.seq
 (.seq
 (.region
 [oq 10 (.fld 0 (.tmp 1)),
 oq 11 (.load false 1 (.tmp 10)),
 oq 12 (.ibin .lss (.tmp 11) (.const (.int .i64 1))),
 oq 13 (.mv (.tmp 12)),
 .mk (some 14) (some (13,false)) (.fld 0 (.tmp 1)),
 .mk (some 15) (some (13,false)) (.load false 1 (.tmp 14)),
 .mk (some 16) (some (13,false))
 (.ibin .gtr (.tmp 15) (.const (.int .i64 8))),
 oq 17 (.pick (.tmp 13) (.const (.bool true)) (.tmp 16)),
 oq 18 (.mv (.tmp 17)),
 .mk (some 19) (some (18,false)) (.fld 1 (.tmp 1)),
 .mk (some 20) (some (18,false)) (.load false 1 (.tmp 19)),
 .mk (some 21) (some (18,false))
 (.ibin .lss (.tmp 20) (.const (.int .i64 1))),
 oq 22 (.pick (.tmp 18) (.const (.bool true)) (.tmp 21)),
 oq 23 (.mv (.tmp 22)),
 .mk (some 24) (some (23,false)) (.fld 1 (.tmp 1)),
 .mk (some 25) (some (23,false)) (.load false 1 (.tmp 24)),
 .mk (some 26) (some (23,false))
 (.ibin .gtr (.tmp 25) (.const (.int .i64 10))),
 oq 27 (.pick (.tmp 23) (.const (.bool true)) (.tmp 26)),
 oq 28 (.mv (.tmp 27)),
 .mk (some 29) (some (28,false)) (.fld 2 (.tmp 1)),
 .mk (some 30) (some (28,false)) (.load false 1 (.tmp 29)),
 .mk (some 31) (some (28,false))
 (.ibin .lss (.tmp 30) (.const (.int .i64 0))),
 oq 32 (.pick (.tmp 28) (.const (.bool true)) (.tmp 31)),
 oq 33 (.mv (.tmp 32)),
 .mk (some 34) (some (33,false)) (.fld 2 (.tmp 1)),
 .mk (some 35) (some (33,false)) (.load false 1 (.tmp 34)),
 .mk (some 36) (some (33,false)) (.fld 1 (.tmp 1)),
 .mk (some 37) (some (33,false)) (.load false 1 (.tmp 36)),
 .mk (some 38) (some (33,false)) (.ibin .geq (.tmp 35) (.tmp 37)),
 oq 39 (.pick (.tmp 33) (.const (.bool true)) (.tmp 38))]
 [1,39])
 (.cond (.tmp 39)
 (.seq (.region [oq 2 (.mv (.const (.int .i64 1)))] [2])
 .ret)
 .skip))
 (.seq
 (.seq
 (.region
 [oq 40 (.fld 3 (.tmp 1)),
 oq 41 (.load false 1 (.tmp 40)),
 oq 42 (.len false (.tmp 41)),
 oq 43 (.ibin .gtr (.tmp 42) (.const (.int .i64 32)))]
 [1,43])
 (.cond (.tmp 43)
 (.seq (.region [oq 2 (.mv (.const (.int .i64 2)))] [2])
 .ret)
 .skip))
 (.seq
 (.region
 [oq 44 (.n (Qk.mkmap 112) []),oq 3 (.mv (.tmp 44))] [1,3])
 (.seq
 (.seq
 (.region
 [oq 45 (.fld 3 (.tmp 1)),
 oq 46 (.load false 1 (.tmp 45)),
 oq 47 (.len false (.tmp 46)),
 oq 48 (.mv (.const (.int .i64 0)))]
 [1,3,46,47,48])
 (.block 0 (.loop S62_6 [48] [1,3,46,47])))
 (.seq (.region [oq 2 (.mv (.const (.int .i64 0)))] [2])
 .ret)))))
def S62 : FnS := ⟨109,[(2,none)],S62_0⟩
theorem tr62 : trFn Try.prog 62 [1,5,8] [[1],[1,39],[2],[1,43],[2],[1,3],[1,3,46,47,48],[48],[1,3,46,47],[1,3,46,47,48,49],[1,3,5,46,47,48],[1,3,5,46,47,48,61],[2],[1,3,5,46,47,48,65],[2],[1,3,5,6,46,47,48],[1,3,6,46,47,48,71,72,73],[6,73],[1,3,46,47,48,71,72],[1,3,6,46,47,48,71,72,73,74],[6],[1,3,46,47,48,71,72,73],[1,3,6,8,46,47,48,71,72,73],[1,3,6,8,9,46,47,48,71,72,73],[6,9],[1,3,8,46,47,48,71,72,73],[1,3,6,8,9,46,47,48,71,72,73,80],[1,3,6,8,9,46,47,48,71,72,73],[1,3,6,8,9,46,47,48,71,72,73],[1,3,6,8,9,46,47,48,71,72,73],[1,3,6,8,46,47,48,71,72,73,95],[2],[1,3,6,46,47,48,71,72,73],[1,3,6,46,47,48,71,72,73],[1,3,6,46,47,48,105],[2],[1,3,46,47,48],[1,3,46,47,48],[2]] = some S62 := by kernel_rfl
/- Grammars are checked once more: parlref5.RuleFault walked; no condition. -/
def strB (l : List UInt8) : Value := .string ⟨l.toArray⟩
theorem strB_inj (a b : List UInt8) (h : strB a = strB b) : a = b := by
 simp only [strB, Value.string.injEq, ByteArray.mk.injEq] at h
 simpa using congrArg Array.toList h
theorem kt_str {P : Program} {k : TypeId} (hk : P.underlying k = some .string) : KT P k strB (fun l => l.length ≤ 1000) :=
 KT.of (Maps.string_keyed hk) strB_inj fun a ha => ⟨Lit.string a, by simp [strB, keyOf, hk, mapKey, ByteArray.size]; unfold maxLen; omega⟩
theorem rune_str {n : Int} (h0 : 0 ≤ n) (h1 : n < 10) : Value.string (Utf8.encode (IntKind.i32.wrap n)) = strB [UInt8.ofNat n.toNat] := by
 obtain ⟨m, rfl⟩ : ∃ m : Nat, n = m := ⟨n.toNat, by omega⟩
 have : m = 0 ∨ m = 1 ∨ m = 2 ∨ m = 3 ∨ m = 4 ∨ m = 5 ∨ m = 6 ∨ m = 7 ∨ m = 8 ∨ m = 9 := by omega
 rcases this with rfl | rfl | rfl | rfl | rfl | rfl | rfl | rfl | rfl | rfl <;> rfl
theorem fn_cat {a b : List UInt8} (h : a.length + b.length ≤ 1000000) : fnV .cat [strB a, strB b] = some (strB (a ++ b)) := by
 have : (ByteArray.mk a.toArray).size + (ByteArray.mk b.toArray).size ≤ 9223372036854775807 := by simp only [ByteArray.size, List.size_toArray]; omega
 simp only [fnV, strB, if_pos this]
 refine congrArg (fun x => some (Value.string x)) (ByteArray.ext ?_)
 simp

def symK (s : Sy) : List UInt8 := [if s.t then 116 else 110, UInt8.ofNat s.n.toNat]
def symsK (l : List Sy) : List UInt8 := l.flatMap symK
def keyK (r : Ru) : List UInt8 := UInt8.ofNat r.l.toNat :: symsK r.r
def okSy (s : Sy) : Prop := 0 ≤ s.n ∧ s.n < 10
theorem byte_inj {a b : Int} (h0 : 0 ≤ a) (h1 : a < 10) (h2 : 0 ≤ b) (h3 : b < 10) (h : UInt8.ofNat a.toNat = UInt8.ofNat b.toNat) : a = b := by
 have := congrArg UInt8.toNat h
 simp only [UInt8.toNat_ofNat'] at this
 omega
theorem symK_inj {s t : Sy} (hs : okSy s) (ht : okSy t) (h : symK s = symK t) : s = t := by
 obtain ⟨a, m⟩ := s
 obtain ⟨b, n⟩ := t
 simp only [symK, List.cons.injEq, and_true] at h
 have := byte_inj hs.1 hs.2 ht.1 ht.2 h.2
 simp only at this
 subst this
 cases a <;> cases b <;> simp at h ⊢
theorem symsK_inj : ∀ {l k : List Sy}, (∀ s ∈ l, okSy s) → (∀ s ∈ k, okSy s) → symsK l = symsK k → l = k
 | [], [], _, _, _ => rfl
 | [], t :: k, _, _, h => by simp [symsK, symK] at h
 | s :: l, [], _, _, h => by simp [symsK, symK] at h
 | s :: l, t :: k, hl, hk, h => by
  have e : symsK (s :: l) = symK s ++ symsK l := rfl
  have e' : symsK (t :: k) = symK t ++ symsK k := rfl
  rw [e, e'] at h
  have h1 := List.append_inj h rfl
  rw [symK_inj (hl s (by simp)) (hk t (by simp)) h1.1, symsK_inj (fun x hx => hl x (by simp [hx])) (fun x hx => hk x (by simp [hx])) h1.2]
theorem symsK_len (l : List Sy) : (symsK l).length = 2 * l.length := by
 induction l with
 | nil => rfl
 | cons s l ih => rw [show symsK (s :: l) = symK s ++ symsK l from rfl, List.length_append, ih]; simp [symK]; omega

theorem rule_fault {Γr : Ctx} {g : Gr} {A : Option Addr} {c : Nat} (hx : SlOk (lk Γr) A c g.rs) :
  Ret Try.prog 62 [.agg #[.int .i64 g.ts, .int .i64 g.ns, .int .i64 g.st, .slice A g.rs.length c]] Γr [] (fun v Γ => Γ = [] ∧ v = .int .i64 (ckF g)) := by
 generalize hR : (fun (v : Value) (Γ : Ctx) => Γ = [] ∧ _) = R
 refine ret_of_vc tr62 (Nat.le_of_ble_eq_true rfl) ?_
 simp -implicitDefEqProofs only [S62, S62_0, go_sem,zA,zB,zC,zD,zE,reduceCtorEq,↓reduceIte,zF,zG,zH,zI]
 intro b
 refine ⟨fun h => Up.here ?_, fun hok => ⟨fun h => Up.here ?_, fun h32 => ?_⟩⟩
 ·subst hR
  exact ⟨rfl, by rw [ckF, if_pos (by unfold badHead; omega)]⟩
 ·subst hR
  exact ⟨rfl, by rw [ckF, if_neg (by unfold badHead; omega), if_pos (by omega)]⟩
 have hck : ckF g = ckR g g.rs.length := by rw [ckF, if_neg (by unfold badHead; omega), if_neg (by omega)]
 refine s_mkmap fun bm => ?_
 simp -implicitDefEqProofs only [go_sem,zA,zB,zC,zD,zE,reduceCtorEq,↓reduceIte,zF,zG,zH,zI]
 have hkt : KT Try.prog 9 strB (fun l => l.length ≤ 1000) := kt_str (by kernel_rfl)
 refine s_loop (fun f vs Γ => ∃ gm, Γ = [gm] ∧ ∃ (k : Nat), vs = [.v true (.int .i64 k)] ∧ k + f = g.rs.length ∧ ckR g k = 0 ∧ (∀ r ∈ g.rs.take k, (0 ≤ r.l ∧ r.l < 10) ∧ r.r.length ≤ 4 ∧ ∀ s ∈ r.r, okSy s) ∧ MapM gm bm strB Value.bool (fun l => l.length ≤ 1000) (mset keyK (g.rs.take k))) g.rs.length
  (Up.here ⟨_, rfl, 0, rfl, by omega, rfl, by simp, MapM.new _ _ _ _⟩) ?_
 rintro f vs Γ ⟨gm, rfl, k, rfl, hkf, hck0, hall, hM⟩
 simp -implicitDefEqProofs only [S62_6, go_sem,zA,zB,zC,zD,zE,reduceCtorEq,↓reduceIte,zF,zG,zH,zI]
 refine ⟨fun hlt => ?_, fun hge => ?_⟩
 ·have hk : k < g.rs.length := by omega
  have hgen : ∀ x, faultAt g k g.rs[k] = x → x ≠ 0 → ckF g = x := fun x h1 h2 => by rw [hck, ckR_fault hk hck0 (by rw [h1]; exact h2), h1]
  have hzero : faultAt g k g.rs[k] = 0 → ckR g (k + 1) = 0 := fun h => by rw [ckR_step hk hck0, h]
  obtain ⟨b1, o1, hA, A', c', hr, hc1⟩ := hx.ru hk
  have hrl := hr.short
  refine s_idx hA (by omega) (by omega) ?_
  simp -implicitDefEqProofs only [go_sem,zA,zB,zC,zD,zE,reduceCtorEq,↓reduceIte,zF,zG,zH,zI]
  refine s_ld0 (hc1 _ (lk_r _ _)) (by simp) (by simp) ?_
  simp -implicitDefEqProofs only [go_sem,zA,zB,zC,zD,zE,reduceCtorEq,↓reduceIte,zF,zG,zH,zI]
  refine ⟨fun h => Up.to [] (Ent.nil _) ?_, fun hl => ⟨fun h => Up.to [] (Ent.nil _) ?_, fun h4 => ?_⟩⟩
  ·subst hR
   exact ⟨rfl, by rw [hgen 3 (by rw [faultAt, if_pos h]) (by decide)]⟩
  ·subst hR
   exact ⟨rfl, by rw [hgen 2 (by rw [faultAt, if_neg (by omega), if_pos (by omega)]) (by decide)]⟩
  have hf1 : faultAt g k g.rs[k] = if g.rs[k].r.any (badSy g.ts g.ns) = true then 3 else if g.rs[k] ∈ g.rs.take k then 6 else 0 := by
   rw [faultAt, if_neg (by omega), if_neg (by omega)]
  rw [rune_str (by omega) (by omega)]
  refine s_loop (fun f' vs Γ => ∃ gm, Γ = [gm] ∧ MapM gm bm strB Value.bool (fun l => l.length ≤ 1000) (mset keyK (g.rs.take k)) ∧ ∃ j : Nat, vs = [.v true (strB (UInt8.ofNat g.rs[k].l.toNat :: symsK (g.rs[k].r.take j))), .v true (.int .i64 j)] ∧ j + f' = g.rs[k].r.length ∧ ∀ (i : Nat) (h : i < g.rs[k].r.length), i < j → badSy g.ts g.ns g.rs[k].r[i] = false ∧ okSy g.rs[k].r[i]) g.rs[k].r.length
   (Up.here ⟨_, rfl, hM, 0, rfl, by omega, by intro i _ h; omega⟩) ?_
  rintro f' vs Γ ⟨gm, rfl, hM, j, rfl, hjf, hno⟩
  simp -implicitDefEqProofs only [S62_5, go_sem,zA,zB,zC,zD,zE,reduceCtorEq,↓reduceIte,zF,zG,zH,zI]
  refine ⟨fun hlt => ?_, fun hge => ?_⟩
  ·have hj : j < g.rs[k].r.length := by omega
   refine s_split ?_
   simp -implicitDefEqProofs only [S62_3, S62_4, go_sem,zA,zB,zC,zD,zE,reduceCtorEq,↓reduceIte,zF,zG,zH,zI]
   obtain ⟨b3, o3, hA3, hc3⟩ := hr.sy hj
   refine s_idx hA3 (by omega) (by omega) ?_
   simp -implicitDefEqProofs only [go_sem,zA,zB,zC,zD,zE,reduceCtorEq,↓reduceIte,zF,zG,zH,zI]
   refine s_ld0 (hc3 _ (lk_r _ _)) (by simp) (by simp) ?_
   simp -implicitDefEqProofs only [go_sem,zA,zB,zC,zD,zE,reduceCtorEq,↓reduceIte,zF,zG,zH,zI]
   intro b4
   have hlen1 : (symsK (g.rs[k].r.take j)).length ≤ 8 := by rw [symsK_len, List.length_take]; omega
   refine s_join (fun vs Γ' => Γ' = [gm] ∧ vs = [.v true (strB (UInt8.ofNat g.rs[k].l.toNat :: symsK (g.rs[k].r.take j) ++ [if g.rs[k].r[j].t then 116 else 110])), .v true (.int .i64 (if g.rs[k].r[j].t then g.ts else g.ns))]) ?_ ?_
   ·simp -implicitDefEqProofs only [S62_1, go_sem,zA,zB,zC,zD,zE,reduceCtorEq,↓reduceIte,zF,zG,zH,zI]
    refine ⟨fun ht => ?_, fun ht => ?_⟩
    ·rw [show Value.string (ByteArray.mk (Array.mk [UInt8.ofNat 116])) = strB [116] from rfl, fn_cat (by simp only [List.length_cons, List.length_nil]; omega)]
     simp -implicitDefEqProofs only [go_sem,zA,zB,zC,zD,zE,reduceCtorEq,↓reduceIte,zF,zG,zH,zI]
     exact Up.here ⟨rfl, by rw [ht]; rfl⟩
    ·rw [show Value.string (ByteArray.mk (Array.mk [UInt8.ofNat 110])) = strB [110] from rfl, fn_cat (by simp only [List.length_cons, List.length_nil]; omega)]
     simp -implicitDefEqProofs only [go_sem,zA,zB,zC,zD,zE,reduceCtorEq,↓reduceIte,zF,zG,zH,zI]
     exact Up.here ⟨rfl, by rw [ht]; rfl⟩
   ·rintro vs Γ' ⟨rfl, rfl⟩
    simp -implicitDefEqProofs only [S62_2, go_sem,zA,zB,zC,zD,zE,reduceCtorEq,↓reduceIte,zF,zG,zH,zI]
    refine ⟨fun h => Up.to [] (Ent.nil _) ?_, fun h => ?_⟩
    ·have hb : g.rs[k].r.any (badSy g.ts g.ns) = true := List.any_eq_true.2 ⟨g.rs[k].r[j], List.getElem_mem hj, by
      unfold badSy
      cases ht : g.rs[k].r[j].t <;> simp only [ht, if_true, if_false, Bool.false_eq_true] at h <;> simp <;> omega⟩
     subst hR
     exact ⟨rfl, by rw [hgen 3 (by rw [hf1, if_pos hb]) (by decide)]⟩
    ·have hok2 : okSy g.rs[k].r[j] := by
      unfold okSy
      cases ht : g.rs[k].r[j].t <;> simp only [ht, if_true, if_false, Bool.false_eq_true] at h <;> omega
     have hnb : badSy g.ts g.ns g.rs[k].r[j] = false := by
      unfold badSy
      cases ht : g.rs[k].r[j].t <;> simp only [ht, if_true, if_false, Bool.false_eq_true] at h <;> simp <;> omega
     rw [rune_str hok2.1 hok2.2, fn_cat (by simp only [List.length_cons, List.length_append, List.length_nil]; omega)]
     simp -implicitDefEqProofs only [go_sem,zA,zB,zC,zD,zE,reduceCtorEq,↓reduceIte,zF,zG,zH,zI]
     simp (disch := omega) only [wrap_id]
     refine Up.here ⟨f' - 1, by omega, Up.here ⟨_, rfl, hM, j + 1, ?_, by omega, fun i hi hij => ?_⟩⟩
     ·have e : symsK (g.rs[k].r.take (j + 1)) = symsK (g.rs[k].r.take j) ++ symK g.rs[k].r[j] := by
       rw [List.take_succ_eq_append_getElem hj]
       simp only [symsK, List.flatMap_append, List.flatMap_cons, List.flatMap_nil, List.append_nil]
      rw [e]
      simp [symK]
     ·by_cases e : i = j
      ·subst e; exact ⟨hnb, hok2⟩
      ·exact hno i hi (by omega)
  have hj : j = g.rs[k].r.length := by omega
  rw [hj, List.take_length]
  have hnb : ¬ (g.rs[k].r.any (badSy g.ts g.ns) = true) := by
   intro h
   obtain ⟨x, hx, hb⟩ := List.any_eq_true.1 h
   obtain ⟨i, hi, rfl⟩ := List.getElem_of_mem hx
   rw [(hno i hi (by omega)).1] at hb
   cases hb
  have hf2 : faultAt g k g.rs[k] = if g.rs[k] ∈ g.rs.take k then 6 else 0 := by rw [hf1, if_neg hnb]
  have hokr : (0 ≤ g.rs[k].l ∧ g.rs[k].l < 10) ∧ g.rs[k].r.length ≤ 4 ∧ ∀ s ∈ g.rs[k].r, okSy s := by
   refine ⟨by omega, by omega, fun s hs => ?_⟩
   obtain ⟨i, hi, rfl⟩ := List.getElem_of_mem hs
   exact (hno i hi (by omega)).2
  rw [show UInt8.ofNat g.rs[k].l.toNat :: symsK g.rs[k].r = keyK g.rs[k] from rfl]
  have hkl : (keyK g.rs[k]).length ≤ 1000 := by simp only [keyK, List.length_cons, symsK_len]; omega
  have hkinj : ∀ r ∈ g.rs.take k, keyK r = keyK g.rs[k] → r = g.rs[k] := by
   intro r hr he
   have h1 := hall r hr
   simp only [keyK, List.cons.injEq] at he
   have e1 := byte_inj h1.1.1 h1.1.2 hokr.1.1 hokr.1.2 he.1
   have e2 := symsK_inj h1.2.2 hokr.2.2 he.2
   cases r
   simp only at e1 e2
   rw [e1, e2]
  refine s_q trivial (qr_look hkt (et := 4) (z := .bool false) (by kernel_rfl) (zero_run (by kernel_rfl)) false (hM.l (by simp)) hkl) ?_
  simp -implicitDefEqProofs only [go_sem,zA,zB,zC,zD,zE,reduceCtorEq,↓reduceIte,zF,zG,zH,zI]
  rw [mget_set]
  by_cases hin : g.rs[k] ∈ g.rs.take k
  ·rw [if_pos (List.mem_map.2 ⟨_, hin, rfl⟩)]
   simp only [Option.elim_some]
   simp -implicitDefEqProofs only [go_sem,zA,zB,zC,zD,zE,reduceCtorEq,↓reduceIte,zF,zG,zH,zI]
   refine Up.to [] (Ent.nil _) ?_
   subst hR
   exact ⟨rfl, by rw [hgen 6 (by rw [hf2, if_pos hin]) (by decide)]⟩
  ·have hnk : keyK g.rs[k] ∉ (g.rs.take k).map keyK := by
    intro h
    obtain ⟨r, hr, he⟩ := List.mem_map.1 h
    exact hin (hkinj r hr he ▸ hr)
   rw [if_neg hnk]
   simp only [Option.elim_none]
   simp -implicitDefEqProofs only [go_sem,zA,zB,zC,zD,zE,reduceCtorEq,↓reduceIte,zF,zG,zH,zI]
   refine s_upd hkt (et := 4) (ix := 0) (eV := Value.bool) (by kernel_rfl) rfl hM true hkl ?_
   intro g' hM' _
   rw [mput_set _ _ _ hnk, ← List.take_succ_eq_append_getElem hk] at hM'
   simp -implicitDefEqProofs only [go_sem,zA,zB,zC,zD,zE,reduceCtorEq,↓reduceIte,zF,zG,zH,zI]
   simp (disch := omega) only [wrap_id]
   refine ⟨f - 1, by omega, Up.here ⟨_, rfl, k + 1, rfl, by omega, hzero (by rw [hf2, if_neg hin]), fun r hr => ?_, hM'⟩⟩
   rw [List.take_succ_eq_append_getElem hk, List.mem_append, List.mem_singleton] at hr
   rcases hr with hr | rfl
   ·exact hall r hr
   ·exact hokr
 ·have hk : k = g.rs.length := by omega
  subst hk
  refine Up.to [] (Ent.nil _) ?_
  subst hR
  exact ⟨rfl, by rw [hck, hck0]⟩
/- The text of parlance/parllaw5.dfaFault as a statement; no condition. -/
def S68_0 : Stmt :=
 .seq
 (.region
 [oq 2 (.box true 24 (.tmp 0)),oq 3 (.box true 94 (.tmp 1)),
 oq 4 (.mv (.const (.int .i64 0)))]
 [2,3])
 (.seq
 (.seq
 (.region
 [oq 7 (.load true 4 (.tmp 2)),
 oq 8 (.call (.func 62) [.tmp 7]),
 oq 5 (.mv (.tmp 8))]
 [2,3,5])
 (.seq
 (.region
 [oq 9 (.mv (.tmp 5)),
 oq 10 (.ibin .neq (.tmp 9) (.const (.int .i64 0)))]
 [2,3,5,10])
 (.cond (.tmp 10)
 (.seq
 (.region
 [oq 11 (.mv (.tmp 5)),oq 4 (.mv (.tmp 11))] [4])
 .ret)
 .skip)))
 (.seq
 (.seq
 (.region
 [oq 12 (.load true 3 (.tmp 3)),
 oq 13 (.call (.func 135) [.tmp 12]),
 oq 6 (.mv (.tmp 13))]
 [2,3,6])
 (.seq
 (.region
 [oq 14 (.mv (.tmp 6)),
 oq 15 (.ibin .neq (.tmp 14) (.const (.int .i64 0)))]
 [2,3,6,15])
 (.cond (.tmp 15)
 (.seq
 (.region
 [oq 16 (.mv (.tmp 6)),oq 4 (.mv (.tmp 16))]
 [4])
 .ret)
 .skip)))
 (.seq
 (.seq
 (.quiet
 [oq 17 (.fld 2 (.tmp 3)),
 oq 18 (.load false 1 (.tmp 17)),
 oq 19 (.idx 1 (.tmp 18) (.const (.int .i64 0))),
 oq 20 (.load false 1 (.tmp 19)),
 oq 21 (.len false (.tmp 20)),
 oq 22 (.fld 0 (.tmp 2)),
 oq 23 (.load false 1 (.tmp 22)),
 oq 24 (.ibin .neq (.tmp 21) (.tmp 23))]
 [3,24])
 (.cond (.tmp 24)
 (.seq (.region [oq 4 (.mv (.const (.int .i64 1)))] [4])
 .ret)
 .skip))
 (.seq
 (.seq
 (.region
 [oq 25 (.fld 2 (.tmp 3)),
 oq 26 (.load false 1 (.tmp 25)),
 oq 27 (.len false (.tmp 26)),
 .mk (some 28) none
 (.ibin .gtr (.tmp 27) (.const (.int .i64 12)))]
 [28])
 (.cond (.tmp 28)
 (.seq (.region [oq 4 (.mv (.const (.int .i64 2)))] [4])
 .ret)
 .skip))
 (.seq (.region [oq 4 (.mv (.const (.int .i64 0)))] [4])
 .ret)))))
def S68 : FnS := ⟨29,[(4,none)],S68_0⟩
theorem tr68 : trFn Try.prog 68 [2,3] [[2,3],[2,3,5],[2,3,5,10],[4],[2,3,6],[2,3,6,15],[4],[3,24],[4],[28],[4],[4]] = some S68 := by kernel_rfl
/- An automaton of a law, the first error of a grammar and an automaton; no condition. -/
theorem dfa_errs {Γr : Ctx} {g : Gr} {d : Da} {G A B : Option Addr × Nat} (hG : SlOk (lk Γr) G.1 G.2 g.rs) (hA : SlOk (lk Γr) A.1 A.2 d.ac) (hB : SlOk (lk Γr) B.1 B.2 d.nx) :
  Ret Try.prog 68 [.agg #[.int .i64 g.ts, .int .i64 g.ns, .int .i64 g.st, .slice G.1 g.rs.length G.2], .agg #[.int .i64 d.st, .slice A.1 d.ac.length A.2, .slice B.1 d.nx.length B.2]] Γr [] (fun v Γ => Γ = [] ∧ v = .int .i64 (meetE g d)) := by
 generalize hR : (fun (v : Value) (Γ : Ctx) => Γ = [] ∧ _) = R
 refine ret_of_vc tr68 (Nat.le_of_ble_eq_true rfl) ?_
 unfold meetE at hR
 simp -implicitDefEqProofs only [S68, S68_0, go_sem,zA,zB,zC,zD,zE,reduceCtorEq,↓reduceIte,zF,zG,zH,zI]
 intro b1 b2
 refine CallVC.read (Γ := []) (rule_fault (Γr := [] ++ Γr) hG) ?_
 rintro v Γ' ⟨rfl, rfl⟩
 simp -implicitDefEqProofs only [go_sem,zA,zB,zC,zD,zE,reduceCtorEq,↓reduceIte,zF,zG,zH,zI]
 refine ⟨fun h => Up.here ?_, fun h0 => ?_⟩
 ·subst hR
  exact ⟨rfl, by rw [if_pos h]⟩
 rw [if_neg (by omega)] at hR
 refine CallVC.read (Γ := []) (ref_dfa (Γr := [] ++ Γr) hA hB) ?_
 rintro v Γ' ⟨rfl, rfl⟩
 simp -implicitDefEqProofs only [go_sem,zA,zB,zC,zD,zE,reduceCtorEq,↓reduceIte,zF,zG,zH,zI]
 refine ⟨fun h => Up.here ?_, fun h1 => ?_⟩
 ·subst hR
  exact ⟨rfl, by rw [if_pos h]⟩
 rw [if_neg (by omega)] at hR
 have D := dfF_ok h1
 have hdl := D.len
 obtain ⟨b3, o3, hB3, A4, c4, hs4, hc4⟩ := hB.list (i := 0) (by omega)
 have hcols : colsD d = d.nx[0].length := (cols_at (by omega)).symm
 rw [hcols] at hR
 refine s_idx hB3 (by omega) (by omega) ?_
 simp -implicitDefEqProofs only [go_sem,zA,zB,zC,zD,zE,reduceCtorEq,↓reduceIte,zF,zG,zH,zI]
 refine s_ld0 (hc4 _ (lk_r _ _)) (by simp) (by simp) ?_
 simp -implicitDefEqProofs only [go_sem,zA,zB,zC,zD,zE,reduceCtorEq,↓reduceIte,zF,zG,zH,zI]
 refine ⟨fun h => Up.here ?_, fun h2 => ?_⟩
 ·subst hR
  exact ⟨rfl, by rw [if_pos h]⟩
 rw [if_neg (by omega)] at hR
 refine ⟨fun h => Up.here ?_, fun h3 => Up.here ?_⟩
 ·subst hR
  exact ⟨rfl, by rw [if_pos (by omega)]⟩
 ·subst hR
  exact ⟨rfl, by rw [if_neg (by omega)]⟩
/- Sets of texts, and rows of them; no condition. -/
set_option linter.unusedSectionVars false
attribute [local go_sem] e_seq e_region e_quiet e_join e_loop e_cond e_block e_exit e_ret e_skip e_fin e_kseq e_snrm e_sret e_sex e_bnrm e_bret e_bex e_rnrm e_rret e_res e_condC e_nil e_g e_mv g_mv e_pick g_pick pickC_eq e_ibin g_ibin ibinC_eq e_sbin g_sbin e_beq g_beq beqC_eq e_nilq g_nilq nilqC_sl nilqC_pt nilqC_mp e_un g_un unC_not unC_neg e_conv g_conv convC_eq e_fld g_fld fldC_ref fldC_ptr e_nilCheck g_nilCheck nilCheckC_ref nilCheckC_ptr nilCheckC_fun e_field g_field fieldC_eq e_len g_len lenC_sl lenC_str e_extract g_extract extractC_eq e_mkFunc e_build g_build e_idiv g_idiv idivC_eq e_ishift g_ishift ishiftC_eq e_idx g_idx e_idxA g_idxA e_load g_load e_loadB g_loadB atB_ref atB_v g_mkFunc loadC_ref loadC_ptr loadB_eq e_slc g_slc e_box boxC_loc boxC_esc e_alloc allocC_loc allocC_esc e_buildS e_store storeC_ref storeC_ptr storeB_eq e_append e_appz e_mk mkC_eq e_call callC_eq e_fn g_fn fnC_eq fnV_min' fnV_max' fnV_rune' e_q g_q e_a e_n g_call g_box g_alloc g_buildS g_store g_append g_mk g_a g_n g_dead e_dead e_callK e_drawn e_tree e_finJ e_tk e_tfin e_tno e_nbt_q e_nbt_qn e_nbt_a e_nbt_an e_nbt_fin e_drawnB e_bxb_nil e_bxb e_stB_none e_stB_some boxSt_store bs_mv bs_pick bs_ibin bs_idiv bs_ishift bs_sbin bs_beq bs_nilq bs_un bs_conv bs_box bs_alloc bs_build bs_buildS bs_load bs_fld bs_nilCheck bs_idx bs_idxA bs_field bs_slc bs_len bs_append bs_appz bs_mk bs_call bs_extract bs_mkFunc bs_fn bs_q bs_a bs_n bs_loadB bs_dead isBox_box e_early_nil e_early_t e_early_f e_nob_nil e_nob_none e_nob_some isBox_dead isBox_v isBox_ref e_dnil e_dk e_ek e_finB vcOps_vc1 e_dcons e_tq e_ekt e_tearly e_talt e_dearly look_nil look_c proj_nil proj_c looks_nil looks_c zip_nil zip_c val_tmp val_const val_func slv_v slv_box slv_ref slot_tmp slot_const slot_func slotL_v slotL_box slotL_ref put_some put_none updBox_c boxSet_box gd_eq slotVals_nil slotVals_c slotVals_b boxV_box boxOn_box slotsOn_nil slotsOn_c slotsOn_b resV_one resV_two vals_nil vals_c allOn_nil allOn_c partOn_nil partOn_c partVals_nil partVals_c fits_nil fits_c fillL_nil fillL_c mkv_one mkv_agg cellsV_agg cellsV_int cellsV_bool cellsV_slice cellsV_string cellsV_pointer cellsV_func cellsV_nilf cellsV_map one'_nil one'_c oc_int oc_bool oc_slice oc_string oc_pointer oc_func oc_nilf oc_map setC_eq iv_add iv_sub iv_mul iv_eql iv_neq iv_lss iv_leq iv_gtr iv_geq iok_add iok_sub iok_mul iok_eql iok_neq iok_lss iok_leq iok_gtr iok_geq pickV_bool args0_nil args0_c bnd_none bnd_some imp_bt imp_bf imp_ebt imp_ebf imp_eb1 imp_np imp_pp beq_tt beq_tf beq_ft beq_ff cond_or cond_and e_round e_meet Int.le_refl Int.toNat_zero decide_true decide_false Bool.or_false Bool.false_or Bool.true_or Bool.or_true Bool.and_false Bool.false_and Bool.bne_false Bool.bne_true beq_iff_eq Int.cast_ofNat_Int not_false_eq_true not_true_eq_false false_and and_false false_implies true_implies true_and and_true Bool.true_and Bool.and_true Bool.not_true Bool.not_false forall_const implies_true List.take_zero List.drop_zero List.take_succ_cons List.drop_succ_cons List.take_nil List.drop_nil List.length_cons List.length_nil List.nil_append List.append_nil List.cons_append Int.toNat_natCast decide_eq_true_eq decide_eq_false_iff_not cond_true cond_false and_self List.getElem?_cons_zero List.getElem?_cons_succ List.set_cons_zero List.set_cons_succ Option.some.injEq exists_eq_left' Nat.zero_add Nat.add_zero Nat.mul_one imp_self true_or or_true or_false false_or Bool.or_eq_true Bool.or_eq_false_iff Bool.and_eq_true Bool.and_eq_false_iff Bool.not_eq_true' Bool.not_eq_false'

theorem lenV_strB (u : List UInt8) : lenV true (strB u) = some (u.length : Int) := by simp [lenV, strB, ByteArray.size]
def good8 (l : List UInt8) : Prop := l.length ≤ 1000
/-- the map b is the set l of texts -/
def SetS (L : Mem) (b : Nat) (l : List (List UInt8)) : Prop := MapL L b strB Value.bool good8 (mset id l)
def StrM (g : PH) (b : Nat) (l : List (List UInt8)) : Prop := MapM g b strB Value.bool good8 (mset id l)
theorem StrM.l {g : PH} {Γ : Ctx} {b : Nat} {l : List (List UInt8)} (h : StrM g b l) (hg : g ∈ Γ) : SetS (lk Γ) b l := MapM.l h hg
theorem SetS.mono {L L' : Mem} {b : Nat} {l : List (List UInt8)} (h : SetS L b l) (hl : Mem.le L L') : SetS L' b l := MapL.mono h hl
theorem StrM.mono {g g' : PH} {b : Nat} {l : List (List UInt8)} (h : StrM g b l) (hg : Mem.le (lk [g]) (lk [g'])) : StrM g' b l := MapM.mono h hg
theorem SetS.nodup {L : Mem} {b : Nat} {l : List (List UInt8)} (h : SetS L b l) : l.Nodup := by
 have := MapL.nodup h
 rwa [mset_keys, List.map_id] at this
theorem SetS.good {L : Mem} {b : Nat} {l : List (List UInt8)} (h : SetS L b l) : ∀ x ∈ l, x.length ≤ 1000 := fun x hx => MapL.good h (x, true) (List.mem_map.2 ⟨x, hx, rfl⟩)
theorem mset_mem {l : List (List UInt8)} {p : List UInt8 × Bool} : p ∈ mset id l ↔ p.1 ∈ l ∧ p.2 = true := by
 obtain ⟨x, c⟩ := p
 simp only [mset, List.mem_map, id, Prod.mk.injEq]
 constructor
 ·rintro ⟨y, h, rfl, rfl⟩; exact ⟨h, rfl⟩
 ·rintro ⟨h, rfl⟩; exact ⟨x, h, rfl, rfl⟩
def addT (l : List (List UInt8)) (x : List UInt8) : List (List UInt8) := if x ∈ l then l else l ++ [x]
theorem addT_mem {l : List (List UInt8)} {x y : List UInt8} : y ∈ addT l x ↔ y ∈ l ∨ y = x := by
 unfold addT
 split
 ·rename_i h
  exact ⟨.inl, fun q => q.elim id fun e => by rw [e]; exact h⟩
 ·simp
theorem mset_dupT {l : List (List UInt8)} {x : List UInt8} (h : x ∈ l) : mput (mset id l) x true = mset id l := by
 rw [mput, mset_keys, List.map_id, if_pos h]
 unfold mset
 rw [List.map_map]
 apply List.map_congr_left
 intro y _
 simp only [Function.comp, id]
 split
 ·rename_i e; rw [e]
 ·rfl
theorem look_str {Γ : Ctx} {t kt : TypeId} {b : Nat} {l : List (List UInt8)} {x : List UInt8} (ht : Try.prog.underlying t = some (.map kt 4)) (hk : Try.prog.underlying kt = some .string) (h : SetS (lk Γ) b l) (hx : x.length ≤ 1000) : QR Try.prog (.look t false) [.map (some b), strB x] Γ (.bool (decide (x ∈ l))) := by
 have := qr_look (kt_str hk) (t := t) (et := 4) (z := .bool false) ht (zero_run (by kernel_rfl)) false h hx
 rw [mget_set, List.map_id] at this
 by_cases e : x ∈ l
 ·rw [if_pos e] at this
  simpa [e] using this
 ·rw [if_neg e] at this
  simpa [e] using this
theorem s_addT {Γr : Ctx} {d : Option Nat} {r : List SOper} {φ : Fr} {Γ : Ctx} {K : Fr → Ctx → Prop} {t kt : TypeId} {g : PH} {ix b : Nat} {l : List (List UInt8)} (ht : Try.prog.underlying t = some (.map kt 4)) (hkt : Try.prog.underlying kt = some .string) (hg : Γ[ix]? = some g) (hm : StrM g b l) {x : List UInt8} (hx : x.length ≤ 1000)
  (hk : ∀ g', StrM g' b (addT l x) → (∀ k, k ≠ b → g' k = g k) → vcOps Try.prog Γr r (put φ d (.v true undef)) (Γ.set ix g') K) : aC Try.prog Γr d r φ Γ K (.upd t) [.map (some b), strB x, .bool true] := by
 refine s_upd (kt_str hkt) (eV := Value.bool) ht hg hm true hx fun g' h ho => hk g' ?_ ho
 unfold addT
 split
 ·rename_i h1
  rw [mset_dupT h1] at h
  exact h
 ·rename_i h1
  have := mput_set id l x (by simpa using h1)
  simp only [id] at this
  rw [this] at h
  exact h
/-! a row of sets -/
structure RowS (g : PH) (bo : Nat) (T : TypeId) (maps : List (List (List UInt8))) (bs : List Nat) : Prop where
 len : bs.length = maps.length
 out : g bo = some (.cells (bs.map fun b => Value.map (some b)).toArray T (0, 0))
 nodup : bs.Nodup
 apart : bo ∉ bs
 map : ∀ (i b : Nat) l, bs[i]? = some b → maps[i]? = some l → StrM g b l
def GridS (g : PH) (bo : Nat) (T : TypeId) (maps : List (List (List UInt8))) : Prop := ∃ bs, RowS g bo T maps bs
theorem GridS.mono {g g' : PH} {bo : Nat} {T : TypeId} {maps : List (List (List UInt8))} (h : GridS g bo T maps) (hl : Mem.le (lk [g]) (lk [g'])) : GridS g' bo T maps := by
 obtain ⟨bs, h⟩ := h
 exact ⟨bs, h.len, lk_one.1 (hl _ _ (lk_one.2 h.out)), h.nodup, h.apart, fun i b l h1 h2 => (h.map i b l h1 h2).mono hl⟩
theorem nodup_inj {l : List Nat} (h : l.Nodup) {i j : Nat} (hi : i < l.length) (hj : j < l.length) (e : l[i] = l[j]) : i = j := by
 rcases Nat.lt_trichotomy i j with q | q | q
 ·exact absurd e ((List.pairwise_iff_getElem.1 h) i j hi hj q)
 ·exact q
 ·exact absurd e.symm ((List.pairwise_iff_getElem.1 h) j i hj hi q)
/-- maps[i] -/
theorem GridS.at' {g : PH} {bo : Nat} {T : TypeId} {maps : List (List (List UInt8))} (h : GridS g bo T maps) {i : Nat} (hi : i < maps.length) :
  ∃ b, (∀ Γ : Ctx, g ∈ Γ → Cells Γ bo i [.map (some b)]) ∧ StrM g b maps[i] ∧ b ≠ bo ∧ ∀ g' l, StrM g' b l → (∀ k, k ≠ b → g' k = g k) → GridS g' bo T (maps.set i l) := by
 obtain ⟨bs, h⟩ := h
 have hib : i < bs.length := by rw [h.len]; exact hi
 refine ⟨bs[i], fun Γ hg => ⟨g, hg, _, T, _, h.out, fun j hj => ?_⟩, h.map i _ _ (List.getElem?_eq_getElem hib) (List.getElem?_eq_getElem hi), fun e => h.apart (e ▸ List.getElem_mem hib), fun g' l hl ho => ⟨bs, ?_, ?_, h.nodup, h.apart, fun j b l' h1 h2 => ?_⟩⟩
 ·have : j = 0 := by simp at hj; exact hj
  subst this
  simp [hib]
 ·rw [List.length_set]; exact h.len
 ·rw [ho bo (fun e => h.apart (by rw [e]; exact List.getElem_mem hib))]; exact h.out
 ·by_cases e : j = i
  ·subst e
   rw [List.getElem?_eq_getElem hib] at h1
   rw [List.getElem?_set_self hi] at h2
   cases h1
   cases h2
   exact hl
  ·rw [List.getElem?_set_ne (fun q => e q.symm)] at h2
   have hne : b ≠ bs[i] := fun q => by
    subst q
    obtain ⟨hj, h3⟩ := List.getElem?_eq_some_iff.1 h1
    exact e (nodup_inj h.nodup hj hib h3)
   have hm := h.map j b l' h1 h2
   obtain ⟨es, c, q1, q2⟩ := hm.at'
   exact ⟨MapL.nodup hm, MapL.good hm, es, c, by rw [ho b hne]; exact q1, q2⟩
/-- the sets that have been made so far -/
structure PartS (g : PH) (bo : Nat) (T : TypeId) (m : Nat) (bs : List Nat) : Prop where
 len : bs.length ≤ m
 out : g bo = some (.cells (bs.map (fun b => Value.map (some b)) ++ List.replicate (m - bs.length) (Value.map none)).toArray T (0, 0))
 nodup : bs.Nodup
 apart : bo ∉ bs
 map : ∀ b ∈ bs, StrM g b []
theorem PartS.made (bo : Nat) (T : TypeId) (m : Nat) : PartS (one bo (.cells (zerosL [Value.map none] m).toArray T)) bo T m [] := by
 refine ⟨by simp, ?_, by simp, by simp, by simp⟩
 rw [one_self]
 congr 3
 induction m with
 | zero => rfl
 | succ m ih => simp [zerosL, List.replicate_succ, ih]
theorem PartS.full {g : PH} {bo : Nat} {T : TypeId} {m : Nat} {bs : List Nat} (h : PartS g bo T m bs) (hl : bs.length = m) : GridS g bo T (List.replicate m []) := by
 refine ⟨bs, by simpa using hl, ?_, h.nodup, h.apart, fun i b l h1 h2 => ?_⟩
 ·rw [h.out, hl]; simp
 ·rw [List.getElem?_replicate] at h2
  split at h2
  ·cases h2
   exact h.map b (List.mem_of_getElem? h1)
  ·cases h2
/-- out[i] = texts{} -/
theorem s_storeS {P : Program} {Γr : Ctx} {r : List SOper} {φ : Fr} {Γ : Ctx} {K : Fr → Ctx → Prop} {g : PH} {ix bo i k : Nat} {T : TypeId} {m : Nat} {bs : List Nat} (hg : Γ[ix]? = some g) (h : PartS g bo T m bs) (hi : i = bs.length) (him : i < m)
  (hk : ∀ g', (∀ x2 G, StrM x2 k [] → Disj x2 g' → Mem.le (lk [x2, g']) (lk [G]) → PartS G bo T m (bs ++ [k])) → vcOps P Γr r φ (Γ.set ix g') K) : storeP P Γr r φ Γ K 1 bo i (.map (some k)) := by
 subst hi
 refine ⟨ix, g, _, T, hg, h.out, by simp; omega, ?_⟩
 refine hk _ fun x2 G h1 hd hG => ?_
 obtain ⟨es, c, q1, q2⟩ := h1.at'
 have up1 : ∀ j o, x2 j = some o → G j = some o := fun j o q => lk_one.1 (hG _ _ ⟨x2, by simp, q⟩)
 have hk1 : ∀ j, upd g bo (.cells (setC ((bs.map (fun b => Value.map (some b)) ++ List.replicate (m - bs.length) (Value.map none)).toArray).toList bs.length 1 (Value.map (some k))).toArray T) j ≠ none → j ≠ k := fun j hj q => by
  subst q
  rcases hd j with q | q
  ·rw [q1] at q; cases q
  ·exact hj q
 have hbk : bo ≠ k := hk1 bo (by rw [upd_self]; simp)
 have up2 : ∀ j o, upd g bo (.cells (setC ((bs.map (fun b => Value.map (some b)) ++ List.replicate (m - bs.length) (Value.map none)).toArray).toList bs.length 1 (Value.map (some k))).toArray T) j = some o → G j = some o := fun j o q => lk_one.1 (hG _ _ ⟨_, by simp, q⟩)
 have hbs : ∀ b ∈ bs, b ≠ bo := fun b hb q => h.apart (q ▸ hb)
 have hmap : ∀ b ∈ bs, ∃ es c, g b = some (.map es c) := fun b hb => let ⟨es, c, q1, _⟩ := (h.map b hb).at'; ⟨es, c, q1⟩
 refine ⟨by simp; omega, ?_, ?_, ?_, fun b hb => ?_⟩
 ·rw [up2 bo _ (upd_self _ _ _)]
  congr 3
  obtain ⟨d, hd⟩ : ∃ d, m - bs.length = d + 1 := ⟨m - bs.length - 1, by omega⟩
  have hd2 : m - (bs ++ [k]).length = d := by simp; omega
  rw [hd, hd2]
  have hlm : bs.length = (bs.map (fun b => Value.map (some b))).length := by simp
  simp only [List.toList_toArray, setC]
  rw [hlm, List.take_left, List.replicate_succ, List.map_append]
  simp only [cellsV, List.map_cons, List.map_nil]
  rw [List.drop_append, List.drop_eq_nil_of_le (by simp)]
  simp
 ·rw [List.nodup_append]
  refine ⟨h.nodup, by simp, ?_⟩
  rintro x hx y hy rfl
  simp at hy
  subst hy
  obtain ⟨es', c', q⟩ := hmap x hx
  exact hk1 x (by rw [upd_other (hbs x hx), q]; simp) rfl
 ·simp only [List.mem_append, List.mem_singleton, not_or]
  exact ⟨h.apart, hbk⟩
 ·rcases List.mem_append.1 hb with hb | hb
  ·have hm := h.map b hb
   obtain ⟨es', c', q3, q4⟩ := hm.at'
   exact ⟨MapL.nodup hm, MapL.good hm, es', c', up2 b _ (by rw [upd_other (hbs b hb)]; exact q3), q4⟩
  ·simp at hb
   subst hb
   exact ⟨MapL.nodup h1, MapL.good h1, es, c, up1 _ _ q1, q2⟩
/- The text of parlance/parlref5.WordsOf as a statement; no condition. -/
def S158_1 : Stmt :=
 .seq
 (.region [oq 26 (.ibin .lss (.tmp 25) (.tmp 24))]
 [1,2,3,8,24,25,26])
 (.seq (.cond (.tmp 26) .skip (.exit 0))
 (.seq
 (.block 1
 (.seq
 (.region
 [oq 27 (.mv (.tmp 25)),oq 9 (.mv (.tmp 27))]
 [1,2,3,8,9,24,25])
 (.region
 [oq 28 (.mv (.tmp 8)),oq 29 (.mv (.tmp 9)),
 oq 30 (.n (Qk.mkmap 315) []),
 oq 31 (.idx 1 (.tmp 28) (.tmp 29)),
 .mk none none (.store 1 (.tmp 31) (.tmp 30))]
 [1,2,3,8,24,25])))
 (.region
 [oq 32 (.ibin .add (.tmp 25) (.const (.int .i64 1))),
 oq 25 (.mv (.tmp 32))]
 [1,2,3,8,24,25])))
def S158_2 : Stmt :=
 .seq
 (.region
 [oq 59 (.mv (.tmp 17)),oq 60 (.len true (.tmp 59)),
 oq 61 (.mv (.tmp 1)),
 oq 62 (.ibin .lss (.tmp 60) (.tmp 61))]
 [1,2,3,8,10,12,15,16,17,35,36,37,44,45,46,52,62])
 (.cond (.tmp 62)
 (.region
 [oq 63 (.mv (.tmp 16)),oq 64 (.mv (.tmp 17)),
 oq 65 (.fld 1 (.tmp 15)),
 oq 66 (.load false 1 (.tmp 65)),
 oq 67 (.conv .u8 (.tmp 66)),
 oq 68 (.buildS 5 1 [.int .u8 0] [(0,1,.tmp 67)]),
 oq 69 (.q (Qk.cnv 316 9) [.tmp 68]),
 oq 70 (.fn Fk.cat [.tmp 64,.tmp 69]),
 .mk none none (.a (Qk.upd 315) [.tmp 63,.tmp 70,.const (.bool true)])]
 [1,2,3,8,10,12,15,16,35,36,37,44,45,46,52])
 .skip)
def S158_3 : Stmt :=
 .exit 9
def S158_4 : Stmt :=
 .seq
 (.region
 [oq 77 (.a (Qk.next false) [.tmp 76]),
 oq 78 (.extract 0 (.tmp 77))]
 [1,2,3,8,10,12,15,16,17,35,36,37,44,45,46,52,76,78])
 (.seq (.cond (.tmp 78) .skip (.exit 10))
 (.block 11
 (.seq
 (.region
 [oq 79 (.q Qk.entry [.tmp 76]),
 oq 80 (.extract 0 (.tmp 79)),oq 18 (.mv (.tmp 80))]
 [1,2,3,8,10,12,15,16,17,18,35,36,37,44,45,46,52,76])
 (.seq
 (.region
 [oq 81 (.mv (.tmp 17)),oq 82 (.len true (.tmp 81)),
 oq 83 (.mv (.tmp 18)),
 oq 84 (.len true (.tmp 83)),
 oq 85 (.ibin .add (.tmp 82) (.tmp 84)),
 oq 86 (.mv (.tmp 1)),
 oq 87 (.ibin .leq (.tmp 85) (.tmp 86))]
 [1,2,3,8,10,12,15,16,17,18,35,36,37,44,45,46,52,76,87])
 (.cond (.tmp 87)
 (.region
 [oq 88 (.mv (.tmp 16)),oq 89 (.mv (.tmp 17)),
 oq 90 (.mv (.tmp 18)),
 oq 91 (.fn Fk.cat [.tmp 89,.tmp 90]),
 .mk none none
 (.a (Qk.upd 315) [.tmp 88,.tmp 91,.const (.bool true)])]
 [1,2,3,8,10,12,15,16,17,35,36,37,44,45,46,52,76])
 .skip)))))
def S158_5 : Stmt :=
 .seq
 (.region
 [oq 53 (.a (Qk.next false) [.tmp 52]),
 oq 54 (.extract 0 (.tmp 53))]
 [1,2,3,8,10,12,15,16,35,36,37,44,45,46,52,54])
 (.seq (.cond (.tmp 54) .skip (.exit 8))
 (.block 9
 (.seq
 (.region
 [oq 55 (.q Qk.entry [.tmp 52]),
 oq 56 (.extract 0 (.tmp 55)),oq 17 (.mv (.tmp 56))]
 [1,2,3,8,10,12,15,16,17,35,36,37,44,45,46,52])
 (.seq
 (.seq
 (.region
 [oq 57 (.fld 0 (.tmp 15)),
 oq 58 (.load false 1 (.tmp 57))]
 [1,2,3,8,10,12,15,16,17,35,36,37,44,45,46,52,58])
 (.cond (.tmp 58)
 (.join S158_2 S158_3 [] [1,2,3,8,10,12,15,16,35,36,37,44,45,46,52]) .skip))
 (.seq
 (.region
 [oq 71 (.mv (.tmp 8)),oq 72 (.fld 1 (.tmp 15)),
 oq 73 (.load false 1 (.tmp 72)),
 oq 74 (.idx 1 (.tmp 71) (.tmp 73)),
 oq 75 (.load false 1 (.tmp 74)),
 oq 76 (.n (Qk.rng 112) [.tmp 75])]
 [1,2,3,8,10,12,15,16,17,35,36,37,44,45,46,52,76])
 (.block 10 (.loop S158_4 [] [1,2,3,8,10,12,15,16,17,35,36,37,44,45,46,52,76])))))))
def S158_6 : Stmt :=
 .seq
 (.region [oq 47 (.ibin .lss (.tmp 46) (.tmp 45))]
 [1,2,3,8,10,12,13,35,36,37,44,45,46,47])
 (.seq (.cond (.tmp 47) .skip (.exit 6))
 (.seq
 (.block 7
 (.seq
 (.region
 [oq 48 (.idx 2 (.tmp 44) (.tmp 46)),
 oq 49 (.load true 2 (.tmp 48)),
 .mk (some 15) none
 (.alloc true 53 (.agg (Array.mk [.bool false,.int .i64 0]))),
 .mk none none (.store 2 (.tmp 15) (.tmp 49))]
 [1,2,3,8,10,12,13,15,35,36,37,44,45,46])
 (.seq
 (.region
 [oq 50 (.n (Qk.mkmap 315) []),oq 16 (.mv (.tmp 50))]
 [1,2,3,8,10,12,13,15,16,35,36,37,44,45,46])
 (.seq
 (.seq
 (.region
 [oq 51 (.mv (.tmp 13)),
 oq 52 (.n (Qk.rng 315) [.tmp 51])]
 [1,2,3,8,10,12,15,16,35,36,37,44,45,46,52])
 (.block 8 (.loop S158_5 [] [1,2,3,8,10,12,15,16,35,36,37,44,45,46,52])))
 (.region
 [oq 92 (.mv (.tmp 16)),oq 13 (.mv (.tmp 92))]
 [1,2,3,8,10,12,13,35,36,37,44,45,46])))))
 (.region
 [oq 93 (.ibin .add (.tmp 46) (.const (.int .i64 1))),
 oq 46 (.mv (.tmp 93))]
 [1,2,3,8,10,12,13,35,36,37,44,45,46])))
def S158_7 : Stmt :=
 .seq
 (.region
 [oq 96 (.a (Qk.next false) [.tmp 95]),
 oq 97 (.extract 0 (.tmp 96))]
 [1,2,3,8,10,12,35,36,37,95,97])
 (.seq (.cond (.tmp 97) .skip (.exit 12))
 (.block 13
 (.seq
 (.region
 [oq 98 (.q Qk.entry [.tmp 95]),
 oq 99 (.extract 0 (.tmp 98)),oq 19 (.mv (.tmp 99))]
 [1,2,3,8,10,12,19,35,36,37,95])
 (.seq
 (.region
 [oq 100 (.mv (.tmp 8)),oq 101 (.fld 0 (.tmp 12)),
 oq 102 (.load false 1 (.tmp 101)),
 oq 103 (.idx 1 (.tmp 100) (.tmp 102)),
 oq 104 (.load false 1 (.tmp 103)),
 oq 105 (.mv (.tmp 19)),
 oq 106 (.q (Qk.look 112 false) [.tmp 104,.tmp 105]),
 oq 107 (.un .not (.tmp 106))]
 [1,2,3,8,10,12,19,35,36,37,95,107])
 (.cond (.tmp 107)
 (.region
 [oq 108 (.mv (.tmp 8)),oq 109 (.fld 0 (.tmp 12)),
 oq 110 (.load false 1 (.tmp 109)),
 oq 111 (.idx 1 (.tmp 108) (.tmp 110)),
 oq 112 (.load false 1 (.tmp 111)),
 oq 113 (.mv (.tmp 19)),
 oq 114 (.a (Qk.ment 112) [.tmp 112,.tmp 113]),
 oq 115 (.extract 1 (.tmp 114)),
 .mk none none
 (.a (Qk.estore 112) [.tmp 112,.tmp 115,.const (.bool true)]),
 oq 10 (.mv (.const (.bool true)))]
 [1,2,3,8,10,12,35,36,37,95])
 .skip)))))
def S158_8 : Stmt :=
 .seq
 (.region [oq 38 (.ibin .lss (.tmp 37) (.tmp 36))]
 [1,2,3,8,10,35,36,37,38])
 (.seq (.cond (.tmp 38) .skip (.exit 4))
 (.seq
 (.block 5
 (.seq
 (.region
 [oq 39 (.idx 2 (.tmp 35) (.tmp 37)),
 oq 40 (.load true 2 (.tmp 39)),
 .mk (some 12) none
 (.alloc true 129 (.agg (Array.mk [.int .i64 0,.slice none 0 0]))),
 .mk none none (.store 2 (.tmp 12) (.tmp 40))]
 [1,2,3,8,10,12,35,36,37])
 (.seq
 (.region
 [oq 41 (.n (Qk.mkmap 315) []),
 .mk none none
 (.a (Qk.upd 315)
 [.tmp 41,.const (.string (ByteArray.mk (Array.mk []))),
 .const (.bool true)]),
 oq 42 (.mv (.tmp 41)),oq 13 (.mv (.tmp 42))]
 [1,2,3,8,10,12,13,35,36,37])
 (.seq
 (.seq
 (.region
 [oq 43 (.fld 1 (.tmp 12)),
 oq 44 (.load false 1 (.tmp 43)),
 oq 45 (.len false (.tmp 44)),
 oq 46 (.mv (.const (.int .i64 0)))]
 [1,2,3,8,10,12,13,35,36,37,44,45,46])
 (.block 6 (.loop S158_6 [13,46] [1,2,3,8,10,12,35,36,37,44,45])))
 (.seq
 (.seq
 (.region
 [oq 94 (.mv (.tmp 13)),
 oq 95 (.n (Qk.rng 315) [.tmp 94])]
 [1,2,3,8,10,12,35,36,37,95])
 (.block 12 (.loop S158_7 [10] [1,2,3,8,12,35,36,37,95])))
 (.seq
 (.region
 [oq 116 (.mv (.tmp 8)),
 oq 117 (.fld 0 (.tmp 12)),
 oq 118 (.load false 1 (.tmp 117)),
 oq 119 (.idx 1 (.tmp 116) (.tmp 118)),
 oq 120 (.load false 1 (.tmp 119)),
 oq 121 (.q (Qk.bi 4 [112]) [.tmp 120]),
 oq 122 (.mv (.tmp 2)),
 oq 123 (.ibin .gtr (.tmp 121) (.tmp 122))]
 [1,2,3,8,10,35,36,37,123])
 (.cond (.tmp 123)
 (.seq
 (.region
 [oq 6 (.mv (.const (.slice none 0 0))),
 oq 7 (.mv (.const (.bool false)))]
 [6,7])
 .ret)
 .skip)))))))
 (.region
 [oq 124 (.ibin .add (.tmp 37) (.const (.int .i64 1))),
 oq 37 (.mv (.tmp 124))]
 [1,2,3,8,10,35,36,37])))
def S158_9 : Stmt :=
 .seq
 (.seq (.region [oq 33 (.mv (.tmp 10))] [1,2,3,8,33])
 (.cond (.tmp 33) .skip (.exit 2)))
 (.block 3
 (.seq (.region [oq 10 (.mv (.const (.bool false)))] [1,2,3,8,10])
 (.seq
 (.region
 [oq 34 (.fld 1 (.tmp 3)),
 oq 35 (.load false 1 (.tmp 34)),
 oq 36 (.len false (.tmp 35)),
 oq 37 (.mv (.const (.int .i64 0)))]
 [1,2,3,8,10,35,36,37])
 (.block 4 (.loop S158_8 [10,37] [1,2,3,8,35,36])))))
def S158_0 : Stmt :=
 .seq
 (.region
 [oq 3 (.box true 240 (.tmp 0)),
 oq 6 (.mv (.const (.slice none 0 0))),
 oq 7 (.mv (.const (.bool false)))]
 [1,2,3])
 (.seq
 (.region
 [oq 20 (.fld 0 (.tmp 3)),oq 21 (.load false 1 (.tmp 20)),
 oq 22 (.mk 112 1 8 (.map none) (.tmp 21) (.tmp 21)),
 oq 8 (.mv (.tmp 22))]
 [1,2,3,8])
 (.seq
 (.seq
 (.region
 [oq 23 (.mv (.tmp 8)),oq 24 (.len false (.tmp 23)),
 oq 25 (.mv (.const (.int .i64 0)))]
 [1,2,3,8,24,25])
 (.block 0 (.loop S158_1 [25] [1,2,3,8,24])))
 (.seq
 (.seq (.region [oq 10 (.mv (.const (.bool true)))] [1,2,3,8,10])
 (.block 2 (.loop S158_9 [10] [1,2,3,8])))
 (.seq
 (.region
 [oq 125 (.mv (.tmp 8)),oq 6 (.mv (.tmp 125)),
 oq 7 (.mv (.const (.bool true)))]
 [6,7])
 .ret))))
def S158 : FnS := ⟨126,[(6,none),(7,none)],S158_0⟩
theorem tr158 : trFn Try.prog 158 [3,12,15] [[1,2,3],[1,2,3,8],[1,2,3,8,24,25],[25],[1,2,3,8,24],[1,2,3,8,24,25,26],[1,2,3,8,9,24,25],[1,2,3,8,24,25],[1,2,3,8,24,25],[1,2,3,8,10],[10],[1,2,3,8],[1,2,3,8,33],[1,2,3,8,10],[1,2,3,8,10,35,36,37],[10,37],[1,2,3,8,35,36],[1,2,3,8,10,35,36,37,38],[1,2,3,8,10,12,35,36,37],[1,2,3,8,10,12,13,35,36,37],[1,2,3,8,10,12,13,35,36,37,44,45,46],[13,46],[1,2,3,8,10,12,35,36,37,44,45],[1,2,3,8,10,12,13,35,36,37,44,45,46,47],[1,2,3,8,10,12,13,15,35,36,37,44,45,46],[1,2,3,8,10,12,13,15,16,35,36,37,44,45,46],[1,2,3,8,10,12,15,16,35,36,37,44,45,46,52],[],[1,2,3,8,10,12,15,16,35,36,37,44,45,46,52],[1,2,3,8,10,12,15,16,35,36,37,44,45,46,52,54],[1,2,3,8,10,12,15,16,17,35,36,37,44,45,46,52],[1,2,3,8,10,12,15,16,17,35,36,37,44,45,46,52,58],[],[1,2,3,8,10,12,15,16,35,36,37,44,45,46,52],[1,2,3,8,10,12,15,16,17,35,36,37,44,45,46,52,62],[1,2,3,8,10,12,15,16,35,36,37,44,45,46,52],[1,2,3,8,10,12,15,16,17,35,36,37,44,45,46,52,76],[],[1,2,3,8,10,12,15,16,17,35,36,37,44,45,46,52,76],[1,2,3,8,10,12,15,16,17,35,36,37,44,45,46,52,76,78],[1,2,3,8,10,12,15,16,17,18,35,36,37,44,45,46,52,76],[1,2,3,8,10,12,15,16,17,18,35,36,37,44,45,46,52,76,87],[1,2,3,8,10,12,15,16,17,35,36,37,44,45,46,52,76],[1,2,3,8,10,12,13,35,36,37,44,45,46],[1,2,3,8,10,12,13,35,36,37,44,45,46],[1,2,3,8,10,12,35,36,37,95],[10],[1,2,3,8,12,35,36,37,95],[1,2,3,8,10,12,35,36,37,95,97],[1,2,3,8,10,12,19,35,36,37,95],[1,2,3,8,10,12,19,35,36,37,95,107],[1,2,3,8,10,12,35,36,37,95],[1,2,3,8,10,35,36,37,123],[6,7],[1,2,3,8,10,35,36,37],[6,7]] = some S158 := by kernel_rfl
/- The words of a grammar by sets of texts: parlref5.WordsOf; no condition. -/
def u8 (x : Int) : UInt8 := UInt8.ofNat x.toNat
def Em (maps : List (List (List UInt8))) (a : Int) (x : List UInt8) : Prop := 0 ≤ a ∧ ∃ l, maps[a.toNat]? = some l ∧ x ∈ l
def tot (maps : List (List (List UInt8))) : Nat := (maps.map List.length).sum
theorem tot_le {maps : List (List (List UInt8))} {m : Nat} (h : ∀ l ∈ maps, l.length ≤ m) : tot maps ≤ maps.length * m := by
 induction maps with
 | nil => simp [tot]
 | cons l maps ih =>
  have h1 := h l (by simp)
  have h2 := ih fun x hx => h x (by simp [hx])
  simp only [tot, List.map_cons, List.sum_cons, List.length_cons, Nat.add_mul, Nat.one_mul] at *
  omega
theorem tot_set : ∀ {maps : List (List (List UInt8))} {i : Nat} (hi : i < maps.length) (l : List (List UInt8)), tot (maps.set i l) + maps[i].length = tot maps + l.length
 | [], i, hi, _ => by simp at hi
 | m :: maps, 0, _, l => by simp [tot]; omega
 | m :: maps, i + 1, hi, l => by
  have := tot_set (maps := maps) (i := i) (by simpa using hi) l
  simp only [tot, List.set_cons_succ, List.map_cons, List.sum_cons, List.getElem_cons_succ] at *
  omega
theorem em_set {maps : List (List (List UInt8))} {i : Nat} (hi : i < maps.length) {l : List (List UInt8)} {a : Int} {x : List UInt8} : Em (maps.set i l) a x ↔ (a = i ∧ x ∈ l) ∨ (a ≠ i ∧ Em maps a x) := by
 unfold Em
 constructor
 ·rintro ⟨h0, l', h1, h2⟩
  by_cases e : a = i
  ·left
   have : a.toNat = i := by omega
   rw [this, List.getElem?_set_self hi] at h1
   cases h1
   exact ⟨e, h2⟩
  ·right
   rw [List.getElem?_set_ne (by omega)] at h1
   exact ⟨e, h0, l', h1, h2⟩
 ·rintro (⟨rfl, h⟩ | ⟨e, h0, l', h1, h2⟩)
  ·exact ⟨by omega, l, by simp [hi], h⟩
  ·exact ⟨h0, l', by rw [List.getElem?_set_ne (by omega)]; exact h1, h2⟩
theorem em_at {maps : List (List (List UInt8))} {i : Nat} (hi : i < maps.length) {x : List UInt8} : Em maps i x ↔ x ∈ maps[i] := by
 unfold Em
 simp [List.getElem?_eq_getElem hi]
theorem em_none {N : Nat} {a : Int} {x : List UInt8} : ¬ Em (List.replicate N []) a x := by
 rintro ⟨_, l, h1, h2⟩
 rw [List.getElem?_replicate] at h1
 split at h1
 ·cases h1; simp at h2
 ·cases h1
theorem em_at' {maps : List (List (List UInt8))} {a : Int} (h0 : 0 ≤ a) (hi : a.toNat < maps.length) {x : List UInt8} : Em maps a x ↔ x ∈ maps[a.toNat] := by
 unfold Em
 simp [List.getElem?_eq_getElem hi, h0]
structure RsOk (rs : List Ru) (N : Nat) : Prop where
 len : rs.length ≤ 100000
 left : ∀ r ∈ rs, 0 ≤ r.l ∧ r.l < N
 right : ∀ r ∈ rs, r.r.length ≤ 1000
 sym : ∀ r ∈ rs, ∀ s ∈ r.r, 0 ≤ s.n ∧ (s.t = true → s.n < 256) ∧ (s.t = false → s.n < N)
def WClosed (E : Int → List UInt8 → Prop) (n : Nat) (rs : List Ru) : Prop := ∀ r ∈ rs, ∀ x, Cmb u8 E r.r x → x.length ≤ n → E r.l x
/-- what the words of all nonterminals are -/
def WordsS (rs : List Ru) (N n : Nat) (maps : List (List (List UInt8))) : Prop := maps.length = N ∧ ∀ (a : Nat) x, a < N → (Em maps a x ↔ DerN u8 rs a x ∧ x.length ≤ n)
def ManyW (rs : List Ru) (n most : Nat) : Prop := ∃ a l, List.Nodup l ∧ most < l.length ∧ ∀ x ∈ l, DerN u8 rs a x ∧ x.length ≤ n
/-- every word of next is an old one with a word of y behind it -/
def NxOk (maps : List (List (List UInt8))) (y : Sy) (n : Nat) (la ln : List (List UInt8)) : Prop := ∀ x ∈ ln, ∃ u v, u ∈ la ∧ x = u ++ v ∧ SyC u8 (Em maps) y v ∧ x.length ≤ n
def XI (maps : List (List (List UInt8))) (y : Sy) (n : Nat) (la : List (List UInt8)) (it ba bn : Nat) (ga g : PH) (f : Nat) (vs : List Sl) (Γ : Ctx) : Prop :=
 vs = [] ∧ ∃ (gi gn : PH) (left : List (List UInt8 × Bool)) (ln : List (List UInt8)), Γ = [gi, gn, ga, g] ∧ f = left.length + 1 ∧ ItM (lk [ga]) gi it ba strB Value.bool left ∧ (∀ p ∈ left, p.1 ∈ la ∧ p.2 = true) ∧ StrM gn bn ln ∧
  NxOk maps y n la ln ∧ (∀ u ∈ la, (u, true) ∉ left → ∀ v, SyC u8 (Em maps) y v → (u ++ v).length ≤ n → u ++ v ∈ ln)
def YI (maps : List (List (List UInt8))) (y : Sy) (n : Nat) (la ln lm : List (List UInt8)) (u : List UInt8) (jt bm bn : Nat) (gi ga g : PH) (f : Nat) (vs : List Sl) (Γ : Ctx) : Prop :=
 vs = [] ∧ ∃ (gj gn : PH) (left : List (List UInt8 × Bool)) (ln2 : List (List UInt8)), Γ = [gj, gi, gn, ga, g] ∧ f = left.length + 1 ∧ ItM (lk [g]) gj jt bm strB Value.bool left ∧ (∀ p ∈ left, p.1 ∈ lm ∧ p.2 = true) ∧ StrM gn bn ln2 ∧
  NxOk maps y n la ln2 ∧ (∀ x ∈ ln, x ∈ ln2) ∧ (∀ v ∈ lm, (v, true) ∉ left → (u ++ v).length ≤ n → u ++ v ∈ ln2)
/-- what is found is put in -/
def ZI (maps : List (List (List UInt8))) (rl : Nat) (la l0 : List (List UInt8)) (again : Bool) (it ba bo : Nat) (ga : PH) (f : Nat) (vs : List Sl) (Γ : Ctx) : Prop :=
 ∃ (again3 : Bool) (gi g3 : PH) (left : List (List UInt8 × Bool)) (l3 : List (List UInt8)), vs = [.v true (.bool again3)] ∧ Γ = [gi, ga, g3] ∧ f = left.length + 1 ∧ ItM (lk [ga]) gi it ba strB Value.bool left ∧ (∀ p ∈ left, p.1 ∈ la ∧ p.2 = true) ∧ GridS g3 bo 112 (maps.set rl l3) ∧
  (∀ x ∈ l0, x ∈ l3) ∧ (∀ x ∈ l3, x ∈ l0 ∨ x ∈ la) ∧ l0.length ≤ l3.length ∧ (again3 = true → again = true ∨ l0.length < l3.length) ∧ (again3 = false → again = false ∧ l3 = l0) ∧ (∀ x ∈ la, (x, true) ∉ left → x ∈ l3)
set_option maxHeartbeats 8000000 in
theorem ref_wordsOf {Γr : Ctx} {A : Option Addr} {c : Nat} {rs : List Ru} (hx : SlOk (lk Γr) A c rs) {N n most : Nat} (V : RsOk rs N) (hN : N ≤ 1000) (hn : n ≤ 900) (hm : most ≤ 100000) :
  Ret Try.prog 158 [.agg #[.int .i64 N, .slice A rs.length c], .int .i64 n, .int .i64 most] Γr [] (fun v Γ =>
   (Γ = [] ∧ v = .tuple #[.slice none 0 0, .bool false] ∧ ManyW rs n most) ∨ (∃ g bo maps, Γ = [g] ∧ v = .tuple #[.slice (some ⟨bo, 0, none⟩) N N, .bool true] ∧ GridS g bo 112 maps ∧ WordsS rs N n maps)) := by
 generalize hR : (fun (v : Value) (Γ : Ctx) => _ ∨ _) = R
 refine ret_of_vc tr158 (Nat.le_of_ble_eq_true rfl) ?_
 have hvl := V.len
 simp -implicitDefEqProofs only [S158, S158_0, go_sem,zA,zB,zC,zD,zE,reduceCtorEq,↓reduceIte,zF,zG,zH,zI]
 intro b0
 refine ⟨by omega, by omega, fun bo => ?_⟩
 refine s_loop (fun f vs Γ => ∃ g, Γ = [g] ∧ ∃ (k : Nat) (bs : List Nat), vs = [.v true (.int .i64 k)] ∧ k + f = N ∧ bs.length = k ∧ PartS g bo 112 N bs) N
  (Up.here ⟨_, rfl, 0, [], rfl, by omega, rfl, PartS.made bo 112 N⟩) ?_
 rintro f vs Γ ⟨g, rfl, k, bs, rfl, hkf, hbl, hP⟩
 simp -implicitDefEqProofs only [S158_1, go_sem,zA,zB,zC,zD,zE,reduceCtorEq,↓reduceIte,zF,zG,zH,zI]
 refine ⟨fun hlt => ?_, fun hge => ?_⟩
 ·have hk : k < N := by omega
  refine s_mkmap fun bm => ?_
  simp -implicitDefEqProofs only [go_sem,zA,zB,zC,zD,zE,reduceCtorEq,↓reduceIte,zF,zG,zH,zI]
  refine s_idx rfl (by omega) (by omega) ?_
  simp -implicitDefEqProofs only [go_sem,zA,zB,zC,zD,zE,reduceCtorEq,↓reduceIte,zF,zG,zH,zI]
  refine s_storeS (ix := 1) (k := bm) rfl hP (i := k) hbl.symm (by omega) ?_
  intro g' hput
  simp -implicitDefEqProofs only [go_sem,zA,zB,zC,zD,zE,reduceCtorEq,↓reduceIte,zF,zG,zH,zI]
  simp (disch := omega) only [wrap_id]
  refine ⟨f - 1, by omega, Up.apart fun hd => Up.one fun G hG' => ⟨_, rfl, k + 1, bs ++ [bm], rfl, by omega, by simp [hbl], ?_⟩⟩
  exact hput _ _ (MapM.new _ _ _ _) ((List.pairwise_cons.1 hd).1 g' (by simp)) hG'
 have hk : k = N := by omega
 have hG := hP.full (by omega)
 refine s_loop (fun f vs Γ => ∃ (again : Bool) (g : PH) (maps : List (List (List UInt8))), vs = [.v true (.bool again)] ∧ Γ = [g] ∧ f = 2 * (N * most - tot maps) + again.toNat ∧ GridS g bo 112 maps ∧ maps.length = N ∧ (∀ l ∈ maps, l.length ≤ most) ∧ (∀ a x, Em maps a x → DerN u8 rs a x ∧ x.length ≤ n) ∧ (again = false → WClosed (Em maps) n rs)) _
  (Up.here ⟨true, g, _, rfl, rfl, rfl, hG, by simp, by simp, fun a x h => absurd h em_none, by simp⟩) ?_
 clear hG hP hbl hkf hk
 rintro f vs Γ ⟨again, g, maps, rfl, rfl, hf, hG, hml, hsm, hS, hC⟩
 simp -implicitDefEqProofs only [S158_9, go_sem,zA,zB,zC,zD,zE,reduceCtorEq,↓reduceIte,zF,zG,zH,zI]
 refine ⟨fun hmt => ?_, fun hmf => ?_⟩
 ·subst hmt
  refine s_loop (fun f2 vs Γ => ∃ (again : Bool) (k : Nat) (g : PH) (maps2 : List (List (List UInt8))), vs = [.v true (.bool again), .v true (.int .i64 k)] ∧ Γ = [g] ∧ k + f2 = rs.length ∧ GridS g bo 112 maps2 ∧ maps2.length = N ∧ (∀ l ∈ maps2, l.length ≤ most) ∧ (∀ a x, Em maps2 a x → DerN u8 rs a x ∧ x.length ≤ n) ∧ tot maps ≤ tot maps2 ∧ (again = true → tot maps < tot maps2) ∧ (again = false → maps2 = maps ∧ WClosed (Em maps) n (rs.take k))) rs.length
   (Up.here ⟨false, 0, g, maps, rfl, rfl, by omega, hG, hml, hsm, hS, Nat.le_refl _, by simp, fun _ => ⟨rfl, by simp [WClosed]⟩⟩) ?_
  clear hG
  rintro f2 vs Γ ⟨again2, k, g, maps2, rfl, rfl, hkf, hG, hml2, hsm2, hS2, ht2, ht3, hC2⟩
  simp -implicitDefEqProofs only [S158_8, go_sem,zA,zB,zC,zD,zE,reduceCtorEq,↓reduceIte,zF,zG,zH,zI]
  refine ⟨fun hlt => ?_, fun hge => ?_⟩
  ·have hk : k < rs.length := by omega
   have hmem : rs[k] ∈ rs := List.getElem_mem hk
   have hr4 := V.right _ hmem
   have hleft := V.left _ hmem
   have hsym := V.sym _ hmem
   have htk : rs.take (k + 1) = rs.take k ++ [rs[k]] := List.take_succ_eq_append_getElem hk
   obtain ⟨b1, o1, hA2, A3, c3, hr3, hc5⟩ := hx.ru hk
   generalize rs[k] = r at *
   refine s_idx hA2 (by omega) (by omega) ?_
   simp -implicitDefEqProofs only [go_sem,zA,zB,zC,zD,zE,reduceCtorEq,↓reduceIte,zF,zG,zH,zI]
   refine s_ld0 (hc5 _ (lk_r _ _)) (by simp) (by simp) ?_
   simp -implicitDefEqProofs only [go_sem,zA,zB,zC,zD,zE,reduceCtorEq,↓reduceIte,zF,zG,zH,zI]
   intro b2
   refine s_mkmap fun ba => ?_
   simp -implicitDefEqProofs only [go_sem,zA,zB,zC,zD,zE,reduceCtorEq,↓reduceIte,zF,zG,zH,zI]
   refine s_addT (t := 315) (kt := 9) (x := []) (l := []) (by kernel_rfl) (by kernel_rfl) (ix := 0) rfl (MapM.new _ _ _ _) (by simp) ?_
   intro ga hA0 _
   have hA0 : StrM ga ba [[]] := hA0
   simp -implicitDefEqProofs only [go_sem,zA,zB,zC,zD,zE,reduceCtorEq,↓reduceIte,zF,zG,zH,zI]
   refine s_loop (fun f3 vs Γ => ∃ (ba : Nat) (q : Nat) (ga : PH) (la : List (List UInt8)), vs = [.v true (.map (some ba)), .v true (.int .i64 q)] ∧ Γ = [ga, g] ∧ q + f3 = r.r.length ∧ StrM ga ba la ∧ ∀ x, x ∈ la ↔ Cmb u8 (Em maps2) (r.r.take q) x ∧ x.length ≤ n) r.r.length
    (Up.here ⟨ba, 0, ga, _, rfl, rfl, by omega, hA0, fun x => by simp [Cmb]; exact fun h => by subst h; simp⟩) ?_
   clear hA0
   rintro f3 vs Γ ⟨ba, q, ga, la, rfl, rfl, hqf, hA, hla⟩
   simp -implicitDefEqProofs only [S158_6, go_sem,zA,zB,zC,zD,zE,reduceCtorEq,↓reduceIte,zF,zG,zH,zI]
   refine ⟨fun hlt => ?_, fun hge => ?_⟩
   ·have hq : q < r.r.length := by omega
    have hsm : r.r[q] ∈ r.r := List.getElem_mem hq
    have hs := hsym _ hsm
    have htk2 : r.r.take (q + 1) = r.r.take q ++ [r.r[q]] := List.take_succ_eq_append_getElem hq
    obtain ⟨b3, o3, hA4, hc6⟩ := hr3.sy hq
    generalize r.r[q] = y at *
    refine s_idx hA4 (by omega) (by omega) ?_
    simp -implicitDefEqProofs only [go_sem,zA,zB,zC,zD,zE,reduceCtorEq,↓reduceIte,zF,zG,zH,zI]
    refine s_ld0 (hc6 _ (lk_r _ _)) (by simp) (by simp) ?_
    simp -implicitDefEqProofs only [go_sem,zA,zB,zC,zD,zE,reduceCtorEq,↓reduceIte,zF,zG,zH,zI]
    intro b4
    refine s_mkmap fun bn => ?_
    simp -implicitDefEqProofs only [go_sem,zA,zB,zC,zD,zE,reduceCtorEq,↓reduceIte,zF,zG,zH,zI]
    refine s_rng (L := lk [ga]) (t := 315) (kt := 9) (et := 4) (by kernel_rfl) (hA.l (by simp)) (lk_sub (by simp)) ?_
    intro it gi hI
    simp -implicitDefEqProofs only [go_sem,zA,zB,zC,zD,zE,reduceCtorEq,↓reduceIte,zF,zG,zH,zI]
    have hX : ∀ x, x ∈ la → x.length ≤ n := fun x h => ((hla x).1 h).2
    refine s_loop (XI maps2 y n la it ba bn ga g) _
     (Up.here ⟨rfl, gi, _, _, [], rfl, rfl, hI, fun p hp => mset_mem.1 hp, MapM.new _ _ _ _, by simp [NxOk], fun u hu hno => absurd (mset_mem.2 ⟨hu, rfl⟩) hno⟩) ?_
    clear hI
    rintro f4 vs Γ ⟨rfl, gi, gn, left, ln, rfl, rfl, hI, hle, hN2, hns, hnc⟩
    simp -implicitDefEqProofs only [S158_5, go_sem,zA,zB,zC,zD,zE,reduceCtorEq,↓reduceIte,zF,zG,zH,zI]
    refine s_next (ix := 0) rfl hI (lk_sub (by simp)) (fun hl0 => ?_) ?_
    ·subst hl0
     simp -implicitDefEqProofs only [go_sem,zA,zB,zC,zD,zE,reduceCtorEq,↓reduceIte,zF,zG,zH,zI]
     simp (disch := omega) only [wrap_id]
     refine ⟨f3 - 1, by omega, Up.sel [[1], [3]] (by decide) fun _ _ => ⟨bn, q + 1, _, ln, rfl, rfl, by omega, hN2, fun x => ?_⟩⟩
     rw [htk2, cmb_snoc]
     constructor
     ·intro h
      obtain ⟨u, v, h1, h2, h3, h4⟩ := hns x h
      exact ⟨⟨u, v, h2, ((hla u).1 h1).1, h3⟩, h4⟩
     ·rintro ⟨⟨u, v, rfl, h1, h2⟩, h3⟩
      exact hnc u ((hla u).2 ⟨h1, by rw [List.length_append] at h3; omega⟩) (by simp) v h2 h3
    ·intro gi' p left' hmem hlen hI' hcur
     have hp := hle p ((hmem p).2 (.inl rfl))
     obtain ⟨u, tt⟩ := p
     obtain ⟨hu, rfl⟩ : u ∈ la ∧ tt = true := hp
     simp -implicitDefEqProofs only [go_sem,zA,zB,zC,zD,zE,reduceCtorEq,↓reduceIte,zF,zG,zH,zI]
     refine s_q trivial (qr_entry hcur (lk_sub (by simp)) (by simp)) ?_
     have hun := hX u hu
     have hle' : ∀ p ∈ left', p.1 ∈ la ∧ p.2 = true := fun p h => hle p ((hmem p).2 (.inr h))
     have fin : ∀ gn' ln', StrM gn' bn ln' → NxOk maps2 y n la ln' → (∀ x ∈ ln, x ∈ ln') → (∀ v, SyC u8 (Em maps2) y v → (u ++ v).length ≤ n → u ++ v ∈ ln') → ∃ n', n' < left.length + 1 ∧ Up [gi', gn', ga, g] (XI maps2 y n la it ba bn ga g n' []) := by
      intro gn' ln' h1 h2 h3 h4
      refine ⟨left'.length + 1, by omega, Up.here ⟨rfl, gi', gn', left', ln', rfl, rfl, hI', hle', h1, h2, fun u' hu' hno v hv hl => ?_⟩⟩
      by_cases e : u' = u
      ·subst e; exact h4 v hv hl
      ·refine h3 _ (hnc u' hu' (fun q => ?_) v hv hl)
       rcases (hmem _).1 q with q | q
       ·exact e (by simpa using q)
       ·exact hno q
     simp -implicitDefEqProofs only [go_sem,zA,zB,zC,zD,zE,reduceCtorEq,↓reduceIte,zF,zG,zH,zI]
     refine ⟨fun ht => ?_, fun ht => ?_⟩
     ·have hwb : IntKind.u8.wrap y.n = ((u8 y.n).toNat : Int) := wrap_by hs.1 (hs.2.1 ht)
      refine s_split ?_
      simp -implicitDefEqProofs only [S158_2, S158_3, lenC, lenV_strB, go_sem,zA,zB,zC,zD,zE,reduceCtorEq,↓reduceIte,zF,zG,zH,zI]
      refine ⟨fun hl b5 => ?_, fun hl => Up.here ?_⟩
      ·rw [hwb]
       have hlit : SlOk (lk [one b5 (.cells [Value.int IntKind.u8 ((u8 y.n).toNat : Int)].toArray 5)]) (some ⟨b5, 0, none⟩) 1 [(⟨u8 y.n⟩ : By)] := lit_slok [(⟨u8 y.n⟩ : By)] rfl (by simp)
       refine s_q (x := strB [u8 y.n]) trivial (qr_bytes (s := 316) (d := 9) (e := 5) (xs := [(⟨u8 y.n⟩ : By)]) (by kernel_rfl) (by kernel_rfl) (by kernel_rfl) hlit (lk_sub (by simp))) ?_
       simp -implicitDefEqProofs only [fn_cat (a := u) (b := [u8 y.n]) (by simp; omega), fnC_eq, go_sem,zA,zB,zC,zD,zE,reduceCtorEq,↓reduceIte,zF,zG,zH,zI]
       refine s_addT (t := 315) (kt := 9) (x := u ++ [u8 y.n]) (by kernel_rfl) (by kernel_rfl) (ix := 2) rfl hN2 (by simp; omega) ?_
       intro gn' hN' _
       simp -implicitDefEqProofs only [go_sem,zA,zB,zC,zD,zE,reduceCtorEq,↓reduceIte,zF,zG,zH,zI]
       refine Up.sel [[1], [2], [3], [4]] (by decide) fun _ _ => fin gn' _ hN' (fun x hx => ?_) (fun x hx => addT_mem.2 (.inl hx)) (fun v hv _ => ?_)
       ·rcases addT_mem.1 hx with hx | rfl
        ·exact hns x hx
        ·exact ⟨u, [u8 y.n], hu, rfl, by simp [SyC, ht], by simp; omega⟩
       ·have : v = [u8 y.n] := by simpa [SyC, ht] using hv
        subst this
        exact addT_mem.2 (.inr rfl)
      ·refine fin gn ln hN2 hns (fun x h => h) (fun v hv hl2 => ?_)
       have : v = [u8 y.n] := by simpa [SyC, ht] using hv
       subst this
       simp at hl2
       omega
     ·have hy0 := hs.1
      have hyN := hs.2.2 ht
      have hyn : y.n.toNat < maps2.length := by omega
      have hSy : ∀ v, SyC u8 (Em maps2) y v ↔ v ∈ maps2[y.n.toNat] := fun v => by
       simp only [SyC, ht]
       exact em_at' hy0 hyn
      have hlm : ∀ v ∈ maps2[y.n.toNat], v.length ≤ n := fun v hv => (hS2 _ _ ((em_at' hy0 hyn).2 hv)).2
      obtain ⟨bm, hcell, hM, hne, hput⟩ := hG.at' hyn
      clear hput
      generalize maps2[y.n.toNat] = lm at *
      refine s_idx rfl hy0 (by omega) ?_
      simp -implicitDefEqProofs only [go_sem,zA,zB,zC,zD,zE,reduceCtorEq,↓reduceIte,zF,zG,zH,zI]
      refine s_ld0 (hcell _ (by simp)) (by simp) (by simp) ?_
      simp -implicitDefEqProofs only [go_sem,zA,zB,zC,zD,zE,reduceCtorEq,↓reduceIte,zF,zG,zH,zI]
      refine s_rng (L := lk [g]) (t := 112) (kt := 9) (et := 4) (by kernel_rfl) (hM.l (by simp)) (lk_sub (by simp)) ?_
      intro jt gj hJ
      simp -implicitDefEqProofs only [go_sem,zA,zB,zC,zD,zE,reduceCtorEq,↓reduceIte,zF,zG,zH,zI]
      refine s_loop (YI maps2 y n la ln lm u jt bm bn gi' ga g) _
       (Up.here ⟨rfl, gj, _, _, ln, rfl, rfl, hJ, fun p hp => mset_mem.1 hp, hN2, hns, fun x h => h, fun u hu hno => absurd (mset_mem.2 ⟨hu, rfl⟩) hno⟩) ?_
      clear hJ
      rintro f5 vs Γ ⟨rfl, gj, gn2, left2, ln2, rfl, rfl, hJ, hle2, hN3, hns2, hin2, hnc2⟩
      simp -implicitDefEqProofs only [S158_4, go_sem,zA,zB,zC,zD,zE,reduceCtorEq,↓reduceIte,zF,zG,zH,zI]
      refine s_next (ix := 0) rfl hJ (lk_sub (by simp)) (fun hl0 => ?_) ?_
      ·subst hl0
       simp -implicitDefEqProofs only [go_sem,zA,zB,zC,zD,zE,reduceCtorEq,↓reduceIte,zF,zG,zH,zI]
       obtain ⟨n', h1, h2⟩ := fin gn2 ln2 hN3 hns2 hin2 (fun v hv hl => hnc2 v ((hSy v).1 hv) (by simp) hl)
       exact ⟨n', h1, h2.skip⟩
      ·intro gj' p left3 hmem2 hlen2 hJ' hcur2
       have hp := hle2 p ((hmem2 p).2 (.inl rfl))
       obtain ⟨v, tt⟩ := p
       obtain ⟨hv, rfl⟩ : v ∈ lm ∧ tt = true := hp
       simp -implicitDefEqProofs only [go_sem,zA,zB,zC,zD,zE,reduceCtorEq,↓reduceIte,zF,zG,zH,zI]
       refine s_q trivial (qr_entry hcur2 (lk_sub (by simp)) (by simp)) ?_
       have hvn := hlm v hv
       have hle3 : ∀ p ∈ left3, p.1 ∈ lm ∧ p.2 = true := fun p h => hle2 p ((hmem2 p).2 (.inr h))
       have fin2 : ∀ gn' ln', StrM gn' bn ln' → NxOk maps2 y n la ln' → (∀ x ∈ ln2, x ∈ ln') → ((u ++ v).length ≤ n → u ++ v ∈ ln') → ∃ n', n' < left2.length + 1 ∧ Up [gj', gi', gn', ga, g] (YI maps2 y n la ln lm u jt bm bn gi' ga g n' []) := by
        intro gn' ln' h1 h2 h3 h4
        refine ⟨left3.length + 1, by omega, Up.here ⟨rfl, gj', gn', left3, ln', rfl, rfl, hJ', hle3, h1, h2, fun x hx => h3 x (hin2 x hx), fun v' hv' hno hl => ?_⟩⟩
        by_cases e : v' = v
        ·subst e; exact h4 hl
        ·refine h3 _ (hnc2 v' hv' (fun q => ?_) hl)
         rcases (hmem2 _).1 q with q | q
         ·exact e (by simpa using q)
         ·exact hno q
       simp -implicitDefEqProofs only [lenC, lenV_strB, go_sem,zA,zB,zC,zD,zE,reduceCtorEq,↓reduceIte,zF,zG,zH,zI]
       simp (disch := omega) only [wrap_id]
       refine ⟨fun hl => ?_, fun hl => ?_⟩
       ·simp -implicitDefEqProofs only [fn_cat (a := u) (b := v) (by omega), fnC_eq, go_sem,zA,zB,zC,zD,zE,reduceCtorEq,↓reduceIte,zF,zG,zH,zI]
        refine s_addT (t := 315) (kt := 9) (x := u ++ v) (by kernel_rfl) (by kernel_rfl) (ix := 2) rfl hN3 (by simp; omega) ?_
        intro gn' hN' _
        simp -implicitDefEqProofs only [go_sem,zA,zB,zC,zD,zE,reduceCtorEq,↓reduceIte,zF,zG,zH,zI]
        refine fin2 gn' _ hN' (fun x hx => ?_) (fun x hx => addT_mem.2 (.inl hx)) (fun _ => addT_mem.2 (.inr rfl))
        rcases addT_mem.1 hx with hx | rfl
        ·exact hns2 x hx
        ·exact ⟨u, v, hu, rfl, (hSy v).2 hv, by simp; omega⟩
       ·exact fin2 gn2 ln2 hN3 hns2 (fun x h => h) (fun h => by simp at h; omega)
   ·have hq : q = r.r.length := by omega
    rw [hq, List.take_length] at hla
    have hrl : r.l.toNat < maps2.length := by omega
    have hrl0 := hleft.1
    refine s_rng (L := lk [ga]) (t := 315) (kt := 9) (et := 4) (by kernel_rfl) (hA.l (by simp)) (lk_sub (by simp)) ?_
    intro it gi hI
    simp -implicitDefEqProofs only [go_sem,zA,zB,zC,zD,zE,reduceCtorEq,↓reduceIte,zF,zG,zH,zI]
    have hG0 : GridS g bo 112 (maps2.set r.l.toNat maps2[r.l.toNat]) := by rw [List.set_getElem_self]; exact hG
    have hlan : ∀ x ∈ la, x.length ≤ n := fun x h => ((hla x).1 h).2
    refine s_loop (ZI maps2 r.l.toNat la maps2[r.l.toNat] again2 it ba bo ga) _
     (Up.here ⟨again2, gi, g, _, maps2[r.l.toNat], rfl, rfl, rfl, hI, fun p hp => mset_mem.1 hp, hG0, fun x h => h, fun x h => .inl h, Nat.le_refl _, fun h => .inl h, fun h => ⟨h, rfl⟩, fun u hu hno => absurd (mset_mem.2 ⟨hu, rfl⟩) hno⟩) ?_
    clear hI hG0
    rintro f6 vs Γ ⟨again3, gi, g3, left, l3, rfl, rfl, rfl, hI, hle, hG3, hz1, hz2, hz3, hz4, hz5, hz6⟩
    have hset : (maps2.set r.l.toNat l3).length = N := by rw [List.length_set]; exact hml2
    have hrl3 : r.l.toNat < (maps2.set r.l.toNat l3).length := by omega
    have hget : (maps2.set r.l.toNat l3)[r.l.toNat] = l3 := List.getElem_set_self ..
    obtain ⟨bm, hcell, hM, hne, hput⟩ := hG3.at' hrl3
    rw [hget] at hM
    simp -implicitDefEqProofs only [S158_7, go_sem,zA,zB,zC,zD,zE,reduceCtorEq,↓reduceIte,zF,zG,zH,zI]
    refine s_next (ix := 0) rfl hI (lk_sub (by simp)) (fun hl0 => ?_) ?_
    ·subst hl0
     simp -implicitDefEqProofs only [go_sem,zA,zB,zC,zD,zE,reduceCtorEq,↓reduceIte,zF,zG,zH,zI]
     have hz7 : ∀ x ∈ la, x ∈ l3 := fun x hx => hz6 x hx (by simp)
     have hEr : ∀ x, x ∈ maps2[r.l.toNat] ↔ Em maps2 r.l x := fun x => (em_at' hrl0 hrl).symm
     have hla2 : ∀ x ∈ la, DerN u8 rs r.l x ∧ x.length ≤ n := fun x hx => ⟨⟨r, hmem, rfl, cmb_sound (fun a w h => (hS2 a w h).1) ((hla x).1 hx).1⟩, hlan x hx⟩
     have hl3 : ∀ x ∈ l3, DerN u8 rs r.l x ∧ x.length ≤ n := fun x hx => by
      rcases hz2 x hx with q | q
      ·exact hS2 _ _ ((hEr x).1 q)
      ·exact hla2 x q
     refine s_idx rfl (by omega) (by omega) ?_
     simp -implicitDefEqProofs only [go_sem,zA,zB,zC,zD,zE,reduceCtorEq,↓reduceIte,zF,zG,zH,zI]
     refine s_ld0 (hcell _ (by simp)) (by simp) (by simp) ?_
     simp -implicitDefEqProofs only [go_sem,zA,zB,zC,zD,zE,reduceCtorEq,↓reduceIte,zF,zG,zH,zI]
     refine s_q trivial (qr_len (t := 112) (kt := 9) (et := 4) (by kernel_rfl) (hM.l (by simp))) ?_
     have hml3 : (mset id l3).length = l3.length := by simp [mset]
     rw [hml3]
     simp -implicitDefEqProofs only [go_sem,zA,zB,zC,zD,zE,reduceCtorEq,↓reduceIte,zF,zG,zH,zI]
     refine ⟨fun hbig => Up.to [] (Ent.nil _) ?_, fun hsmall => ?_⟩
     ·subst hR
      exact .inl ⟨rfl, rfl, r.l, l3, SetS.nodup (hM.l (Γ := [g3]) (by simp)), by omega, hl3⟩
     ·simp (disch := omega) only [wrap_id]
      have htot := tot_set hrl l3
      refine ⟨f2 - 1, by omega, Up.sel [[2]] (by decide) fun _ _ => ⟨again3, k + 1, _, maps2.set r.l.toNat l3, rfl, rfl, by omega, hG3, hset, fun l hl => ?_, fun a x h => ?_, by omega, fun h => ?_, fun h => ?_⟩⟩
      ·rcases List.mem_or_eq_of_mem_set hl with q | q
       ·exact hsm2 l q
       ·rw [q]; omega
      ·rcases (em_set hrl).1 h with ⟨rfl, q⟩ | ⟨_, q⟩
       ·rw [show ((r.l.toNat : Nat) : Int) = r.l by omega]
        exact hl3 x q
       ·exact hS2 a x q
      ·rcases hz4 h with q | q
       ·have := ht3 q; omega
       ·omega
      ·obtain ⟨q1, q2⟩ := hz5 h
       obtain ⟨q3, q4⟩ := hC2 q1
       refine ⟨by rw [q2, List.set_getElem_self]; exact q3, fun r' hr' x hc hl => ?_⟩
       rw [htk] at hr'
       rcases List.mem_append.1 hr' with h1 | h1
       ·exact q4 r' h1 x hc hl
       ·simp at h1
        subst h1
        rw [← q3] at hc ⊢
        rw [← hEr, ← q2]
        exact hz7 x ((hla x).2 ⟨hc, hl⟩)
    ·intro gi' p left' hmem hlen hI' hcur
     have hp := hle p ((hmem p).2 (.inl rfl))
     obtain ⟨u, tt⟩ := p
     obtain ⟨hu, rfl⟩ : u ∈ la ∧ tt = true := hp
     simp -implicitDefEqProofs only [go_sem,zA,zB,zC,zD,zE,reduceCtorEq,↓reduceIte,zF,zG,zH,zI]
     refine s_q trivial (qr_entry hcur (lk_sub (by simp)) (by simp)) ?_
     have hun := hlan u hu
     have hle' : ∀ p ∈ left', p.1 ∈ la ∧ p.2 = true := fun p h => hle p ((hmem p).2 (.inr h))
     simp -implicitDefEqProofs only [go_sem,zA,zB,zC,zD,zE,reduceCtorEq,↓reduceIte,zF,zG,zH,zI]
     refine s_idx rfl (by omega) (by omega) ?_
     simp -implicitDefEqProofs only [go_sem,zA,zB,zC,zD,zE,reduceCtorEq,↓reduceIte,zF,zG,zH,zI]
     refine s_ld0 (hcell _ (by simp)) (by simp) (by simp) ?_
     simp -implicitDefEqProofs only [go_sem,zA,zB,zC,zD,zE,reduceCtorEq,↓reduceIte,zF,zG,zH,zI]
     refine s_q trivial (look_str (t := 112) (kt := 9) (by kernel_rfl) (by kernel_rfl) (hM.l (by simp)) (by omega)) ?_
     simp -implicitDefEqProofs only [go_sem,zA,zB,zC,zD,zE,reduceCtorEq,↓reduceIte,zF,zG,zH,zI]
     have fin : ∀ again' g' l', GridS g' bo 112 (maps2.set r.l.toNat l') → (∀ x ∈ l3, x ∈ l') → (∀ x ∈ l', x ∈ l3 ∨ x = u) → l3.length ≤ l'.length → (again' = true → again3 = true ∨ l3.length < l'.length) → (again' = false → again3 = false ∧ l' = l3) → u ∈ l' → ∃ n', n' < left.length + 1 ∧ Up [gi', ga, g'] (ZI maps2 r.l.toNat la maps2[r.l.toNat] again2 it ba bo ga n' [.v true (.bool again')]) := by
      intro again' g' l' h1 h2 h3 h4 h5 h6 h7
      refine ⟨left'.length + 1, by omega, Up.here ⟨again', gi', g', left', l', rfl, rfl, rfl, hI', hle', h1, fun x hx => h2 x (hz1 x hx), fun x hx => ?_, by omega, fun h => ?_, fun h => ?_, fun x hx hno => ?_⟩⟩
      ·rcases h3 x hx with q | rfl
       ·exact hz2 x q
       ·exact .inr hu
      ·rcases h5 h with q | q
       ·rcases hz4 q with q | q
        ·exact .inl q
        ·exact .inr (by omega)
       ·exact .inr (by omega)
      ·obtain ⟨q1, q2⟩ := h6 h
       obtain ⟨q3, q4⟩ := hz5 q1
       exact ⟨q3, by rw [q2, q4]⟩
      ·by_cases e : x = u
       ·subst e; exact h7
       ·refine h2 x (hz6 x hx fun q => ?_)
        rcases (hmem _).1 q with q | q
        ·exact e (by simpa using q)
        ·exact hno q
     refine ⟨fun hno => ?_, fun hin => ?_⟩
     ·refine s_idx rfl (by omega) (by omega) ?_
      simp -implicitDefEqProofs only [go_sem,zA,zB,zC,zD,zE,reduceCtorEq,↓reduceIte,zF,zG,zH,zI]
      refine s_ld0 (hcell _ (by simp)) (by simp) (by simp) ?_
      simp -implicitDefEqProofs only [go_sem,zA,zB,zC,zD,zE,reduceCtorEq,↓reduceIte,zF,zG,zH,zI]
      refine s_ment (kt_str (by kernel_rfl)) (t := 112) (kt := 9) (et := 4) (z := .bool false) (eV := Value.bool) (by kernel_rfl) (zero_run (by kernel_rfl)) (ix := 2) rfl hM (a := u) (by show u.length ≤ 1000; omega) (by rw [mset_keys, List.map_id]; exact hno) ?_
      intro g4 st hMe ho4
      simp -implicitDefEqProofs only [go_sem,zA,zB,zC,zD,zE,reduceCtorEq,↓reduceIte,zF,zG,zH,zI]
      refine s_estore (ix := 2) rfl hMe true ?_
      intro g5 hM5 ho5
      simp -implicitDefEqProofs only [go_sem,zA,zB,zC,zD,zE,reduceCtorEq,↓reduceIte,zF,zG,zH,zI]
      have hM5 : StrM g5 bm (l3 ++ [u]) := by
       have : mset id l3 ++ [(u, true)] = mset id (l3 ++ [u]) := by simp [mset]
       rw [this] at hM5
       exact hM5
      have hG5 := hput g5 _ hM5 fun k hk => by rw [ho5 k hk, ho4 k hk]
      rw [List.set_set] at hG5
      exact fin true g5 (l3 ++ [u]) hG5 (fun x hx => by simp [hx]) (fun x hx => by simpa using hx) (by simp) (fun _ => .inr (by simp)) (fun h => Bool.noConfusion h) (by simp)
     ·exact fin again3 g3 l3 hG3 (fun x hx => hx) (fun x hx => .inl hx) (Nat.le_refl _) (fun h => .inl h) (fun h => ⟨h, rfl⟩) hin
  ·have hk : k = rs.length := by omega
   subst hk
   rw [List.take_length] at hC2
   have h1 := tot_le hsm2
   rw [hml2] at h1
   refine ⟨2 * (N * most - tot maps2) + again2.toNat, ?_, Up.here ⟨again2, g, maps2, rfl, rfl, rfl, hG, hml2, hsm2, hS2, fun h => ?_⟩⟩
   ·cases again2 with
    | true => have := ht3 rfl; simp only [hf, Bool.toNat_true]; omega
    | false => simp only [hf, Bool.toNat_true, Bool.toNat_false]; omega
   ·obtain ⟨h1, h2⟩ := hC2 h
    rw [h1]
    exact h2
 ·have hmf : again = false := by simpa using hmf
  refine Up.here ?_
  subst hR
  refine .inr ⟨g, bo, maps, rfl, rfl, hG, hml, fun a x h1 => ⟨hS a x, ?_⟩⟩
  rintro ⟨⟨r, hr, hra, hd⟩, hl⟩
  rw [← hra]
  exact hC hmf r hr x (cmb_all (hC hmf) hd hl) hl
/- The words of a grammar; no condition. -/
/-- a grammar has a word -/
def Has (g : Gr) (w : List Int) : Prop := DerN id g.rs g.st w
/- The text of parlance/parlref5.key as a statement; no condition. -/
def S159_1 : Stmt :=
 .seq
 (.region [oq 12 (.ibin .lss (.tmp 11) (.tmp 10))] [3,9,10,11,12])
 (.seq (.cond (.tmp 12) .skip (.exit 0))
 (.seq
 (.block 1
 (.seq
 (.region
 [oq 13 (.mv (.tmp 11)),
 oq 14 (.idx 1 (.tmp 9) (.tmp 11)),
 oq 15 (.load false 1 (.tmp 14)),
 oq 4 (.mv (.tmp 13)),oq 5 (.mv (.tmp 15))]
 [3,4,5,9,10,11])
 (.region
 [oq 16 (.mv (.tmp 3)),oq 17 (.mv (.tmp 4)),
 oq 18 (.mv (.tmp 5)),
 oq 19 (.conv .u8 (.tmp 18)),
 oq 20 (.idx 1 (.tmp 16) (.tmp 17)),
 .mk none none (.store 1 (.tmp 20) (.tmp 19))]
 [3,9,10,11])))
 (.region
 [oq 21 (.ibin .add (.tmp 11) (.const (.int .i64 1))),
 oq 11 (.mv (.tmp 21))]
 [3,9,10,11])))
def S159_0 : Stmt :=
 .seq (.region [oq 2 (.mv (.const (.string (ByteArray.mk (Array.mk [])))))] [0])
 (.seq
 (.region
 [oq 6 (.mv (.tmp 0)),oq 7 (.len false (.tmp 6)),
 oq 8 (.mk 5 1 1 (.int .u8 0) (.tmp 7) (.tmp 7)),
 oq 3 (.mv (.tmp 8))]
 [0,3])
 (.seq
 (.seq
 (.region
 [oq 9 (.mv (.tmp 0)),oq 10 (.len false (.tmp 9)),
 oq 11 (.mv (.const (.int .i64 0)))]
 [3,9,10,11])
 (.block 0 (.loop S159_1 [11] [3,9,10])))
 (.seq
 (.region
 [oq 22 (.mv (.tmp 3)),
 oq 23 (.q (Qk.cnv 316 9) [.tmp 22]),
 oq 2 (.mv (.tmp 23))]
 [2])
 .ret)))
def S159 : FnS := ⟨24,[(2,none)],S159_0⟩
theorem tr159 : trFn Try.prog 159 [] [[0],[0,3],[3,9,10,11],[11],[3,9,10],[3,9,10,11,12],[3,4,5,9,10,11],[3,9,10,11],[3,9,10,11],[2]] = some S159 := by kernel_rfl
/- The text of parlance/parlref5.Has as a statement; no condition. -/
def S65_0 : Stmt :=
 .seq (.region [oq 4 (.mv (.const (.bool false)))] [0,1])
 (.seq
 (.region
 [oq 5 (.mv (.tmp 0)),oq 6 (.mv (.tmp 1)),
 oq 7 (.call (.func 159) [.tmp 6]),
 oq 8 (.q (Qk.look 112 false) [.tmp 5,.tmp 7]),
 oq 4 (.mv (.tmp 8))]
 [4])
 .ret)
def S65 : FnS := ⟨9,[(4,none)],S65_0⟩
theorem tr65 : trFn Try.prog 65 [] [[0,1],[4]] = some S65 := by kernel_rfl
/- The text of parlance/parlref5.Words as a statement; no condition. -/
def S75_0 : Stmt :=
 .seq
 (.region
 [oq 2 (.box true 24 (.tmp 0)),
 oq 4 (.mv (.const (.map none))),
 oq 5 (.mv (.const (.bool false)))]
 [1,2])
 (.seq
 (.region
 [oq 9 (.fld 1 (.tmp 2)),oq 10 (.load false 1 (.tmp 9)),
 oq 11 (.fld 3 (.tmp 2)),
 oq 12 (.load false 1 (.tmp 11)),
 .mk (some 13) none
 (.build 240 [.int .i64 0,.slice none 0 0]
 [(0,1,.tmp 10),(1,1,.tmp 12)]),
 oq 14 (.mv (.tmp 1)),
 .mk (some 15) none
 (.call (.func 158) [.tmp 13,.tmp 14,.const (.int .i64 3000)]),
 oq 8 (.mv (.tmp 15)),oq 16 (.extract 0 (.tmp 8)),
 oq 17 (.extract 1 (.tmp 8)),oq 6 (.mv (.tmp 16)),
 oq 7 (.mv (.tmp 17))]
 [2,6,7])
 (.seq
 (.seq
 (.region
 [oq 18 (.mv (.tmp 7)),oq 19 (.un .not (.tmp 18))]
 [2,6,19])
 (.cond (.tmp 19)
 (.seq
 (.region
 [oq 4 (.mv (.const (.map none))),
 oq 5 (.mv (.const (.bool false)))]
 [4,5])
 .ret)
 .skip))
 (.seq
 (.region
 [oq 20 (.mv (.tmp 6)),oq 21 (.fld 2 (.tmp 2)),
 oq 22 (.load false 1 (.tmp 21)),
 oq 23 (.idx 1 (.tmp 20) (.tmp 22)),
 oq 24 (.load false 1 (.tmp 23)),
 oq 4 (.mv (.tmp 24)),
 oq 5 (.mv (.const (.bool true)))]
 [4,5])
 .ret)))
def S75 : FnS := ⟨25,[(4,none),(5,none)],S75_0⟩
theorem tr75 : trFn Try.prog 75 [2] [[1,2],[2,6,7],[2,6,19],[4,5],[4,5]] = some S75 := by kernel_rfl
/- Words as keys of sets: parlref5.key, Has, Words; no condition. -/
theorem ref_key {Γr : Ctx} {W : Option Addr} {d : Nat} {w : List Int} (hw : SlOk (lk Γr) W d w) (hl : w.length ≤ 1000) (hb : ∀ x ∈ w, 0 ≤ x ∧ x < 256) :
  Ret Try.prog 159 [.slice W w.length d] Γr [] (fun v Γ => Γ = [] ∧ v = strB (w.map u8)) := by
 generalize hR : (fun (v : Value) (Γ : Ctx) => Γ = [] ∧ v = _) = R
 refine ret_of_vc tr159 (Nat.le_of_ble_eq_true rfl) ?_
 simp -implicitDefEqProofs only [S159, S159_0, go_sem,zA,zB,zC,zD,zE,reduceCtorEq,↓reduceIte,zF,zG,zH,zI]
 refine ⟨by omega, by omega, fun bb => ?_⟩
 refine s_loop (fun f vs Γ => ∃ (k : Nat) (gb : PH) (xs : List By), vs = [.v true (.int .i64 k)] ∧ Γ = [gb] ∧ k + f = w.length ∧ Arr gb bb 5 xs ∧ xs.length = w.length ∧ ∀ i (h : i < xs.length) (h' : i < w.length), i < k → xs[i].n = u8 w[i]) w.length
  (Up.here ⟨0, _, _, rfl, rfl, by omega, Arr.made (⟨0⟩ : By) bb 5 w.length, by simp, fun i _ _ h => by omega⟩) ?_
 rintro f vs Γ ⟨k, gb, xs, rfl, rfl, hkf, hA, hxl, hxs⟩
 simp -implicitDefEqProofs only [S159_1, go_sem,zA,zB,zC,zD,zE,reduceCtorEq,↓reduceIte,zF,zG,zH,zI]
 refine ⟨fun hlt => ?_, fun hge => ?_⟩
 ·have hk : k < w.length := by omega
  obtain ⟨b1, o1, hA1, hc1⟩ := hw.int hk
  have hx := hb _ (List.getElem_mem hk)
  refine s_idx hA1 (by omega) (by omega) ?_
  simp -implicitDefEqProofs only [go_sem,zA,zB,zC,zD,zE,reduceCtorEq,↓reduceIte,zF,zG,zH,zI]
  refine s_ld0 (hc1 _ (lk_r _ _)) (by simp) (by simp) ?_
  simp -implicitDefEqProofs only [go_sem,zA,zB,zC,zD,zE,reduceCtorEq,↓reduceIte,zF,zG,zH,zI]
  refine s_idx rfl (by omega) (by omega) ?_
  simp -implicitDefEqProofs only [wrap_by hx.1 hx.2, go_sem,zA,zB,zC,zD,zE,reduceCtorEq,↓reduceIte,zF,zG,zH,zI]
  refine s_storeA (ix := 0) (α := By) (⟨u8 w[k]⟩ : By) rfl hA (i := k) (by omega) ?_
  intro gb' hA' _
  simp -implicitDefEqProofs only [go_sem,zA,zB,zC,zD,zE,reduceCtorEq,↓reduceIte,zF,zG,zH,zI]
  simp (disch := omega) only [wrap_id]
  refine ⟨f - 1, by omega, Up.here ⟨k + 1, gb', _, rfl, rfl, by omega, hA', by simpa using hxl, fun i h h' hi => ?_⟩⟩
  rw [List.getElem_set]
  split
  ·rename_i e; subst e; rfl
  ·exact hxs i (by simpa using h) h' (by omega)
 ·have hk : k = w.length := by omega
  have hs : SlOk (lk [gb]) (some ⟨bb, 0, none⟩) w.length xs := hA.slok (Mem.le.refl _) (by omega) (by unfold maxLen; omega) (by omega)
  have hq := qr_bytes (P := Try.prog) (Γ := gb :: Γr) (s := 316) (d := 9) (e := 5) (by kernel_rfl) (by kernel_rfl) (by kernel_rfl) hs (lk_sub (by simp))
  rw [hxl] at hq
  refine s_q trivial hq ?_
  simp -implicitDefEqProofs only [go_sem,zA,zB,zC,zD,zE,reduceCtorEq,↓reduceIte,zF,zG,zH,zI]
  refine Up.to [] (Ent.nil _) ?_
  subst hR
  refine ⟨rfl, ?_⟩
  have : xs.map (·.n) = w.map u8 := by
   apply List.ext_getElem
   ·simp [hxl]
   ·intro i h1 h2
    simp only [List.getElem_map]
    simp at h1 h2
    exact hxs i h1 h2 (by omega)
  rw [this]
  rfl
theorem ref_has {Γr : Ctx} {b : Nat} {l : List (List UInt8)} (hm : SetS (lk Γr) b l) {W : Option Addr} {d : Nat} {w : List Int} (hw : SlOk (lk Γr) W d w) (hl : w.length ≤ 1000) (hb : ∀ x ∈ w, 0 ≤ x ∧ x < 256) :
  Ret Try.prog 65 [.map (some b), .slice W w.length d] Γr [] (fun v Γ => Γ = [] ∧ v = .bool (decide (w.map u8 ∈ l))) := by
 generalize hR : (fun (v : Value) (Γ : Ctx) => Γ = [] ∧ v = _) = R
 refine ret_of_vc tr65 (Nat.le_of_ble_eq_true rfl) ?_
 simp -implicitDefEqProofs only [S65, S65_0, go_sem,zA,zB,zC,zD,zE,reduceCtorEq,↓reduceIte,zF,zG,zH,zI]
 refine CallVC.read (ref_key (hw.mono (lk_r _ _)) hl hb) ?_
 rintro v Γ' ⟨rfl, rfl⟩
 simp -implicitDefEqProofs only [go_sem,zA,zB,zC,zD,zE,reduceCtorEq,↓reduceIte,zF,zG,zH,zI]
 refine s_q trivial (look_str (t := 112) (kt := 9) (by kernel_rfl) (by kernel_rfl) (hm.mono (lk_r _ _)) (by simpa using hl)) ?_
 simp -implicitDefEqProofs only [go_sem,zA,zB,zC,zD,zE,reduceCtorEq,↓reduceIte,zF,zG,zH,zI]
 refine Up.here ?_
 subst hR
 exact ⟨rfl, rfl⟩
theorem u8_inj {x y : Int} (hx : 0 ≤ x ∧ x < 256) (hy : 0 ≤ y ∧ y < 256) (h : u8 x = u8 y) : x = y := by
 have h1 := wrap_by hx.1 hx.2
 have h2 := wrap_by hy.1 hy.2
 unfold u8 at h
 rw [h, ← h2, IntKind.wrap_u8, IntKind.wrap_u8] at h1
 omega
theorem rsOk_of {g : Gr} (V : VG g) : RsOk g.rs g.ns.toNat := by
 have hns := V.ns
 have hts := V.ts
 refine ⟨by have := V.len; omega, fun r hr => ?_, fun r hr => by have := V.right r hr; omega, fun r hr s hs => ?_⟩
 ·have := V.left r hr; omega
 ·have := V.sym r hr s hs
  exact ⟨this.1, fun h => by have := this.2.1 h; omega, fun h => by have := this.2.2 h; omega⟩
/-- the set of a grammar's short words -/
def HasS (g : Gr) (n : Nat) (l : List (List UInt8)) : Prop := ∀ w : List Int, (∀ x ∈ w, 0 ≤ x ∧ x < 256) → (w.map u8 ∈ l ↔ Has g w ∧ w.length ≤ n)
theorem has_u8 {g : Gr} (V : VG g) {w : List Int} (hw : ∀ x ∈ w, 0 ≤ x ∧ x < 256) : DerN u8 g.rs g.st (w.map u8) ↔ Has g w :=
 derN_map (p := fun x => 0 ≤ x ∧ x < 256) (fun x y hx hy h => u8_inj hx hy h) (fun r hr s hs ht => by have := V.sym r hr s hs; have := V.ts; have := this; exact ⟨by omega, by have := (V.sym r hr s hs).2.1 ht; omega⟩) hw
theorem ref_words {Γr : Ctx} {g : Gr} {A : Option Addr} {c : Nat} (hx : SlOk (lk Γr) A c g.rs) (V : VG g) (n : Nat) (hn : n ≤ 900) :
  Ret Try.prog 75 [.agg #[.int .i64 g.ts, .int .i64 g.ns, .int .i64 g.st, .slice A g.rs.length c], .int .i64 n] Γr [] (fun v Γ => (Γ = [] ∧ v = .tuple #[.map none, .bool false]) ∨
   (∃ gm bm l, Γ = [gm] ∧ v = .tuple #[.map (some bm), .bool true] ∧ SetS (lk [gm]) bm l ∧ HasS g n l)) := by
 generalize hR : (fun (v : Value) (Γ : Ctx) => _ ∨ _) = R
 refine ret_of_vc tr75 (Nat.le_of_ble_eq_true rfl) ?_
 have hns := V.ns
 have hst := V.st
 have hwo : ∀ Γ, Mem.le (lk Γr) (lk Γ) → Ret Try.prog _ _ Γ [] _ := fun Γ hΓ => ref_wordsOf (hx.mono hΓ) (N := g.ns.toNat) (n := n) (most := 3000) (rsOk_of V) (by omega) hn (by omega)
 rw [show ((g.ns.toNat : Nat) : Int) = g.ns by omega] at hwo
 simp -implicitDefEqProofs only [S75, S75_0, go_sem,zA,zB,zC,zD,zE,reduceCtorEq,↓reduceIte,zF,zG,zH,zI]
 intro b0
 refine CallVC.read (hwo _ (lk_r _ _)) ?_
 rintro v Γ' (⟨rfl, rfl, _⟩ | ⟨gm, bo, maps, rfl, rfl, hG, hml, hE⟩)
 ·simp -implicitDefEqProofs only [go_sem,zA,zB,zC,zD,zE,reduceCtorEq,↓reduceIte,zF,zG,zH,zI]
  refine Up.here ?_
  subst hR
  exact .inl ⟨rfl, rfl⟩
 ·simp -implicitDefEqProofs only [go_sem,zA,zB,zC,zD,zE,reduceCtorEq,↓reduceIte,zF,zG,zH,zI]
  have hsl : g.st.toNat < maps.length := by omega
  obtain ⟨bm, hcell, hM, hne, hput⟩ := hG.at' hsl
  refine s_idx rfl (by omega) (by omega) ?_
  simp -implicitDefEqProofs only [go_sem,zA,zB,zC,zD,zE,reduceCtorEq,↓reduceIte,zF,zG,zH,zI]
  refine s_ld0 (hcell _ (by simp)) (by simp) (by simp) ?_
  simp -implicitDefEqProofs only [go_sem,zA,zB,zC,zD,zE,reduceCtorEq,↓reduceIte,zF,zG,zH,zI]
  refine Up.here ?_
  subst hR
  refine .inr ⟨gm, bm, maps[g.st.toNat], rfl, rfl, hM.l (by simp), fun w hw => ?_⟩
  rw [← em_at hsl, hE _ _ (by omega), show ((g.st.toNat : Nat) : Int) = g.st by omega, has_u8 V hw, List.length_map]
/- The text of parlance/parlref5.Every as a statement; no condition. -/
def S58_1 : Stmt :=
 .seq
 (.region [oq 25 (.ibin .lss (.tmp 24) (.tmp 23))]
 [0,1,5,6,23,24,25])
 (.seq (.cond (.tmp 25) .skip (.exit 2))
 (.seq
 (.block 3
 (.seq
 (.region
 [oq 26 (.mv (.tmp 24)),oq 7 (.mv (.tmp 26))]
 [0,1,5,6,7,23,24])
 (.region
 [oq 27 (.mv (.tmp 5)),oq 28 (.mv (.tmp 5)),
 oq 29 (.mv (.tmp 6)),
 oq 30 (.idx 1 (.tmp 28) (.tmp 29)),
 oq 31 (.load false 1 (.tmp 30)),
 oq 32 (.call (.func 143) [.tmp 31]),
 oq 33 (.mv (.tmp 7)),
 oq 34 (.buildS 3 1 [.int .i64 0] [(0,1,.tmp 33)]),
 oq 35 (.append 25 3 1 8 (.int .i64 0) (.tmp 32) (.tmp 34)),
 oq 36 (.buildS 25 1 [.slice none 0 0] [(0,1,.tmp 35)]),
 oq 37 (.append 28 25 1 24 (.slice none 0 0) (.tmp 27) (.tmp 36)),
 oq 5 (.mv (.tmp 37))]
 [0,1,5,6,23,24])))
 (.region
 [oq 38 (.ibin .add (.tmp 24) (.const (.int .i64 1))),
 oq 24 (.mv (.tmp 38))]
 [0,1,5,6,23,24])))
def S58_2 : Stmt :=
 .seq
 (.seq
 (.region
 [oq 10 (.mv (.tmp 6)),oq 11 (.mv (.tmp 5)),
 oq 12 (.len false (.tmp 11)),
 oq 13 (.ibin .lss (.tmp 10) (.tmp 12))]
 [0,1,5,6,13])
 (.cond (.tmp 13) .skip (.exit 0)))
 (.seq
 (.block 1
 (.seq
 (.seq
 (.region
 [oq 16 (.mv (.tmp 5)),oq 17 (.mv (.tmp 6)),
 oq 18 (.idx 1 (.tmp 16) (.tmp 17)),
 oq 19 (.load false 1 (.tmp 18)),
 oq 20 (.len false (.tmp 19)),
 oq 21 (.mv (.tmp 1)),
 oq 22 (.ibin .eql (.tmp 20) (.tmp 21))]
 [0,1,5,6,22])
 (.cond (.tmp 22) (.exit 0) .skip))
 (.seq
 (.region
 [oq 23 (.mv (.tmp 0)),
 oq 24 (.mv (.const (.int .i64 0)))]
 [0,1,5,6,23,24])
 (.block 2 (.loop S58_1 [5,24] [0,1,6,23])))))
 (.region
 [oq 14 (.mv (.tmp 6)),
 oq 15 (.ibin .add (.tmp 14) (.const (.int .i64 1))),
 oq 6 (.mv (.tmp 15))]
 [0,1,5,6]))
def S58_3 : Stmt :=
 .seq (.region [oq 6 (.mv (.const (.int .i64 0)))] [0,1,5,6])
 (.block 0 (.loop S58_2 [5,6] [0,1]))
def S58_4 : Stmt :=
 .seq
 (.region [oq 39 (.mv (.tmp 5)),oq 4 (.mv (.tmp 39))] [4])
 .ret
def S58_0 : Stmt :=
 .seq (.region [oq 4 (.mv (.const (.slice none 0 0)))] [0,1])
 (.seq
 (.region
 [oq 8 (.buildS 3 0 [] []),
 oq 9 (.buildS 25 1 [.slice none 0 0] [(0,1,.tmp 8)]),
 oq 5 (.mv (.tmp 9))]
 [0,1,5])
 (.join S58_3 S58_4 [5] []))
def S58 : FnS := ⟨40,[(4,none)],S58_0⟩
theorem tr58 : trFn Try.prog 58 [] [[0,1],[0,1,5],[5],[],[0,1,5,6],[5,6],[0,1],[0,1,5,6,13],[0,1,5,6,22],[0,1,5,6,23,24],[5,24],[0,1,6,23],[0,1,5,6,23,24,25],[0,1,5,6,7,23,24],[0,1,5,6,23,24],[0,1,5,6,23,24],[0,1,5,6],[4]] = some S58 := by kernel_rfl
/- All words in order: parlref5.Every; no condition. -/
theorem lvs_len_mono {t k n : Nat} (h : k ≤ n) : (lvs t k).length ≤ (lvs t n).length := by
 obtain ⟨r, hr⟩ := lvs_pre (t := t) h
 rw [hr, List.length_append]
 omega
theorem lit_bld1 {α : Type} [Rep α] {b : Nat} {T : TypeId} {L : Mem} {cs : List Value} (x : α) (hx : Rep.ok L x cs) : Bld (one b (.cells cs.toArray T)) L T (.slice (some ⟨b, 0, none⟩) 1 1) [x] := by
 have hl := Rep.len hx
 refine ⟨cs, ⟨by simp [hl], .inr ⟨b, 0, 0, _, rfl, by simp, by unfold maxLen; omega, one_self _ _, by simp [hl], by simp [← hl]⟩⟩, fun i y hi => ?_⟩
 cases i with
 | zero => simp at hi; subst hi; exact ⟨cs, hx, fun j hj => by simp⟩
 | succ i => simp at hi
set_option maxHeartbeats 2000000 in
theorem ref_every {Γr : Ctx} (t n : Nat) (ht : 1 ≤ t ∧ t ≤ 1000) (hn : n ≤ 1000) (hl : (lvs t (n + 1)).length ≤ 100000) :
  Ret Try.prog 58 [.int .i64 t, .int .i64 n] Γr [] (fun v Γ => ∃ go gr, Γ = [go, gr] ∧ Bld go (lk [gr]) 25 v (lvs t (n + 1))) := by
 generalize hR : (fun (v : Value) (Γ : Ctx) => ∃ go gr, _) = R
 refine ret_of_vc tr58 (Nat.le_of_ble_eq_true rfl) ?_
 have ht0 : 0 < t := by omega
 simp -implicitDefEqProofs only [S58, S58_0, go_sem,zA,zB,zC,zD,zE,reduceCtorEq,↓reduceIte,zF,zG,zH,zI]
 intro b0 b1
 refine s_split ?_
 simp -implicitDefEqProofs only [S58_3, S58_4, go_sem,zA,zB,zC,zD,zE,reduceCtorEq,↓reduceIte,zF,zG,zH,zI]
 have hlit0 : SlOk (lk [one b0 (.cells ([] : List Value).toArray 3)]) (some ⟨b0, 0, none⟩) 0 ([] : List Int) := lit_slok [] rfl (by simp)
 have hlit : Bld (one b1 (.cells [Value.slice (some ⟨b0, 0, none⟩) 0 0].toArray 25)) (lk [one b0 (.cells ([] : List Value).toArray 3)]) 25 (.slice (some ⟨b1, 0, none⟩) 1 1) [([] : List Int)] := lit_bld1 [] ⟨_, _, rfl, hlit0⟩
 refine s_loop (fun f vs Γ => ∃ (go gr : PH) (v : Value) (i k j : Nat), vs = [.v true v, .v true (.int .i64 i)] ∧ Γ = [go, gr] ∧ i + f = (lvs t n).length + 1 ∧ ((k < n ∧ j < t ^ k) ∨ (k = n ∧ j = 0)) ∧ i = (lvs t k).length + j ∧ Bld go (lk [gr]) 25 v (lvs t (k + 1) ++ (List.range (j * t)).map (dg t (k + 1)))) ((lvs t n).length + 1)
  (Up.here ⟨_, _, _, 0, 0, 0, rfl, rfl, by omega, by simp; omega, by simp [lvs_zero], by rw [lvs_one]; simpa using hlit⟩) ?_
 clear hlit hlit0
 rintro f vs Γ ⟨go, gr, v, i, k, j, rfl, rfl, hif, hkj, hi, hB⟩
 obtain ⟨A1, c1, rfl⟩ := hB.val
 have hjt : j < t ^ k := by
  rcases hkj with h | ⟨rfl, rfl⟩
  ·exact h.2
  ·exact Nat.pow_pos ht0
 have hkn : k ≤ n := by omega
 have hll := lvs_len_succ t k
 have hmono := lvs_len_mono (t := t) (k := k + 1) (n := n + 1) (by omega)
 have hout : (lvs t (k + 1) ++ (List.range (j * t)).map (dg t (k + 1))).length ≤ 100000 := by
  rw [List.length_append, List.length_map, List.length_range]
  rcases hkj with h | ⟨rfl, rfl⟩
  ·have h1 := lvs_len_mono (t := t) (k := k + 1 + 1) (n := n + 1) (by omega)
   have h2 := lvs_len_succ t (k + 1)
   have h3 : j * t ≤ t ^ (k + 1) := by rw [Nat.pow_succ]; exact Nat.mul_le_mul_right _ (by omega)
   omega
  ·omega
 have hil : i < (lvs t (k + 1) ++ (List.range (j * t)).map (dg t (k + 1))).length := by rw [List.length_append]; omega
 have hget : (lvs t (k + 1) ++ (List.range (j * t)).map (dg t (k + 1)))[i] = dg t k j := by
  have h1 := lvs_at (t := t) (k := k) (j := j) hjt
  rw [← hi] at h1
  have h2 : i < (lvs t (k + 1)).length := by omega
  rw [List.getElem_append_left h2]
  rw [List.getElem?_eq_getElem h2] at h1
  simpa using h1
 obtain ⟨Az, cz, ez, hSl⟩ := hB.slok (L' := lk [go, gr]) (lk_sub (by simp)) (lk_sub (by simp)) (by omega)
 simp only [Value.slice.injEq, true_and] at ez
 obtain ⟨rfl, rfl⟩ := ez
 obtain ⟨b2, o2, hA2, A3, c3, hs3, hc2⟩ := hSl.list hil
 rw [hget, dg_len] at hc2
 rw [hget] at hs3
 simp -implicitDefEqProofs only [S58_2, go_sem,zA,zB,zC,zD,zE,reduceCtorEq,↓reduceIte,zF,zG,zH,zI]
 refine ⟨fun _ => ?_, fun h => absurd (by omega) h⟩
 refine s_idx hA2 (by omega) (by omega) ?_
 simp -implicitDefEqProofs only [go_sem,zA,zB,zC,zD,zE,reduceCtorEq,↓reduceIte,zF,zG,zH,zI]
 refine s_ld0 (hc2 _ (lk_sub (by simp))) (by simp) (by simp) ?_
 simp -implicitDefEqProofs only [go_sem,zA,zB,zC,zD,zE,reduceCtorEq,↓reduceIte,zF,zG,zH,zI]
 refine ⟨fun hkn2 => ?_, fun hkn2 => ?_⟩
 ·have hkn3 : k = n := by omega
  have hj0 : j = 0 := by omega
  have e : lvs t (k + 1) ++ (List.range (j * t)).map (dg t (k + 1)) = lvs t (n + 1) := by rw [hkn3, hj0]; simp
  rw [e] at hB ⊢
  subst hR
  exact Up.here (Up.here ⟨go, gr, rfl, hB⟩)
 have hk : k < n := by omega
 have h2 := lvs_len_succ t (k + 1)
 have h1 := lvs_len_mono (t := t) (k := k + 1 + 1) (n := n + 1) (by omega)
 have h3 : (j + 1) * t ≤ t ^ (k + 1) := by rw [Nat.pow_succ]; exact Nat.mul_le_mul_right _ (by omega)
 rw [Nat.add_mul, Nat.one_mul] at h3
 clear hSl hs3 hc2 hA2
 refine s_loop (fun f2 vs Γ => ∃ (go gr : PH) (v : Value) (c : Nat), vs = [.v true v, .v true (.int .i64 c)] ∧ Γ = [go, gr] ∧ c + f2 = t ∧ Bld go (lk [gr]) 25 v (lvs t (k + 1) ++ (List.range (j * t + c)).map (dg t (k + 1)))) t
  (Up.here ⟨go, gr, _, 0, rfl, rfl, by omega, hB⟩) ?_
 clear hB
 rintro f2 vs Γ ⟨go, gr, v, c, rfl, rfl, hcf, hB⟩
 obtain ⟨A1, c1, rfl⟩ := hB.val
 have hout2 : (lvs t (k + 1) ++ (List.range (j * t + c)).map (dg t (k + 1))).length ≤ 100000 := by
  rw [List.length_append, List.length_map, List.length_range]
  omega
 simp -implicitDefEqProofs only [S58_1, go_sem,zA,zB,zC,zD,zE,reduceCtorEq,↓reduceIte,zF,zG,zH,zI]
 refine ⟨fun hlt => ?_, fun hge => ?_⟩
 ·have hc : c < t := by omega
  have hil2 : i < (lvs t (k + 1) ++ (List.range (j * t + c)).map (dg t (k + 1))).length := by rw [List.length_append]; omega
  have hget2 : (lvs t (k + 1) ++ (List.range (j * t + c)).map (dg t (k + 1)))[i] = dg t k j := by
   have h1 := lvs_at (t := t) (k := k) (j := j) hjt
   rw [← hi] at h1
   have h2 : i < (lvs t (k + 1)).length := by omega
   rw [List.getElem_append_left h2]
   rw [List.getElem?_eq_getElem h2] at h1
   simpa using h1
  obtain ⟨Az, cz, ez, hSl⟩ := hB.slok (L' := lk [go, gr]) (lk_sub (by simp)) (lk_sub (by simp)) (by omega)
  simp only [Value.slice.injEq, true_and] at ez
  obtain ⟨rfl, rfl⟩ := ez
  obtain ⟨b2, o2, hA2, A3, c3, hs3, hc2⟩ := hSl.list hil2
  rw [hget2, dg_len] at hc2
  rw [hget2] at hs3
  refine s_idx hA2 (by omega) (by omega) ?_
  simp -implicitDefEqProofs only [go_sem,zA,zB,zC,zD,zE,reduceCtorEq,↓reduceIte,zF,zG,zH,zI]
  refine s_ld0 (hc2 _ (lk_sub (by simp))) (by simp) (by simp) ?_
  simp -implicitDefEqProofs only [go_sem,zA,zB,zC,zD,zE,reduceCtorEq,↓reduceIte,zF,zG,zH,zI]
  have hcl : Ret Try.prog _ _ ([go, gr] ++ Γr) [] _ := slices_clone (hs3.mono (lk_l _ _)) (by rw [dg_len]; omega)
  rw [dg_len] at hcl
  refine CallVC.read hcl ?_
  rintro v Γ' ⟨g3, rfl, hB3⟩
  obtain ⟨A4, c4, rfl⟩ := hB3.val
  simp -implicitDefEqProofs only [go_sem,zA,zB,zC,zD,zE,reduceCtorEq,↓reduceIte,zF,zG,zH,zI]
  intro b3
  refine s_app1S (ix := 1) (c : Int) rfl hB3 cells_one rfl (by rw [dg_len]; omega) (by rw [dg_len]; unfold maxLen; omega) ?_
  intro v3 g4 hB4 _
  rw [← dg_snoc k j c hc] at hB4
  obtain ⟨A5, c5, rfl, hs5⟩ := hB4.slok (L' := lk [g4]) (Mem.le.refl _) (lk_sub (by simp)) (by rw [dg_len]; omega)
  simp -implicitDefEqProofs only [go_sem,zA,zB,zC,zD,zE,reduceCtorEq,↓reduceIte,zF,zG,zH,zI]
  intro b4
  refine s_app1 (ix := 3) (L' := lk [g4, gr]) (x := dg t (k + 1) (j * t + c)) rfl hB (lk_sub (by simp)) ⟨_, _, rfl, hs5.mono (lk_sub (by simp))⟩ cells_one rfl (by omega) (by unfold maxLen; omega) ?_
  intro v5 go' hB5 _
  rw [List.append_assoc, ← range_map_succ] at hB5
  simp -implicitDefEqProofs only [go_sem,zA,zB,zC,zD,zE,reduceCtorEq,↓reduceIte,zF,zG,zH,zI]
  simp (disch := omega) only [wrap_id]
  refine ⟨f2 - 1, by omega, Up.sel [[3], [2, 4]] (by decide) fun _ hm => ⟨_, _, _, c + 1, rfl, rfl, by omega, hB5.mono (Mem.le.refl _) (hm [2, 4] (by simp))⟩⟩
 ·have hct : c = t := by omega
  rw [hct] at hB
  have hB2 : Bld go (lk [gr]) 25 (.slice A1 (lvs t (k + 1) ++ (List.range (j * t + c)).map (dg t (k + 1))).length c1) (lvs t (k + 1) ++ (List.range ((j + 1) * t)).map (dg t (k + 1))) := by
   rw [hct, Nat.add_mul, Nat.one_mul]
   exact hB
  simp (disch := omega) only [wrap_id]
  have hmn := lvs_len_mono (t := t) (k := k + 1) (n := n) (by omega)
  by_cases hj : j + 1 < t ^ k
  ·exact ⟨f - 1, by omega, Up.here ⟨go, gr, _, i + 1, k, j + 1, rfl, rfl, by omega, .inl ⟨hk, hj⟩, by omega, hB2⟩⟩
  ·have hj2 : j + 1 = t ^ k := by omega
   refine ⟨f - 1, by omega, Up.here ⟨go, gr, _, i + 1, k + 1, 0, rfl, rfl, by omega, ?_, by omega, ?_⟩⟩
   ·by_cases e : k + 1 < n
    ·exact .inl ⟨e, Nat.pow_pos ht0⟩
    ·exact .inr ⟨by omega, rfl⟩
   ·rw [hj2, ← Nat.pow_succ] at hB2
    have h5 : (List.range (t ^ (k + 1))).map (dg t (k + 1)) = lev t (k + 1) := rfl
    rw [h5, ← lvs_succ] at hB2
    simpa using hB2
/- The text of slices.Equal[[]int,int] as a statement; no condition. -/
def S19_1 : Stmt :=
 .seq
 (.region [oq 14 (.ibin .lss (.tmp 13) (.tmp 12))] [0,1,12,13,14])
 (.seq (.cond (.tmp 14) .skip (.exit 0))
 (.seq
 (.block 1
 (.seq
 (.region
 [oq 15 (.mv (.tmp 13)),oq 5 (.mv (.tmp 15))]
 [0,1,5,12,13])
 (.seq
 (.quiet
 [oq 16 (.mv (.tmp 0)),oq 17 (.mv (.tmp 5)),
 oq 18 (.idx 1 (.tmp 16) (.tmp 17)),
 oq 19 (.load false 1 (.tmp 18)),
 oq 20 (.mv (.tmp 1)),oq 21 (.mv (.tmp 5)),
 oq 22 (.idx 1 (.tmp 20) (.tmp 21)),
 oq 23 (.load false 1 (.tmp 22)),
 oq 24 (.ibin .neq (.tmp 19) (.tmp 23))]
 [0,1,12,13,24])
 (.cond (.tmp 24)
 (.seq (.region [oq 4 (.mv (.const (.bool false)))] [4]) .ret)
 .skip))))
 (.region
 [oq 25 (.ibin .add (.tmp 13) (.const (.int .i64 1))),
 oq 13 (.mv (.tmp 25))]
 [0,1,12,13])))
def S19_0 : Stmt :=
 .seq (.region [oq 4 (.mv (.const (.bool false)))] [0,1])
 (.seq
 (.seq
 (.region
 [oq 6 (.mv (.tmp 0)),oq 7 (.len false (.tmp 6)),
 oq 8 (.mv (.tmp 1)),oq 9 (.len false (.tmp 8)),
 oq 10 (.ibin .neq (.tmp 7) (.tmp 9))]
 [0,1,10])
 (.cond (.tmp 10)
 (.seq (.region [oq 4 (.mv (.const (.bool false)))] [4]) .ret)
 .skip))
 (.seq
 (.seq
 (.region
 [oq 11 (.mv (.tmp 0)),oq 12 (.len false (.tmp 11)),
 oq 13 (.mv (.const (.int .i64 0)))]
 [0,1,12,13])
 (.block 0 (.loop S19_1 [13] [0,1,12])))
 (.seq (.region [oq 4 (.mv (.const (.bool true)))] [4]) .ret)))
def S19 : FnS := ⟨26,[(4,none)],S19_0⟩
theorem tr19 : trFn Try.prog 19 [] [[0,1],[0,1,10],[4],[0,1,12,13],[13],[0,1,12],[0,1,12,13,14],[0,1,5,12,13],[0,1,12,13,24],[4],[0,1,12,13],[4]] = some S19 := by kernel_rfl
/- slices.Equal of numbers walked; no condition. -/
theorem take_eq_succ {α : Type} {xs ys : List α} {k : Nat} (hk : k < xs.length) (hk' : k < ys.length) (h : xs.take k = ys.take k) (e : xs[k] = ys[k]) : xs.take (k + 1) = ys.take (k + 1) := by
 rw [List.take_succ_eq_append_getElem hk, List.take_succ_eq_append_getElem hk', h, e]

theorem slices_equal {Γr : Ctx} {A B : Option Addr} {c d : Nat} {xs ys : List Int} (hx : SlOk (lk Γr) A c xs) (hy : SlOk (lk Γr) B d ys) :
  Ret Try.prog 19 [.slice A xs.length c, .slice B ys.length d] Γr [] (fun v Γ => Γ = [] ∧ v = .bool (decide (xs = ys))) := by
 generalize hR : (fun v Γ => Γ = [] ∧ v = _) = R
 refine ret_of_vc tr19 (Nat.le_of_ble_eq_true rfl) ?_
 have h1 := hx.short
 have h2 := hy.short
 simp only [S19, S19_0, go_sem,zA,zB,zC,zD,zE,reduceCtorEq,↓reduceIte,zF,zG,zH,zI]
 refine ⟨fun hne => Up.here ?_, fun heq => ?_⟩
 ·subst hR
  refine ⟨rfl, ?_⟩
  have : xs ≠ ys := fun e => by subst e; exact hne rfl
  simp [this]
 have hl : xs.length = ys.length := by omega
 refine s_loop (fun f vs Γ => Γ = [] ∧ ∃ k : Nat, vs = [.v true (.int .i64 k)] ∧ k + f = xs.length ∧ xs.take k = ys.take k) xs.length (Up.here ⟨rfl, 0, rfl, by omega, by simp⟩) ?_
 rintro f vs Γ ⟨rfl, k, rfl, hkf, htk⟩
 simp only [S19_1, go_sem,zA,zB,zC,zD,zE,reduceCtorEq,↓reduceIte,zF,zG,zH,zI]
 refine ⟨fun hlt => ?_, fun hge => ?_⟩
 ·have hk : k < xs.length := by omega
  have hk' : k < ys.length := by omega
  obtain ⟨b, o, hA, hc1⟩ := hx.int hk
  obtain ⟨b', o', hB, hc2⟩ := hy.int hk'
  refine s_idx hA (by omega) (by omega) ?_
  simp only [go_sem,zA,zB,zC,zD,zE,reduceCtorEq,↓reduceIte,zF,zG,zH,zI]
  refine s_ld0 (hc1 _ (Mem.le.refl _)) (by simp) (by simp) ?_
  simp only [go_sem,zA,zB,zC,zD,zE,reduceCtorEq,↓reduceIte,zF,zG,zH,zI]
  refine s_idx hB (by omega) (by omega) ?_
  simp only [go_sem,zA,zB,zC,zD,zE,reduceCtorEq,↓reduceIte,zF,zG,zH,zI]
  refine s_ld0 (hc2 _ (Mem.le.refl _)) (by simp) (by simp) ?_
  simp only [go_sem,zA,zB,zC,zD,zE,reduceCtorEq,↓reduceIte,zF,zG,zH,zI]
  refine ⟨fun hne => Up.here ?_, fun heq => ?_⟩
  ·subst hR
   refine ⟨rfl, ?_⟩
   have : xs ≠ ys := fun e => by subst e; exact hne rfl
   simp [this]
  ·simp (disch := omega) only [wrap_id]
   exact ⟨f - 1, by omega, Up.here ⟨rfl, k + 1, rfl, by omega, take_eq_succ hk hk' htk heq⟩⟩
 ·have hk : k = xs.length := by omega
  refine Up.here ?_
  subst hR
  refine ⟨rfl, ?_⟩
  have : xs = ys := by
   rw [hk, List.take_length, hl, List.take_length] at htk
   exact htk
  simp [this]

/- The text of parlance/parllaw5.CompareWithin as a statement; no condition. -/
def S12_1 : Stmt :=
 .seq
 (.region
 [oq 44 (.mv (.tmp 11)),
 oq 45 (.ibin .eql (.tmp 44) (.const (.int .i64 0))),
 oq 46 (.mv (.tmp 45)),
 .mk (some 47) (some (46,true)) (.fld 2 (.tmp 3)),
 .mk (some 48) (some (46,true)) (.load false 1 (.tmp 47)),
 .mk (some 49) (some (46,true)) (.len false (.tmp 48)),
 .mk (some 50) (some (46,true))
 (.ibin .eql (.tmp 49) (.const (.int .i64 12))),
 oq 51 (.pick (.tmp 46) (.tmp 50) (.const (.bool false)))]
 [2,3,8,9,10,11,51])
 (.cond (.tmp 51)
 (.region [oq 11 (.mv (.const (.int .i64 2)))] [2,3,8,9,10,11])
 .skip)
def S12_2 : Stmt :=
 .seq
 (.region [oq 82 (.ibin .lss (.tmp 81) (.tmp 80))]
 [3,8,9,10,12,79,80,81,82])
 (.seq (.cond (.tmp 82) .skip (.exit 0))
 (.seq
 (.block 1
 (.seq
 (.region
 [oq 83 (.idx 1 (.tmp 79) (.tmp 81)),
 oq 84 (.load false 1 (.tmp 83)),
 oq 15 (.mv (.tmp 84))]
 [3,8,9,10,12,15,79,80,81])
 (.seq
 (.region
 [oq 85 (.mv (.tmp 12)),oq 86 (.mv (.tmp 15)),
 oq 87 (.call (.func 65) [.tmp 85,.tmp 86]),
 oq 88 (.mv (.tmp 87)),
 .mk (some 89) (some (88,true)) (.load true 3 (.tmp 3)),
 .mk (some 90) (some (88,true)) (.mv (.tmp 15)),
 .mk (some 91) (some (88,true)) (.call (.func 59) [.tmp 89,.tmp 90]),
 .mk (some 92) (some (88,true)) (.un .not (.tmp 91)),
 oq 93 (.pick (.tmp 88) (.tmp 92) (.const (.bool false)))]
 [3,8,9,10,12,15,79,80,81,93])
 (.cond (.tmp 93)
 (.seq
 (.region
 [oq 94 (.mv (.tmp 10)),
 .mk (some 95) none
 (.ibin .eql (.tmp 94) (.const (.int .i64 0))),
 oq 96 (.mv (.tmp 95)),
 .mk (some 97) (some (96,true)) (.mv (.tmp 8)),
 .mk (some 98) (some (96,true)) (.un .not (.tmp 97)),
 .mk (some 99) none
 (.pick (.tmp 96) (.tmp 98) (.const (.bool false))),
 oq 100 (.mv (.tmp 99)),
 .mk (some 101) (some (100,true)) (.mv (.tmp 9)),
 .mk (some 102) (some (100,true)) (.mv (.tmp 15)),
 .mk (some 103) (some (100,true))
 (.call (.func 19) [.tmp 101,.tmp 102]),
 .mk (some 104) none
 (.pick (.tmp 100) (.tmp 103) (.const (.bool false))),
 oq 4 (.mv (.tmp 104))]
 [4])
 .ret)
 .skip))))
 (.region
 [oq 105 (.ibin .add (.tmp 81) (.const (.int .i64 1))),
 oq 81 (.mv (.tmp 105))]
 [3,8,9,10,12,79,80,81])))
def S12_3 : Stmt :=
 .seq
 (.seq
 (.region
 [oq 52 (.mv (.tmp 11)),
 oq 53 (.ibin .neq (.tmp 52) (.const (.int .i64 0)))]
 [2,3,8,9,10,11,53])
 (.cond (.tmp 53)
 (.seq
 (.region
 [oq 54 (.mv (.tmp 10)),oq 55 (.mv (.tmp 11)),
 oq 56 (.ibin .eql (.tmp 54) (.tmp 55)),
 oq 57 (.mv (.tmp 56)),
 .mk (some 58) (some (57,true)) (.mv (.tmp 8)),
 .mk (some 59) (some (57,true)) (.un .not (.tmp 58)),
 oq 60 (.pick (.tmp 57) (.tmp 59) (.const (.bool false))),
 oq 61 (.mv (.tmp 60)),
 .mk (some 62) (some (61,true)) (.mv (.tmp 9)),
 .mk (some 63) (some (61,true)) (.len false (.tmp 62)),
 .mk (some 64) (some (61,true))
 (.ibin .eql (.tmp 63) (.const (.int .i64 0))),
 oq 65 (.pick (.tmp 61) (.tmp 64) (.const (.bool false))),
 oq 4 (.mv (.tmp 65))]
 [4])
 .ret)
 .skip))
 (.seq
 (.region
 [oq 67 (.load true 4 (.tmp 2)),
 oq 68 (.call (.func 75) [.tmp 67,.const (.int .i64 5)]),
 oq 66 (.mv (.tmp 68)),oq 69 (.extract 0 (.tmp 66)),
 oq 70 (.extract 1 (.tmp 66)),oq 12 (.mv (.tmp 69)),
 oq 13 (.mv (.tmp 70))]
 [2,3,8,9,10,12,13])
 (.seq
 (.seq
 (.region
 [oq 71 (.mv (.tmp 13)),
 oq 72 (.un .not (.tmp 71)),
 oq 73 (.mv (.tmp 72)),
 .mk (some 74) (some (73,false)) (.mv (.tmp 10)),
 .mk (some 75) (some (73,false))
 (.ibin .eql (.tmp 74) (.const (.int .i64 2))),
 oq 76 (.pick (.tmp 73) (.const (.bool true)) (.tmp 75))]
 [2,3,8,9,10,12,76])
 (.cond (.tmp 76)
 (.seq (.region [oq 4 (.mv (.const (.bool true)))] [4]) .ret)
 .skip))
 (.seq
 (.seq
 (.region
 [oq 77 (.fld 0 (.tmp 2)),
 oq 78 (.load false 1 (.tmp 77)),
 .mk (some 79) none
 (.call (.func 58) [.tmp 78,.const (.int .i64 5)]),
 oq 80 (.len false (.tmp 79)),
 oq 81 (.mv (.const (.int .i64 0)))]
 [3,8,9,10,12,79,80,81])
 (.block 0 (.loop S12_2 [81] [3,8,9,10,12,79,80])))
 (.seq
 (.region
 [oq 106 (.mv (.tmp 10)),
 oq 107 (.ibin .eql (.tmp 106) (.const (.int .i64 0))),
 oq 108 (.mv (.tmp 107)),
 .mk (some 109) (some (108,true)) (.mv (.tmp 8)),
 .mk (some 110) (some (108,true)) (.mv (.tmp 109)),
 .mk (some 111) (some (110,true)) (.mv (.tmp 9)),
 .mk (some 112) (some (110,true)) (.len false (.tmp 111)),
 .mk (some 113) (some (110,true))
 (.ibin .eql (.tmp 112) (.const (.int .i64 0))),
 .mk (some 114) (some (108,true))
 (.pick (.tmp 110) (.tmp 113) (.const (.bool false))),
 .mk (some 115) (some (108,true)) (.mv (.tmp 114)),
 .mk (some 116) (some (115,false)) (.mv (.tmp 8)),
 .mk (some 117) (some (115,false)) (.un .not (.tmp 116)),
 .mk (some 118) (some (115,false)) (.mv (.tmp 117)),
 .mk (some 119) (some (118,true)) (.mv (.tmp 9)),
 .mk (some 120) (some (118,true)) (.len false (.tmp 119)),
 .mk (some 121) (some (118,true))
 (.ibin .gtr (.tmp 120) (.const (.int .i64 5))),
 .mk (some 122) (some (115,false))
 (.pick (.tmp 118) (.tmp 121) (.const (.bool false))),
 .mk (some 123) (some (115,false)) (.mv (.tmp 122)),
 .mk (some 124) (some (123,true)) (.load true 3 (.tmp 3)),
 .mk (some 125) (some (123,true)) (.mv (.tmp 9)),
 .mk (some 126) (some (123,true)) (.call (.func 59) [.tmp 124,.tmp 125]),
 .mk (some 127) (some (123,true)) (.un .not (.tmp 126)),
 .mk (some 128) (some (115,false))
 (.pick (.tmp 123) (.tmp 127) (.const (.bool false))),
 .mk (some 129) (some (108,true))
 (.pick (.tmp 115) (.const (.bool true)) (.tmp 128)),
 .mk (some 130) none
 (.pick (.tmp 108) (.tmp 129) (.const (.bool false))),
 oq 4 (.mv (.tmp 130))]
 [4])
 .ret))))
def S12_0 : Stmt :=
 .seq
 (.region
 [oq 2 (.box true 24 (.tmp 0)),oq 3 (.box true 94 (.tmp 1)),
 oq 4 (.mv (.const (.bool false)))]
 [2,3])
 (.seq
 (.seq
 (.region
 [oq 17 (.call (.func 61) []),
 oq 18 (.call (.func 67) []),
 oq 19 (.call (.func 76) [.tmp 17,.tmp 18]),
 oq 16 (.mv (.tmp 19)),oq 20 (.extract 0 (.tmp 16)),
 oq 21 (.extract 1 (.tmp 16)),
 oq 22 (.extract 2 (.tmp 16)),oq 5 (.mv (.tmp 20)),
 oq 6 (.mv (.tmp 21)),oq 7 (.mv (.tmp 22))]
 [2,3,5,6,7])
 (.seq
 (.region
 [oq 23 (.mv (.tmp 5)),oq 24 (.un .not (.tmp 23)),
 oq 25 (.mv (.tmp 24)),
 .mk (some 26) (some (25,false)) (.mv (.tmp 6)),
 .mk (some 27) (some (25,false)) (.len false (.tmp 26)),
 .mk (some 28) (some (25,false))
 (.ibin .gtr (.tmp 27) (.const (.int .i64 0))),
 oq 29 (.pick (.tmp 25) (.const (.bool true)) (.tmp 28)),
 oq 30 (.mv (.tmp 29)),
 .mk (some 31) (some (30,false)) (.mv (.tmp 7)),
 .mk (some 32) (some (30,false))
 (.ibin .neq (.tmp 31) (.const (.int .i64 0))),
 oq 33 (.pick (.tmp 30) (.const (.bool true)) (.tmp 32))]
 [2,3,33])
 (.cond (.tmp 33)
 (.seq (.region [oq 4 (.mv (.const (.bool false)))] [4]) .ret)
 .skip)))
 (.seq
 (.region
 [oq 35 (.load true 4 (.tmp 2)),
 oq 36 (.load true 3 (.tmp 3)),
 oq 37 (.call (.func 76) [.tmp 35,.tmp 36]),
 oq 34 (.mv (.tmp 37)),oq 38 (.extract 0 (.tmp 34)),
 oq 39 (.extract 1 (.tmp 34)),
 oq 40 (.extract 2 (.tmp 34)),oq 8 (.mv (.tmp 38)),
 oq 9 (.mv (.tmp 39)),oq 10 (.mv (.tmp 40))]
 [2,3,8,9,10])
 (.seq
 (.region
 [oq 41 (.load true 4 (.tmp 2)),
 oq 42 (.load true 3 (.tmp 3)),
 oq 43 (.call (.func 68) [.tmp 41,.tmp 42]),
 oq 11 (.mv (.tmp 43))]
 [2,3,8,9,10,11])
 (.join S12_1 S12_3 [11] [2,3,8,9,10]))))
def S12 : FnS := ⟨131,[(4,none)],S12_0⟩
theorem tr12 : trFn Try.prog 12 [2,3] [[2,3],[2,3,5,6,7],[2,3,33],[4],[2,3,8,9,10],[2,3,8,9,10,11],[11],[2,3,8,9,10],[2,3,8,9,10,11,51],[2,3,8,9,10,11],[2,3,8,9,10,11,53],[4],[2,3,8,9,10,12,13],[2,3,8,9,10,12,76],[4],[3,8,9,10,12,79,80,81],[81],[3,8,9,10,12,79,80],[3,8,9,10,12,79,80,81,82],[3,8,9,10,12,15,79,80,81],[3,8,9,10,12,15,79,80,81,93],[4],[3,8,9,10,12,79,80,81],[4]] = some S12 := by kernel_rfl
/- The law of parllaw5.CompareWithin: it answers true; no condition. -/
theorem small_total : ∀ (w : List Int) (q : Int), ∃ p, RunQ endsA q w p
 | [], q => ⟨q, rfl⟩
 | x :: w, q => by
  obtain ⟨p, hp⟩ := small_total w (stepD endsA q x)
  exact ⟨p, (small_any q x).1, hp⟩
theorem small_out (w : List Int) : ¬ OutW plainG endsA w := by
 rintro ⟨⟨r, hr, _, hd⟩, h⟩
 obtain ⟨p, hp⟩ := small_total w 0
 have h1 : p = 1 := by
  refine (small_run hd (q := 0) ⟨Int.le_refl _, by decide⟩ hp).2 ?_
  simp [plainG] at hr
  rcases hr with rfl | rfl
  ·exact ⟨⟨true, 0⟩, rfl, .inr rfl⟩
  ·exact ⟨⟨false, 0⟩, rfl, .inl rfl⟩
 subst h1
 have h2 : endsD endsA 0 w = true := (ends_runQ (Int.le_refl _)).2 ⟨1, hp, by decide⟩
 have h : endsD endsA 0 w = false := h
 rw [h2] at h
 cases h
theorem small_none {T : Int → Int → List Int} (hI : TabI plainG (othD endsA) T) {t : Tri} (h : ReaQ plainG (othD endsA) T t) : False := by
 induction h with
 | @start p h ha =>
  have D : VD endsA := dfF_ok ends_df
  obtain ⟨w, hw, hrun⟩ := hI.snd _ _ _ h
  have hend : endsD (othD endsA) 0 w = true := (ends_runQ (d := othD endsA) (Int.le_refl _)).2 ⟨p, hrun, ha⟩
  have hok : okW endsA w := by
   obtain ⟨r, hr, _, hdr⟩ := hw
   have V : VG plainG := ckF_ok plain_ck
   have h1 : ∀ x ∈ w, 0 ≤ x ∧ x < plainG.ts := hdr.all (fun r hr s hs q => V.term hr hs q) (fun s hs q => V.term hr hs q)
   intro x hx
   have := h1 x hx
   exact this
  have := oth_ends D (w := w) (s := 0) (by decide) (by decide) hok
  rw [show othX endsA.nx.length 0 = 0 from rfl, hend] at this
  refine small_out w ⟨hw, ?_⟩
  show endsD endsA 0 w = false
  cases hq : endsD endsA 0 w with
  | false => rfl
  | true => rw [hq] at this; cases this
 | step _ _ _ _ _ ih => exact ih
theorem small_sum0 {T : Int → Int → List Int} (hI : TabI plainG (othD endsA) T) {row : List Tri} (hr : RowI plainG (othD endsA) T row) (n : Nat) : sumC plainG (othD endsA) T row n = 0 := by
 have h1 : row = [] := by
  cases row with
  | nil => rfl
  | cons t l => exact (small_none hI (hr.rea t (by simp))).elim
 subst h1
 have h2 : endsL plainG (othD endsA) T = [] := by
  rw [List.eq_nil_iff_forall_not_mem]
  intro p hp
  exact absurd (hr.start p hp) (by simp)
 simp [sumC, h2]
theorem small_within {v : Value} {Γ : Ctx} (h : WithinR plainG endsA v Γ) : v = .tuple #[.bool true, .slice none 0 0, .int .i64 0] := by
 have h0 : meetE plainG endsA = 0 := by decide
 rcases h with ⟨h, _⟩ | ⟨_, _, h | ⟨T, row, n, hI, hr, hs⟩ | ⟨w, hw⟩⟩ | ⟨_, _, _, rfl⟩ | ⟨_, _, w, A, c, hw, _⟩
 ·exact absurd h0 h
 ·exact absurd h (by decide)
 ·rw [small_sum0 hI hr n] at hs
  omega
 ·exact absurd hw (small_out w)
 ·rfl
 ·exact absurd hw (small_out w)
/-- what Within answers, in one form -/
theorem within_one {g : Gr} {d : Da} {v : Value} {Γ : Ctx} (h : WithinR g d v Γ) (h2 : meetE g d = 0 → d.nx.length = 12 → v = .tuple #[.bool false, .slice none 0 0, .int .i64 2]) : ∃ y A n c e, v = .tuple #[.bool y, .slice A n c, .int .i64 e] ∧
  (meetE g d ≠ 0 → y = false ∧ n = 0 ∧ e = meetE g d) ∧ (meetE g d = 0 → d.nx.length = 12 → y = false ∧ n = 0 ∧ e = 2) ∧
  (meetE g d = 0 → d.nx.length ≠ 12 → e = 2 ∨ (y = true ∧ n = 0 ∧ e = 0 ∧ ∀ w, ¬ OutW g d w) ∨ (y = false ∧ e = 0 ∧ ∃ w, n = w.length ∧ OutW g d w ∧ (∀ u, OutW g d u → LLe w u) ∧ SlOk (lk Γ) A c w)) := by
 rcases h with ⟨h, rfl⟩ | ⟨h, rfl, _⟩ | ⟨h, hn, hw, rfl⟩ | ⟨h, hn, w, A, c, h3, h4, rfl, h5⟩
 ·exact ⟨false, none, 0, 0, _, rfl, fun _ => ⟨rfl, rfl, rfl⟩, fun q => absurd q h, fun q => absurd q h⟩
 ·exact ⟨false, none, 0, 0, _, rfl, fun q => absurd h q, fun _ _ => ⟨rfl, rfl, rfl⟩, fun _ _ => .inl rfl⟩
 ·exact ⟨true, none, 0, 0, _, rfl, fun q => absurd h q, fun _ q => absurd q hn, fun _ _ => .inr (.inl ⟨rfl, rfl, rfl, hw⟩)⟩
 ·exact ⟨false, A, _, c, _, rfl, fun q => absurd h q, fun _ q => absurd q hn, fun _ _ => .inr (.inr ⟨rfl, rfl, w, rfl, h3, h4, h5⟩)⟩
set_option maxHeartbeats 2000000 in
theorem law_within {Γr : Ctx} {g : Gr} {d : Da} {cs ds : List Value} (hg : Rep.ok (lk Γr) g cs) (hd : Rep.ok (lk Γr) d ds) :
  Ret Try.prog 12 [.agg cs.toArray, .agg ds.toArray] Γr [] (fun v Γ => Γ = [] ∧ v = .bool true) := by
 obtain ⟨G1, G2, rfl, hx⟩ := ok_gr hg
 obtain ⟨A1, A2, B1, B2, rfl, hA, hB⟩ := ok_da hd
 generalize hR : (fun (v : Value) (Γ : Ctx) => Γ = [] ∧ v = Value.bool true) = R
 refine ret_of_vc tr12 (Nat.le_of_ble_eq_true rfl) ?_
 simp -implicitDefEqProofs only [S12, S12_0, go_sem,zA,zB,zC,zD,zE,reduceCtorEq,↓reduceIte,zF,zG,zH,zI]
 intro b0 b1
 refine CallVC.read (plain_ (Γr := [] ++ Γr)) ?_
 rintro v Γ' ⟨g1, Ap, cp, rfl, hp, rfl⟩
 simp -implicitDefEqProofs only [go_sem,zA,zB,zC,zD,zE,reduceCtorEq,↓reduceIte,zF,zG,zH,zI]
 refine CallVC.read (ends_ (Γr := [g1] ++ Γr)) ?_
 rintro v Γ' ⟨g2, Ae, ce, Be, ee, rfl, he1, he2, rfl⟩
 simp -implicitDefEqProofs only [go_sem,zA,zB,zC,zD,zE,reduceCtorEq,↓reduceIte,zF,zG,zH,zI]
 refine CallVC.read (cmp_within (Γr := [g2, g1] ++ Γr) (g := plainG) (d := endsA) (G := (Ap, cp)) (A := (Ae, ce)) (B := (Be, ee)) (hp.mono (lk_sub (by simp))) (he1.mono (lk_sub (by simp))) (he2.mono (lk_sub (by simp)))) ?_
 rintro v Γs ⟨hS, _⟩
 obtain rfl := small_within hS
 simp -implicitDefEqProofs only [go_sem,zA,zB,zC,zD,zE,reduceCtorEq,↓reduceIte,zF,zG,zH,zI]
 refine CallVC.read (cmp_within (Γr := (Γs ++ [g2, g1]) ++ Γr) (g := g) (d := d) (G := (G1, G2)) (A := (A1, A2)) (B := (B1, B2)) (hx.mono (lk_r _ _)) (hA.mono (lk_r _ _)) (hB.mono (lk_r _ _))) ?_
 rintro v Γ2 ⟨hW, hW2⟩
 obtain ⟨y, A3, n3, c3, e3, rfl, hw1, hw2, hw3⟩ := within_one hW hW2
 clear hW hW2 hS
 simp -implicitDefEqProofs only [go_sem,zA,zB,zC,zD,zE,reduceCtorEq,↓reduceIte,zF,zG,zH,zI]
 refine CallVC.read (dfa_errs (Γr := (Γ2 ++ (Γs ++ [g2, g1])) ++ Γr) (g := g) (d := d) (G := (G1, G2)) (A := (A1, A2)) (B := (B1, B2)) (hx.mono (lk_r _ _)) (hA.mono (lk_r _ _)) (hB.mono (lk_r _ _))) ?_
 rintro v Γ3 ⟨rfl, rfl⟩
 simp -implicitDefEqProofs only [go_sem,zA,zB,zC,zD,zE,reduceCtorEq,↓reduceIte,zF,zG,zH,zI]
 refine s_join (fun vs Γ => Γ = Γ2 ++ (Γs ++ [g2, g1]) ∧ vs = [.v true (.int .i64 (if meetE g d = 0 ∧ d.nx.length = 12 then 2 else meetE g d))]) ?_ ?_
 ·simp -implicitDefEqProofs only [S12_1, go_sem,zA,zB,zC,zD,zE,reduceCtorEq,↓reduceIte,zF,zG,zH,zI]
  refine ⟨fun h => Up.here ⟨rfl, ?_⟩, fun h => Up.here ⟨rfl, ?_⟩⟩
  ·rw [if_pos ⟨h.1, by omega⟩]
  ·rw [if_neg (fun q => by rcases h with h | h; exact h q.1; exact h (by have := q.2; omega))]
 rintro vs Γ4 ⟨rfl, rfl⟩
 simp -implicitDefEqProofs only [S12_3, go_sem,zA,zB,zC,zD,zE,reduceCtorEq,↓reduceIte,zF,zG,zH,zI]
 refine ⟨fun hne => ?_, fun h0 => ?_⟩
 ·refine Up.to [] (Ent.nil _) ?_
  subst hR
  by_cases q : meetE g d = 0 ∧ d.nx.length = 12
  ·obtain ⟨rfl, rfl, rfl⟩ := hw2 q.1 q.2
   rw [if_pos q]
   simp
  ·rw [if_neg q] at hne
   obtain ⟨rfl, rfl, rfl⟩ := hw1 hne
   rw [if_neg q]
   simp
 have hne12 : ¬ (meetE g d = 0 ∧ d.nx.length = 12) := fun q => by rw [if_pos q] at h0; cases h0
 rw [if_neg hne12] at h0
 have hw := hw3 h0 (fun q => hne12 ⟨h0, q⟩)
 clear hw1 hw2 hw3 hne12
 obtain ⟨V, D, hT, h12⟩ := meetE_ok h0
 have hts := V.ts
 refine CallVC.read (ref_words (g := g) (hx.mono (lk_r _ _)) V 5 (by omega)) ?_
 rintro v Γ3 (⟨rfl, rfl⟩ | ⟨gm, bm, l, rfl, rfl, hm, hl⟩)
 ·simp -implicitDefEqProofs only [go_sem,zA,zB,zC,zD,zE,reduceCtorEq,↓reduceIte,zF,zG,zH,zI]
  refine Up.to [] (Ent.nil _) ?_
  subst hR
  exact ⟨rfl, rfl⟩
 simp -implicitDefEqProofs only [go_sem,zA,zB,zC,zD,zE,reduceCtorEq,↓reduceIte,zF,zG,zH,zI]
 refine ⟨fun _ => ?_, fun hn2 => ?_⟩
 ·refine Up.to [] (Ent.nil _) ?_
  subst hR
  exact ⟨rfl, rfl⟩
 have hw : (y = true ∧ n3 = 0 ∧ e3 = 0 ∧ ∀ w, ¬ OutW g d w) ∨ (y = false ∧ e3 = 0 ∧ ∃ w, n3 = w.length ∧ OutW g d w ∧ (∀ u, OutW g d u → LLe w u) ∧ SlOk (lk Γ2) A3 c3 w) := hw.resolve_left hn2
 obtain rfl : e3 = 0 := by rcases hw with ⟨_, _, h, _⟩ | ⟨_, h, _⟩ <;> exact h
 have hT2 : ((g.ts.toNat : Nat) : Int) = g.ts := by omega
 have h5 : (lvs g.ts.toNat (5 + 1)).length ≤ 37449 := lvs_five (by omega)
 have hev : ∀ Γ, Ret Try.prog _ _ Γ [] _ := fun Γ => ref_every (Γr := Γ) g.ts.toNat 5 (by omega) (by omega) (by omega)
 rw [hT2] at hev
 refine CallVC.read (hev _) ?_
 rintro v Γ4 ⟨go, gr, rfl, hBo⟩
 obtain ⟨A4, c4, rfl, hs4⟩ := hBo.slok (L' := lk [go, gr]) (lk_sub (by simp)) (lk_sub (by simp)) (by omega)
 obtain ⟨L, hLd⟩ : ∃ L, lvs g.ts.toNat (5 + 1) = L := ⟨_, rfl⟩
 have hLw : ∀ w ∈ L, (∀ x ∈ w, 0 ≤ x ∧ x < g.ts) ∧ w.length ≤ 5 := by
  intro w hw
  rw [← hLd] at hw
  obtain ⟨k, j, h1, h2, rfl⟩ := lvs_mem.1 hw
  refine ⟨fun x hx => ?_, by rw [dg_len]; omega⟩
  have := dg_mem (t := g.ts.toNat) (by omega) hx
  omega
 have hLall : ∀ w : List Int, (∀ x ∈ w, 0 ≤ x ∧ x < g.ts) → w.length ≤ 5 → w ∈ L := by
  intro w hw hwl
  obtain ⟨j, hj, e⟩ := dg_surj (t := g.ts.toNat) (by omega) w.length w rfl (fun x hx => by have := hw x hx; omega)
  rw [← hLd, e]
  exact lvs_mem.2 ⟨w.length, j, by omega, hj, rfl⟩
 have hQl : ∀ w, OutW g d w → ∀ x ∈ w, 0 ≤ x ∧ x < g.ts := by
  rintro w ⟨⟨r, hr, _, hdr⟩, _⟩
  exact hdr.all (fun r hr s hs q => V.term hr hs q) (fun s hs q => V.term hr hs q)
 rw [hLd] at hs4
 have h5L : L.length ≤ 37449 := by rw [← hLd]; exact h5
 simp -implicitDefEqProofs only [go_sem,zA,zB,zC,zD,zE,reduceCtorEq,↓reduceIte,zF,zG,zH,zI]
 rw [hLd]
 have hlet : ∀ u, OutW g d u → ∀ x ∈ u, 0 ≤ x ∧ x < g.ts.toNat := fun u hu x hx => by have := hQl u hu x hx; omega
 refine s_loop (fun f vs Γ => Γ = go :: gr :: gm :: (Γ2 ++ (Γs ++ [g2, g1])) ∧ ∃ k : Nat, vs = [.v true (.int .i64 k)] ∧ k + f = L.length ∧ ∀ w ∈ L.take k, ¬ OutW g d w) L.length (Up.here ⟨rfl, 0, rfl, by omega, by simp⟩) ?_
 rintro f vs Γ ⟨rfl, k, rfl, hkf, hall⟩
 simp -implicitDefEqProofs only [S12_2, go_sem,zA,zB,zC,zD,zE,reduceCtorEq,↓reduceIte,zF,zG,zH,zI]
 refine ⟨fun hlt => ?_, fun hge => ?_⟩
 ·have hk : k < L.length := by omega
  obtain ⟨hwb0, hwl⟩ := hLw _ (List.getElem_mem hk)
  have hwb : ∀ x ∈ L[k], 0 ≤ x ∧ x < 256 := fun x hx => by have := hwb0 x hx; omega
  have hok : okW d L[k] := fun x hx => by have := hwb0 x hx; omega
  obtain ⟨b5, o5, hA5, A6, c6, hs6, hc6⟩ := hs4.list hk
  have htk : L.take (k + 1) = L.take k ++ [L[k]] := List.take_succ_eq_append_getElem hk
  have hfirst : OutW g d L[k] → ∀ u, OutW g d u → LLe L[k] u := by
   intro q
   have := lvs_first (t := g.ts.toNat) (n := 5 + 1) (by omega) hlet (k := k) (by rw [hLd]; exact hk)
   simp only [hLd] at this
   exact this hall q
  obtain ⟨u, hu⟩ : ∃ u, L[k] = u := ⟨_, rfl⟩
  rw [hu] at hwb hwl hok hs6 hc6 htk hfirst
  refine s_idx hA5 (by omega) (by omega) ?_
  simp -implicitDefEqProofs only [go_sem,zA,zB,zC,zD,zE,reduceCtorEq,↓reduceIte,zF,zG,zH,zI]
  refine s_ld0 (hc6 _ (lk_sub (by simp))) (by simp) (by simp) ?_
  simp -implicitDefEqProofs only [go_sem,zA,zB,zC,zD,zE,reduceCtorEq,↓reduceIte,zF,zG,zH,zI]
  refine CallVC.read (ref_has (hm.mono (lk_sub (by simp))) (hs6.mono (lk_sub (by simp))) (by omega) hwb) ?_
  rintro v Γ5 ⟨rfl, rfl⟩
  have e1 : u.map u8 ∈ l ↔ Has g u := by rw [hl u hwb]; simp [hwl]
  have more : ¬ OutW g d u → ∀ w ∈ L.take (k + 1), ¬ OutW g d w := by
   intro q w hw
   rw [htk] at hw
   rcases List.mem_append.1 hw with hw | hw
   ·exact hall w hw
   ·simp at hw
    subst hw
    exact q
  by_cases p1 : Has g u
  ·have d1 : decide (u.map u8 ∈ l) = true := decide_eq_true (e1.2 p1)
   simp -implicitDefEqProofs only [d1, go_sem,zA,zB,zC,zD,zE,reduceCtorEq,↓reduceIte,zF,zG,zH,zI]
   refine CallVC.read (ref_ends (hA.mono (lk_r _ _)) (hB.mono (lk_r _ _)) D (hs6.mono (lk_sub (by simp))) hok) ?_
   rintro v Γ5 ⟨rfl, rfl⟩
   cases p2 : endsD d d.st u with
   | true =>
    simp -implicitDefEqProofs only [go_sem,zA,zB,zC,zD,zE,reduceCtorEq,↓reduceIte,zF,zG,zH,zI]
    simp (disch := omega) only [wrap_id]
    exact ⟨f - 1, by omega, Up.here ⟨rfl, k + 1, rfl, by omega, more fun q => by have := q.2; rw [p2] at this; cases this⟩⟩
   | false =>
    have hder : OutW g d u := ⟨p1, p2⟩
    rcases hw with ⟨_, _, _, q⟩ | ⟨rfl, _, w, rfl, hlst, hmin, hsw⟩
    ·exact absurd hder (q u)
    have hwu : w = u := by
     rcases hmin u hder with q | q
     ·exact q
     ·exact absurd q (hfirst hder w hlst).not_lt
    subst hwu
    simp -implicitDefEqProofs only [go_sem,zA,zB,zC,zD,zE,reduceCtorEq,↓reduceIte,zF,zG,zH,zI]
    refine CallVC.read (slices_equal (hsw.mono (lk_sub fun x hx => by simp [hx])) (hs6.mono (lk_sub (by simp)))) ?_
    rintro v Γ5 ⟨rfl, rfl⟩
    simp only [decide_true]
    simp -implicitDefEqProofs only [go_sem,zA,zB,zC,zD,zE,reduceCtorEq,↓reduceIte,zF,zG,zH,zI]
    refine Up.to [] (Ent.nil _) ?_
    subst hR
    simp
  ·have d1 : decide (u.map u8 ∈ l) = false := decide_eq_false fun q => p1 (e1.1 q)
   simp -implicitDefEqProofs only [d1, go_sem,zA,zB,zC,zD,zE,reduceCtorEq,↓reduceIte,zF,zG,zH,zI]
   refine ⟨.bool false, ?_⟩
   simp -implicitDefEqProofs only [go_sem,zA,zB,zC,zD,zE,reduceCtorEq,↓reduceIte,zF,zG,zH,zI]
   simp (disch := omega) only [wrap_id]
   exact ⟨f - 1, by omega, Up.here ⟨rfl, k + 1, rfl, by omega, more fun q => p1 q.1⟩⟩
 ·have hk : k = L.length := by omega
  rw [hk, List.take_length] at hall
  rcases hw with ⟨rfl, rfl, _, q⟩ | ⟨rfl, _, w, rfl, hlst, hmin, hsw⟩
  ·simp -implicitDefEqProofs only [go_sem,zA,zB,zC,zD,zE,reduceCtorEq,↓reduceIte,zF,zG,zH,zI]
   refine ⟨.bool false, ?_⟩
   simp -implicitDefEqProofs only [go_sem,zA,zB,zC,zD,zE,reduceCtorEq,↓reduceIte,zF,zG,zH,zI]
   refine Up.to [] (Ent.nil _) ?_
   subst hR
   exact ⟨rfl, rfl⟩
  ·have h5w : 5 < w.length := by
    rcases Nat.lt_or_ge 5 w.length with q | q
    ·exact q
    ·exact absurd hlst (hall w (hLall w (hQl w hlst) q))
   have hok : okW d w := fun x hx => by have := hQl w hlst x hx; omega
   simp -implicitDefEqProofs only [go_sem,zA,zB,zC,zD,zE,reduceCtorEq,↓reduceIte,zF,zG,zH,zI]
   refine ⟨fun h => ⟨h, ?_⟩, fun h => by simp at h; omega⟩
   refine CallVC.read (ref_ends (hA.mono (lk_r _ _)) (hB.mono (lk_r _ _)) D (hsw.mono (lk_sub fun x hx => by simp [hx])) hok) ?_
   rintro v Γ5 ⟨rfl, rfl⟩
   rw [show endsD d d.st w = false from hlst.2]
   simp -implicitDefEqProofs only [go_sem,zA,zB,zC,zD,zE,reduceCtorEq,↓reduceIte,zF,zG,zH,zI]
   refine Up.to [] (Ent.nil _) ?_
   subst hR
   exact ⟨rfl, by rw [decide_eq_true (show (5 : Int) < w.length by omega)]⟩
end Go.Proofs.Ytiipiapfnedfjaa.V
