/- Texts put together, in the order in which they build; each says what it proves; no condition. -/
import Derived.Test.YtiipiapfnedfjaaM2
import Derived.Test.YtiipiapfnedfjaaM3
import Derived.Test.YtiipiapfnedfjaaM1
import Derived.Test.YtiipiapfnedfjaaProg
import Derived.Shelf.SlSortCmp.NoneTotal
namespace Go.Proofs.Ytiipiapfnedfjaa.V
open Go
set_option linter.unusedVariables false
set_option linter.unusedSimpArgs false
open Nat renaming reduceBEq → zA, reduceAdd → zB, reduceSub → zC, reduceMul → zD, reduceLeDiff → zE
open Int renaming reduceLT → zF, reduceLE → zG, reduceEq → zH, reduceNe → zI
/- Functions of package slices on whole numbers walked: Clone, Concat, Index, Contains, ContainsFunc; no condition. -/
attribute [local go_sem] e_seq e_region e_quiet e_join e_loop e_cond e_block e_exit e_ret e_skip e_fin e_kseq e_snrm e_sret e_sex e_bnrm e_bret e_bex e_rnrm e_rret e_res e_condC e_nil e_g e_mv g_mv e_pick g_pick pickC_eq e_ibin g_ibin ibinC_eq e_sbin g_sbin e_beq g_beq beqC_eq e_nilq g_nilq nilqC_sl nilqC_pt nilqC_mp e_un g_un unC_not unC_neg e_conv g_conv convC_eq e_fld g_fld fldC_ref fldC_ptr e_nilCheck g_nilCheck nilCheckC_ref nilCheckC_ptr nilCheckC_fun e_field g_field fieldC_eq e_len g_len lenC_sl lenC_str e_extract g_extract extractC_eq e_mkFunc e_build g_build e_idiv g_idiv idivC_eq e_ishift g_ishift ishiftC_eq e_idx g_idx e_idxA g_idxA e_load g_load e_loadB g_loadB atB_ref atB_v g_mkFunc loadC_ref loadC_ptr loadB_eq e_slc g_slc e_box boxC_loc boxC_esc e_alloc allocC_loc allocC_esc e_buildS e_store storeC_ref storeC_ptr storeB_eq e_append e_appz e_mk mkC_eq e_call callC_eq e_fn g_fn fnC_eq fnV_min' fnV_max' fnV_rune' e_q g_q e_a e_n g_call g_box g_alloc g_buildS g_store g_append g_mk g_a g_n g_dead e_dead e_callK e_drawn e_tree e_finJ e_tk e_tfin e_tno e_nbt_q e_nbt_qn e_nbt_a e_nbt_an e_nbt_fin e_drawnB e_bxb_nil e_bxb e_stB_none e_stB_some boxSt_store bs_mv bs_pick bs_ibin bs_idiv bs_ishift bs_sbin bs_beq bs_nilq bs_un bs_conv bs_box bs_alloc bs_build bs_buildS bs_load bs_fld bs_nilCheck bs_idx bs_idxA bs_field bs_slc bs_len bs_append bs_appz bs_mk bs_call bs_extract bs_mkFunc bs_fn bs_q bs_a bs_n bs_loadB bs_dead isBox_box e_early_nil e_early_t e_early_f e_nob_nil e_nob_none e_nob_some isBox_dead isBox_v isBox_ref e_dnil e_dk e_ek e_finB vcOps_vc1 e_dcons e_tq e_ekt e_tearly e_talt e_dearly look_nil look_c proj_nil proj_c looks_nil looks_c zip_nil zip_c val_tmp val_const val_func slv_v slv_box slv_ref slot_tmp slot_const slot_func slotL_v slotL_box slotL_ref put_some put_none updBox_c boxSet_box gd_eq slotVals_nil slotVals_c slotVals_b boxV_box boxOn_box slotsOn_nil slotsOn_c slotsOn_b resV_one resV_two vals_nil vals_c allOn_nil allOn_c partOn_nil partOn_c partVals_nil partVals_c fits_nil fits_c fillL_nil fillL_c mkv_one mkv_agg cellsV_agg cellsV_int cellsV_bool cellsV_slice cellsV_string cellsV_pointer cellsV_func cellsV_nilf cellsV_map one'_nil one'_c oc_int oc_bool oc_slice oc_string oc_pointer oc_func oc_nilf oc_map setC_eq iv_add iv_sub iv_mul iv_eql iv_neq iv_lss iv_leq iv_gtr iv_geq iok_add iok_sub iok_mul iok_eql iok_neq iok_lss iok_leq iok_gtr iok_geq pickV_bool args0_nil args0_c bnd_none bnd_some imp_bt imp_bf imp_ebt imp_ebf imp_eb1 imp_np imp_pp beq_tt beq_tf beq_ft beq_ff cond_or cond_and e_round e_meet Int.le_refl Int.toNat_zero decide_true decide_false Bool.or_false Bool.false_or Bool.true_or Bool.or_true Bool.and_false Bool.false_and Bool.bne_false Bool.bne_true beq_iff_eq Int.cast_ofNat_Int not_false_eq_true not_true_eq_false false_and and_false false_implies true_implies true_and and_true Bool.true_and Bool.and_true Bool.not_true Bool.not_false forall_const implies_true List.take_zero List.drop_zero List.take_succ_cons List.drop_succ_cons List.take_nil List.drop_nil List.length_cons List.length_nil List.nil_append List.append_nil List.cons_append Int.toNat_natCast decide_eq_true_eq decide_eq_false_iff_not cond_true cond_false and_self List.getElem?_cons_zero List.getElem?_cons_succ List.set_cons_zero List.set_cons_succ Option.some.injEq exists_eq_left' Nat.zero_add Nat.add_zero Nat.mul_one imp_self true_or or_true or_false false_or Bool.or_eq_true Bool.or_eq_false_iff Bool.and_eq_true Bool.and_eq_false_iff Bool.not_eq_true' Bool.not_eq_false'

theorem slices_clone {Γr : Ctx} {A : Option Addr} {c : Nat} {xs : List Int} (hx : SlOk (lk Γr) A c xs) (hs : xs.length ≤ 1048576) :
  Ret Try.prog 143 [.slice A xs.length c] Γr [] (fun v Γ => ∃ g, Γ = [g] ∧ Bld g (lk []) 3 v xs) := by
 generalize hR : (fun (v : Value) (Γ : Ctx) => ∃ g, _) = R
 refine ret_of_vc1 tr143 (Nat.le_of_ble_eq_true rfl) ?_
 simp only [S143, S143_0, go_sem,zA,zB,zC,zD,zE,reduceCtorEq,↓reduceIte,zF,zG,zH,zI]
 refine ⟨fun hn => Up.here ?_, fun hn => ?_⟩
 ·have : A = none := by simpa using hn
  subst this
  have := hx.ofNone
  subst this
  subst hR
  exact ⟨_, rfl, Bld.nil _ _ _⟩
 ·intro b
  refine s_appS (α := Int) (xs := []) (ix := 1) (L := lk []) rfl ⟨[], ⟨rfl, .inl ⟨rfl, _, rfl⟩⟩, by simp⟩ hx rfl (lk_r _ _) rfl (by simp; omega) (by simp [maxLen]; omega) ?_
  intro v g hB _
  simp only [go_sem,zA,zB,zC,zD,zE,reduceCtorEq,↓reduceIte,zF,zG,zH,zI]
  refine Up.sel [[1]] (by decide) fun _ _ => ?_
  subst hR
  exact ⟨_, rfl, hB⟩

theorem slices_grow {Γr : Ctx} (n : Nat) (hn : n ≤ 10000000) :
  Ret Try.prog 265 [.slice none 0 0, .int .i64 n] Γr [] (fun v Γ => ∃ g, Γ = [g] ∧ Bld (α := Int) g (lk []) 3 v []) := by
 generalize hR : (fun (v : Value) (Γ : Ctx) => ∃ g, _) = R
 refine ret_of_vc1 tr265 (Nat.le_of_ble_eq_true rfl) ?_
 simp only [S265, S265_0, go_sem,zA,zB,zC,zD,zE,reduceCtorEq,↓reduceIte,zF,zG,zH,zI]
 refine s_split ?_
 simp only [S265_1, S265_2, S265_3, S265_4, go_sem,zA,zB,zC,zD,zE,reduceCtorEq,↓reduceIte,zF,zG,zH,zI]
 refine ⟨fun h => by omega, fun _ => Up.here ?_⟩
 refine s_split ?_
 simp only [go_sem,zA,zB,zC,zD,zE,reduceCtorEq,↓reduceIte,zF,zG,zH,zI]
 refine s_q trivial (qr_cap (e := 3) (by kernel_rfl)) ?_
 simp only [go_sem,zA,zB,zC,zD,zE,reduceCtorEq,↓reduceIte,zF,zG,zH,zI]
 have hw : IntKind.i64.wrap ((n : Int) - IntKind.i64.wrap (0 - 0)) = n := by
  rw [wrap_id (x := 0 - 0) (by omega) (by omega), wrap_id (by omega) (by omega)]
  omega
 rw [hw]
 refine ⟨fun hpos => ?_, fun hz => ?_⟩
 ·refine s_q trivial (qr_cap (e := 3) (by kernel_rfl)) ?_
  simp only [go_sem,zA,zB,zC,zD,zE,reduceCtorEq,↓reduceIte,zF,zG,zH,zI]
  refine s_hi 0 (by simp only [go_sem,zA,zB,zC,zD,zE,reduceCtorEq,↓reduceIte,zF,zG,zH,zI]; exact ⟨_, rfl⟩) (by omega) ?_
  simp only [go_sem,zA,zB,zC,zD,zE,reduceCtorEq,↓reduceIte,zF,zG,zH,zI]
  refine s_appz (ix := 0) rfl (by omega) (by omega) (by simp [maxLen]; omega) ?_
  intro v g hr
  rw [Int.toNat_natCast, show cellsV (Value.int .i64 0) = [Sc.enc (0 : Int)] from rfl, zerosL_enc] at hr
  have hB : Bld g (lk []) 3 v (List.replicate n (0 : Int)) := Bld.ofRow _ hr (by simp)
  obtain ⟨A, c, rfl⟩ := hB.val
  simp only [go_sem,zA,zB,zC,zD,zE,reduceCtorEq,↓reduceIte,zF,zG,zH,zI]
  refine s_hi 0 (by simp only [go_sem,zA,zB,zC,zD,zE,reduceCtorEq,↓reduceIte,zF,zG,zH,zI]; exact ⟨_, rfl⟩) (by omega) ?_
  simp only [go_sem,zA,zB,zC,zD,zE,reduceCtorEq,↓reduceIte,zF,zG,zH,zI]
  refine Up.here (Up.here ?_)
  subst hR
  exact ⟨_, rfl, by simpa using hB.take (k := 0) (by omega)⟩
 ·refine Up.here (Up.here ?_)
  subst hR
  exact ⟨_, rfl, Bld.nil _ _ _⟩
theorem slices_concat {Γr : Ctx} {B : Option Addr} {d : Nat} {xss : List (List Int)} (hx : SlOk (lk Γr) B d xss) (hs : xss.flatten.length ≤ 5000000) (hl : xss.length ≤ 5000000) :
  Ret Try.prog 218 [.slice B xss.length d] Γr [] (fun v Γ => ∃ g, Γ = [g] ∧ Bld g (lk []) 3 v xss.flatten) := by
 generalize hR : (fun (v : Value) (Γ : Ctx) => ∃ g, _) = R
 refine ret_of_vc tr218 (Nat.le_of_ble_eq_true rfl) ?_
 simp only [S218, S218_0, go_sem,zA,zB,zC,zD,zE,reduceCtorEq,↓reduceIte,zF,zG,zH,zI]
 have hpre : ∀ k, (xss.take k).flatten.length ≤ xss.flatten.length := fun k => by
  conv => rhs; rw [← List.take_append_drop k xss, List.flatten_append, List.length_append]
  omega
 have hstep : ∀ k (hk : k < xss.length), (xss.take (k + 1)).flatten = (xss.take k).flatten ++ xss[k] := fun k hk => by
  rw [List.take_succ_eq_append_getElem hk]; simp only [List.flatten_append, List.flatten_cons, List.flatten_nil, List.append_nil]
 refine s_loop (fun f vs Γ => Γ = [] ∧ ∃ k : Nat, vs = [.v true (.int .i64 ((xss.take k).flatten.length : Nat)), .v true (.int .i64 k)] ∧ k + f = xss.length) xss.length (Up.here ⟨rfl, 0, rfl, by omega⟩) ?_
 rintro f vs Γ ⟨rfl, k, rfl, hkf⟩
 simp only [S218_3, go_sem,zA,zB,zC,zD,zE,reduceCtorEq,↓reduceIte,zF,zG,zH,zI]
 have h1 := hpre k
 have h2 := hpre (k + 1)
 refine ⟨fun hlt => ?_, fun hge => ?_⟩
 ·have hk : k < xss.length := by omega
  have h3 := congrArg List.length (hstep k hk)
  simp only [List.length_append] at h3
  obtain ⟨b, o, hA, A', c', hs', hc⟩ := hx.list hk
  refine s_split ?_
  simp only [S218_1, S218_2, go_sem,zA,zB,zC,zD,zE,reduceCtorEq,↓reduceIte,zF,zG,zH,zI]
  refine s_idx hA (by omega) (by omega) ?_
  simp only [go_sem,zA,zB,zC,zD,zE,reduceCtorEq,↓reduceIte,zF,zG,zH,zI]
  refine s_ld0 (hc _ (Mem.le.refl _)) (by simp) (by simp) ?_
  simp only [go_sem,zA,zB,zC,zD,zE,reduceCtorEq,↓reduceIte,zF,zG,zH,zI]
  simp (disch := omega) only [wrap_id]
  refine ⟨fun h => by omega, fun _ => Up.here ?_⟩
  exact ⟨f - 1, by omega, Up.here ⟨rfl, k + 1, by rw [h3]; rfl, by omega⟩⟩
 have hk : k = xss.length := by omega
 rw [hk, List.take_length]
 refine CallVC.read (slices_grow _ (by omega)) ?_
 rintro v Γ' ⟨g, rfl, hB⟩
 obtain ⟨A0, c0, rfl⟩ := hB.val
 simp only [go_sem,zA,zB,zC,zD,zE,reduceCtorEq,↓reduceIte,zF,zG,zH,zI]
 refine s_loop (fun f vs Γ => ∃ g, Γ = [g] ∧ ∃ (k : Nat) (u : Value), vs = [.v true u, .v true (.int .i64 k)] ∧ k + f = xss.length ∧ Bld g (lk []) 3 u (xss.take k).flatten) xss.length (Up.here ⟨_, rfl, 0, _, rfl, by omega, hB⟩) ?_
 rintro f vs Γ ⟨g, rfl, k, u, rfl, hkf, hB⟩
 simp only [S218_4, go_sem,zA,zB,zC,zD,zE,reduceCtorEq,↓reduceIte,zF,zG,zH,zI]
 have h1 := hpre k
 have h2 := hpre (k + 1)
 refine ⟨fun hlt => ?_, fun hge => ?_⟩
 ·have hk : k < xss.length := by omega
  have h3 := congrArg List.length (hstep k hk)
  simp only [List.length_append] at h3
  obtain ⟨b, o, hA, A', c', hs', hc⟩ := hx.list hk
  refine s_idx hA (by omega) (by omega) ?_
  simp only [go_sem,zA,zB,zC,zD,zE,reduceCtorEq,↓reduceIte,zF,zG,zH,zI]
  refine s_ld0 (hc _ (lk_r _ _)) (by simp) (by simp) ?_
  simp only [go_sem,zA,zB,zC,zD,zE,reduceCtorEq,↓reduceIte,zF,zG,zH,zI]
  refine s_appS (ix := 0) rfl hB hs' rfl (lk_r _ _) rfl (by omega) (by unfold maxLen; omega) ?_
  intro v' g' hB' _
  simp only [go_sem,zA,zB,zC,zD,zE,reduceCtorEq,↓reduceIte,zF,zG,zH,zI]
  simp (disch := omega) only [wrap_id]
  rw [← hstep k hk] at hB'
  exact ⟨f - 1, by omega, Up.here ⟨_, rfl, k + 1, _, rfl, by omega, hB'⟩⟩
 ·have hk : k = xss.length := by omega
  rw [hk, List.take_length] at hB
  refine Up.here ?_
  subst hR
  exact ⟨_, rfl, hB⟩

/- The text of (*parlance/meet.maker).find as a statement; no condition. -/
def S160_1 : Stmt :=
 .seq
 (.region [oq 46 (.ibin .lss (.tmp 45) (.tmp 44))]
 [0,2,4,5,8,9,19,20,21,30,31,37,38,39,43,44,45,46])
 (.seq (.cond (.tmp 46) .skip (.exit 8))
 (.seq
 (.block 9
 (.seq
 (.region
 [oq 47 (.idx 1 (.tmp 43) (.tmp 45)),
 oq 48 (.load false 1 (.tmp 47)),
 oq 11 (.mv (.tmp 48))]
 [0,2,4,5,8,9,11,19,20,21,30,31,37,38,39,43,44,45])
 (.region
 [oq 49 (.mv (.tmp 9)),oq 50 (.mv (.tmp 0)),
 oq 51 (.mv (.tmp 11)),
 oq 52 (.load true 2 (.tmp 8)),
 oq 53 (.call (.func 216) [.tmp 50,.tmp 51,.tmp 52]),
 oq 54 (.append 25 3 1 8 (.int .i64 0) (.tmp 49) (.tmp 53)),
 oq 9 (.mv (.tmp 54))]
 [0,2,4,5,8,9,19,20,21,30,31,37,38,39,43,44,45])))
 (.region
 [oq 55 (.ibin .add (.tmp 45) (.const (.int .i64 1))),
 oq 45 (.mv (.tmp 55))]
 [0,2,4,5,8,9,19,20,21,30,31,37,38,39,43,44,45])))
def S160_2 : Stmt :=
 .seq
 (.region [oq 40 (.ibin .lss (.tmp 39) (.tmp 38))]
 [0,2,4,5,6,19,20,21,30,31,37,38,39,40])
 (.seq (.cond (.tmp 40) .skip (.exit 6))
 (.seq
 (.block 7
 (.seq
 (.region
 [oq 41 (.idx 2 (.tmp 37) (.tmp 39)),
 oq 42 (.load true 2 (.tmp 41)),
 .mk (some 8) none
 (.alloc true 53 (.agg (Array.mk [.bool false,.int .i64 0]))),
 .mk none none (.store 2 (.tmp 8) (.tmp 42))]
 [0,2,4,5,6,8,19,20,21,30,31,37,38,39])
 (.seq
 (.region [oq 9 (.mv (.const (.slice none 0 0)))]
 [0,2,4,5,6,8,9,19,20,21,30,31,37,38,39])
 (.seq
 (.seq
 (.region
 [oq 43 (.mv (.tmp 6)),
 oq 44 (.len false (.tmp 43)),
 oq 45 (.mv (.const (.int .i64 0)))]
 [0,2,4,5,8,9,19,20,21,30,31,37,38,39,43,44,45])
 (.block 8 (.loop S160_1 [9,45] [0,2,4,5,8,19,20,21,30,31,37,38,39,43,44])))
 (.seq
 (.region
 [oq 56 (.mv (.tmp 9)),
 oq 57 (.call (.func 118) [.tmp 56])]
 [0,2,4,5,9,19,20,21,30,31,37,38,39])
 (.region
 [oq 58 (.mv (.tmp 9)),
 oq 59 (.call (.func 217) [.tmp 58]),
 oq 6 (.mv (.tmp 59))]
 [0,2,4,5,6,19,20,21,30,31,37,38,39]))))))
 (.region
 [oq 60 (.ibin .add (.tmp 39) (.const (.int .i64 1))),
 oq 39 (.mv (.tmp 60))]
 [0,2,4,5,6,19,20,21,30,31,37,38,39])))
def S160_3 : Stmt :=
 .block 5
 (.seq
 (.region [oq 33 (.mv (.tmp 31)),oq 5 (.mv (.tmp 33))]
 [0,2,4,5,19,20,21,30,31])
 (.seq
 (.region
 [oq 34 (.mv (.tmp 5)),
 oq 35 (.buildS 3 1 [.int .i64 0] [(0,1,.tmp 34)]),
 oq 6 (.mv (.tmp 35))]
 [0,2,4,5,6,19,20,21,30,31])
 (.seq
 (.seq
 (.region
 [oq 36 (.fld 1 (.tmp 4)),
 oq 37 (.load false 1 (.tmp 36)),
 oq 38 (.len false (.tmp 37)),
 oq 39 (.mv (.const (.int .i64 0)))]
 [0,2,4,5,6,19,20,21,30,31,37,38,39])
 (.block 6 (.loop S160_2 [6,39] [0,2,4,5,19,20,21,30,31,37,38])))
 (.seq
 (.region
 [oq 61 (.mv (.tmp 5)),oq 62 (.fld 0 (.tmp 4)),
 oq 63 (.load false 1 (.tmp 62)),
 .mk (some 64) none
 (.build 291 [.int .i64 0,.int .i64 0]
 [(0,1,.tmp 61),(1,1,.tmp 63)]),
 .mk (some 12) none
 (.alloc true 291 (.agg (Array.mk [.int .i64 0,.int .i64 0]))),
 .mk none none (.store 2 (.tmp 12) (.tmp 64))]
 [0,2,4,6,12,19,20,21,30,31])
 (.seq
 (.drawn
 [(false,oq 65 (.mv (.tmp 0))),
 (false,oq 66 (.nilCheck (.tmp 65))),
 (false,oq 67 (.fld 7 (.tmp 66))),
 (false,oq 68 (.load false 1 (.tmp 67))),
 (false,oq 69 (.load true 2 (.tmp 12))),
 (false,oq 70 (.q (Qk.look 247 false) [.tmp 68,.tmp 69])),
 (false,oq 71 (.mv (.tmp 6))),
 (false,
 .mk (some 72) none
 (.buildS 25 2 [.slice none 0 0,.slice none 0 0]
 [(0,1,.tmp 70),(1,1,.tmp 71)])),
 (false,oq 73 (.call (.func 218) [.tmp 72])),
 (false,oq 13 (.mv (.tmp 73)))]
 [0,2,4,12,13,19,20,21,30,31])
 (.seq
 (.region
 [oq 74 (.mv (.tmp 13)),
 oq 75 (.call (.func 118) [.tmp 74])]
 [0,2,4,12,13,19,20,21,30,31])
 (.seq
 (.region
 [oq 76 (.mv (.tmp 13)),
 oq 77 (.call (.func 217) [.tmp 76]),
 oq 13 (.mv (.tmp 77))]
 [0,2,4,12,13,19,20,21,30,31])
 (.seq
 (.quiet
 [oq 78 (.mv (.tmp 13)),
 oq 79 (.len false (.tmp 78)),
 oq 80 (.mv (.tmp 0)),
 oq 81 (.nilCheck (.tmp 80)),
 oq 82 (.fld 7 (.tmp 81)),
 oq 83 (.load false 1 (.tmp 82)),
 oq 84 (.load true 2 (.tmp 12)),
 oq 85 (.q (Qk.look 247 false) [.tmp 83,.tmp 84]),
 oq 86 (.len false (.tmp 85)),
 oq 87 (.ibin .gtr (.tmp 79) (.tmp 86))]
 [0,2,4,12,13,19,20,21,30,31,87])
 (.cond (.tmp 87)
 (.drawn
 [(false,oq 88 (.mv (.tmp 0))),
 (false,oq 89 (.nilCheck (.tmp 88))),
 (false,oq 90 (.fld 7 (.tmp 89))),
 (false,oq 91 (.load false 1 (.tmp 90))),
 (false,oq 92 (.load true 2 (.tmp 12))),
 (false,oq 93 (.mv (.tmp 13))),
 (false,oq 94 (.a (Qk.ment 247) [.tmp 91,.tmp 92])),
 (false,oq 95 (.extract 1 (.tmp 94))),
 (false,
 .mk none none (.a (Qk.estore 247) [.tmp 91,.tmp 95,.tmp 93])),
 (false,oq 2 (.mv (.const (.bool true))))]
 [0,2,4,19,20,21,30,31])
 .skip)))))))))
def S160_4 : Stmt :=
 .region
 [oq 96 (.ibin .add (.tmp 31) (.const (.int .i64 1))),
 oq 31 (.mv (.tmp 96))]
 [0,2,4,19,20,21,30,31]
def S160_5 : Stmt :=
 .seq
 (.region [oq 32 (.ibin .lss (.tmp 31) (.tmp 30))]
 [0,2,4,19,20,21,30,31,32])
 (.seq (.cond (.tmp 32) .skip (.exit 4))
 (.join S160_3 S160_4 [2] [0,4,19,20,21,30,31]))
def S160_6 : Stmt :=
 .seq
 (.region [oq 22 (.ibin .lss (.tmp 21) (.tmp 20))] [0,2,19,20,21,22])
 (.seq (.cond (.tmp 22) .skip (.exit 2))
 (.seq
 (.block 3
 (.seq
 (.region
 [oq 23 (.idx 2 (.tmp 19) (.tmp 21)),
 oq 24 (.load true 2 (.tmp 23)),
 .mk (some 4) none
 (.alloc true 129 (.agg (Array.mk [.int .i64 0,.slice none 0 0]))),
 .mk none none (.store 2 (.tmp 4) (.tmp 24))]
 [0,2,4,19,20,21])
 (.seq
 (.region
 [oq 25 (.mv (.tmp 0)),
 oq 26 (.nilCheck (.tmp 25)),
 oq 27 (.fld 4 (.tmp 26)),
 oq 28 (.fld 2 (.tmp 27)),
 oq 29 (.load false 1 (.tmp 28)),
 oq 30 (.len false (.tmp 29)),
 oq 31 (.mv (.const (.int .i64 0)))]
 [0,2,4,19,20,21,30,31])
 (.block 4 (.loop S160_5 [2,31] [0,4,19,20,21,30])))))
 (.region
 [oq 97 (.ibin .add (.tmp 21) (.const (.int .i64 1))),
 oq 21 (.mv (.tmp 97))]
 [0,2,19,20,21])))
def S160_7 : Stmt :=
 .seq
 (.seq (.region [oq 14 (.mv (.tmp 2))] [0,14])
 (.cond (.tmp 14) .skip (.exit 0)))
 (.block 1
 (.seq (.region [oq 2 (.mv (.const (.bool false)))] [0,2])
 (.seq
 (.region
 [oq 15 (.mv (.tmp 0)),oq 16 (.nilCheck (.tmp 15)),
 oq 17 (.fld 0 (.tmp 16)),oq 18 (.fld 3 (.tmp 17)),
 oq 19 (.load false 1 (.tmp 18)),
 oq 20 (.len false (.tmp 19)),
 oq 21 (.mv (.const (.int .i64 0)))]
 [0,2,19,20,21])
 (.block 2 (.loop S160_6 [2,21] [0,19,20])))))
def S160_0 : Stmt :=
 .seq (.region [oq 2 (.mv (.const (.bool true)))] [0,2])
 (.block 0 (.loop S160_7 [2] [0]))
def S160 : FnS := ⟨98,[],S160_0⟩
theorem tr160 : trFn Try.prog 160 [4,8,12] [[0,2],[2],[0],[0,14],[0,2],[0,2,19,20,21],[2,21],[0,19,20],[0,2,19,20,21,22],[0,2,4,19,20,21],[0,2,4,19,20,21,30,31],[2,31],[0,4,19,20,21,30],[0,2,4,19,20,21,30,31,32],[2],[0,4,19,20,21,30,31],[0,2,4,5,19,20,21,30,31],[0,2,4,5,6,19,20,21,30,31],[0,2,4,5,6,19,20,21,30,31,37,38,39],[6,39],[0,2,4,5,19,20,21,30,31,37,38],[0,2,4,5,6,19,20,21,30,31,37,38,39,40],[0,2,4,5,6,8,19,20,21,30,31,37,38,39],[0,2,4,5,6,8,9,19,20,21,30,31,37,38,39],[0,2,4,5,8,9,19,20,21,30,31,37,38,39,43,44,45],[9,45],[0,2,4,5,8,19,20,21,30,31,37,38,39,43,44],[0,2,4,5,8,9,19,20,21,30,31,37,38,39,43,44,45,46],[0,2,4,5,8,9,11,19,20,21,30,31,37,38,39,43,44,45],[0,2,4,5,8,9,19,20,21,30,31,37,38,39,43,44,45],[0,2,4,5,8,9,19,20,21,30,31,37,38,39,43,44,45],[0,2,4,5,9,19,20,21,30,31,37,38,39],[0,2,4,5,6,19,20,21,30,31,37,38,39],[0,2,4,5,6,19,20,21,30,31,37,38,39],[0,2,4,6,12,19,20,21,30,31],[0,2,4,12,13,19,20,21,30,31],[0,1,2,3,4,5,6,7,8,9],[],[],[0],[0,1],[0,1,2],[],[0,1,2,3,4],[],[0,1,2,3,4,5,6],[0,1,2,3,4,5,6,7],[0,1,2,3,4,5,6,7,8],[0,2,4,12,13,19,20,21,30,31],[0,2,4,12,13,19,20,21,30,31],[0,2,4,12,13,19,20,21,30,31,87],[0,2,4,19,20,21,30,31],[0,1,2,3,4,5,6,7,8,9],[],[],[0],[0,1],[0,1,2],[],[],[0,1,2,3,4],[0,1,2,3,4,6],[0,1,2,3,4,5,6,7],[0,1,2,3,4,5,6,7,8],[0,2,4,19,20,21,30,31],[0,2,19,20,21]] = some S160 := by kernel_rfl
/- Which states follow which words: meet's find walked; no condition. -/
/-- the table in memory, and what is known of it -/
def FndI (g : Gr) (d : Da) (bm : Nat) (hm gr : PH) (T : Int → Int → List Int) : Prop := TabL (lk [hm]) (lk [gr]) bm T ∧ TabI g d T
set_option maxHeartbeats 2000000 in
theorem meet_find {Γr : Ctx} {g : Gr} {d : Da} {G A B : Option Addr × Nat} {pm bm : Nat} {u : Value} {hm0 : PH} (V : VG g) (D : VD d) (hT : g.ts = colsD d) (h12 : d.nx.length ≤ 12) (hm : ∃ w, lk Γr pm (.cells (mkrC g d G A B bm u).toArray w (0, 0))) (hG : SlOk (lk Γr) G.1 G.2 g.rs) (hB : SlOk (lk Γr) B.1 B.2 d.nx)
  (hM0 : MapM hm0 bm intsV Hd.v (okInts 2) ([] : List (List Int × Hd))) :
  Ret Try.prog 160 [.pointer (some ⟨pm, 0, none⟩)] Γr [hm0] (fun v Γ => v = .tuple #[] ∧ ∃ hm gr T, Γ = [hm, gr] ∧ FndI g d bm hm gr T ∧ ClsQ g d (TofL T)) := by
 generalize hR : (fun (v : Value) (Γ : Ctx) => v = Value.tuple #[] ∧ _) = R
 refine ret_of_vc tr160 (Nat.le_of_ble_eq_true rfl) ?_
 obtain ⟨w, hm⟩ := hm
 have hlen := D.len
 have hvl := V.len
 have hmk : ∀ Γ : Ctx, Cells (Γ ++ Γr) pm 0 (mkrC g d G A B bm u) := fun Γ => cells_lk (lk_r _ _ _ _ hm)
 simp -implicitDefEqProofs only [S160, S160_0, go_sem,zA,zB,zC,zD,zE,reduceCtorEq,↓reduceIte,zF,zG,zH,zI]
 refine s_loop (fun f vs Γ => ∃ (ag : Bool) (hm gr : PH) (T : Int → Int → List Int), vs = [.v true (.bool ag)] ∧ Γ = [hm, gr] ∧ FndI g d bm hm gr T ∧ (ag = false → ClsQ g d (TofL T)) ∧ f + 2 * szT T = 2881 + (if ag then 1 else 0)) 2882
  (Up.to [hm0, emp] ((Ent.emp _).trans (Ent.perm (List.Perm.swap ..))) ⟨true, hm0, emp, fun _ _ => [], rfl, rfl, ⟨⟨[], hM0.l (by simp), fun q n => ⟨fun _ => rfl, fun h hh => by simp [mget] at hh⟩⟩, TabI.zero g d⟩, by simp, by simp [szT_zero]⟩) ?_
 rintro f vs Γ ⟨ag, hm1, gr1, T0, rfl, rfl, ⟨hTab0, hI0⟩, hcl0, hf⟩
 have hsz0 := szT_le hI0 h12
 simp -implicitDefEqProofs only [S160_7, go_sem,zA,zB,zC,zD,zE,reduceCtorEq,↓reduceIte,zF,zG,zH,zI]
 refine ⟨fun hag => ?_, fun hag => ?_⟩
 ·subst hag
  refine s_ld (j := 3) (hmk _) (by simp [mkrC]) (by simp) ?_
  simp only [mkrC]
  simp -implicitDefEqProofs only [go_sem,zA,zB,zC,zD,zE,reduceCtorEq,↓reduceIte,zF,zG,zH,zI]
  refine s_loop (fun f1 vs Γ => ∃ (ag : Bool) (i : Nat) (hm gr : PH) (T : Int → Int → List Int), vs = [.v true (.bool ag), .v true (.int .i64 i)] ∧ Γ = [hm, gr] ∧ i + f1 = g.rs.length ∧ FndI g d bm hm gr T ∧ szT T0 + (if ag then 1 else 0) ≤ szT T ∧ (ag = false → T = T0 ∧ ∀ (i' : Nat) (r : Ru), i' < i → g.rs[i']? = some r → ∀ q, StQ d q → ClrQ T d r q)) g.rs.length
   (Up.here ⟨false, 0, hm1, gr1, T0, rfl, rfl, by omega, ⟨hTab0, hI0⟩, by simp, fun _ => ⟨rfl, fun i' r h => by omega⟩⟩) ?_
  rintro f1 vs Γ ⟨ag, i, hm2, gr2, T1, rfl, rfl, hif, ⟨hTab1, hI1⟩, hsz1, hcl1⟩
  simp -implicitDefEqProofs only [S160_6, go_sem,zA,zB,zC,zD,zE,reduceCtorEq,↓reduceIte,zF,zG,zH,zI]
  refine ⟨fun hlt => ?_, fun hge => ?_⟩
  ·have hi : i < g.rs.length := by omega
   obtain ⟨b1, o1, hA1, A2, c2, hs2, hc2⟩ := hG.ru hi
   obtain ⟨r, hr⟩ : ∃ r, g.rs[i] = r := ⟨_, rfl⟩
   have hrm : r ∈ g.rs := hr ▸ List.getElem_mem hi
   have hri : g.rs[i]? = some r := by rw [List.getElem?_eq_getElem hi, hr]
   rw [hr] at hs2 hc2
   refine s_idx hA1 (by omega) (by omega) ?_
   simp -implicitDefEqProofs only [go_sem,zA,zB,zC,zD,zE,reduceCtorEq,↓reduceIte,zF,zG,zH,zI]
   refine s_ld0 (hc2 _ (lk_r _ _)) (by simp) (by simp) ?_
   simp -implicitDefEqProofs only [go_sem,zA,zB,zC,zD,zE,reduceCtorEq,↓reduceIte,zF,zG,zH,zI]
   intro b2
   refine s_ld (j := 6) (hmk _) (by simp [mkrC]) (by simp) ?_
   simp only [mkrC]
   simp -implicitDefEqProofs only [go_sem,zA,zB,zC,zD,zE,reduceCtorEq,↓reduceIte,zF,zG,zH,zI]
   refine s_loop (fun f2 vs Γ => ∃ (ag : Bool) (k : Nat) (hm gr : PH) (T : Int → Int → List Int), vs = [.v true (.bool ag), .v true (.int .i64 k)] ∧ Γ = [hm, gr] ∧ k + f2 = d.nx.length ∧ FndI g d bm hm gr T ∧ szT T0 + (if ag then 1 else 0) ≤ szT T ∧ (ag = false → T = T0 ∧ (∀ (i' : Nat) (r : Ru), i' < i → g.rs[i']? = some r → ∀ q, StQ d q → ClrQ T d r q) ∧ ∀ q : Nat, q < k → ClrQ T d r q)) d.nx.length
    (Up.here ⟨ag, 0, hm2, gr2, T1, rfl, rfl, by omega, ⟨hTab1, hI1⟩, hsz1, fun h => ⟨(hcl1 h).1, (hcl1 h).2, fun q hq => by omega⟩⟩) ?_
   clear hcl1 hsz1 hTab1 hI1
   rintro f2 vs Γ ⟨ag, k, hm3, gr3, T, rfl, rfl, hkf, ⟨hTab, hI⟩, hsz, hcl⟩
   simp -implicitDefEqProofs only [S160_5, go_sem,zA,zB,zC,zD,zE,reduceCtorEq,↓reduceIte,zF,zG,zH,zI]
   refine ⟨fun hlt2 => ?_, fun hge2 => ?_⟩
   ·have hk : k < d.nx.length := by omega
    have hqk : StQ d k := ⟨by omega, by omega⟩
    refine s_split ?_
    simp -implicitDefEqProofs only [S160_3, S160_4, go_sem,zA,zB,zC,zD,zE,reduceCtorEq,↓reduceIte,zF,zG,zH,zI]
    intro b4
    have hvr := V.right r hrm
    have hvs := V.sym r hrm
    refine s_loop (fun f3 vs Γ => ∃ (gt : PH) (j : Nat) (At : Option Addr) (ct : Nat) (at' : List Int), vs = [.v true (.slice At at'.length ct), .v true (.int .i64 j)] ∧ Γ = [gt, hm3, gr3] ∧ j + f3 = r.r.length ∧ SlOk (lk [gt]) At ct at' ∧ AtS T d (r.r.take j) k at' ∧ at'.Pairwise (· < ·) ∧ ∀ p ∈ at', StQ d p) r.r.length
     (Up.here ⟨_, 0, some ⟨b4, 0, none⟩, 1, [(k : Int)], rfl, rfl, by omega, lit_slok [(k : Int)] rfl (by simp), fun p => by simp [ChnQ], by simp, fun p hp => by simp at hp; subst hp; exact hqk⟩) ?_
    rintro f3 vs Γ ⟨gt, j, At, ct, at', rfl, rfl, hjf, hsat, hAt, hasrt, hast⟩
    have hal : at'.length ≤ 12 := srt_len hasrt fun p hp => by have := hast p hp; exact ⟨this.1, by have := this.2; omega⟩
    simp -implicitDefEqProofs only [S160_2, go_sem,zA,zB,zC,zD,zE,reduceCtorEq,↓reduceIte,zF,zG,zH,zI]
    refine ⟨fun hlt3 => ?_, fun hge3 => ?_⟩
    ·have hj : j < r.r.length := by omega
     obtain ⟨b5, o5, hA5, hc5⟩ := hs2.sy hj
     obtain ⟨s, hs⟩ : ∃ s, r.r[j] = s := ⟨_, rfl⟩
     have hsm : s ∈ r.r := hs ▸ List.getElem_mem hj
     have htk : r.r.take (j + 1) = r.r.take j ++ [s] := by rw [List.take_succ_eq_append_getElem hj, hs]
     rw [hs] at hc5
     have hsv := hvs s hsm
     refine s_idx hA5 (by omega) (by omega) ?_
     simp -implicitDefEqProofs only [go_sem,zA,zB,zC,zD,zE,reduceCtorEq,↓reduceIte,zF,zG,zH,zI]
     refine s_ld0 (hc5 _ (lk_r _ _)) (by simp) (by simp) ?_
     simp -implicitDefEqProofs only [go_sem,zA,zB,zC,zD,zE,reduceCtorEq,↓reduceIte,zF,zG,zH,zI]
     intro b6
     refine s_loop (fun f4 vs Γ => ∃ (gn : PH) (m : Nat) (vN : Value) (nx : List Int), vs = [.v true vN, .v true (.int .i64 m)] ∧ Γ = [gn, gt, hm3, gr3] ∧ m + f4 = at'.length ∧ Bld gn (lk []) 3 vN nx ∧ (∀ x, x ∈ nx ↔ ∃ p ∈ at'.take m, x ∈ aftL T d p s) ∧ nx.length ≤ 12 * m) at'.length
      (Up.emp (Up.here ⟨_, 0, _, [], rfl, rfl, by omega, Bld.nil _ _ _, by simp, by simp⟩)) ?_
     rintro f4 vs Γ ⟨gn, m, vN, nx, rfl, rfl, hmf, hBn, hnx, hnl⟩
     obtain ⟨An, cn, rfl⟩ := hBn.val
     simp -implicitDefEqProofs only [S160_1, go_sem,zA,zB,zC,zD,zE,reduceCtorEq,↓reduceIte,zF,zG,zH,zI]
     refine ⟨fun hlt4 => ?_, fun hge4 => ?_⟩
     ·have hm4 : m < at'.length := by omega
      obtain ⟨b7, o7, hA7, hc7⟩ := hsat.int hm4
      have hpm := hast _ (List.getElem_mem hm4)
      have htk4 := List.take_succ_eq_append_getElem hm4
      obtain ⟨p, hp⟩ : ∃ p, at'[m] = p := ⟨_, rfl⟩
      rw [hp] at hc7 hpm htk4
      refine s_idx hA7 (by omega) (by omega) ?_
      simp -implicitDefEqProofs only [go_sem,zA,zB,zC,zD,zE,reduceCtorEq,↓reduceIte,zF,zG,zH,zI]
      refine s_ld0 (hc7 _ (lk_sub fun x hx => by simp at hx; simp [hx])) (by simp) (by simp) ?_
      simp -implicitDefEqProofs only [go_sem,zA,zB,zC,zD,zE,reduceCtorEq,↓reduceIte,zF,zG,zH,zI]
      refine CallVC.read (meet_after (g := g) (G := G) (A := A) (B := B) (u := u) (s := s) ⟨w, lk_r _ _ _ _ hm⟩ (hB.mono (lk_r _ _)) D hT (hTab.mono (lk_sub fun x hx => by simp at hx; simp [hx]) (lk_sub fun x hx => by simp at hx; simp [hx])) hpm hsv.1 hsv.2.1 (fun h => by have := hsv.2.2 h; have := V.ns; omega)) ?_
      rintro v Γ' ⟨gx, A8, c8, rfl, rfl, hs8⟩
      have h8l : (aftL T d p s).length ≤ 12 := aft_len (d := d) (by omega) (fun q n => srt_len (hI.srt q n) fun p hp => by have := (hI.rng q n p hp).2.2; exact ⟨this.1, by have := this.2; omega⟩) p s
      simp -implicitDefEqProofs only [go_sem,zA,zB,zC,zD,zE,reduceCtorEq,↓reduceIte,zF,zG,zH,zI]
      refine s_appS (ix := 1) rfl hBn hs8 rfl (lk_sub fun x hx => by simp at hx; simp [hx]) rfl (by omega) (by unfold maxLen; omega) ?_
      intro v9 gn' hBn' _
      simp -implicitDefEqProofs only [go_sem,zA,zB,zC,zD,zE,reduceCtorEq,↓reduceIte,zF,zG,zH,zI]
      simp (disch := omega) only [wrap_id]
      refine ⟨f4 - 1, by omega, Up.sel [[1], [2], [3], [4]] (by decide) fun _ _ => ⟨gn', m + 1, _, _, rfl, rfl, by omega, hBn', fun x => ?_, by rw [List.length_append]; omega⟩⟩
      rw [List.mem_append, hnx, htk4]
      constructor
      ·rintro (⟨p', h1, h2⟩ | h)
       ·exact ⟨p', List.mem_append_left _ h1, h2⟩
       ·exact ⟨p, by simp, h⟩
      ·rintro ⟨p', h1, h2⟩
       rcases List.mem_append.1 h1 with h1 | h1
       ·exact .inl ⟨p', h1, h2⟩
       ·simp at h1; subst h1; exact .inr h2
     ·have hm4 : m = at'.length := by omega
      rw [hm4, List.take_length] at hnx
      refine CallVC.head (slices_sort (Γr := []) hBn (by omega)) (List.nil_sublist _) ?_
      rintro v Γ' ⟨rfl, gn2, rfl, hBn2, _⟩
      simp -implicitDefEqProofs only [go_sem,zA,zB,zC,zD,zE,reduceCtorEq,↓reduceIte,zF,zG,zH,zI]
      refine CallVC.head (slices_compact (Γr := []) hBn2) (List.nil_sublist _) ?_
      rintro v Γ' ⟨rfl, gn3, rfl, hBn3, _⟩
      have hso : Lib.compact (sortI nx) = soI nx := rfl
      rw [hso] at hBn3 ⊢
      have hsl := soI_len nx
      obtain ⟨A10, c10, e10, hs10⟩ := hBn3.slok (L' := lk [gn3]) (Mem.le.refl _) (lk_sub (by simp)) (by omega)
      simp only [Value.slice.injEq, true_and] at e10
      obtain ⟨rfl, rfl⟩ := e10
      simp -implicitDefEqProofs only [go_sem,zA,zB,zC,zD,zE,reduceCtorEq,↓reduceIte,zF,zG,zH,zI]
      simp (disch := omega) only [wrap_id]
      refine ⟨f3 - 1, by omega, Up.sel [[0], [2], [3]] (by decide) fun _ _ => ⟨gn3, j + 1, An, cn, soI nx, rfl, rfl, by omega, hs10, fun x => ?_, soI_lt nx, fun x hx => ?_⟩⟩
      ·rw [soI_mem, hnx, htk, chn_snoc]
       exact exists_congr fun p => and_congr (hAt p) mem_aft
      ·rw [soI_mem, hnx] at hx
       obtain ⟨p, h1, h2⟩ := hx
       exact aft_st D hT hI (hast p h1) hsv.1 hsv.2.1 (mem_aft.1 h2)
    ·have hj : j = r.r.length := by omega
     subst hj
     rw [List.take_length] at hAt
     have hrl := V.left r hrm
     have hns := V.ns
     have hkk : keyI (k : Int) := ⟨by omega, by omega⟩
     have hkl : keyI r.l := ⟨by omega, by omega⟩
     obtain ⟨Al, cl, hsl, hlook⟩ := (hTab.mono (Lm' := lk ([gt, hm3, gr3] ++ Γr)) (lk_sub fun x hx => by simp at hx; simp [hx]) (Mem.le.refl _)).look hkk hkl
     have hTl : (T k r.l).length ≤ 12 := srt_len (hI.srt _ _) fun p hp => by have := (hI.rng _ _ p hp).2.2; exact ⟨this.1, by have := this.2; omega⟩
     intro b7
     refine s_ld (j := 7) (hmk _) (by simp [mkrC]) (by simp) ?_
     simp only [mkrC]
     simp -implicitDefEqProofs only [go_sem,zA,zB,zC,zD,zE,reduceCtorEq,↓reduceIte,zF,zG,zH,zI]
     refine s_q trivial hlook ?_
     simp -implicitDefEqProofs only [go_sem,zA,zB,zC,zD,zE,reduceCtorEq,↓reduceIte,zF,zG,zH,zI]
     intro b8
     have hlit : SlOk (lk ([one b8 (.cells [Value.slice Al (T k r.l).length cl, Value.slice At at'.length ct].toArray 25), gt, hm3, gr3] ++ Γr)) (some ⟨b8, 0, none⟩) 2 [T k r.l, at'] :=
      lit_rep2 (T k r.l) at' lk_head rfl ⟨_, _, rfl, hsl.mono (lk_sub fun x hx => by simp at hx; simp [hx])⟩ ⟨_, _, rfl, hsat.mono (lk_sub fun x hx => by simp at hx; simp [hx])⟩
     refine CallVC.read (slices_concat hlit (by simp; omega) (by simp)) ?_
     rintro v Γ' ⟨gc, rfl, hBc⟩
     have hfl : [T k r.l, at'].flatten = T k r.l ++ at' := by simp
     rw [hfl] at hBc
     obtain ⟨Ac, cc, rfl⟩ := hBc.val
     simp -implicitDefEqProofs only [go_sem,zA,zB,zC,zD,zE,reduceCtorEq,↓reduceIte,zF,zG,zH,zI]
     refine CallVC.head (slices_sort (Γr := []) hBc (by rw [List.length_append]; omega)) (List.nil_sublist _) ?_
     rintro v Γ' ⟨rfl, gc2, rfl, hBc2, _⟩
     simp -implicitDefEqProofs only [go_sem,zA,zB,zC,zD,zE,reduceCtorEq,↓reduceIte,zF,zG,zH,zI]
     refine CallVC.head (slices_compact (Γr := []) hBc2) (List.nil_sublist _) ?_
     rintro v Γ' ⟨rfl, gc3, rfl, hBc3, _⟩
     obtain ⟨al, hal2⟩ : ∃ al, soI (T k r.l ++ at') = al := ⟨_, rfl⟩
     have hso : Lib.compact (sortI (T k r.l ++ at')) = al := hal2
     rw [hso] at hBc3 ⊢
     have halt : al.Pairwise (· < ·) := hal2 ▸ soI_lt _
     have halm : ∀ p, p ∈ al ↔ p ∈ T k r.l ∨ ChnQ (TofL T) d r.r k p := fun p => by rw [← hal2, soI_mem, List.mem_append, hAt]
     have hall : al.length ≤ 1000 := by have := soI_len (T k r.l ++ at'); rw [hal2, List.length_append] at this; omega
     obtain ⟨A11, c11, e11, hs11⟩ := hBc3.slok (L' := lk [gc3]) (Mem.le.refl _) (lk_sub (by simp)) (by omega)
     simp only [Value.slice.injEq, true_and] at e11
     obtain ⟨rfl, rfl⟩ := e11
     simp -implicitDefEqProofs only [go_sem,zA,zB,zC,zD,zE,reduceCtorEq,↓reduceIte,zF,zG,zH,zI]
     refine s_ld (j := 7) (hmk _) (by simp [mkrC]) (by simp) ?_
     simp only [mkrC]
     simp -implicitDefEqProofs only [go_sem,zA,zB,zC,zD,zE,reduceCtorEq,↓reduceIte,zF,zG,zH,zI]
     obtain ⟨Al2, cl2, hsl2, hlook2⟩ := (hTab.mono (Lm' := lk ([gc3, one b8 (.cells [Value.slice Al (T k r.l).length cl, Value.slice At at'.length ct].toArray 25), gt, hm3, gr3] ++ Γr)) (lk_sub fun x hx => by simp at hx; simp [hx]) (Mem.le.refl _)).look hkk hkl
     refine s_q trivial hlook2 ?_
     simp -implicitDefEqProofs only [go_sem,zA,zB,zC,zD,zE,reduceCtorEq,↓reduceIte,zF,zG,zH,zI]
     refine ⟨fun hgt => ?_, fun hgt => ?_⟩
     ·have hgt : (T k r.l).length < al.length := by omega
      obtain ⟨l0, hl0, hl1⟩ := hTab
      have hM : MapM hm3 bm intsV Hd.v (okInts 2) l0 := hl0.mono fun b o q => lk_one.1 q
      refine s_ld (j := 7) (hmk _) (by simp [mkrC]) (by simp) ?_
      simp only [mkrC]
      simp -implicitDefEqProofs only [go_sem,zA,zB,zC,zD,zE,reduceCtorEq,↓reduceIte,zF,zG,zH,zI]
      refine s_mentX kt_two (t := 247) (et := 25) (z := .slice none 0 0) (eV := Hd.v) (ix := 3) (by kernel_rfl) (zero_run (by kernel_rfl)) rfl hM (a := [(k : Int), r.l]) (key_two hkk hkl) ?_
      intro hm4 stamp x hE _
      simp -implicitDefEqProofs only [go_sem,zA,zB,zC,zD,zE,reduceCtorEq,↓reduceIte,zF,zG,zH,zI]
      refine s_estoreX (ix := 3) intsV_inj rfl hE (⟨Ac, al.length, cc⟩ : Hd) ?_
      intro hm5 hM5 _
      simp -implicitDefEqProofs only [go_sem,zA,zB,zC,zD,zE,reduceCtorEq,↓reduceIte,zF,zG,zH,zI]
      simp (disch := omega) only [wrap_id]
      have hI' : TabI g d (updT T k r.l al) := hI.upd V hrm hqk halt halm fun p hp => hast p ((hAt p).2 hp)
      have hup := szT_upd (T := T) (q := k) (n := r.l) (l := al) ⟨by omega, by omega⟩ ⟨by omega, by omega⟩ hgt
      refine Up.here ⟨f2 - 1, by omega, Up.sel [[3], [4, 0]] (by decide) fun _ hm => ⟨true, k + 1, hm5, _, updT T k r.l al, rfl, rfl, by omega, ⟨⟨_, hM5.l (by simp), fun q n => ?_⟩, hI'⟩, by simp at hsz ⊢; omega, by simp⟩⟩
      have h40 := hm [4, 0] (by simp)
      rw [mget_put]
      by_cases e : q = k ∧ n = r.l
      ·obtain ⟨rfl, rfl⟩ := e
       have e2 : updT T k r.l al k r.l = al := by simp [updT]
       rw [e2, if_pos rfl]
       refine ⟨(fun h => by cases h), fun h hh => ?_⟩
       cases hh
       exact ⟨rfl, hs11.mono (Mem.le.trans (lk_sub (by simp [sel])) h40)⟩
      ·have e2 : updT T k r.l al q n = T q n := by simp [updT, e]
       have e3 : [q, n] ≠ [(k : Int), r.l] := fun z => e (by simpa using z)
       rw [e2, if_neg e3]
       exact ⟨(hl1 q n).1, fun h hh => ⟨((hl1 q n).2 h hh).1, ((hl1 q n).2 h hh).2.mono (Mem.le.trans (lk_sub (by simp [sel])) h40)⟩⟩
     ·have hgt : al.length ≤ (T k r.l).length := by omega
      simp (disch := omega) only [wrap_id]
      refine Up.here ⟨f2 - 1, by omega, Up.sel [[3], [4]] (by decide) fun _ hm => ⟨ag, k + 1, hm3, gr3, T, rfl, rfl, by omega, ⟨hTab, hI⟩, hsz, fun h => ⟨(hcl h).1, (hcl h).2.1, fun q hq => ?_⟩⟩⟩
      rcases Nat.lt_or_ge q k with z | z
      ·exact (hcl h).2.2 q z
      ·have : q = k := by omega
       subst this
       intro p hp
       exact len_same (srt_nodup (hI.srt _ _)) (srt_nodup halt) (fun x hx => (halm x).2 (.inl hx)) hgt p ((halm p).2 (.inr hp))
   ·have hk : k = d.nx.length := by omega
    simp (disch := omega) only [wrap_id]
    refine ⟨f1 - 1, by omega, Up.here ⟨ag, i + 1, hm3, gr3, T, rfl, rfl, by omega, ⟨hTab, hI⟩, hsz, fun h => ⟨(hcl h).1, fun i' r' hi' hr' q hq => ?_⟩⟩⟩
    obtain ⟨h1, h2, h3⟩ := hcl h
    rcases Nat.lt_or_ge i' i with z | z
    ·exact h2 i' r' z hr' q hq
    ·have : i' = i := by omega
     subst this
     rw [hri] at hr'
     cases hr'
     obtain ⟨qn, rfl⟩ : ∃ n : Nat, q = n := ⟨q.toNat, by have := hq.1; omega⟩
     exact h3 qn (by have := hq.2; omega)
  ·have hi : i = g.rs.length := by omega
   have hsz2 := szT_le hI1 h12
   have hfl : 2881 + (if ag = true then 1 else 0) - 2 * szT T1 < f := by
    simp only [if_true] at hf
    cases ag <;> simp at hsz1 ⊢ <;> omega
   refine ⟨2881 + (if ag then 1 else 0) - 2 * szT T1, hfl, Up.here ⟨ag, hm2, gr2, T1, rfl, rfl, ⟨hTab1, hI1⟩, fun h r hr q p hq hch => ?_, by omega⟩⟩
   ·obtain ⟨i', hi', rfl⟩ := List.getElem_of_mem hr
    exact (hcl1 h).2 i' _ (by omega) (List.getElem?_eq_getElem hi') q hq p hch
 ·refine Up.here ?_
  subst hR hag
  exact ⟨rfl, hm1, gr1, T0, rfl, ⟨hTab0, hI0⟩, hcl0 rfl⟩
/- The text of (*parlance/meet.maker).ways as a statement; no condition. -/
def S221_1 : Stmt :=
 .block 3
 (.seq
 (.region
 [oq 43 (.idx 1 (.tmp 39) (.tmp 41)),
 oq 44 (.load false 1 (.tmp 43)),oq 13 (.mv (.tmp 44))]
 [0,1,2,3,9,13,28,29,30,39,40,41])
 (.seq
 (.region
 [oq 45 (.mv (.tmp 9)),oq 46 (.len false (.tmp 45)),
 oq 47 (.ibin .leq (.tmp 46) (.const (.int .i64 4000)))]
 [0,1,2,3,9,13,28,29,30,39,40,41,47])
 (.cond (.tmp 47)
 (.region
 [oq 48 (.mv (.tmp 9)),oq 49 (.mv (.tmp 1)),
 oq 50 (.buildS 3 1 [.int .i64 0] [(0,1,.tmp 49)]),
 oq 51 (.mv (.tmp 13)),
 oq 52 (.append 25 3 1 8 (.int .i64 0) (.tmp 50) (.tmp 51)),
 oq 53 (.buildS 25 1 [.slice none 0 0] [(0,1,.tmp 52)]),
 oq 54 (.append 28 25 1 24 (.slice none 0 0) (.tmp 48) (.tmp 53)),
 oq 9 (.mv (.tmp 54))]
 [0,1,2,3,9,28,29,30,39,40,41])
 .skip)))
def S221_2 : Stmt :=
 .region
 [oq 55 (.ibin .add (.tmp 41) (.const (.int .i64 1))),
 oq 41 (.mv (.tmp 55))]
 [0,1,2,3,9,28,29,30,39,40,41]
def S221_3 : Stmt :=
 .seq
 (.region [oq 42 (.ibin .lss (.tmp 41) (.tmp 40))]
 [0,1,2,3,9,28,29,30,39,40,41,42])
 (.seq (.cond (.tmp 42) .skip (.exit 2))
 (.join S221_1 S221_2 [9] [0,1,2,3,28,29,30,39,40,41]))
def S221_4 : Stmt :=
 .seq
 (.region [oq 31 (.ibin .lss (.tmp 30) (.tmp 29))]
 [0,1,2,3,9,28,29,30,31])
 (.seq (.cond (.tmp 31) .skip (.exit 0))
 (.seq
 (.block 1
 (.seq
 (.region
 [oq 32 (.idx 1 (.tmp 28) (.tmp 30)),
 oq 33 (.load false 1 (.tmp 32)),
 oq 11 (.mv (.tmp 33))]
 [0,1,2,3,9,11,28,29,30])
 (.seq
 (.region
 [oq 34 (.mv (.tmp 0)),oq 35 (.mv (.tmp 11)),
 oq 36 (.mv (.tmp 2)),
 .mk (some 37) none
 (.slc 2 (.tmp 36) (some (.const (.int .i64 1))) none none),
 oq 38 (.mv (.tmp 3)),
 .mk (some 39) none
 (.call (.func 221) [.tmp 34,.tmp 35,.tmp 37,.tmp 38]),
 oq 40 (.len false (.tmp 39)),
 oq 41 (.mv (.const (.int .i64 0)))]
 [0,1,2,3,9,28,29,30,39,40,41])
 (.block 2 (.loop S221_3 [9,41] [0,1,2,3,28,29,30,39,40])))))
 (.region
 [oq 56 (.ibin .add (.tmp 30) (.const (.int .i64 1))),
 oq 30 (.mv (.tmp 56))]
 [0,1,2,3,9,28,29,30])))
def S221_0 : Stmt :=
 .seq (.region [oq 8 (.mv (.const (.slice none 0 0)))] [0,1,2,3])
 (.seq
 (.seq
 (.region
 [oq 14 (.mv (.tmp 2)),oq 15 (.len false (.tmp 14)),
 oq 16 (.ibin .eql (.tmp 15) (.const (.int .i64 0)))]
 [0,1,2,3,16])
 (.cond (.tmp 16)
 (.seq
 (.seq
 (.region
 [oq 17 (.mv (.tmp 1)),oq 18 (.mv (.tmp 3)),
 oq 19 (.ibin .eql (.tmp 17) (.tmp 18))]
 [1,19])
 (.cond (.tmp 19)
 (.seq
 (.region
 [oq 20 (.mv (.tmp 1)),
 oq 21 (.buildS 3 1 [.int .i64 0] [(0,1,.tmp 20)]),
 oq 22 (.buildS 25 1 [.slice none 0 0] [(0,1,.tmp 21)]),
 oq 8 (.mv (.tmp 22))]
 [8])
 .ret)
 .skip))
 (.seq (.region [oq 8 (.mv (.const (.slice none 0 0)))] [8])
 .ret))
 .skip))
 (.seq (.region [oq 9 (.mv (.const (.slice none 0 0)))] [0,1,2,3,9])
 (.seq
 (.seq
 (.region
 [oq 23 (.mv (.tmp 0)),oq 24 (.mv (.tmp 1)),
 oq 25 (.mv (.tmp 2)),
 oq 26 (.idx 2 (.tmp 25) (.const (.int .i64 0))),
 oq 27 (.load true 2 (.tmp 26)),
 oq 28 (.call (.func 216) [.tmp 23,.tmp 24,.tmp 27]),
 oq 29 (.len false (.tmp 28)),
 oq 30 (.mv (.const (.int .i64 0)))]
 [0,1,2,3,9,28,29,30])
 (.block 0 (.loop S221_4 [9,30] [0,1,2,3,28,29])))
 (.seq
 (.region
 [oq 57 (.mv (.tmp 9)),oq 8 (.mv (.tmp 57))] [8])
 .ret))))
def S221 : FnS := ⟨58,[(8,none)],S221_0⟩
theorem tr221 : trFn Try.prog 221 [] [[0,1,2,3],[0,1,2,3,16],[1,19],[8],[8],[0,1,2,3,9],[0,1,2,3,9,28,29,30],[9,30],[0,1,2,3,28,29],[0,1,2,3,9,28,29,30,31],[0,1,2,3,9,11,28,29,30],[0,1,2,3,9,28,29,30,39,40,41],[9,41],[0,1,2,3,28,29,30,39,40],[0,1,2,3,9,28,29,30,39,40,41,42],[9],[0,1,2,3,28,29,30,39,40,41],[0,1,2,3,9,13,28,29,30,39,40,41],[0,1,2,3,9,13,28,29,30,39,40,41,47],[0,1,2,3,9,28,29,30,39,40,41],[0,1,2,3,9,28,29,30,39,40,41],[0,1,2,3,9,28,29,30],[8]] = some S221 := by kernel_rfl
/- Ways through a product: meet's ways walked; no condition. -/
theorem pth_len {T : Int → Int → Int → Prop} {d : Da} : ∀ {l : List Sy} {q : Int} {xs : List Int}, PthL T d l q xs → xs.length = l.length
 | [], q, xs, h => by
  have h : xs = [] := h
  subst h; rfl
 | s :: l, q, xs, h => by
  obtain ⟨x, r, rfl, _, h2⟩ := h
  simp [pth_len h2]
theorem ways_len4 {T : Int → Int → List Int} {d : Da} {l : List Sy} {q p : Int} {xs : List Int} (h : xs ∈ waysF T d l q p) : xs.length = l.length := pth_len (mem_ways.1 h).1
theorem take_flat {α β : Type} (f : α → List β) {l : List α} {k : Nat} (hk : k < l.length) : (l.take (k + 1)).flatMap f = (l.take k).flatMap f ++ f l[k] := by
 rw [List.take_succ_eq_append_getElem hk, List.flatMap_append]
 simp
theorem flat_take_le {α β : Type} (f : α → List β) (l : List α) (k : Nat) : ((l.take k).flatMap f).length ≤ (l.flatMap f).length := by
 conv => rhs; rw [← List.take_append_drop k l, List.flatMap_append, List.length_append]
 omega
set_option maxHeartbeats 1000000 in
theorem meet_ways {g : Gr} {d : Da} {G A B : Option Addr × Nat} {pm bm : Nat} {u : Value} {T : Int → Int → List Int} (D : VD d) (hT : g.ts = colsD d) (hTl : ∀ q n, (T q n).length ≤ 12) (hTn : ∀ q n, (T q n).Nodup) (hTs : ∀ q n p, p ∈ T q n → StQ d p) :
  ∀ (l : List Sy) {Γr : Ctx} {q p : Int} {L : Option Addr} {cl : Nat}, (∃ w, lk Γr pm (.cells (mkrC g d G A B bm u).toArray w (0, 0))) → SlOk (lk Γr) B.1 B.2 d.nx → TabL (lk Γr) (lk Γr) bm T → SlOk (lk Γr) L cl l → StQ d q → l.length ≤ 4 → (∀ s ∈ l, 0 ≤ s.n ∧ (s.t = true → s.n < g.ts) ∧ (s.t = false → s.n < 100)) →
  Ret Try.prog 221 [.pointer (some ⟨pm, 0, none⟩), .int .i64 q, .slice L l.length cl, .int .i64 p] Γr [] (fun v Γ => ∃ gx A' c', Γ = [gx] ∧ v = .slice A' (waysF T d l q p).length c' ∧ SlOk (lk [gx]) A' c' ((waysF T d l q p).map (q :: ·))) := by
 intro l
 induction l with
 | nil =>
  intro Γr q p L cl hm hB htab hl hq h4 hs
  generalize hR : (fun (v : Value) (Γ : Ctx) => ∃ gx A' c', _) = R
  refine ret_of_vc tr221 (Nat.le_of_ble_eq_true rfl) ?_
  simp only [List.length_nil]
  simp -implicitDefEqProofs only [S221, S221_0, go_sem,zA,zB,zC,zD,zE,reduceCtorEq,↓reduceIte,zF,zG,zH,zI]
  refine ⟨fun he => ?_, fun he => ?_⟩
  ·intro b1 b2
   subst he
   have h1 : SlOk (lk [one b1 (.cells [Value.int IntKind.i64 q].toArray 3)]) (some ⟨b1, 0, none⟩) 1 [q] := lit_slok [q] rfl (by simp)
   refine Up.one fun gx hx => ?_
   subst hR
   have h2 : Bld (one b2 (.cells [Value.slice (some ⟨b1, 0, none⟩) 1 1].toArray 25)) (lk [one b1 (.cells [Value.int IntKind.i64 q].toArray 3)]) 25 (.slice (some ⟨b2, 0, none⟩) 1 1) [[q]] := lit_bldm [q] ⟨_, _, rfl, h1⟩
   obtain ⟨A', c', e, h3⟩ := h2.slok (L' := lk [gx]) (Mem.le.trans (lk_sub (by simp)) hx) (Mem.le.trans (lk_sub (by simp)) hx) (by simp)
   simp only [waysF, if_true]
   exact ⟨gx, A', c', rfl, e, h3⟩
  ·refine Up.one fun gx hx => ?_
   subst hR
   simp only [waysF, if_neg he]
   exact ⟨gx, none, 0, rfl, rfl, SlOk.nil⟩
 | cons s l ih =>
  intro Γr q p L cl hm hB htab hl hq h4 hs
  simp only [List.length_cons] at h4
  generalize hR : (fun (v : Value) (Γ : Ctx) => ∃ gx A' c', _) = R
  refine ret_of_vc tr221 (Nat.le_of_ble_eq_true rfl) ?_
  have hs0 := hs s (by simp)
  obtain ⟨bl, ol, hL, hcl⟩ : ∃ b o, L = some ⟨b, o, none⟩ ∧ ∀ Γ : Ctx, Mem.le (lk Γr) (lk Γ) → Cells Γ b (o + 0 * 2) [.bool s.t, .int .i64 s.n] := hl.sy (i := 0) (by simp)
  have hwl := ways_le (d := d) hTl hTn (l := s :: l) (by simpa using h4) q p
  have haf : ∀ x ∈ aftL T d q s, StQ d x := by
   intro x hx
   unfold aftL at hx
   split at hx
   ·rename_i ht
    split at hx
    ·simp at hx
     subst hx
     have := D.step hq (x := s.n) ⟨hs0.1, by rw [← hT]; exact hs0.2.1 ht⟩
     exact ⟨by omega, this.2⟩
    ·simp at hx
   ·exact hTs _ _ _ hx
  simp -implicitDefEqProofs only [S221, S221_0, go_sem,zA,zB,zC,zD,zE,reduceCtorEq,↓reduceIte,zF,zG,zH,zI]
  refine ⟨fun h => by omega, fun _ => ?_⟩
  refine s_idx hL (by omega) (by omega) ?_
  simp -implicitDefEqProofs only [go_sem,zA,zB,zC,zD,zE,reduceCtorEq,↓reduceIte,zF,zG,zH,zI]
  refine s_ld0 (hcl _ (lk_r _ _)) (by simp) (by simp) ?_
  simp -implicitDefEqProofs only [go_sem,zA,zB,zC,zD,zE,reduceCtorEq,↓reduceIte,zF,zG,zH,zI]
  refine CallVC.read (meet_after (g := g) (G := G) (A := A) (u := u) hm hB D hT htab hq hs0.1 hs0.2.1 hs0.2.2) ?_
  rintro v Γ' ⟨ga, A1, c1, rfl, rfl, hsa⟩
  have hal := aft_len (d := d) (by omega) hTl q s
  have han := hsa.short
  obtain ⟨F, hF⟩ : ∃ F : Int → List (List Int), F = fun x => (waysF T d l x p).map (x :: ·) := ⟨_, rfl⟩
  have hWF : waysF T d (s :: l) q p = (aftL T d q s).flatMap F := by rw [hF]; rfl
  rw [hWF] at hwl hR
  obtain ⟨af, haf2⟩ : ∃ af, aftL T d q s = af := ⟨_, rfl⟩
  rw [haf2] at hsa hal han hwl hR haf
  rw [haf2]
  simp -implicitDefEqProofs only [go_sem,zA,zB,zC,zD,zE,reduceCtorEq,↓reduceIte,zF,zG,zH,zI]
  refine s_loop (fun f vs Γ => ∃ (go gr : PH) (v : Value) (k : Nat), vs = [.v true v, .v true (.int .i64 k)] ∧ Γ = [go, gr, ga] ∧ k + f = af.length ∧ Bld go (lk [gr]) 25 v (((af.take k).flatMap F).map (q :: ·))) af.length
   (Up.emp (Up.emp (Up.here ⟨_, _, _, 0, rfl, rfl, by omega, by simpa using Bld.nil _ _ _⟩))) ?_
  rintro f vs Γ ⟨go, gr, v, k, rfl, rfl, hkf, hBo⟩
  obtain ⟨Ao, co, rfl⟩ := hBo.val
  simp -implicitDefEqProofs only [S221_4, go_sem,zA,zB,zC,zD,zE,reduceCtorEq,↓reduceIte,zF,zG,zH,zI]
  refine ⟨fun hlt => ?_, fun hge => ?_⟩
  ·have hk : k < af.length := by omega
   obtain ⟨b1, o1, hA1, hc1⟩ := hsa.int hk
   have hqx := haf _ (List.getElem_mem hk)
   refine s_idx hA1 (by omega) (by omega) ?_
   simp -implicitDefEqProofs only [go_sem,zA,zB,zC,zD,zE,reduceCtorEq,↓reduceIte,zF,zG,zH,zI]
   refine s_ld0 (hc1 _ (lk_sub fun x hx => by rcases List.mem_append.1 hx with q | q <;> simp at q ⊢ <;> simp [q])) (by simp) (by simp) ?_
   simp -implicitDefEqProofs only [go_sem,zA,zB,zC,zD,zE,reduceCtorEq,↓reduceIte,zF,zG,zH,zI]
   have hlc := hl.cap
   simp only [List.length_cons] at hlc
   refine s_lo 1 (by simp -implicitDefEqProofs only [go_sem,zA,zB,zC,zD,zE,reduceCtorEq,↓reduceIte,zF,zG,zH,zI]; exact ⟨_, rfl⟩) (by omega) hlc ?_
   intro A' hA'
   simp -implicitDefEqProofs only [go_sem,zA,zB,zC,zD,zE,reduceCtorEq,↓reduceIte,zF,zG,zH,zI]
   have hsl := hl.slice (l := 1) (m := l.length + 1) (by omega) (by simp)
   simp only [List.take_of_length_le (show (s :: l).length ≤ l.length + 1 by simp), List.drop_succ_cons, List.drop_zero] at hsl
   have hsl2 : SlOk (lk Γr) A' (cl - 1) l := by rw [hA']; exact hsl
   rw [Nat.add_sub_cancel]
   refine CallVC.read (ih (p := p) (Γr := [go, gr, ga] ++ Γr) (hm.imp fun w h => lk_r _ _ _ _ h) (hB.mono (lk_r _ _)) (htab.mono (lk_r _ _) (lk_r _ _)) (hsl2.mono (lk_r _ _)) hqx (by omega) (fun s' q' => hs s' (by simp [q']))) ?_
   rintro v Γ' ⟨gw, A2, c2, rfl, rfl, hsw⟩
   have hFx : F af[k] = (waysF T d l af[k] p).map (af[k] :: ·) := by rw [hF]
   rw [← hFx] at hsw
   have hlen : (waysF T d l af[k] p).length = (F af[k]).length := by rw [hFx]; simp
   rw [hlen]
   have hk1 := flat_take_le F af (k + 1)
   rw [take_flat F hk, List.length_append] at hk1
   have hFl : ∀ w ∈ F af[k], w.length ≤ 4 := by
    intro w hw
    rw [hFx] at hw
    obtain ⟨y, hy, rfl⟩ := List.mem_map.1 hw
    have := ways_len4 hy
    simp only [List.length_cons]
    omega
   obtain ⟨W, hW⟩ : ∃ W, F af[k] = W := ⟨_, rfl⟩
   obtain ⟨R0, hR0⟩ : ∃ R0, (af.take k).flatMap F = R0 := ⟨_, rfl⟩
   rw [hW, hR0] at hk1
   rw [hW] at hsw hFl
   rw [hR0] at hBo ⊢
   rw [hW]
   simp -implicitDefEqProofs only [go_sem,zA,zB,zC,zD,zE,reduceCtorEq,↓reduceIte,zF,zG,zH,zI]
   refine s_loop (fun f2 vs Γ => ∃ (go gr : PH) (v : Value) (j : Nat), vs = [.v true v, .v true (.int .i64 j)] ∧ Γ = [go, gr, gw, ga] ∧ j + f2 = W.length ∧ Bld go (lk [gr]) 25 v ((R0 ++ W.take j).map (q :: ·))) W.length
    (Up.sel [[1], [2], [0], [3]] (by decide) fun _ _ => ⟨go, gr, _, 0, rfl, rfl, by omega, by simpa using hBo⟩) ?_
   clear hBo
   rintro f2 vs Γ ⟨go, gr, v, j, rfl, rfl, hjf, hBo⟩
   obtain ⟨Ao, co, rfl⟩ := hBo.val
   have hlo : ((R0 ++ W.take j).map (q :: ·)).length ≤ 1728 := by rw [List.length_map, List.length_append, List.length_take]; omega
   simp -implicitDefEqProofs only [S221_3, go_sem,zA,zB,zC,zD,zE,reduceCtorEq,↓reduceIte,zF,zG,zH,zI]
   refine ⟨fun hlt2 => ?_, fun hge2 => ?_⟩
   ·have hj : j < W.length := by omega
    obtain ⟨b3, o3, hA3, A4, c4, hs4, hc4⟩ := hsw.list hj
    refine s_split ?_
    simp -implicitDefEqProofs only [S221_1, S221_2, go_sem,zA,zB,zC,zD,zE,reduceCtorEq,↓reduceIte,zF,zG,zH,zI]
    refine s_idx hA3 (by omega) (by omega) ?_
    simp -implicitDefEqProofs only [go_sem,zA,zB,zC,zD,zE,reduceCtorEq,↓reduceIte,zF,zG,zH,zI]
    refine s_ld0 (hc4 _ (lk_sub fun x hx => by simp at hx; simp [hx])) (by simp) (by simp) ?_
    simp -implicitDefEqProofs only [go_sem,zA,zB,zC,zD,zE,reduceCtorEq,↓reduceIte,zF,zG,zH,zI]
    refine ⟨fun hle => ?_, fun hle => by omega⟩
    obtain ⟨w, hw⟩ : ∃ w, W[j] = w := ⟨_, rfl⟩
    have hwl4 := hFl _ (List.getElem_mem hj)
    have htj := List.take_succ_eq_append_getElem hj
    rw [hw] at hs4 hwl4 htj
    rw [hw]
    intro b5
    have hq1 : Bld (one b5 (.cells [Value.int IntKind.i64 q].toArray 3)) (lk []) 3 (.slice (some ⟨b5, 0, none⟩) 1 1) [q] := lit_bldm q rfl
    refine s_appS (ix := 0) rfl hq1 hs4 rfl (lk_sub fun x hx => by simp at hx; simp [hx]) rfl (by simp; omega) (by unfold maxLen; simp; omega) ?_
    intro v5 g5 hB5 _
    obtain ⟨A5, c5, rfl, hs5⟩ := hB5.slok (L' := lk [g5]) (Mem.le.refl _) (lk_sub (by simp)) (by simp; omega)
    simp -implicitDefEqProofs only [go_sem,zA,zB,zC,zD,zE,reduceCtorEq,↓reduceIte,zF,zG,zH,zI]
    intro b6
    refine s_app1 (ix := 2) (L' := lk [g5, gr]) (x := q :: w) rfl hBo (lk_sub (by simp)) ⟨_, _, rfl, hs5.mono (lk_sub (by simp))⟩ cells_one rfl (by omega) (by unfold maxLen; omega) ?_
    intro v7 go' hB7 _
    have e7 : (R0 ++ W.take j).map (q :: ·) ++ [q :: w] = (R0 ++ W.take (j + 1)).map (q :: ·) := by rw [htj]; simp
    rw [e7] at hB7
    simp -implicitDefEqProofs only [go_sem,zA,zB,zC,zD,zE,reduceCtorEq,↓reduceIte,zF,zG,zH,zI]
    simp (disch := omega) only [wrap_id]
    refine Up.here ⟨f2 - 1, by omega, Up.sel [[2], [1, 3], [4], [5]] (by decide) fun _ hm => ⟨_, _, _, j + 1, rfl, rfl, by omega, hB7.mono (Mem.le.refl _) (hm [1, 3] (by simp))⟩⟩
   ·have hj : j = W.length := by omega
    rw [hj, List.take_length] at hBo ⊢
    simp (disch := omega) only [wrap_id]
    refine ⟨f - 1, by omega, Up.sel [[0], [1], [3]] (by decide) fun _ hm => ⟨go, gr, _, k + 1, rfl, rfl, by omega, ?_⟩⟩
    rw [take_flat F hk, hR0, hW]
    exact hBo
  ·have hk : k = af.length := by omega
   rw [hk, List.take_length] at hBo ⊢
   rw [List.length_map]
   refine Up.one fun gx hx => ?_
   obtain ⟨A8, c8, e8, hs8⟩ := hBo.slok (L' := lk [gx]) (Mem.le.trans (lk_sub (by simp)) hx) (Mem.le.trans (lk_sub (by simp)) hx) (by rw [List.length_map]; omega)
   rw [List.length_map] at e8
   subst hR
   exact ⟨gx, A8, c8, rfl, e8, hs8⟩
/- A row of triples that is closed step by step: the plain law; no condition. -/
def addU (l : List Tri) (t : Tri) : List Tri := if t ∈ l then l else l ++ [t]
theorem addU_mem {l : List Tri} {t x : Tri} : x ∈ addU l t ↔ x ∈ l ∨ x = t := by
 unfold addU
 split
 ·rename_i h
  exact ⟨.inl, fun q => q.elim id fun e => by rw [e]; exact h⟩
 ·simp
theorem addU_nodup {l : List Tri} {t : Tri} (h : l.Nodup) : (addU l t).Nodup := by
 unfold addU
 split
 ·exact h
 ·rename_i q
  rw [List.nodup_append]
  refine ⟨h, by simp, ?_⟩
  rintro x hx y hy rfl
  simp at hy
  subst hy
  exact q hx
theorem addU_pre {l : List Tri} {t : Tri} {k : Nat} (hk : k < l.length) : (addU l t)[k]? = l[k]? := by
 unfold addU
 split
 ·rfl
 ·rw [List.getElem?_append_left hk]
/-- the nonterminal at a place of a way w -/
def triW (l : List Sy) (w : List Int) (k : Nat) : Tri := (w.getD k 0, (l.getD k ⟨true, 0⟩).n, w.getD (k + 1) 0)
theorem triL_at : ∀ {l : List Sy} {q : Int} {xs : List Int}, xs.length = l.length → ∀ t, t ∈ triL l q xs ↔ ∃ k, k < l.length ∧ (l.getD k ⟨true, 0⟩).t = false ∧ t = triW l (q :: xs) k
 | [], q, xs, h, t => by simp [triL]
 | s :: l, q, [], h, t => by simp at h
 | s :: l, q, x :: xs, h, t => by
  have ih := triL_at (l := l) (q := x) (xs := xs) (by simpa using h) t
  simp only [triL, List.mem_append, ih]
  constructor
  ·rintro (h1 | ⟨k, h1, h2, h3⟩)
   ·split at h1
    ·cases h1
    ·rename_i hs
     simp only [List.mem_singleton] at h1
     exact ⟨0, by simp, by simpa using hs, by rw [h1]; simp [triW]⟩
   ·exact ⟨k + 1, by simp; omega, by simpa using h2, by rw [h3]; simp [triW]⟩
  ·rintro ⟨k, h1, h2, h3⟩
   cases k with
   | zero =>
    left
    have h2 : s.t = false := by simpa using h2
    rw [if_neg (by simp [h2]), h3]
    simp [triW]
   | succ k =>
    right
    exact ⟨k, by simpa using h1, by simpa using h2, by rw [h3]; simp [triW]⟩
/-- how many rules of the product so many rules of the grammar give -/
def cntK (g : Gr) (d : Da) (T : Int → Int → List Int) (t : Tri) (k : Nat) : Nat := ((g.rs.take k).map fun r => if r.l = t.2.1 then (waysF T d r.r t.1 t.2.2).length else 0).sum
theorem cntK_succ {g : Gr} {d : Da} {T : Int → Int → List Int} {t : Tri} {k : Nat} (hk : k < g.rs.length) : cntK g d T t (k + 1) = cntK g d T t k + if g.rs[k].l = t.2.1 then (waysF T d g.rs[k].r t.1 t.2.2).length else 0 := by
 unfold cntK
 rw [List.take_succ_eq_append_getElem hk, List.map_append, List.sum_append]
 simp
theorem cntK_all {g : Gr} {d : Da} {T : Int → Int → List Int} {t : Tri} : cntK g d T t g.rs.length = cntW g d T t := by
 unfold cntK cntW
 rw [List.take_length]
theorem cntK_le {g : Gr} {d : Da} {T : Int → Int → List Int} {t : Tri} (k : Nat) : cntK g d T t k ≤ cntW g d T t := by
 unfold cntK cntW
 conv => rhs; rw [← List.take_append_drop k g.rs, List.map_append, List.sum_append]
 omega
/-- the row is closed for one of its elements, for so many rules -/
def ClsK (g : Gr) (d : Da) (T : Int → Int → List Int) (row : List Tri) (t : Tri) (k : Nat) : Prop := ∀ (j : Nat) (r : Ru), j < k → g.rs[j]? = some r → r.l = t.2.1 → ∀ xs ∈ waysF T d r.r t.1 t.2.2, ∀ t' ∈ triL r.r t.1 xs, t' ∈ row
structure RowI (g : Gr) (d : Da) (T : Int → Int → List Int) (row : List Tri) : Prop where
 nodup : row.Nodup
 rea : ∀ t ∈ row, ReaQ g d T t
 start : ∀ p ∈ endsL g d T, (d.st, g.st, p) ∈ row
theorem RowI.add {g : Gr} {d : Da} {T : Int → Int → List Int} {row : List Tri} (h : RowI g d T row) {t : Tri} (ht : ReaQ g d T t) : RowI g d T (addU row t) :=
 ⟨addU_nodup h.nodup, fun x hx => (addU_mem.1 hx).elim (h.rea x) fun e => e ▸ ht, fun p hp => addU_mem.2 (.inl (h.start p hp))⟩
theorem RowI.len {g : Gr} {d : Da} {T : Int → Int → List Int} {row : List Tri} (V : VG g) (D : VD d) (hT : g.ts = colsD d) (h12 : d.nx.length ≤ 12) (hI : TabI g d T) (h : RowI g d T row) : row.length ≤ 1440 := by
 have hns := V.ns
 refine tri_many (n := 12) (m := 10) (k := 12) h.nodup fun t ht => ?_
 have := rea_st V D hT (fun q n p hp => (hI.rng q n p hp).2.2) (h.rea t ht)
 obtain ⟨h1, h2, h3⟩ := this
 have := h1.2
 have := h3.2
 exact ⟨⟨h1.1, by omega⟩, ⟨h2.1, by omega⟩, ⟨h3.1, by omega⟩⟩
theorem ClsK.mono {g : Gr} {d : Da} {T : Int → Int → List Int} {row row' : List Tri} {t : Tri} {k : Nat} (h : ClsK g d T row t k) (hr : ∀ x ∈ row, x ∈ row') : ClsK g d T row' t k := fun j r h1 h2 h3 xs h4 t' h5 => hr _ (h j r h1 h2 h3 xs h4 t' h5)
/-- so many rules of the product the first n elements give -/
def sumC (g : Gr) (d : Da) (T : Int → Int → List Int) (row : List Tri) (n : Nat) : Nat := (endsL g d T).length + ((row.take n).map (cntW g d T)).sum
theorem sumC_succ {g : Gr} {d : Da} {T : Int → Int → List Int} {row : List Tri} {n : Nat} {t : Tri} (ht : row[n]? = some t) : sumC g d T row (n + 1) = sumC g d T row n + cntW g d T t := by
 unfold sumC
 obtain ⟨hn, rfl⟩ := List.getElem?_eq_some_iff.1 ht
 rw [List.take_succ_eq_append_getElem hn, List.map_append, List.sum_append]
 simp
 omega
theorem sumC_add {g : Gr} {d : Da} {T : Int → Int → List Int} {row : List Tri} {n : Nat} {t : Tri} (hn : n ≤ row.length) : sumC g d T (addU row t) n = sumC g d T row n := by
 unfold sumC addU
 split
 ·rfl
 ·rw [List.take_append_of_le_length hn]
end Go.Proofs.Ytiipiapfnedfjaa.V
/- The kit's contract for a function of the library, laid at this program by the kit's own tool in plain words; no condition. -/
namespace Go.Proofs.Ytiipiapfnedfjaa.V
open Go Go.Shelf Go.Proofs
def laysT_ren : Go.Shelf.Ren := ⟨fun | 6 => 222 | 15 => 188 | 14 => 266 | 28 => 241 | 29 => 242 | 20 => 286 | 21 => 287 | 22 => 288 | 23 => 289 | 24 => 290 | 25 => 291 | 26 => 292 | 27 => 293 | 46 => 300 | 47 => 276 | 48 => 277 | 49 => 301 | 50 => 302 | 57 => 304 | n => n, fun | 22 => 116 | 24 => 126 | 25 => 323 | 3 => 3 | 39 => 282 | 0 => 0 | 53 => 196 | 55 => 342 | 4 => 4 | 46 => 335 | 45 => 334 | 50 => 186 | 5 => 5 | 9 => 9 | 66 => 366 | 70 => 85 | 76 => 382 | 77 => 383 | n => n, fun | n => n⟩
theorem laysT : Go.Proofs.SlLaysF0.n6 Try.prog laysT_ren := {
 mixed := by kernel_rfl
 f6 := ⟨Try.f222.name, by decide, Try.func222.trans (congrArg some (by kernel_rfl))⟩
 f14 := ⟨Try.f266.name, by decide, Try.func266.trans (congrArg some (by kernel_rfl))⟩
 f15 := Try.func188.trans (congrArg some (by kernel_rfl))
 f20 := ⟨Try.f286.name, by decide, Try.func286.trans (congrArg some (by kernel_rfl))⟩
 f21 := ⟨Try.f287.name, by decide, Try.func287.trans (congrArg some (by kernel_rfl))⟩
 f22 := ⟨Try.f288.name, by decide, Try.func288.trans (congrArg some (by kernel_rfl))⟩
 f23 := ⟨Try.f289.name, by decide, Try.func289.trans (congrArg some (by kernel_rfl))⟩
 f24 := ⟨Try.f290.name, by decide, Try.func290.trans (congrArg some (by kernel_rfl))⟩
 f25 := ⟨Try.f291.name, by decide, Try.func291.trans (congrArg some (by kernel_rfl))⟩
 f26 := ⟨Try.f292.name, by decide, Try.func292.trans (congrArg some (by kernel_rfl))⟩
 f27 := ⟨Try.f293.name, by decide, Try.func293.trans (congrArg some (by kernel_rfl))⟩
 f28 := Try.func241.trans (congrArg some (by kernel_rfl))
 f29 := Try.func242.trans (congrArg some (by kernel_rfl))
 f46 := ⟨Try.f300.name, by decide, Try.func300.trans (congrArg some (by kernel_rfl))⟩
 f47 := Try.func276.trans (congrArg some (by kernel_rfl))
 f48 := Try.func277.trans (congrArg some (by kernel_rfl))
 f49 := ⟨Try.f301.name, by decide, Try.func301.trans (congrArg some (by kernel_rfl))⟩
 f50 := ⟨Try.f302.name, by decide, Try.func302.trans (congrArg some (by kernel_rfl))⟩
 f57 := ⟨Try.f304.name, by decide, Try.func304.trans (congrArg some (by kernel_rfl))⟩
 t0 := Try.underlying0
 a0 := Try.isAgg0
 z0 := Try.sizeOf0
 v0 := Try.zeroValue0
 t3 := Try.underlying3
 a3 := Try.isAgg3
 z3 := Try.sizeOf3
 v3 := Try.zeroValue3
 t4 := Try.underlying4
 a4 := Try.isAgg4
 z4 := Try.sizeOf4
 v4 := Try.zeroValue4
 t5 := Try.underlying5
 a5 := Try.isAgg5
 z5 := Try.sizeOf5
 v5 := Try.zeroValue5
 t9 := Try.underlying9
 a9 := Try.isAgg9
 z9 := Try.sizeOf9
 v9 := Try.zeroValue9
 t22 := Try.underlying116
 a22 := Try.isAgg116
 z22 := Try.sizeOf116
 v22 := Try.zeroValue116
 t25 := Try.underlying323
 a25 := Try.isAgg323
 z25 := Try.sizeOf323
 v25 := Try.zeroValue323
 t39 := Try.underlying282
 a39 := Try.isAgg282
 z39 := Try.sizeOf282
 v39 := Try.zeroValue282
 t45 := Try.underlying334
 a45 := Try.isAgg334
 z45 := Try.sizeOf334
 v45 := Try.zeroValue334
 t46 := Try.underlying335
 a46 := Try.isAgg335
 z46 := Try.sizeOf335
 v46 := Try.zeroValue335
 t50 := Try.underlying186
 a50 := Try.isAgg186
 z50 := Try.sizeOf186
 v50 := Try.zeroValue186
 t53 := Try.underlying196
 a53 := Try.isAgg196
 z53 := Try.sizeOf196
 v53 := Try.zeroValue196
 t55 := Try.underlying342
 a55 := Try.isAgg342
 z55 := Try.sizeOf342
 v55 := Try.zeroValue342
 t66 := Try.underlying366
 a66 := Try.isAgg366
 z66 := Try.sizeOf366
 v66 := Try.zeroValue366
 t70 := Try.underlying85
 a70 := Try.isAgg85
 z70 := Try.sizeOf85
 v70 := Try.zeroValue85
 t76 := Try.underlying382
 a76 := Try.isAgg382
 z76 := Try.sizeOf382
 v76 := Try.zeroValue382
 t77 := Try.underlying383
 a77 := Try.isAgg383
 z77 := Try.sizeOf383
 v77 := Try.zeroValue383 }
end Go.Proofs.Ytiipiapfnedfjaa.V
/- slices.SortFunc of triples: its contract; no condition. -/
namespace Go.Proofs.Ytiipiapfnedfjaa.V
open Go Go.Proofs
set_option linter.unusedVariables false
set_option linter.unusedSimpArgs false

instance : Rep (Int × Int × Int) where
 sz := 3
 ok _ x cs := cs = [.int .i64 x.1, .int .i64 x.2.1, .int .i64 x.2.2]
 len h := by subst h; rfl
 one h := by subst h; simp [one', Value.oneCell']
 mono h _ := h
theorem ok_tri {L : Mem} {x : Int × Int × Int} {cs : List Value} (q : Rep.ok L x cs) : cs = [.int .i64 x.1, .int .i64 x.2.1, .int .i64 x.2.2] := q
theorem triC {gf : FuncId} {cb : Array Value} (eg : ∀ args w, (callFunc gf args).run Try.prog w = .ok (.enter gf args) w) : SortFC Try.prog 222 gf cb 3 := by
 intro β _ enc hk h1 cf hO blk off cap d w hl hH hb hs
 have h1 := AnyQ.slices_SortFunc laysT 3 (fun w => Try.isAgg126 w) (fun w => Try.sizeOf126 w) enc hk h1 cf hO gf cb blk off cap d w eg hl hH hb hs
 exact h1
theorem triN (p : Option Addr) (cap : Nat) (fv : Value) (w : World) : Calls Try.prog 222 #[.slice p 0 cap, fv] w fun e w' => e = .returned (.tuple #[]) ∧ w' = w := AnyF.slices_SortFunc_none laysT p cap fv w
theorem sort_tris {Γr : Ctx} {gf : FuncId} {cb : Array Value} {g : PH} {L : Mem} {e : TypeId} {A : Option Addr} {n c : Nat} {xs : List (Int × Int × Int)} {cmp : Int × Int × Int → Int × Int × Int → Int} (hO : OrdC cmp) (eg : ∀ args w, (callFunc gf args).run Try.prog w = .ok (.enter gf args) w)
  (hcmp : ∀ x y : Int × Int × Int, Ret Try.prog gf ([.agg #[.int .i64 x.1, .int .i64 x.2.1, .int .i64 x.2.2], .agg #[.int .i64 y.1, .int .i64 y.2.1, .int .i64 y.2.2]] ++ cb.toList) Γr [] (fun v Γ => Γ = [] ∧ v = .int .i64 (cmp x y)))
  (h : Bld g L e (.slice A n c) xs) (hlen : xs.length ≤ 140737488355328) :
  Ret Try.prog 222 [.slice A n c, .func (.func gf) #[] cb] Γr [g] (fun v Γ => v = .tuple #[] ∧ ∃ g' ys, Γ = [g'] ∧ ys.Perm xs ∧ ys.Pairwise (fun a b => ¬ cmp b a < 0) ∧ Bld g' L e (.slice A n c) ys ∧ ∀ k, rowBlk (.slice A n c) ≠ some k → g' k = g k) := by
 refine sortf_row (α := Int × Int × Int) (by kernel_rfl) (triC eg) triN hO (fun x y cx cy hx hy => ?_) h hlen
 rw [ok_tri hx, ok_tri hy]
 exact hcmp x y
end Go.Proofs.Ytiipiapfnedfjaa.V
/- The text of (*parlance/meet.maker).ends as a statement; no condition. -/
namespace Go.Proofs.Ytiipiapfnedfjaa.V
open Go
def S220_1 : Stmt :=
 .block 1
 (.seq
 (.region
 [oq 25 (.idx 1 (.tmp 21) (.tmp 23)),
 oq 26 (.load false 1 (.tmp 25)),oq 5 (.mv (.tmp 26))]
 [0,3,5,21,22,23])
 (.seq
 (.region
 [oq 27 (.mv (.tmp 0)),oq 28 (.nilCheck (.tmp 27)),
 oq 29 (.fld 4 (.tmp 28)),oq 30 (.fld 1 (.tmp 29)),
 oq 31 (.load false 1 (.tmp 30)),oq 32 (.mv (.tmp 5)),
 oq 33 (.idx 1 (.tmp 31) (.tmp 32)),
 oq 34 (.load false 1 (.tmp 33)),
 oq 35 (.ibin .geq (.tmp 34) (.const (.int .i64 0)))]
 [0,3,5,21,22,23,35])
 (.cond (.tmp 35)
 (.region
 [oq 36 (.mv (.tmp 3)),oq 37 (.mv (.tmp 5)),
 oq 38 (.buildS 3 1 [.int .i64 0] [(0,1,.tmp 37)]),
 oq 39 (.append 25 3 1 8 (.int .i64 0) (.tmp 36) (.tmp 38)),
 oq 3 (.mv (.tmp 39))]
 [0,3,21,22,23])
 .skip)))
def S220_2 : Stmt :=
 .region
 [oq 40 (.ibin .add (.tmp 23) (.const (.int .i64 1))),
 oq 23 (.mv (.tmp 40))]
 [0,3,21,22,23]
def S220_3 : Stmt :=
 .seq
 (.region [oq 24 (.ibin .lss (.tmp 23) (.tmp 22))] [0,3,21,22,23,24])
 (.seq (.cond (.tmp 24) .skip (.exit 0)) (.join S220_1 S220_2 [3] [0,21,22,23]))
def S220_0 : Stmt :=
 .seq (.region [oq 2 (.mv (.const (.slice none 0 0)))] [0])
 (.seq (.region [oq 3 (.mv (.const (.slice none 0 0)))] [0,3])
 (.seq
 (.seq
 (.quiet
 [oq 6 (.mv (.tmp 0)),oq 7 (.nilCheck (.tmp 6)),
 oq 8 (.fld 7 (.tmp 7)),
 oq 9 (.load false 1 (.tmp 8)),oq 10 (.mv (.tmp 0)),
 oq 11 (.nilCheck (.tmp 10)),
 oq 12 (.fld 4 (.tmp 11)),oq 13 (.fld 0 (.tmp 12)),
 oq 14 (.load false 1 (.tmp 13)),
 oq 15 (.mv (.tmp 0)),oq 16 (.nilCheck (.tmp 15)),
 oq 17 (.fld 0 (.tmp 16)),oq 18 (.fld 2 (.tmp 17)),
 oq 19 (.load false 1 (.tmp 18)),
 .mk (some 20) none
 (.build 291 [.int .i64 0,.int .i64 0]
 [(0,1,.tmp 14),(1,1,.tmp 19)]),
 oq 21 (.q (Qk.look 247 false) [.tmp 9,.tmp 20]),
 oq 22 (.len false (.tmp 21)),
 oq 23 (.mv (.const (.int .i64 0)))]
 [0,3,21,22,23])
 (.block 0 (.loop S220_3 [3,23] [0,21,22])))
 (.seq
 (.region
 [oq 41 (.mv (.tmp 3)),oq 2 (.mv (.tmp 41))] [2])
 .ret)))
def S220 : FnS := ⟨42,[(2,none)],S220_0⟩
theorem tr220 : trFn Try.prog 220 [] [[0],[0,3],[0,3,21,22,23],[3,23],[0,21,22],[0,3,21,22,23,24],[3],[0,21,22,23],[0,3,5,21,22,23],[0,3,5,21,22,23,35],[0,3,21,22,23],[0,3,21,22,23],[2]] = some S220 := by kernel_rfl
end Go.Proofs.Ytiipiapfnedfjaa.V
/- The text of (*parlance/meet.maker).reach$1 as a statement; no condition. -/
namespace Go.Proofs.Ytiipiapfnedfjaa.V
open Go
def S219_0 : Stmt :=
 .seq (.region [oq 3 (.box true 126 (.tmp 0))] [1,2,3])
 (.seq
 (.region
 [oq 4 (.load false 1 (.tmp 1)),
 oq 5 (.load true 3 (.tmp 3)),
 oq 6 (.q (Qk.look 256 false) [.tmp 4,.tmp 5]),
 oq 7 (.un .not (.tmp 6))]
 [1,2,3,7])
 (.cond (.tmp 7)
 (.seq
 (.region
 [oq 8 (.load false 1 (.tmp 1)),
 oq 9 (.load true 3 (.tmp 3)),
 .mk none none (.a (Qk.upd 256) [.tmp 8,.tmp 9,.const (.bool true)])]
 [2,3])
 (.region
 [oq 10 (.load false 1 (.tmp 2)),
 oq 11 (.load true 3 (.tmp 3)),
 .mk (some 12) none
 (.buildS 126 1 [.int .i64 0,.int .i64 0,.int .i64 0]
 [(0,3,.tmp 11)]),
 .mk (some 13) none
 (.append 116 126 3 24
 (.agg (Array.mk [.int .i64 0,.int .i64 0,.int .i64 0]))
 (.tmp 10) (.tmp 12)),
 .mk none none (.store 1 (.tmp 2) (.tmp 13))]
 []))
 .skip))
def S219 : FnS := ⟨14,[],S219_0⟩
theorem tr219 : trFn Try.prog 219 [3] [[1,2,3],[1,2,3,7],[2,3],[]] = some S219 := by kernel_rfl
end Go.Proofs.Ytiipiapfnedfjaa.V
namespace Go.Proofs.Ytiipiapfnedfjaa.V
open Go
set_option linter.unusedVariables false
set_option linter.unusedSimpArgs false
open Nat renaming reduceBEq → zA, reduceAdd → zB, reduceSub → zC, reduceMul → zD, reduceLeDiff → zE
open Int renaming reduceLT → zF, reduceLE → zG, reduceEq → zH, reduceNe → zI
/- What is accepted, and what is added to a row: meet's ends and reach's add walked; no condition. -/
attribute [local go_sem] e_seq e_region e_quiet e_join e_loop e_cond e_block e_exit e_ret e_skip e_fin e_kseq e_snrm e_sret e_sex e_bnrm e_bret e_bex e_rnrm e_rret e_res e_condC e_nil e_g e_mv g_mv e_pick g_pick pickC_eq e_ibin g_ibin ibinC_eq e_sbin g_sbin e_beq g_beq beqC_eq e_nilq g_nilq nilqC_sl nilqC_pt nilqC_mp e_un g_un unC_not unC_neg e_conv g_conv convC_eq e_fld g_fld fldC_ref fldC_ptr e_nilCheck g_nilCheck nilCheckC_ref nilCheckC_ptr nilCheckC_fun e_field g_field fieldC_eq e_len g_len lenC_sl lenC_str e_extract g_extract extractC_eq e_mkFunc e_build g_build e_idiv g_idiv idivC_eq e_ishift g_ishift ishiftC_eq e_idx g_idx e_idxA g_idxA e_load g_load e_loadB g_loadB atB_ref atB_v g_mkFunc loadC_ref loadC_ptr loadB_eq e_slc g_slc e_box boxC_loc boxC_esc e_alloc allocC_loc allocC_esc e_buildS e_store storeC_ref storeC_ptr storeB_eq e_append e_appz e_mk mkC_eq e_call callC_eq e_fn g_fn fnC_eq fnV_min' fnV_max' fnV_rune' e_q g_q e_a e_n g_call g_box g_alloc g_buildS g_store g_append g_mk g_a g_n g_dead e_dead e_callK e_drawn e_tree e_finJ e_tk e_tfin e_tno e_nbt_q e_nbt_qn e_nbt_a e_nbt_an e_nbt_fin e_drawnB e_bxb_nil e_bxb e_stB_none e_stB_some boxSt_store bs_mv bs_pick bs_ibin bs_idiv bs_ishift bs_sbin bs_beq bs_nilq bs_un bs_conv bs_box bs_alloc bs_build bs_buildS bs_load bs_fld bs_nilCheck bs_idx bs_idxA bs_field bs_slc bs_len bs_append bs_appz bs_mk bs_call bs_extract bs_mkFunc bs_fn bs_q bs_a bs_n bs_loadB bs_dead isBox_box e_early_nil e_early_t e_early_f e_nob_nil e_nob_none e_nob_some isBox_dead isBox_v isBox_ref e_dnil e_dk e_ek e_finB vcOps_vc1 e_dcons e_tq e_ekt e_tearly e_talt e_dearly look_nil look_c proj_nil proj_c looks_nil looks_c zip_nil zip_c val_tmp val_const val_func slv_v slv_box slv_ref slot_tmp slot_const slot_func slotL_v slotL_box slotL_ref put_some put_none updBox_c boxSet_box gd_eq slotVals_nil slotVals_c slotVals_b boxV_box boxOn_box slotsOn_nil slotsOn_c slotsOn_b resV_one resV_two vals_nil vals_c allOn_nil allOn_c partOn_nil partOn_c partVals_nil partVals_c fits_nil fits_c fillL_nil fillL_c mkv_one mkv_agg cellsV_agg cellsV_int cellsV_bool cellsV_slice cellsV_string cellsV_pointer cellsV_func cellsV_nilf cellsV_map one'_nil one'_c oc_int oc_bool oc_slice oc_string oc_pointer oc_func oc_nilf oc_map setC_eq iv_add iv_sub iv_mul iv_eql iv_neq iv_lss iv_leq iv_gtr iv_geq iok_add iok_sub iok_mul iok_eql iok_neq iok_lss iok_leq iok_gtr iok_geq pickV_bool args0_nil args0_c bnd_none bnd_some imp_bt imp_bf imp_ebt imp_ebf imp_eb1 imp_np imp_pp beq_tt beq_tf beq_ft beq_ff cond_or cond_and e_round e_meet Int.le_refl Int.toNat_zero decide_true decide_false Bool.or_false Bool.false_or Bool.true_or Bool.or_true Bool.and_false Bool.false_and Bool.bne_false Bool.bne_true beq_iff_eq Int.cast_ofNat_Int not_false_eq_true not_true_eq_false false_and and_false false_implies true_implies true_and and_true Bool.true_and Bool.and_true Bool.not_true Bool.not_false forall_const implies_true List.take_zero List.drop_zero List.take_succ_cons List.drop_succ_cons List.take_nil List.drop_nil List.length_cons List.length_nil List.nil_append List.append_nil List.cons_append Int.toNat_natCast decide_eq_true_eq decide_eq_false_iff_not cond_true cond_false and_self List.getElem?_cons_zero List.getElem?_cons_succ List.set_cons_zero List.set_cons_succ Option.some.injEq exists_eq_left' Nat.zero_add Nat.add_zero Nat.mul_one imp_self true_or or_true or_false false_or Bool.or_eq_true Bool.or_eq_false_iff Bool.and_eq_true Bool.and_eq_false_iff Bool.not_eq_true' Bool.not_eq_false'

theorem meet_ends {Γr : Ctx} {g : Gr} {d : Da} {G A B : Option Addr × Nat} {pm bm : Nat} {u : Value} {T : Int → Int → List Int} (V : VG g) (D : VD d) (hl12 : d.nx.length ≤ 12) (hTl : ∀ q n, (T q n).length ≤ 12) (hTs : ∀ q n p, p ∈ T q n → StQ d p) (hm : ∃ w, lk Γr pm (.cells (mkrC g d G A B bm u).toArray w (0, 0))) (hA : SlOk (lk Γr) A.1 A.2 d.ac) (htab : TabL (lk Γr) (lk Γr) bm T) :
  Ret Try.prog 220 [.pointer (some ⟨pm, 0, none⟩)] Γr [] (fun v Γ => ∃ gx, Γ = [gx] ∧ Bld gx (lk []) 3 v (endsL g d T)) := by
 generalize hR : (fun (v : Value) (Γ : Ctx) => ∃ gx, _) = R
 refine ret_of_vc tr220 (Nat.le_of_ble_eq_true rfl) ?_
 obtain ⟨w, hm⟩ := hm
 have hst := D.st
 have hgs := V.st
 have hns := V.ns
 have hac := D.acc
 have hmk : ∀ Γ : Ctx, Cells (Γ ++ Γr) pm 0 (mkrC g d G A B bm u) := fun Γ => cells_lk (lk_r _ _ _ _ hm)
 obtain ⟨Al, cl, hsl, hlook⟩ := htab.look (q := d.st) (n := g.st) ⟨by omega, by omega⟩ ⟨by omega, by omega⟩
 have hl := hTl d.st g.st
 have hts := hTs d.st g.st
 obtain ⟨xs, hx⟩ : ∃ xs, T d.st g.st = xs := ⟨_, rfl⟩
 have hE : endsL g d T = xs.filter fun p => decide (0 ≤ accD d p) := by rw [endsL, hx]
 rw [hx] at hsl hlook hl hts
 rw [hE] at hR
 simp -implicitDefEqProofs only [S220, S220_0, go_sem,zA,zB,zC,zD,zE,reduceCtorEq,↓reduceIte,zF,zG,zH,zI]
 refine s_ld (j := 7) (hmk _) (by simp [mkrC]) (by simp) ?_
 simp only [mkrC]
 simp -implicitDefEqProofs only [go_sem,zA,zB,zC,zD,zE,reduceCtorEq,↓reduceIte,zF,zG,zH,zI]
 refine s_ld (j := 4) (hmk _) (by simp [mkrC]) (by simp) ?_
 simp only [mkrC]
 simp -implicitDefEqProofs only [go_sem,zA,zB,zC,zD,zE,reduceCtorEq,↓reduceIte,zF,zG,zH,zI]
 refine s_ld (j := 2) (hmk _) (by simp [mkrC]) (by simp) ?_
 simp only [mkrC]
 simp -implicitDefEqProofs only [go_sem,zA,zB,zC,zD,zE,reduceCtorEq,↓reduceIte,zF,zG,zH,zI]
 refine s_q trivial hlook ?_
 simp -implicitDefEqProofs only [go_sem,zA,zB,zC,zD,zE,reduceCtorEq,↓reduceIte,zF,zG,zH,zI]
 refine s_loop (fun f vs Γ => ∃ (go : PH) (v : Value) (k : Nat), vs = [.v true v, .v true (.int .i64 k)] ∧ Γ = [go] ∧ k + f = xs.length ∧ Bld go (lk []) 3 v ((xs.take k).filter fun p => decide (0 ≤ accD d p))) xs.length
  (Up.emp (Up.here ⟨_, _, 0, rfl, rfl, by omega, by simpa using Bld.nil _ _ _⟩)) ?_
 rintro f vs Γ ⟨go, v, k, rfl, rfl, hkf, hBo⟩
 obtain ⟨Ao, co, rfl⟩ := hBo.val
 have hlo : ((xs.take k).filter fun p => decide (0 ≤ accD d p)).length ≤ 12 := by
  have h1 := List.length_filter_le (fun p => decide (0 ≤ accD d p)) (xs.take k)
  rw [List.length_take] at h1
  omega
 simp -implicitDefEqProofs only [S220_3, go_sem,zA,zB,zC,zD,zE,reduceCtorEq,↓reduceIte,zF,zG,zH,zI]
 refine ⟨fun hlt => ?_, fun hge => ?_⟩
 ·have hk : k < xs.length := by omega
  obtain ⟨b1, o1, hA1, hc1⟩ := hsl.int hk
  have hp := hts _ (List.getElem_mem hk)
  have htk := List.take_succ_eq_append_getElem hk
  obtain ⟨p, hpe⟩ : ∃ p, xs[k] = p := ⟨_, rfl⟩
  rw [hpe] at hc1 hp htk
  obtain ⟨pn, rfl⟩ : ∃ n : Nat, p = n := ⟨p.toNat, by have := hp.1; omega⟩
  have hpl : pn < d.ac.length := by have := hp.2; omega
  obtain ⟨b2, o2, hA2, hc2⟩ := hA.int hpl
  have hacc : accD d pn = d.ac[pn] := by simp [accD, hpl]
  refine s_split ?_
  simp -implicitDefEqProofs only [S220_1, S220_2, go_sem,zA,zB,zC,zD,zE,reduceCtorEq,↓reduceIte,zF,zG,zH,zI]
  refine s_idx hA1 (by omega) (by omega) ?_
  simp -implicitDefEqProofs only [go_sem,zA,zB,zC,zD,zE,reduceCtorEq,↓reduceIte,zF,zG,zH,zI]
  refine s_ld0 (hc1 _ (lk_r _ _)) (by simp) (by simp) ?_
  simp -implicitDefEqProofs only [go_sem,zA,zB,zC,zD,zE,reduceCtorEq,↓reduceIte,zF,zG,zH,zI]
  refine s_ld (j := 5) (hmk _) (by simp [mkrC]) (by simp) ?_
  simp only [mkrC]
  simp -implicitDefEqProofs only [go_sem,zA,zB,zC,zD,zE,reduceCtorEq,↓reduceIte,zF,zG,zH,zI]
  refine s_idx hA2 (by omega) (by omega) ?_
  simp -implicitDefEqProofs only [go_sem,zA,zB,zC,zD,zE,reduceCtorEq,↓reduceIte,zF,zG,zH,zI]
  refine s_ld0 (hc2 _ (lk_r _ _)) (by simp) (by simp) ?_
  simp -implicitDefEqProofs only [go_sem,zA,zB,zC,zD,zE,reduceCtorEq,↓reduceIte,zF,zG,zH,zI]
  simp (disch := omega) only [wrap_id]
  rw [← hacc]
  refine ⟨fun h => ?_, fun h => ?_⟩
  ·intro b3
   refine s_app1S (ix := 1) (pn : Int) rfl hBo cells_one rfl (by omega) (by unfold maxLen; omega) ?_
   intro v4 go' hB4 _
   simp -implicitDefEqProofs only [go_sem,zA,zB,zC,zD,zE,reduceCtorEq,↓reduceIte,zF,zG,zH,zI]
   simp (disch := omega) only [wrap_id]
   refine Up.here ⟨f - 1, by omega, Up.sel [[1]] (by decide) fun _ _ => ⟨go', _, k + 1, rfl, rfl, by omega, ?_⟩⟩
   rw [htk, List.filter_append, List.filter_cons_of_pos (by simpa using h), List.filter_nil]
   exact hB4
  ·refine Up.here ⟨f - 1, by omega, Up.here ⟨go, _, k + 1, rfl, rfl, by omega, ?_⟩⟩
   rw [htk, List.filter_append, List.filter_cons_of_neg (by simpa using h), List.filter_nil, List.append_nil]
   exact hBo
 ·have hk : k = xs.length := by omega
  rw [hk, List.take_length] at hBo ⊢
  refine Up.here ?_
  subst hR
  exact ⟨go, rfl, hBo⟩

def triK (t : Tri) : List Int := [t.1, t.2.1, t.2.2]
theorem triK_inj (a b : Tri) (h : triK a = triK b) : a = b := by
 obtain ⟨a1, a2, a3⟩ := a
 obtain ⟨b1, b2, b3⟩ := b
 simpa [triK] using h
theorem triK_mem {l : List Tri} {t : Tri} : triK t ∈ l.map triK ↔ t ∈ l := by
 rw [List.mem_map]
 constructor
 ·rintro ⟨x, hx, e⟩; rw [← triK_inj _ _ e]; exact hx
 ·exact fun h => ⟨t, h, rfl⟩
/-- a row of triples that grows, and which of them are there -/
structure RowU (bs pr : Nat) (hs cr rr : PH) (row : List Tri) : Prop where
 set : MapM hs bs intsV Value.bool (okInts 3) (mset triK row)
 row : ∃ v, cr pr = some (.cells [v].toArray 116 (0, 0)) ∧ Bld rr (lk []) 126 v row
theorem reach_add {Γr : Ctx} {ps bs pr : Nat} {hs cr rr : PH} {row : List Tri} {t : Tri} {T0 : TypeId} (hps : lk Γr ps (.cells [.map (some bs)].toArray T0 (0, 0))) (h : RowU bs pr hs cr rr row) (hl : row.length ≤ 10000) (h1 : keyI t.1) (h2 : keyI t.2.1) (h3 : keyI t.2.2) :
  Ret Try.prog 219 [.agg #[.int .i64 t.1, .int .i64 t.2.1, .int .i64 t.2.2], .pointer (some ⟨ps, 0, none⟩), .pointer (some ⟨pr, 0, none⟩)] Γr [hs, cr, rr] (fun v Γ => v = .tuple #[] ∧ ∃ hs cr rr, Γ = [hs, cr, rr] ∧ RowU bs pr hs cr rr (addU row t)) := by
 generalize hR : (fun (v : Value) (Γ : Ctx) => v = Value.tuple #[] ∧ ∃ hs cr rr, _) = R
 refine ret_of_vc tr219 (Nat.le_of_ble_eq_true rfl) ?_
 obtain ⟨hset, v0, hcr, hB⟩ := h
 obtain ⟨A0, c0, rfl⟩ := hB.val
 simp -implicitDefEqProofs only [S219, S219_0, go_sem,zA,zB,zC,zD,zE,reduceCtorEq,↓reduceIte,zF,zG,zH,zI]
 intro b
 refine s_ld0 (cells_lk (lk_r _ _ _ _ hps)) (by simp) (by simp) ?_
 simp -implicitDefEqProofs only [go_sem,zA,zB,zC,zD,zE,reduceCtorEq,↓reduceIte,zF,zG,zH,zI]
 rw [show Value.agg #[Value.int IntKind.i64 t.1, Value.int IntKind.i64 t.2.1, Value.int IntKind.i64 t.2.2] = intsV (triK t) from rfl]
 refine s_q trivial (qr_look kt_three (t := 256) (et := 4) (z := .bool false) (by kernel_rfl) (zero_run (by kernel_rfl)) false (hset.l (by simp)) (key_three h1 h2 h3)) ?_
 rw [mget_set]
 by_cases hin : t ∈ row
 ·rw [if_pos (triK_mem.2 hin)]
  simp only [Option.elim_some]
  simp -implicitDefEqProofs only [go_sem,zA,zB,zC,zD,zE,reduceCtorEq,↓reduceIte,zF,zG,zH,zI]
  refine Up.here ?_
  subst hR
  have : addU row t = row := if_pos hin
  rw [this]
  exact ⟨rfl, hs, cr, rr, rfl, hset, _, hcr, hB⟩
 ·have hni : triK t ∉ row.map triK := fun q => hin (triK_mem.1 q)
  rw [if_neg hni]
  simp only [Option.elim_none]
  simp -implicitDefEqProofs only [go_sem,zA,zB,zC,zD,zE,reduceCtorEq,↓reduceIte,zF,zG,zH,zI]
  refine s_ld0 (cells_lk (lk_r _ _ _ _ hps)) (by simp) (by simp) ?_
  simp -implicitDefEqProofs only [go_sem,zA,zB,zC,zD,zE,reduceCtorEq,↓reduceIte,zF,zG,zH,zI]
  rw [show Value.agg #[Value.int IntKind.i64 t.1, Value.int IntKind.i64 t.2.1, Value.int IntKind.i64 t.2.2] = intsV (triK t) from rfl]
  refine s_upd kt_three (t := 256) (et := 4) (ix := 0) (eV := Value.bool) (by kernel_rfl) rfl hset true (key_three h1 h2 h3) ?_
  intro hs' hset' _
  rw [mput_set triK row t hni] at hset'
  simp -implicitDefEqProofs only [go_sem,zA,zB,zC,zD,zE,reduceCtorEq,↓reduceIte,zF,zG,zH,zI]
  refine s_ld0 (cells_lk ⟨cr, by simp, hcr⟩) (by simp) (by simp) ?_
  simp -implicitDefEqProofs only [go_sem,zA,zB,zC,zD,zE,reduceCtorEq,↓reduceIte,zF,zG,zH,zI]
  intro b1
  refine s_app1 (ix := 3) (x := t) rfl hB (Mem.le.refl _) rfl cells_one rfl (by omega) (by unfold maxLen; omega) ?_
  intro v2 rr' hB2 _
  obtain ⟨A2, c2, rfl⟩ := hB2.val
  simp -implicitDefEqProofs only [go_sem,zA,zB,zC,zD,zE,reduceCtorEq,↓reduceIte,zF,zG,zH,zI]
  refine s_storeV (ix := 2) rfl hcr rfl rfl ?_
  simp -implicitDefEqProofs only [go_sem,zA,zB,zC,zD,zE,reduceCtorEq,↓reduceIte,zF,zG,zH,zI]
  refine Up.sel [[1], [2], [3]] (by decide) fun _ _ => ?_
  subst hR
  have : addU row t = row ++ [t] := if_neg hin
  rw [this]
  exact ⟨rfl, _, _, _, rfl, hset', _, upd_self _ _ _, hB2⟩
/- The text of (*parlance/meet.maker).reach$2 as a statement; no condition. -/
def S223_0 : Stmt :=
 .seq
 (.region
 [oq 2 (.box false 126 (.tmp 0)),
 oq 3 (.box false 126 (.tmp 1)),
 oq 4 (.mv (.const (.int .i64 0)))]
 [2,3])
 (.seq
 (.drawn
 [(false,oq 5 (.q (Qk.slc 126 false false false) [.tmp 2])),
 (false,oq 6 (.q (Qk.slc 126 false false false) [.tmp 3])),
 (false,oq 7 (.call (.func 104) [.tmp 5,.tmp 6])),
 (false,oq 4 (.mv (.tmp 7)))]
 [4])
 .ret)
def S223 : FnS := ⟨8,[(4,none)],S223_0⟩
theorem tr223 : trFn Try.prog 223 [] [[2,3],[4],[0,1,2,3],[],[],[],[0,1],[0,1,2]] = some S223 := by kernel_rfl
/- The order of triples: reach's comparison walked; no condition. -/
theorem qr_slcA {P : Program} {Γ : Ctx} {t e : TypeId} {n sz : Nat} {a : Addr} (ht : P.underlying t = some (.array n e)) (hs : szOf P e = some sz) : QR P (.slc t false false false) [.pointer (some a)] Γ (.slice (some a) n n) := by
 intro w _
 obtain ⟨_, ti, hti, his⟩ := szOf_some hs
 have hsz : (sizeOf e).run P w = .ok sz w := by simp [sizeOf, typeInfo, hti, his]
 have hA : (if n = 0 then a else a.add (0 * sz)) = a := by
  split
  ·rfl
  ·simp [Addr.add]
 simp [qsem, popO, Instr.sliceAt, Instr.sureAddr, Instr.sliceBounds, Instr.sliceBound, asIntOf, run_underlying ht, hsz]
 simpa using hA
def cmpT (a b : Int × Int × Int) : Int := cmpL [a.1, a.2.1, a.2.2] [b.1, b.2.1, b.2.2]
def triLt (a b : Int × Int × Int) : Prop := a.1 < b.1 ∨ (a.1 = b.1 ∧ (a.2.1 < b.2.1 ∨ (a.2.1 = b.2.1 ∧ a.2.2 < b.2.2)))
theorem cmpL_cons {a b : Int} {r s : List Int} : cmpL (a :: r) (b :: s) < 0 ↔ a < b ∨ (a = b ∧ cmpL r s < 0) := by
 have e : cmpL (a :: r) (b :: s) = if cmpI a b = 0 then cmpL r s else cmpI a b := rfl
 rw [e]
 rcases Int.lt_trichotomy a b with h | h | h
 ·have : cmpI a b = -1 := if_pos h
  rw [this]
  simp [h]
 ·subst h
  have : cmpI a a = 0 := by simp [cmpI]
  rw [this]
  simp
 ·have : cmpI a b = 1 := by rw [cmpI, if_neg (show ¬ a < b by omega), if_pos h]
  rw [this]
  simp
  omega
theorem cmpT_lt (a b : Int × Int × Int) : cmpT a b < 0 ↔ triLt a b := by
 unfold cmpT triLt
 rw [cmpL_cons, cmpL_cons, cmpL_cons]
 simp [cmpL]
theorem cmpT_ord : OrdC cmpT where
 irr x := by rw [cmpT_lt]; unfold triLt; omega
 trans x y z h1 h2 := by rw [cmpT_lt] at *; unfold triLt at *; omega
 ntrans x y z h1 h2 := by rw [cmpT_lt] at *; unfold triLt at *; omega
theorem tri_cmp {Γr : Ctx} (x y : Int × Int × Int) : Ret Try.prog 223 ([.agg #[.int .i64 x.1, .int .i64 x.2.1, .int .i64 x.2.2], .agg #[.int .i64 y.1, .int .i64 y.2.1, .int .i64 y.2.2]] ++ (#[] : Array Value).toList) Γr [] (fun v Γ => Γ = [] ∧ v = .int .i64 (cmpT x y)) := by
 generalize hR : (fun (v : Value) (Γ : Ctx) => Γ = [] ∧ _) = R
 refine ret_of_vc tr223 (Nat.le_of_ble_eq_true rfl) ?_
 simp only [List.append_nil]
 simp -implicitDefEqProofs only [S223, S223_0, go_sem,zA,zB,zC,zD,zE,reduceCtorEq,↓reduceIte,zF,zG,zH,zI]
 intro b1 b2
 refine s_q trivial (qr_slcA (n := 3) (e := 3) (sz := 1) (by kernel_rfl) (by kernel_rfl)) ?_
 simp -implicitDefEqProofs only [go_sem,zA,zB,zC,zD,zE,reduceCtorEq,↓reduceIte,zF,zG,zH,zI]
 refine s_q trivial (qr_slcA (n := 3) (e := 3) (sz := 1) (by kernel_rfl) (by kernel_rfl)) ?_
 simp -implicitDefEqProofs only [go_sem,zA,zB,zC,zD,zE,reduceCtorEq,↓reduceIte,zF,zG,zH,zI]
 have h1 : SlOk (lk [one b1 (.cells [Value.int IntKind.i64 x.1, Value.int IntKind.i64 x.2.1, Value.int IntKind.i64 x.2.2].toArray 126)]) (some ⟨b1, 0, none⟩) 3 [x.1, x.2.1, x.2.2] := lit_slok [x.1, x.2.1, x.2.2] rfl (by simp)
 have h2 : SlOk (lk [one b2 (.cells [Value.int IntKind.i64 y.1, Value.int IntKind.i64 y.2.1, Value.int IntKind.i64 y.2.2].toArray 126)]) (some ⟨b2, 0, none⟩) 3 [y.1, y.2.1, y.2.2] := lit_slok [y.1, y.2.1, y.2.2] rfl (by simp)
 refine CallVC.read (slices_compare (xs := [x.1, x.2.1, x.2.2]) (ys := [y.1, y.2.1, y.2.2]) (h1.mono (lk_sub (by simp))) (h2.mono (lk_sub (by simp)))) ?_
 rintro v Γ' ⟨rfl, rfl⟩
 simp -implicitDefEqProofs only [go_sem,zA,zB,zC,zD,zE,reduceCtorEq,↓reduceIte,zF,zG,zH,zI]
 refine Up.to [] (Ent.nil _) ?_
 subst hR
 exact ⟨rfl, rfl⟩
/- The text of (*parlance/meet.maker).reach as a statement; no condition. -/
def S161_1 : Stmt :=
 .seq
 (.region [oq 23 (.ibin .lss (.tmp 22) (.tmp 21))]
 [0,3,5,20,21,22,23])
 (.seq (.cond (.tmp 23) .skip (.exit 0))
 (.seq
 (.block 1
 (.seq
 (.region
 [oq 24 (.idx 1 (.tmp 20) (.tmp 22)),
 oq 25 (.load false 1 (.tmp 24)),
 oq 7 (.mv (.tmp 25))]
 [0,3,5,7,20,21,22])
 (.drawn
 [(false,oq 26 (.mv (.tmp 5))),
 (false,oq 27 (.mv (.tmp 0))),
 (false,oq 28 (.nilCheck (.tmp 27))),
 (false,oq 29 (.fld 4 (.tmp 28))),
 (false,oq 30 (.fld 0 (.tmp 29))),
 (false,oq 31 (.load false 1 (.tmp 30))),
 (false,oq 32 (.mv (.tmp 0))),
 (false,oq 33 (.nilCheck (.tmp 32))),
 (false,oq 34 (.fld 0 (.tmp 33))),
 (false,oq 35 (.fld 2 (.tmp 34))),
 (false,oq 36 (.load false 1 (.tmp 35))),
 (false,oq 37 (.mv (.tmp 7))),
 (false,
 .mk (some 38) none
 (.build 126 [.int .i64 0,.int .i64 0,.int .i64 0]
 [(0,1,.tmp 31),(1,1,.tmp 36),(2,1,.tmp 37)])),
 (false,oq 39 (.call (.tmp 26) [.tmp 38]))]
 [0,3,5,20,21,22])))
 (.region
 [oq 40 (.ibin .add (.tmp 22) (.const (.int .i64 1))),
 oq 22 (.mv (.tmp 40))]
 [0,3,5,20,21,22])))
def S161_2 : Stmt :=
 .block 9
 (.seq
 (.region
 [oq 98 (.mv (.tmp 96)),
 oq 99 (.idx 2 (.tmp 94) (.tmp 96)),
 oq 100 (.load true 2 (.tmp 99)),
 oq 16 (.alloc true 53 (.agg (Array.mk [.bool false,.int .i64 0]))),
 oq 15 (.mv (.tmp 98)),
 .mk none none (.store 2 (.tmp 16) (.tmp 100))]
 [0,3,5,8,9,11,14,15,16,53,54,55,87,88,89,94,95,96])
 (.seq
 (.region
 [oq 101 (.fld 0 (.tmp 16)),
 oq 102 (.load false 1 (.tmp 101)),
 oq 103 (.un .not (.tmp 102))]
 [0,3,5,8,9,11,14,15,16,53,54,55,87,88,89,94,95,96,103])
 (.cond (.tmp 103)
 (.drawn
 [(false,oq 104 (.mv (.tmp 5))),
 (false,oq 105 (.mv (.tmp 14))),
 (false,oq 106 (.mv (.tmp 15))),
 (false,oq 107 (.idx 1 (.tmp 105) (.tmp 106))),
 (false,oq 108 (.load false 1 (.tmp 107))),
 (false,oq 109 (.fld 1 (.tmp 16))),
 (false,oq 110 (.load false 1 (.tmp 109))),
 (false,oq 111 (.mv (.tmp 14))),
 (false,oq 112 (.mv (.tmp 15))),
 (false,
 .mk (some 113) none
 (.ibin .add (.tmp 112) (.const (.int .i64 1)))),
 (false,oq 114 (.idx 1 (.tmp 111) (.tmp 113))),
 (false,oq 115 (.load false 1 (.tmp 114))),
 (false,
 .mk (some 116) none
 (.build 126 [.int .i64 0,.int .i64 0,.int .i64 0]
 [(0,1,.tmp 108),(1,1,.tmp 110),(2,1,.tmp 115)])),
 (false,oq 117 (.call (.tmp 104) [.tmp 116]))]
 [0,3,5,8,9,11,14,53,54,55,87,88,89,94,95,96])
 .skip)))
def S161_3 : Stmt :=
 .region
 [oq 118 (.ibin .add (.tmp 96) (.const (.int .i64 1))),
 oq 96 (.mv (.tmp 118))]
 [0,3,5,8,9,11,14,53,54,55,87,88,89,94,95,96]
def S161_4 : Stmt :=
 .seq
 (.region [oq 97 (.ibin .lss (.tmp 96) (.tmp 95))]
 [0,3,5,8,9,11,14,53,54,55,87,88,89,94,95,96,97])
 (.seq (.cond (.tmp 97) .skip (.exit 8))
 (.join S161_2 S161_3 [] [0,3,5,8,9,11,14,53,54,55,87,88,89,94,95,96]))
def S161_5 : Stmt :=
 .seq
 (.region [oq 90 (.ibin .lss (.tmp 89) (.tmp 88))]
 [0,3,5,8,9,11,53,54,55,87,88,89,90])
 (.seq (.cond (.tmp 90) .skip (.exit 6))
 (.seq
 (.block 7
 (.seq
 (.region
 [oq 91 (.idx 1 (.tmp 87) (.tmp 89)),
 oq 92 (.load false 1 (.tmp 91)),
 oq 14 (.mv (.tmp 92))]
 [0,3,5,8,9,11,14,53,54,55,87,88,89])
 (.seq
 (.region
 [oq 93 (.fld 1 (.tmp 11)),
 oq 94 (.load false 1 (.tmp 93)),
 oq 95 (.len false (.tmp 94)),
 oq 96 (.mv (.const (.int .i64 0)))]
 [0,3,5,8,9,11,14,53,54,55,87,88,89,94,95,96])
 (.block 8 (.loop S161_4 [96] [0,3,5,8,9,11,14,53,54,55,87,88,89,94,95])))))
 (.region
 [oq 119 (.ibin .add (.tmp 89) (.const (.int .i64 1))),
 oq 89 (.mv (.tmp 119))]
 [0,3,5,8,9,11,53,54,55,87,88,89])))
def S161_6 : Stmt :=
 .block 5
 (.seq
 (.region
 [oq 57 (.idx 2 (.tmp 53) (.tmp 55)),
 oq 58 (.load true 2 (.tmp 57)),
 .mk (some 11) none
 (.alloc true 129 (.agg (Array.mk [.int .i64 0,.slice none 0 0]))),
 .mk none none (.store 2 (.tmp 11) (.tmp 58))]
 [0,3,5,8,9,11,53,54,55])
 (.seq
 (.seq
 (.quiet
 [oq 59 (.fld 0 (.tmp 11)),
 oq 60 (.load false 1 (.tmp 59)),
 oq 61 (.load false 1 (.tmp 3)),
 oq 62 (.mv (.tmp 9)),
 oq 63 (.idx 3 (.tmp 61) (.tmp 62)),
 oq 64 (.idxA 3 1 (.tmp 63) (.const (.int .i64 1))),
 oq 65 (.load false 1 (.tmp 64)),
 oq 66 (.ibin .neq (.tmp 60) (.tmp 65))]
 [0,3,5,8,9,11,53,54,55,66])
 (.cond (.tmp 66) (.exit 5) .skip))
 (.seq
 (.drawn
 [(false,oq 67 (.mv (.tmp 0))),
 (false,oq 68 (.load false 1 (.tmp 3))),
 (false,oq 69 (.mv (.tmp 9))),
 (false,oq 70 (.idx 3 (.tmp 68) (.tmp 69))),
 (false,oq 71 (.idxA 3 1 (.tmp 70) (.const (.int .i64 0)))),
 (false,oq 72 (.load false 1 (.tmp 71))),
 (false,oq 73 (.fld 1 (.tmp 11))),
 (false,oq 74 (.load false 1 (.tmp 73))),
 (false,oq 75 (.load false 1 (.tmp 3))),
 (false,oq 76 (.mv (.tmp 9))),
 (false,oq 77 (.idx 3 (.tmp 75) (.tmp 76))),
 (false,oq 78 (.idxA 3 1 (.tmp 77) (.const (.int .i64 2)))),
 (false,oq 79 (.load false 1 (.tmp 78))),
 (false,
 .mk (some 80) none
 (.call (.func 221) [.tmp 67,.tmp 72,.tmp 74,.tmp 79])),
 (false,oq 12 (.mv (.tmp 80)))]
 [0,3,5,8,9,11,12,53,54,55])
 (.seq
 (.seq
 (.region
 [oq 81 (.mv (.tmp 8)),oq 82 (.mv (.tmp 12)),
 oq 83 (.len false (.tmp 82)),
 oq 84 (.ibin .add (.tmp 81) (.tmp 83)),
 oq 8 (.mv (.tmp 84))]
 [0,3,5,8,9,11,12,53,54,55])
 (.seq
 (.region
 [oq 85 (.mv (.tmp 8)),
 .mk (some 86) none
 (.ibin .gtr (.tmp 85) (.const (.int .i64 4000)))]
 [0,3,5,8,9,11,12,53,54,55,86])
 (.cond (.tmp 86)
 (.seq (.region [oq 2 (.mv (.const (.bool false)))] [2])
 .ret)
 .skip)))
 (.seq
 (.region
 [oq 87 (.mv (.tmp 12)),
 oq 88 (.len false (.tmp 87)),
 oq 89 (.mv (.const (.int .i64 0)))]
 [0,3,5,8,9,11,53,54,55,87,88,89])
 (.block 6 (.loop S161_5 [89] [0,3,5,8,9,11,53,54,55,87,88])))))))
def S161_7 : Stmt :=
 .region
 [oq 120 (.ibin .add (.tmp 55) (.const (.int .i64 1))),
 oq 55 (.mv (.tmp 120))]
 [0,3,5,8,9,53,54,55]
def S161_8 : Stmt :=
 .seq
 (.region [oq 56 (.ibin .lss (.tmp 55) (.tmp 54))]
 [0,3,5,8,9,53,54,55,56])
 (.seq (.cond (.tmp 56) .skip (.exit 4)) (.join S161_6 S161_7 [8] [0,3,5,9,53,54,55]))
def S161_9 : Stmt :=
 .seq
 (.seq
 (.region
 [oq 43 (.mv (.tmp 9)),oq 44 (.load false 1 (.tmp 3)),
 oq 45 (.len false (.tmp 44)),
 oq 46 (.ibin .lss (.tmp 43) (.tmp 45))]
 [0,3,5,8,9,46])
 (.cond (.tmp 46) .skip (.exit 2)))
 (.seq
 (.block 3
 (.seq
 (.region
 [oq 49 (.mv (.tmp 0)),oq 50 (.nilCheck (.tmp 49)),
 oq 51 (.fld 0 (.tmp 50)),oq 52 (.fld 3 (.tmp 51)),
 oq 53 (.load false 1 (.tmp 52)),
 oq 54 (.len false (.tmp 53)),
 oq 55 (.mv (.const (.int .i64 0)))]
 [0,3,5,8,9,53,54,55])
 (.block 4 (.loop S161_8 [8,55] [0,3,5,9,53,54]))))
 (.region
 [oq 47 (.mv (.tmp 9)),
 oq 48 (.ibin .add (.tmp 47) (.const (.int .i64 1))),
 oq 9 (.mv (.tmp 48))]
 [0,3,5,8,9]))
def S161_0 : Stmt :=
 .seq (.region [oq 2 (.mv (.const (.bool false)))] [0])
 (.seq (.region [oq 3 (.alloc false 116 (.slice none 0 0))] [0,3])
 (.seq
 (.region
 [oq 17 (.n (Qk.mkmap 256) []),
 oq 4 (.alloc false 256 (.map none)),
 .mk none none (.store 1 (.tmp 4) (.tmp 17))]
 [0,3,4])
 (.seq
 (.region
 [oq 18 (.mkFunc 219 [.tmp 4,.tmp 3]),
 oq 5 (.mv (.tmp 18))]
 [0,3,5])
 (.seq
 (.seq
 (.region
 [oq 19 (.mv (.tmp 0)),
 oq 20 (.call (.func 220) [.tmp 19]),
 oq 21 (.len false (.tmp 20)),
 oq 22 (.mv (.const (.int .i64 0)))]
 [0,3,5,20,21,22])
 (.block 0 (.loop S161_1 [22] [0,3,5,20,21])))
 (.seq
 (.region
 [oq 41 (.load false 1 (.tmp 3)),
 oq 42 (.len false (.tmp 41)),
 oq 8 (.mv (.tmp 42))]
 [0,3,5,8])
 (.seq
 (.seq
 (.region [oq 9 (.mv (.const (.int .i64 0)))]
 [0,3,5,8,9])
 (.block 2 (.loop S161_9 [8,9] [0,3,5])))
 (.seq
 (.region
 [oq 121 (.load false 1 (.tmp 3)),
 oq 122 (.call (.func 222) [.tmp 121,.func 223])]
 [0,3])
 (.seq
 (.region
 [oq 123 (.mv (.tmp 0)),
 oq 124 (.load false 1 (.tmp 3)),
 oq 125 (.nilCheck (.tmp 123)),
 oq 126 (.fld 8 (.tmp 125)),
 .mk none none (.store 1 (.tmp 126) (.tmp 124))]
 [])
 (.seq (.region [oq 2 (.mv (.const (.bool true)))] [2])
 .ret)))))))))
def S161 : FnS := ⟨127,[(2,none)],S161_0⟩
theorem tr161 : trFn Try.prog 161 [11,16] [[0],[0,3],[0,3,4],[0,3,5],[0,3,5,20,21,22],[22],[0,3,5,20,21],[0,3,5,20,21,22,23],[0,3,5,7,20,21,22],[0,3,5,20,21,22],[0,1,2,3,4,5,6,7,8,9,10,11,12,13],[],[],[],[1],[1,2],[1,2,3],[1,2,3,4],[],[6],[6,7],[6,7,8],[6,7,8,9],[],[1,2,3,4,5,6,7,8,9,10,11],[0,1,2,3,4,5,6,7,8,9,10,11,12],[0,3,5,20,21,22],[0,3,5,8],[0,3,5,8,9],[8,9],[0,3,5],[0,3,5,8,9,46],[0,3,5,8,9,53,54,55],[8,55],[0,3,5,9,53,54],[0,3,5,8,9,53,54,55,56],[8],[0,3,5,9,53,54,55],[0,3,5,8,9,11,53,54,55],[0,3,5,8,9,11,53,54,55,66],[0,3,5,8,9,11,12,53,54,55],[0,1,2,3,4,5,6,7,8,9,10,11,12,13,14],[],[],[],[],[1,2],[1,2,3],[1,2,3,4],[],[6],[],[],[8,9],[8,9,10],[8,9,10,11],[0,1,2,3,4,5,6,7,8,9,10,11,12],[0,1,2,3,4,5,6,7,8,9,10,11,12,13],[0,3,5,8,9,11,12,53,54,55],[0,3,5,8,9,11,12,53,54,55,86],[2],[0,3,5,8,9,11,53,54,55,87,88,89],[89],[0,3,5,8,9,11,53,54,55,87,88],[0,3,5,8,9,11,53,54,55,87,88,89,90],[0,3,5,8,9,11,14,53,54,55,87,88,89],[0,3,5,8,9,11,14,53,54,55,87,88,89,94,95,96],[96],[0,3,5,8,9,11,14,53,54,55,87,88,89,94,95],[0,3,5,8,9,11,14,53,54,55,87,88,89,94,95,96,97],[],[0,3,5,8,9,11,14,53,54,55,87,88,89,94,95,96],[0,3,5,8,9,11,14,15,16,53,54,55,87,88,89,94,95,96],[0,3,5,8,9,11,14,15,16,53,54,55,87,88,89,94,95,96,103],[0,3,5,8,9,11,14,53,54,55,87,88,89,94,95,96],[0,1,2,3,4,5,6,7,8,9,10,11,12,13],[],[],[],[],[1,2],[1,2,3],[],[5],[],[],[8],[7,8,9],[7,8,9,10],[1,2,3,4,5,6,7,8,9,10,11],[0,1,2,3,4,5,6,7,8,9,10,11,12],[0,3,5,8,9,11,14,53,54,55,87,88,89,94,95,96],[0,3,5,8,9,11,53,54,55,87,88,89],[0,3,5,8,9,53,54,55],[0,3,5,8,9],[0,3],[],[2]] = some S161 := by kernel_rfl
/- Which nonterminals a product needs: meet's reach walked; no condition. -/
/-- what reach answers -/
def ReachR (g : Gr) (d : Da) (T : Int → Int → List Int) (G A B : Option Addr × Nat) (pm bm : Nat) (w : TypeId) (v : Value) (Γ : Ctx) : Prop :=
 (v = .bool false ∧ ∃ row n, RowI g d T row ∧ 4000 < sumC g d T row n) ∨
 (v = .bool true ∧ ∃ hk gu U cU used, Γ = [hk, gu] ∧ hk pm = some (.cells (mkrC g d G A B bm (.slice U used.length cU)).toArray w (0, 0)) ∧ SlOk (lk [gu]) U cU used ∧ used.Nodup ∧ used.Pairwise (fun a b => ¬ cmpT b a < 0) ∧ (∀ t, t ∈ used ↔ ReaQ g d T t) ∧ sumC g d T used used.length ≤ 4000)
theorem endsL_nodup {g : Gr} {d : Da} {T : Int → Int → List Int} (hI : TabI g d T) : (endsL g d T).Nodup := (srt_nodup (hI.srt _ _)).filter _
theorem SlOk.tri {L : Mem} {A : Option Addr} {c : Nat} {xs : List (Int × Int × Int)} (q : SlOk L A c xs) {i : Nat} {t : Int × Int × Int} (hi : xs[i]? = some t) :
  ∃ b o, A = some ⟨b, o, none⟩ ∧ ∀ Γ : Ctx, Mem.le L (lk Γ) → Cells Γ b (o + i * 3) [.int .i64 t.1, .int .i64 t.2.1, .int .i64 t.2.2] := by
 obtain ⟨b, o, hA, cs, h1, h2⟩ := q.elem hi
 obtain rfl := ok_tri h1
 exact ⟨b, o, hA, h2⟩
theorem perm_sum {l l' : List Nat} (h : l.Perm l') : l.sum = l'.sum := by
 induction h with
 | nil => rfl
 | cons x _ ih => simp [ih]
 | swap x y l => simp; omega
 | trans _ _ ih1 ih2 => exact ih1.trans ih2
theorem s_idxA {P : Program} {Γr : Ctx} {d : Option Nat} {r : List SOper} {φ : Fr} {Γ : Ctx} {K : Fr → Ctx → Prop} {len sz b o : Nat} {k : IntKind} {j : Int} (h0 : 0 ≤ j) (h1 : j < len)
  (hk : vcOps P Γr r (put φ d (.v true (.pointer (some ⟨b, o + j.toNat * sz, none⟩)))) Γ K) : idxAC P Γr true d r φ Γ K len sz (.v true (.pointer (some ⟨b, o, none⟩))) true (true, .int k j) :=
 ⟨fun _ => ⟨rfl, rfl, h0, h1⟩, hk⟩
set_option maxHeartbeats 4000000 in
theorem meet_reach {Γr : Ctx} {g : Gr} {d : Da} {G A B : Option Addr × Nat} {pm bm : Nat} {T : Int → Int → List Int} {hk0 : PH} {w : TypeId} (V : VG g) (D : VD d) (hT : g.ts = colsD d) (h12 : d.nx.length ≤ 12) (hI : TabI g d T) (hk0m : hk0 pm = some (.cells (mkrC g d G A B bm (.slice none 0 0)).toArray w (0, 0)))
  (hG : SlOk (lk Γr) G.1 G.2 g.rs) (hA : SlOk (lk Γr) A.1 A.2 d.ac) (hB : SlOk (lk Γr) B.1 B.2 d.nx) (htab : TabL (lk Γr) (lk Γr) bm T) :
  Ret Try.prog 161 [.pointer (some ⟨pm, 0, none⟩)] Γr [hk0] (fun v Γ => ReachR g d T G A B pm bm w v Γ) := by
 generalize hR : (fun (v : Value) (Γ : Ctx) => ReachR g d T G A B pm bm w v Γ) = R
 refine ret_of_vc tr161 (Nat.le_of_ble_eq_true rfl) ?_
 have hvl := V.len
 have hdl := D.len
 have hTl : ∀ q n, (T q n).length ≤ 12 := fun q n => srt_len (hI.srt q n) fun p hp => by have := (hI.rng q n p hp).2.2; exact ⟨this.1, by have := this.2; omega⟩
 have hTs : ∀ q n p, p ∈ T q n → StQ d p := fun q n p hp => (hI.rng q n p hp).2.2
 have hEl : (endsL g d T).length ≤ 12 := by
  have h1 := List.length_filter_le (fun p => decide (0 ≤ accD d p)) (T d.st g.st)
  have := hTl d.st g.st
  unfold endsL
  omega
 simp -implicitDefEqProofs only [S161, S161_0, go_sem,zA,zB,zC,zD,zE,reduceCtorEq,↓reduceIte,zF,zG,zH,zI]
 intro pr
 refine s_mkmap ?_
 intro bs
 simp -implicitDefEqProofs only [go_sem,zA,zB,zC,zD,zE,reduceCtorEq,↓reduceIte,zF,zG,zH,zI]
 intro ps
 refine s_storeV (ix := 0) rfl (one_self _ _) rfl rfl ?_
 simp -implicitDefEqProofs only [go_sem,zA,zB,zC,zD,zE,reduceCtorEq,↓reduceIte,zF,zG,zH,zI]
 obtain ⟨cs, hcs⟩ : ∃ cs, upd (one ps (.cells [Value.map none].toArray 256)) ps (.cells [Value.map (some bs)].toArray 256) = cs := ⟨_, rfl⟩
 have hcs1 : cs ps = some (.cells [Value.map (some bs)].toArray 256 (0, 0)) := by rw [← hcs]; exact upd_self _ _ _
 have hU0 : RowU bs pr (one bs (.map #[] 0)) (one pr (.cells [Value.slice none 0 0].toArray 116)) emp [] := ⟨MapM.new _ _ _ _, _, one_self _ _, Bld.nil _ _ _⟩
 rw [hcs]
 clear hcs
 generalize one bs (.map #[] 0) = hs0 at *
 generalize one pr (.cells [Value.slice none 0 0].toArray 116) = cr0 at *
 refine CallVC.read (meet_ends (g := g) (G := G) (A := A) (B := B) (u := .slice none 0 0) V D h12 hTl hTs ⟨w, ⟨hk0, by simp, hk0m⟩⟩ (hA.mono (lk_r _ _)) (htab.mono (lk_r _ _) (lk_r _ _))) ?_
 rintro v Γ' ⟨ge, rfl, hBe⟩
 obtain ⟨Ae, ce, rfl, hse⟩ := hBe.slok (L' := lk [ge]) (Mem.le.refl _) (lk_sub (by simp)) (by omega)
 have hEn := endsL_nodup hI
 obtain ⟨es, hes⟩ : ∃ es, endsL g d T = es := ⟨_, rfl⟩
 have hesr : ∀ p ∈ es, ReaQ g d T (d.st, g.st, p) ∧ StQ d p := fun p hp => by
  rw [← hes, endsL, List.mem_filter] at hp
  exact ⟨.start hp.1 (by simpa using hp.2), hTs _ _ _ hp.1⟩
 rw [hes] at hse hEl hEn hBe
 rw [hes]
 have hst := D.st
 have hgs := V.st
 have hns := V.ns
 have key_st : ∀ x, StQ d x → keyI x := fun x h => ⟨by have := h.1; omega, by have := h.2; omega⟩
 have key_ns : ∀ n, 0 ≤ n ∧ n < g.ns → keyI n := fun n h => ⟨by omega, by omega⟩
 simp -implicitDefEqProofs only [go_sem,zA,zB,zC,zD,zE,reduceCtorEq,↓reduceIte,zF,zG,zH,zI]
 refine s_loop (fun f vs Γ => ∃ (hs cr rr : PH) (row : List Tri) (k : Nat), vs = [.v true (.int .i64 k)] ∧ Γ = [hs, cr, rr, ge, cs, hk0] ∧ k + f = es.length ∧ RowU bs pr hs cr rr row ∧ row.Nodup ∧ row.length = k ∧ ∀ t, t ∈ row ↔ ∃ p ∈ es.take k, t = (d.st, g.st, p)) es.length
  (Up.emp (Up.sel [[3], [4], [0], [1], [2], [5]] (by decide) fun _ _ => ⟨hs0, cr0, emp, [], 0, rfl, rfl, by omega, hU0, List.nodup_nil, rfl, by simp⟩)) ?_
 rintro f vs Γ ⟨hs, cr, rr, row, k, rfl, rfl, hkf, hU, hrn, hrl, hrm⟩
 simp -implicitDefEqProofs only [S161_1, go_sem,zA,zB,zC,zD,zE,reduceCtorEq,↓reduceIte,zF,zG,zH,zI]
 refine ⟨fun hlt => ?_, fun hge => ?_⟩
 ·have hk : k < es.length := by omega
  obtain ⟨b1, o1, hA1, hc1⟩ := hse.int hk
  have htk := List.take_succ_eq_append_getElem hk
  obtain ⟨p, hp⟩ : ∃ p, es[k] = p := ⟨_, rfl⟩
  have hpr := hesr p (hp ▸ List.getElem_mem hk)
  rw [hp] at hc1 htk
  refine s_idx hA1 (by omega) (by omega) ?_
  simp -implicitDefEqProofs only [go_sem,zA,zB,zC,zD,zE,reduceCtorEq,↓reduceIte,zF,zG,zH,zI]
  refine s_ld0 (hc1 _ (lk_sub (by simp))) (by simp) (by simp) ?_
  simp -implicitDefEqProofs only [go_sem,zA,zB,zC,zD,zE,reduceCtorEq,↓reduceIte,zF,zG,zH,zI]
  refine s_ld (j := 4) (cells_lk ⟨hk0, by simp, hk0m⟩) (by simp [mkrC]) (by simp) ?_
  simp only [mkrC]
  simp -implicitDefEqProofs only [go_sem,zA,zB,zC,zD,zE,reduceCtorEq,↓reduceIte,zF,zG,zH,zI]
  refine s_ld (j := 2) (cells_lk ⟨hk0, by simp, hk0m⟩) (by simp [mkrC]) (by simp) ?_
  simp only [mkrC]
  simp -implicitDefEqProofs only [go_sem,zA,zB,zC,zD,zE,reduceCtorEq,↓reduceIte,zF,zG,zH,zI]
  refine CallVC.perm (reach_add (Γr := [cs]) (t := (d.st, g.st, p)) ⟨cs, by simp, hcs1⟩ hU (by omega) (key_st _ D.st) (key_ns _ V.st) (key_st _ hpr.2)) (List.Perm.refl _) (List.singleton_sublist.2 (by simp)) ?_
  rintro v Γ' ⟨rfl, hs', cr', rr', rfl, hU'⟩
  simp -implicitDefEqProofs only [go_sem,zA,zB,zC,zD,zE,reduceCtorEq,↓reduceIte,zF,zG,zH,zI]
  simp (disch := omega) only [wrap_id]
  have hni : (d.st, g.st, p) ∉ row := by
   rw [hrm]
   rintro ⟨p', h1, h2⟩
   simp only [Prod.mk.injEq, true_and] at h2
   subst h2
   rw [← List.take_append_drop k es, List.drop_eq_getElem_cons hk, hp] at hEn
   exact (List.nodup_append.1 hEn).2.2 p h1 p (by simp) rfl
  have hadd : addU row (d.st, g.st, p) = row ++ [(d.st, g.st, p)] := if_neg hni
  refine ⟨f - 1, by omega, Up.here ⟨hs', cr', rr', _, k + 1, rfl, rfl, by omega, hU', addU_nodup hrn, by rw [hadd]; simp; omega, fun t => ?_⟩⟩
  rw [addU_mem, hrm, htk]
  constructor
  ·rintro (⟨p', h1, h2⟩ | h)
   ·exact ⟨p', List.mem_append_left _ h1, h2⟩
   ·exact ⟨p, by simp, h⟩
  ·rintro ⟨p', h1, h2⟩
   rcases List.mem_append.1 h1 with h1 | h1
   ·exact .inl ⟨p', h1, h2⟩
   ·simp at h1; subst h1; exact .inr h2
 have hk : k = es.length := by omega
 subst hk
 rw [List.take_length] at hrm
 have hI0 : RowI g d T row := ⟨hrn, fun t ht => by obtain ⟨p, hp, rfl⟩ := (hrm t).1 ht; exact (hesr p hp).1, fun p hp => (hrm _).2 ⟨p, hes ▸ hp, rfl⟩⟩
 obtain ⟨hset, v0, hcr, hBr⟩ := hU
 obtain ⟨Ar, cr0', rfl⟩ := hBr.val
 refine s_ld0 (cells_lk ⟨cr, by simp, hcr⟩) (by simp) (by simp) ?_
 simp -implicitDefEqProofs only [go_sem,zA,zB,zC,zD,zE,reduceCtorEq,↓reduceIte,zF,zG,zH,zI]
 rw [hrl]
 have hU : RowU bs pr hs cr rr row := ⟨hset, _, hcr, hBr⟩
 have hs0e : sumC g d T row 0 = es.length := by simp [sumC, hes]
 refine s_loop (fun f vs Γ => ∃ (hs cr rr : PH) (row : List Tri) (i : Nat), vs = [.v true (.int .i64 (sumC g d T row i : Nat)), .v true (.int .i64 i)] ∧ Γ = [hs, cr, rr, ge, cs, hk0] ∧ i + f = 1441 ∧ i ≤ row.length ∧ RowU bs pr hs cr rr row ∧ RowI g d T row ∧ sumC g d T row i ≤ 4000 ∧ ∀ (i' : Nat) (t : Tri), i' < i → row[i']? = some t → ClsK g d T row t g.rs.length) 1441
  (Up.here ⟨hs, cr, rr, row, 0, by rw [hs0e]; rfl, rfl, by omega, by omega, hU, hI0, by omega, fun i' t h => by omega⟩) ?_
 clear hU hcr hBr hset hI0 hrm hrn hrl hs0e
 rintro f vs Γ ⟨hs, cr, rr, row, i, rfl, rfl, hif, hil, hU, hRI, hsum, hcls⟩
 have hrow := hRI.len V D hT h12 hI
 obtain ⟨hset, v0, hcr, hBr⟩ := hU
 obtain ⟨Ar, cr0', rfl⟩ := hBr.val
 have hU : RowU bs pr hs cr rr row := ⟨hset, _, hcr, hBr⟩
 simp -implicitDefEqProofs only [S161_9, go_sem,zA,zB,zC,zD,zE,reduceCtorEq,↓reduceIte,zF,zG,zH,zI]
 refine s_ld0 (cells_lk ⟨cr, by simp, hcr⟩) (by simp) (by simp) ?_
 simp -implicitDefEqProofs only [go_sem,zA,zB,zC,zD,zE,reduceCtorEq,↓reduceIte,zF,zG,zH,zI]
 refine ⟨fun hlt => ?_, fun hge => ?_⟩
 ·have hi : i < row.length := by omega
  obtain ⟨t, ht⟩ : ∃ t, row[i] = t := ⟨_, rfl⟩
  have hti : row[i]? = some t := by rw [List.getElem?_eq_getElem hi, ht]
  have htm : t ∈ row := ht ▸ List.getElem_mem hi
  have htr := hRI.rea t htm
  obtain ⟨ht1, ht2, ht3⟩ := rea_st V D hT hTs htr
  refine s_ld (j := 3) (cells_lk ⟨hk0, by simp, hk0m⟩) (by simp [mkrC]) (by simp) ?_
  simp only [mkrC]
  simp -implicitDefEqProofs only [go_sem,zA,zB,zC,zD,zE,reduceCtorEq,↓reduceIte,zF,zG,zH,zI]
  refine s_loop (fun f1 vs Γ => ∃ (hs cr rr : PH) (row : List Tri) (j : Nat), vs = [.v true (.int .i64 (sumC g d T row i + cntK g d T t j : Nat)), .v true (.int .i64 j)] ∧ Γ = [hs, cr, rr, ge, cs, hk0] ∧ j + f1 = g.rs.length ∧ RowU bs pr hs cr rr row ∧ RowI g d T row ∧ sumC g d T row i + cntK g d T t j ≤ 4000 ∧ (∀ (i' : Nat) (t : Tri), i' < i → row[i']? = some t → ClsK g d T row t g.rs.length) ∧ row[i]? = some t ∧ ClsK g d T row t j) g.rs.length
   (Up.here ⟨hs, cr, rr, row, 0, by rw [show cntK g d T t 0 = 0 by simp [cntK], Nat.add_zero]; rfl, rfl, by omega, hU, hRI, by simpa [cntK] using hsum, hcls, hti, fun j r h => by omega⟩) ?_
  clear hU hcr hBr hset hcls hRI hti htm hrow ht hi hil hsum hlt
  rintro f1 vs Γ ⟨hs, cr, rr, row, j, rfl, rfl, hjf, hU, hRI, hsum, hcls, hti, hclk⟩
  have hrow := hRI.len V D hT h12 hI
  obtain ⟨hset, v0, hcr, hBr⟩ := hU
  obtain ⟨Ar, cr0', rfl, hsr⟩ := hBr.slok (L' := lk [rr]) (Mem.le.refl _) (lk_sub (by simp)) (by omega)
  have hU : RowU bs pr hs cr rr row := ⟨hset, _, hcr, hBr⟩
  have hi : i < row.length := (List.getElem?_eq_some_iff.1 hti).1
  obtain ⟨br, orr, hAr, hcr2⟩ := hsr.tri hti
  simp -implicitDefEqProofs only [S161_8, go_sem,zA,zB,zC,zD,zE,reduceCtorEq,↓reduceIte,zF,zG,zH,zI]
  refine ⟨fun hlt => ?_, fun hge => ?_⟩
  ·have hj : j < g.rs.length := by omega
   obtain ⟨b1, o1, hA1, A2, c2, hs2, hc2⟩ := hG.ru hj
   obtain ⟨r, hr⟩ : ∃ r, g.rs[j] = r := ⟨_, rfl⟩
   have hrm : r ∈ g.rs := hr ▸ List.getElem_mem hj
   have hrj : g.rs[j]? = some r := by rw [List.getElem?_eq_getElem hj, hr]
   have hck := cntK_succ (d := d) (T := T) (t := t) hj
   rw [hr] at hs2 hc2 hck
   refine s_split ?_
   simp -implicitDefEqProofs only [S161_6, S161_7, go_sem,zA,zB,zC,zD,zE,reduceCtorEq,↓reduceIte,zF,zG,zH,zI]
   refine s_idx hA1 (by omega) (by omega) ?_
   simp -implicitDefEqProofs only [go_sem,zA,zB,zC,zD,zE,reduceCtorEq,↓reduceIte,zF,zG,zH,zI]
   refine s_ld0 (hc2 _ (lk_r _ _)) (by simp) (by simp) ?_
   simp -implicitDefEqProofs only [go_sem,zA,zB,zC,zD,zE,reduceCtorEq,↓reduceIte,zF,zG,zH,zI]
   intro b3
   refine s_ld0 (cells_lk ⟨cr, by simp, hcr⟩) (by simp) (by simp) ?_
   simp -implicitDefEqProofs only [go_sem,zA,zB,zC,zD,zE,reduceCtorEq,↓reduceIte,zF,zG,zH,zI]
   refine s_idx hAr (by omega) (by omega) ?_
   simp -implicitDefEqProofs only [go_sem,zA,zB,zC,zD,zE,reduceCtorEq,↓reduceIte,zF,zG,zH,zI]
   refine s_idxA (by omega) (by omega) ?_
   simp -implicitDefEqProofs only [go_sem,zA,zB,zC,zD,zE,reduceCtorEq,↓reduceIte,zF,zG,zH,zI]
   refine s_ld (j := 1) (hcr2 _ (lk_sub (by simp))) (by simp) (by simp) ?_
   simp -implicitDefEqProofs only [go_sem,zA,zB,zC,zD,zE,reduceCtorEq,↓reduceIte,zF,zG,zH,zI]
   refine ⟨fun hne => ?_, fun heq => ?_⟩
   ·simp (disch := omega) only [wrap_id]
    rw [if_neg hne, Nat.add_zero] at hck
    refine Up.here ⟨f1 - 1, by omega, Up.here ⟨hs, cr, rr, row, j + 1, by rw [hck]; rfl, rfl, by omega, hU, hRI, by rw [hck]; exact hsum, hcls, hti, fun j' r' h1 h2 h3 => ?_⟩⟩
    rcases Nat.lt_or_ge j' j with z | z
    ·exact hclk j' r' z h2 h3
    ·have : j' = j := by omega
     subst this
     rw [hrj] at h2
     cases h2
     exact absurd h3 hne
   rw [if_pos heq] at hck
   refine s_ld0 (cells_lk ⟨cr, by simp, hcr⟩) (by simp) (by simp) ?_
   simp -implicitDefEqProofs only [go_sem,zA,zB,zC,zD,zE,reduceCtorEq,↓reduceIte,zF,zG,zH,zI]
   refine s_idx hAr (by omega) (by omega) ?_
   simp -implicitDefEqProofs only [go_sem,zA,zB,zC,zD,zE,reduceCtorEq,↓reduceIte,zF,zG,zH,zI]
   refine s_idxA (by omega) (by omega) ?_
   simp -implicitDefEqProofs only [go_sem,zA,zB,zC,zD,zE,reduceCtorEq,↓reduceIte,zF,zG,zH,zI]
   refine s_ld (j := 0) (hcr2 _ (lk_sub (by simp))) (by simp) (by simp) ?_
   simp -implicitDefEqProofs only [go_sem,zA,zB,zC,zD,zE,reduceCtorEq,↓reduceIte,zF,zG,zH,zI]
   refine s_ld0 (cells_lk ⟨cr, by simp, hcr⟩) (by simp) (by simp) ?_
   simp -implicitDefEqProofs only [go_sem,zA,zB,zC,zD,zE,reduceCtorEq,↓reduceIte,zF,zG,zH,zI]
   refine s_idx hAr (by omega) (by omega) ?_
   simp -implicitDefEqProofs only [go_sem,zA,zB,zC,zD,zE,reduceCtorEq,↓reduceIte,zF,zG,zH,zI]
   refine s_idxA (by omega) (by omega) ?_
   simp -implicitDefEqProofs only [go_sem,zA,zB,zC,zD,zE,reduceCtorEq,↓reduceIte,zF,zG,zH,zI]
   refine s_ld (j := 2) (hcr2 _ (lk_sub (by simp))) (by simp) (by simp) ?_
   simp -implicitDefEqProofs only [go_sem,zA,zB,zC,zD,zE,reduceCtorEq,↓reduceIte,zF,zG,zH,zI]
   have hrs := V.sym r hrm
   have hr4 := V.right r hrm
   refine CallVC.read (meet_ways (g := g) (G := G) (A := A) (B := B) (u := .slice none 0 0) D hT hTl (fun q n => srt_nodup (hI.srt q n)) hTs r.r ⟨w, ⟨hk0, by simp, hk0m⟩⟩ (hB.mono (lk_r _ _)) (htab.mono (lk_r _ _) (lk_r _ _)) (hs2.mono (lk_r _ _)) ht1 hr4 (fun s hs => ⟨(hrs s hs).1, (hrs s hs).2.1, fun h => by have := (hrs s hs).2.2 h; omega⟩)) ?_
   rintro v Γ' ⟨gw, Aw, cw, rfl, rfl, hsw⟩
   have hwl := ways_le (d := d) hTl (fun q n => srt_nodup (hI.srt q n)) hr4 t.1 t.2.2
   have hwe : ∀ x ∈ waysF T d r.r t.1 t.2.2, x.length = r.r.length := fun x hx => ways_len4 hx
   have hwr : ∀ x ∈ waysF T d r.r t.1 t.2.2, ∀ t' ∈ triL r.r t.1 x, ReaQ g d T t' := fun x hx t' ht' => .step (hRI.rea t (List.mem_of_getElem? hti)) hrm heq hx ht'
   have hcl1 : ∀ row', (∀ x ∈ waysF T d r.r t.1 t.2.2, ∀ t' ∈ triL r.r t.1 x, t' ∈ row') → ClsK g d T row' t j → ClsK g d T row' t (j + 1) := fun row' h1 h2 j' r' h3 h4 h5 => by
    rcases Nat.lt_or_ge j' j with z | z
    ·exact h2 j' r' z h4 h5
    ·have : j' = j := by omega
     subst this
     rw [hrj] at h4
     cases h4
     exact h1
   obtain ⟨ws, hws⟩ : ∃ ws, waysF T d r.r t.1 t.2.2 = ws := ⟨_, rfl⟩
   rw [hws] at hck hsw hwl hwe hwr hcl1
   rw [hws]
   simp -implicitDefEqProofs only [go_sem,zA,zB,zC,zD,zE,reduceCtorEq,↓reduceIte,zF,zG,zH,zI]
   simp (disch := omega) only [wrap_id]
   refine ⟨fun hgt => ?_, fun hgt => ?_⟩
   ·refine Up.to [] (Ent.nil _) ?_
    subst hR
    refine .inl ⟨rfl, row, i + 1, hRI, ?_⟩
    rw [sumC_succ hti]
    have := cntK_le (g := g) (d := d) (T := T) (t := t) (j + 1)
    omega
   have hS0 : sumC g d T row i + cntK g d T t j + ws.length ≤ 4000 := by omega
   obtain ⟨S1, hS1⟩ : ∃ S1, sumC g d T row i = S1 := ⟨_, rfl⟩
   rw [hS1] at hS0 ⊢
   refine s_loop (fun f2 vs Γ => ∃ (hs cr rr : PH) (row : List Tri) (m : Nat), vs = [.v true (.int .i64 m)] ∧ Γ = [gw, hs, cr, rr, ge, cs, hk0] ∧ m + f2 = ws.length ∧ RowU bs pr hs cr rr row ∧ RowI g d T row ∧ sumC g d T row i = S1 ∧ (∀ (i' : Nat) (t : Tri), i' < i → row[i']? = some t → ClsK g d T row t g.rs.length) ∧ row[i]? = some t ∧ ClsK g d T row t j ∧ ∀ x ∈ ws.take m, ∀ t' ∈ triL r.r t.1 x, t' ∈ row) ws.length
    (Up.here ⟨hs, cr, rr, row, 0, rfl, rfl, by omega, hU, hRI, hS1, hcls, hti, hclk, by simp⟩) ?_
   clear hU hcr hBr hset hcls hRI hti hclk hrow hsum hS1 hsr hcr2 hAr hi
   rintro f2 vs Γ ⟨hs, cr, rr, row, m, rfl, rfl, hmf, hU, hRI, hS1, hcls, hti, hclk, hdone⟩
   simp -implicitDefEqProofs only [S161_5, go_sem,zA,zB,zC,zD,zE,reduceCtorEq,↓reduceIte,zF,zG,zH,zI]
   refine ⟨fun hlt2 => ?_, fun hge2 => ?_⟩
   ·have hm : m < ws.length := by omega
    have htkm := List.take_succ_eq_append_getElem hm
    have hwm := List.getElem_mem hm
    obtain ⟨b5, o5, hA5, A6, c6, hs6, hc6⟩ := hsw.list (i := m) (by simpa using hm)
    simp only [List.getElem_map] at hs6 hc6
    obtain ⟨x, hx⟩ : ∃ x, ws[m] = x := ⟨_, rfl⟩
    rw [hx] at htkm hwm hs6 hc6
    have hxl := hwe x hwm
    have hxr := hwr x hwm
    simp only [List.length_cons] at hc6
    refine s_idx hA5 (by omega) (by omega) ?_
    simp -implicitDefEqProofs only [go_sem,zA,zB,zC,zD,zE,reduceCtorEq,↓reduceIte,zF,zG,zH,zI]
    refine s_ld0 (hc6 _ (lk_sub (by simp))) (by simp) (by simp) ?_
    simp -implicitDefEqProofs only [go_sem,zA,zB,zC,zD,zE,reduceCtorEq,↓reduceIte,zF,zG,zH,zI]
    refine s_loop (fun f3 vs Γ => ∃ (hs cr rr : PH) (row : List Tri) (k : Nat), vs = [.v true (.int .i64 k)] ∧ Γ = [gw, hs, cr, rr, ge, cs, hk0] ∧ k + f3 = r.r.length ∧ RowU bs pr hs cr rr row ∧ RowI g d T row ∧ sumC g d T row i = S1 ∧ (∀ (i' : Nat) (t : Tri), i' < i → row[i']? = some t → ClsK g d T row t g.rs.length) ∧ row[i]? = some t ∧ ClsK g d T row t j ∧ (∀ x ∈ ws.take m, ∀ t' ∈ triL r.r t.1 x, t' ∈ row) ∧ ∀ k', k' < k → (r.r.getD k' ⟨true, 0⟩).t = false → triW r.r (t.1 :: x) k' ∈ row) r.r.length
     (Up.here ⟨hs, cr, rr, row, 0, rfl, rfl, by omega, hU, hRI, hS1, hcls, hti, hclk, hdone, fun k' h => by omega⟩) ?_
    clear hU hcls hRI hti hclk hS1 hdone
    rintro f3 vs Γ ⟨hs, cr, rr, row, k, rfl, rfl, hkf, hU, hRI, hS1, hcls, hti, hclk, hdone, hpart⟩
    simp -implicitDefEqProofs only [S161_4, go_sem,zA,zB,zC,zD,zE,reduceCtorEq,↓reduceIte,zF,zG,zH,zI]
    refine ⟨fun hlt3 => ?_, fun hge3 => ?_⟩
    ·have hk : k < r.r.length := by omega
     obtain ⟨b7, o7, hA7, hc7⟩ := hs2.sy hk
     have hgd : r.r.getD k ⟨true, 0⟩ = r.r[k] := by simp [hk]
     obtain ⟨s, hs'⟩ : ∃ s, r.r[k] = s := ⟨_, rfl⟩
     rw [hs'] at hc7 hgd
     have hrow := hRI.len V D hT h12 hI
     refine s_split ?_
     simp -implicitDefEqProofs only [S161_2, S161_3, go_sem,zA,zB,zC,zD,zE,reduceCtorEq,↓reduceIte,zF,zG,zH,zI]
     refine s_idx hA7 (by omega) (by omega) ?_
     simp -implicitDefEqProofs only [go_sem,zA,zB,zC,zD,zE,reduceCtorEq,↓reduceIte,zF,zG,zH,zI]
     refine s_ld0 (hc7 _ (lk_sub fun x hx => by simp [hx])) (by simp) (by simp) ?_
     simp -implicitDefEqProofs only [go_sem,zA,zB,zC,zD,zE,reduceCtorEq,↓reduceIte,zF,zG,zH,zI]
     intro b8
     have hfin : ∀ row' : List Tri, (∀ x ∈ row, x ∈ row') → (s.t = false → triW r.r (t.1 :: x) k ∈ row') → ∀ k', k' < k + 1 → (r.r.getD k' ⟨true, 0⟩).t = false → triW r.r (t.1 :: x) k' ∈ row' := fun row' h1 h2 k' h3 h4 => by
      rcases Nat.lt_or_ge k' k with z | z
      ·exact h1 _ (hpart k' z h4)
      ·have : k' = k := by omega
       subst this
       rw [hgd] at h4
       exact h2 h4
     refine ⟨fun hst0 => ?_, fun hst1 => ?_⟩
     ·have hwl1 : k < (t.1 :: x).length := by simp; omega
      have hwl2 : k + 1 < (t.1 :: x).length := by simp; omega
      obtain ⟨b9, o9, hA9, hc9⟩ := hs6.int hwl1
      obtain ⟨b10, o10, hA10, hc10⟩ := hs6.int hwl2
      obtain ⟨p1, hp1⟩ : ∃ p, (t.1 :: x)[k] = p := ⟨_, rfl⟩
      obtain ⟨p2, hp2⟩ : ∃ p, (t.1 :: x)[k + 1] = p := ⟨_, rfl⟩
      rw [hp1] at hc9
      rw [hp2] at hc10
      have htw : triW r.r (t.1 :: x) k = (p1, s.n, p2) := by
       unfold triW
       rw [hgd, List.getD_eq_getElem?_getD, List.getD_eq_getElem?_getD, List.getElem?_eq_getElem hwl1, List.getElem?_eq_getElem hwl2, hp1, hp2]
       rfl
      have htr' : ReaQ g d T (p1, s.n, p2) := hxr _ ((triL_at hxl _).2 ⟨k, hk, by rw [hgd]; exact hst0, htw.symm⟩)
      obtain ⟨hk1, hk2, hk3⟩ := rea_st V D hT hTs htr'
      refine s_idx hA9 (by omega) (by simp; omega) ?_
      simp -implicitDefEqProofs only [go_sem,zA,zB,zC,zD,zE,reduceCtorEq,↓reduceIte,zF,zG,zH,zI]
      refine s_ld0 (hc9 _ (lk_sub (by simp))) (by simp) (by simp) ?_
      simp -implicitDefEqProofs only [go_sem,zA,zB,zC,zD,zE,reduceCtorEq,↓reduceIte,zF,zG,zH,zI]
      simp (disch := omega) only [wrap_id]
      refine s_idx hA10 (by omega) (by simp; omega) ?_
      simp -implicitDefEqProofs only [go_sem,zA,zB,zC,zD,zE,reduceCtorEq,↓reduceIte,zF,zG,zH,zI]
      refine s_ld0 (hc10 _ (lk_sub (by simp))) (by simp) (by simp) ?_
      simp -implicitDefEqProofs only [go_sem,zA,zB,zC,zD,zE,reduceCtorEq,↓reduceIte,zF,zG,zH,zI]
      refine CallVC.perm (reach_add (Γr := [cs]) (t := (p1, s.n, p2)) ⟨cs, by simp, hcs1⟩ hU (by omega) (key_st _ hk1) (key_ns _ hk2) (key_st _ hk3)) ((List.perm_append_comm (l₁ := [gw]) (l₂ := [hs, cr, rr])).append_right [ge, cs, hk0]) (List.singleton_sublist.2 (by simp)) ?_
      rintro v Γ' ⟨rfl, hs', cr', rr', rfl, hU'⟩
      have hmono : ∀ y ∈ row, y ∈ addU row (p1, s.n, p2) := fun y hy => addU_mem.2 (.inl hy)
      have hil : i < row.length := (List.getElem?_eq_some_iff.1 hti).1
      simp -implicitDefEqProofs only [go_sem,zA,zB,zC,zD,zE,reduceCtorEq,↓reduceIte,zF,zG,zH,zI]
      refine Up.here ⟨f3 - 1, by omega, Up.sel [[3], [0], [1], [2], [4], [5], [6]] (by decide) fun _ _ => ⟨hs', cr', rr', _, k + 1, rfl, rfl, by omega, hU', hRI.add htr', by rw [sumC_add (by omega)]; exact hS1, fun i' t' h1 h2 => ?_, by rw [addU_pre hil]; exact hti, hclk.mono hmono, fun y hy t' ht' => hmono _ (hdone y hy t' ht'), hfin _ hmono fun _ => by rw [htw]; exact addU_mem.2 (.inr rfl)⟩⟩
      rw [addU_pre (by omega)] at h2
      exact (hcls i' t' h1 h2).mono hmono
     ·simp (disch := omega) only [wrap_id]
      refine Up.here ⟨f3 - 1, by omega, Up.here ⟨hs, cr, rr, row, k + 1, rfl, rfl, by omega, hU, hRI, hS1, hcls, hti, hclk, hdone, hfin row (fun _ h => h) fun h => by rw [hst1] at h; cases h⟩⟩
    ·have hk : k = r.r.length := by omega
     simp (disch := omega) only [wrap_id]
     refine ⟨f2 - 1, by omega, Up.here ⟨hs, cr, rr, row, m + 1, rfl, rfl, by omega, hU, hRI, hS1, hcls, hti, hclk, fun y hy t' ht' => ?_⟩⟩
     rw [htkm] at hy
     rcases List.mem_append.1 hy with hy | hy
     ·exact hdone y hy t' ht'
     ·simp at hy
      subst hy
      obtain ⟨k', h1, h2, rfl⟩ := (triL_at hxl t').1 ht'
      exact hpart k' (by omega) h2
   ·have hm : m = ws.length := by omega
    rw [hm, List.take_length] at hdone
    simp (disch := omega) only [wrap_id]
    refine Up.here ⟨f1 - 1, by omega, Up.sel [[1], [2], [3], [4], [5], [6]] (by decide) fun _ _ => ⟨hs, cr, rr, row, j + 1, by rw [hck, hS1, ← Nat.add_assoc, Int.natCast_add (S1 + _)]; rfl, rfl, by omega, hU, hRI, by omega, hcls, hti, hcl1 row hdone hclk⟩⟩
  ·have hj : j = g.rs.length := by omega
   subst hj
   rw [cntK_all] at hsum ⊢
   rw [← sumC_succ hti] at hsum ⊢
   simp (disch := omega) only [wrap_id]
   refine ⟨f - 1, by omega, Up.here ⟨hs, cr, rr, row, i + 1, rfl, rfl, by omega, by omega, hU, hRI, hsum, fun i' t' h1 h2 => ?_⟩⟩
   rcases Nat.lt_or_ge i' i with z | z
   ·exact hcls i' t' z h2
   ·have : i' = i := by omega
    subst this
    rw [hti] at h2
    cases h2
    exact hclk
 ·have hi : i = row.length := by omega
  subst hi
  refine s_ld0 (cells_lk ⟨cr, by simp, hcr⟩) (by simp) (by simp) ?_
  simp -implicitDefEqProofs only [go_sem,zA,zB,zC,zD,zE,reduceCtorEq,↓reduceIte,zF,zG,zH,zI]
  have eg : ∀ args w, (callFunc 223 args).run Try.prog w = .ok (.enter 223 args) w := enters_of Try.func223 (by kernel_rfl) rfl
  refine CallVC.perm (sort_tris (Γr := []) cmpT_ord eg (fun x y => tri_cmp x y) hBr (by omega)) ((List.perm_append_comm (l₁ := [hs, cr]) (l₂ := [rr])).append_right [ge, cs, hk0]) (List.nil_sublist _) ?_
  rintro v Γ' ⟨rfl, rr', ys, rfl, hperm, hsorted, hBy, _⟩
  have hyl : ys.length = row.length := hperm.length_eq
  rw [← hyl] at hBy
  simp -implicitDefEqProofs only [go_sem,zA,zB,zC,zD,zE,reduceCtorEq,↓reduceIte,zF,zG,zH,zI]
  refine s_ld0 (cells_lk ⟨cr, by simp, hcr⟩) (by simp) (by simp) ?_
  simp -implicitDefEqProofs only [go_sem,zA,zB,zC,zD,zE,reduceCtorEq,↓reduceIte,zF,zG,zH,zI]
  rw [← hyl]
  obtain ⟨Ay, cy, ey, hsy⟩ := hBy.slok (L' := lk [rr']) (Mem.le.refl _) (lk_sub (by simp)) (by omega)
  simp only [Value.slice.injEq, true_and] at ey
  obtain ⟨rfl, rfl⟩ := ey
  refine s_storeF (ix := 5) rfl hk0m (by simp [mkrC]) ?_
  simp -implicitDefEqProofs only [go_sem,zA,zB,zC,zD,zE,reduceCtorEq,↓reduceIte,zF,zG,zH,zI]
  refine Up.sel [[5], [0]] (by decide) fun _ _ => ?_
  subst hR
  refine .inr ⟨rfl, _, _, Ar, cr0', ys, rfl, ?_, hsy, hperm.nodup_iff.2 hRI.nodup, hsorted, fun t => ?_, ?_⟩
  ·exact upd_self _ _ _
  ·rw [hperm.mem_iff]
   refine rea_of hRI.rea hRI.start (fun t ht r hr hl xs hxs t' ht' => ?_) t
   obtain ⟨i', hi', rfl⟩ := List.getElem_of_mem ht
   obtain ⟨j', hj', rfl⟩ := List.getElem_of_mem hr
   exact hcls i' _ hi' (List.getElem?_eq_getElem hi') j' _ hj' (List.getElem?_eq_getElem hj') hl xs hxs t' ht'
  ·have e1 : sumC g d T ys ys.length = sumC g d T row row.length := by
    unfold sumC
    rw [List.take_length, List.take_length, perm_sum (hperm.map _)]
   rw [e1]
   exact hsum
/- The rules of a product, made one after another; the plain law; no condition. -/
theorem symW_len {num : Tri → Int} : ∀ {l : List Sy} {q : Int} {xs : List Int}, xs.length = l.length → (symW num l q xs).length = l.length
 | [], q, xs, h => by simp [symW]
 | s :: l, q, [], h => by simp at h
 | s :: l, q, x :: xs, h => by
  simp only [symW, List.length_cons]
  rw [symW_len (by simpa using h)]
theorem symW_at {num : Tri → Int} : ∀ {l : List Sy} {q : Int} {xs : List Int} (k : Nat) (hl : xs.length = l.length) (hk : k < l.length), (symW num l q xs)[k]? = some (if l[k].t = true then l[k] else ⟨false, num (triW l (q :: xs) k)⟩)
 | [], q, xs, k, h, hk => by simp at hk
 | s :: l, q, [], k, h, hk => by simp at h
 | s :: l, q, x :: xs, 0, h, hk => by simp [symW, triW]
 | s :: l, q, x :: xs, k + 1, h, hk => by
  simp only [symW, List.getElem?_cons_succ, List.getElem_cons_succ]
  rw [symW_at k (by simpa using h) (by simpa using hk)]
  simp [triW]
theorem symW_take {num : Tri → Int} {l : List Sy} {q : Int} {xs : List Int} {k : Nat} (hl : xs.length = l.length) (hk : k < l.length) : (symW num l q xs).take (k + 1) = (symW num l q xs).take k ++ [if l[k].t = true then l[k] else ⟨false, num (triW l (q :: xs) k)⟩] := by
 have h1 := symW_at (num := num) (q := q) k hl hk
 obtain ⟨h2, h3⟩ := List.getElem?_eq_some_iff.1 h1
 rw [List.take_succ_eq_append_getElem h2, h3]
/-- what so many rules of the grammar give for a nonterminal of the product -/
def rulK (g : Gr) (d : Da) (T : Int → Int → List Int) (num : Tri → Int) (t : Tri) (k : Nat) : List (Ru × Int) :=
 (g.rs.zipIdx.take k).flatMap fun ri => if ri.1.l = t.2.1 then (waysF T d ri.1.r t.1 t.2.2).map fun xs => (⟨num t, symW num ri.1.r t.1 xs⟩, (ri.2 : Int)) else []
theorem rulK_succ {g : Gr} {d : Da} {T : Int → Int → List Int} {num : Tri → Int} {t : Tri} {k : Nat} (hk : k < g.rs.length) : rulK g d T num t (k + 1) = rulK g d T num t k ++ if g.rs[k].l = t.2.1 then (waysF T d g.rs[k].r t.1 t.2.2).map fun xs => (⟨num t, symW num g.rs[k].r t.1 xs⟩, (k : Int)) else [] := by
 unfold rulK
 rw [List.take_succ_eq_append_getElem (by simpa using hk), List.flatMap_append]
 simp
theorem rulK_all {g : Gr} {d : Da} {T : Int → Int → List Int} {num : Tri → Int} {t : Tri} : rulK g d T num t g.rs.length = rulesT g d T num t := by
 unfold rulK rulesT
 rw [List.take_of_length_le (by simp)]
theorem rulK_len {g : Gr} {d : Da} {T : Int → Int → List Int} {num : Tri → Int} {t : Tri} : ∀ {k : Nat}, k ≤ g.rs.length → (rulK g d T num t k).length = cntK g d T t k
 | 0, _ => by simp [rulK, cntK]
 | k + 1, h => by
  rw [rulK_succ (by omega), cntK_succ (by omega), List.length_append, rulK_len (by omega)]
  split <;> simp
def rulP (g : Gr) (d : Da) (T : Int → Int → List Int) (num : Tri → Int) (used : List Tri) (n : Nat) : List (Ru × Int) := startR g d T num ++ (used.take n).flatMap (rulesT g d T num)
theorem rulP_succ {g : Gr} {d : Da} {T : Int → Int → List Int} {num : Tri → Int} {used : List Tri} {n : Nat} {t : Tri} (h : used[n]? = some t) : rulP g d T num used (n + 1) = rulP g d T num used n ++ rulesT g d T num t := by
 obtain ⟨hn, rfl⟩ := List.getElem?_eq_some_iff.1 h
 unfold rulP
 rw [List.take_succ_eq_append_getElem hn, List.flatMap_append, ← List.append_assoc]
 simp
theorem rulP_all {g : Gr} {d : Da} {T : Int → Int → List Int} {num : Tri → Int} {used : List Tri} : rulP g d T num used used.length = rulesP g d T num used := by
 unfold rulP rulesP
 rw [List.take_length]
theorem rulP_len {g : Gr} {d : Da} {T : Int → Int → List Int} {num : Tri → Int} {used : List Tri} : ∀ {n : Nat}, n ≤ used.length → (rulP g d T num used n).length = sumC g d T used n
 | 0, _ => by simp [rulP, sumC, startR]
 | n + 1, h => by
  have ht : used[n]? = some used[n] := List.getElem?_eq_getElem (by omega)
  rw [rulP_succ ht, sumC_succ ht, List.length_append, rulP_len (by omega), ← rulK_all, rulK_len (Nat.le_refl _), cntK_all]
theorem sumC_le {g : Gr} {d : Da} {T : Int → Int → List Int} {used : List Tri} {n m : Nat} (h : n ≤ m) : sumC g d T used n ≤ sumC g d T used m := by
 unfold sumC
 have : ((used.take n).map (cntW g d T)).sum ≤ ((used.take m).map (cntW g d T)).sum := by
  have e : used.take m = used.take n ++ (used.take m).drop n := by
   conv => lhs; rw [← List.take_append_drop n (used.take m)]
   rw [List.take_take, Nat.min_eq_left h]
  rw [e, List.map_append, List.sum_append]
  omega
 omega
theorem numU_at {used : List Tri} (hn : used.Nodup) {k : Nat} (hk : k < used.length) : numU used used[k] = (k : Int) + 1 := by
 unfold numU
 rw [List.Nodup.idxOf_getElem hn]
/- The text of (*parlance/meet.maker).build$1 as a statement; no condition. -/
def S224_0 : Stmt :=
 .seq
 (.region
 [oq 7 (.fld 0 (.tmp 3)),oq 8 (.fld 3 (.tmp 7)),
 oq 9 (.load false 1 (.tmp 8)),oq 10 (.mv (.tmp 0)),
 oq 11 (.mv (.tmp 2)),
 .mk (some 12) none
 (.build 129 [.int .i64 0,.slice none 0 0]
 [(0,1,.tmp 10),(1,1,.tmp 11)]),
 .mk (some 13) none
 (.buildS 129 1 [.int .i64 0,.slice none 0 0] [(0,2,.tmp 12)]),
 .mk (some 14) none
 (.append 22 129 2 32 (.agg (Array.mk [.int .i64 0,.slice none 0 0])) (.tmp 9)
 (.tmp 13)),
 oq 15 (.fld 0 (.tmp 3)),oq 16 (.fld 3 (.tmp 15)),
 .mk none none (.store 1 (.tmp 16) (.tmp 14))]
 [1,3])
 (.region
 [oq 17 (.fld 5 (.tmp 3)),oq 18 (.load false 1 (.tmp 17)),
 oq 19 (.mv (.tmp 1)),
 oq 20 (.buildS 3 1 [.int .i64 0] [(0,1,.tmp 19)]),
 oq 21 (.append 25 3 1 8 (.int .i64 0) (.tmp 18) (.tmp 20)),
 oq 22 (.fld 5 (.tmp 3)),
 .mk none none (.store 1 (.tmp 22) (.tmp 21))]
 [])
def S224 : FnS := ⟨23,[],S224_0⟩
theorem tr224 : trFn Try.prog 224 [] [[1,3],[]] = some S224 := by kernel_rfl
/- The text of (*parlance/meet.maker).build as a statement; no condition. -/
def S162_1 : Stmt :=
 .seq
 (.region [oq 41 (.ibin .lss (.tmp 40) (.tmp 39))]
 [0,2,3,4,38,39,40,41])
 (.seq (.cond (.tmp 41) .skip (.exit 0))
 (.seq
 (.block 1
 (.seq
 (.region
 [oq 42 (.mv (.tmp 40)),
 oq 43 (.idx 3 (.tmp 38) (.tmp 40)),
 oq 44 (.load true 3 (.tmp 43)),
 .mk (some 6) none
 (.alloc true 126
 (.agg (Array.mk [.int .i64 0,.int .i64 0,.int .i64 0]))),
 oq 5 (.mv (.tmp 42)),
 .mk none none (.store 3 (.tmp 6) (.tmp 44))]
 [0,2,3,4,5,6,38,39,40])
 (.seq
 (.region
 [oq 45 (.mv (.tmp 4)),
 oq 46 (.load true 3 (.tmp 6)),
 oq 47 (.mv (.tmp 5)),
 oq 48 (.ibin .add (.const (.int .i64 1)) (.tmp 47)),
 .mk none none (.a (Qk.upd 324) [.tmp 45,.tmp 46,.tmp 48])]
 [0,2,3,4,6,38,39,40])
 (.region
 [oq 49 (.fld 4 (.tmp 3)),
 oq 50 (.load false 1 (.tmp 49)),
 oq 51 (.load true 3 (.tmp 6)),
 .mk (some 52) none
 (.buildS 126 1 [.int .i64 0,.int .i64 0,.int .i64 0]
 [(0,3,.tmp 51)]),
 .mk (some 53) none
 (.append 116 126 3 24
 (.agg (Array.mk [.int .i64 0,.int .i64 0,.int .i64 0]))
 (.tmp 50) (.tmp 52)),
 oq 54 (.fld 4 (.tmp 3)),
 .mk none none (.store 1 (.tmp 54) (.tmp 53))]
 [0,2,3,4,38,39,40]))))
 (.region
 [oq 55 (.ibin .add (.tmp 40) (.const (.int .i64 1))),
 oq 40 (.mv (.tmp 55))]
 [0,2,3,4,38,39,40])))
def S162_2 : Stmt :=
 .seq
 (.region [oq 61 (.ibin .lss (.tmp 60) (.tmp 59))]
 [0,2,3,4,7,58,59,60,61])
 (.seq (.cond (.tmp 61) .skip (.exit 2))
 (.seq
 (.block 3
 (.seq
 (.region
 [oq 62 (.idx 1 (.tmp 58) (.tmp 60)),
 oq 63 (.load false 1 (.tmp 62)),
 oq 9 (.mv (.tmp 63))]
 [0,2,3,4,7,9,58,59,60])
 (.drawn
 [(false,oq 64 (.mv (.tmp 7))),
 (false,oq 65 (.mv (.tmp 4))),
 (false,oq 66 (.mv (.tmp 0))),
 (false,oq 67 (.nilCheck (.tmp 66))),
 (false,oq 68 (.fld 4 (.tmp 67))),
 (false,oq 69 (.fld 0 (.tmp 68))),
 (false,oq 70 (.load false 1 (.tmp 69))),
 (false,oq 71 (.mv (.tmp 0))),
 (false,oq 72 (.nilCheck (.tmp 71))),
 (false,oq 73 (.fld 0 (.tmp 72))),
 (false,oq 74 (.fld 2 (.tmp 73))),
 (false,oq 75 (.load false 1 (.tmp 74))),
 (false,oq 76 (.mv (.tmp 9))),
 (false,
 .mk (some 77) none
 (.build 126 [.int .i64 0,.int .i64 0,.int .i64 0]
 [(0,1,.tmp 70),(1,1,.tmp 75),(2,1,.tmp 76)])),
 (false,oq 78 (.q (Qk.look 324 false) [.tmp 65,.tmp 77])),
 (false,
 .mk (some 79) none
 (.build 53 [.bool false,.int .i64 0] [(1,1,.tmp 78)])),
 (false,
 .mk (some 80) none
 (.buildS 53 1 [.bool false,.int .i64 0] [(0,2,.tmp 79)])),
 (false,
 .mk (some 81) none
 (.call (.tmp 64)
 [.const (.int .i64 0),.const (.int .i64 (-1)),
 .tmp 80]))]
 [0,2,3,4,7,58,59,60])))
 (.region
 [oq 82 (.ibin .add (.tmp 60) (.const (.int .i64 1))),
 oq 60 (.mv (.tmp 82))]
 [0,2,3,4,7,58,59,60])))
def S162_3 : Stmt :=
 .seq
 (.region
 [oq 129 (.fld 0 (.tmp 18)),
 oq 130 (.load false 1 (.tmp 129)),
 oq 131 (.un .not (.tmp 130))]
 [0,2,3,4,7,11,12,13,15,16,17,18,86,87,88,96,97,98,115,116,117,122,123,124,131])
 (.cond (.tmp 131)
 (.drawn
 [(false,oq 132 (.mv (.tmp 4))),
 (false,oq 133 (.mv (.tmp 15))),
 (false,oq 134 (.mv (.tmp 17))),
 (false,oq 135 (.idx 1 (.tmp 133) (.tmp 134))),
 (false,oq 136 (.load false 1 (.tmp 135))),
 (false,oq 137 (.fld 1 (.tmp 18))),
 (false,oq 138 (.load false 1 (.tmp 137))),
 (false,oq 139 (.mv (.tmp 15))),
 (false,oq 140 (.mv (.tmp 17))),
 (false,
 oq 141 (.ibin .add (.tmp 140) (.const (.int .i64 1)))),
 (false,oq 142 (.idx 1 (.tmp 139) (.tmp 141))),
 (false,oq 143 (.load false 1 (.tmp 142))),
 (false,
 .mk (some 144) none
 (.build 126 [.int .i64 0,.int .i64 0,.int .i64 0]
 [(0,1,.tmp 136),(1,1,.tmp 138),(2,1,.tmp 143)])),
 (false,oq 145 (.q (Qk.look 324 false) [.tmp 132,.tmp 144])),
 (false,oq 146 (.fld 1 (.tmp 18))),
 (false,.mk none none (.store 1 (.tmp 146) (.tmp 145)))]
 [0,2,3,4,7,11,12,13,15,16,18,86,87,88,96,97,98,115,116,117,122,123,124])
 .skip)
def S162_4 : Stmt :=
 .region
 [oq 147 (.mv (.tmp 16)),oq 148 (.load true 2 (.tmp 18)),
 oq 149 (.buildS 53 1 [.bool false,.int .i64 0] [(0,2,.tmp 148)]),
 .mk (some 150) none
 (.append 58 53 2 16 (.agg (Array.mk [.bool false,.int .i64 0])) (.tmp 147)
 (.tmp 149)),
 oq 16 (.mv (.tmp 150))]
 [0,2,3,4,7,11,12,13,15,16,86,87,88,96,97,98,115,116,117,122,123,124]
def S162_5 : Stmt :=
 .block 11
 (.seq
 (.region
 [oq 126 (.mv (.tmp 124)),
 oq 127 (.idx 2 (.tmp 122) (.tmp 124)),
 oq 128 (.load true 2 (.tmp 127)),
 oq 18 (.alloc true 53 (.agg (Array.mk [.bool false,.int .i64 0]))),
 oq 17 (.mv (.tmp 126)),
 .mk none none (.store 2 (.tmp 18) (.tmp 128))]
 [0,2,3,4,7,11,12,13,15,16,17,18,86,87,88,96,97,98,115,116,117,122,123,124])
 (.join S162_3 S162_4 [18]
 [0,2,3,4,7,11,12,13,15,16,86,87,88,96,97,98,115,116,117,122,123,124]))
def S162_6 : Stmt :=
 .region
 [oq 151 (.ibin .add (.tmp 124) (.const (.int .i64 1))),
 oq 124 (.mv (.tmp 151))]
 [0,2,3,4,7,11,12,13,15,16,86,87,88,96,97,98,115,116,117,122,123,124]
def S162_7 : Stmt :=
 .seq
 (.region [oq 125 (.ibin .lss (.tmp 124) (.tmp 123))]
 [0,2,3,4,7,11,12,13,15,16,86,87,88,96,97,98,115,116,117,122,123,124,125])
 (.seq (.cond (.tmp 125) .skip (.exit 10))
 (.join S162_5 S162_6 [16]
 [0,2,3,4,7,11,12,13,15,86,87,88,96,97,98,115,116,117,122,123,124]))
def S162_8 : Stmt :=
 .seq
 (.region [oq 118 (.ibin .lss (.tmp 117) (.tmp 116))]
 [0,2,3,4,7,11,12,13,86,87,88,96,97,98,115,116,117,118])
 (.seq (.cond (.tmp 118) .skip (.exit 8))
 (.seq
 (.block 9
 (.seq
 (.region
 [oq 119 (.idx 1 (.tmp 115) (.tmp 117)),
 oq 120 (.load false 1 (.tmp 119)),
 oq 15 (.mv (.tmp 120))]
 [0,2,3,4,7,11,12,13,15,86,87,88,96,97,98,115,116,117])
 (.seq
 (.region [oq 16 (.mv (.const (.slice none 0 0)))]
 [0,2,3,4,7,11,12,13,15,16,86,87,88,96,97,98,115,116,117])
 (.seq
 (.seq
 (.region
 [oq 121 (.fld 1 (.tmp 13)),
 oq 122 (.load false 1 (.tmp 121)),
 oq 123 (.len false (.tmp 122)),
 oq 124 (.mv (.const (.int .i64 0)))]
 [0,2,3,4,7,11,12,13,15,16,86,87,88,96,97,98,115,116,117,122,123,124])
 (.block 10
 (.loop S162_7 [16,124]
 [0,2,3,4,7,11,12,13,15,86,87,88,96,97,98,115,116,117,122,123])))
 (.region
 [oq 152 (.mv (.tmp 7)),oq 153 (.mv (.tmp 4)),
 oq 154 (.load true 3 (.tmp 11)),
 oq 155 (.q (Qk.look 324 false) [.tmp 153,.tmp 154]),
 oq 156 (.mv (.tmp 12)),
 oq 157 (.mv (.tmp 16)),
 .mk (some 158) none
 (.call (.tmp 152) [.tmp 155,.tmp 156,.tmp 157])]
 [0,2,3,4,7,11,12,13,86,87,88,96,97,98,115,116,117])))))
 (.region
 [oq 159 (.ibin .add (.tmp 117) (.const (.int .i64 1))),
 oq 117 (.mv (.tmp 159))]
 [0,2,3,4,7,11,12,13,86,87,88,96,97,98,115,116,117])))
def S162_9 : Stmt :=
 .block 7
 (.seq
 (.region
 [oq 100 (.mv (.tmp 98)),
 oq 101 (.idx 2 (.tmp 96) (.tmp 98)),
 oq 102 (.load true 2 (.tmp 101)),
 .mk (some 13) none
 (.alloc true 129 (.agg (Array.mk [.int .i64 0,.slice none 0 0]))),
 oq 12 (.mv (.tmp 100)),
 .mk none none (.store 2 (.tmp 13) (.tmp 102))]
 [0,2,3,4,7,11,12,13,86,87,88,96,97,98])
 (.seq
 (.seq
 (.region
 [oq 103 (.fld 0 (.tmp 13)),
 oq 104 (.load false 1 (.tmp 103)),
 oq 105 (.idxA 3 1 (.tmp 11) (.const (.int .i64 1))),
 oq 106 (.load false 1 (.tmp 105)),
 oq 107 (.ibin .neq (.tmp 104) (.tmp 106))]
 [0,2,3,4,7,11,12,13,86,87,88,96,97,98,107])
 (.cond (.tmp 107) (.exit 7) .skip))
 (.seq
 (.region
 [oq 108 (.mv (.tmp 0)),
 oq 109 (.idxA 3 1 (.tmp 11) (.const (.int .i64 0))),
 oq 110 (.load false 1 (.tmp 109)),
 oq 111 (.fld 1 (.tmp 13)),
 oq 112 (.load false 1 (.tmp 111)),
 oq 113 (.idxA 3 1 (.tmp 11) (.const (.int .i64 2))),
 oq 114 (.load false 1 (.tmp 113)),
 .mk (some 115) none
 (.call (.func 221) [.tmp 108,.tmp 110,.tmp 112,.tmp 114]),
 oq 116 (.len false (.tmp 115)),
 oq 117 (.mv (.const (.int .i64 0)))]
 [0,2,3,4,7,11,12,13,86,87,88,96,97,98,115,116,117])
 (.block 8 (.loop S162_8 [117] [0,2,3,4,7,11,12,13,86,87,88,96,97,98,115,116])))))
def S162_10 : Stmt :=
 .region
 [oq 160 (.ibin .add (.tmp 98) (.const (.int .i64 1))),
 oq 98 (.mv (.tmp 160))]
 [0,2,3,4,7,11,86,87,88,96,97,98]
def S162_11 : Stmt :=
 .seq
 (.region [oq 99 (.ibin .lss (.tmp 98) (.tmp 97))]
 [0,2,3,4,7,11,86,87,88,96,97,98,99])
 (.seq (.cond (.tmp 99) .skip (.exit 6))
 (.join S162_9 S162_10 [] [0,2,3,4,7,11,86,87,88,96,97,98]))
def S162_12 : Stmt :=
 .seq
 (.region [oq 89 (.ibin .lss (.tmp 88) (.tmp 87))]
 [0,2,3,4,7,86,87,88,89])
 (.seq (.cond (.tmp 89) .skip (.exit 4))
 (.seq
 (.block 5
 (.seq
 (.region
 [oq 90 (.idx 3 (.tmp 86) (.tmp 88)),
 oq 91 (.load true 3 (.tmp 90)),
 .mk (some 11) none
 (.alloc true 126
 (.agg (Array.mk [.int .i64 0,.int .i64 0,.int .i64 0]))),
 .mk none none (.store 3 (.tmp 11) (.tmp 91))]
 [0,2,3,4,7,11,86,87,88])
 (.seq
 (.region
 [oq 92 (.mv (.tmp 0)),
 oq 93 (.nilCheck (.tmp 92)),
 oq 94 (.fld 0 (.tmp 93)),
 oq 95 (.fld 3 (.tmp 94)),
 oq 96 (.load false 1 (.tmp 95)),
 oq 97 (.len false (.tmp 96)),
 oq 98 (.mv (.const (.int .i64 0)))]
 [0,2,3,4,7,11,86,87,88,96,97,98])
 (.block 6 (.loop S162_11 [98] [0,2,3,4,7,11,86,87,88,96,97])))))
 (.region
 [oq 161 (.ibin .add (.tmp 88) (.const (.int .i64 1))),
 oq 88 (.mv (.tmp 161))]
 [0,2,3,4,7,86,87,88])))
def S162_0 : Stmt :=
 .seq
 (.region
 [.mk (some 2) none
 (.alloc true 118
 (.agg
 (Array.mk
 [.int .i64 0,.int .i64 0,.int .i64 0,.slice none 0 0,
 .slice none 0 0,.slice none 0 0])))]
 [0,2])
 (.seq
 (.tree
 (.q (false,oq 19 (.mv (.tmp 0)))
 (.q (false,oq 24 (.mv (.tmp 0)))
 (.q
 (false,
 .mk (some 31) none
 (.build 126 [.int .i64 0,.int .i64 0,.int .i64 0]
 [(0,1,.const (.int .i64 (-1))),
 (1,1,.const (.int .i64 (-1))),
 (2,1,.const (.int .i64 (-1)))]))
 (.q (false,oq 20 (.nilCheck (.tmp 19)))
 (.q (false,oq 25 (.nilCheck (.tmp 24)))
 (.q (false,oq 21 (.fld 0 (.tmp 20)))
 (.q (false,oq 26 (.fld 8 (.tmp 25)))
 (.q (false,oq 22 (.fld 0 (.tmp 21)))
 (.q (false,oq 27 (.load false 1 (.tmp 26)))
 (.q (false,oq 23 (.load false 1 (.tmp 22)))
 (.q (false,oq 28 (.len false (.tmp 27)))
 (.q
 (false,
 .mk (some 29) none
 (.ibin .add (.const (.int .i64 1)) (.tmp 28)))
 (.q
 (false,
 .mk (some 30) none
 (.build 24
 [.int .i64 0,.int .i64 0,.int .i64 0,
 .slice none 0 0]
 [(0,1,.tmp 23),(1,1,.tmp 29)]))
 (.alt
 (false,
 .mk (some 32) none
 (.buildS 126 1
 [.int .i64 0,.int .i64 0,.int .i64 0]
 [(0,3,.tmp 31)]))
 (.q
 (false,
 .mk (some 33) none
 (.build 118
 [.int .i64 0,.int .i64 0,.int .i64 0,
 .slice none 0 0,.slice none 0 0,.slice none 0 0]
 [(0,4,.tmp 30),(4,1,.tmp 32)]))
 (.alt
 (false,
 .mk (some 3) none
 (.alloc false 118
 (.agg
 (Array.mk
 [.int .i64 0,.int .i64 0,
 .int .i64 0,.slice none 0 0,.slice none 0 0,
 .slice none 0 0]))))
 (.alt (false,.mk none none (.store 6 (.tmp 3) (.tmp 33)))
 .fin .no)
 .no))
 (.alt
 (false,
 .mk (some 3) none
 (.alloc false 118
 (.agg
 (Array.mk
 [.int .i64 0,.int .i64 0,
 .int .i64 0,.slice none 0 0,.slice none 0 0,
 .slice none 0 0]))))
 (.alt
 (false,
 .mk (some 32) none
 (.buildS 126 1
 [.int .i64 0,.int .i64 0,.int .i64 0]
 [(0,3,.tmp 31)]))
 (.q
 (false,
 .mk (some 33) none
 (.build 118
 [.int .i64 0,.int .i64 0,
 .int .i64 0,.slice none 0 0,.slice none 0 0,
 .slice none 0 0]
 [(0,4,.tmp 30),(4,1,.tmp 32)]))
 (.alt
 (false,.mk none none (.store 6 (.tmp 3) (.tmp 33)))
 .fin .no))
 .no)
 .no)))))))))))))))
 [0,2,3])
 (.seq
 (.region [oq 34 (.n (Qk.mkmap 324) []),oq 4 (.mv (.tmp 34))]
 [0,2,3,4])
 (.seq
 (.seq
 (.region
 [oq 35 (.mv (.tmp 0)),oq 36 (.nilCheck (.tmp 35)),
 oq 37 (.fld 8 (.tmp 36)),
 oq 38 (.load false 1 (.tmp 37)),
 oq 39 (.len false (.tmp 38)),
 oq 40 (.mv (.const (.int .i64 0)))]
 [0,2,3,4,38,39,40])
 (.block 0 (.loop S162_1 [3,40] [0,2,4,38,39])))
 (.seq
 (.region
 [oq 56 (.mkFunc 224 [.tmp 3]),oq 7 (.mv (.tmp 56))]
 [0,2,3,4,7])
 (.seq
 (.seq
 (.region
 [oq 57 (.mv (.tmp 0)),
 oq 58 (.call (.func 220) [.tmp 57]),
 oq 59 (.len false (.tmp 58)),
 oq 60 (.mv (.const (.int .i64 0)))]
 [0,2,3,4,7,58,59,60])
 (.block 2 (.loop S162_2 [60] [0,2,3,4,7,58,59])))
 (.seq
 (.seq
 (.region
 [oq 83 (.mv (.tmp 0)),
 oq 84 (.nilCheck (.tmp 83)),
 oq 85 (.fld 8 (.tmp 84)),
 oq 86 (.load false 1 (.tmp 85)),
 oq 87 (.len false (.tmp 86)),
 oq 88 (.mv (.const (.int .i64 0)))]
 [0,2,3,4,7,86,87,88])
 (.block 4 (.loop S162_12 [88] [0,2,3,4,7,86,87])))
 (.seq
 (.region
 [oq 162 (.load true 6 (.tmp 3)),
 .mk none none (.store 6 (.tmp 2) (.tmp 162))]
 [2])
 .ret)))))))
def S162 : FnS := ⟨163,[(2,some (true,6))],S162_0⟩
theorem tr162 : trFn Try.prog 162 [2,6,11,13,18] [[0,2],[0,2,3],[],[2,0,2,5,2,12,2,1,2,6,2,2,2,7,2,3,2,8,2,4,2,9,2,10,2,11,3,13,2,14,3,15,3,16,0,1,1,3,15,3,13,2,14,3,16,0,1,1,1],[],[],[0],[0,1],[0,1,2],[0,1,2,3],[],[5],[5,6],[5,6,7],[5,6,7,8],[5,6,7,8,9],[0,1,2,3,4,5,6,7,8,9,10],[],[12],[0,1,2,3,4,5,6,7,8,9,10,11,12,13],[],[0,1,2,3,4,5,6,7,8,9,10,11,12,13,14,15],[0,2,3,4],[0,2,3,4,38,39,40],[3,40],[0,2,4,38,39],[0,2,3,4,38,39,40,41],[0,2,3,4,5,6,38,39,40],[0,2,3,4,6,38,39,40],[0,2,3,4,38,39,40],[0,2,3,4,38,39,40],[0,2,3,4,7],[0,2,3,4,7,58,59,60],[60],[0,2,3,4,7,58,59],[0,2,3,4,7,58,59,60,61],[0,2,3,4,7,9,58,59,60],[0,2,3,4,7,58,59,60],[0,1,2,3,4,5,6,7,8,9,10,11,12,13,14,15,16,17],[],[],[],[],[2],[2,3],[2,3,4],[2,3,4,5],[],[7],[7,8],[7,8,9],[7,8,9,10],[],[2,3,4,5,6,7,8,9,10,11,12],[1,2,3,4,5,6,7,8,9,10,11,12,13],[1,2,3,4,5,6,7,8,9,10,11,12,13,14],[1,2,3,4,5,6,7,8,9,10,11,12,13,14,15],[0,1,2,3,4,5,6,7,8,9,10,11,12,13,14,15,16],[0,2,3,4,7,58,59,60],[0,2,3,4,7,86,87,88],[88],[0,2,3,4,7,86,87],[0,2,3,4,7,86,87,88,89],[0,2,3,4,7,11,86,87,88],[0,2,3,4,7,11,86,87,88,96,97,98],[98],[0,2,3,4,7,11,86,87,88,96,97],[0,2,3,4,7,11,86,87,88,96,97,98,99],[],[0,2,3,4,7,11,86,87,88,96,97,98],[0,2,3,4,7,11,12,13,86,87,88,96,97,98],[0,2,3,4,7,11,12,13,86,87,88,96,97,98,107],[0,2,3,4,7,11,12,13,86,87,88,96,97,98,115,116,117],[117],[0,2,3,4,7,11,12,13,86,87,88,96,97,98,115,116],[0,2,3,4,7,11,12,13,86,87,88,96,97,98,115,116,117,118],[0,2,3,4,7,11,12,13,15,86,87,88,96,97,98,115,116,117],[0,2,3,4,7,11,12,13,15,16,86,87,88,96,97,98,115,116,117],[0,2,3,4,7,11,12,13,15,16,86,87,88,96,97,98,115,116,117,122,123,124],[16,124],[0,2,3,4,7,11,12,13,15,86,87,88,96,97,98,115,116,117,122,123],[0,2,3,4,7,11,12,13,15,16,86,87,88,96,97,98,115,116,117,122,123,124,125],[16],[0,2,3,4,7,11,12,13,15,86,87,88,96,97,98,115,116,117,122,123,124],[0,2,3,4,7,11,12,13,15,16,17,18,86,87,88,96,97,98,115,116,117,122,123,124],[18],[0,2,3,4,7,11,12,13,15,16,86,87,88,96,97,98,115,116,117,122,123,124],[0,2,3,4,7,11,12,13,15,16,17,18,86,87,88,96,97,98,115,116,117,122,123,124,131],[0,2,3,4,7,11,12,13,15,16,18,86,87,88,96,97,98,115,116,117,122,123,124],[0,1,2,3,4,5,6,7,8,9,10,11,12,13,14,15],[],[],[],[],[1,2],[1,2,3],[],[5],[],[],[8],[7,8,9],[7,8,9,10],[1,2,3,4,5,6,7,8,9,10,11],[0,1,2,3,4,5,6,7,8,9,10,11,12],[0,1,2,3,4,5,6,7,8,9,10,11,12,13],[0,1,2,3,4,5,6,7,8,9,10,11,12,13,14],[0,2,3,4,7,11,12,13,15,16,86,87,88,96,97,98,115,116,117,122,123,124],[0,2,3,4,7,11,12,13,15,16,86,87,88,96,97,98,115,116,117,122,123,124],[0,2,3,4,7,11,12,13,86,87,88,96,97,98,115,116,117],[0,2,3,4,7,11,12,13,86,87,88,96,97,98,115,116,117],[0,2,3,4,7,11,86,87,88,96,97,98],[0,2,3,4,7,86,87,88],[2]] = some S162 := by kernel_rfl
/- The product is made: meet's build walked; no condition. -/
theorem s_storeN {P : Program} {Γr : Ctx} {r : List SOper} {φ : Fr} {Γ : Ctx} {K : Fr → Ctx → Prop} {g : PH} {b ix n o : Nat} {T : TypeId} {cs : List Value} {x : Value} (hg : Γ[ix]? = some g) (h : g b = some (.cells cs.toArray T (0, 0))) (ho : o + n ≤ cs.length)
  (hk : ∀ g', g' b = some (.cells (setC cs o n x).toArray T (0, 0)) → vcOps P Γr r φ (Γ.set ix g') K) : storeP P Γr r φ Γ K n b o x := s_storeF hg h ho (hk _ (upd_self _ _ _))
theorem s_idxAB {P : Program} {Γr : Ctx} {d : Option Nat} {r : List SOper} {φ : Fr} {Γ : Ctx} {K : Fr → Ctx → Prop} {len sz s b o : Nat} {k : IntKind} {j : Int} (h0 : 0 ≤ j) (h1 : j < len) (m : Nat) (hm : o + j.toNat * sz = m)
  (hk : vcOps P Γr r (put φ d (.ref true s b m)) Γ K) : idxAC P Γr true d r φ Γ K len sz (.ref true s b o) true (true, .int k j) :=
 ⟨fun _ => ⟨rfl, rfl, h0, h1⟩, by rw [hm]; exact hk⟩
/-- a product that is being made -/
def OutB (pb : Nat) (co rr fr : PH) (L : Mem) (ts ns : Int) (N : Value) (rules : List (Ru × Int)) : Prop := ∃ vr vf, co pb = some (.cells [.int .i64 ts, .int .i64 ns, .int .i64 0, vr, N, vf].toArray 118 (0, 0)) ∧ Bld rr L 129 vr (rules.map (·.1)) ∧ Bld fr (lk []) 3 vf (rules.map (·.2))
theorem OutB.mono {pb : Nat} {co rr fr : PH} {L L' : Mem} {ts ns : Int} {N : Value} {rules : List (Ru × Int)} (h : OutB pb co rr fr L ts ns N rules) (hL : Mem.le L L') : OutB pb co rr fr L' ts ns N rules := by
 obtain ⟨vr, vf, h1, h2, h3⟩ := h
 exact ⟨vr, vf, h1, h2.mono (Mem.le.refl _) hL, h3⟩
theorem build_add {Γr : Ctx} {pb : Nat} {co rr fr : PH} {L L' : Mem} {ts ns : Int} {N : Value} {rules : List (Ru × Int)} {x : Ru} {f : Int} {A : Option Addr} {c : Nat} (h : OutB pb co rr fr L ts ns N rules) (hL : Mem.le L L') (hx : SlOk L' A c x.r) (hlen : rules.length ≤ 10000) :
  Ret Try.prog 224 [.int .i64 x.l, .int .i64 f, .slice A x.r.length c, .pointer (some ⟨pb, 0, none⟩)] Γr [co, rr, fr] (fun v Γ => v = .tuple #[] ∧ ∃ co rr fr, Γ = [co, rr, fr] ∧ OutB pb co rr fr L' ts ns N (rules ++ [(x, f)])) := by
 generalize hR : (fun (v : Value) (Γ : Ctx) => v = Value.tuple #[] ∧ ∃ co rr fr, _) = R
 refine ret_of_vc tr224 (Nat.le_of_ble_eq_true rfl) ?_
 obtain ⟨vr, vf, hco, hBr, hBf⟩ := h
 obtain ⟨Ar, cr, rfl⟩ := hBr.val
 obtain ⟨Af, cf, rfl⟩ := hBf.val
 rw [List.length_map] at hco
 rw [List.length_map] at hco
 rw [List.length_map] at hBr
 rw [List.length_map] at hBf
 simp -implicitDefEqProofs only [S224, S224_0, go_sem,zA,zB,zC,zD,zE,reduceCtorEq,↓reduceIte,zF,zG,zH,zI]
 refine s_ld (j := 3) (cells_lk ⟨co, by simp, hco⟩) (by simp) (by simp) ?_
 simp -implicitDefEqProofs only [go_sem,zA,zB,zC,zD,zE,reduceCtorEq,↓reduceIte,zF,zG,zH,zI]
 intro b1
 refine s_app1 (ix := 2) (x := x) rfl hBr hL ⟨A, c, rfl, hx⟩ cells_one rfl (by simp; omega) (by unfold maxLen; simp; omega) ?_
 intro v1 rr' hB1 _
 obtain ⟨A1, c1, rfl⟩ := hB1.val
 simp -implicitDefEqProofs only [go_sem,zA,zB,zC,zD,zE,reduceCtorEq,↓reduceIte,zF,zG,zH,zI]
 refine s_storeN (ix := 1) rfl hco (by simp) ?_
 intro co1 hco1
 simp only [setC, List.take_succ_cons, List.take_zero, List.drop_succ_cons, List.drop_zero, cellsV, List.cons_append, List.nil_append] at hco1
 simp -implicitDefEqProofs only [go_sem,zA,zB,zC,zD,zE,reduceCtorEq,↓reduceIte,zF,zG,zH,zI]
 refine s_ld (j := 5) (cells_lk ⟨_, by simp, hco1⟩) (by simp) (by simp) ?_
 simp -implicitDefEqProofs only [go_sem,zA,zB,zC,zD,zE,reduceCtorEq,↓reduceIte,zF,zG,zH,zI]
 intro b2
 refine s_app1S (ix := 4) f rfl hBf cells_one rfl (by simp; omega) (by unfold maxLen; simp; omega) ?_
 intro v2 fr' hB2 _
 obtain ⟨A2, c2, rfl⟩ := hB2.val
 simp -implicitDefEqProofs only [go_sem,zA,zB,zC,zD,zE,reduceCtorEq,↓reduceIte,zF,zG,zH,zI]
 refine s_storeN (ix := 2) rfl hco1 (by simp) ?_
 intro co2 hco2
 simp only [setC, List.take_succ_cons, List.take_zero, List.drop_succ_cons, List.drop_zero, cellsV, List.cons_append, List.nil_append] at hco2
 simp -implicitDefEqProofs only [go_sem,zA,zB,zC,zD,zE,reduceCtorEq,↓reduceIte,zF,zG,zH,zI]
 refine Up.sel [[2], [3], [4]] (by decide) fun _ _ => ?_
 subst hR
 refine ⟨rfl, _, _, _, rfl, _, _, hco2, ?_, ?_⟩
 ·rw [List.map_append]; exact hB1
 ·rw [List.map_append]; exact hB2

/-- the numbers of nonterminals so far -/
def NumM (hn : PH) (bn : Nat) (used : List Tri) (k : Nat) : Prop := ∃ l : List (List Int × Int), MapM hn bn intsV (Value.int .i64) (okInts 3) l ∧ ∀ t ∈ used.take k, mget l (triK t) = some (numU used t)
theorem NumM.look {hn : PH} {bn : Nat} {used : List Tri} {Γ : Ctx} (h : NumM hn bn used used.length) (hg : hn ∈ Γ) {t : Tri} (ht : t ∈ used) (h1 : keyI t.1) (h2 : keyI t.2.1) (h3 : keyI t.2.2) :
  QR Try.prog (.look 324 false) [.map (some bn), .agg #[.int .i64 t.1, .int .i64 t.2.1, .int .i64 t.2.2]] Γ (.int .i64 (numU used t)) := by
 obtain ⟨l, q1, q2⟩ := h
 rw [List.take_length] at q2
 have := qr_look kt_three (t := 324) (et := 3) (z := .int .i64 0) (by kernel_rfl) (zero_run (by kernel_rfl)) false (q1.l hg) (key_three h1 h2 h3)
 rw [show [t.1, t.2.1, t.2.2] = triK t from rfl, q2 t ht] at this
 exact this
/-- a product as a value -/
def prdV (ts : Int) (nr nn : Nat) (R N F : Option Addr × Nat) : Value := .agg #[.int .i64 ts, .int .i64 nn, .int .i64 0, .slice R.1 nr R.2, .slice N.1 nn N.2, .slice F.1 nr F.2]
set_option maxHeartbeats 4000000 in
theorem meet_build {Γr : Ctx} {g : Gr} {d : Da} {G A B U : Option Addr × Nat} {pm bm : Nat} {T : Int → Int → List Int} {used : List Tri} (V : VG g) (D : VD d) (hT : g.ts = colsD d) (h12 : d.nx.length ≤ 12) (hI : TabI g d T) (hm : ∃ w, lk Γr pm (.cells (mkrC g d G A B bm (.slice U.1 used.length U.2)).toArray w (0, 0)))
  (hG : SlOk (lk Γr) G.1 G.2 g.rs) (hA : SlOk (lk Γr) A.1 A.2 d.ac) (hB : SlOk (lk Γr) B.1 B.2 d.nx) (htab : TabL (lk Γr) (lk Γr) bm T) (hU : SlOk (lk Γr) U.1 U.2 used) (hn : used.Nodup) (hu : ∀ t, t ∈ used ↔ ReaQ g d T t) (h4 : sumC g d T used used.length ≤ 4000) :
  Ret Try.prog 162 [.pointer (some ⟨pm, 0, none⟩)] Γr [] (fun v Γ => ∃ gx R N F, Γ = [gx] ∧ v = prdV g.ts (rulesP g d T (numU used) used).length (1 + used.length) R N F ∧ SlOk (lk [gx]) R.1 R.2 ((rulesP g d T (numU used) used).map (·.1)) ∧ SlOk (lk [gx]) N.1 N.2 (((-1, -1, -1) : Tri) :: used) ∧ SlOk (lk [gx]) F.1 F.2 ((rulesP g d T (numU used) used).map (·.2))) := by
 generalize hR : (fun (v : Value) (Γ : Ctx) => ∃ gx R N F, _) = R
 refine ret_of_vc tr162 (Nat.le_of_ble_eq_true rfl) ?_
 obtain ⟨w, hm⟩ := hm
 have hmk : ∀ Γ : Ctx, Cells (Γ ++ Γr) pm 0 (mkrC g d G A B bm (.slice U.1 used.length U.2)) := fun Γ => cells_lk (lk_r _ _ _ _ hm)
 have hvl := V.len
 have hdl := D.len
 have hTl : ∀ q n, (T q n).length ≤ 12 := fun q n => srt_len (hI.srt q n) fun p hp => by have := (hI.rng q n p hp).2.2; exact ⟨this.1, by have := this.2; omega⟩
 have hTs : ∀ q n p, p ∈ T q n → StQ d p := fun q n p hp => (hI.rng q n p hp).2.2
 have key_st : ∀ x, StQ d x → keyI x := fun x h => ⟨by have := h.1; omega, by have := h.2; omega⟩
 have hns := V.ns
 have key_ns : ∀ n, 0 ≤ n ∧ n < g.ns → keyI n := fun n h => ⟨by omega, by omega⟩
 have hul : used.length ≤ 1440 := RowI.len V D hT h12 hI ⟨hn, fun t ht => (hu t).1 ht, fun p hp => (hu _).2 (by rw [endsL, List.mem_filter] at hp; exact .start hp.1 (by simpa using hp.2))⟩
 simp -implicitDefEqProofs only [S162, S162_0, go_sem,zA,zB,zC,zD,zE,reduceCtorEq,↓reduceIte,zF,zG,zH,zI]
 intro b0
 refine ⟨[], [], fun ψ Γ' => ∃ (pb : Nat) (co gN : PH) (AN : Option Addr) (cN : Nat), ψ = [(0, .v true (.pointer (some ⟨pm, 0, none⟩))), (2, .box b0 118 [.int .i64 0, .int .i64 0, .int .i64 0, .slice none 0 0, .slice none 0 0, .slice none 0 0]), (3, .v true (.pointer (some ⟨pb, 0, none⟩)))] ∧
  Γ' = [co, gN] ∧ co pb = some (.cells [.int .i64 g.ts, .int .i64 (1 + (used.length : Int)), .int .i64 0, .slice none 0 0, .slice AN 1 cN, .slice none 0 0].toArray 118 (0, 0)) ∧ Bld gN (lk []) 126 (.slice AN 1 cN) [((-1, -1, -1) : Tri)], Ent.refl _, ?_, ?_⟩
 ·simp -implicitDefEqProofs only [go_sem,zA,zB,zC,zD,zE,reduceCtorEq,↓reduceIte,zF,zG,zH,zI]
  refine s_ld (j := 8) (hmk _) (by simp [mkrC]) (by simp) ?_
  simp only [mkrC]
  simp -implicitDefEqProofs only [go_sem,zA,zB,zC,zD,zE,reduceCtorEq,↓reduceIte,zF,zG,zH,zI]
  refine s_ld (j := 0) (hmk _) (by simp [mkrC]) (by simp) ?_
  simp only [mkrC]
  simp -implicitDefEqProofs only [go_sem,zA,zB,zC,zD,zE,reduceCtorEq,↓reduceIte,zF,zG,zH,zI]
  simp (disch := omega) only [wrap_id]
  have hlit : ∀ bn : Nat, Bld (one bn (.cells [Value.int IntKind.i64 (-1), Value.int IntKind.i64 (-1), Value.int IntKind.i64 (-1)].toArray 126)) (lk []) 126 (.slice (some ⟨bn, 0, none⟩) 1 1) [((-1, -1, -1) : Tri)] := fun bn => lit_bldm _ rfl
  refine ⟨fun bn pb => ?_, fun pb bn => ?_⟩
  ·refine s_storeN (ix := 0) rfl (one_self _ _) (by simp) ?_
   intro co hco
   simp only [setC, List.take_succ_cons, List.take_zero, List.drop_succ_cons, List.drop_zero, cellsV, List.cons_append, List.nil_append] at hco
   simp -implicitDefEqProofs only [go_sem,zA,zB,zC,zD,zE,reduceCtorEq,↓reduceIte,zF,zG,zH,zI]
   exact Up.here ⟨pb, co, _, _, _, rfl, rfl, hco, hlit bn⟩
  ·refine s_storeN (ix := 1) rfl (one_self _ _) (by simp) ?_
   intro co hco
   simp only [setC, List.take_succ_cons, List.take_zero, List.drop_succ_cons, List.drop_zero, cellsV, List.cons_append, List.nil_append] at hco
   simp -implicitDefEqProofs only [go_sem,zA,zB,zC,zD,zE,reduceCtorEq,↓reduceIte,zF,zG,zH,zI]
   exact Up.sel [[1], [0]] (by decide) fun _ _ => ⟨pb, co, _, _, _, rfl, rfl, hco, hlit bn⟩
 rintro ψ Γ' ⟨pb, co, gN, AN, cN, rfl, rfl, hco, hBN⟩
 simp -implicitDefEqProofs only [go_sem,zA,zB,zC,zD,zE,reduceCtorEq,↓reduceIte,zF,zG,zH,zI]
 refine s_mkmap ?_
 intro bm2
 simp -implicitDefEqProofs only [go_sem,zA,zB,zC,zD,zE,reduceCtorEq,↓reduceIte,zF,zG,zH,zI]
 refine s_ld (j := 8) (hmk _) (by simp [mkrC]) (by simp) ?_
 simp only [mkrC]
 simp -implicitDefEqProofs only [go_sem,zA,zB,zC,zD,zE,reduceCtorEq,↓reduceIte,zF,zG,zH,zI]
 refine s_loop (fun f vs Γ => ∃ (hn co gN : PH) (AN : Option Addr) (cN k : Nat), vs = [.v true (.pointer (some ⟨pb, 0, none⟩)), .v true (.int .i64 k)] ∧ Γ = [hn, co, gN] ∧ k + f = used.length ∧ co pb = some (.cells [.int .i64 g.ts, .int .i64 (1 + (used.length : Int)), .int .i64 0, .slice none 0 0, .slice AN (k + 1) cN, .slice none 0 0].toArray 118 (0, 0)) ∧ Bld gN (lk []) 126 (.slice AN (k + 1) cN) (((-1, -1, -1) : Tri) :: used.take k) ∧ NumM hn bm2 used k) used.length
  (Up.here ⟨_, co, gN, AN, cN, 0, rfl, rfl, by omega, hco, hBN, [], MapM.new _ _ _ _, fun t ht => by simp at ht⟩) ?_
 clear hco hBN
 rintro f vs Γ ⟨hn2, co, gN, AN, cN, k, rfl, rfl, hkf, hco, hBN, hNum⟩
 simp -implicitDefEqProofs only [S162_1, go_sem,zA,zB,zC,zD,zE,reduceCtorEq,↓reduceIte,zF,zG,zH,zI]
 refine ⟨fun hlt => ?_, fun hge => ?_⟩
 ·have hk : k < used.length := by omega
  obtain ⟨t, ht⟩ : ∃ t, used[k] = t := ⟨_, rfl⟩
  have hti : used[k]? = some t := by rw [List.getElem?_eq_getElem hk, ht]
  have hnu := numU_at hn hk
  have htk := List.take_succ_eq_append_getElem hk
  rw [ht] at hnu htk
  obtain ⟨ht1, ht2, ht3⟩ := rea_st V D hT hTs ((hu t).1 (ht ▸ List.getElem_mem hk))
  obtain ⟨b1, o1, hA1, hc1⟩ := hU.tri hti
  obtain ⟨l, hl1, hl2⟩ := hNum
  refine s_idx hA1 (by omega) (by omega) ?_
  simp -implicitDefEqProofs only [go_sem,zA,zB,zC,zD,zE,reduceCtorEq,↓reduceIte,zF,zG,zH,zI]
  refine s_ld0 (hc1 _ (lk_r _ _)) (by simp) (by simp) ?_
  simp -implicitDefEqProofs only [go_sem,zA,zB,zC,zD,zE,reduceCtorEq,↓reduceIte,zF,zG,zH,zI]
  intro b2
  simp (disch := omega) only [wrap_id]
  rw [show Value.agg #[Value.int IntKind.i64 t.1, Value.int IntKind.i64 t.2.1, Value.int IntKind.i64 t.2.2] = intsV (triK t) from rfl]
  refine s_upd kt_three (t := 324) (et := 3) (ix := 0) (eV := Value.int .i64) (by kernel_rfl) rfl hl1 (1 + (k : Int)) (key_three (key_st _ ht1) (key_ns _ ht2) (key_st _ ht3)) ?_
  intro hn3 hl3 _
  simp -implicitDefEqProofs only [go_sem,zA,zB,zC,zD,zE,reduceCtorEq,↓reduceIte,zF,zG,zH,zI]
  refine s_ld (j := 4) (cells_lk ⟨co, by simp, hco⟩) (by simp) (by simp) ?_
  simp -implicitDefEqProofs only [go_sem,zA,zB,zC,zD,zE,reduceCtorEq,↓reduceIte,zF,zG,zH,zI]
  intro b3
  refine s_app1 (ix := 3) (x := t) rfl hBN (Mem.le.refl _) rfl cells_one rfl (by simp; omega) (by unfold maxLen; simp; omega) ?_
  intro v1 gN' hB1 _
  obtain ⟨A1, c1, rfl⟩ := hB1.val
  simp -implicitDefEqProofs only [go_sem,zA,zB,zC,zD,zE,reduceCtorEq,↓reduceIte,zF,zG,zH,zI]
  refine s_storeN (ix := 2) rfl hco (by simp) ?_
  intro co' hco'
  simp only [setC, List.take_succ_cons, List.take_zero, List.drop_succ_cons, List.drop_zero, cellsV, List.cons_append, List.nil_append] at hco'
  simp -implicitDefEqProofs only [go_sem,zA,zB,zC,zD,zE,reduceCtorEq,↓reduceIte,zF,zG,zH,zI]
  simp (disch := omega) only [wrap_id]
  have e1 : ((-1, -1, -1) : Tri) :: used.take k ++ [t] = ((-1, -1, -1) : Tri) :: used.take (k + 1) := by rw [htk]; rfl
  have e2 : (((-1, -1, -1) : Tri) :: used.take k ++ [t]).length = k + 1 + 1 := by simp; omega
  rw [e1] at hB1
  rw [show (used.take k ++ [t]).length + 1 = k + 1 + 1 by simp; omega] at hco'
  rw [show (((-1, -1, -1) : Tri) :: used.take (k + 1)).length = k + 1 + 1 by rw [← e1]; exact e2] at hB1
  refine ⟨f - 1, by omega, Up.skip (Up.here ⟨hn3, co', gN', A1, c1, k + 1, rfl, rfl, by omega, hco', hB1, _, hl3, fun t' ht' => ?_⟩)⟩
  rw [mget_put]
  rw [htk] at ht'
  by_cases e : triK t' = triK t
  ·rw [if_pos e, triK_inj _ _ e, hnu, Int.add_comm]
  ·rw [if_neg e]
   rcases List.mem_append.1 ht' with q | q
   ·exact hl2 t' q
   ·simp at q; exact absurd (by rw [q]) e
 have hk : k = used.length := by omega
 subst hk
 rw [List.take_length] at hBN
 obtain ⟨num, hnum⟩ : ∃ num, numU used = num := ⟨_, rfl⟩
 obtain ⟨Ns, hNs⟩ : ∃ v, Value.slice AN (used.length + 1) cN = v := ⟨_, rfl⟩
 refine CallVC.read (meet_ends (g := g) (G := G) (A := A) (B := B) (u := .slice U.1 used.length U.2) V D h12 hTl hTs ⟨w, lk_r _ _ _ _ hm⟩ (hA.mono (lk_r _ _)) (htab.mono (lk_r _ _) (lk_r _ _))) ?_
 rintro v Γ' ⟨ge, rfl, hBe⟩
 have hEl : (endsL g d T).length ≤ 12 := by
  have h1 := List.length_filter_le (fun p => decide (0 ≤ accD d p)) (T d.st g.st)
  have := hTl d.st g.st
  unfold endsL
  omega
 obtain ⟨Ae, ce, rfl, hse⟩ := hBe.slok (L' := lk [ge]) (Mem.le.refl _) (lk_sub (by simp)) (by omega)
 obtain ⟨es, hes⟩ : ∃ es, endsL g d T = es := ⟨_, rfl⟩
 have hesr : ∀ p ∈ es, ReaQ g d T (d.st, g.st, p) ∧ StQ d p := fun p hp => by
  rw [← hes, endsL, List.mem_filter] at hp
  exact ⟨.start hp.1 (by simpa using hp.2), hTs _ _ _ hp.1⟩
 rw [hes] at hse hEl hBe
 rw [hes]
 have hst := D.st
 have hgs := V.st
 have hO0 : OutB pb co emp emp (lk [emp]) g.ts (1 + (used.length : Int)) Ns [] := ⟨_, _, by rw [← hNs]; exact hco, Bld.nil _ _ _, Bld.nil _ _ _⟩
 simp -implicitDefEqProofs only [go_sem,zA,zB,zC,zD,zE,reduceCtorEq,↓reduceIte,zF,zG,zH,zI]
 refine s_loop (fun f vs Γ => ∃ (co rr fr rg : PH) (k : Nat), vs = [.v true (.int .i64 k)] ∧ Γ = [co, rr, fr, rg, hn2, gN, ge] ∧ k + f = es.length ∧ OutB pb co rr fr (lk [rg]) g.ts (1 + (used.length : Int)) Ns ((startR g d T num).take k)) es.length
  (Up.emp (Up.emp (Up.emp (Up.sel [[5], [0], [1], [2], [4], [6], [3]] (by decide) fun _ _ => ⟨co, emp, emp, emp, 0, rfl, rfl, by omega, hO0⟩)))) ?_
 clear hO0 hco
 rintro f vs Γ ⟨co, rr, fr, rg, k, rfl, rfl, hkf, hO⟩
 simp -implicitDefEqProofs only [S162_2, go_sem,zA,zB,zC,zD,zE,reduceCtorEq,↓reduceIte,zF,zG,zH,zI]
 refine ⟨fun hlt => ?_, fun hge => ?_⟩
 ·have hk : k < es.length := by omega
  obtain ⟨b1, o1, hA1, hc1⟩ := hse.int (i := k) hk
  have hsl : (startR g d T num).length = es.length := by simp [startR, hes]
  have htk := List.take_succ_eq_append_getElem (l := startR g d T num) (i := k) (by omega)
  have hsk : (startR g d T num)[k]'(by omega) = (⟨0, [⟨false, num (d.st, g.st, es[k])⟩]⟩, -1) := by simp [startR, hes]
  rw [hsk] at htk
  obtain ⟨p, hp⟩ : ∃ p, es[k] = p := ⟨_, rfl⟩
  have hpr := hesr p (hp ▸ List.getElem_mem hk)
  rw [hp] at hc1 htk
  refine s_idx hA1 (by omega) (by omega) ?_
  simp -implicitDefEqProofs only [go_sem,zA,zB,zC,zD,zE,reduceCtorEq,↓reduceIte,zF,zG,zH,zI]
  refine s_ld0 (hc1 _ (lk_sub (by simp))) (by simp) (by simp) ?_
  simp -implicitDefEqProofs only [go_sem,zA,zB,zC,zD,zE,reduceCtorEq,↓reduceIte,zF,zG,zH,zI]
  refine s_ld (j := 4) (hmk _) (by simp [mkrC]) (by simp) ?_
  simp only [mkrC]
  simp -implicitDefEqProofs only [go_sem,zA,zB,zC,zD,zE,reduceCtorEq,↓reduceIte,zF,zG,zH,zI]
  refine s_ld (j := 2) (hmk _) (by simp [mkrC]) (by simp) ?_
  simp only [mkrC]
  simp -implicitDefEqProofs only [go_sem,zA,zB,zC,zD,zE,reduceCtorEq,↓reduceIte,zF,zG,zH,zI]
  refine s_q trivial (hNum.look (t := (d.st, g.st, p)) (by simp) ((hu _).2 hpr.1) (key_st _ D.st) (key_ns _ V.st) (key_st _ hpr.2)) ?_
  rw [hnum]
  simp -implicitDefEqProofs only [go_sem,zA,zB,zC,zD,zE,reduceCtorEq,↓reduceIte,zF,zG,zH,zI]
  intro b2
  obtain ⟨nm, hnm⟩ : ∃ x, num (d.st, g.st, p) = x := ⟨_, rfl⟩
  rw [hnm] at htk ⊢
  refine CallVC.perm (build_add (Γr := []) (L' := lk [one b2 (.cells [Value.bool false, Value.int IntKind.i64 nm].toArray 53), rg]) (x := ⟨0, [⟨false, nm⟩]⟩) (f := -1) hO (lk_sub (by simp)) (lit_rep1 (x := (⟨false, nm⟩ : Sy)) ⟨_, List.mem_cons_self .., one_self _ _⟩ rfl) (by rw [List.length_take]; omega)) ((List.perm_append_comm (l₁ := [_]) (l₂ := [co, rr, fr])).append_right [rg, hn2, gN, ge]) (List.nil_sublist _) ?_
  rintro v Γ' ⟨rfl, co', rr', fr', rfl, hO'⟩
  simp -implicitDefEqProofs only [go_sem,zA,zB,zC,zD,zE,reduceCtorEq,↓reduceIte,zF,zG,zH,zI]
  simp (disch := omega) only [wrap_id]
  rw [← htk] at hO'
  exact ⟨f - 1, by omega, Up.sel [[0], [1], [2], [3, 4], [5], [6], [7]] (by decide) fun _ hm2 => ⟨co', rr', fr', _, k + 1, rfl, rfl, by omega, hO'.mono (hm2 [3, 4] (by simp))⟩⟩
 have hk : k = es.length := by omega
 subst hk
 have hsl : (startR g d T num).length = es.length := by simp [startR, hes]
 rw [List.take_of_length_le (by omega)] at hO
 refine s_ld (j := 8) (hmk _) (by simp [mkrC]) (by simp) ?_
 simp only [mkrC]
 simp -implicitDefEqProofs only [go_sem,zA,zB,zC,zD,zE,reduceCtorEq,↓reduceIte,zF,zG,zH,zI]
 refine s_loop (fun f vs Γ => ∃ (co rr fr rg : PH) (i : Nat), vs = [.v true (.int .i64 i)] ∧ Γ = [co, rr, fr, rg, hn2, gN] ∧ i + f = used.length ∧ OutB pb co rr fr (lk [rg]) g.ts (1 + (used.length : Int)) Ns (rulP g d T num used i)) used.length
  (Up.sel [[0], [1], [2], [3], [4], [5]] (by decide) fun _ _ => ⟨co, rr, fr, rg, 0, rfl, rfl, by omega, by simpa [rulP] using hO⟩) ?_
 clear hO hse hBe hesr hsl hEl
 rintro f vs Γ ⟨co, rr, fr, rg, i, rfl, rfl, hif, hO⟩
 simp -implicitDefEqProofs only [S162_12, go_sem,zA,zB,zC,zD,zE,reduceCtorEq,↓reduceIte,zF,zG,zH,zI]
 refine ⟨fun hlt => ?_, fun hge => ?_⟩
 ·have hi : i < used.length := by omega
  obtain ⟨t, ht⟩ : ∃ t, used[i] = t := ⟨_, rfl⟩
  have hti : used[i]? = some t := by rw [List.getElem?_eq_getElem hi, ht]
  have htm : t ∈ used := ht ▸ List.getElem_mem hi
  have htr := (hu t).1 htm
  obtain ⟨ht1, ht2, ht3⟩ := rea_st V D hT hTs htr
  obtain ⟨b1, o1, hA1, hc1⟩ := hU.tri hti
  have hPl := rulP_len (num := num) (show i ≤ used.length by omega) (g := g) (d := d) (T := T)
  have hPs := rulP_succ (num := num) hti (g := g) (d := d) (T := T)
  have hSs := sumC_succ hti (g := g) (d := d) (T := T)
  have hSl := sumC_le (show i + 1 ≤ used.length by omega) (g := g) (d := d) (T := T) (used := used)
  obtain ⟨P0, hP0⟩ : ∃ P0, rulP g d T num used i = P0 := ⟨_, rfl⟩
  rw [hP0] at hO hPl hPs
  refine s_idx hA1 (by omega) (by omega) ?_
  simp -implicitDefEqProofs only [go_sem,zA,zB,zC,zD,zE,reduceCtorEq,↓reduceIte,zF,zG,zH,zI]
  refine s_ld0 (hc1 _ (lk_r _ _)) (by simp) (by simp) ?_
  simp -implicitDefEqProofs only [go_sem,zA,zB,zC,zD,zE,reduceCtorEq,↓reduceIte,zF,zG,zH,zI]
  intro b2
  refine s_ld (j := 3) (hmk _) (by simp [mkrC]) (by simp) ?_
  simp only [mkrC]
  simp -implicitDefEqProofs only [go_sem,zA,zB,zC,zD,zE,reduceCtorEq,↓reduceIte,zF,zG,zH,zI]
  refine s_loop (fun f1 vs Γ => ∃ (co rr fr rg : PH) (j : Nat), vs = [.v true (.int .i64 j)] ∧ Γ = [co, rr, fr, rg, hn2, gN] ∧ j + f1 = g.rs.length ∧ OutB pb co rr fr (lk [rg]) g.ts (1 + (used.length : Int)) Ns (P0 ++ rulK g d T num t j)) g.rs.length
   (Up.here ⟨co, rr, fr, rg, 0, rfl, rfl, by omega, by simpa [rulK] using hO⟩) ?_
  clear hO
  rintro f1 vs Γ ⟨co, rr, fr, rg, j, rfl, rfl, hjf, hO⟩
  simp -implicitDefEqProofs only [S162_11, go_sem,zA,zB,zC,zD,zE,reduceCtorEq,↓reduceIte,zF,zG,zH,zI]
  refine ⟨fun hlt2 => ?_, fun hge2 => ?_⟩
  ·have hj : j < g.rs.length := by omega
   obtain ⟨b3, o3, hA3, A4, c4, hs4, hc4⟩ := hG.ru hj
   obtain ⟨r, hr⟩ : ∃ r, g.rs[j] = r := ⟨_, rfl⟩
   have hrm : r ∈ g.rs := hr ▸ List.getElem_mem hj
   have hck := cntK_succ (d := d) (T := T) (t := t) hj
   have hrk := rulK_succ (d := d) (T := T) (t := t) (num := num) hj
   have hrl := rulK_len (d := d) (T := T) (t := t) (num := num) (show j ≤ g.rs.length by omega)
   have hcl := cntK_le (g := g) (d := d) (T := T) (t := t) (j + 1)
   rw [hr] at hs4 hc4 hck hrk
   refine s_split ?_
   simp -implicitDefEqProofs only [S162_9, S162_10, go_sem,zA,zB,zC,zD,zE,reduceCtorEq,↓reduceIte,zF,zG,zH,zI]
   refine s_idx hA3 (by omega) (by omega) ?_
   simp -implicitDefEqProofs only [go_sem,zA,zB,zC,zD,zE,reduceCtorEq,↓reduceIte,zF,zG,zH,zI]
   refine s_ld0 (hc4 _ (lk_r _ _)) (by simp) (by simp) ?_
   simp -implicitDefEqProofs only [go_sem,zA,zB,zC,zD,zE,reduceCtorEq,↓reduceIte,zF,zG,zH,zI]
   intro b5
   refine s_idxAB (by omega) (by omega) 1 rfl ?_
   simp -implicitDefEqProofs only [go_sem,zA,zB,zC,zD,zE,reduceCtorEq,↓reduceIte,zF,zG,zH,zI]
   refine ⟨fun hne => ?_, fun heq => ?_⟩
   ·simp (disch := omega) only [wrap_id]
    rw [if_neg hne, List.append_nil] at hrk
    exact Up.here ⟨f1 - 1, by omega, Up.here ⟨co, rr, fr, rg, j + 1, rfl, rfl, by omega, by rw [hrk]; exact hO⟩⟩
   rw [if_pos heq] at hck hrk
   refine s_idxAB (by omega) (by omega) 0 rfl ?_
   simp -implicitDefEqProofs only [go_sem,zA,zB,zC,zD,zE,reduceCtorEq,↓reduceIte,zF,zG,zH,zI]
   refine s_idxAB (by omega) (by omega) 2 rfl ?_
   simp -implicitDefEqProofs only [go_sem,zA,zB,zC,zD,zE,reduceCtorEq,↓reduceIte,zF,zG,zH,zI]
   have hr4 := V.right r hrm
   have hrs := V.sym r hrm
   refine CallVC.read (meet_ways (g := g) (G := G) (A := A) (B := B) (u := .slice U.1 used.length U.2) D hT hTl (fun q n => srt_nodup (hI.srt q n)) hTs r.r ⟨w, lk_r _ _ _ _ hm⟩ (hB.mono (lk_r _ _)) (htab.mono (lk_r _ _) (lk_r _ _)) (hs4.mono (lk_r _ _)) ht1 hr4 (fun s hs => ⟨(hrs s hs).1, (hrs s hs).2.1, fun h => by have := (hrs s hs).2.2 h; omega⟩)) ?_
   rintro v Γ' ⟨gw, Aw, cw, rfl, rfl, hsw⟩
   have hwl := ways_le (d := d) hTl (fun q n => srt_nodup (hI.srt q n)) hr4 t.1 t.2.2
   have hwe : ∀ x ∈ waysF T d r.r t.1 t.2.2, x.length = r.r.length := fun x hx => ways_len4 hx
   have hwr : ∀ x ∈ waysF T d r.r t.1 t.2.2, ∀ t' ∈ triL r.r t.1 x, ReaQ g d T t' := fun x hx t' ht' => .step htr hrm heq hx ht'
   obtain ⟨ws, hws⟩ : ∃ ws, waysF T d r.r t.1 t.2.2 = ws := ⟨_, rfl⟩
   rw [hws] at hsw hwl hwe hwr hck hrk
   rw [hws]
   obtain ⟨P1, hP1⟩ : ∃ P1, P0 ++ rulK g d T num t j = P1 := ⟨_, rfl⟩
   have hP1l : P1.length + ws.length ≤ 4000 := by rw [← hP1, List.length_append]; omega
   rw [hP1] at hO
   have hrk : P0 ++ rulK g d T num t (j + 1) = P1 ++ ws.map fun xs => (⟨num t, symW num r.r t.1 xs⟩, (j : Int)) := by rw [hrk, ← List.append_assoc, hP1]
   simp -implicitDefEqProofs only [go_sem,zA,zB,zC,zD,zE,reduceCtorEq,↓reduceIte,zF,zG,zH,zI]
   refine s_loop (fun f2 vs Γ => ∃ (co rr fr rg : PH) (m : Nat), vs = [.v true (.int .i64 m)] ∧ Γ = [co, rr, fr, rg, gw, hn2, gN] ∧ m + f2 = ws.length ∧ OutB pb co rr fr (lk [rg]) g.ts (1 + (used.length : Int)) Ns (P1 ++ (ws.take m).map fun xs => (⟨num t, symW num r.r t.1 xs⟩, (j : Int)))) ws.length
    (Up.sel [[1], [2], [3], [4], [0], [5], [6]] (by decide) fun _ _ => ⟨co, rr, fr, rg, 0, rfl, rfl, by omega, by simpa using hO⟩) ?_
   clear hO
   rintro f2 vs Γ ⟨co, rr, fr, rg, m, rfl, rfl, hmf, hO⟩
   simp -implicitDefEqProofs only [S162_8, go_sem,zA,zB,zC,zD,zE,reduceCtorEq,↓reduceIte,zF,zG,zH,zI]
   refine ⟨fun hlt3 => ?_, fun hge3 => ?_⟩
   ·have hm' : m < ws.length := by omega
    have htkm := List.take_succ_eq_append_getElem hm'
    have hwm := List.getElem_mem hm'
    obtain ⟨b6, o6, hA6, A6, c6, hs6, hc6⟩ := hsw.list (i := m) (by simpa using hm')
    simp only [List.getElem_map] at hs6 hc6
    obtain ⟨x, hx⟩ : ∃ x, ws[m] = x := ⟨_, rfl⟩
    rw [hx] at htkm hwm hs6 hc6
    have hxl := hwe x hwm
    have hxr := hwr x hwm
    simp only [List.length_cons] at hc6
    refine s_idx hA6 (by omega) (by omega) ?_
    simp -implicitDefEqProofs only [go_sem,zA,zB,zC,zD,zE,reduceCtorEq,↓reduceIte,zF,zG,zH,zI]
    refine s_ld0 (hc6 _ (lk_sub (by simp))) (by simp) (by simp) ?_
    simp -implicitDefEqProofs only [go_sem,zA,zB,zC,zD,zE,reduceCtorEq,↓reduceIte,zF,zG,zH,zI]
    have hyl := symW_len (num := num) (q := t.1) hxl
    have hym : ∀ k (hk : k < r.r.length), (symW num r.r t.1 x).take (k + 1) = (symW num r.r t.1 x).take k ++ [if r.r[k].t = true then r.r[k] else ⟨false, num (triW r.r (t.1 :: x) k)⟩] := fun k hk => symW_take hxl hk
    obtain ⟨Y, hY⟩ : ∃ Y, symW num r.r t.1 x = Y := ⟨_, rfl⟩
    rw [hY] at hyl hym
    refine s_loop (fun f3 vs Γ => ∃ (go : PH) (v : Value) (k : Nat), vs = [.v true v, .v true (.int .i64 k)] ∧ Γ = [go, co, rr, fr, rg, gw, hn2, gN] ∧ k + f3 = r.r.length ∧ Bld go (lk []) 53 v (Y.take k)) r.r.length
     (Up.emp (Up.here ⟨emp, _, 0, rfl, rfl, by omega, Bld.nil _ _ _⟩)) ?_
    rintro f3 vs Γ ⟨go, v, k, rfl, rfl, hkf, hBo⟩
    obtain ⟨Ao, c0, rfl⟩ := hBo.val
    simp -implicitDefEqProofs only [S162_7, go_sem,zA,zB,zC,zD,zE,reduceCtorEq,↓reduceIte,zF,zG,zH,zI]
    refine ⟨fun hlt4 => ?_, fun hge4 => ?_⟩
    ·have hk : k < r.r.length := by omega
     obtain ⟨b8, o8, hA8, hc8⟩ := hs4.sy hk
     have hyk := hym k hk
     obtain ⟨s, hs⟩ : ∃ s, r.r[k] = s := ⟨_, rfl⟩
     have hss := hrs s (hs ▸ List.getElem_mem hk)
     rw [hs] at hc8 hyk
     have hlk : (Y.take k).length = k := by rw [List.length_take]; omega
     refine s_split ?_
     simp -implicitDefEqProofs only [S162_5, S162_6, go_sem,zA,zB,zC,zD,zE,reduceCtorEq,↓reduceIte,zF,zG,zH,zI]
     refine s_idx hA8 (by omega) (by omega) ?_
     simp -implicitDefEqProofs only [go_sem,zA,zB,zC,zD,zE,reduceCtorEq,↓reduceIte,zF,zG,zH,zI]
     refine s_ld0 (hc8 _ (lk_r _ _)) (by simp) (by simp) ?_
     simp -implicitDefEqProofs only [go_sem,zA,zB,zC,zD,zE,reduceCtorEq,↓reduceIte,zF,zG,zH,zI]
     intro b9
     refine s_split ?_
     simp -implicitDefEqProofs only [S162_3, S162_4, go_sem,zA,zB,zC,zD,zE,reduceCtorEq,↓reduceIte,zF,zG,zH,zI]
     refine ⟨fun hst0 => ?_, fun hst1 => ?_⟩
     ·have hwl1 : k < (t.1 :: x).length := by simp; omega
      have hwl2 : k + 1 < (t.1 :: x).length := by simp; omega
      obtain ⟨b10, o10, hA10, hc10⟩ := hs6.int hwl1
      obtain ⟨b11, o11, hA11, hc11⟩ := hs6.int hwl2
      obtain ⟨p1, hp1⟩ : ∃ p, (t.1 :: x)[k] = p := ⟨_, rfl⟩
      obtain ⟨p2, hp2⟩ : ∃ p, (t.1 :: x)[k + 1] = p := ⟨_, rfl⟩
      rw [hp1] at hc10
      rw [hp2] at hc11
      have hgd : r.r.getD k ⟨true, 0⟩ = s := by simp [hk, hs]
      have htw : triW r.r (t.1 :: x) k = (p1, s.n, p2) := by
       unfold triW
       rw [hgd, List.getD_eq_getElem?_getD, List.getD_eq_getElem?_getD, List.getElem?_eq_getElem hwl1, List.getElem?_eq_getElem hwl2, hp1, hp2]
       rfl
      have htr' : ReaQ g d T (p1, s.n, p2) := hxr _ ((triL_at hxl _).2 ⟨k, hk, by rw [hgd]; exact hst0, htw.symm⟩)
      obtain ⟨hk1, hk2, hk3⟩ := rea_st V D hT hTs htr'
      refine s_idx hA10 (by omega) (by simp; omega) ?_
      simp -implicitDefEqProofs only [go_sem,zA,zB,zC,zD,zE,reduceCtorEq,↓reduceIte,zF,zG,zH,zI]
      refine s_ld0 (hc10 _ (lk_sub (by simp))) (by simp) (by simp) ?_
      simp -implicitDefEqProofs only [go_sem,zA,zB,zC,zD,zE,reduceCtorEq,↓reduceIte,zF,zG,zH,zI]
      simp (disch := omega) only [wrap_id]
      refine s_idx hA11 (by omega) (by simp; omega) ?_
      simp -implicitDefEqProofs only [go_sem,zA,zB,zC,zD,zE,reduceCtorEq,↓reduceIte,zF,zG,zH,zI]
      refine s_ld0 (hc11 _ (lk_sub (by simp))) (by simp) (by simp) ?_
      simp -implicitDefEqProofs only [go_sem,zA,zB,zC,zD,zE,reduceCtorEq,↓reduceIte,zF,zG,zH,zI]
      refine s_q trivial (hNum.look (t := (p1, s.n, p2)) (by simp) ((hu _).2 htr') (key_st _ hk1) (key_ns _ hk2) (key_st _ hk3)) ?_
      rw [hnum]
      simp -implicitDefEqProofs only [go_sem,zA,zB,zC,zD,zE,reduceCtorEq,↓reduceIte,zF,zG,zH,zI]
      refine Up.here ?_
      intro b12
      refine s_app1 (ix := 1) (x := (⟨false, num (p1, s.n, p2)⟩ : Sy)) rfl hBo (Mem.le.refl _) (by rw [hst0]; rfl) cells_one rfl (by omega) (by unfold maxLen; omega) ?_
      intro v13 go' hB13 _
      rw [hst0, if_neg (by simp), htw] at hyk
      rw [← hyk] at hB13
      simp -implicitDefEqProofs only [go_sem,zA,zB,zC,zD,zE,reduceCtorEq,↓reduceIte,zF,zG,zH,zI]
      simp (disch := omega) only [wrap_id]
      exact Up.here ⟨f3 - 1, by omega, Up.sel [[1], [2], [3], [4], [5], [6], [7], [8]] (by decide) fun _ _ => ⟨go', _, k + 1, rfl, rfl, by omega, hB13⟩⟩
     ·refine Up.here ?_
      intro b12
      refine s_app1 (ix := 1) (x := (⟨s.t, s.n⟩ : Sy)) rfl hBo (Mem.le.refl _) rfl cells_one rfl (by omega) (by unfold maxLen; omega) ?_
      intro v13 go' hB13 _
      rw [hst1, if_pos rfl] at hyk
      rw [← hyk] at hB13
      simp -implicitDefEqProofs only [go_sem,zA,zB,zC,zD,zE,reduceCtorEq,↓reduceIte,zF,zG,zH,zI]
      simp (disch := omega) only [wrap_id]
      exact Up.here ⟨f3 - 1, by omega, Up.sel [[1], [2], [3], [4], [5], [6], [7], [8]] (by decide) fun _ _ => ⟨go', _, k + 1, rfl, rfl, by omega, hB13⟩⟩
    ·have hk : k = r.r.length := by omega
     rw [List.take_of_length_le (by omega)] at hBo
     rw [List.take_of_length_le (by omega)]
     refine s_q trivial (hNum.look (t := t) (by simp) htm (key_st _ ht1) (key_ns _ ht2) (key_st _ ht3)) ?_
     rw [hnum]
     simp -implicitDefEqProofs only [go_sem,zA,zB,zC,zD,zE,reduceCtorEq,↓reduceIte,zF,zG,zH,zI]
     obtain ⟨_, _, e1, hso⟩ := hBo.slok (L' := lk [go, rg]) (lk_sub (by simp)) (fun b o ⟨x, hx, _⟩ => by cases hx) (by omega)
     simp only [Value.slice.injEq, true_and] at e1
     obtain ⟨rfl, rfl⟩ := e1
     refine CallVC.perm (build_add (Γr := []) (L' := lk [go, rg]) (x := ⟨num t, Y⟩) (f := (j : Int)) hO (lk_sub (by simp)) hso (by rw [List.length_append, List.length_map, List.length_take]; omega)) ((List.perm_append_comm (l₁ := [go]) (l₂ := [co, rr, fr])).append_right [rg, gw, hn2, gN]) (List.nil_sublist _) ?_
     rintro v Γ' ⟨rfl, co', rr', fr', rfl, hO'⟩
     simp -implicitDefEqProofs only [go_sem,zA,zB,zC,zD,zE,reduceCtorEq,↓reduceIte,zF,zG,zH,zI]
     simp (disch := omega) only [wrap_id]
     refine ⟨f2 - 1, by omega, Up.sel [[0], [1], [2], [3, 4], [5], [6], [7]] (by decide) fun _ hm2 => ⟨co', rr', fr', _, m + 1, rfl, rfl, by omega, ?_⟩⟩
     rw [htkm, List.map_append, ← List.append_assoc, List.map_singleton, hY]
     exact hO'.mono (hm2 [3, 4] (by simp))
   ·have hm' : m = ws.length := by omega
    rw [hm', List.take_length, ← hrk] at hO
    simp (disch := omega) only [wrap_id]
    refine Up.here ?_
    exact ⟨f1 - 1, by omega, Up.sel [[0], [1], [2], [3], [5], [6]] (by decide) fun _ _ => ⟨co, rr, fr, rg, j + 1, rfl, rfl, by omega, hO⟩⟩
  ·have hj : j = g.rs.length := by omega
   rw [hj, rulK_all, ← hPs] at hO
   simp (disch := omega) only [wrap_id]
   exact ⟨f - 1, by omega, Up.here ⟨co, rr, fr, rg, i + 1, rfl, rfl, by omega, hO⟩⟩
 ·have hi : i = used.length := by omega
  rw [hi, rulP_all] at hO
  obtain ⟨vr, vf, hco, hBr, hBf⟩ := hO
  refine s_ld0 (cells_lk ⟨co, by simp, hco⟩) (by simp) (by simp) ?_
  obtain ⟨A1, c1, rfl, _⟩ := hBr.slok (L' := lk [rr, rg]) (lk_sub (by simp)) (lk_sub (by simp)) (by rw [List.length_map, rulP_all.symm, rulP_len (Nat.le_refl _)]; omega)
  obtain ⟨A2, c2, rfl⟩ := hBf.val
  subst hNs
  simp -implicitDefEqProofs only [go_sem,zA,zB,zC,zD,zE,reduceCtorEq,↓reduceIte,zF,zG,zH,zI]
  refine Up.one fun gx hx => ?_
  have hlr : (rulesP g d T num used).length ≤ 4000 := by rw [← rulP_all, rulP_len (Nat.le_refl _)]; exact h4
  obtain ⟨_, _, e1, h1⟩ := hBr.slok (L' := lk [gx]) (Mem.le.trans (lk_sub (by simp)) hx) (Mem.le.trans (lk_sub (by simp)) hx) (by rw [List.length_map]; omega)
  obtain ⟨_, _, e2, h2⟩ := hBf.slok (L' := lk [gx]) (Mem.le.trans (lk_sub (by simp)) hx) (lk_sub (by simp)) (by rw [List.length_map]; omega)
  obtain ⟨_, _, e3, h3⟩ := hBN.slok (L' := lk [gx]) (Mem.le.trans (lk_sub (by simp)) hx) (lk_sub (by simp)) (by simp; omega)
  simp only [Value.slice.injEq, true_and] at e1 e2 e3
  obtain ⟨rfl, rfl⟩ := e1
  obtain ⟨rfl, rfl⟩ := e2
  obtain ⟨rfl, _, rfl⟩ := e3
  rw [List.length_map, List.length_map]
  subst hR hnum
  refine ⟨gx, ⟨_, _⟩, ⟨_, _⟩, ⟨_, _⟩, rfl, ?_, h1, h3, h2⟩
  unfold prdV
  rw [Nat.add_comm 1 used.length, Int.add_comm 1]
  rfl
/- The text of parlance/meet.Check as a statement; no condition. -/
def S69_0 : Stmt :=
 .seq
 (.region
 [oq 2 (.box true 24 (.tmp 0)),oq 3 (.box true 94 (.tmp 1)),
 oq 4 (.mv (.const (.int .i64 0)))]
 [2,3])
 (.seq
 (.seq
 (.region
 [oq 7 (.load true 4 (.tmp 2)),
 oq 8 (.call (.func 79) [.tmp 7]),
 oq 5 (.mv (.tmp 8))]
 [2,3,5])
 (.seq
 (.region
 [oq 9 (.mv (.tmp 5)),
 oq 10 (.ibin .neq (.tmp 9) (.const (.int .i64 0)))]
 [2,3,5,10])
 (.cond (.tmp 10)
 (.seq
 (.region
 [oq 11 (.mv (.tmp 5)),oq 4 (.mv (.tmp 11))] [4])
 .ret)
 .skip)))
 (.seq
 (.seq
 (.region
 [oq 12 (.load true 3 (.tmp 3)),
 oq 13 (.call (.func 149) [.tmp 12]),
 oq 6 (.mv (.tmp 13))]
 [2,3,6])
 (.seq
 (.region
 [oq 14 (.mv (.tmp 6)),
 oq 15 (.ibin .neq (.tmp 14) (.const (.int .i64 0)))]
 [2,3,6,15])
 (.cond (.tmp 15)
 (.seq
 (.region
 [oq 16 (.mv (.tmp 6)),oq 4 (.mv (.tmp 16))]
 [4])
 .ret)
 .skip)))
 (.seq
 (.seq
 (.quiet
 [oq 17 (.fld 2 (.tmp 3)),
 oq 18 (.load false 1 (.tmp 17)),
 oq 19 (.idx 1 (.tmp 18) (.const (.int .i64 0))),
 oq 20 (.load false 1 (.tmp 19)),
 oq 21 (.len false (.tmp 20)),
 oq 22 (.fld 0 (.tmp 2)),
 oq 23 (.load false 1 (.tmp 22)),
 oq 24 (.ibin .neq (.tmp 21) (.tmp 23))]
 [3,24])
 (.cond (.tmp 24)
 (.seq (.region [oq 4 (.mv (.const (.int .i64 1)))] [4])
 .ret)
 .skip))
 (.seq
 (.seq
 (.region
 [oq 25 (.fld 2 (.tmp 3)),
 oq 26 (.load false 1 (.tmp 25)),
 oq 27 (.len false (.tmp 26)),
 .mk (some 28) none
 (.ibin .gtr (.tmp 27) (.const (.int .i64 12)))]
 [28])
 (.cond (.tmp 28)
 (.seq (.region [oq 4 (.mv (.const (.int .i64 2)))] [4])
 .ret)
 .skip))
 (.seq (.region [oq 4 (.mv (.const (.int .i64 0)))] [4])
 .ret)))))
def S69 : FnS := ⟨29,[(4,none)],S69_0⟩
theorem tr69 : trFn Try.prog 69 [2,3] [[2,3],[2,3,5],[2,3,5,10],[4],[2,3,6],[2,3,6,15],[4],[3,24],[4],[28],[4],[4]] = some S69 := by kernel_rfl
/- The text of parlance/meet.Of as a statement; no condition. -/
def S66_0 : Stmt :=
 .seq
 (.region
 [oq 2 (.box true 24 (.tmp 0)),oq 3 (.box true 94 (.tmp 1)),
 .mk (some 4) none
 (.alloc true 118
 (.agg
 (Array.mk
 [.int .i64 0,.int .i64 0,.int .i64 0,.slice none 0 0,
 .slice none 0 0,.slice none 0 0]))),
 oq 5 (.mv (.const (.int .i64 0)))]
 [2,3,4])
 (.seq
 (.seq
 (.region
 [oq 8 (.load true 4 (.tmp 2)),
 oq 9 (.load true 3 (.tmp 3)),
 oq 10 (.call (.func 69) [.tmp 8,.tmp 9]),
 oq 6 (.mv (.tmp 10))]
 [2,3,4,6])
 (.seq
 (.region
 [oq 11 (.mv (.tmp 6)),
 oq 12 (.ibin .neq (.tmp 11) (.const (.int .i64 0)))]
 [2,3,4,6,12])
 (.cond (.tmp 12)
 (.seq
 (.region
 [.mk (some 13) none
 (.build 118
 [.int .i64 0,.int .i64 0,.int .i64 0,.slice none 0 0,
 .slice none 0 0,.slice none 0 0]
 []),
 oq 14 (.mv (.tmp 6)),
 .mk none none (.store 6 (.tmp 4) (.tmp 13)),
 oq 5 (.mv (.tmp 14))]
 [4,5])
 .ret)
 .skip)))
 (.seq
 (.region
 [oq 15 (.load true 4 (.tmp 2)),
 oq 16 (.load true 3 (.tmp 3)),oq 17 (.n (Qk.mkmap 247) []),
 .mk (some 18) none
 (.build 249
 [.int .i64 0,.int .i64 0,.int .i64 0,.slice none 0 0,
 .int .i64 0,.slice none 0 0,.slice none 0 0,.map none,
 .slice none 0 0]
 [(0,4,.tmp 15),(4,3,.tmp 16),(7,1,.tmp 17)]),
 oq 19 (.box false 249 (.tmp 18)),
 oq 7 (.mv (.tmp 19))]
 [4,7])
 (.seq
 (.region
 [oq 20 (.mv (.tmp 7)),
 oq 21 (.call (.func 160) [.tmp 20])]
 [4,7])
 (.seq
 (.seq
 (.region
 [oq 22 (.mv (.tmp 7)),
 oq 23 (.call (.func 161) [.tmp 22]),
 oq 24 (.un .not (.tmp 23))]
 [4,7,24])
 (.cond (.tmp 24)
 (.seq
 (.region
 [.mk (some 25) none
 (.build 118
 [.int .i64 0,.int .i64 0,.int .i64 0,
 .slice none 0 0,.slice none 0 0,.slice none 0 0]
 []),
 .mk none none (.store 6 (.tmp 4) (.tmp 25)),
 oq 5 (.mv (.const (.int .i64 2)))]
 [4,5])
 .ret)
 .skip))
 (.seq
 (.region
 [oq 26 (.mv (.tmp 7)),
 oq 27 (.call (.func 162) [.tmp 26]),
 .mk none none (.store 6 (.tmp 4) (.tmp 27)),
 oq 5 (.mv (.const (.int .i64 0)))]
 [4,5])
 .ret)))))
def S66 : FnS := ⟨28,[(4,some (true,6)),(5,none)],S66_0⟩
theorem tr66 : trFn Try.prog 66 [2,3,4] [[2,3,4],[2,3,4,6],[2,3,4,6,12],[4,5],[4,7],[4,7],[4,7,24],[4,5],[4,5]] = some S66 := by kernel_rfl
/- The product of a grammar and an automaton: meet's Check and Of walked; no condition. -/
/-- the first error -/
def meetE (g : Gr) (d : Da) : Int := if ckF g ≠ 0 then ckF g else if dfF d ≠ 0 then dfF d else if (colsD d : Int) ≠ g.ts then 1 else if 12 < d.nx.length then 2 else 0
theorem meet_check {Γr : Ctx} {g : Gr} {d : Da} {G A B : Option Addr × Nat} (hG : SlOk (lk Γr) G.1 G.2 g.rs) (hA : SlOk (lk Γr) A.1 A.2 d.ac) (hB : SlOk (lk Γr) B.1 B.2 d.nx) :
  Ret Try.prog 69 [.agg #[.int .i64 g.ts, .int .i64 g.ns, .int .i64 g.st, .slice G.1 g.rs.length G.2], .agg #[.int .i64 d.st, .slice A.1 d.ac.length A.2, .slice B.1 d.nx.length B.2]] Γr [] (fun v Γ => Γ = [] ∧ v = .int .i64 (meetE g d)) := by
 generalize hR : (fun (v : Value) (Γ : Ctx) => Γ = [] ∧ _) = R
 refine ret_of_vc tr69 (Nat.le_of_ble_eq_true rfl) ?_
 unfold meetE at hR
 simp -implicitDefEqProofs only [S69, S69_0, go_sem,zA,zB,zC,zD,zE,reduceCtorEq,↓reduceIte,zF,zG,zH,zI]
 intro b1 b2
 refine CallVC.read (Γ := []) (gram_check (Γr := [] ++ Γr) hG) ?_
 rintro v Γ' ⟨rfl, rfl⟩
 simp -implicitDefEqProofs only [go_sem,zA,zB,zC,zD,zE,reduceCtorEq,↓reduceIte,zF,zG,zH,zI]
 refine ⟨fun h => Up.here ?_, fun h0 => ?_⟩
 ·subst hR
  exact ⟨rfl, by rw [if_pos h]⟩
 rw [if_neg (by omega)] at hR
 refine CallVC.read (Γ := []) (dfa_check (Γr := [] ++ Γr) hA hB) ?_
 rintro v Γ' ⟨rfl, rfl⟩
 simp -implicitDefEqProofs only [go_sem,zA,zB,zC,zD,zE,reduceCtorEq,↓reduceIte,zF,zG,zH,zI]
 refine ⟨fun h => Up.here ?_, fun h1 => ?_⟩
 ·subst hR
  exact ⟨rfl, by rw [if_pos h]⟩
 rw [if_neg (by omega)] at hR
 have D := dfF_ok h1
 have hdl := D.len
 obtain ⟨b3, o3, hB3, A4, c4, hs4, hc4⟩ := hB.list (i := 0) (by omega)
 have hcols : colsD d = d.nx[0].length := (cols_at (by omega)).symm
 rw [hcols] at hR
 refine s_idx hB3 (by omega) (by omega) ?_
 simp -implicitDefEqProofs only [go_sem,zA,zB,zC,zD,zE,reduceCtorEq,↓reduceIte,zF,zG,zH,zI]
 refine s_ld0 (hc4 _ (lk_r _ _)) (by simp) (by simp) ?_
 simp -implicitDefEqProofs only [go_sem,zA,zB,zC,zD,zE,reduceCtorEq,↓reduceIte,zF,zG,zH,zI]
 refine ⟨fun h => Up.here ?_, fun h2 => ?_⟩
 ·subst hR
  exact ⟨rfl, by rw [if_pos h]⟩
 rw [if_neg (by omega)] at hR
 refine ⟨fun h => Up.here ?_, fun h3 => Up.here ?_⟩
 ·subst hR
  exact ⟨rfl, by rw [if_pos (by omega)]⟩
 ·subst hR
  exact ⟨rfl, by rw [if_neg (by omega)]⟩
/-- what is known when there is no error -/
theorem meetE_ok {g : Gr} {d : Da} (h : meetE g d = 0) : VG g ∧ VD d ∧ g.ts = colsD d ∧ d.nx.length ≤ 12 := by
 unfold meetE at h
 split at h
 ·rename_i q; exact absurd h q
 ·rename_i q1
  split at h
  ·rename_i q; exact absurd h q
  ·rename_i q2
   split at h
   ·cases h
   ·rename_i q3
    split at h
    ·cases h
    ·rename_i q4
     exact ⟨ckF_ok (Classical.not_not.1 q1), dfF_ok (Classical.not_not.1 q2), (Classical.not_not.1 q3).symm, by omega⟩
/-- what Of answers -/
def MeetR (g : Gr) (d : Da) (v : Value) (Γ : Ctx) : Prop :=
 (meetE g d ≠ 0 ∧ v = .tuple #[prdV 0 0 0 (none, 0) (none, 0) (none, 0), .int .i64 (meetE g d)]) ∨
 (meetE g d = 0 ∧ ∃ T, TabI g d T ∧ ClsQ g d (TofL T) ∧
   ((v = .tuple #[prdV 0 0 0 (none, 0) (none, 0) (none, 0), .int .i64 2] ∧ ∃ row n, RowI g d T row ∧ 4000 < sumC g d T row n) ∨
    (∃ gx used R N F, Γ = [gx] ∧ v = .tuple #[prdV g.ts (rulesP g d T (numU used) used).length (1 + used.length) R N F, .int .i64 0] ∧ used.Nodup ∧ used.Pairwise (fun a b => ¬ cmpT b a < 0) ∧ (∀ t, t ∈ used ↔ ReaQ g d T t) ∧ sumC g d T used used.length ≤ 4000 ∧
     SlOk (lk [gx]) R.1 R.2 ((rulesP g d T (numU used) used).map (·.1)) ∧ SlOk (lk [gx]) N.1 N.2 (((-1, -1, -1) : Tri) :: used) ∧ SlOk (lk [gx]) F.1 F.2 ((rulesP g d T (numU used) used).map (·.2)))))
theorem meet_of {Γr : Ctx} {g : Gr} {d : Da} {G A B : Option Addr × Nat} (hG : SlOk (lk Γr) G.1 G.2 g.rs) (hA : SlOk (lk Γr) A.1 A.2 d.ac) (hB : SlOk (lk Γr) B.1 B.2 d.nx) :
  Ret Try.prog 66 [.agg #[.int .i64 g.ts, .int .i64 g.ns, .int .i64 g.st, .slice G.1 g.rs.length G.2], .agg #[.int .i64 d.st, .slice A.1 d.ac.length A.2, .slice B.1 d.nx.length B.2]] Γr [] (fun v Γ => MeetR g d v Γ) := by
 generalize hR : (fun (v : Value) (Γ : Ctx) => MeetR g d v Γ) = R
 refine ret_of_vc tr66 (Nat.le_of_ble_eq_true rfl) ?_
 simp -implicitDefEqProofs only [S66, S66_0, go_sem,zA,zB,zC,zD,zE,reduceCtorEq,↓reduceIte,zF,zG,zH,zI]
 intro b1 b2 b3
 refine CallVC.read (Γ := []) (meet_check (Γr := [] ++ Γr) hG hA hB) ?_
 rintro v Γ' ⟨rfl, rfl⟩
 simp -implicitDefEqProofs only [go_sem,zA,zB,zC,zD,zE,reduceCtorEq,↓reduceIte,zF,zG,zH,zI]
 refine ⟨fun h => Up.here ?_, fun h0 => ?_⟩
 ·subst hR
  exact .inl ⟨h, rfl⟩
 obtain ⟨V, D, hT, h12⟩ := meetE_ok h0
 refine s_mkmap ?_
 intro bm
 simp -implicitDefEqProofs only [go_sem,zA,zB,zC,zD,zE,reduceCtorEq,↓reduceIte,zF,zG,zH,zI]
 intro pm
 obtain ⟨hk0, hkd⟩ : ∃ hk0, one pm (.cells #[Value.int IntKind.i64 g.ts, Value.int IntKind.i64 g.ns, Value.int IntKind.i64 g.st, Value.slice G.1 g.rs.length G.2, Value.int IntKind.i64 d.st, Value.slice A.1 d.ac.length A.2, Value.slice B.1 d.nx.length B.2, Value.map (some bm), Value.slice none 0 0] 249) = hk0 := ⟨_, rfl⟩
 have hk0m : hk0 pm = some (.cells (mkrC g d G A B bm (.slice none 0 0)).toArray 249 (0, 0)) := by rw [← hkd]; exact one_self _ _
 rw [hkd]
 clear hkd
 refine CallVC.perm (Γm := [_]) (Γf := [hk0]) (meet_find (Γr := [hk0] ++ Γr) (G := G) (A := A) (B := B) (u := .slice none 0 0) V D hT h12 ⟨_, ⟨hk0, by simp, hk0m⟩⟩ (hG.mono (lk_r _ _)) (hB.mono (lk_r _ _)) (MapM.new bm _ _ _)) (List.Perm.swap _ _ _) (List.Sublist.refl _) ?_
 rintro v Γ' ⟨rfl, hm, gr, T, rfl, ⟨htab, hI⟩, hcl⟩
 simp -implicitDefEqProofs only [go_sem,zA,zB,zC,zD,zE,reduceCtorEq,↓reduceIte,zF,zG,zH,zI]
 refine CallVC.perm (Γm := [hk0]) (Γf := [hm, gr]) (meet_reach (Γr := [hm, gr] ++ Γr) V D hT h12 hI hk0m (hG.mono (lk_r _ _)) (hA.mono (lk_r _ _)) (hB.mono (lk_r _ _)) (htab.mono (lk_sub (by simp)) (lk_sub (by simp)))) ((List.perm_append_comm (l₁ := [hm, gr]) (l₂ := [hk0]))) (List.Sublist.refl _) ?_
 rintro v Γ' (⟨rfl, row, n, hRI, hbig⟩ | ⟨rfl, hk, gu, U, cU, used, rfl, hkm, hsU, hnd, hsrt, hu, hle⟩)
 ·simp -implicitDefEqProofs only [go_sem,zA,zB,zC,zD,zE,reduceCtorEq,↓reduceIte,zF,zG,zH,zI]
  refine Up.to [] (Ent.nil _) ?_
  subst hR
  exact .inr ⟨h0, T, hI, hcl, .inl ⟨rfl, row, n, hRI, hbig⟩⟩
 ·simp -implicitDefEqProofs only [go_sem,zA,zB,zC,zD,zE,reduceCtorEq,↓reduceIte,zF,zG,zH,zI]
  refine CallVC.read (meet_build (Γr := [hk, gu, hm, gr] ++ Γr) (G := G) (A := A) (B := B) (U := (U, cU)) V D hT h12 hI ⟨_, ⟨hk, by simp, hkm⟩⟩ (hG.mono (lk_r _ _)) (hA.mono (lk_r _ _)) (hB.mono (lk_r _ _)) (htab.mono (lk_sub (by simp)) (lk_sub (by simp))) (hsU.mono (lk_sub (by simp))) hnd hu hle) ?_
  rintro v Γ' ⟨gx, R0, N0, F0, rfl, rfl, hs1, hs2, hs3⟩
  unfold prdV
  simp -implicitDefEqProofs only [go_sem,zA,zB,zC,zD,zE,reduceCtorEq,↓reduceIte,zF,zG,zH,zI]
  refine Up.sel [[0]] (by decide) fun _ _ => ?_
  subst hR
  exact .inr ⟨h0, T, hI, hcl, .inr ⟨gx, used, R0, N0, F0, rfl, rfl, hnd, hsrt, hu, hle, hs1, hs2, hs3⟩⟩
/- All words of a length in order; no condition. -/
/-- the word with number i among those of k symbols out of t -/
def dg (t : Nat) : Nat → Nat → List Int
 | 0, _ => []
 | k + 1, i => dg t k (i / t) ++ [((i % t : Nat) : Int)]
theorem dg_len (t : Nat) : ∀ k i, (dg t k i).length = k
 | 0, _ => rfl
 | k + 1, i => by simp [dg, dg_len t k]
theorem dg_mem {t : Nat} (ht : 0 < t) : ∀ {k i : Nat} {x : Int}, x ∈ dg t k i → 0 ≤ x ∧ x < t
 | 0, _, x, h => by simp [dg] at h
 | k + 1, i, x, h => by
  simp only [dg, List.mem_append, List.mem_singleton] at h
  rcases h with h | rfl
  ·exact dg_mem ht h
  ·have := Nat.mod_lt i ht; omega
/-- with another last symbol -/
theorem dg_snoc {t : Nat} (k j c : Nat) (hc : c < t) : dg t (k + 1) (j * t + c) = dg t k j ++ [(c : Int)] := by
 have ht : 0 < t := by omega
 have h1 : (j * t + c) / t = j := by rw [Nat.add_comm, Nat.add_mul_div_right _ _ ht, Nat.div_eq_of_lt hc, Nat.zero_add]
 have h2 : (j * t + c) % t = c := by rw [Nat.add_comm, Nat.add_mul_mod_self_right, Nat.mod_eq_of_lt hc]
 simp only [dg, h1, h2]
theorem dg_inj {t : Nat} (ht : 0 < t) : ∀ {k i j : Nat}, i < t ^ k → j < t ^ k → dg t k i = dg t k j → i = j
 | 0, i, j, hi, hj, _ => by simp at hi hj; omega
 | k + 1, i, j, hi, hj, h => by
  simp only [dg] at h
  have h1 := List.append_inj h (by rw [dg_len, dg_len])
  have h2 : ((i % t : Nat) : Int) = ((j % t : Nat) : Int) := by simpa using h1.2
  have h3 := dg_inj ht (Nat.div_lt_of_lt_mul (by rw [Nat.pow_succ, Nat.mul_comm] at hi; exact hi)) (Nat.div_lt_of_lt_mul (by rw [Nat.pow_succ, Nat.mul_comm] at hj; exact hj)) h1.1
  have h4 := Nat.div_add_mod i t
  have h5 := Nat.div_add_mod j t
  rw [h3] at h4
  have h6 : i % t = j % t := by omega
  omega
/-- the words of k symbols -/
def lev (t k : Nat) : List (List Int) := (List.range (t ^ k)).map (dg t k)
/-- the words of less than k symbols -/
def lvs (t k : Nat) : List (List Int) := (List.range k).flatMap (lev t)
theorem lev_len (t k : Nat) : (lev t k).length = t ^ k := by simp [lev]
theorem lvs_zero (t : Nat) : lvs t 0 = [] := rfl
theorem lvs_succ (t k : Nat) : lvs t (k + 1) = lvs t k ++ lev t k := by simp [lvs, List.range_succ]
theorem lvs_one (t : Nat) : lvs t 1 = [[]] := by simp [lvs, lev, dg]
theorem lvs_len_succ (t k : Nat) : (lvs t (k + 1)).length = (lvs t k).length + t ^ k := by rw [lvs_succ, List.length_append, lev_len]
theorem lvs_at {t k j : Nat} (hj : j < t ^ k) : (lvs t (k + 1))[(lvs t k).length + j]? = some (dg t k j) := by
 rw [lvs_succ, List.getElem?_append_right (by omega), Nat.add_sub_cancel_left, lev, List.getElem?_map, List.getElem?_range hj]
 rfl
theorem lvs_pre {t k n : Nat} (h : k ≤ n) : ∃ r, lvs t n = lvs t k ++ r := by
 induction n with
 | zero => have : k = 0 := by omega
           subst this; exact ⟨[], by simp⟩
 | succ n ih =>
  by_cases e : k = n + 1
  ·subst e; exact ⟨[], by simp⟩
  ·obtain ⟨r, hr⟩ := ih (by omega)
   exact ⟨r ++ lev t n, by rw [lvs_succ, hr, List.append_assoc]⟩
theorem lev_split {t k j : Nat} (hj : j < t ^ k) : ∃ r, lev t k = (List.range j).map (dg t k) ++ dg t k j :: r := by
 refine ⟨((List.range (t ^ k)).drop (j + 1)).map (dg t k), ?_⟩
 unfold lev
 have h1 : List.range (t ^ k) = (List.range (t ^ k)).take j ++ (j :: (List.range (t ^ k)).drop (j + 1)) := by
  have hl : j < (List.range (t ^ k)).length := by simpa using hj
  have h2 := List.drop_eq_getElem_cons hl
  rw [List.getElem_range] at h2
  rw [← h2, List.take_append_drop]
 have h3 : (List.range (t ^ k)).take j = List.range j := by
  rw [List.take_range]
  congr 1
  omega
 rw [h3] at h1
 conv => lhs; rw [h1]
 rw [List.map_append, List.map_cons]
/-- what stands ahead of a word, and behind it -/
theorem all_split {t k j n : Nat} (hk : k < n) (hj : j < t ^ k) : ∃ r, lvs t n = (lvs t k ++ (List.range j).map (dg t k)) ++ dg t k j :: r := by
 obtain ⟨r, hr⟩ := lvs_pre (t := t) (k := k + 1) (n := n) (by omega)
 obtain ⟨r', hr'⟩ := lev_split hj
 exact ⟨r' ++ r, by rw [hr, lvs_succ, hr']; simp⟩
theorem lvs_mem {t n : Nat} {w : List Int} : w ∈ lvs t n ↔ ∃ k j, k < n ∧ j < t ^ k ∧ w = dg t k j := by
 simp only [lvs, lev, List.mem_flatMap, List.mem_map, List.mem_range]
 constructor
 ·rintro ⟨k, h1, j, h2, rfl⟩; exact ⟨k, j, h1, h2, rfl⟩
 ·rintro ⟨k, j, h1, h2, rfl⟩; exact ⟨k, h1, j, h2, rfl⟩
theorem range_map_succ {α : Type} (f : Nat → α) (k : Nat) : (List.range (k + 1)).map f = (List.range k).map f ++ [f k] := by rw [List.range_succ, List.map_append]; rfl
/- Words in order, shorter ones first; no condition. -/
/-! words, shorter ones first, then smaller ones -/
def lexLt : List Int → List Int → Prop
 | x :: v, y :: w => x < y ∨ (x = y ∧ lexLt v w)
 | _, _ => False
def LLt (v w : List Int) : Prop := v.length < w.length ∨ (v.length = w.length ∧ lexLt v w)
def LLe (v w : List Int) : Prop := v = w ∨ LLt v w
theorem lexLt_irr : ∀ v, ¬ lexLt v v
 | [] => id
 | x :: v => by simp only [lexLt, not_or, not_and]; exact ⟨by omega, fun _ => lexLt_irr v⟩
theorem lexLt_trans : ∀ {u v w : List Int}, lexLt u v → lexLt v w → lexLt u w
 | [], v, w, h, _ => by cases v <;> exact h.elim
 | x :: u, [], w, h, _ => h.elim
 | x :: u, y :: v, [], _, h => h.elim
 | x :: u, y :: v, z :: w, h1, h2 => by
  simp only [lexLt] at *
  rcases h1 with h1 | ⟨rfl, h1⟩
  ·rcases h2 with h2 | ⟨rfl, h2⟩
   ·exact .inl (by omega)
   ·exact .inl h1
  ·rcases h2 with h2 | ⟨rfl, h2⟩
   ·exact .inl h2
   ·exact .inr ⟨rfl, lexLt_trans h1 h2⟩
theorem lexLt_app : ∀ {v w : List Int} (a b : List Int), lexLt v w → v.length = w.length → lexLt (v ++ a) (w ++ b)
 | [], w, a, b, h, _ => by cases w <;> exact h.elim
 | x :: v, [], a, b, h, _ => h.elim
 | x :: v, y :: w, a, b, h, hl => by
  simp only [lexLt, List.cons_append] at *
  rcases h with h | ⟨rfl, h⟩
  ·exact .inl h
  ·exact .inr ⟨rfl, lexLt_app a b h (by simpa using hl)⟩
theorem lexLt_snoc : ∀ (v : List Int) {a b : Int}, a < b → lexLt (v ++ [a]) (v ++ [b])
 | [], a, b, h => by simp [lexLt, h]
 | x :: v, a, b, h => by simp only [lexLt, List.cons_append, true_and]; exact .inr (lexLt_snoc v h)
theorem LLt.trans {u v w : List Int} (h1 : LLt u v) (h2 : LLt v w) : LLt u w := by
 rcases h1 with h1 | ⟨h1, q1⟩
 ·rcases h2 with h2 | ⟨h2, q2⟩
  ·exact .inl (by omega)
  ·exact .inl (by omega)
 ·rcases h2 with h2 | ⟨h2, q2⟩
  ·exact .inl (by omega)
  ·exact .inr ⟨by omega, lexLt_trans q1 q2⟩
theorem LLe.trans {u v w : List Int} (h1 : LLe u v) (h2 : LLe v w) : LLe u w := by
 rcases h1 with rfl | h1
 ·exact h2
 ·rcases h2 with rfl | h2
  ·exact .inr h1
  ·exact .inr (h1.trans h2)
theorem LLt.irr {v : List Int} : ¬ LLt v v := by
 rintro (h | ⟨_, h⟩)
 ·omega
 ·exact lexLt_irr v h
/- Least words of a list of rules, found by rounds: the plain law; no condition. -/
theorem lexLt_pre : ∀ (u : List Int) {v w : List Int}, lexLt v w → lexLt (u ++ v) (u ++ w)
 | [], _, _, h => h
 | x :: u, _, _, h => by simp only [lexLt, List.cons_append, true_and]; exact .inr (lexLt_pre u h)
theorem lexLt_total : ∀ {v w : List Int}, v.length = w.length → v = w ∨ lexLt v w ∨ lexLt w v
 | [], [], _ => .inl rfl
 | [], _ :: _, h => by simp at h
 | _ :: _, [], h => by simp at h
 | x :: v, y :: w, h => by
  rcases Int.lt_trichotomy x y with q | q | q
  ·exact .inr (.inl (.inl q))
  ·subst q
   rcases lexLt_total (v := v) (w := w) (by simpa using h) with r | r | r
   ·exact .inl (by rw [r])
   ·exact .inr (.inl (.inr ⟨rfl, r⟩))
   ·exact .inr (.inr (.inr ⟨rfl, r⟩))
  ·exact .inr (.inr (.inl q))
theorem LLe.total (v w : List Int) : LLe v w ∨ LLt w v := by
 rcases Nat.lt_trichotomy v.length w.length with h | h | h
 ·exact .inl (.inr (.inl h))
 ·rcases lexLt_total h with q | q | q
  ·exact .inl (.inl q)
  ·exact .inl (.inr (.inr ⟨h, q⟩))
  ·exact .inr (.inr ⟨h.symm, q⟩)
 ·exact .inr (.inl h)
theorem LLe.not_lt {v w : List Int} (h : LLe v w) : ¬ LLt w v := by
 rcases h with rfl | h
 ·exact LLt.irr
 ·exact fun q => LLt.irr (h.trans q)
theorem LLt.app_left {u u' : List Int} (v : List Int) (h : LLt u' u) : LLt (u' ++ v) (u ++ v) := by
 rcases h with h | ⟨h, q⟩
 ·exact .inl (by simp; omega)
 ·exact .inr ⟨by simp; omega, lexLt_app _ _ q h⟩
theorem LLt.app_right (u : List Int) {v v' : List Int} (h : LLt v' v) : LLt (u ++ v') (u ++ v) := by
 rcases h with h | ⟨h, q⟩
 ·exact .inl (by simp; omega)
 ·exact .inr ⟨by simp; omega, lexLt_pre u q⟩

/-! numbers of words -/
def valN (t : Nat) : List Int → Nat
 | [] => 0
 | x :: w => x.toNat * t ^ w.length + valN t w
theorem valN_lt {t : Nat} (ht : 0 < t) : ∀ {w : List Int}, (∀ x ∈ w, 0 ≤ x ∧ x < t) → valN t w < t ^ w.length
 | [], _ => by simp [valN]
 | x :: w, h => by
  have h1 := valN_lt ht (w := w) (fun y hy => h y (by simp [hy]))
  have h2 := h x (by simp)
  simp only [valN, List.length_cons, Nat.pow_succ]
  have h3 : (x.toNat + 1) * t ^ w.length ≤ t * t ^ w.length := Nat.mul_le_mul_right _ (by omega)
  rw [Nat.add_mul, Nat.one_mul] at h3
  rw [Nat.mul_comm (t ^ w.length) t]
  omega
theorem valN_lex {t : Nat} (ht : 0 < t) : ∀ {v w : List Int}, (∀ x ∈ v, 0 ≤ x ∧ x < t) → (∀ x ∈ w, 0 ≤ x ∧ x < t) → v.length = w.length → lexLt v w → valN t v < valN t w
 | [], w, _, _, _, h => by cases w <;> exact h.elim
 | x :: v, [], _, _, _, h => h.elim
 | x :: v, y :: w, hv, hw, hl, h => by
  have hl' : v.length = w.length := by simpa using hl
  have h1 := valN_lt ht (w := v) (fun z hz => hv z (by simp [hz]))
  have hx := hv x (by simp)
  have hy := hw y (by simp)
  simp only [valN]
  simp only [lexLt] at h
  rcases h with h | ⟨rfl, h⟩
  ·rw [hl'] at h1 ⊢
   have h3 : (x.toNat + 1) * t ^ w.length ≤ y.toNat * t ^ w.length := Nat.mul_le_mul_right _ (by omega)
   rw [Nat.add_mul, Nat.one_mul] at h3
   omega
  ·have := valN_lex ht (fun z hz => hv z (by simp [hz])) (fun z hz => hw z (by simp [hz])) hl' h
   rw [hl']
   omega
theorem valN_le {t k : Nat} (ht : 0 < t) {w : List Int} (h : ∀ x ∈ w, 0 ≤ x ∧ x < t) (hk : w.length ≤ k) : valN t w < t ^ k :=
 Nat.lt_of_lt_of_le (valN_lt ht h) (Nat.pow_le_pow_right ht hk)
/-- of words there is a least one -/
theorem least_ex {t : Nat} (ht : 0 < t) {Q : List Int → Prop} (hQ : ∀ w, Q w → ∀ x ∈ w, 0 ≤ x ∧ x < t) : ∀ (m : Nat) (w : List Int), Q w → w.length ≤ m → ∃ v, Q v ∧ ∀ u, Q u → LLe v u := by
 intro m
 induction m using Nat.strongRecOn with
 | ind m ihm =>
  intro w hw hm
  -- the least of this length
  have key : ∀ (n : Nat) (w : List Int), Q w → w.length ≤ m → valN t w ≤ n → ∃ v, Q v ∧ ∀ u, Q u → LLe v u := by
   intro n
   induction n using Nat.strongRecOn with
   | ind n ihn =>
    intro w hw hm hn
    by_cases h : ∃ u, Q u ∧ LLt u w
    ·obtain ⟨u, hu, h1 | ⟨h1, h2⟩⟩ := h
     ·exact ihm u.length (by omega) u hu (Nat.le_refl _)
     ·have := valN_lex ht (hQ u hu) (hQ w hw) h1 h2
      exact ihn (valN t u) (by omega) u hu (by omega) (Nat.le_refl _)
    ·refine ⟨w, hw, fun u hu => ?_⟩
     rcases LLe.total w u with q | q
     ·exact q
     ·exact absurd ⟨u, hu, q⟩ h
  exact key (valN t w) w hw hm (Nat.le_refl _)

/-! words in order -/
theorem dg_surj {t : Nat} (ht : 0 < t) : ∀ (k : Nat) (w : List Int), w.length = k → (∀ x ∈ w, 0 ≤ x ∧ x < t) → ∃ j, j < t ^ k ∧ w = dg t k j
 | 0, w, hl, _ => ⟨0, by simp, by rw [List.eq_nil_of_length_eq_zero hl]; rfl⟩
 | k + 1, w, hl, hw => by
  have hne : w ≠ [] := fun h => by rw [h] at hl; cases hl
  have hs := List.dropLast_concat_getLast hne
  generalize w.dropLast = u at hs
  generalize w.getLast hne = x at hs
  subst hs
  obtain ⟨j, hj, rfl⟩ := dg_surj ht k u (by simpa using hl) (fun y hy => hw y (by simp [hy]))
  have hx := hw x (by simp)
  obtain ⟨c, rfl⟩ : ∃ c : Nat, x = c := ⟨x.toNat, by omega⟩
  refine ⟨j * t + c, ?_, (dg_snoc k j c (by omega)).symm⟩
  rw [Nat.pow_succ]
  have h3 : (j + 1) * t ≤ t ^ k * t := Nat.mul_le_mul_right _ (by omega)
  rw [Nat.add_mul, Nat.one_mul] at h3
  omega
theorem dg_lt {t : Nat} (ht : 0 < t) : ∀ {k i j : Nat}, i < j → j < t ^ k → lexLt (dg t k i) (dg t k j)
 | 0, i, j, h, hj => by simp at hj; omega
 | k + 1, i, j, h, hj => by
  simp only [dg]
  have h1 : i / t ≤ j / t := Nat.div_le_div_right (by omega)
  rcases Nat.lt_or_ge (i / t) (j / t) with q | q
  ·exact lexLt_app _ _ (dg_lt ht q (Nat.div_lt_of_lt_mul (by rw [Nat.pow_succ, Nat.mul_comm] at hj; exact hj))) (by rw [dg_len, dg_len])
  ·have e : i / t = j / t := by omega
   rw [e]
   have h4 := Nat.div_add_mod i t
   have h5 := Nat.div_add_mod j t
   rw [e] at h4
   exact lexLt_snoc _ (by omega)
/-- the first of all words of less than n symbols for which something holds is the least one -/
theorem lvs_first {t n : Nat} (ht : 0 < t) {Q : List Int → Prop} (hQ : ∀ w, Q w → ∀ x ∈ w, 0 ≤ x ∧ x < t) {k : Nat} (hk : k < (lvs t n).length) (h1 : ∀ v ∈ (lvs t n).take k, ¬ Q v) (h2 : Q (lvs t n)[k]) : ∀ u, Q u → LLe (lvs t n)[k] u := by
 intro u hu
 obtain ⟨w, hw⟩ : ∃ w, (lvs t n)[k] = w := ⟨_, rfl⟩
 rw [hw] at h2 ⊢
 rcases LLe.total w u with q | q
 ·exact q
 exfalso
 have hin : w ∈ lvs t n := hw ▸ List.getElem_mem hk
 obtain ⟨p, j, hp, hj, rfl⟩ := lvs_mem.1 hin
 have hlen := dg_len t p j
 obtain ⟨j', hj', hu'⟩ := dg_surj ht u.length u rfl (hQ u hu)
 have hle : u.length ≤ p := by rcases q with q | q <;> omega
 -- u stands before
 obtain ⟨r, hr⟩ := all_split (t := t) hp hj
 have hmem : u ∈ lvs t p ++ (List.range j).map (dg t p) := by
  rcases q with q | ⟨q1, q2⟩
  ·apply List.mem_append_left
   rw [hu']
   exact lvs_mem.2 ⟨u.length, j', by omega, hj', rfl⟩
  ·apply List.mem_append_right
   have hup : u.length = p := by omega
   rw [hup] at hj' hu'
   refine List.mem_map.2 ⟨j', ?_, hu'.symm⟩
   rw [List.mem_range]
   rcases Nat.lt_trichotomy j' j with z | z | z
   ·exact z
   ·subst z; rw [hu'] at q2; exact absurd q2 (lexLt_irr _)
   ·have := dg_lt ht z hj'
    rw [hu'] at q2
    exact absurd (lexLt_trans q2 this) (lexLt_irr _)
 have hpos : (lvs t p ++ (List.range j).map (dg t p)).length = k := by
  generalize hA : lvs t p ++ (List.range j).map (dg t p) = A at hr hmem
  rcases Nat.lt_trichotomy A.length k with z | z | z
  ·exfalso
   have : dg t p j ∈ (lvs t n).take k := by
    rw [hr, List.take_append]
    apply List.mem_append_right
    obtain ⟨d, hd⟩ : ∃ d, k - A.length = d + 1 := ⟨k - A.length - 1, by omega⟩
    rw [hd]
    simp
   exact h1 _ this h2
  ·exact z
  ·exfalso
   -- the word stands twice
   have h3 : A[k] = dg t p j := by
    have : (lvs t n)[k]? = some (dg t p j) := by rw [List.getElem?_eq_getElem hk, hw]
    rw [hr, List.getElem?_append_left z, List.getElem?_eq_getElem z] at this
    exact Option.some.inj this
   have h4 : dg t p j ∈ A := h3 ▸ List.getElem_mem z
   rw [← hA] at h4
   rcases List.mem_append.1 h4 with h4 | h4
   ·obtain ⟨p', j2, hp', _, e⟩ := lvs_mem.1 h4
    have := congrArg List.length e
    rw [dg_len, dg_len] at this
    omega
   ·obtain ⟨j2, hj2, e⟩ := List.mem_map.1 h4
    rw [List.mem_range] at hj2
    have := dg_inj ht (by omega) hj e
    omega
 refine h1 u ?_ hu
 rw [hr, List.take_append_of_le_length (by omega), List.take_of_length_le (by omega)]
 exact hmem

/-! least words by rules -/
def LstF (rs : List Ru) (l : List Sy) (w : List Int) : Prop := DerF id rs l w ∧ ∀ v, DerF id rs l v → LLe w v
def LstN (rs : List Ru) (a : Int) (w : List Int) : Prop := DerN id rs a w ∧ ∀ v, DerN id rs a v → LLe w v
/-- the words at hand of symbols, one behind the other -/
def wcat (W : List (List Int)) (D : List Bool) : List Sy → Option (List Int)
 | [] => some []
 | s :: l => if s.t = true then (wcat W D l).map (s.n :: ·) else if D.getD s.n.toNat false = true then (wcat W D l).map (W.getD s.n.toNat [] ++ ·) else none
/-- lengths of least words: -1: there is none; at most 2001 -/
def LenS (rs : List Ru) (N : Nat) (L : List Int) : Prop := L.length = N ∧ ∀ a : Nat, a < N → ((L.getD a 0 = -1 ∧ ∀ w, ¬ DerN id rs a w) ∨ (∃ w, DerN id rs a w ∧ L.getD a 0 = min (w.length : Int) 2001) ∧ ∀ w, DerN id rs a w → L.getD a 0 ≤ min (w.length : Int) 2001)
def symOk (N : Nat) (s : Sy) : Prop := s.t = false → 0 ≤ s.n ∧ s.n < N
structure WrdS (rs : List Ru) (N : Nat) (L : List Int) (W : List (List Int)) (D : List Bool) : Prop where
 len : W.length = N ∧ D.length = N
 sound : ∀ a : Nat, a < N → D.getD a false = true → DerN id rs a (W.getD a []) ∧ ((W.getD a []).length : Int) = L.getD a 0 ∧ (W.getD a []).length ≤ 2000
 bare : ∀ a : Nat, D.getD a false = false → W.getD a [] = []
def WrdC (rs : List Ru) (L : List Int) (W : List (List Int)) (D : List Bool) (r : Ru) : Prop := ∀ w, wcat W D r.r = some w → (w.length : Int) = L.getD r.l.toNat 0 → w.length ≤ 2000 → D.getD r.l.toNat false = true ∧ ¬ lexLt w (W.getD r.l.toNat [])
theorem LstF.left {rs : List Ru} {r : Ru} (hr : r ∈ rs) {l : List Sy} {u v : List Int} (hu : DerF id rs r.r u) (hv : DerF id rs l v) (h : LstF rs (⟨false, r.l⟩ :: l) (u ++ v)) : LstN rs r.l u := by
 refine ⟨⟨r, hr, rfl, hu⟩, fun u' hu' => ?_⟩
 rcases LLe.total u u' with q | q
 ·exact q
 ·obtain ⟨r', hr', e, hd⟩ := hu'
  have h1 := DerF.non (f := id) r' hr' hd hv
  rw [e] at h1
  exact absurd (q.app_left v) (h.2 _ h1).not_lt
theorem LstF.right {rs : List Ru} {r : Ru} (hr : r ∈ rs) {l : List Sy} {u v : List Int} (hu : DerF id rs r.r u) (hv : DerF id rs l v) (h : LstF rs (⟨false, r.l⟩ :: l) (u ++ v)) : LstF rs l v := by
 refine ⟨hv, fun v' hv' => ?_⟩
 rcases LLe.total v v' with q | q
 ·exact q
 ·exact absurd (q.app_right u) (h.2 _ (DerF.non (f := id) r hr hu hv')).not_lt
theorem LstF.tail {rs : List Ru} {n : Int} {l : List Sy} {w : List Int} (hw : DerF id rs l w) (h : LstF rs (⟨true, n⟩ :: l) (n :: w)) : LstF rs l w := by
 refine ⟨hw, fun v' hv' => ?_⟩
 rcases LLe.total w v' with q | q
 ·exact q
 ·exact absurd (q.app_right [n]) (h.2 _ (DerF.term (f := id) n hv')).not_lt
theorem least_done {rs : List Ru} {N : Nat} {L : List Int} {W : List (List Int)} {D : List Bool} (hN : ∀ r ∈ rs, 0 ≤ r.l ∧ r.l < N) (hL : LenS rs N L) (hS : WrdS rs N L W D) (hC : ∀ r ∈ rs, WrdC rs L W D r) {l : List Sy} {w : List Int} (hd : DerF id rs l w) :
  LstF rs l w → w.length ≤ 2000 → wcat W D l = some w := by
 induction hd with
 | nil => exact fun _ _ => rfl
 | term n hw ih =>
  intro h hl
  simp only [List.length_cons] at hl
  simp only [wcat, if_true, ih (h.tail hw) (by omega), Option.map_some]
  rfl
 | @non l u v r hr hu hv ih1 ih2 =>
  intro h hl
  rw [List.length_append] at hl
  have h1 := h.left hr hu hv
  have h2 : LstF rs r.r u := ⟨hu, fun u' hu' => h1.2 u' ⟨r, hr, rfl, hu'⟩⟩
  have h3 := ih1 h2 (by omega)
  have h4 := ih2 (h.right hr hu hv) (by omega)
  have hn := hN r hr
  have hrl : ((r.l.toNat : Nat) : Int) = r.l := by omega
  have hlen : (u.length : Int) = L.getD r.l.toNat 0 := by
   rcases hL.2 r.l.toNat (by omega) with ⟨_, q⟩ | ⟨⟨w', q1, q2⟩, q3⟩
   ·exact absurd (by rw [hrl]; exact h1.1) (q u)
   ·rw [hrl] at q1 q3
    have h5 := q3 u h1.1
    have h6 : u.length ≤ w'.length := by
     rcases h1.2 w' q1 with e | e | e
     ·rw [e]; exact Nat.le_refl _
     ·omega
     ·omega
    omega
  obtain ⟨h5, h6⟩ := hC r hr u h3 hlen (by omega)
  obtain ⟨h7, h8, h9⟩ := hS.sound r.l.toNat (by omega) h5
  rw [hrl] at h7
  have h10 : W.getD r.l.toNat [] = u := by
   rcases h1.2 _ h7 with e | e | ⟨e1, e2⟩
   ·exact e.symm
   ·omega
   ·exact absurd e2 h6
  simp only [wcat, Bool.false_eq_true, if_false, h5, if_true, h4, Option.map_some, h10]
/-- what is found is the least word -/
theorem least_word {rs : List Ru} {N t : Nat} {L : List Int} {W : List (List Int)} {D : List Bool} (ht : 0 < t) (hN : ∀ r ∈ rs, 0 ≤ r.l ∧ r.l < N) (hT : ∀ r ∈ rs, ∀ s ∈ r.r, s.t = true → 0 ≤ s.n ∧ s.n < t) (hL : LenS rs N L) (hS : WrdS rs N L W D) (hC : ∀ r ∈ rs, WrdC rs L W D r)
  {a : Nat} (ha : a < N) (h0 : 0 ≤ L.getD a 0) (h1 : L.getD a 0 ≤ 2000) : D.getD a false = true ∧ LstN rs a (W.getD a []) := by
 rcases hL.2 a ha with ⟨q, _⟩ | ⟨⟨w, hw, q1⟩, q2⟩
 ·omega
 have hlet : ∀ w, DerN id rs a w → ∀ x ∈ w, 0 ≤ x ∧ x < t := by
  rintro w ⟨r, hr, _, hd⟩
  exact hd.all hT (hT r hr)
 obtain ⟨v, hv, hmin⟩ := least_ex ht hlet w.length w hw (Nat.le_refl _)
 obtain ⟨r, hr, hra, hd⟩ := hv
 have hvl : (v.length : Int) = L.getD a 0 := by
  have h3 := q2 v ⟨r, hr, hra, hd⟩
  have h4 : v.length ≤ w.length := by
   rcases hmin w hw with e | e | e
   ·rw [e]; exact Nat.le_refl _
   ·omega
   ·omega
  omega
 have h3 := least_done hN hL hS hC hd ⟨hd, fun u hu => hmin u ⟨r, hr, hra, hu⟩⟩ (by omega)
 have hra' : r.l.toNat = a := by omega
 obtain ⟨h4, h5⟩ := hC r hr v h3 (by rw [hra']; exact hvl) (by omega)
 rw [hra'] at h4 h5
 obtain ⟨h6, h7, h8⟩ := hS.sound a ha h4
 have h9 : W.getD a [] = v := by
  rcases hmin _ h6 with e | e | ⟨e1, e2⟩
  ·exact e.symm
  ·omega
  ·exact absurd e2 h5
 rw [h9]
 exact ⟨h4, ⟨r, hr, hra, hd⟩, hmin⟩

/-! lengths -/
/-- the sum of lengths at hand of symbols; none: one of them has none -/
def lsum (L : List Int) : List Sy → Option Int
 | [] => some 0
 | s :: l => if s.t = true then (lsum L l).map (1 + ·) else if L.getD s.n.toNat 0 < 0 then none else (lsum L l).map (L.getD s.n.toNat 0 + ·)
def LenI (rs : List Ru) (N : Nat) (L : List Int) : Prop := L.length = N ∧ ∀ a : Nat, a < N → L.getD a 0 = -1 ∨ ∃ w, DerN id rs a w ∧ L.getD a 0 = min (w.length : Int) 2001
def LenC (L : List Int) (r : Ru) : Prop := ∀ n, lsum L r.r = some n → 0 ≤ L.getD r.l.toNat 0 ∧ L.getD r.l.toNat 0 ≤ min n 2001
theorem lsum_sound {rs : List Ru} {N : Nat} {L : List Int} (h : LenI rs N L) : ∀ {l : List Sy} {n : Int}, (∀ s ∈ l, symOk N s) → lsum L l = some n → 0 ≤ n ∧ ∃ w, DerF id rs l w ∧ min n 2001 = min (w.length : Int) 2001
 | [], n, _, hn => by
  simp only [lsum, Option.some.injEq] at hn
  subst hn
  exact ⟨by omega, [], .nil, rfl⟩
 | ⟨true, m⟩ :: l, n, hs, hn => by
  simp only [lsum, if_true, Option.map_eq_some_iff] at hn
  obtain ⟨k, hk, rfl⟩ := hn
  obtain ⟨h1, w, h2, h3⟩ := lsum_sound h (fun s q => hs s (by simp [q])) hk
  refine ⟨by omega, m :: w, .term m h2, ?_⟩
  simp only [List.length_cons]
  omega
 | ⟨false, m⟩ :: l, n, hs, hn => by
  simp only [lsum, Bool.false_eq_true, if_false] at hn
  split at hn
  ·cases hn
  rename_i hneg
  simp only [Option.map_eq_some_iff] at hn
  obtain ⟨k, hk, rfl⟩ := hn
  obtain ⟨h1, w, h2, h3⟩ := lsum_sound h (fun s q => hs s (by simp [q])) hk
  have hm := hs ⟨false, m⟩ (by simp) rfl
  have hm1 : 0 ≤ m ∧ m < N := hm
  rcases h.2 m.toNat (by omega) with q | ⟨u, ⟨r, hr, e, hd⟩, q⟩
  ·omega
  ·refine ⟨by omega, u ++ w, ?_, ?_⟩
   ·have := DerF.non (f := id) r hr hd h2
    rw [show r.l = m by omega] at this
    exact this
   ·rw [List.length_append]
    omega
theorem lsum_all {rs : List Ru} {L : List Int} (hC : ∀ r ∈ rs, LenC L r) {l : List Sy} {w : List Int} (hd : DerF id rs l w) : ∃ n, lsum L l = some n ∧ min n 2001 ≤ min (w.length : Int) 2001 := by
 induction hd with
 | nil => exact ⟨0, rfl, by simp⟩
 | term m _ ih =>
  obtain ⟨n, h1, h2⟩ := ih
  refine ⟨1 + n, by simp [lsum, h1], ?_⟩
  simp only [List.length_cons]
  omega
 | @non l u v r hr hu hv ih1 ih2 =>
  obtain ⟨n1, h1, h2⟩ := ih1
  obtain ⟨n2, h3, h4⟩ := ih2
  obtain ⟨h5, h6⟩ := hC r hr n1 h1
  refine ⟨L.getD r.l.toNat 0 + n2, ?_, ?_⟩
  ·simp only [lsum, Bool.false_eq_true, if_false]
   rw [if_neg (by omega), h3]
   rfl
  ·rw [List.length_append]
   omega
theorem len_done {rs : List Ru} {N : Nat} {L : List Int} (h : LenI rs N L) (hN : ∀ r ∈ rs, 0 ≤ r.l ∧ r.l < N) (hC : ∀ r ∈ rs, LenC L r) : LenS rs N L := by
 refine ⟨h.1, fun a ha => ?_⟩
 have hall : ∀ w, DerN id rs a w → 0 ≤ L.getD a 0 ∧ L.getD a 0 ≤ min (w.length : Int) 2001 := by
  rintro w ⟨r, hr, e, hd⟩
  obtain ⟨n, h1, h2⟩ := lsum_all hC hd
  obtain ⟨h3, h4⟩ := hC r hr n h1
  have : r.l.toNat = a := by omega
  rw [this] at h3 h4
  exact ⟨h3, by omega⟩
 rcases h.2 a ha with q | q
 ·left
  exact ⟨q, fun w hw => by have := hall w hw; omega⟩
 ·right
  exact ⟨q, fun w hw => (hall w hw).2⟩
/- Rounds that find lengths and words go on; the plain law; no condition. -/
/-- a grammar that is whole -/
structure WG (g : Gr) (N : Nat) : Prop where
 ts : 1 ≤ g.ts ∧ g.ts ≤ 16
 ns : g.ns = N
 n : 1 ≤ N ∧ N ≤ 2000
 len : g.rs.length ≤ 5000
 left : ∀ r ∈ g.rs, 0 ≤ r.l ∧ r.l < N
 right : ∀ r ∈ g.rs, r.r.length ≤ 4
 sym : ∀ r ∈ g.rs, ∀ s ∈ r.r, 0 ≤ s.n ∧ (s.t = true → s.n < g.ts) ∧ (s.t = false → s.n < N)
theorem wt_set {α : Type} (f : α → Nat) : ∀ {L : List α} {a : Nat} {x : α} (h : a < L.length), f x < f L[a] → ((L.set a x).map f).sum < (L.map f).sum
 | [], a, x, h, _ => by simp at h
 | y :: L, 0, x, h, q => by
  simp only [List.getElem_cons_zero] at q
  simp only [List.set_cons_zero, List.map_cons, List.sum_cons]
  omega
 | y :: L, a + 1, x, h, q => by
  simp only [List.getElem_cons_succ] at q
  have := wt_set f (L := L) (a := a) (by simpa using h) q
  simp only [List.set_cons_succ, List.map_cons, List.sum_cons]
  omega
/-! lengths -/
def nst (L : List Int) (n : Int) (s : Sy) : Int := if s.t = true then n + 1 else if L.getD s.n.toNat 0 < 0 then 1099511627776 else n + L.getD s.n.toNat 0
theorem nst_big {L : List Int} (hL : ∀ a, L.getD a 0 ≤ 2001) : ∀ {l : List Sy} {n : Int}, 1099511627776 ≤ n → 1099511627776 ≤ l.foldl (nst L) n
 | [], n, h => h
 | s :: l, n, h => by
  refine nst_big hL (l := l) ?_
  unfold nst
  split
  ·omega
  ·split <;> omega
theorem nst_le {L : List Int} (hL : ∀ a, L.getD a 0 ≤ 2001) : ∀ {l : List Sy} {n m : Int}, 0 ≤ n → n ≤ 1099511627776 + m → 0 ≤ m → 0 ≤ l.foldl (nst L) n ∧ l.foldl (nst L) n ≤ 1099511627776 + m + 2001 * l.length
 | [], n, m, h, h2, h3 => by simp; omega
 | s :: l, n, m, h, h2, h3 => by
  have := hL s.n.toNat
  have h4 : 0 ≤ nst L n s ∧ nst L n s ≤ 1099511627776 + (m + 2001) := by
   unfold nst
   split
   ·omega
   ·split <;> omega
  have h5 := nst_le hL (l := l) (m := m + 2001) h4.1 h4.2 (by omega)
  simp only [List.foldl_cons, List.length_cons]
  omega
theorem nst_sum {L : List Int} (hL : ∀ a, L.getD a 0 ≤ 2001) : ∀ {l : List Sy} {n : Int}, 0 ≤ n → (∀ m, lsum L l = some m → 0 ≤ m ∧ m ≤ 2001 * l.length ∧ l.foldl (nst L) n = n + m) ∧ (lsum L l = none → 1099511627776 ≤ l.foldl (nst L) n)
 | [], n, h => by
  refine ⟨fun m hm => ?_, fun h => by simp [lsum] at h⟩
  simp only [lsum, Option.some.injEq] at hm
  subst hm
  simp
 | s :: l, n, h => by
  have hl := hL s.n.toNat
  simp only [lsum, List.foldl_cons, List.length_cons]
  by_cases ht : s.t = true
  ·have ih := nst_sum hL (l := l) (n := n + 1) (by omega)
   have e : nst L n s = n + 1 := if_pos ht
   rw [e]
   simp only [if_pos ht]
   refine ⟨fun m hm => ?_, fun hm => ih.2 (by simpa using hm)⟩
   obtain ⟨k, hk, rfl⟩ := Option.map_eq_some_iff.1 hm
   have := ih.1 k hk
   omega
  ·by_cases hn : L.getD s.n.toNat 0 < 0
   ·have e : nst L n s = 1099511627776 := by unfold nst; rw [if_neg ht, if_pos hn]
    rw [e]
    simp only [if_neg ht, if_pos hn]
    exact ⟨fun m hm => (by cases hm), fun _ => nst_big hL (Int.le_refl _)⟩
   ·have e : nst L n s = n + L.getD s.n.toNat 0 := by unfold nst; rw [if_neg ht, if_neg hn]
    have ih := nst_sum hL (l := l) (n := n + L.getD s.n.toNat 0) (by omega)
    rw [e]
    simp only [if_neg ht, if_neg hn]
    refine ⟨fun m hm => ?_, fun hm => ih.2 (by simpa using hm)⟩
    obtain ⟨k, hk, rfl⟩ := Option.map_eq_some_iff.1 hm
    have := ih.1 k hk
    omega
theorem nst_iff {L : List Int} (hL : ∀ a, L.getD a 0 ≤ 2001) {l : List Sy} (hl : l.length ≤ 4) : (∃ m, lsum L l = some m ∧ l.foldl (nst L) 0 = m ∧ 0 ≤ m ∧ m < 1099511627776) ∨ (lsum L l = none ∧ 1099511627776 ≤ l.foldl (nst L) 0) := by
 obtain ⟨h1, h2⟩ := nst_sum hL (l := l) (n := 0) (by omega)
 cases h : lsum L l with
 | none => exact .inr ⟨rfl, h2 h⟩
 | some m => obtain ⟨q1, q2, q3⟩ := h1 m h; exact .inl ⟨m, rfl, by omega, q1, by omega⟩
def wtN (L : List Int) : Nat := (L.map fun x => if x < 0 then 2002 else x.toNat).sum
theorem LenI.le {rs : List Ru} {N : Nat} {L : List Int} (h : LenI rs N L) (a : Nat) : L.getD a 0 ≤ 2001 ∧ -1 ≤ L.getD a 0 := by
 by_cases ha : a < N
 ·rcases h.2 a ha with q | ⟨w, _, q⟩ <;> omega
 ·have := h.1
  rw [List.getD_eq_getElem?_getD, List.getElem?_eq_none (by omega)]
  simp
theorem LenI.put {rs : List Ru} {N : Nat} {L : List Int} (h : LenI rs N L) {r : Ru} (hr : r ∈ rs) (hs : ∀ s ∈ r.r, symOk N s) {a : Nat} (ha : r.l = a) (haN : a < L.length) {m : Int} (hm : lsum L r.r = some m) (hc : L[a] < 0 ∨ min m 2001 < L[a]) :
  LenI rs N (L.set a (min m 2001)) ∧ wtN (L.set a (min m 2001)) < wtN L := by
 obtain ⟨h0, w, hw, hwm⟩ := lsum_sound h hs hm
 refine ⟨⟨by simp [h.1], fun b hb => ?_⟩, wt_set _ haN ?_⟩
 ·rw [List.getD_eq_getElem?_getD, List.getElem?_set]
  by_cases e : a = b
  ·subst e
   rw [if_pos rfl, if_pos haN]
   exact .inr ⟨w, ⟨r, hr, ha, hw⟩, hwm⟩
  ·rw [if_neg e, ← List.getD_eq_getElem?_getD]
   exact h.2 b hb
 ·rw [if_neg (by omega)]
  split <;> omega
/-! words -/
theorem wcat_sound {rs : List Ru} {N : Nat} {L : List Int} {W : List (List Int)} {D : List Bool} (h : WrdS rs N L W D) : ∀ {l : List Sy} {w : List Int}, (∀ s ∈ l, symOk N s) → wcat W D l = some w → DerF id rs l w
 | [], w, _, hw => by simp only [wcat, Option.some.injEq] at hw; subst hw; exact .nil
 | ⟨true, n⟩ :: l, w, hs, hw => by
  simp only [wcat, if_true, Option.map_eq_some_iff] at hw
  obtain ⟨u, hu, rfl⟩ := hw
  exact .term n (wcat_sound h (fun s q => hs s (by simp [q])) hu)
 | ⟨false, n⟩ :: l, w, hs, hw => by
  simp only [wcat, Bool.false_eq_true, if_false] at hw
  split at hw
  ·rename_i hd
   simp only [Option.map_eq_some_iff] at hw
   obtain ⟨u, hu, rfl⟩ := hw
   have hn := hs ⟨false, n⟩ (by simp) rfl
   have hn1 : 0 ≤ n ∧ n < N := hn
   obtain ⟨⟨r, hr, e, hdr⟩, _, _⟩ := h.sound n.toNat (by omega) hd
   have := DerF.non (f := id) r hr hdr (wcat_sound h (fun s q => hs s (by simp [q])) hu)
   rw [show r.l = n by omega] at this
   exact this
  ·cases hw
theorem wcat_app {W : List (List Int)} {D : List Bool} : ∀ {l l' : List Sy} {w : List Int}, wcat W D (l ++ l') = some w ↔ ∃ u v, wcat W D l = some u ∧ wcat W D l' = some v ∧ w = u ++ v
 | [], l', w => by simp [wcat]
 | s :: l, l', w => by
  simp only [List.cons_append, wcat]
  split
  ·simp only [Option.map_eq_some_iff]
   constructor
   ·rintro ⟨x, hx, rfl⟩
    obtain ⟨u, v, h1, h2, rfl⟩ := wcat_app.1 hx
    exact ⟨_, v, ⟨u, h1, rfl⟩, h2, rfl⟩
   ·rintro ⟨_, v, ⟨u, h1, rfl⟩, h2, rfl⟩
    exact ⟨_, wcat_app.2 ⟨u, v, h1, h2, rfl⟩, rfl⟩
  ·split
   ·simp only [Option.map_eq_some_iff]
    constructor
    ·rintro ⟨x, hx, rfl⟩
     obtain ⟨u, v, h1, h2, rfl⟩ := wcat_app.1 hx
     exact ⟨_, v, ⟨u, h1, rfl⟩, h2, by simp⟩
    ·rintro ⟨_, v, ⟨u, h1, rfl⟩, h2, rfl⟩
     exact ⟨_, wcat_app.2 ⟨u, v, h1, h2, rfl⟩, by simp⟩
   ·simp
theorem wcat_one {W : List (List Int)} {D : List Bool} {s : Sy} : wcat W D [s] = if s.t = true then some [s.n] else if D.getD s.n.toNat false = true then some (W.getD s.n.toNat []) else none := by
 simp only [wcat]
 split
 ·rfl
 ·split <;> simp
def wtD (t M : Nat) (W : List (List Int)) (D : List Bool) : Nat := ((D.zip W).map fun p => if p.1 = true then valN t p.2 else M).sum
theorem zip_set {α β : Type} : ∀ (l : List α) (m : List β) (a : Nat) (x : α) (y : β), (l.set a x).zip (m.set a y) = (l.zip m).set a (x, y)
 | [], m, a, x, y => by simp
 | _ :: _, [], a, x, y => by cases a <;> simp
 | _ :: l, _ :: m, 0, x, y => rfl
 | _ :: l, _ :: m, a + 1, x, y => by simp [zip_set l m a x y]
theorem WrdS.put {g : Gr} {N t K : Nat} (G : WG g N) (hK : 2000 ≤ K) (ht : g.ts = t) {L : List Int} {W : List (List Int)} {D : List Bool} (h : WrdS g.rs N L W D) {r : Ru} (hr : r ∈ g.rs) {a : Nat} (ha : r.l = a) {w : List Int} (hw : wcat W D r.r = some w) (hl : (w.length : Int) = L.getD a 0) (hl2 : w.length ≤ 2000)
  (hc : D.getD a false = false ∨ lexLt w (W.getD a [])) : WrdS g.rs N L (W.set a w) (D.set a true) ∧ wtD t (t ^ K) (W.set a w) (D.set a true) < wtD t (t ^ K) W D := by
 have hts := G.ts
 have hla := G.left r hr
 have haN : a < N := by omega
 have hWl := h.len.1
 have hDl := h.len.2
 have hsy : ∀ s ∈ r.r, symOk N s := fun s hs q => ⟨(G.sym r hr s hs).1, (G.sym r hr s hs).2.2 q⟩
 have hd := wcat_sound h hsy hw
 have hT : ∀ r ∈ g.rs, ∀ s ∈ r.r, s.t = true → 0 ≤ s.n ∧ s.n < t := fun r hr s hs q => by have := G.sym r hr s hs; have := this.2.1 q; omega
 have hlet : ∀ x ∈ w, 0 ≤ x ∧ x < t := hd.all hT (hT r hr)
 refine ⟨⟨by simp [hWl, hDl], fun b hb hD => ?_, fun b hD => ?_⟩, ?_⟩
 ·rw [List.getD_eq_getElem?_getD, List.getElem?_set] at hD ⊢
  by_cases e : a = b
  ·subst e
   rw [if_pos rfl, if_pos (by omega)]
   exact ⟨⟨r, hr, ha, hd⟩, hl, hl2⟩
  ·rw [if_neg e, ← List.getD_eq_getElem?_getD] at hD ⊢
   exact h.sound b hb hD
 ·rw [List.getD_eq_getElem?_getD, List.getElem?_set] at hD ⊢
  by_cases e : a = b
  ·subst e
   rw [if_pos rfl, if_pos (by omega)] at hD
   simp at hD
  ·rw [if_neg e, ← List.getD_eq_getElem?_getD] at hD ⊢
   exact h.bare b hD
 ·unfold wtD
  rw [zip_set]
  refine wt_set _ (by simp [hWl, hDl]; omega) ?_
  have e1 : (D.zip W)[a]'(by simp [hWl, hDl]; omega) = (D.getD a false, W.getD a []) := by
   simp [List.getD_eq_getElem?_getD, show a < D.length by omega, show a < W.length by omega]
  rw [e1]
  simp only [if_true]
  have h1 : valN t w < t ^ K := valN_le (by omega) hlet (Nat.le_trans hl2 hK)
  rcases hc with q | q
  ·rw [if_neg (by rw [q]; decide)]
   exact h1
  ·by_cases hD : D.getD a false = true
   ·rw [if_pos hD]
    obtain ⟨⟨r', hr', _, hd'⟩, h3, h4⟩ := h.sound a haN hD
    exact valN_lex (by omega) hlet (hd'.all hT (hT r' hr')) (by omega) q
   ·rw [if_neg hD]
    exact h1
theorem WrdS.zero (rs : List Ru) (N : Nat) (L : List Int) : WrdS rs N L (List.replicate N []) (List.replicate N false) := by
 refine ⟨by simp, fun a _ h => ?_, fun a _ => ?_⟩
 ·rw [List.getD_eq_getElem?_getD, List.getElem?_replicate] at h
  split at h <;> simp at h
 ·rw [List.getD_eq_getElem?_getD, List.getElem?_replicate]
  split <;> rfl
theorem LenI.zero (rs : List Ru) (N : Nat) : LenI rs N (List.replicate N (-1)) := by
 refine ⟨by simp, fun a ha => .inl ?_⟩
 rw [List.getD_eq_getElem?_getD, List.getElem?_replicate, if_pos ha]
 rfl
/- Rows of two values; no condition. -/
/-- n values, of which j are x and the others z -/
def prow {α : Type} (x z : α) (n j : Nat) : List α := List.replicate j x ++ List.replicate (n - j) z
theorem prow_len {α : Type} (x z : α) {n j : Nat} (h : j ≤ n) : (prow x z n j).length = n := by simp [prow]; omega
theorem prow_set {α : Type} (x z : α) {n j : Nat} (h : j < n) : (prow x z n j).set j x = prow x z n (j + 1) := by
 unfold prow
 obtain ⟨d, hd⟩ : ∃ d, n - j = d + 1 := ⟨n - j - 1, by omega⟩
 rw [hd, show n - (j + 1) = d by omega, List.replicate_succ, List.set_append_right _ _ (by simp), List.replicate_succ']
 simp
theorem prow_zero {α : Type} (x z : α) (n : Nat) : prow x z n 0 = List.replicate n z := by simp [prow]
theorem prow_all {α : Type} (x z : α) (n : Nat) : prow x z n n = List.replicate n x := by simp [prow]
/- The text of parlance/meet.whole as a statement; no condition. -/
def S168_1 : Stmt :=
 .seq
 (.region [oq 28 (.ibin .lss (.tmp 27) (.tmp 26))]
 [1,8,9,10,25,26,27,28])
 (.seq (.cond (.tmp 28) .skip (.exit 2))
 (.seq
 (.block 3
 (.seq
 (.region
 [oq 29 (.idx 2 (.tmp 25) (.tmp 27)),
 oq 30 (.load true 2 (.tmp 29)),
 .mk (some 6) none
 (.alloc true 53 (.agg (Array.mk [.bool false,.int .i64 0]))),
 .mk none none (.store 2 (.tmp 6) (.tmp 30))]
 [1,6,8,9,10,25,26,27])
 (.seq
 (.region
 [oq 31 (.fld 1 (.tmp 6)),
 oq 32 (.load false 1 (.tmp 31)),
 oq 33 (.ibin .lss (.tmp 32) (.const (.int .i64 0))),
 oq 34 (.mv (.tmp 33)),
 .mk (some 35) (some (34,false)) (.fld 0 (.tmp 6)),
 .mk (some 36) (some (34,false)) (.load false 1 (.tmp 35)),
 .mk (some 37) (some (34,false)) (.mv (.tmp 36)),
 .mk (some 38) (some (37,true)) (.fld 1 (.tmp 6)),
 .mk (some 39) (some (37,true)) (.load false 1 (.tmp 38)),
 .mk (some 40) (some (37,true)) (.fld 0 (.tmp 1)),
 .mk (some 41) (some (37,true)) (.load false 1 (.tmp 40)),
 .mk (some 42) (some (37,true)) (.ibin .geq (.tmp 39) (.tmp 41)),
 .mk (some 43) (some (34,false))
 (.pick (.tmp 37) (.tmp 42) (.const (.bool false))),
 oq 44 (.pick (.tmp 34) (.const (.bool true)) (.tmp 43)),
 oq 45 (.mv (.tmp 44)),
 .mk (some 46) (some (45,false)) (.fld 0 (.tmp 6)),
 .mk (some 47) (some (45,false)) (.load false 1 (.tmp 46)),
 .mk (some 48) (some (45,false)) (.un .not (.tmp 47)),
 .mk (some 49) (some (45,false)) (.mv (.tmp 48)),
 .mk (some 50) (some (49,true)) (.fld 1 (.tmp 6)),
 .mk (some 51) (some (49,true)) (.load false 1 (.tmp 50)),
 .mk (some 52) (some (49,true)) (.fld 1 (.tmp 1)),
 .mk (some 53) (some (49,true)) (.load false 1 (.tmp 52)),
 .mk (some 54) (some (49,true)) (.ibin .geq (.tmp 51) (.tmp 53)),
 .mk (some 55) (some (45,false))
 (.pick (.tmp 49) (.tmp 54) (.const (.bool false))),
 oq 56 (.pick (.tmp 45) (.const (.bool true)) (.tmp 55))]
 [1,8,9,10,25,26,27,56])
 (.cond (.tmp 56)
 (.seq (.region [oq 2 (.mv (.const (.bool false)))] [2]) .ret)
 .skip))))
 (.region
 [oq 57 (.ibin .add (.tmp 27) (.const (.int .i64 1))),
 oq 27 (.mv (.tmp 57))]
 [1,8,9,10,25,26,27])))
def S168_2 : Stmt :=
 .seq (.region [oq 11 (.ibin .lss (.tmp 10) (.tmp 9))] [1,8,9,10,11])
 (.seq (.cond (.tmp 11) .skip (.exit 0))
 (.seq
 (.block 1
 (.seq
 (.region
 [oq 12 (.idx 2 (.tmp 8) (.tmp 10)),
 oq 13 (.load true 2 (.tmp 12)),
 .mk (some 4) none
 (.alloc true 129 (.agg (Array.mk [.int .i64 0,.slice none 0 0]))),
 .mk none none (.store 2 (.tmp 4) (.tmp 13))]
 [1,4,8,9,10])
 (.seq
 (.seq
 (.region
 [oq 14 (.fld 0 (.tmp 4)),
 oq 15 (.load false 1 (.tmp 14)),
 .mk (some 16) none
 (.ibin .lss (.tmp 15) (.const (.int .i64 0))),
 oq 17 (.mv (.tmp 16)),
 .mk (some 18) (some (17,false)) (.fld 0 (.tmp 4)),
 .mk (some 19) (some (17,false)) (.load false 1 (.tmp 18)),
 .mk (some 20) (some (17,false)) (.fld 1 (.tmp 1)),
 .mk (some 21) (some (17,false)) (.load false 1 (.tmp 20)),
 .mk (some 22) (some (17,false)) (.ibin .geq (.tmp 19) (.tmp 21)),
 .mk (some 23) none
 (.pick (.tmp 17) (.const (.bool true)) (.tmp 22))]
 [1,4,8,9,10,23])
 (.cond (.tmp 23)
 (.seq (.region [oq 2 (.mv (.const (.bool false)))] [2])
 .ret)
 .skip))
 (.seq
 (.region
 [oq 24 (.fld 1 (.tmp 4)),
 oq 25 (.load false 1 (.tmp 24)),
 oq 26 (.len false (.tmp 25)),
 oq 27 (.mv (.const (.int .i64 0)))]
 [1,8,9,10,25,26,27])
 (.block 2 (.loop S168_1 [27] [1,8,9,10,25,26]))))))
 (.region
 [oq 58 (.ibin .add (.tmp 10) (.const (.int .i64 1))),
 oq 10 (.mv (.tmp 58))]
 [1,8,9,10])))
def S168_0 : Stmt :=
 .seq
 (.region
 [oq 1 (.box true 24 (.tmp 0)),
 oq 2 (.mv (.const (.bool false)))]
 [1])
 (.seq
 (.seq
 (.region
 [oq 7 (.fld 3 (.tmp 1)),oq 8 (.load false 1 (.tmp 7)),
 oq 9 (.len false (.tmp 8)),
 oq 10 (.mv (.const (.int .i64 0)))]
 [1,8,9,10])
 (.block 0 (.loop S168_2 [10] [1,8,9])))
 (.seq
 (.region
 [oq 59 (.fld 1 (.tmp 1)),
 oq 60 (.load false 1 (.tmp 59)),
 oq 61 (.ibin .geq (.tmp 60) (.const (.int .i64 0))),
 oq 62 (.mv (.tmp 61)),
 .mk (some 63) (some (62,true)) (.fld 1 (.tmp 1)),
 .mk (some 64) (some (62,true)) (.load false 1 (.tmp 63)),
 .mk (some 65) (some (62,true))
 (.ibin .leq (.tmp 64) (.const (.int .i64 16001))),
 oq 66 (.pick (.tmp 62) (.tmp 65) (.const (.bool false))),
 oq 2 (.mv (.tmp 66))]
 [2])
 .ret))
def S168 : FnS := ⟨67,[(2,none)],S168_0⟩
theorem tr168 : trFn Try.prog 168 [1,4,6] [[1],[1,8,9,10],[10],[1,8,9],[1,8,9,10,11],[1,4,8,9,10],[1,4,8,9,10,23],[2],[1,8,9,10,25,26,27],[27],[1,8,9,10,25,26],[1,8,9,10,25,26,27,28],[1,6,8,9,10,25,26,27],[1,8,9,10,25,26,27,56],[2],[1,8,9,10,25,26,27],[1,8,9,10],[2]] = some S168 := by kernel_rfl
/- The text of parlance/meet.lengths as a statement; no condition. -/
def S169_1 : Stmt :=
 .seq
 (.region [oq 17 (.ibin .lss (.tmp 16) (.tmp 15))] [1,3,15,16,17])
 (.seq (.cond (.tmp 17) .skip (.exit 0))
 (.seq
 (.block 1
 (.seq
 (.region
 [oq 18 (.mv (.tmp 16)),oq 4 (.mv (.tmp 18))]
 [1,3,4,15,16])
 (.region
 [oq 19 (.mv (.tmp 3)),oq 20 (.mv (.tmp 4)),
 oq 21 (.idx 1 (.tmp 19) (.tmp 20)),
 .mk none none (.store 1 (.tmp 21) (.const (.int .i64 (-1))))]
 [1,3,15,16])))
 (.region
 [oq 22 (.ibin .add (.tmp 16) (.const (.int .i64 1))),
 oq 16 (.mv (.tmp 22))]
 [1,3,15,16])))
def S169_2 : Stmt :=
 .block 7
 (.seq
 (.region
 [oq 36 (.idx 2 (.tmp 32) (.tmp 34)),
 oq 37 (.load true 2 (.tmp 36)),
 oq 10 (.alloc true 53 (.agg (Array.mk [.bool false,.int .i64 0]))),
 .mk none none (.store 2 (.tmp 10) (.tmp 37))]
 [1,3,5,7,8,10,25,26,27,32,33,34])
 (.block 8
 (.seq
 (.region
 [oq 46 (.fld 0 (.tmp 10)),
 oq 47 (.load false 1 (.tmp 46)),
 oq 45 (.mv (.tmp 47))]
 [1,3,5,7,8,10,25,26,27,32,33,34,45])
 (.cond (.tmp 45)
 (.region
 [oq 48 (.mv (.tmp 8)),
 oq 49 (.ibin .add (.tmp 48) (.const (.int .i64 1))),
 oq 8 (.mv (.tmp 49))]
 [1,3,5,7,8,25,26,27,32,33,34])
 (.seq
 (.region
 [oq 51 (.mv (.tmp 3)),oq 52 (.fld 1 (.tmp 10)),
 oq 53 (.load false 1 (.tmp 52)),
 oq 54 (.idx 1 (.tmp 51) (.tmp 53)),
 oq 55 (.load false 1 (.tmp 54)),
 oq 56 (.ibin .lss (.tmp 55) (.const (.int .i64 0))),
 oq 50 (.mv (.tmp 56))]
 [1,3,5,7,8,10,25,26,27,32,33,34,50])
 (.cond (.tmp 50)
 (.region [oq 8 (.mv (.const (.int .i64 1099511627776)))]
 [1,3,5,7,8,25,26,27,32,33,34])
 (.region
 [oq 38 (.mv (.tmp 8)),oq 39 (.mv (.tmp 3)),
 oq 40 (.fld 1 (.tmp 10)),
 oq 41 (.load false 1 (.tmp 40)),
 oq 42 (.idx 1 (.tmp 39) (.tmp 41)),
 oq 43 (.load false 1 (.tmp 42)),
 oq 44 (.ibin .add (.tmp 38) (.tmp 43)),
 oq 8 (.mv (.tmp 44))]
 [1,3,5,7,8,25,26,27,32,33,34])))))))
def S169_3 : Stmt :=
 .region
 [oq 57 (.ibin .add (.tmp 34) (.const (.int .i64 1))),
 oq 34 (.mv (.tmp 57))]
 [1,3,5,7,8,25,26,27,32,33,34]
def S169_4 : Stmt :=
 .seq
 (.region [oq 35 (.ibin .lss (.tmp 34) (.tmp 33))]
 [1,3,5,7,8,25,26,27,32,33,34,35])
 (.seq (.cond (.tmp 35) .skip (.exit 6))
 (.join S169_2 S169_3 [8] [1,3,5,7,25,26,27,32,33,34]))
def S169_5 : Stmt :=
 .block 5
 (.seq
 (.region
 [oq 29 (.idx 2 (.tmp 25) (.tmp 27)),
 oq 30 (.load true 2 (.tmp 29)),
 .mk (some 7) none
 (.alloc true 129 (.agg (Array.mk [.int .i64 0,.slice none 0 0]))),
 .mk none none (.store 2 (.tmp 7) (.tmp 30))]
 [1,3,5,7,25,26,27])
 (.seq
 (.region [oq 8 (.mv (.const (.int .i64 0)))]
 [1,3,5,7,8,25,26,27])
 (.seq
 (.seq
 (.region
 [oq 31 (.fld 1 (.tmp 7)),
 oq 32 (.load false 1 (.tmp 31)),
 oq 33 (.len false (.tmp 32)),
 oq 34 (.mv (.const (.int .i64 0)))]
 [1,3,5,7,8,25,26,27,32,33,34])
 (.block 6 (.loop S169_4 [8,34] [1,3,5,7,25,26,27,32,33])))
 (.seq
 (.region
 [oq 58 (.mv (.tmp 8)),
 .mk (some 59) none
 (.ibin .lss (.tmp 58) (.const (.int .i64 1099511627776))),
 oq 60 (.mv (.tmp 59)),
 .mk (some 61) (some (60,true)) (.mv (.tmp 3)),
 .mk (some 62) (some (60,true)) (.fld 0 (.tmp 7)),
 .mk (some 63) (some (60,true)) (.load false 1 (.tmp 62)),
 .mk (some 64) (some (60,true)) (.idx 1 (.tmp 61) (.tmp 63)),
 .mk (some 65) (some (60,true)) (.load false 1 (.tmp 64)),
 .mk (some 66) (some (60,true))
 (.ibin .lss (.tmp 65) (.const (.int .i64 0))),
 .mk (some 67) (some (60,true)) (.mv (.tmp 66)),
 .mk (some 68) (some (67,false)) (.mv (.tmp 8)),
 .mk (some 69) (some (67,false))
 (.fn Fk.min [.tmp 68,.const (.int .i64 2001)]),
 .mk (some 70) (some (67,false)) (.mv (.tmp 3)),
 .mk (some 71) (some (67,false)) (.fld 0 (.tmp 7)),
 .mk (some 72) (some (67,false)) (.load false 1 (.tmp 71)),
 .mk (some 73) (some (67,false)) (.idx 1 (.tmp 70) (.tmp 72)),
 .mk (some 74) (some (67,false)) (.load false 1 (.tmp 73)),
 .mk (some 75) (some (67,false)) (.ibin .lss (.tmp 69) (.tmp 74)),
 .mk (some 76) (some (60,true))
 (.pick (.tmp 67) (.const (.bool true)) (.tmp 75)),
 oq 77 (.pick (.tmp 60) (.tmp 76) (.const (.bool false)))]
 [1,3,5,7,8,25,26,27,77])
 (.cond (.tmp 77)
 (.region
 [oq 78 (.mv (.tmp 3)),oq 79 (.fld 0 (.tmp 7)),
 oq 80 (.load false 1 (.tmp 79)),
 oq 81 (.mv (.tmp 8)),
 oq 82 (.fn Fk.min [.tmp 81,.const (.int .i64 2001)]),
 oq 83 (.idx 1 (.tmp 78) (.tmp 80)),
 .mk none none (.store 1 (.tmp 83) (.tmp 82)),
 oq 5 (.mv (.const (.bool true)))]
 [1,3,5,25,26,27])
 .skip)))))
def S169_6 : Stmt :=
 .region
 [oq 84 (.ibin .add (.tmp 27) (.const (.int .i64 1))),
 oq 27 (.mv (.tmp 84))]
 [1,3,5,25,26,27]
def S169_7 : Stmt :=
 .seq
 (.region [oq 28 (.ibin .lss (.tmp 27) (.tmp 26))]
 [1,3,5,25,26,27,28])
 (.seq (.cond (.tmp 28) .skip (.exit 4)) (.join S169_5 S169_6 [5] [1,3,25,26,27]))
def S169_8 : Stmt :=
 .seq
 (.seq (.region [oq 23 (.mv (.tmp 5))] [1,3,23])
 (.cond (.tmp 23) .skip (.exit 2)))
 (.block 3
 (.seq (.region [oq 5 (.mv (.const (.bool false)))] [1,3,5])
 (.seq
 (.region
 [oq 24 (.fld 3 (.tmp 1)),
 oq 25 (.load false 1 (.tmp 24)),
 oq 26 (.len false (.tmp 25)),
 oq 27 (.mv (.const (.int .i64 0)))]
 [1,3,5,25,26,27])
 (.block 4 (.loop S169_7 [5,27] [1,3,25,26])))))
def S169_0 : Stmt :=
 .seq
 (.region
 [oq 1 (.box true 24 (.tmp 0)),
 oq 2 (.mv (.const (.slice none 0 0)))]
 [1])
 (.seq
 (.region
 [oq 11 (.fld 1 (.tmp 1)),oq 12 (.load false 1 (.tmp 11)),
 oq 13 (.mk 3 1 8 (.int .i64 0) (.tmp 12) (.tmp 12)),
 oq 3 (.mv (.tmp 13))]
 [1,3])
 (.seq
 (.seq
 (.region
 [oq 14 (.mv (.tmp 3)),oq 15 (.len false (.tmp 14)),
 oq 16 (.mv (.const (.int .i64 0)))]
 [1,3,15,16])
 (.block 0 (.loop S169_1 [16] [1,3,15])))
 (.seq
 (.seq (.region [oq 5 (.mv (.const (.bool true)))] [1,3,5])
 (.block 2 (.loop S169_8 [5] [1,3])))
 (.seq
 (.region
 [oq 85 (.mv (.tmp 3)),oq 2 (.mv (.tmp 85))] [2])
 .ret))))
def S169 : FnS := ⟨86,[(2,none)],S169_0⟩
theorem tr169 : trFn Try.prog 169 [1,7,10] [[1],[1,3],[1,3,15,16],[16],[1,3,15],[1,3,15,16,17],[1,3,4,15,16],[1,3,15,16],[1,3,15,16],[1,3,5],[5],[1,3],[1,3,23],[1,3,5],[1,3,5,25,26,27],[5,27],[1,3,25,26],[1,3,5,25,26,27,28],[5],[1,3,25,26,27],[1,3,5,7,25,26,27],[1,3,5,7,8,25,26,27],[1,3,5,7,8,25,26,27,32,33,34],[8,34],[1,3,5,7,25,26,27,32,33],[1,3,5,7,8,25,26,27,32,33,34,35],[8],[1,3,5,7,25,26,27,32,33,34],[1,3,5,7,8,10,25,26,27,32,33,34],[1,3,5,7,8,10,25,26,27,32,33,34,45],[1,3,5,7,8,25,26,27,32,33,34],[1,3,5,7,8,10,25,26,27,32,33,34,50],[1,3,5,7,8,25,26,27,32,33,34],[1,3,5,7,8,25,26,27,32,33,34],[1,3,5,7,8,25,26,27,32,33,34],[1,3,5,7,8,25,26,27,77],[1,3,5,25,26,27],[1,3,5,25,26,27],[2]] = some S169 := by kernel_rfl
/- Whole grammars, and lengths of least words: meet's whole and lengths walked; no condition. -/
theorem meet_whole {Γr : Ctx} {g : Gr} {N : Nat} {A : Option Addr} {c : Nat} (G : WG g N) (hx : SlOk (lk Γr) A c g.rs) :
  Ret Try.prog 168 [.agg #[.int .i64 g.ts, .int .i64 g.ns, .int .i64 g.st, .slice A g.rs.length c]] Γr [] (fun v Γ => Γ = [] ∧ v = .bool true) := by
 generalize hR : (fun (v : Value) (Γ : Ctx) => Γ = [] ∧ _) = R
 refine ret_of_vc tr168 (Nat.le_of_ble_eq_true rfl) ?_
 have hts := G.ts
 have hns := G.ns
 have hN := G.n
 have hlen := G.len
 simp -implicitDefEqProofs only [S168, S168_0, go_sem,zA,zB,zC,zD,zE,reduceCtorEq,↓reduceIte,zF,zG,zH,zI]
 intro b0
 refine s_loop (fun f vs Γ => ∃ (i : Nat), vs = [.v true (.int .i64 i)] ∧ Γ = [] ∧ i + f = g.rs.length) g.rs.length
  (Up.here ⟨0, rfl, rfl, by omega⟩) ?_
 rintro f vs Γ ⟨i, rfl, rfl, hif⟩
 simp -implicitDefEqProofs only [S168_2, go_sem,zA,zB,zC,zD,zE,reduceCtorEq,↓reduceIte,zF,zG,zH,zI]
 refine ⟨fun hlt => ?_, fun hge => ?_⟩
 ·have hi : i < g.rs.length := by omega
  obtain ⟨b1, o1, hA1, A2, c2, hs2, hc2⟩ := hx.ru hi
  have hm := List.getElem_mem hi
  have hl := G.left _ hm
  have hr4 := G.right _ hm
  have hsy := G.sym _ hm
  generalize g.rs[i] = r at *
  refine s_idx hA1 (by omega) (by omega) ?_
  simp -implicitDefEqProofs only [go_sem,zA,zB,zC,zD,zE,reduceCtorEq,↓reduceIte,zF,zG,zH,zI]
  refine s_ld0 (hc2 _ (lk_r [] _)) (by simp) (by simp) ?_
  simp -implicitDefEqProofs only [go_sem,zA,zB,zC,zD,zE,reduceCtorEq,↓reduceIte,zF,zG,zH,zI]
  refine ⟨fun h => by omega, fun _ => ?_⟩
  refine s_loop (fun f1 vs Γ => ∃ (k : Nat), vs = [.v true (.int .i64 k)] ∧ Γ = [] ∧ k + f1 = r.r.length) r.r.length
   (Up.here ⟨0, rfl, rfl, by omega⟩) ?_
  rintro f1 vs Γ ⟨k, rfl, rfl, hkf⟩
  simp -implicitDefEqProofs only [S168_1, go_sem,zA,zB,zC,zD,zE,reduceCtorEq,↓reduceIte,zF,zG,zH,zI]
  refine ⟨fun hlt2 => ?_, fun hge2 => ?_⟩
  ·have hk : k < r.r.length := by omega
   obtain ⟨b4, o4, hA4, hc4⟩ := hs2.sy hk
   have hs := hsy _ (List.getElem_mem hk)
   generalize r.r[k] = s at *
   refine s_idx hA4 (by omega) (by omega) ?_
   simp -implicitDefEqProofs only [go_sem,zA,zB,zC,zD,zE,reduceCtorEq,↓reduceIte,zF,zG,zH,zI]
   refine s_ld0 (hc4 _ (lk_r [] _)) (by simp) (by simp) ?_
   simp -implicitDefEqProofs only [go_sem,zA,zB,zC,zD,zE,reduceCtorEq,↓reduceIte,zF,zG,zH,zI]
   refine ⟨fun h1 h2 => ⟨h1, h2⟩, fun h1 h2 => ⟨h1, h2⟩, fun h => ?_, fun _ => ?_⟩
   ·exfalso
    obtain ⟨s1, s2⟩ := s
    cases s1 <;> simp at h hs <;> omega
   ·simp (disch := omega) only [wrap_id]
    exact ⟨f1 - 1, by omega, Up.here ⟨k + 1, rfl, rfl, by omega⟩⟩
  ·simp (disch := omega) only [wrap_id]
   exact ⟨f - 1, by omega, Up.here ⟨i + 1, rfl, rfl, by omega⟩⟩
 ·refine Up.here ?_
  subst hR
  exact ⟨rfl, by rw [decide_eq_true (show 0 ≤ g.ns by omega), decide_eq_true (show g.ns ≤ 16001 by omega)]; rfl⟩
theorem meet_lengths {Γr : Ctx} {g : Gr} {N : Nat} {A : Option Addr} {c : Nat} (G : WG g N) (hx : SlOk (lk Γr) A c g.rs) :
  Ret Try.prog 169 [.agg #[.int .i64 g.ts, .int .i64 g.ns, .int .i64 g.st, .slice A g.rs.length c]] Γr [] (fun v Γ => ∃ go A' c' L, Γ = [go] ∧ v = .slice A' N c' ∧ SlOk (lk [go]) A' c' L ∧ LenS g.rs N L) := by
 generalize hR : (fun (v : Value) (Γ : Ctx) => ∃ go A' c' L, _) = R
 refine ret_of_vc tr169 (Nat.le_of_ble_eq_true rfl) ?_
 have hts := G.ts
 have hns := G.ns
 have hN := G.n
 have hlen := G.len
 simp -implicitDefEqProofs only [S169, S169_0, go_sem,zA,zB,zC,zD,zE,reduceCtorEq,↓reduceIte,zF,zG,zH,zI]
 intro bg
 rw [hns]
 refine ⟨by omega, by omega, fun bo => ?_⟩
 rw [Int.toNat_natCast]
 refine s_loop (fun f vs Γ => ∃ (i : Nat) (go : PH), vs = [.v true (.int .i64 (i : Int))] ∧ Γ = [go] ∧ i + f = N ∧ Arr go bo 3 (prow (-1 : Int) 0 N i)) N
  (Up.here ⟨0, _, rfl, rfl, by omega, by rw [prow_zero]; exact Arr.made (0 : Int) bo 3 N⟩) ?_
 rintro f vs Γ ⟨i, go, rfl, rfl, hif, hA⟩
 simp -implicitDefEqProofs only [S169_1, go_sem,zA,zB,zC,zD,zE,reduceCtorEq,↓reduceIte,zF,zG,zH,zI]
 refine ⟨fun hlt => ?_, fun hge => ?_⟩
 ·have hi : i < N := by omega
  have hpl := prow_len (-1 : Int) 0 (n := N) (j := i) (by omega)
  refine s_idx rfl (by omega) (by omega) ?_
  simp -implicitDefEqProofs only [go_sem,zA,zB,zC,zD,zE,reduceCtorEq,↓reduceIte,zF,zG,zH,zI]
  refine s_storeA (ix := 0) (α := Int) (-1) rfl hA (i := i) (by omega) ?_
  intro g2 hA2 _
  rw [prow_set (-1 : Int) 0 hi] at hA2
  simp -implicitDefEqProofs only [go_sem,zA,zB,zC,zD,zE,reduceCtorEq,↓reduceIte,zF,zG,zH,zI]
  simp (disch := omega) only [wrap_id]
  exact ⟨f - 1, by omega, Up.here ⟨i + 1, g2, rfl, rfl, by omega, hA2⟩⟩
 have hie : i = N := by omega
 rw [hie, prow_all] at hA
 have hI0 := LenI.zero g.rs N
 generalize List.replicate N (-1 : Int) = o at hA hI0
 refine s_loop (fun f vs Γ => ∃ (go : PH) (o : List Int) (ag : Bool), vs = [.v true (.bool ag)] ∧ Γ = [go] ∧ Arr go bo 3 o ∧ LenI g.rs N o ∧ f = wtN o + (if ag then 1 else 0) ∧ (ag = false → ∀ r ∈ g.rs, LenC o r)) (wtN o + 1)
  (Up.here ⟨go, o, true, rfl, rfl, hA, hI0, rfl, fun h => by cases h⟩) ?_
 clear hA hI0 hif hge
 rintro f vs Γ ⟨go, o0, ag, rfl, rfl, hA, hI, hf, hC⟩
 cases ag with
 | false =>
  simp -implicitDefEqProofs only [S169_8, go_sem,zA,zB,zC,zD,zE,reduceCtorEq,↓reduceIte,zF,zG,zH,zI]
  refine Up.here ?_
  subst hR
  have hl := hI.1
  have hSo := Arr.slok (g := go) (b := bo) (T := 3) hA (Mem.le.refl _) (Nat.le_refl _) (by unfold maxLen; omega) (by omega)
  refine ⟨go, some ⟨bo, 0, none⟩, o0.length, o0, rfl, ?_, hSo, len_done hI G.left (hC rfl)⟩
  rw [show o0.length = N by omega]
 | true =>
  simp -implicitDefEqProofs only [S169_8, go_sem,zA,zB,zC,zD,zE,reduceCtorEq,↓reduceIte,zF,zG,zH,zI]
  refine s_loop (fun f1 vs Γ => ∃ (go : PH) (o : List Int) (ag : Bool) (i : Nat), vs = [.v true (.bool ag), .v true (.int .i64 (i : Int))] ∧ Γ = [go] ∧ i + f1 = g.rs.length ∧ Arr go bo 3 o ∧ LenI g.rs N o ∧ wtN o + (if ag then 1 else 0) ≤ wtN o0 ∧ (ag = false → ∀ r ∈ g.rs.take i, LenC o r)) g.rs.length
   (Up.here ⟨go, o0, false, 0, rfl, rfl, by omega, hA, hI, by simp, fun _ r hr => by simp at hr⟩) ?_
  clear hA hI hC
  rintro f1 vs Γ ⟨go, o, ag, i, rfl, rfl, hif, hA, hI, hw, hC⟩
  simp -implicitDefEqProofs only [S169_7, go_sem,zA,zB,zC,zD,zE,reduceCtorEq,↓reduceIte,zF,zG,zH,zI]
  refine ⟨fun hlt => ?_, fun hge => ?_⟩
  ·have hi : i < g.rs.length := by omega
   have hmem := List.getElem_mem hi
   have htk : g.rs.take (i + 1) = g.rs.take i ++ [g.rs[i]] := List.take_succ_eq_append_getElem hi
   have hleft := G.left _ hmem
   have hr4 := G.right _ hmem
   have hsym := G.sym _ hmem
   obtain ⟨b0, o0', h0', A1, c1, hr1, hcr⟩ := hx.ru hi
   generalize g.rs[i] = r at *
   obtain ⟨a, ha⟩ : ∃ a : Nat, r.l = a := ⟨r.l.toNat, by omega⟩
   have hol := hI.1
   have haN : a < o.length := by omega
   have hle := hI.le
   have hsO : ∀ s ∈ r.r, symOk N s := fun s hs q => ⟨(hsym s hs).1, (hsym s hs).2.2 q⟩
   have hput := fun m => hI.put hmem hsO ha haN (m := m)
   have hg : o.getD r.l.toNat 0 = o[a] := by rw [ha, Int.toNat_natCast]; simp [List.getD_eq_getElem?_getD, haN]
   have hoa := hle a
   rw [show o.getD a 0 = o[a] by simp [List.getD_eq_getElem?_getD, haN]] at hoa
   refine s_split ?_
   simp -implicitDefEqProofs only [S169_5, go_sem,zA,zB,zC,zD,zE,reduceCtorEq,↓reduceIte,zF,zG,zH,zI]
   refine s_idx h0' (by omega) (by omega) ?_
   simp -implicitDefEqProofs only [go_sem,zA,zB,zC,zD,zE,reduceCtorEq,↓reduceIte,zF,zG,zH,zI]
   refine s_ld0 (hcr _ (lk_r [go] _)) (by simp) (by simp) ?_
   simp -implicitDefEqProofs only [go_sem,zA,zB,zC,zD,zE,reduceCtorEq,↓reduceIte,zF,zG,zH,zI]
   intro bx
   refine s_loop (fun f2 vs Γ => ∃ (k : Nat), vs = [.v true (.int .i64 ((r.r.take k).foldl (nst o) 0)), .v true (.int .i64 k)] ∧ Γ = [go] ∧ k + f2 = r.r.length) r.r.length
    (Up.here ⟨0, rfl, rfl, by omega⟩) ?_
   rintro f2 vs Γ ⟨k, rfl, rfl, hkf⟩
   simp -implicitDefEqProofs only [S169_4, go_sem,zA,zB,zC,zD,zE,reduceCtorEq,↓reduceIte,zF,zG,zH,zI]
   refine ⟨fun hlt2 => ?_, fun hge2 => ?_⟩
   ·have hk : k < r.r.length := by omega
    obtain ⟨b4, o4, hA4, hc4⟩ := hr1.sy hk
    have htk2 := List.take_succ_eq_append_getElem hk
    have hs := hsym _ (List.getElem_mem hk)
    have hbd := nst_le (fun a => (hle a).1) (l := r.r.take k) (n := 0) (m := 0) (by omega) (by omega) (by omega)
    rw [List.length_take] at hbd
    generalize r.r[k] = s at *
    have hfold : (r.r.take (k + 1)).foldl (nst o) 0 = nst o ((r.r.take k).foldl (nst o) 0) s := by rw [htk2, List.foldl_append]; rfl
    generalize (r.r.take k).foldl (nst o) 0 = n at *
    refine s_split ?_
    simp -implicitDefEqProofs only [S169_2, S169_3, go_sem,zA,zB,zC,zD,zE,reduceCtorEq,↓reduceIte,zF,zG,zH,zI]
    refine s_idx hA4 (by omega) (by omega) ?_
    simp -implicitDefEqProofs only [go_sem,zA,zB,zC,zD,zE,reduceCtorEq,↓reduceIte,zF,zG,zH,zI]
    refine s_ld0 (hc4 _ (lk_r [go] _)) (by simp) (by simp) ?_
    simp -implicitDefEqProofs only [go_sem,zA,zB,zC,zD,zE,reduceCtorEq,↓reduceIte,zF,zG,zH,zI]
    intro by'
    have hwrap : IntKind.i64.wrap (n + 1) = n + 1 := wrap_id (by omega) (by omega)
    refine ⟨fun hst => Up.here ?_, fun hst => ?_⟩
    ·have e : nst o n s = n + 1 := if_pos hst
     rw [e] at hfold
     rw [hwrap]
     simp (disch := omega) only [wrap_id]
     exact ⟨f2 - 1, by omega, Up.here ⟨k + 1, by rw [hfold]; rfl, rfl, by omega⟩⟩
    ·obtain ⟨x, hx⟩ : ∃ x : Nat, s.n = x := ⟨s.n.toNat, by omega⟩
     have hsx := hs.2.2 hst
     have hxo : x < o.length := by omega
     have hcx : ∀ Γ : Ctx, go ∈ Γ → Cells Γ bo x [.int .i64 o[x]] := fun Γ hg => hA.cell (i := x) hxo hg
     have hle2 := hle x
     have hgx : o.getD s.n.toNat 0 = o[x] := by rw [hx, Int.toNat_natCast]; simp [List.getD_eq_getElem?_getD, hxo]
     rw [show o.getD x 0 = o[x] by simp [List.getD_eq_getElem?_getD, hxo]] at hle2
     have hnst : nst o n s = if o[x] < 0 then 1099511627776 else n + o[x] := by
      unfold nst
      rw [if_neg (by simp [hst]), hgx]
     rw [hx]
     refine s_idx rfl (by omega) (by omega) ?_
     simp -implicitDefEqProofs only [go_sem,zA,zB,zC,zD,zE,reduceCtorEq,↓reduceIte,zF,zG,zH,zI]
     refine s_ld0 (by simpa using hcx _ (by simp)) (by simp) (by simp) ?_
     simp -implicitDefEqProofs only [go_sem,zA,zB,zC,zD,zE,reduceCtorEq,↓reduceIte,zF,zG,zH,zI]
     refine ⟨fun hneg => Up.here ?_, fun hpos => ?_⟩
     ·rw [hnst, if_pos hneg] at hfold
      simp (disch := omega) only [wrap_id]
      exact ⟨f2 - 1, by omega, Up.here ⟨k + 1, by rw [hfold]; rfl, rfl, by omega⟩⟩
     ·rw [hnst, if_neg hpos] at hfold
      refine s_idx rfl (by omega) (by omega) ?_
      simp -implicitDefEqProofs only [go_sem,zA,zB,zC,zD,zE,reduceCtorEq,↓reduceIte,zF,zG,zH,zI]
      refine s_ld0 (by simpa using hcx _ (by simp)) (by simp) (by simp) ?_
      simp -implicitDefEqProofs only [go_sem,zA,zB,zC,zD,zE,reduceCtorEq,↓reduceIte,zF,zG,zH,zI]
      have hwrap2 : IntKind.i64.wrap (n + o[x]) = n + o[x] := wrap_id (by omega) (by omega)
      rw [hwrap2]
      simp (disch := omega) only [wrap_id]
      exact Up.here ⟨f2 - 1, by omega, Up.here ⟨k + 1, by rw [hfold]; rfl, rfl, by omega⟩⟩
   ·have hk : k = r.r.length := by omega
    rw [hk, List.take_length]
    have hiff := nst_iff (fun a => (hle a).1) hr4
    have hclause : (∀ n, lsum o r.r = some n → 0 ≤ o[a] ∧ o[a] ≤ min n 2001) → LenC o r := fun q n hn => by rw [hg]; exact q n hn
    have hnext : (∀ n, lsum o r.r = some n → 0 ≤ o[a] ∧ o[a] ≤ min n 2001) → ag = false → ∀ r' ∈ g.rs.take (i + 1), LenC o r' := by
     intro q h r' hr'
     rw [htk] at hr'
     rcases List.mem_append.1 hr' with w | w
     ·exact hC h r' w
     ·simp only [List.mem_singleton] at w
      subst w
      exact hclause q
    generalize r.r.foldl (nst o) 0 = n at *
    have hcell : ∀ Γ : Ctx, go ∈ Γ → Cells Γ bo a [.int .i64 o[a]] := fun Γ hg => hA.cell (i := a) haN hg
    have hNl : (N : Int) = o.length := by omega
    rw [ha]
    rcases hiff with ⟨m, hm1, rfl, hm2, hm3⟩ | ⟨hm1, hm2⟩
    ·rw [show decide (n < 1099511627776) = true from decide_eq_true hm3]
     simp -implicitDefEqProofs only [go_sem,zA,zB,zC,zD,zE,reduceCtorEq,↓reduceIte,zF,zG,zH,zI]
     refine s_idx rfl (by omega) (by omega) ?_
     simp -implicitDefEqProofs only [go_sem,zA,zB,zC,zD,zE,reduceCtorEq,↓reduceIte,zF,zG,zH,zI]
     refine s_ld0 (by simpa using hcell _ (by simp)) (by simp) (by simp) ?_
     simp -implicitDefEqProofs only [go_sem,zA,zB,zC,zD,zE,reduceCtorEq,↓reduceIte,zF,zG,zH,zI]
     by_cases hneg : o[a] < 0
     ·rw [show decide (o[a] < 0) = true from decide_eq_true hneg]
      simp -implicitDefEqProofs only [go_sem,zA,zB,zC,zD,zE,reduceCtorEq,↓reduceIte,zF,zG,zH,zI]
      refine ⟨.int .i64 0, fun h => (by cases h), ?_⟩
      simp -implicitDefEqProofs only [go_sem,zA,zB,zC,zD,zE,reduceCtorEq,↓reduceIte,zF,zG,zH,zI]
      refine s_idxg (b := 0) (o := 0) (by simp) ?_
      simp -implicitDefEqProofs only [go_sem,zA,zB,zC,zD,zE,reduceCtorEq,↓reduceIte,zF,zG,zH,zI]
      refine s_ldg0 (cs := [.int .i64 0]) (by simp) (by simp) (by simp) (by simp) ?_
      simp -implicitDefEqProofs only [go_sem,zA,zB,zC,zD,zE,reduceCtorEq,↓reduceIte,zF,zG,zH,zI]
      refine s_idx rfl (by omega) (by omega) ?_
      simp -implicitDefEqProofs only [go_sem,zA,zB,zC,zD,zE,reduceCtorEq,↓reduceIte,zF,zG,zH,zI]
      rw [show (if 2001 < n then (2001 : Int) else n) = min n 2001 by split <;> omega]
      refine s_storeA (ix := 0) (α := Int) (min n 2001) rfl hA (i := a) haN ?_
      intro g2 hA2 _
      obtain ⟨hI2, hw2⟩ := hput n hm1 (.inl hneg)
      simp -implicitDefEqProofs only [S169_6, go_sem,zA,zB,zC,zD,zE,reduceCtorEq,↓reduceIte,zF,zG,zH,zI]
      simp (disch := omega) only [wrap_id]
      refine Up.here ⟨f1 - 1, by omega, Up.here ⟨g2, _, true, i + 1, rfl, rfl, by omega, hA2, hI2, ?_, fun h => by cases h⟩⟩
      revert hw
      cases ag <;> simp <;> omega
     ·rw [show decide (o[a] < 0) = false from decide_eq_false hneg]
      simp -implicitDefEqProofs only [go_sem,zA,zB,zC,zD,zE,reduceCtorEq,↓reduceIte,zF,zG,zH,zI]
      refine ⟨hneg, ?_⟩
      refine s_idx rfl (by omega) (by omega) ?_
      simp -implicitDefEqProofs only [go_sem,zA,zB,zC,zD,zE,reduceCtorEq,↓reduceIte,zF,zG,zH,zI]
      refine s_ld0 (by simpa using hcell _ (by simp)) (by simp) (by simp) ?_
      simp -implicitDefEqProofs only [go_sem,zA,zB,zC,zD,zE,reduceCtorEq,↓reduceIte,zF,zG,zH,zI]
      refine ⟨fun hlt3 => ?_, fun hge3 => ?_⟩
      ·have e2 : (if 2001 < n then (2001 : Int) else n) = min n 2001 := by split <;> omega
       refine s_idx rfl (by omega) (by omega) ?_
       simp -implicitDefEqProofs only [go_sem,zA,zB,zC,zD,zE,reduceCtorEq,↓reduceIte,zF,zG,zH,zI]
       rw [show (if 2001 < n then (2001 : Int) else n) = min n 2001 by split <;> omega]
       refine s_storeA (ix := 0) (α := Int) (min n 2001) rfl hA (i := a) haN ?_
       intro g2 hA2 _
       obtain ⟨hI2, hw2⟩ := hput n hm1 (.inr (by omega))
       simp -implicitDefEqProofs only [S169_6, go_sem,zA,zB,zC,zD,zE,reduceCtorEq,↓reduceIte,zF,zG,zH,zI]
       simp (disch := omega) only [wrap_id]
       refine Up.here ⟨f1 - 1, by omega, Up.here ⟨g2, _, true, i + 1, rfl, rfl, by omega, hA2, hI2, ?_, fun h => by cases h⟩⟩
       revert hw
       cases ag <;> simp <;> omega
      ·simp -implicitDefEqProofs only [S169_6, go_sem,zA,zB,zC,zD,zE,reduceCtorEq,↓reduceIte,zF,zG,zH,zI]
       simp (disch := omega) only [wrap_id]
       exact Up.here ⟨f1 - 1, by omega, Up.here ⟨go, o, ag, i + 1, rfl, rfl, by omega, hA, hI, hw, hnext fun n' hn' => by rw [hm1] at hn'; cases hn'; omega⟩⟩
    ·rw [show decide (n < 1099511627776) = false from decide_eq_false (by omega)]
     simp -implicitDefEqProofs only [go_sem,zA,zB,zC,zD,zE,reduceCtorEq,↓reduceIte,zF,zG,zH,zI]
     refine s_idxg (b := 0) (o := 0) (by simp) ?_
     simp -implicitDefEqProofs only [go_sem,zA,zB,zC,zD,zE,reduceCtorEq,↓reduceIte,zF,zG,zH,zI]
     refine s_ldg0 (cs := [.int .i64 0]) (by simp) (by simp) (by simp) (by simp) ?_
     simp -implicitDefEqProofs only [go_sem,zA,zB,zC,zD,zE,reduceCtorEq,↓reduceIte,zF,zG,zH,zI]
     refine ⟨.int .i64 0, fun h => (by cases h), ?_⟩
     simp -implicitDefEqProofs only [go_sem,zA,zB,zC,zD,zE,reduceCtorEq,↓reduceIte,zF,zG,zH,zI]
     refine s_idxg (b := 0) (o := 0) (by simp) ?_
     simp -implicitDefEqProofs only [go_sem,zA,zB,zC,zD,zE,reduceCtorEq,↓reduceIte,zF,zG,zH,zI]
     refine s_ldg0 (cs := [.int .i64 0]) (by simp) (by simp) (by simp) (by simp) ?_
     simp -implicitDefEqProofs only [go_sem,zA,zB,zC,zD,zE,reduceCtorEq,↓reduceIte,zF,zG,zH,zI]
     simp -implicitDefEqProofs only [S169_6, go_sem,zA,zB,zC,zD,zE,reduceCtorEq,↓reduceIte,zF,zG,zH,zI]
     simp (disch := omega) only [wrap_id]
     exact Up.here ⟨f1 - 1, by omega, Up.here ⟨go, o, ag, i + 1, rfl, rfl, by omega, hA, hI, hw, hnext fun n hn => by rw [hm1] at hn; cases hn⟩⟩
  ·have hie : i = g.rs.length := by omega
   subst hie
   rw [List.take_length] at hC
   refine ⟨wtN o + (if ag then 1 else 0), ?_, Up.here ⟨go, o, ag, rfl, rfl, hA, hI, rfl, hC⟩⟩
   rw [hf]
   revert hw
   cases ag <;> simp <;> omega
/- The text of parlance/meet.word as a statement; no condition. -/
def S170_1 : Stmt :=
 .block 2
 (.seq
 (.region
 [oq 28 (.fld 0 (.tmp 12)),
 oq 29 (.load false 1 (.tmp 28)),oq 27 (.mv (.tmp 29))]
 [1,2,3,4,10,12,14,15,16,27])
 (.cond (.tmp 27)
 (.region
 [oq 30 (.mv (.tmp 10)),oq 31 (.fld 1 (.tmp 12)),
 oq 32 (.load false 1 (.tmp 31)),
 oq 33 (.buildS 3 1 [.int .i64 0] [(0,1,.tmp 32)]),
 oq 34 (.append 25 3 1 8 (.int .i64 0) (.tmp 30) (.tmp 33)),
 oq 10 (.mv (.tmp 34))]
 [1,2,3,4,10,14,15,16])
 (.seq
 (.region
 [oq 36 (.mv (.tmp 2)),oq 37 (.fld 1 (.tmp 12)),
 oq 38 (.load false 1 (.tmp 37)),
 oq 39 (.idx 1 (.tmp 36) (.tmp 38)),
 oq 40 (.load false 1 (.tmp 39)),
 oq 41 (.un .not (.tmp 40)),
 oq 35 (.mv (.tmp 41))]
 [1,2,3,4,10,12,14,15,16,35])
 (.cond (.tmp 35)
 (.seq
 (.region
 [oq 8 (.mv (.const (.slice none 0 0))),
 oq 9 (.mv (.const (.bool false)))]
 [8,9])
 .ret)
 (.region
 [oq 20 (.mv (.tmp 10)),oq 21 (.mv (.tmp 1)),
 oq 22 (.fld 1 (.tmp 12)),
 oq 23 (.load false 1 (.tmp 22)),
 oq 24 (.idx 1 (.tmp 21) (.tmp 23)),
 oq 25 (.load false 1 (.tmp 24)),
 oq 26 (.append 25 3 1 8 (.int .i64 0) (.tmp 20) (.tmp 25)),
 oq 10 (.mv (.tmp 26))]
 [1,2,3,4,10,14,15,16])))))
def S170_2 : Stmt :=
 .seq
 (.region
 [oq 42 (.mv (.tmp 10)),oq 43 (.len false (.tmp 42)),
 oq 44 (.mv (.tmp 3)),oq 45 (.fld 0 (.tmp 4)),
 oq 46 (.load false 1 (.tmp 45)),
 oq 47 (.idx 1 (.tmp 44) (.tmp 46)),
 oq 48 (.load false 1 (.tmp 47)),
 oq 49 (.ibin .gtr (.tmp 43) (.tmp 48))]
 [1,2,3,4,10,14,15,16,49])
 (.cond (.tmp 49)
 (.seq
 (.region
 [oq 8 (.mv (.const (.slice none 0 0))),
 oq 9 (.mv (.const (.bool false)))]
 [8,9])
 .ret)
 .skip)
def S170_3 : Stmt :=
 .block 1
 (.seq
 (.region
 [oq 18 (.idx 2 (.tmp 14) (.tmp 16)),
 oq 19 (.load true 2 (.tmp 18)),
 oq 12 (.alloc true 53 (.agg (Array.mk [.bool false,.int .i64 0]))),
 .mk none none (.store 2 (.tmp 12) (.tmp 19))]
 [1,2,3,4,10,12,14,15,16])
 (.join S170_1 S170_2 [10] [1,2,3,4,14,15,16]))
def S170_4 : Stmt :=
 .region
 [oq 50 (.ibin .add (.tmp 16) (.const (.int .i64 1))),
 oq 16 (.mv (.tmp 50))]
 [1,2,3,4,10,14,15,16]
def S170_5 : Stmt :=
 .seq
 (.region [oq 17 (.ibin .lss (.tmp 16) (.tmp 15))]
 [1,2,3,4,10,14,15,16,17])
 (.seq (.cond (.tmp 17) .skip (.exit 0))
 (.join S170_3 S170_4 [10] [1,2,3,4,14,15,16]))
def S170_0 : Stmt :=
 .seq
 (.region
 [oq 4 (.box true 129 (.tmp 0)),
 oq 8 (.mv (.const (.slice none 0 0))),
 oq 9 (.mv (.const (.bool false)))]
 [1,2,3,4])
 (.seq (.region [oq 10 (.mv (.const (.slice none 0 0)))] [1,2,3,4,10])
 (.seq
 (.seq
 (.region
 [oq 13 (.fld 1 (.tmp 4)),
 oq 14 (.load false 1 (.tmp 13)),
 oq 15 (.len false (.tmp 14)),
 oq 16 (.mv (.const (.int .i64 0)))]
 [1,2,3,4,10,14,15,16])
 (.block 0 (.loop S170_5 [10,16] [1,2,3,4,14,15])))
 (.seq
 (.region
 [oq 51 (.mv (.tmp 10)),oq 52 (.mv (.tmp 10)),
 oq 53 (.len false (.tmp 52)),oq 54 (.mv (.tmp 3)),
 oq 55 (.fld 0 (.tmp 4)),
 oq 56 (.load false 1 (.tmp 55)),
 oq 57 (.idx 1 (.tmp 54) (.tmp 56)),
 oq 58 (.load false 1 (.tmp 57)),
 oq 59 (.ibin .eql (.tmp 53) (.tmp 58)),
 oq 60 (.mv (.tmp 59)),
 .mk (some 61) (some (60,true)) (.mv (.tmp 10)),
 .mk (some 62) (some (60,true)) (.len false (.tmp 61)),
 .mk (some 63) (some (60,true))
 (.ibin .leq (.tmp 62) (.const (.int .i64 2000))),
 oq 64 (.pick (.tmp 60) (.tmp 63) (.const (.bool false))),
 oq 8 (.mv (.tmp 51)),oq 9 (.mv (.tmp 64))]
 [8,9])
 .ret)))
def S170 : FnS := ⟨65,[(8,none),(9,none)],S170_0⟩
theorem tr170 : trFn Try.prog 170 [4,12] [[1,2,3,4],[1,2,3,4,10],[1,2,3,4,10,14,15,16],[10,16],[1,2,3,4,14,15],[1,2,3,4,10,14,15,16,17],[10],[1,2,3,4,14,15,16],[1,2,3,4,10,12,14,15,16],[10],[1,2,3,4,14,15,16],[1,2,3,4,10,12,14,15,16,27],[1,2,3,4,10,14,15,16],[1,2,3,4,10,12,14,15,16,35],[8,9],[1,2,3,4,10,14,15,16],[1,2,3,4,10,14,15,16,49],[8,9],[1,2,3,4,10,14,15,16],[8,9]] = some S170 := by kernel_rfl
end Go.Proofs.Ytiipiapfnedfjaa.V
