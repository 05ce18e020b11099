/- Texts put together, in the order in which they build; each says what it proves; no condition. -/
import Derived.Test.YtniobbepliknmaaM5
import Derived.Test.YtniobbepliknmaaM3
import Derived.Test.YtniobbepliknmaaM1
import Derived.Test.YtniobbepliknmaaProg
import Derived.Test.YtniobbepliknmaaM4
namespace Go.Proofs.Ytniobbepliknmaa.V
open Go
set_option linter.unusedVariables false
set_option linter.unusedSimpArgs false
open Nat renaming reduceBEq → zA, reduceAdd → zB, reduceSub → zC, reduceMul → zD, reduceLeDiff → zE
open Int renaming reduceLT → zF, reduceLE → zG, reduceEq → zH, reduceNe → zI
/- parlref5.lister: fits walked; no condition. -/
attribute [local go_sem] e_seq e_region e_quiet e_join e_loop e_cond e_block e_exit e_ret e_skip e_fin e_kseq e_snrm e_sret e_sex e_bnrm e_bret e_bex e_rnrm e_rret e_res e_condC e_nil e_g e_mv g_mv e_pick g_pick pickC_eq e_ibin g_ibin ibinC_eq e_sbin g_sbin e_beq g_beq beqC_eq e_nilq g_nilq nilqC_sl nilqC_pt nilqC_mp e_un g_un unC_not unC_neg e_conv g_conv convC_eq e_fld g_fld fldC_ref fldC_ptr e_nilCheck g_nilCheck nilCheckC_ref nilCheckC_ptr nilCheckC_fun e_field g_field fieldC_eq e_len g_len lenC_sl lenC_str e_extract g_extract extractC_eq e_mkFunc e_build g_build e_idiv g_idiv idivC_eq e_ishift g_ishift ishiftC_eq e_idx g_idx e_idxA g_idxA e_load g_load e_loadB g_loadB atB_ref atB_v g_mkFunc loadC_ref loadC_ptr loadB_eq e_slc g_slc e_box boxC_loc boxC_esc e_alloc allocC_loc allocC_esc e_buildS e_store storeC_ref storeC_ptr storeB_eq e_append e_appz e_mk mkC_eq e_call callC_eq e_fn g_fn fnC_eq fnV_min' fnV_max' fnV_rune' e_q g_q e_a e_n g_call g_box g_alloc g_buildS g_store g_append g_mk g_a g_n g_dead e_dead e_callK e_drawn e_tree e_finJ e_tk e_tfin e_tno e_nbt_q e_nbt_qn e_nbt_a e_nbt_an e_nbt_fin e_drawnB e_bxb_nil e_bxb e_stB_none e_stB_some boxSt_store bs_mv bs_pick bs_ibin bs_idiv bs_ishift bs_sbin bs_beq bs_nilq bs_un bs_conv bs_box bs_alloc bs_build bs_buildS bs_load bs_fld bs_nilCheck bs_idx bs_idxA bs_field bs_slc bs_len bs_append bs_appz bs_mk bs_call bs_extract bs_mkFunc bs_fn bs_q bs_a bs_n bs_loadB bs_dead isBox_box e_early_nil e_early_t e_early_f e_nob_nil e_nob_none e_nob_some isBox_dead isBox_v isBox_ref e_dnil e_dk e_ek e_finB vcOps_vc1 e_dcons e_tq e_ekt e_tearly e_talt e_dearly look_nil look_c proj_nil proj_c looks_nil looks_c zip_nil zip_c val_tmp val_const val_func slv_v slv_box slv_ref slot_tmp slot_const slot_func slotL_v slotL_box slotL_ref put_some put_none updBox_c boxSet_box gd_eq slotVals_nil slotVals_c slotVals_b boxV_box boxOn_box slotsOn_nil slotsOn_c slotsOn_b resV_one resV_two vals_nil vals_c allOn_nil allOn_c partOn_nil partOn_c partVals_nil partVals_c fits_nil fits_c fillL_nil fillL_c mkv_one mkv_agg cellsV_agg cellsV_int cellsV_bool cellsV_slice cellsV_string cellsV_pointer cellsV_func cellsV_nilf cellsV_map one'_nil one'_c oc_int oc_bool oc_slice oc_string oc_pointer oc_func oc_nilf oc_map setC_eq iv_add iv_sub iv_mul iv_eql iv_neq iv_lss iv_leq iv_gtr iv_geq iok_add iok_sub iok_mul iok_eql iok_neq iok_lss iok_leq iok_gtr iok_geq pickV_bool args0_nil args0_c bnd_none bnd_some imp_bt imp_bf imp_ebt imp_ebf imp_eb1 imp_np imp_pp beq_tt beq_tf beq_ft beq_ff cond_or cond_and e_round e_meet Int.le_refl Int.toNat_zero decide_true decide_false Bool.or_false Bool.false_or Bool.true_or Bool.or_true Bool.and_false Bool.false_and Bool.bne_false Bool.bne_true beq_iff_eq Int.cast_ofNat_Int not_false_eq_true not_true_eq_false false_and and_false false_implies true_implies true_and and_true Bool.true_and Bool.and_true Bool.not_true Bool.not_false forall_const implies_true List.take_zero List.drop_zero List.take_succ_cons List.drop_succ_cons List.take_nil List.drop_nil List.length_cons List.length_nil List.nil_append List.append_nil List.cons_append Int.toNat_natCast decide_eq_true_eq decide_eq_false_iff_not cond_true cond_false and_self List.getElem?_cons_zero List.getElem?_cons_succ List.set_cons_zero List.set_cons_succ Option.some.injEq exists_eq_left' Nat.zero_add Nat.add_zero Nat.mul_one imp_self true_or or_true or_false false_or Bool.or_eq_true Bool.or_eq_false_iff Bool.and_eq_true Bool.and_eq_false_iff Bool.not_eq_true' Bool.not_eq_false'

def lsC (g : Gr) (R : Option Addr) (cR bc most : Nat) : List Value :=
 [.int .i64 g.ts, .int .i64 g.ns, .int .i64 g.st, .slice R g.rs.length cR, .slice (some ⟨bc, 0, none⟩) g.ns.toNat g.ns.toNat, .int .i64 (most : Int)]
/-- a lister; can tells which lengths up to n there are -/
structure LsK (L : Mem) (b : Nat) (g : Gr) (n : Nat) (R : Option Addr) (cR bc most : Nat) (rows : List (List Bool)) : Prop where
 out : L b (.cells (lsC g R cR bc most).toArray 216 (0, 0))
 rs : SlOk L R cR g.rs
 can : SlOk L (some ⟨bc, 0, none⟩) g.ns.toNat rows
 len : rows.length = g.ns.toNat
 tells : ∀ a : Nat, a < rows.length → Tells n (rows.getD a []) (HasD g a)
theorem LsK.mono {L L' : Mem} {b : Nat} {g : Gr} {n : Nat} {R : Option Addr} {cR bc most : Nat} {rows : List (List Bool)} (h : LsK L b g n R cR bc most rows) (hl : Mem.le L L') : LsK L' b g n R cR bc most rows := ⟨hl _ _ h.out, h.rs.mono hl, h.can.mono hl, h.len, h.tells⟩
theorem tells_iff {g : Gr} {n : Nat} {rows : List (List Bool)} (ht : ∀ a : Nat, a < rows.length → Tells n (rows.getD a []) (HasD g a)) {a k : Nat} (ha : a < rows.length) (hk : k ≤ n) : (rows.getD a []).getD k false = true ↔ HasD g a k := by
 obtain ⟨h1, h2⟩ := ht a ha
 have := h2 k (by omega)
 rw [← this]
 simp [List.getD_eq_getElem?_getD, show k < (rows[a]?.getD []).length by simpa [List.getD_eq_getElem?_getD] using (show k < (rows.getD a []).length by omega)]
theorem sums_iff {g : Gr} (V : VG g) {n : Nat} {rows : List (List Bool)} (hlen : rows.length = g.ns.toNat) (ht : ∀ a : Nat, a < rows.length → Tells n (rows.getD a []) (HasD g a)) : ∀ {l : List Sy} {k : Nat}, (∀ s ∈ l, s.t = false → 0 ≤ s.n ∧ s.n < g.ns) → k ≤ n → (SumP rows l k ↔ 0 < rowT (cntT g (mostN g n)) l k)
 | [], k, _, _ => by
  show k = 0 ↔ 0 < (if k = 0 then 1 else 0)
  by_cases e : k = 0 <;> simp [e]
 | s :: l, k, hs, hk => by
  rw [row_pos]
  have one : ∀ j, j ≤ k → (oneL rows s j = true ↔ 0 < symT (cntT g (mostN g n)) s j) := fun j hj => by
   have hs0 := hs s (by simp)
   obtain ⟨st, sn⟩ := s
   cases st with
   | true =>
    simp only [oneL, symT, if_true]
    by_cases e : j = 1 <;> simp [e]
   | false =>
    obtain ⟨q1, q2⟩ := hs0 rfl
    obtain ⟨a, rfl⟩ : ∃ a : Nat, sn = a := ⟨sn.toNat, by simp at q1; omega⟩
    have := tells_iff ht (a := a) (k := j) (by simp at q2; omega) (by omega)
    rw [has_cnt V (n := n) (by omega)] at this
    simpa [oneL, symT] using this
  have hrec := fun j (hj : j ≤ k) => sums_iff V hlen ht (l := l) (k := k - j) (fun s q => hs s (by simp [q])) (by omega)
  constructor
  ·rintro ⟨j, h1, h2, h3⟩
   exact ⟨j, h1, (one j h1).1 h2, (hrec j h1).1 h3⟩
  ·rintro ⟨j, h1, h2, h3⟩
   exact ⟨j, h1, (one j h1).2 h2, (hrec j h1).2 h3⟩
set_option maxHeartbeats 1600000 in
theorem ref_fits {Γr : Ctx} {b : Nat} {g : Gr} (V : VG g) {N : Nat} (hN : N ≤ 400) {R : Option Addr} {cR bc most : Nat} {rows : List (List Bool)} (hB : LsK (lk Γr) b g N R cR bc most rows) {l : List Sy} {A : Option Addr} {c : Nat} (hl : SlOk (lk Γr) A c l) (hin : ∀ s ∈ l, s.t = false → 0 ≤ s.n ∧ s.n < g.ns) {n : Nat} (hn : n ≤ N) :
  Ret Try.prog 199 [.pointer (some ⟨b, 0, none⟩), .slice A l.length c, .int .i64 (n : Int)] Γr [] (fun v Γ => Γ = [] ∧ v = .bool (decide (0 < rowT (cntT g (mostN g N)) l n))) := by
 generalize hR : (fun (v : Value) (Γ : Ctx) => Γ = [] ∧ v = _) = R'
 refine ret_of_vc tr199 (Nat.le_of_ble_eq_true rfl) ?_
 have hls := hl.short
 have hr := hB.can
 have hrs := hr.short
 have hlen := hB.len
 have hrow : ∀ a (h : a < rows.length), rows[a].length = N + 1 := fun a h => by
  have := (hB.tells a h).1
  simpa [List.getD_eq_getElem?_getD, h] using this
 have hw : IntKind.i64.wrap ((n : Int) + 1) = ((n + 1 : Nat) : Int) := by rw [wrap_id (by omega) (by omega)]; rfl
 simp -implicitDefEqProofs only [S199, S199_0, hw, go_sem,zA,zB,zC,zD,zE,reduceCtorEq,↓reduceIte,zF,zG,zH,zI]
 refine ⟨by omega, by omega, fun bA => ?_⟩
 refine s_idx rfl (by omega) (by omega) ?_
 simp -implicitDefEqProofs only [go_sem,zA,zB,zC,zD,zE,reduceCtorEq,↓reduceIte,zF,zG,zH,zI]
 refine s_storeA (ix := 0) true rfl (Arr.made false bA 4 (n + 1)) (by simp) ?_
 intro g0 hA0 _
 simp -implicitDefEqProofs only [go_sem,zA,zB,zC,zD,zE,reduceCtorEq,↓reduceIte,zF,zG,zH,zI]
 refine s_loop (fun f vs Γ => ∃ g, Γ = [g] ∧ ∃ (k b : Nat) (xs : List Bool), vs = [.v true (.slice (some ⟨b, 0, none⟩) (n + 1) (n + 1)), .v true (.int .i64 k)] ∧ k + f = l.length ∧ Arr g b 4 xs ∧ Tells n xs (SumP rows (l.take k))) l.length
  (Up.here ⟨_, rfl, 0, bA, _, rfl, by omega, hA0, Tells.set (p := fun _ => False) ⟨by simp, fun m hm => by simp⟩ (by simp) (by simp [SumP]) (fun m hm => by simpa [SumP] using hm)⟩) ?_
 rintro f vs Γ ⟨ga, rfl, k, ba, at', rfl, hkf, hA, hT⟩
 simp -implicitDefEqProofs only [S199_3, go_sem,zA,zB,zC,zD,zE,reduceCtorEq,↓reduceIte,zF,zG,zH,zI]
 refine ⟨fun hlt => ?_, fun hge => ?_⟩
 ·have hk : k < l.length := by omega
  obtain ⟨b1, o1, hA1, hc1⟩ := hl.sy hk
  refine s_idx hA1 (by omega) (by omega) ?_
  simp -implicitDefEqProofs only [go_sem,zA,zB,zC,zD,zE,reduceCtorEq,↓reduceIte,zF,zG,zH,zI]
  refine s_ld0 (hc1 _ (lk_r _ _)) (by simp) (by simp) ?_
  simp -implicitDefEqProofs only [hw, go_sem,zA,zB,zC,zD,zE,reduceCtorEq,↓reduceIte,zF,zG,zH,zI]
  intro b2
  refine ⟨by omega, by omega, fun b3 => ?_⟩
  have hal := hT.1
  refine s_loop (fun f' vs Γ => ∃ gx g, Γ = [gx, g] ∧ Arr g ba 4 at' ∧ ∃ (i : Nat) (xs : List Bool), vs = [.v true (.int .i64 i)] ∧ i + f' = n + 1 ∧ Arr gx b3 4 xs ∧ Tells n xs (QP rows l[k] at' i 0)) (n + 1)
   (Up.here ⟨_, _, rfl, hA, 0, _, rfl, by omega, Arr.made false b3 4 (n + 1), ⟨by simp, fun m hm => by simp [QP]⟩⟩) ?_
  rintro f' vs Γ ⟨gx, ga, rfl, hA, i, xs, rfl, hif, hX, hTx⟩
  have hxl := hTx.1
  simp -implicitDefEqProofs only [S199_2, go_sem,zA,zB,zC,zD,zE,reduceCtorEq,↓reduceIte,zF,zG,zH,zI]
  refine ⟨fun hlt => ?_, fun hge => ?_⟩
  ·have hi : i < at'.length := by omega
   refine s_idx rfl (by omega) (by omega) ?_
   simp -implicitDefEqProofs only [go_sem,zA,zB,zC,zD,zE,reduceCtorEq,↓reduceIte,zF,zG,zH,zI]
   refine s_ld0 (hA.bool hi (by simp)) (by simp) (by simp) ?_
   simp -implicitDefEqProofs only [go_sem,zA,zB,zC,zD,zE,reduceCtorEq,↓reduceIte,zF,zG,zH,zI]
   have hgd : at'.getD i false = at'[i] := by simp [hi]
   generalize hok : at'[i] = ok at *
   cases ok with
   | false =>
    refine s_loop (fun f2 vs Γ => Γ = [gx, ga] ∧ vs = [.v true (.int .i64 0)]) 0 (Up.here ⟨rfl, rfl⟩) ?_
    rintro f2 vs Γ ⟨rfl, rfl⟩
    simp -implicitDefEqProofs only [S199_1, go_sem,zA,zB,zC,zD,zE,reduceCtorEq,↓reduceIte,zF,zG,zH,zI]
    simp (disch := omega) only [wrap_id]
    exact ⟨f' - 1, by omega, Up.here ⟨_, _, rfl, hA, i + 1, _, rfl, by omega, hX, hTx.congr fun m _ => QP_skip hgd⟩⟩
   | true =>
    refine s_loop (fun f2 vs Γ => ∃ gx g, Γ = [gx, g] ∧ Arr g ba 4 at' ∧ ∃ (j : Nat) (xs : List Bool), vs = [.v true (.int .i64 j)] ∧ j + f2 = n + 1 - i ∧ Arr gx b3 4 xs ∧ Tells n xs (QP rows l[k] at' i j)) (n + 1 - i)
     (Up.here ⟨_, _, rfl, hA, 0, _, rfl, by omega, hX, hTx⟩) ?_
    rintro f2 vs Γ ⟨gx, ga, rfl, hA, j, xs, rfl, hjf, hX, hTx⟩
    have hxl := hTx.1
    have hwij : IntKind.i64.wrap ((i : Int) + (j : Int)) = ((i + j : Nat) : Int) := by rw [wrap_id (by omega) (by omega)]; rfl
    simp -implicitDefEqProofs only [S199_1, hwij, go_sem,zA,zB,zC,zD,zE,reduceCtorEq,↓reduceIte,zF,zG,zH,zI]
    refine ⟨fun hlt => ?_, fun hge => ?_⟩
    ·have hij : i + j < xs.length := by omega
     refine s_idx rfl (by omega) (by omega) ?_
     simp -implicitDefEqProofs only [go_sem,zA,zB,zC,zD,zE,reduceCtorEq,↓reduceIte,zF,zG,zH,zI]
     refine s_ld0 (hX.bool hij (by simp)) (by simp) (by simp) ?_
     have hstep : ∀ x : Bool, (x = true ↔ xs[i + j] = true ∨ oneL rows l[k] j = true) → Tells n (xs.set (i + j) x) (QP rows l[k] at' i (j + 1)) := fun x hx => by
      refine hTx.set hij ?_ fun m hm => ?_
      ·rw [QP_step hgd, hx, hTx.2 _ hij]
       simp
      ·rw [QP_step hgd]
       exact ⟨.inl, fun q => q.resolve_right fun q => hm q.1⟩
     generalize hxo : xs[i + j] = o at hstep ⊢
     have hlk : l[k] ∈ l := List.getElem_mem hk
     generalize hls' : l[k] = s at *
     obtain ⟨t, sn⟩ := s
     cases o with
     | true =>
      cases t
      all_goals
       simp -implicitDefEqProofs only [go_sem,zA,zB,zC,zD,zE,reduceCtorEq,↓reduceIte,zF,zG,zH,zI]
      ·refine s_ldg0 (cs := [.slice none 0 0]) (by simp) (by simp) (by simp) (by simp) ?_
       simp -implicitDefEqProofs only [go_sem,zA,zB,zC,zD,zE,reduceCtorEq,↓reduceIte,zF,zG,zH,zI]
       refine s_idxg (b := 0) (o := 0) (by simp) ?_
       simp -implicitDefEqProofs only [go_sem,zA,zB,zC,zD,zE,reduceCtorEq,↓reduceIte,zF,zG,zH,zI]
       refine s_ldg0 (cs := [.slice none 0 0]) (by simp) (by simp) (by simp) (by simp) ?_
       simp -implicitDefEqProofs only [go_sem,zA,zB,zC,zD,zE,reduceCtorEq,↓reduceIte,zF,zG,zH,zI]
       refine s_idxg (b := 0) (o := 0) (by simp) ?_
       simp -implicitDefEqProofs only [go_sem,zA,zB,zC,zD,zE,reduceCtorEq,↓reduceIte,zF,zG,zH,zI]
       refine s_ldg0 (cs := [.bool false]) (by simp) (by simp) (by simp) (by simp) ?_
       simp -implicitDefEqProofs only [go_sem,zA,zB,zC,zD,zE,reduceCtorEq,↓reduceIte,zF,zG,zH,zI]
       refine s_idx rfl (by omega) (by omega) ?_
       simp -implicitDefEqProofs only [go_sem,zA,zB,zC,zD,zE,reduceCtorEq,↓reduceIte,zF,zG,zH,zI]
       refine s_storeA (ix := 0) (true) rfl hX (i := i + j) hij ?_
       intro gx' hX' _
       simp -implicitDefEqProofs only [go_sem,zA,zB,zC,zD,zE,reduceCtorEq,↓reduceIte,zF,zG,zH,zI]
       simp (disch := omega) only [wrap_id]
       exact ⟨f2 - 1, by omega, Up.here ⟨_, _, rfl, hA, j + 1, _, rfl, by omega, hX', hstep _ (by simp)⟩⟩
      ·refine s_ldg0 (cs := [.slice none 0 0]) (by simp) (by simp) (by simp) (by simp) ?_
       simp -implicitDefEqProofs only [go_sem,zA,zB,zC,zD,zE,reduceCtorEq,↓reduceIte,zF,zG,zH,zI]
       refine s_idxg (b := 0) (o := 0) (by simp) ?_
       simp -implicitDefEqProofs only [go_sem,zA,zB,zC,zD,zE,reduceCtorEq,↓reduceIte,zF,zG,zH,zI]
       refine s_ldg0 (cs := [.slice none 0 0]) (by simp) (by simp) (by simp) (by simp) ?_
       simp -implicitDefEqProofs only [go_sem,zA,zB,zC,zD,zE,reduceCtorEq,↓reduceIte,zF,zG,zH,zI]
       refine s_idxg (b := 0) (o := 0) (by simp) ?_
       simp -implicitDefEqProofs only [go_sem,zA,zB,zC,zD,zE,reduceCtorEq,↓reduceIte,zF,zG,zH,zI]
       refine s_ldg0 (cs := [.bool false]) (by simp) (by simp) (by simp) (by simp) ?_
       simp -implicitDefEqProofs only [go_sem,zA,zB,zC,zD,zE,reduceCtorEq,↓reduceIte,zF,zG,zH,zI]
       refine s_idx rfl (by omega) (by omega) ?_
       simp -implicitDefEqProofs only [go_sem,zA,zB,zC,zD,zE,reduceCtorEq,↓reduceIte,zF,zG,zH,zI]
       refine s_storeA (ix := 0) (true) rfl hX (i := i + j) hij ?_
       intro gx' hX' _
       simp -implicitDefEqProofs only [go_sem,zA,zB,zC,zD,zE,reduceCtorEq,↓reduceIte,zF,zG,zH,zI]
       simp (disch := omega) only [wrap_id]
       exact ⟨f2 - 1, by omega, Up.here ⟨_, _, rfl, hA, j + 1, _, rfl, by omega, hX', hstep _ (by simp)⟩⟩
     | false =>
      cases t with
      | true =>
       simp -implicitDefEqProofs only [go_sem,zA,zB,zC,zD,zE,reduceCtorEq,↓reduceIte,zF,zG,zH,zI]
       refine s_ldg0 (cs := [.slice none 0 0]) (by simp) (by simp) (by simp) (by simp) ?_
       simp -implicitDefEqProofs only [go_sem,zA,zB,zC,zD,zE,reduceCtorEq,↓reduceIte,zF,zG,zH,zI]
       refine s_idxg (b := 0) (o := 0) (by simp) ?_
       simp -implicitDefEqProofs only [go_sem,zA,zB,zC,zD,zE,reduceCtorEq,↓reduceIte,zF,zG,zH,zI]
       refine s_ldg0 (cs := [.slice none 0 0]) (by simp) (by simp) (by simp) (by simp) ?_
       simp -implicitDefEqProofs only [go_sem,zA,zB,zC,zD,zE,reduceCtorEq,↓reduceIte,zF,zG,zH,zI]
       refine s_idxg (b := 0) (o := 0) (by simp) ?_
       simp -implicitDefEqProofs only [go_sem,zA,zB,zC,zD,zE,reduceCtorEq,↓reduceIte,zF,zG,zH,zI]
       refine s_ldg0 (cs := [.bool false]) (by simp) (by simp) (by simp) (by simp) ?_
       simp -implicitDefEqProofs only [go_sem,zA,zB,zC,zD,zE,reduceCtorEq,↓reduceIte,zF,zG,zH,zI]
       refine s_idx rfl (by omega) (by omega) ?_
       simp -implicitDefEqProofs only [go_sem,zA,zB,zC,zD,zE,reduceCtorEq,↓reduceIte,zF,zG,zH,zI]
       refine s_storeA (ix := 0) (decide ((j : Int) = 1)) rfl hX (i := i + j) hij ?_
       intro gx' hX' _
       simp -implicitDefEqProofs only [go_sem,zA,zB,zC,zD,zE,reduceCtorEq,↓reduceIte,zF,zG,zH,zI]
       simp (disch := omega) only [wrap_id]
       exact ⟨f2 - 1, by omega, Up.here ⟨_, _, rfl, hA, j + 1, _, rfl, by omega, hX', hstep _ (by simp [oneL]; omega)⟩⟩
      | false =>
       simp -implicitDefEqProofs only [go_sem,zA,zB,zC,zD,zE,reduceCtorEq,↓reduceIte,zF,zG,zH,zI]
       have hsn := hin _ hlk rfl
       simp only at hsn
       have hsn2 : sn.toNat < rows.length := by omega
       have hrl := hrow sn.toNat hsn2
       obtain ⟨b5, o5, hA5, A6, c6, hs6, hc6⟩ := hr.list hsn2
       obtain ⟨b7, o7, hA7, hc7⟩ := hs6.bool (i := j) (by omega)
       refine s_ld (j := 4) (cells_lk (lk_r [gx, ga] _ _ _ hB.out)) (by simp [lsC]) (by simp) ?_
       simp -implicitDefEqProofs only [lsC, go_sem,zA,zB,zC,zD,zE,reduceCtorEq,↓reduceIte,zF,zG,zH,zI]
       refine s_idx hA5 (by omega) (by omega) ?_
       simp -implicitDefEqProofs only [go_sem,zA,zB,zC,zD,zE,reduceCtorEq,↓reduceIte,zF,zG,zH,zI]
       refine s_ld0 (hc6 _ (lk_r [gx, ga] _)) (by simp) (by simp) ?_
       simp -implicitDefEqProofs only [go_sem,zA,zB,zC,zD,zE,reduceCtorEq,↓reduceIte,zF,zG,zH,zI]
       refine s_idx hA7 (by omega) (by omega) ?_
       simp -implicitDefEqProofs only [go_sem,zA,zB,zC,zD,zE,reduceCtorEq,↓reduceIte,zF,zG,zH,zI]
       refine s_ld0 (hc7 _ (lk_r [gx, ga] _)) (by simp) (by simp) ?_
       simp -implicitDefEqProofs only [go_sem,zA,zB,zC,zD,zE,reduceCtorEq,↓reduceIte,zF,zG,zH,zI]
       refine s_idx rfl (by omega) (by omega) ?_
       simp -implicitDefEqProofs only [go_sem,zA,zB,zC,zD,zE,reduceCtorEq,↓reduceIte,zF,zG,zH,zI]
       refine s_storeA (ix := 0) (rows[sn.toNat][j]) rfl hX (i := i + j) hij ?_
       intro gx' hX' _
       simp -implicitDefEqProofs only [go_sem,zA,zB,zC,zD,zE,reduceCtorEq,↓reduceIte,zF,zG,zH,zI]
       simp (disch := omega) only [wrap_id]
       exact ⟨f2 - 1, by omega, Up.here ⟨_, _, rfl, hA, j + 1, _, rfl, by omega, hX', hstep _ (by simp [oneL, hsn2, show j < rows[sn.toNat].length by omega])⟩⟩
    ·have hj : j = n + 1 - i := by omega
     subst hj
     simp (disch := omega) only [wrap_id]
     exact ⟨f' - 1, by omega, Up.here ⟨_, _, rfl, hA, i + 1, _, rfl, by omega, hX, hTx.congr fun m hm => QP_end hm (by omega)⟩⟩
  ·have hi : i = n + 1 := by omega
   subst hi
   simp (disch := omega) only [wrap_id]
   refine ⟨f - 1, by omega, Up.sel [[0]] (by decide) fun _ _ => ⟨_, rfl, k + 1, b3, xs, rfl, by omega, hX, hTx.congr fun m hm => ?_⟩⟩
   rw [QP_all hm hT, List.take_succ_eq_append_getElem hk, SumP_snoc]
 ·have hk : k = l.length := by omega
  rw [hk, List.take_length] at hT
  have hal := hT.1
  refine s_idx rfl (by omega) (by omega) ?_
  simp -implicitDefEqProofs only [go_sem,zA,zB,zC,zD,zE,reduceCtorEq,↓reduceIte,zF,zG,zH,zI]
  refine s_ld0 (hA.bool (i := n) (by omega) (by simp)) (by simp) (by simp) ?_
  simp -implicitDefEqProofs only [go_sem,zA,zB,zC,zD,zE,reduceCtorEq,↓reduceIte,zF,zG,zH,zI]
  refine Up.to [] (Ent.nil _) ?_
  subst hR
  refine ⟨rfl, ?_⟩
  have h1 := hT.2 n (by omega)
  rw [sums_iff V hlen hB.tells hin hn] at h1
  rw [show at'[n] = decide (0 < rowT (cntT g (mostN g N)) l n) from by rw [Bool.eq_iff_iff, h1]; simp]
/- The text of (*parlance/parlref5.lister).rows as a statement; no condition. -/
def S200_1 : Stmt :=
 .seq
 (.region [oq 80 (.ibin .lss (.tmp 79) (.tmp 78))]
 [0,1,2,3,10,11,14,16,71,72,73,77,78,79,80])
 (.seq (.cond (.tmp 80) .skip (.exit 4))
 (.seq
 (.block 5
 (.seq
 (.region
 [oq 81 (.idx 1 (.tmp 77) (.tmp 79)),
 oq 82 (.load false 1 (.tmp 81)),
 oq 18 (.mv (.tmp 82))]
 [0,1,2,3,10,11,14,16,18,71,72,73,77,78,79])
 (.region
 [oq 83 (.mv (.tmp 10)),
 oq 84 (.load true 3 (.tmp 16)),
 .mk (some 85) none
 (.buildS 106 1 [.int .i64 0,.int .i64 0,.slice none 0 0]
 [(0,3,.tmp 84)]),
 oq 86 (.mv (.tmp 18)),
 .mk (some 87) none
 (.append 104 106 3 40
 (.agg (Array.mk [.int .i64 0,.int .i64 0,.slice none 0 0]))
 (.tmp 85) (.tmp 86)),
 oq 88 (.buildS 104 1 [.slice none 0 0] [(0,1,.tmp 87)]),
 .mk (some 89) none
 (.append 271 104 1 24 (.slice none 0 0) (.tmp 83) (.tmp 88)),
 oq 10 (.mv (.tmp 89))]
 [0,1,2,3,10,11,14,16,71,72,73,77,78,79])))
 (.region
 [oq 90 (.ibin .add (.tmp 79) (.const (.int .i64 1))),
 oq 79 (.mv (.tmp 90))]
 [0,1,2,3,10,11,14,16,71,72,73,77,78,79])))
def S200_2 : Stmt :=
 .seq
 (.region [oq 74 (.ibin .lss (.tmp 73) (.tmp 72))]
 [0,1,2,3,10,11,14,71,72,73,74])
 (.seq (.cond (.tmp 74) .skip (.exit 2))
 (.seq
 (.block 3
 (.seq
 (.region
 [oq 75 (.idx 3 (.tmp 71) (.tmp 73)),
 oq 76 (.load true 3 (.tmp 75)),
 .mk (some 16) none
 (.alloc true 106
 (.agg (Array.mk [.int .i64 0,.int .i64 0,.slice none 0 0]))),
 .mk none none (.store 3 (.tmp 16) (.tmp 76))]
 [0,1,2,3,10,11,14,16,71,72,73])
 (.seq
 (.region
 [oq 77 (.mv (.tmp 14)),
 oq 78 (.len false (.tmp 77)),
 oq 79 (.mv (.const (.int .i64 0)))]
 [0,1,2,3,10,11,14,16,71,72,73,77,78,79])
 (.block 4 (.loop S200_1 [10,79] [0,1,2,3,11,14,16,71,72,73,77,78])))))
 (.region
 [oq 91 (.ibin .add (.tmp 73) (.const (.int .i64 1))),
 oq 73 (.mv (.tmp 91))]
 [0,1,2,3,10,11,14,71,72,73])))
def S200_3 : Stmt :=
 .block 1
 (.seq
 (.seq
 (.region
 [oq 30 (.mv (.tmp 0)),oq 31 (.mv (.tmp 1)),
 .mk (some 32) none
 (.slc 2 (.tmp 31) none (some (.const (.int .i64 1))) none),
 oq 33 (.mv (.tmp 11)),
 oq 34 (.call (.func 199) [.tmp 30,.tmp 32,.tmp 33]),
 oq 35 (.un .not (.tmp 34)),oq 36 (.mv (.tmp 35)),
 .mk (some 37) (some (36,false)) (.mv (.tmp 0)),
 .mk (some 38) (some (36,false)) (.mv (.tmp 1)),
 .mk (some 39) (some (36,false))
 (.slc 2 (.tmp 38) (some (.const (.int .i64 1))) none none),
 .mk (some 40) (some (36,false)) (.mv (.tmp 2)),
 .mk (some 41) (some (36,false)) (.mv (.tmp 11)),
 .mk (some 42) (some (36,false)) (.ibin .sub (.tmp 40) (.tmp 41)),
 .mk (some 43) (some (36,false))
 (.call (.func 199) [.tmp 37,.tmp 39,.tmp 42]),
 .mk (some 44) (some (36,false)) (.un .not (.tmp 43)),
 oq 45 (.pick (.tmp 36) (.const (.bool true)) (.tmp 44))]
 [0,1,2,3,10,11,45])
 (.cond (.tmp 45) (.exit 1) .skip))
 (.seq
 (.region
 [oq 47 (.mv (.tmp 0)),oq 48 (.mv (.tmp 1)),
 oq 49 (.idx 2 (.tmp 48) (.const (.int .i64 0))),
 oq 50 (.load true 2 (.tmp 49)),oq 51 (.mv (.tmp 11)),
 oq 52 (.mv (.tmp 3)),
 .mk (some 53) none
 (.call (.func 167) [.tmp 47,.tmp 50,.tmp 51,.tmp 52]),
 oq 46 (.mv (.tmp 53)),oq 54 (.extract 0 (.tmp 46)),
 oq 55 (.extract 1 (.tmp 46)),oq 12 (.mv (.tmp 54)),
 oq 13 (.mv (.tmp 55))]
 [0,1,2,3,10,11,12,13])
 (.seq
 (.seq
 (.region
 [oq 56 (.mv (.tmp 13)),
 oq 57 (.un .not (.tmp 56))]
 [0,1,2,3,10,11,12,57])
 (.cond (.tmp 57)
 (.seq
 (.region
 [oq 8 (.mv (.const (.slice none 0 0))),
 oq 9 (.mv (.const (.bool false)))]
 [8,9])
 .ret)
 .skip))
 (.seq
 (.region
 [oq 59 (.mv (.tmp 0)),oq 60 (.mv (.tmp 1)),
 .mk (some 61) none
 (.slc 2 (.tmp 60) (some (.const (.int .i64 1))) none none),
 oq 62 (.mv (.tmp 2)),oq 63 (.mv (.tmp 11)),
 oq 64 (.ibin .sub (.tmp 62) (.tmp 63)),
 oq 65 (.mv (.tmp 3)),
 .mk (some 66) none
 (.call (.func 200) [.tmp 59,.tmp 61,.tmp 64,.tmp 65]),
 oq 58 (.mv (.tmp 66)),
 oq 67 (.extract 0 (.tmp 58)),
 oq 68 (.extract 1 (.tmp 58)),
 oq 14 (.mv (.tmp 67)),oq 13 (.mv (.tmp 68))]
 [0,1,2,3,10,11,12,13,14])
 (.seq
 (.seq
 (.region
 [oq 69 (.mv (.tmp 13)),
 oq 70 (.un .not (.tmp 69))]
 [0,1,2,3,10,11,12,14,70])
 (.cond (.tmp 70)
 (.seq
 (.region
 [oq 8 (.mv (.const (.slice none 0 0))),
 oq 9 (.mv (.const (.bool false)))]
 [8,9])
 .ret)
 .skip))
 (.seq
 (.seq
 (.region
 [oq 71 (.mv (.tmp 12)),
 oq 72 (.len false (.tmp 71)),
 oq 73 (.mv (.const (.int .i64 0)))]
 [0,1,2,3,10,11,14,71,72,73])
 (.block 2 (.loop S200_2 [10,73] [0,1,2,3,11,14,71,72])))
 (.seq
 (.region
 [oq 92 (.mv (.tmp 10)),
 oq 93 (.len false (.tmp 92)),
 oq 94 (.mv (.tmp 0)),
 oq 95 (.nilCheck (.tmp 94)),
 oq 96 (.fld 5 (.tmp 95)),
 oq 97 (.load false 1 (.tmp 96)),
 oq 98 (.ibin .gtr (.tmp 93) (.tmp 97))]
 [0,1,2,3,10,11,98])
 (.cond (.tmp 98)
 (.seq
 (.region
 [oq 8 (.mv (.const (.slice none 0 0))),
 oq 9 (.mv (.const (.bool false)))]
 [8,9])
 .ret)
 .skip))))))))
def S200_4 : Stmt :=
 .region
 [oq 28 (.mv (.tmp 11)),
 oq 29 (.ibin .add (.tmp 28) (.const (.int .i64 1))),
 oq 11 (.mv (.tmp 29))]
 [0,1,2,3,10,11]
def S200_5 : Stmt :=
 .seq
 (.seq
 (.region
 [oq 25 (.mv (.tmp 11)),oq 26 (.mv (.tmp 2)),
 oq 27 (.ibin .leq (.tmp 25) (.tmp 26))]
 [0,1,2,3,10,11,27])
 (.cond (.tmp 27) .skip (.exit 0)))
 (.join S200_3 S200_4 [10] [0,1,2,3,11])
def S200_0 : Stmt :=
 .seq
 (.region
 [oq 8 (.mv (.const (.slice none 0 0))),
 oq 9 (.mv (.const (.bool false)))]
 [0,1,2,3])
 (.seq
 (.seq
 (.region
 [oq 19 (.mv (.tmp 1)),oq 20 (.len false (.tmp 19)),
 oq 21 (.ibin .eql (.tmp 20) (.const (.int .i64 0)))]
 [0,1,2,3,21])
 (.cond (.tmp 21)
 (.seq
 (.region
 [.mk (some 22) none
 (.buildS 104 1 [.slice none 0 0] [(0,1,.const (.slice none 0 0))]),
 oq 23 (.mv (.tmp 2)),
 oq 24 (.ibin .eql (.tmp 23) (.const (.int .i64 0))),
 oq 8 (.mv (.tmp 22)),oq 9 (.mv (.tmp 24))]
 [8,9])
 .ret)
 .skip))
 (.seq (.region [oq 10 (.mv (.const (.slice none 0 0)))] [0,1,2,3,10])
 (.seq
 (.seq
 (.region [oq 11 (.mv (.const (.int .i64 0)))]
 [0,1,2,3,10,11])
 (.block 0 (.loop S200_5 [10,11] [0,1,2,3])))
 (.seq
 (.region
 [oq 99 (.mv (.tmp 10)),oq 8 (.mv (.tmp 99)),
 oq 9 (.mv (.const (.bool true)))]
 [8,9])
 .ret))))
def S200 : FnS := ⟨100,[(8,none),(9,none)],S200_0⟩
theorem tr200 : trFn Try.prog 200 [16] [[0,1,2,3],[0,1,2,3,21],[8,9],[0,1,2,3,10],[0,1,2,3,10,11],[10,11],[0,1,2,3],[0,1,2,3,10,11,27],[10],[0,1,2,3,11],[0,1,2,3,10,11,45],[0,1,2,3,10,11,12,13],[0,1,2,3,10,11,12,57],[8,9],[0,1,2,3,10,11,12,13,14],[0,1,2,3,10,11,12,14,70],[8,9],[0,1,2,3,10,11,14,71,72,73],[10,73],[0,1,2,3,11,14,71,72],[0,1,2,3,10,11,14,71,72,73,74],[0,1,2,3,10,11,14,16,71,72,73],[0,1,2,3,10,11,14,16,71,72,73,77,78,79],[10,79],[0,1,2,3,11,14,16,71,72,73,77,78],[0,1,2,3,10,11,14,16,71,72,73,77,78,79,80],[0,1,2,3,10,11,14,16,18,71,72,73,77,78,79],[0,1,2,3,10,11,14,16,71,72,73,77,78,79],[0,1,2,3,10,11,14,16,71,72,73,77,78,79],[0,1,2,3,10,11,14,71,72,73],[0,1,2,3,10,11,98],[8,9],[0,1,2,3,10,11],[8,9]] = some S200 := by kernel_rfl
/- The text of (*parlance/parlref5.lister).trees as a statement; no condition. -/
def S167_1 : Stmt :=
 .seq
 (.region [oq 66 (.ibin .lss (.tmp 65) (.tmp 64))]
 [0,2,3,5,10,11,31,32,33,63,64,65,66])
 (.seq (.cond (.tmp 66) .skip (.exit 2))
 (.seq
 (.block 3
 (.seq
 (.region
 [oq 67 (.idx 1 (.tmp 63) (.tmp 65)),
 oq 68 (.load false 1 (.tmp 67)),
 oq 16 (.mv (.tmp 68))]
 [0,2,3,5,10,11,16,31,32,33,63,64,65])
 (.region
 [oq 69 (.mv (.tmp 10)),oq 70 (.mv (.tmp 11)),
 oq 71 (.mv (.tmp 16)),
 .mk (some 72) none
 (.build 106 [.int .i64 0,.int .i64 0,.slice none 0 0]
 [(0,1,.tmp 70),(2,1,.tmp 71)]),
 .mk (some 73) none
 (.buildS 106 1 [.int .i64 0,.int .i64 0,.slice none 0 0]
 [(0,3,.tmp 72)]),
 .mk (some 74) none
 (.append 104 106 3 40
 (.agg (Array.mk [.int .i64 0,.int .i64 0,.slice none 0 0]))
 (.tmp 69) (.tmp 73)),
 oq 10 (.mv (.tmp 74))]
 [0,2,3,5,10,11,31,32,33,63,64,65])))
 (.region
 [oq 75 (.ibin .add (.tmp 65) (.const (.int .i64 1))),
 oq 65 (.mv (.tmp 75))]
 [0,2,3,5,10,11,31,32,33,63,64,65])))
def S167_2 : Stmt :=
 .block 1
 (.seq
 (.region
 [oq 35 (.mv (.tmp 33)),
 oq 36 (.idx 2 (.tmp 31) (.tmp 33)),
 oq 37 (.load true 2 (.tmp 36)),
 .mk (some 12) none
 (.alloc true 37 (.agg (Array.mk [.int .i64 0,.slice none 0 0]))),
 oq 11 (.mv (.tmp 35)),
 .mk none none (.store 2 (.tmp 12) (.tmp 37))]
 [0,2,3,5,10,11,12,31,32,33])
 (.seq
 (.seq
 (.region
 [oq 38 (.fld 0 (.tmp 12)),
 oq 39 (.load false 1 (.tmp 38)),
 oq 40 (.fld 1 (.tmp 5)),
 oq 41 (.load false 1 (.tmp 40)),
 oq 42 (.ibin .neq (.tmp 39) (.tmp 41)),
 oq 43 (.mv (.tmp 42)),
 .mk (some 44) (some (43,false)) (.mv (.tmp 0)),
 .mk (some 45) (some (43,false)) (.fld 1 (.tmp 12)),
 .mk (some 46) (some (43,false)) (.load false 1 (.tmp 45)),
 .mk (some 47) (some (43,false)) (.mv (.tmp 2)),
 .mk (some 48) (some (43,false))
 (.call (.func 199) [.tmp 44,.tmp 46,.tmp 47]),
 .mk (some 49) (some (43,false)) (.un .not (.tmp 48)),
 oq 50 (.pick (.tmp 43) (.const (.bool true)) (.tmp 49))]
 [0,2,3,5,10,11,12,31,32,33,50])
 (.cond (.tmp 50) (.exit 1) .skip))
 (.seq
 (.region
 [oq 52 (.mv (.tmp 0)),oq 53 (.fld 1 (.tmp 12)),
 oq 54 (.load false 1 (.tmp 53)),
 oq 55 (.mv (.tmp 2)),oq 56 (.mv (.tmp 3)),
 oq 57 (.ibin .sub (.tmp 56) (.const (.int .i64 1))),
 .mk (some 58) none
 (.call (.func 200) [.tmp 52,.tmp 54,.tmp 55,.tmp 57]),
 oq 51 (.mv (.tmp 58)),oq 59 (.extract 0 (.tmp 51)),
 oq 60 (.extract 1 (.tmp 51)),oq 13 (.mv (.tmp 59)),
 oq 14 (.mv (.tmp 60))]
 [0,2,3,5,10,11,13,14,31,32,33])
 (.seq
 (.seq
 (.region
 [oq 61 (.mv (.tmp 14)),
 oq 62 (.un .not (.tmp 61))]
 [0,2,3,5,10,11,13,31,32,33,62])
 (.cond (.tmp 62)
 (.seq
 (.region
 [oq 8 (.mv (.const (.slice none 0 0))),
 oq 9 (.mv (.const (.bool false)))]
 [8,9])
 .ret)
 .skip))
 (.seq
 (.seq
 (.region
 [oq 63 (.mv (.tmp 13)),
 oq 64 (.len false (.tmp 63)),
 oq 65 (.mv (.const (.int .i64 0)))]
 [0,2,3,5,10,11,31,32,33,63,64,65])
 (.block 2 (.loop S167_1 [10,65] [0,2,3,5,11,31,32,33,63,64])))
 (.seq
 (.region
 [oq 76 (.mv (.tmp 10)),
 oq 77 (.len false (.tmp 76)),
 oq 78 (.mv (.tmp 0)),
 oq 79 (.nilCheck (.tmp 78)),
 oq 80 (.fld 5 (.tmp 79)),
 oq 81 (.load false 1 (.tmp 80)),
 oq 82 (.ibin .gtr (.tmp 77) (.tmp 81))]
 [0,2,3,5,10,31,32,33,82])
 (.cond (.tmp 82)
 (.seq
 (.region
 [oq 8 (.mv (.const (.slice none 0 0))),
 oq 9 (.mv (.const (.bool false)))]
 [8,9])
 .ret)
 .skip)))))))
def S167_3 : Stmt :=
 .region
 [oq 83 (.ibin .add (.tmp 33) (.const (.int .i64 1))),
 oq 33 (.mv (.tmp 83))]
 [0,2,3,5,10,31,32,33]
def S167_4 : Stmt :=
 .seq
 (.region [oq 34 (.ibin .lss (.tmp 33) (.tmp 32))]
 [0,2,3,5,10,31,32,33,34])
 (.seq (.cond (.tmp 34) .skip (.exit 0))
 (.join S167_2 S167_3 [10] [0,2,3,5,31,32,33]))
def S167_0 : Stmt :=
 .seq
 (.region
 [oq 5 (.box true 39 (.tmp 1)),
 oq 8 (.mv (.const (.slice none 0 0))),
 oq 9 (.mv (.const (.bool false)))]
 [0,2,3,5])
 (.seq
 (.seq
 (.region
 [oq 17 (.fld 0 (.tmp 5)),
 oq 18 (.load false 1 (.tmp 17))]
 [0,2,3,5,18])
 (.cond (.tmp 18)
 (.seq
 (.seq
 (.region
 [oq 19 (.mv (.tmp 2)),
 oq 20 (.ibin .eql (.tmp 19) (.const (.int .i64 1)))]
 [5,20])
 (.cond (.tmp 20)
 (.seq
 (.region
 [oq 21 (.fld 1 (.tmp 5)),
 oq 22 (.load false 1 (.tmp 21)),
 .mk (some 23) none
 (.build 106 [.int .i64 0,.int .i64 0,.slice none 0 0]
 [(0,1,.const (.int .i64 (-1))),(1,1,.tmp 22)]),
 .mk (some 24) none
 (.buildS 106 1 [.int .i64 0,.int .i64 0,.slice none 0 0]
 [(0,3,.tmp 23)]),
 oq 8 (.mv (.tmp 24)),
 oq 9 (.mv (.const (.bool true)))]
 [8,9])
 .ret)
 .skip))
 (.seq
 (.region
 [oq 8 (.mv (.const (.slice none 0 0))),
 oq 9 (.mv (.const (.bool true)))]
 [8,9])
 .ret))
 .skip))
 (.seq
 (.seq
 (.region
 [oq 25 (.mv (.tmp 3)),
 oq 26 (.ibin .eql (.tmp 25) (.const (.int .i64 0)))]
 [0,2,3,5,26])
 (.cond (.tmp 26)
 (.seq
 (.region
 [oq 8 (.mv (.const (.slice none 0 0))),
 oq 9 (.mv (.const (.bool false)))]
 [8,9])
 .ret)
 .skip))
 (.seq (.region [oq 10 (.mv (.const (.slice none 0 0)))] [0,2,3,5,10])
 (.seq
 (.seq
 (.region
 [oq 27 (.mv (.tmp 0)),
 oq 28 (.nilCheck (.tmp 27)),
 oq 29 (.fld 0 (.tmp 28)),
 oq 30 (.fld 3 (.tmp 29)),
 oq 31 (.load false 1 (.tmp 30)),
 oq 32 (.len false (.tmp 31)),
 oq 33 (.mv (.const (.int .i64 0)))]
 [0,2,3,5,10,31,32,33])
 (.block 0 (.loop S167_4 [10,33] [0,2,3,5,31,32])))
 (.seq
 (.region
 [oq 84 (.mv (.tmp 10)),oq 8 (.mv (.tmp 84)),
 oq 9 (.mv (.const (.bool true)))]
 [8,9])
 .ret)))))
def S167 : FnS := ⟨85,[(8,none),(9,none)],S167_0⟩
theorem tr167 : trFn Try.prog 167 [5,12] [[0,2,3,5],[0,2,3,5,18],[5,20],[8,9],[8,9],[0,2,3,5,26],[8,9],[0,2,3,5,10],[0,2,3,5,10,31,32,33],[10,33],[0,2,3,5,31,32],[0,2,3,5,10,31,32,33,34],[10],[0,2,3,5,31,32,33],[0,2,3,5,10,11,12,31,32,33],[0,2,3,5,10,11,12,31,32,33,50],[0,2,3,5,10,11,13,14,31,32,33],[0,2,3,5,10,11,13,31,32,33,62],[8,9],[0,2,3,5,10,11,31,32,33,63,64,65],[10,65],[0,2,3,5,11,31,32,33,63,64],[0,2,3,5,10,11,31,32,33,63,64,65,66],[0,2,3,5,10,11,16,31,32,33,63,64,65],[0,2,3,5,10,11,31,32,33,63,64,65],[0,2,3,5,10,11,31,32,33,63,64,65],[0,2,3,5,10,31,32,33,82],[8,9],[0,2,3,5,10,31,32,33],[8,9]] = some S167 := by kernel_rfl
/- parlref5.lister: rows, trees walked; no condition. -/
theorem lit_one {α : Type} [Rep α] {b : Nat} {T : TypeId} {cs : List Value} {L : Mem} (x : α) (hx : Rep.ok L x cs) : Bld (one b (.cells cs.toArray T)) L T (.slice (some ⟨b, 0, none⟩) 1 1) [x] := by
 have hl := Rep.len hx
 refine ⟨cs, ⟨by rw [hl]; simp, .inr ⟨b, 0, 0, _, rfl, by simp, by simp [maxLen], one_self _ _, by simp [hl], ?_⟩⟩, fun i y hi => ?_⟩
 ·simp only [List.toList_toArray, List.drop_zero, List.length_cons, List.length_nil, Nat.zero_add, Nat.one_mul]
  rw [← hl, List.take_length]
 ·cases i with
  | zero => simp at hi; subst hi; exact ⟨cs, hx, fun j hj => by simp⟩
  | succ i => simp at hi
theorem SlOk.hi {α : Type} [Rep α] {h : Mem} {A : Option Addr} {c : Nat} {xs : List α} (q : SlOk h A c xs) {m : Nat} (hm : m ≤ xs.length) : SlOk h A c (xs.take m) := by
 have := q.slice (Nat.zero_le m) hm
 rw [List.drop_zero, Nat.sub_zero] at this
 have e : (if c = 0 then A else A.map (·.add (0 * Rep.sz α))) = A := by
  split
  ·rfl
  ·cases A with
   | none => rfl
   | some a => simp [Addr.add]
 rwa [e] at this
theorem row_one (T : Int → Nat → Nat) (s : Sy) (j : Nat) : rowT T [s] j = symT T s j := by
 rw [← preT_one]
 show convT T oneT s j = _
 unfold convT
 rw [sumN_front, sumN_congr (g := fun _ => 0) (fun x _ => by simp [oneT]), sumN_zero]
 simp [oneT]
def TrsQ (g : Gr) (s : Sy) (k d most : Nat) (v : Value) (Γ : Ctx) : Prop := (Γ = [] ∧ v = .tuple #[.slice none 0 0, .bool false]) ∨
 (∃ gt A c out, Γ = [gt] ∧ v = .tuple #[.slice A out.length c, .bool true] ∧ SlOk (lk [gt]) A c out ∧ out.length ≤ most + 1 ∧ ∀ h, d ≤ h → symL (lstT g h) s k = out)
def RwsQ (g : Gr) (l : List Sy) (k d most : Nat) (v : Value) (Γ : Ctx) : Prop := (Γ = [] ∧ v = .tuple #[.slice none 0 0, .bool false]) ∨
 (∃ gt A c out, Γ = [gt] ∧ v = .tuple #[.slice A out.length c, .bool true] ∧ SlOk (lk [gt]) A c out ∧ out.length ≤ most + 1 ∧ ∀ h, d ≤ h → rowL (lstT g h) l k = out)
def TrsC (g : Gr) (N b : Nat) (R : Option Addr) (cR bc most : Nat) (rows : List (List Bool)) (d : Nat) : Prop := ∀ {s : Sy} {k : Nat}, k ≤ N → (s.t = false → 0 ≤ s.n ∧ s.n < g.ns) → ∀ {Γr : Ctx}, LsK (lk Γr) b g N R cR bc most rows →
 Ret Try.prog 167 [.pointer (some ⟨b, 0, none⟩), .agg #[.bool s.t, .int .i64 s.n], .int .i64 (k : Int), .int .i64 (d : Int)] Γr [] (TrsQ g s k d most)
def RwsC (g : Gr) (N b : Nat) (R : Option Addr) (cR bc most : Nat) (rows : List (List Bool)) (d : Nat) (l : List Sy) : Prop := ∀ {k : Nat}, k ≤ N → (∀ s ∈ l, s.t = false → 0 ≤ s.n ∧ s.n < g.ns) → 0 < rowT (cntT g (mostN g N)) l k → ∀ {Γr : Ctx} {A : Option Addr} {c : Nat}, LsK (lk Γr) b g N R cR bc most rows → SlOk (lk Γr) A c l →
 Ret Try.prog 200 [.pointer (some ⟨b, 0, none⟩), .slice A l.length c, .int .i64 (k : Int), .int .i64 (d : Int)] Γr [] (RwsQ g l k d most)
set_option maxHeartbeats 3200000 in
theorem lister_rows {g : Gr} (V : VG g) {N : Nat} (hN : N ≤ 400) {b : Nat} {R : Option Addr} {cR bc most : Nat} (hmost : most ≤ 1000) {rows : List (List Bool)} {d : Nat} (hd : d ≤ 1000) (hT : TrsC g N b R cR bc most rows d) : ∀ (l : List Sy), l.length ≤ 4 → RwsC g N b R cR bc most rows d l := by
 intro l
 induction l with
 | nil =>
  intro _ k hk _ hpos Γr A c hB hA
  generalize hRR : RwsQ g [] k d most = R'
  refine ret_of_vc tr200 (Nat.le_of_ble_eq_true rfl) ?_
  simp -implicitDefEqProofs only [S200, S200_0, go_sem,zA,zB,zC,zD,zE,reduceCtorEq,↓reduceIte,zF,zG,zH,zI]
  intro b1
  have hk0 : k = 0 := by
   simp only [rowT] at hpos
   split at hpos
   ·assumption
   ·omega
  subst hk0
  obtain ⟨A1, c1, e1, hS1⟩ := (lit_one (b := b1) (T := 104) (L := lk []) (cs := [.slice none 0 0]) ([] : List Tr) (show Rep.ok (lk []) ([] : List Tr) [.slice none 0 0] from ⟨none, 0, rfl, SlOk.nil⟩)).slok (L' := lk [one b1 (.cells #[Value.slice none 0 0] 104)]) (Mem.le.refl _) (fun b o ⟨x, hx, _⟩ => by cases hx) (by simp)
  simp only [Value.slice.injEq] at e1
  obtain ⟨rfl, _, rfl⟩ := e1
  refine Up.here ?_
  subst hRR
  exact .inr ⟨_, _, _, [[]], rfl, rfl, hS1, by simp, fun h _ => rfl⟩
 | cons s l ih =>
  intro hlen k hk hin hpos Γr A c hB hA
  have ih : RwsC g N b R cR bc most rows d l := ih (by simp at hlen; omega)
  have hlk : (s :: l).length = l.length + 1 := rfl
  have hdr := hA.drop (l := 1) (by simp)
  simp only [List.drop_succ_cons, List.drop_zero] at hdr
  have hhi := hA.hi (m := 1) (by simp)
  simp only [List.take_succ_cons, List.take_zero] at hhi
  obtain ⟨b3, o3, h3, hc3⟩ := hA.sy (i := 0) (by simp)
  simp only [List.getElem_cons_zero] at hc3
  have hcap := hA.cap
  generalize hRR : RwsQ g (s :: l) k d most = R'
  refine ret_of_vc tr200 (Nat.le_of_ble_eq_true rfl) ?_
  simp -implicitDefEqProofs only [S200, S200_0, go_sem,zA,zB,zC,zD,zE,reduceCtorEq,↓reduceIte,zF,zG,zH,zI]
  refine ⟨fun h => absurd h (by omega), fun _ => ?_⟩
  refine s_loop (fun f vs Γ => ∃ (go gl : PH) (v : Value) (j : Nat) (out : List (List Tr)), vs = [.v true v, .v true (.int .i64 (j : Int))] ∧ Γ = [go, gl] ∧ j + f = k + 1 ∧ Bld go (lk [gl]) 104 v out ∧ out.length ≤ most ∧ ∀ h, d ≤ h → rowsT (lstT g h) s l k j = out) (k + 1)
   (Up.emp (Up.emp (Up.here ⟨_, _, _, 0, [], rfl, rfl, by omega, Bld.nil _ _ _, Nat.zero_le _, fun h _ => rfl⟩))) ?_
  rintro f vs Γ ⟨go, gl, v, j, out, rfl, rfl, hjf, hO, hol, hout⟩
  obtain ⟨Ao, co, rfl⟩ := hO.val
  simp -implicitDefEqProofs only [S200_5, go_sem,zA,zB,zC,zD,zE,reduceCtorEq,↓reduceIte,zF,zG,zH,zI]
  refine ⟨fun hlt => ?_, fun hge => ?_⟩
  ·have hj : j ≤ k := by omega
   refine s_join (fun vs Γ => ∃ (go gl : PH) (v : Value) (out : List (List Tr)), vs = [.v true v] ∧ Γ = [go, gl] ∧ Bld go (lk [gl]) 104 v out ∧ out.length ≤ most ∧ ∀ h, d ≤ h → rowsT (lstT g h) s l k (j + 1) = out) ?_ ?_
   ·simp -implicitDefEqProofs only [S200_3, go_sem,zA,zB,zC,zD,zE,reduceCtorEq,↓reduceIte,zF,zG,zH,zI]
    refine s_hi 1 (by simp -implicitDefEqProofs only [go_sem,zA,zB,zC,zD,zE,reduceCtorEq,↓reduceIte,zF,zG,zH,zI]; exact ⟨_, rfl⟩) (by simp at hcap; omega) ?_
    simp -implicitDefEqProofs only [go_sem,zA,zB,zC,zD,zE,reduceCtorEq,↓reduceIte,zF,zG,zH,zI]
    refine CallVC.read (ref_fits V hN (hB.mono (lk_r [go, gl] Γr)) (hhi.mono (lk_r [go, gl] Γr)) (fun x hx => hin x (by simp at hx; simp [hx])) (n := j) (by omega)) ?_
    rintro v Γ' ⟨rfl, rfl⟩
    rw [row_one]
    by_cases h1 : 0 < symT (cntT g (mostN g N)) s j
    ·have hd1 : decide (0 < symT (cntT g (mostN g N)) s j) = true := decide_eq_true h1
     rw [hd1]
     simp -implicitDefEqProofs only [go_sem,zA,zB,zC,zD,zE,reduceCtorEq,↓reduceIte,zF,zG,zH,zI]
     refine s_lo 1 (by simp -implicitDefEqProofs only [go_sem,zA,zB,zC,zD,zE,reduceCtorEq,↓reduceIte,zF,zG,zH,zI]; exact ⟨_, rfl⟩) (by simp) (by simp at hcap; omega) ?_
     intro A' hA'
     rw [show Rep.sz Sy = 2 from rfl, ← hA'] at hdr
     rw [show l.length + 1 - 1 = l.length by omega]
     have hwkj : IntKind.i64.wrap ((k : Int) - (j : Int)) = ((k - j : Nat) : Int) := by rw [wrap_id (by omega) (by omega)]; omega
     simp -implicitDefEqProofs only [hwkj, go_sem,zA,zB,zC,zD,zE,reduceCtorEq,↓reduceIte,zF,zG,zH,zI]
     refine CallVC.read (ref_fits V hN (hB.mono (lk_r [go, gl] Γr)) (hdr.mono (lk_r [go, gl] Γr)) (fun x hx => hin x (by simp [hx])) (n := k - j) (by omega)) ?_
     rintro v Γ' ⟨rfl, rfl⟩
     by_cases h2 : 0 < rowT (cntT g (mostN g N)) l (k - j)
     ·have hd2 : decide (0 < rowT (cntT g (mostN g N)) l (k - j)) = true := decide_eq_true h2
      rw [hd2]
      simp -implicitDefEqProofs only [go_sem,zA,zB,zC,zD,zE,reduceCtorEq,↓reduceIte,zF,zG,zH,zI]
      refine s_idx h3 (by simp) (by simp) ?_
      simp -implicitDefEqProofs only [go_sem,zA,zB,zC,zD,zE,reduceCtorEq,↓reduceIte,zF,zG,zH,zI]
      refine s_ld0 (by simpa using hc3 _ (lk_r [go, gl] _)) (by simp) (by simp) ?_
      simp -implicitDefEqProofs only [go_sem,zA,zB,zC,zD,zE,reduceCtorEq,↓reduceIte,zF,zG,zH,zI]
      refine CallVC.read (hT (s := s) (k := j) (by omega) (hin s (by simp)) (hB.mono (lk_r [go, gl] Γr))) ?_
      rintro v Γ' (⟨rfl, rfl⟩ | ⟨ga, Aa, ca, outa, rfl, rfl, hSa, hla, houta⟩)
      ·simp -implicitDefEqProofs only [go_sem,zA,zB,zC,zD,zE,reduceCtorEq,↓reduceIte,zF,zG,zH,zI]
       refine Up.to [] (Ent.nil _) ?_
       subst hRR
       exact .inl ⟨rfl, rfl⟩
      simp -implicitDefEqProofs only [go_sem,zA,zB,zC,zD,zE,reduceCtorEq,↓reduceIte,zF,zG,zH,zI]
      refine s_lo 1 (by simp -implicitDefEqProofs only [go_sem,zA,zB,zC,zD,zE,reduceCtorEq,↓reduceIte,zF,zG,zH,zI]; exact ⟨_, rfl⟩) (by simp) (by simp at hcap; omega) ?_
      intro A'' hA''
      rw [← hA'] at hA''
      subst hA''
      rw [show l.length + 1 - 1 = l.length by omega]
      simp -implicitDefEqProofs only [hwkj, go_sem,zA,zB,zC,zD,zE,reduceCtorEq,↓reduceIte,zF,zG,zH,zI]
      refine CallVC.read (ih (k := k - j) (by omega) (fun x hx => hin x (by simp [hx])) h2 (hB.mono (lk_r [ga, go, gl] Γr)) (hdr.mono (lk_r [ga, go, gl] Γr))) ?_
      rintro v Γ' (⟨rfl, rfl⟩ | ⟨gb, Ab, cb, outb, rfl, rfl, hSb, hlb, houtb⟩)
      ·simp -implicitDefEqProofs only [go_sem,zA,zB,zC,zD,zE,reduceCtorEq,↓reduceIte,zF,zG,zH,zI]
       refine Up.to [] (Ent.nil _) ?_
       subst hRR
       exact .inl ⟨rfl, rfl⟩
      simp -implicitDefEqProofs only [go_sem,zA,zB,zC,zD,zE,reduceCtorEq,↓reduceIte,zF,zG,zH,zI]
      have hSa := hSa
      refine s_loop (fun f1 vs Γ => ∃ (go gl : PH) (v : Value) (i1 : Nat), vs = [.v true v, .v true (.int .i64 (i1 : Int))] ∧ Γ = [go, gl, ga, gb] ∧ i1 + f1 = outa.length ∧ Bld go (lk [gl, ga, gb]) 104 v (out ++ (outa.take i1).flatMap fun x => outb.map (x :: ·))) outa.length
       (Up.sel [[2], [3], [1], [0]] (by decide) fun _ _ => ⟨go, gl, _, 0, rfl, rfl, by omega, by simpa using hO.mono (Mem.le.refl _) (lk_sub (by simp))⟩) ?_
      clear hO
      rintro f1 vs Γ ⟨go, gl, v, i1, rfl, rfl, hi1, hO⟩
      obtain ⟨Ao, co, rfl⟩ := hO.val
      simp -implicitDefEqProofs only [S200_2, go_sem,zA,zB,zC,zD,zE,reduceCtorEq,↓reduceIte,zF,zG,zH,zI]
      refine ⟨fun hlt => ?_, fun hge => ?_⟩
      ·have hi : i1 < outa.length := by omega
       obtain ⟨b5, o5, h5, A5, c5, hs5, hc5⟩ := hSa.tr hi
       have hxok : Rep.ok (lk [ga]) outa[i1] [.int .i64 outa[i1].rule, .int .i64 outa[i1].term, .slice A5 outa[i1].kids.length c5] := ok_tr.2 ⟨A5, c5, rfl, hs5⟩
       have htk : outa.take (i1 + 1) = outa.take i1 ++ [outa[i1]] := List.take_succ_eq_append_getElem hi
       generalize outa[i1] = x at *
       refine s_idx h5 (by omega) (by omega) ?_
       simp -implicitDefEqProofs only [go_sem,zA,zB,zC,zD,zE,reduceCtorEq,↓reduceIte,zF,zG,zH,zI]
       refine s_ld0 (by simpa using hc5 _ (lk_sub (by simp))) (by simp) (by simp) ?_
       simp -implicitDefEqProofs only [go_sem,zA,zB,zC,zD,zE,reduceCtorEq,↓reduceIte,zF,zG,zH,zI]
       intro b16
       have hfl : ((outa.take i1).flatMap fun x => outb.map (x :: ·)).length = i1 * outb.length := by
        rw [fm_const (c := outb.length) (fun z _ => by rw [List.length_map]), List.length_take, Nat.min_eq_left (by omega)]
       have hib : i1 * outb.length ≤ 1001 * 1001 := Nat.mul_le_mul (by omega) (by omega)
       generalize hbase : out ++ ((outa.take i1).flatMap fun x => outb.map (x :: ·)) = base at *
       have hbl : base.length ≤ 1100000 := by rw [← hbase, List.length_append, hfl]; omega
       refine s_loop (fun f2 vs Γ => ∃ (go gl : PH) (v : Value) (k1 : Nat), vs = [.v true v, .v true (.int .i64 (k1 : Int))] ∧ Γ = [go, gl, ga, gb] ∧ k1 + f2 = outb.length ∧ Bld go (lk [gl, ga, gb]) 104 v (base ++ (outb.take k1).map (x :: ·))) outb.length
        (Up.here ⟨go, gl, _, 0, rfl, rfl, by omega, by simpa using hO⟩) ?_
       clear hO
       rintro f2 vs Γ ⟨go, gl, v, k1, rfl, rfl, hk1, hO⟩
       obtain ⟨Ao, co, rfl⟩ := hO.val
       simp -implicitDefEqProofs only [S200_1, go_sem,zA,zB,zC,zD,zE,reduceCtorEq,↓reduceIte,zF,zG,zH,zI]
       refine ⟨fun hlt => ?_, fun hge => ?_⟩
       ·have hkb : k1 < outb.length := by omega
        obtain ⟨b6, o6, h6, A6, c6, hs6, hc6⟩ := hSb.list hkb
        have htk2 : outb.take (k1 + 1) = outb.take k1 ++ [outb[k1]] := List.take_succ_eq_append_getElem hkb
        have hyl : outb[k1].length = l.length := by
         have := houtb d (Nat.le_refl d)
         exact rowL_each (L := lstT g d) (k := k - j) (by rw [this]; exact List.getElem_mem hkb)
        generalize outb[k1] = y at *
        refine s_idx h6 (by omega) (by omega) ?_
        simp -implicitDefEqProofs only [go_sem,zA,zB,zC,zD,zE,reduceCtorEq,↓reduceIte,zF,zG,zH,zI]
        refine s_ld0 (by simpa using hc6 _ (lk_sub (by simp))) (by simp) (by simp) ?_
        simp -implicitDefEqProofs only [go_sem,zA,zB,zC,zD,zE,reduceCtorEq,↓reduceIte,zF,zG,zH,zI]
        intro b1
        refine s_appL (α := Tr) (ix := 0) (L := lk [ga]) (L' := lk [ga, gb]) (L2 := lk [gb]) rfl (lit_tree hxok) (lk_sub (by simp)) hs6 (lk_sub (by simp)) (lk_sub (by simp)) rfl (by simp; omega) (by simp; unfold maxLen; omega) ?_
        intro v' g1 hB' _
        obtain ⟨A2, c2, rfl, hS2⟩ := hB'.slok (L' := lk [g1, ga, gb]) (lk_sub (by simp)) (lk_sub (by simp)) (by simp; omega)
        simp -implicitDefEqProofs only [go_sem,zA,zB,zC,zD,zE,reduceCtorEq,↓reduceIte,zF,zG,zH,zI]
        intro b2
        have hbk : (base ++ (outb.take k1).map (x :: ·)).length ≤ 1200000 := by rw [List.length_append, List.length_map, List.length_take]; omega
        refine s_app1 (α := List Tr) (ix := 2) (L := lk [gl, ga, gb]) (L' := lk [g1, gl, ga, gb]) (x := x :: y) (cs := [.slice A2 (y.length + 1) c2]) rfl hO (lk_sub (by simp)) ⟨A2, c2, rfl, hS2.mono (lk_sub (by simp))⟩ cells_one rfl (by omega) (by unfold maxLen; omega) ?_
        intro v2 go2 hO2 _
        obtain ⟨Ao2, co2, rfl⟩ := hO2.val
        simp -implicitDefEqProofs only [go_sem,zA,zB,zC,zD,zE,reduceCtorEq,↓reduceIte,zF,zG,zH,zI]
        simp (disch := omega) only [wrap_id]
        refine ⟨f2 - 1, by omega, Up.skip (Up.sel [[1], [0, 2], [3], [4]] (by decide) fun _ hle => ⟨go2, _, _, k1 + 1, rfl, rfl, by omega, ?_⟩)⟩
        rw [htk2, List.map_append, ← List.append_assoc]
        exact hO2.mono (Mem.le.refl _) (lk_ctx (Γr := [ga, gb]) (hle [0, 2] (by simp)))
       ·have hke : k1 = outb.length := by omega
        subst hke
        simp (disch := omega) only [wrap_id]
        refine ⟨f1 - 1, by omega, Up.here ⟨go, gl, _, i1 + 1, rfl, rfl, by omega, ?_⟩⟩
        rw [List.take_length, ← hbase] at hO
        rw [htk, List.flatMap_append, ← List.append_assoc]
        simpa [List.take_length, ← hbase] using hO
      ·have hie : i1 = outa.length := by omega
       subst hie
       have hfl : ((outa.take outa.length).flatMap fun x => outb.map (x :: ·)).length = outa.length * outb.length := by
        rw [fm_const (c := outb.length) (fun z _ => by rw [List.length_map]), List.length_take, Nat.min_self]
       have hib : outa.length * outb.length ≤ 1001 * 1001 := Nat.mul_le_mul (by omega) (by omega)
       refine s_ld (j := 5) (cells_lk (lk_r [go, gl, ga, gb] _ _ _ hB.out)) (by simp [lsC]) (by simp) ?_
       simp -implicitDefEqProofs only [lsC, go_sem,zA,zB,zC,zD,zE,reduceCtorEq,↓reduceIte,zF,zG,zH,zI]
       refine ⟨fun hbig => ?_, fun hsm => ?_⟩
       ·refine Up.to [] (Ent.nil _) ?_
        subst hRR
        exact .inl ⟨rfl, rfl⟩
       ·refine Up.sel [[0], [1, 2, 3]] (by decide) fun _ hle => ⟨go, _, _, _, rfl, rfl, hO.mono (Mem.le.refl _) (hle [1, 2, 3] (by simp)), by omega, fun h hh => ?_⟩
        rw [rowsT_succ, hout h hh, houta h hh, houtb h hh, List.take_length]
     ·have hd2 : decide (0 < rowT (cntT g (mostN g N)) l (k - j)) = false := decide_eq_false h2
      rw [hd2]
      simp -implicitDefEqProofs only [go_sem,zA,zB,zC,zD,zE,reduceCtorEq,↓reduceIte,zF,zG,zH,zI]
      refine Up.here ⟨go, gl, _, out, rfl, rfl, hO, hol, fun h hh => ?_⟩
      rw [rowsT_succ, hout h hh, row_none V (show k - j ≤ N by omega) h2 h]
      simp
    ·have hd1 : decide (0 < symT (cntT g (mostN g N)) s j) = false := decide_eq_false h1
     rw [hd1]
     simp -implicitDefEqProofs only [go_sem,zA,zB,zC,zD,zE,reduceCtorEq,↓reduceIte,zF,zG,zH,zI]
     refine ⟨0, 0, fun h => absurd h (by decide), ?_⟩
     simp -implicitDefEqProofs only [go_sem,zA,zB,zC,zD,zE,reduceCtorEq,↓reduceIte,zF,zG,zH,zI]
     refine ⟨.bool false, ?_⟩
     simp -implicitDefEqProofs only [go_sem,zA,zB,zC,zD,zE,reduceCtorEq,↓reduceIte,zF,zG,zH,zI]
     refine Up.here ⟨go, gl, _, out, rfl, rfl, hO, hol, fun h hh => ?_⟩
     rw [rowsT_succ, hout h hh, sym_none V (show j ≤ N by omega) h1 h]
     simp
   ·rintro vs Γ' ⟨go, gl, v, out, rfl, rfl, hO, hol, hout⟩
    obtain ⟨Ao, co, rfl⟩ := hO.val
    simp -implicitDefEqProofs only [S200_4, go_sem,zA,zB,zC,zD,zE,reduceCtorEq,↓reduceIte,zF,zG,zH,zI]
    simp (disch := omega) only [wrap_id]
    exact ⟨f - 1, by omega, Up.here ⟨go, gl, _, j + 1, out, rfl, rfl, by omega, hO, hol, hout⟩⟩
  ·have hje : j = k + 1 := by omega
   subst hje
   obtain ⟨A1, c1, e1, hS1⟩ := hO.slok (L' := lk [go, gl]) (lk_sub (by simp)) (lk_sub (by simp)) (by omega)
   simp only [Value.slice.injEq, true_and] at e1
   obtain ⟨rfl, rfl⟩ := e1
   refine Up.one fun G hG => ?_
   subst hRR
   exact .inr ⟨G, _, _, out, rfl, rfl, hS1.mono hG, by omega, fun h hh => by rw [← rowsT_all, hout h hh]⟩
/- parlref5.lister: trees walked; no condition. -/
set_option maxHeartbeats 3200000 in
theorem lister_trees {g : Gr} (V : VG g) {N : Nat} (hN : N ≤ 400) {b : Nat} {R : Option Addr} {cR bc most : Nat} (hmost : most ≤ 1000) {rows : List (List Bool)} : ∀ (d : Nat), d ≤ 1000 → TrsC g N b R cR bc most rows d := by
 intro d
 induction d with
 | zero =>
  intro _ s k hk hin Γr hB
  generalize hRR : TrsQ g s k 0 most = R'
  refine ret_of_vc tr167 (Nat.le_of_ble_eq_true rfl) ?_
  obtain ⟨st, sn⟩ := s
  cases st with
  | true =>
   simp -implicitDefEqProofs only [S167, S167_0, go_sem,zA,zB,zC,zD,zE,reduceCtorEq,↓reduceIte,zF,zG,zH,zI]
   refine ⟨fun h1 b1 => ?_, fun h1 => ?_⟩
   ·have hk1 : k = 1 := by omega
    obtain ⟨A1, c1, e1, hS1⟩ := (lit_one (b := b1) (T := 106) (L := lk []) (cs := [.int .i64 (-1), .int .i64 sn, .slice none 0 0]) (⟨-1, sn, []⟩ : Tr) (ok_tr.2 ⟨none, 0, rfl, SlOk.nil⟩)).slok (L' := lk [one b1 (.cells #[Value.int .i64 (-1), .int .i64 sn, .slice none 0 0] 106)]) (Mem.le.refl _) (fun b o ⟨x, hx, _⟩ => by cases hx) (by simp)
    simp only [Value.slice.injEq] at e1
    obtain ⟨rfl, _, rfl⟩ := e1
    refine Up.here ?_
    subst hRR
    exact .inr ⟨_, _, _, [⟨-1, sn, []⟩], rfl, rfl, hS1, by simp, fun h _ => by simp [symL, hk1]⟩
   ·have hk1 : ¬ k = 1 := by omega
    refine Up.emp (Up.here ?_)
    subst hRR
    exact .inr ⟨_, none, 0, [], rfl, rfl, SlOk.nil, by simp, fun h _ => by simp [symL, hk1]⟩
  | false =>
   simp -implicitDefEqProofs only [S167, S167_0, go_sem,zA,zB,zC,zD,zE,reduceCtorEq,↓reduceIte,zF,zG,zH,zI]
   refine Up.here ?_
   subst hRR
   exact .inl ⟨rfl, rfl⟩
 | succ d ih =>
  intro hd1 s k hk hin Γr hB
  have hrw := lister_rows V hN hmost (show d ≤ 1000 by omega) (ih (by omega))
  generalize hRR : TrsQ g s k (d + 1) most = R'
  refine ret_of_vc tr167 (Nat.le_of_ble_eq_true rfl) ?_
  obtain ⟨st, sn⟩ := s
  cases st with
  | true =>
   simp -implicitDefEqProofs only [S167, S167_0, go_sem,zA,zB,zC,zD,zE,reduceCtorEq,↓reduceIte,zF,zG,zH,zI]
   refine ⟨fun h1 b1 => ?_, fun h1 => ?_⟩
   ·have hk1 : k = 1 := by omega
    obtain ⟨A1, c1, e1, hS1⟩ := (lit_one (b := b1) (T := 106) (L := lk []) (cs := [.int .i64 (-1), .int .i64 sn, .slice none 0 0]) (⟨-1, sn, []⟩ : Tr) (ok_tr.2 ⟨none, 0, rfl, SlOk.nil⟩)).slok (L' := lk [one b1 (.cells #[Value.int .i64 (-1), .int .i64 sn, .slice none 0 0] 106)]) (Mem.le.refl _) (fun b o ⟨x, hx, _⟩ => by cases hx) (by simp)
    simp only [Value.slice.injEq] at e1
    obtain ⟨rfl, _, rfl⟩ := e1
    refine Up.here ?_
    subst hRR
    exact .inr ⟨_, _, _, [⟨-1, sn, []⟩], rfl, rfl, hS1, by simp, fun h _ => by simp [symL, hk1]⟩
   ·have hk1 : ¬ k = 1 := by omega
    refine Up.emp (Up.here ?_)
    subst hRR
    exact .inr ⟨_, none, 0, [], rfl, rfl, SlOk.nil, by simp, fun h _ => by simp [symL, hk1]⟩
  | false =>
   simp -implicitDefEqProofs only [S167, S167_0, go_sem,zA,zB,zC,zD,zE,reduceCtorEq,↓reduceIte,zF,zG,zH,zI]
   intro b5
   refine ⟨fun h => absurd h (by omega), fun _ => ?_⟩
   have hsh := hB.rs.short
   have hvl := V.len
   refine s_ld (j := 3) (cells_lk hB.out) (by simp [lsC]) (by simp) ?_
   simp -implicitDefEqProofs only [lsC, go_sem,zA,zB,zC,zD,zE,reduceCtorEq,↓reduceIte,zF,zG,zH,zI]
   refine s_loop (fun f vs Γ => ∃ (go gl : PH) (v : Value) (i : Nat) (out : List Tr), vs = [.v true v, .v true (.int .i64 (i : Int))] ∧ Γ = [go, gl] ∧ i + f = g.rs.length ∧ Bld go (lk [gl]) 106 v out ∧ out.length ≤ most ∧ ∀ h, d ≤ h → rulsT g (lstT g h) sn k i = out) g.rs.length
    (Up.emp (Up.emp (Up.here ⟨_, _, _, 0, [], rfl, rfl, by omega, Bld.nil _ _ _, Nat.zero_le _, fun h _ => rfl⟩))) ?_
   rintro f vs Γ ⟨go, gl, v, i, out, rfl, rfl, hif, hO, hol, hout⟩
   obtain ⟨Ao, co, rfl⟩ := hO.val
   simp -implicitDefEqProofs only [S167_4, go_sem,zA,zB,zC,zD,zE,reduceCtorEq,↓reduceIte,zF,zG,zH,zI]
   refine ⟨fun hlt => ?_, fun hge => ?_⟩
   ·have hi : i < g.rs.length := by omega
    obtain ⟨b0, o0, h0, A1, c1, hr1, hcr⟩ := hB.rs.ru hi
    have hsucc := fun h => rulsT_succ (lstT g h) sn k hi
    have hr4 := V.right _ (List.getElem_mem hi)
    have hsym := V.sym _ (List.getElem_mem hi)
    refine s_join (fun vs Γ => ∃ (go gl : PH) (v : Value) (out : List Tr), vs = [.v true v] ∧ Γ = [go, gl] ∧ Bld go (lk [gl]) 106 v out ∧ out.length ≤ most ∧ ∀ h, d ≤ h → rulsT g (lstT g h) sn k (i + 1) = out) ?_ ?_
    ·generalize g.rs[i] = r at *
     simp -implicitDefEqProofs only [S167_2, go_sem,zA,zB,zC,zD,zE,reduceCtorEq,↓reduceIte,zF,zG,zH,zI]
     refine s_idx h0 (by omega) (by omega) ?_
     simp -implicitDefEqProofs only [go_sem,zA,zB,zC,zD,zE,reduceCtorEq,↓reduceIte,zF,zG,zH,zI]
     refine s_ld0 (by simpa using hcr _ (lk_r [go, gl] _)) (by simp) (by simp) ?_
     simp -implicitDefEqProofs only [go_sem,zA,zB,zC,zD,zE,reduceCtorEq,↓reduceIte,zF,zG,zH,zI]
     intro b12
     by_cases hl : r.l = sn
     ·have hdl : (!decide (r.l = sn)) = false := by simp [hl]
      simp only [hdl]
      refine ⟨fun h => ⟨h, ?_⟩, fun h => absurd h (by decide)⟩
      refine CallVC.read (ref_fits V hN (hB.mono (lk_r [go, gl] Γr)) (hr1.mono (lk_r [go, gl] Γr)) (fun x hx h => ⟨(hsym x hx).1, (hsym x hx).2.2 h⟩) (n := k) hk) ?_
      rintro v Γ' ⟨rfl, rfl⟩
      by_cases h2 : 0 < rowT (cntT g (mostN g N)) r.r k
      ·have hd2 : decide (0 < rowT (cntT g (mostN g N)) r.r k) = true := decide_eq_true h2
       rw [hd2]
       have hwd : IntKind.i64.wrap (((d + 1 : Nat) : Int) - 1) = (d : Int) := by rw [wrap_id (by omega) (by omega)]; omega
       simp -implicitDefEqProofs only [hwd, go_sem,zA,zB,zC,zD,zE,reduceCtorEq,↓reduceIte,zF,zG,zH,zI]
       refine CallVC.read (hrw r.r hr4 (k := k) hk (fun x hx h => ⟨(hsym x hx).1, (hsym x hx).2.2 h⟩) h2 (hB.mono (lk_r [go, gl] Γr)) (hr1.mono (lk_r [go, gl] Γr))) ?_
       rintro v Γ' (⟨rfl, rfl⟩ | ⟨gr, Ar, cr, outr, rfl, rfl, hSr, hlr, houtr⟩)
       ·simp -implicitDefEqProofs only [go_sem,zA,zB,zC,zD,zE,reduceCtorEq,↓reduceIte,zF,zG,zH,zI]
        refine Up.to [] (Ent.nil _) ?_
        subst hRR
        exact .inl ⟨rfl, rfl⟩
       simp -implicitDefEqProofs only [go_sem,zA,zB,zC,zD,zE,reduceCtorEq,↓reduceIte,zF,zG,zH,zI]
       refine s_loop (fun f1 vs Γ => ∃ (go gl : PH) (v : Value) (i1 : Nat), vs = [.v true v, .v true (.int .i64 (i1 : Int))] ∧ Γ = [go, gl, gr] ∧ i1 + f1 = outr.length ∧ Bld go (lk [gl, gr]) 106 v (out ++ (outr.take i1).map fun ks => (⟨(i : Int), 0, ks⟩ : Tr))) outr.length
        (Up.sel [[1], [2], [0]] (by decide) fun _ _ => ⟨go, gl, _, 0, rfl, rfl, by omega, by simpa using hO.mono (Mem.le.refl _) (lk_sub (by simp))⟩) ?_
       clear hO
       rintro f1 vs Γ ⟨go, gl, v, i1, rfl, rfl, hi1, hO⟩
       obtain ⟨Ao, co, rfl⟩ := hO.val
       simp -implicitDefEqProofs only [S167_1, go_sem,zA,zB,zC,zD,zE,reduceCtorEq,↓reduceIte,zF,zG,zH,zI]
       refine ⟨fun hlt => ?_, fun hge => ?_⟩
       ·have hir : i1 < outr.length := by omega
        obtain ⟨b6, o6, h6, A6, c6, hs6, hc6⟩ := hSr.list hir
        have htk2 : outr.take (i1 + 1) = outr.take i1 ++ [outr[i1]] := List.take_succ_eq_append_getElem hir
        generalize outr[i1] = y at *
        refine s_idx h6 (by omega) (by omega) ?_
        simp -implicitDefEqProofs only [go_sem,zA,zB,zC,zD,zE,reduceCtorEq,↓reduceIte,zF,zG,zH,zI]
        refine s_ld0 (by simpa using hc6 _ (lk_sub (by simp))) (by simp) (by simp) ?_
        simp -implicitDefEqProofs only [go_sem,zA,zB,zC,zD,zE,reduceCtorEq,↓reduceIte,zF,zG,zH,zI]
        intro b2
        have hbk : (out ++ (outr.take i1).map fun ks => (⟨(i : Int), 0, ks⟩ : Tr)).length ≤ 1200000 := by rw [List.length_append, List.length_map, List.length_take]; omega
        refine s_app1 (α := Tr) (ix := 1) (L := lk [gl, gr]) (L' := lk [gl, gr]) (x := ⟨(i : Int), 0, y⟩) (cs := [.int .i64 (i : Int), .int .i64 0, .slice A6 y.length c6]) rfl hO (Mem.le.refl _) (ok_tr.2 ⟨A6, c6, rfl, hs6.mono (lk_sub (by simp))⟩) cells_one rfl (by omega) (by unfold maxLen; omega) ?_
        intro v2 go2 hO2 _
        obtain ⟨Ao2, co2, rfl⟩ := hO2.val
        simp -implicitDefEqProofs only [go_sem,zA,zB,zC,zD,zE,reduceCtorEq,↓reduceIte,zF,zG,zH,zI]
        simp (disch := omega) only [wrap_id]
        refine ⟨f1 - 1, by omega, Up.skip (Up.here ⟨go2, gl, _, i1 + 1, rfl, rfl, by omega, ?_⟩)⟩
        rw [htk2, List.map_append, ← List.append_assoc]
        exact hO2
       ·have hie : i1 = outr.length := by omega
        subst hie
        refine s_ld (j := 5) (cells_lk (lk_r [go, gl, gr] _ _ _ hB.out)) (by simp [lsC]) (by simp) ?_
        simp -implicitDefEqProofs only [lsC, go_sem,zA,zB,zC,zD,zE,reduceCtorEq,↓reduceIte,zF,zG,zH,zI]
        refine ⟨fun hbig => ?_, fun hsm => ?_⟩
        ·refine Up.to [] (Ent.nil _) ?_
         subst hRR
         exact .inl ⟨rfl, rfl⟩
        ·refine Up.sel [[0], [1, 2]] (by decide) fun _ hle => ⟨go, _, _, _, rfl, rfl, hO.mono (Mem.le.refl _) (hle [1, 2] (by simp)), by omega, fun h hh => ?_⟩
         rw [hsucc, if_pos hl, hout h hh, houtr h hh, List.take_length]
      ·have hd2 : decide (0 < rowT (cntT g (mostN g N)) r.r k) = false := decide_eq_false h2
       rw [hd2]
       simp -implicitDefEqProofs only [go_sem,zA,zB,zC,zD,zE,reduceCtorEq,↓reduceIte,zF,zG,zH,zI]
       refine Up.here ⟨go, gl, _, out, rfl, rfl, hO, hol, fun h hh => ?_⟩
       rw [hsucc, hout h hh, row_none V hk h2 h]
       simp
     ·have hdl : (!decide (r.l = sn)) = true := by simp [hl]
      simp only [hdl]
      refine ⟨fun h => absurd h hl, fun _ => ⟨.bool false, ?_⟩⟩
      simp -implicitDefEqProofs only [go_sem,zA,zB,zC,zD,zE,reduceCtorEq,↓reduceIte,zF,zG,zH,zI]
      refine Up.here ⟨go, gl, _, out, rfl, rfl, hO, hol, fun h hh => ?_⟩
      rw [hsucc, hout h hh, if_neg hl]
      simp
    ·rintro vs Γ' ⟨go, gl, v, out, rfl, rfl, hO, hol, hout⟩
     obtain ⟨Ao, co, rfl⟩ := hO.val
     simp -implicitDefEqProofs only [S167_3, go_sem,zA,zB,zC,zD,zE,reduceCtorEq,↓reduceIte,zF,zG,zH,zI]
     simp (disch := omega) only [wrap_id]
     exact ⟨f - 1, by omega, Up.here ⟨go, gl, _, i + 1, out, rfl, rfl, by omega, hO, hol, hout⟩⟩
   ·have hie : i = g.rs.length := by omega
    subst hie
    obtain ⟨A1, c1, e1, hS1⟩ := hO.slok (L' := lk [go, gl]) (lk_sub (by simp)) (lk_sub (by simp)) (by omega)
    simp only [Value.slice.injEq, true_and] at e1
    obtain ⟨rfl, rfl⟩ := e1
    refine Up.one fun G hG => ?_
    subst hRR
    refine .inr ⟨G, _, _, out, rfl, rfl, hS1.mono hG, by omega, fun h hh => ?_⟩
    obtain ⟨h', rfl⟩ : ∃ h', h = h' + 1 := ⟨h - 1, by omega⟩
    rw [← hout h' (by omega), rulsT_all]
    rfl
/- The text of parlance/parlref5.lengthsOf as a statement; no condition. -/
def S114_1 : Stmt :=
 .seq
 (.region [oq 30 (.ibin .lss (.tmp 29) (.tmp 28))]
 [2,5,7,8,9,28,29,30])
 (.seq (.cond (.tmp 30) .skip (.exit 0))
 (.seq
 (.block 1
 (.seq
 (.region
 [oq 31 (.mv (.tmp 29)),oq 10 (.mv (.tmp 31))]
 [2,5,7,8,9,10,28,29])
 (.region
 [oq 32 (.mv (.tmp 9)),oq 33 (.mv (.tmp 10)),
 .mk (some 34) none
 (.build 223 [.int .i64 0,.int .i64 0,.int .i64 0]
 [(0,1,.tmp 33),(1,1,.const (.int .i64 0)),
 (2,1,.const (.int .i64 0))]),
 oq 35 (.call (.tmp 32) [.tmp 34])]
 [2,5,7,8,9,28,29])))
 (.region
 [oq 36 (.ibin .add (.tmp 29) (.const (.int .i64 1))),
 oq 29 (.mv (.tmp 36))]
 [2,5,7,8,9,28,29])))
def S114_2 : Stmt :=
 .block 5
 (.seq
 (.region
 [oq 79 (.idx 3 (.tmp 75) (.tmp 77)),
 oq 80 (.load true 3 (.tmp 79)),
 .mk (some 14) none
 (.alloc true 223
 (.agg (Array.mk [.int .i64 0,.int .i64 0,.int .i64 0]))),
 .mk none none (.store 3 (.tmp 14) (.tmp 80))]
 [2,5,7,8,9,11,12,14,75,76,77])
 (.seq
 (.region
 [oq 81 (.fld 3 (.tmp 2)),
 oq 82 (.load false 1 (.tmp 81)),
 oq 83 (.fld 0 (.tmp 14)),
 oq 84 (.load false 1 (.tmp 83)),
 oq 85 (.idx 2 (.tmp 82) (.tmp 84)),
 oq 86 (.fld 1 (.tmp 85)),
 oq 87 (.load false 1 (.tmp 86)),
 oq 15 (.mv (.tmp 87))]
 [2,5,7,8,9,11,12,14,15,75,76,77])
 (.seq
 (.quiet
 [oq 88 (.fld 1 (.tmp 14)),
 oq 89 (.load false 1 (.tmp 88)),
 oq 90 (.mv (.tmp 15)),oq 91 (.len false (.tmp 90)),
 oq 92 (.ibin .lss (.tmp 89) (.tmp 91)),
 oq 93 (.mv (.tmp 92)),
 .mk (some 94) (some (93,true)) (.mv (.tmp 15)),
 .mk (some 95) (some (93,true)) (.fld 1 (.tmp 14)),
 .mk (some 96) (some (93,true)) (.load false 1 (.tmp 95)),
 .mk (some 97) (some (93,true)) (.idx 2 (.tmp 94) (.tmp 96)),
 .mk (some 98) (some (93,true)) (.fld 0 (.tmp 97)),
 .mk (some 99) (some (93,true)) (.load false 1 (.tmp 98)),
 .mk (some 100) (some (93,true)) (.un .not (.tmp 99)),
 oq 101 (.pick (.tmp 93) (.tmp 100) (.const (.bool false))),
 oq 102 (.mv (.tmp 101)),
 .mk (some 103) (some (102,true)) (.mv (.tmp 15)),
 .mk (some 104) (some (102,true)) (.fld 1 (.tmp 14)),
 .mk (some 105) (some (102,true)) (.load false 1 (.tmp 104)),
 .mk (some 106) (some (102,true)) (.idx 2 (.tmp 103) (.tmp 105)),
 .mk (some 107) (some (102,true)) (.fld 1 (.tmp 106)),
 .mk (some 108) (some (102,true)) (.load false 1 (.tmp 107)),
 .mk (some 109) (some (102,true)) (.fld 0 (.tmp 12)),
 .mk (some 110) (some (102,true)) (.load false 1 (.tmp 109)),
 .mk (some 111) (some (102,true)) (.ibin .eql (.tmp 108) (.tmp 110)),
 oq 112 (.pick (.tmp 102) (.tmp 111) (.const (.bool false)))]
 [2,5,7,8,9,11,12,14,75,76,77,112])
 (.cond (.tmp 112)
 (.region
 [oq 113 (.mv (.tmp 9)),oq 114 (.fld 0 (.tmp 14)),
 oq 115 (.load false 1 (.tmp 114)),
 oq 116 (.fld 1 (.tmp 14)),
 oq 117 (.load false 1 (.tmp 116)),
 oq 118 (.ibin .add (.tmp 117) (.const (.int .i64 1))),
 oq 119 (.fld 2 (.tmp 14)),
 oq 120 (.load false 1 (.tmp 119)),
 oq 121 (.fld 2 (.tmp 11)),
 oq 122 (.load false 1 (.tmp 121)),
 oq 123 (.ibin .add (.tmp 120) (.tmp 122)),
 .mk (some 124) none
 (.build 223 [.int .i64 0,.int .i64 0,.int .i64 0]
 [(0,1,.tmp 115),(1,1,.tmp 118),(2,1,.tmp 123)]),
 oq 125 (.call (.tmp 113) [.tmp 124])]
 [2,5,7,8,9,11,12,75,76,77])
 .skip))))
def S114_3 : Stmt :=
 .region
 [oq 126 (.ibin .add (.tmp 77) (.const (.int .i64 1))),
 oq 77 (.mv (.tmp 126))]
 [2,5,7,8,9,11,12,75,76,77]
def S114_4 : Stmt :=
 .seq
 (.region [oq 78 (.ibin .lss (.tmp 77) (.tmp 76))]
 [2,5,7,8,9,11,12,75,76,77,78])
 (.seq (.cond (.tmp 78) .skip (.exit 4))
 (.join S114_2 S114_3 [] [2,5,7,8,9,11,12,75,76,77]))
def S114_5 : Stmt :=
 .seq
 (.quiet
 [oq 57 (.mv (.tmp 5)),oq 58 (.fld 0 (.tmp 12)),
 oq 59 (.load false 1 (.tmp 58)),
 oq 60 (.idx 1 (.tmp 57) (.tmp 59)),
 oq 61 (.load false 1 (.tmp 60)),oq 62 (.fld 2 (.tmp 11)),
 oq 63 (.load false 1 (.tmp 62)),
 oq 64 (.idx 1 (.tmp 61) (.tmp 63)),
 oq 65 (.load false 1 (.tmp 64)),
 oq 66 (.un .not (.tmp 65))]
 [2,5,7,8,9,11,12,66])
 (.cond (.tmp 66)
 (.seq
 (.drawn
 [(false,oq 67 (.mv (.tmp 5))),
 (false,oq 68 (.fld 0 (.tmp 12))),
 (false,oq 69 (.load false 1 (.tmp 68))),
 (false,oq 70 (.idx 1 (.tmp 67) (.tmp 69))),
 (false,oq 71 (.load false 1 (.tmp 70))),
 (false,oq 72 (.fld 2 (.tmp 11))),
 (false,oq 73 (.load false 1 (.tmp 72))),
 (false,oq 74 (.idx 1 (.tmp 71) (.tmp 73))),
 (false,.mk none none (.store 1 (.tmp 74) (.const (.bool true))))]
 [2,5,7,8,9,11,12])
 (.seq
 (.region
 [oq 75 (.load false 1 (.tmp 7)),
 oq 76 (.len false (.tmp 75)),
 oq 77 (.mv (.const (.int .i64 0)))]
 [2,5,7,8,9,11,12,75,76,77])
 (.block 4 (.loop S114_4 [77] [2,5,7,8,9,11,12,75,76]))))
 .skip)
def S114_6 : Stmt :=
 .exit 3
def S114_7 : Stmt :=
 .block 7
 (.seq
 (.region
 [oq 154 (.mv (.tmp 152)),
 oq 155 (.idx 1 (.tmp 150) (.tmp 152)),
 oq 156 (.load false 1 (.tmp 155)),
 oq 17 (.mv (.tmp 154)),oq 18 (.mv (.tmp 156))]
 [2,5,7,8,9,11,17,18,150,151,152])
 (.seq
 (.region [oq 157 (.mv (.tmp 18))] [2,5,7,8,9,11,17,150,151,152,157])
 (.cond (.tmp 157)
 (.region
 [oq 158 (.mv (.tmp 9)),oq 159 (.fld 0 (.tmp 11)),
 oq 160 (.load false 1 (.tmp 159)),
 oq 161 (.fld 1 (.tmp 11)),
 oq 162 (.load false 1 (.tmp 161)),
 oq 163 (.ibin .add (.tmp 162) (.const (.int .i64 1))),
 oq 164 (.fld 2 (.tmp 11)),
 oq 165 (.load false 1 (.tmp 164)),
 oq 166 (.mv (.tmp 17)),
 oq 167 (.ibin .add (.tmp 165) (.tmp 166)),
 .mk (some 168) none
 (.build 223 [.int .i64 0,.int .i64 0,.int .i64 0]
 [(0,1,.tmp 160),(1,1,.tmp 163),(2,1,.tmp 167)]),
 oq 169 (.call (.tmp 158) [.tmp 168])]
 [2,5,7,8,9,11,150,151,152])
 .skip)))
def S114_8 : Stmt :=
 .region
 [oq 170 (.ibin .add (.tmp 152) (.const (.int .i64 1))),
 oq 152 (.mv (.tmp 170))]
 [2,5,7,8,9,11,150,151,152]
def S114_9 : Stmt :=
 .seq
 (.region [oq 153 (.ibin .lss (.tmp 152) (.tmp 151))]
 [2,5,7,8,9,11,150,151,152,153])
 (.seq (.cond (.tmp 153) .skip (.exit 6))
 (.join S114_7 S114_8 [] [2,5,7,8,9,11,150,151,152]))
def S114_10 : Stmt :=
 .seq
 (.seq
 (.region
 [oq 37 (.load false 1 (.tmp 8)),
 oq 38 (.len false (.tmp 37)),
 oq 39 (.ibin .gtr (.tmp 38) (.const (.int .i64 0)))]
 [2,5,7,8,9,39])
 (.cond (.tmp 39) .skip (.exit 2)))
 (.block 3
 (.seq
 (.region
 [oq 40 (.load false 1 (.tmp 8)),
 oq 41 (.idx 3 (.tmp 40) (.const (.int .i64 0))),
 oq 42 (.load true 3 (.tmp 41)),
 .mk (some 11) none
 (.alloc true 223
 (.agg (Array.mk [.int .i64 0,.int .i64 0,.int .i64 0]))),
 .mk none none (.store 3 (.tmp 11) (.tmp 42))]
 [2,5,7,8,9,11])
 (.seq
 (.region
 [oq 43 (.load false 1 (.tmp 8)),
 .mk (some 44) none
 (.slc 3 (.tmp 43) (some (.const (.int .i64 1))) none none),
 .mk none none (.store 1 (.tmp 8) (.tmp 44))]
 [2,5,7,8,9,11])
 (.seq
 (.region
 [oq 45 (.fld 3 (.tmp 2)),
 oq 46 (.load false 1 (.tmp 45)),
 oq 47 (.fld 0 (.tmp 11)),
 oq 48 (.load false 1 (.tmp 47)),
 oq 49 (.idx 2 (.tmp 46) (.tmp 48)),
 oq 50 (.load true 2 (.tmp 49)),
 .mk (some 12) none
 (.alloc true 37 (.agg (Array.mk [.int .i64 0,.slice none 0 0]))),
 .mk none none (.store 2 (.tmp 12) (.tmp 50))]
 [2,5,7,8,9,11,12])
 (.seq
 (.seq
 (.region
 [oq 51 (.fld 1 (.tmp 11)),
 oq 52 (.load false 1 (.tmp 51)),
 oq 53 (.fld 1 (.tmp 12)),
 oq 54 (.load false 1 (.tmp 53)),
 oq 55 (.len false (.tmp 54)),
 oq 56 (.ibin .eql (.tmp 52) (.tmp 55))]
 [2,5,7,8,9,11,12,56])
 (.cond (.tmp 56) (.join S114_5 S114_6 [] [2,5,7,8,9]) .skip))
 (.seq
 (.region
 [oq 127 (.fld 1 (.tmp 12)),
 oq 128 (.load false 1 (.tmp 127)),
 oq 129 (.fld 1 (.tmp 11)),
 oq 130 (.load false 1 (.tmp 129)),
 oq 131 (.idx 2 (.tmp 128) (.tmp 130)),
 oq 132 (.load true 2 (.tmp 131)),
 .mk (some 16) none
 (.alloc true 39 (.agg (Array.mk [.bool false,.int .i64 0]))),
 .mk none none (.store 2 (.tmp 16) (.tmp 132))]
 [2,5,7,8,9,11,16])
 (.seq
 (.seq
 (.region
 [oq 133 (.fld 0 (.tmp 16)),
 oq 134 (.load false 1 (.tmp 133))]
 [2,5,7,8,9,11,16,134])
 (.cond (.tmp 134)
 (.seq
 (.region
 [oq 135 (.mv (.tmp 9)),
 oq 136 (.fld 0 (.tmp 11)),
 oq 137 (.load false 1 (.tmp 136)),
 oq 138 (.fld 1 (.tmp 11)),
 oq 139 (.load false 1 (.tmp 138)),
 .mk (some 140) none
 (.ibin .add (.tmp 139) (.const (.int .i64 1))),
 oq 141 (.fld 2 (.tmp 11)),
 oq 142 (.load false 1 (.tmp 141)),
 .mk (some 143) none
 (.ibin .add (.tmp 142) (.const (.int .i64 1))),
 .mk (some 144) none
 (.build 223 [.int .i64 0,.int .i64 0,.int .i64 0]
 [(0,1,.tmp 137),(1,1,.tmp 140),(2,1,.tmp 143)]),
 oq 145 (.call (.tmp 135) [.tmp 144])]
 [2,5,7,8,9])
 (.exit 3))
 .skip))
 (.seq
 (.region
 [oq 146 (.mv (.tmp 5)),
 oq 147 (.fld 1 (.tmp 16)),
 oq 148 (.load false 1 (.tmp 147)),
 oq 149 (.idx 1 (.tmp 146) (.tmp 148)),
 oq 150 (.load false 1 (.tmp 149)),
 oq 151 (.len false (.tmp 150)),
 oq 152 (.mv (.const (.int .i64 0)))]
 [2,5,7,8,9,11,150,151,152])
 (.block 6 (.loop S114_9 [152] [2,5,7,8,9,11,150,151]))))))))))
def S114_0 : Stmt :=
 .seq
 (.region
 [oq 2 (.box true 57 (.tmp 0)),oq 3 (.box false 3 (.tmp 1)),
 oq 4 (.mv (.const (.slice none 0 0)))]
 [2,3])
 (.seq
 (.region
 [oq 19 (.fld 1 (.tmp 2)),oq 20 (.load false 1 (.tmp 19)),
 oq 21 (.load false 1 (.tmp 3)),
 oq 22 (.ibin .add (.tmp 21) (.const (.int .i64 1))),
 oq 23 (.call (.func 151) [.tmp 20,.tmp 22]),
 oq 5 (.mv (.tmp 23))]
 [2,3,5])
 (.seq
 (.region
 [oq 24 (.n (Qk.mkmap 220) []),
 oq 6 (.alloc false 220 (.map none)),
 .mk none none (.store 1 (.tmp 6) (.tmp 24))]
 [2,3,5,6])
 (.seq
 (.region
 [oq 7 (.alloc false 221 (.slice none 0 0)),
 oq 8 (.alloc false 221 (.slice none 0 0))]
 [2,3,5,6,7,8])
 (.seq
 (.region
 [oq 25 (.mkFunc 173 [.tmp 3,.tmp 6,.tmp 7,.tmp 8]),
 oq 9 (.mv (.tmp 25))]
 [2,5,7,8,9])
 (.seq
 (.seq
 (.region
 [oq 26 (.fld 3 (.tmp 2)),
 oq 27 (.load false 1 (.tmp 26)),
 oq 28 (.len false (.tmp 27)),
 oq 29 (.mv (.const (.int .i64 0)))]
 [2,5,7,8,9,28,29])
 (.block 0 (.loop S114_1 [29] [2,5,7,8,9,28])))
 (.seq (.block 2 (.loop S114_10 [8] [2,5,7,9]))
 (.seq
 (.region
 [oq 171 (.mv (.tmp 5)),oq 4 (.mv (.tmp 171))]
 [4])
 .ret)))))))
def S114 : FnS := ⟨172,[(4,none)],S114_0⟩
theorem tr114 : trFn Try.prog 114 [2,11,12,14,16] [[2,3],[2,3,5],[2,3,5,6],[2,3,5,6,7,8],[2,5,7,8,9],[2,5,7,8,9,28,29],[29],[2,5,7,8,9,28],[2,5,7,8,9,28,29,30],[2,5,7,8,9,10,28,29],[2,5,7,8,9,28,29],[2,5,7,8,9,28,29],[8],[2,5,7,9],[2,5,7,8,9,39],[2,5,7,8,9,11],[2,5,7,8,9,11],[2,5,7,8,9,11,12],[2,5,7,8,9,11,12,56],[],[2,5,7,8,9],[2,5,7,8,9,11,12,66],[2,5,7,8,9,11,12],[0,1,2,3,4,5,6,7,8],[],[],[],[1],[0,1,2],[0,1,2,3],[],[5],[0,1,2,3,4,5,6],[0,1,2,3,4,5,6,7],[2,5,7,8,9,11,12,75,76,77],[77],[2,5,7,8,9,11,12,75,76],[2,5,7,8,9,11,12,75,76,77,78],[],[2,5,7,8,9,11,12,75,76,77],[2,5,7,8,9,11,12,14,75,76,77],[2,5,7,8,9,11,12,14,15,75,76,77],[2,5,7,8,9,11,12,14,75,76,77,112],[2,5,7,8,9,11,12,75,76,77],[2,5,7,8,9,11,12,75,76,77],[2,5,7,8,9,11,16],[2,5,7,8,9,11,16,134],[2,5,7,8,9],[2,5,7,8,9,11,150,151,152],[152],[2,5,7,8,9,11,150,151],[2,5,7,8,9,11,150,151,152,153],[],[2,5,7,8,9,11,150,151,152],[2,5,7,8,9,11,17,18,150,151,152],[2,5,7,8,9,11,17,150,151,152,157],[2,5,7,8,9,11,150,151,152],[2,5,7,8,9,11,150,151,152],[4]] = some S114 := by kernel_rfl
/- Lengths of words, item by item: parlref5.lengthsOf walked; no condition. -/
/-- what all was earlier -/
def SnapO (S : Option (Value × List It)) (ra : PH) (va : Value) (all : List It) : Prop := ∀ v0 xs0, S = some (v0, xs0) → Snap ra (lk []) 223 v0 va xs0 all
/-- where the work list, what was seen and what is told lie -/
def WS (S : Option (Value × List It)) (pn pm pa pr bm b3 n : Nat) (gg : PH) (all row : List It) (rows : List (List Bool)) (Γ : Ctx) : Prop := ∃ hm ca ra cr rr cm cn va vr, Γ = [hm, ca, ra, cr, rr, cm, gg, cn] ∧
 MapM hm bm itK Value.bool okIt (mset id all) ∧ ca pa = some (.cells [va].toArray 221 (0, 0)) ∧ Bld ra (lk []) 223 va all ∧ cr pr = some (.cells [vr].toArray 221 (0, 0)) ∧ Bld rr (lk []) 223 vr row ∧
 cm pm = some (.cells [.map (some bm)].toArray 220 (0, 0)) ∧ Grid gg b3 22 4 rows ∧ cn pn = some (.cells [.int .i64 n].toArray 3 (0, 0)) ∧ SnapO S ra va all
/-- what holds of the work list -/
structure WI (g : Gr) (n a : Nat) (all row : List It) (rows : List (List Bool)) : Prop where
 nodup : all.Nodup
 snd : ∀ x ∈ all, ItS g n x
 rin : ∀ x ∈ row, x ∈ all
 len : row.length ≤ all.length
 init : ∀ i : Nat, i < g.rs.length → (⟨i, 0, 0⟩ : It) ∈ all
 told : SoundL g rows
 dim : rows.length = a
 wide : ∀ x ∈ rows, x.length = n + 1
 cl : ∀ x ∈ all, x ∈ row ∨ ItC g n rows all x
theorem WI.bound {g : Gr} {n a : Nat} {all row : List It} {rows : List (List Bool)} (V : VG g) (h : WI g n a all row rows) : all.length ≤ 160 * (n + 1) := by
 have hlen := V.len
 refine items_bound h.nodup fun x hx => ?_
 obtain ⟨h1, h2, h3, h4, r, h5, h6, h7⟩ := h.snd x hx
 have h8 := V.right r (List.mem_of_getElem? h5)
 have h9 := (List.getElem?_eq_some_iff.1 h5).1
 omega
/-- the same while an item is worked on: that one is exempt -/
structure WJ (g : Gr) (n a c : Nat) (x : It) (all row : List It) (rows : List (List Bool)) : Prop where
 nodup : all.Nodup
 snd : ∀ x ∈ all, ItS g n x
 rin : ∀ x ∈ row, x ∈ all
 len : all.length = row.length + c
 init : ∀ i : Nat, i < g.rs.length → (⟨i, 0, 0⟩ : It) ∈ all
 told : SoundL g rows
 dim : rows.length = a
 wide : ∀ x ∈ rows, x.length = n + 1
 cl : ∀ y ∈ all, y ∈ row ∨ y = x ∨ ItC g n rows all y
theorem WJ.bound {g : Gr} {n a c : Nat} {x : It} {all row : List It} {rows : List (List Bool)} (V : VG g) (h : WJ g n a c x all row rows) : all.length ≤ 160 * (n + 1) := by
 have hlen := V.len
 refine items_bound h.nodup fun x hx => ?_
 obtain ⟨h1, h2, h3, h4, r, h5, h6, h7⟩ := h.snd x hx
 have h8 := V.right r (List.mem_of_getElem? h5)
 have h9 := (List.getElem?_eq_some_iff.1 h5).1
 omega
theorem ItC.mono {g : Gr} {n : Nat} {rows : List (List Bool)} {all all' : List It} {x : It} (h : ItC g n rows all x) (hs : ∀ y ∈ all, y ∈ all') : ItC g n rows all' x := fun r hr =>
 ⟨(h r hr).1, fun s hs' => ⟨fun h1 h2 => hs _ (((h r hr).2 s hs').1 h1 h2), fun h1 k h2 h3 => hs _ (((h r hr).2 s hs').2 h1 k h2 h3)⟩⟩
def addA (n : Nat) (all : List It) (y : It) : List It := if y.n ≤ n ∧ y ∉ all then all ++ [y] else all
def addR (n : Nat) (all row : List It) (y : It) : List It := if y.n ≤ n ∧ y ∉ all then row ++ [y] else row
theorem addA_sub {n : Nat} {all : List It} {y : It} : ∀ z ∈ all, z ∈ addA n all y := fun z hz => by unfold addA; split <;> simp [hz]
theorem addA_in {n : Nat} {all : List It} {y : It} (h : y.n ≤ n) : y ∈ addA n all y := by
 unfold addA
 by_cases hy : y ∈ all
 ·rw [if_neg (by simp [hy])]; exact hy
 ·rw [if_pos ⟨h, hy⟩]; simp
theorem WJ.add {g : Gr} {n a c : Nat} {x : It} {all row : List It} {rows : List (List Bool)} (h : WJ g n a c x all row rows) {y : It} (hy : y.n ≤ n → ItS g n y) : WJ g n a c x (addA n all y) (addR n all row y) rows := by
 have hsub := addA_sub (n := n) (all := all) (y := y)
 by_cases hc : y.n ≤ n ∧ y ∉ all
 ·have e1 : addA n all y = all ++ [y] := if_pos hc
  have e2 : addR n all row y = row ++ [y] := if_pos hc
  rw [e1] at hsub
  rw [e1, e2]
  refine ⟨?_, ?_, ?_, by simp [h.len]; omega, fun i hi => hsub _ (h.init i hi), h.told, h.dim, h.wide, ?_⟩
  ·rw [List.nodup_append]
   refine ⟨h.nodup, by simp, ?_⟩
   rintro z hz w hw rfl
   simp at hw
   subst hw
   exact hc.2 hz
  ·intro z hz
   simp at hz
   rcases hz with hz | rfl
   ·exact h.snd z hz
   ·exact hy hc.1
  ·intro z hz
   simp at hz ⊢
   rcases hz with hz | rfl
   ·exact .inl (h.rin z hz)
   ·exact .inr rfl
  ·intro z hz
   simp at hz
   rcases hz with hz | rfl
   ·rcases h.cl z hz with q | q | q
    ·exact .inl (by simp [q])
    ·exact .inr (.inl q)
    ·exact .inr (.inr (q.mono hsub))
   ·exact .inl (by simp)
 ·have e1 : addA n all y = all := if_neg hc
  have e2 : addR n all row y = row := if_neg hc
  rw [e1, e2]
  exact h
/-- the item is done -/
theorem WJ.done {g : Gr} {n a c : Nat} {x : It} {all row : List It} {rows : List (List Bool)} (h : WJ g n a c x all row rows) (hx : ItC g n rows all x) : WI g n a all row rows :=
 ⟨h.nodup, h.snd, h.rin, by have := h.len; omega, h.init, h.told, h.dim, h.wide, fun y hy => by
  rcases h.cl y hy with q | rfl | q
  ·exact .inl q
  ·exact .inr hx
  ·exact .inr q⟩
theorem call_add {Γr : Ctx} {S : Option (Value × List It)} {pn pm pa pr bm b3 n : Nat} {gg : PH} {all row : List It} {rows : List (List Bool)} {Γ : Ctx} {k : Value → Ctx → Prop} (h : WS S pn pm pa pr bm b3 n gg all row rows Γ) (x : It) (hx : okIt x) (hal : all.length ≤ 1000000) (hrl : row.length ≤ 1000000)
  (hk : ∀ v Γ', WS S pn pm pa pr bm b3 n gg (if x.n ≤ n ∧ x ∉ all then all ++ [x] else all) (if x.n ≤ n ∧ x ∉ all then row ++ [x] else row) rows Γ' → k v Γ') :
  CallVC Try.prog Γr 173 [.agg #[.int .i64 x.r, .int .i64 x.d, .int .i64 x.n], .pointer (some ⟨pn, 0, none⟩), .pointer (some ⟨pm, 0, none⟩), .pointer (some ⟨pa, 0, none⟩), .pointer (some ⟨pr, 0, none⟩)] Γ k := by
 obtain ⟨hm, ca, ra, cr, rr, cm, cn, va, vr, rfl, hM, hca, hra, hcr, hrr, hcm, hG, hcn, hsn⟩ := h
 refine CallVC.perm (Γm := [hm, ca, ra, cr, rr]) (Γf := [cm, gg, cn]) (lens_add (Γr := [cm, gg, cn] ++ Γr) x hx (n := n) ⟨cn, by simp, hcn⟩ ⟨cm, by simp, hcm⟩ hM hca hra hcr hrr hal hrl) (List.Perm.refl _) (List.Sublist.refl _) ?_
 rintro v Γ' ⟨hm', ca', ra', cr', rr', va', vr', rfl, h1, h2, h3, h4, h5, h6⟩
 exact hk _ _ ⟨hm', ca', ra', cr', rr', cm, cn, va', vr', rfl, h1, h2, h3, h4, h5, hcm, hG, hcn, fun v0 xs0 q => h6 v0 xs0 (hsn v0 xs0 q)⟩
theorem ref_lengths {Γr : Ctx} {g : Gr} {A : Option Addr} {c : Nat} (hx : SlOk (lk Γr) A c g.rs) (V : VG g) (n : Nat) (hn : n ≤ 400) :
  Ret Try.prog 114 [.agg #[.int .i64 g.ts, .int .i64 g.ns, .int .i64 g.st, .slice A g.rs.length c], .int .i64 n] Γr [] (fun v Γ => ∃ g' b rows, Γ = [g'] ∧ v = .slice (some ⟨b, 0, none⟩) g.ns.toNat g.ns.toNat ∧ rows.length = g.ns.toNat ∧ Grid g' b 22 4 rows ∧
   ∀ a : Nat, a < rows.length → Tells n (rows.getD a []) (HasD g a)) := by
 generalize hR : (fun (v : Value) (Γ : Ctx) => ∃ g' b rows, _) = R
 refine ret_of_vc tr114 (Nat.le_of_ble_eq_true rfl) ?_
 have hns := V.ns
 obtain ⟨a, ha⟩ : ∃ a : Nat, g.ns = a := ⟨g.ns.toNat, by omega⟩
 have ha10 : a ≤ 10 := by omega
 rw [ha]
 simp -implicitDefEqProofs only [S114, S114_0, go_sem,zA,zB,zC,zD,zE,reduceCtorEq,↓reduceIte,zF,zG,zH,zI]
 intro b1 pn
 refine s_ld0 cells_one (by simp) (by simp) ?_
 simp -implicitDefEqProofs only [go_sem,zA,zB,zC,zD,zE,reduceCtorEq,↓reduceIte,zF,zG,zH,zI]
 rw [wrap_id (x := (n : Int) + 1) (by omega) (by omega), show (n : Int) + 1 = ((n + 1 : Nat) : Int) by omega]
 refine CallVC.read (grid_bool a (n + 1) (by omega) (by omega)) ?_
 rintro v Γ' ⟨g1, b3, rfl, rfl, hG⟩
 simp -implicitDefEqProofs only [go_sem,zA,zB,zC,zD,zE,reduceCtorEq,↓reduceIte,zF,zG,zH,zI]
 refine s_mkmap fun bm => ?_
 simp -implicitDefEqProofs only [go_sem,zA,zB,zC,zD,zE,reduceCtorEq,↓reduceIte,zF,zG,zH,zI]
 intro pm
 refine s_storeV (ix := 0) rfl (one_self _ _) rfl rfl ?_
 simp -implicitDefEqProofs only [go_sem,zA,zB,zC,zD,zE,reduceCtorEq,↓reduceIte,zF,zG,zH,zI]
 intro pa pr
 refine s_loop (fun f vs Γ => ∃ k : Nat, vs = [.v true (.int .i64 k)] ∧ k + f = g.rs.length ∧ ∃ (l : List It) (gg : PH), l = (List.range k).map (fun i : Nat => (⟨i, 0, 0⟩ : It)) ∧ WS none pn pm pa pr bm b3 n gg l l (List.replicate a (List.replicate (n + 1) false)) Γ) g.rs.length
  (Up.sel [[3], [1], [], [0], [], [2], [4], [5]] (by decide) fun _ _ => ⟨0, rfl, by omega, [], _, rfl, _, _, _, _, _, _, _, _, _, rfl, MapM.new _ _ _ _, ?_, Bld.nil _ _ _, ?_, Bld.nil _ _ _, ?_, ?_, ?_, by intro _ _ h; cases h⟩) ?_
 ·exact one_self _ _
 ·exact one_self _ _
 ·exact upd_self _ _ _
 ·exact hG
 ·exact one_self _ _
 rintro f vs Γ ⟨k, rfl, hkf, l, gg, hl, hW⟩
 have hlen := V.len
 have hll : l.length = k := by rw [hl]; simp
 simp -implicitDefEqProofs only [S114_1, go_sem,zA,zB,zC,zD,zE,reduceCtorEq,↓reduceIte,zF,zG,zH,zI]
 refine ⟨fun hlt => ?_, fun hge => ?_⟩
 ·have hk : k < g.rs.length := by omega
  refine call_add hW ⟨k, 0, 0⟩ ⟨rfl, fun x hx => ?_⟩ (by omega) (by omega) ?_
  ·simp at hx
   rcases hx with rfl | rfl <;> exact wf64 (by omega) (by omega)
  ·intro v Γ' hW'
   have hno : (⟨k, 0, 0⟩ : It) ∉ l := by
    rw [hl]
    simp
    omega
   rw [if_pos ⟨by simp, hno⟩] at hW'
   simp -implicitDefEqProofs only [go_sem,zA,zB,zC,zD,zE,reduceCtorEq,↓reduceIte,zF,zG,zH,zI]
   simp (disch := omega) only [wrap_id]
   exact ⟨f - 1, by omega, Up.here ⟨k + 1, rfl, by omega, l ++ [⟨k, 0, 0⟩], gg, by rw [hl, List.range_succ]; simp, hW'⟩⟩
 have hk : k = g.rs.length := by omega
 subst hk
 refine s_loop (fun f vs Γ => ∃ all row rows gg, vs = [.v true (.pointer (some ⟨pr, 0, none⟩))] ∧ f + (all.length - row.length) = 160 * (n + 1) ∧ WS none pn pm pa pr bm b3 n gg all row rows Γ ∧ WI g n a all row rows) (160 * (n + 1))
  (Up.here ⟨l, l, _, gg, rfl, by omega, hW, ⟨?_, ?_, fun x h => h, Nat.le_refl _, ?_, rep_false g _ _, by simp, fun x hx => by rw [List.eq_of_mem_replicate hx]; simp, fun x h => .inl h⟩⟩) ?_
 ·rw [hl, List.Nodup, List.pairwise_map]
  exact List.nodup_range.imp fun h e => h (by simp at e; omega)
 ·intro x hx
  rw [hl] at hx
  obtain ⟨i, hi, rfl⟩ := List.mem_map.1 hx
  have hi : i < g.rs.length := by simpa using hi
  refine ⟨by simp, by simp, by simp, by simp, g.rs[i], by simp [hi], by simp, ?_⟩
  simpa using LenD.nil
 ·intro i hi
  rw [hl]
  exact List.mem_map.2 ⟨i, by simpa using hi, rfl⟩
 rintro f vs Γ ⟨all, row, rows, gg, rfl, hf, hW, hI⟩
 have hbd := hI.bound V
 obtain ⟨hm, ca, ra, cr, rr, cm, cn, va, vr, rfl, hM, hca, hra, hcr, hrr, hcm, hG, hcn, hsn⟩ := id hW
 obtain ⟨A2, c2, rfl⟩ := hrr.val
 simp -implicitDefEqProofs only [S114_10, go_sem,zA,zB,zC,zD,zE,reduceCtorEq,↓reduceIte,zF,zG,zH,zI]
 refine s_ld0 (cells_lk ⟨cr, by simp, hcr⟩) (by simp) (by simp) ?_
 simp -implicitDefEqProofs only [go_sem,zA,zB,zC,zD,zE,reduceCtorEq,↓reduceIte,zF,zG,zH,zI]
 refine ⟨fun hpos => ?_, fun hz => ?_⟩
 ·obtain ⟨x, row', rfl⟩ : ∃ x row', row = x :: row' := by
   cases row with
   | nil => simp at hpos
   | cons x row' => exact ⟨x, row', rfl⟩
  have hsl : SlOk (lk [rr]) A2 c2 (x :: row') := by
   obtain ⟨A', c', e, h⟩ := hrr.slok (L' := lk [rr]) (Mem.le.refl _) (lk_sub (by simp)) (by have := hI.len; omega)
   simp only [Value.slice.injEq, true_and] at e
   obtain ⟨rfl, rfl⟩ := e
   exact h
  obtain ⟨b5, o5, hA5, cs5, hok, hc5⟩ := hsl.get (i := 0) (by simp)
  refine s_ld0 (cells_lk ⟨cr, by simp, hcr⟩) (by simp) (by simp) ?_
  simp -implicitDefEqProofs only [go_sem,zA,zB,zC,zD,zE,reduceCtorEq,↓reduceIte,zF,zG,zH,zI]
  refine s_idx hA5 (by omega) (by simp) ?_
  simp -implicitDefEqProofs only [go_sem,zA,zB,zC,zD,zE,reduceCtorEq,↓reduceIte,zF,zG,zH,zI]
  have hcs : cs5 = [.int .i64 x.r, .int .i64 x.d, .int .i64 x.n] := hok
  subst hcs
  have hcell : Cells ([hm, ca, ra, cr, rr, cm, gg, cn] ++ Γr) b5 o5 [.int .i64 x.r, .int .i64 x.d, .int .i64 x.n] := by simpa using hc5 _ (lk_sub (by simp))
  refine s_ld0 hcell (by simp) (by simp) ?_
  simp -implicitDefEqProofs only [go_sem,zA,zB,zC,zD,zE,reduceCtorEq,↓reduceIte,zF,zG,zH,zI]
  intro b6
  refine s_ld0 (cells_lk ⟨cr, by simp, hcr⟩) (by simp) (by simp) ?_
  simp -implicitDefEqProofs only [go_sem,zA,zB,zC,zD,zE,reduceCtorEq,↓reduceIte,zF,zG,zH,zI]
  refine s_lo 1 (by simp -implicitDefEqProofs only [go_sem,zA,zB,zC,zD,zE,reduceCtorEq,↓reduceIte,zF,zG,zH,zI]; exact ⟨_, rfl⟩) (by simp) (by simpa using hsl.cap) ?_
  intro A7 hA7
  have hdr := hrr.drop (k := 1) (by simp)
  rw [show (if c2 = 1 then A2 else A2.map (·.add (1 * Rep.sz It))) = A7 from hA7.symm] at hdr
  simp -implicitDefEqProofs only [go_sem,zA,zB,zC,zD,zE,reduceCtorEq,↓reduceIte,zF,zG,zH,zI]
  refine s_storeV (ix := 3) rfl hcr rfl rfl ?_
  simp -implicitDefEqProofs only [go_sem,zA,zB,zC,zD,zE,reduceCtorEq,↓reduceIte,zF,zG,zH,zI]
  have hW1 : WS none pn pm pa pr bm b3 n gg all row' rows [hm, ca, ra, upd cr pr (.cells [.slice A7 (row'.length + 1 - 1) (c2 - 1)].toArray 221), rr, cm, gg, cn] :=
   ⟨hm, ca, ra, _, rr, cm, cn, _, _, rfl, hM, hca, hra, upd_self _ _ _, hdr, hcm, hG, hcn, hsn⟩
  have hxin : x ∈ all := hI.rin x (by simp)
  obtain ⟨hx1, hx2, hx3, hx4, r, hxr, hxd, hxl⟩ := hI.snd x hxin
  obtain ⟨ri, hri⟩ : ∃ ri : Nat, x.r = ri := ⟨x.r.toNat, by omega⟩
  obtain ⟨di, hdi⟩ : ∃ di : Nat, x.d = di := ⟨x.d.toNat, by omega⟩
  obtain ⟨ni, hni⟩ : ∃ ni : Nat, x.n = ni := ⟨x.n.toNat, by omega⟩
  rw [hri, Int.toNat_natCast] at hxr
  rw [hdi, Int.toNat_natCast] at hxd hxl
  rw [hni, Int.toNat_natCast] at hxl
  have hrig : ri < g.rs.length := (List.getElem?_eq_some_iff.1 hxr).1
  have hre : g.rs[ri] = r := (List.getElem?_eq_some_iff.1 hxr).2
  obtain ⟨b7, o7, hA8, A8, c8, hr8, hc8⟩ := hx.ru hrig
  rw [hre] at hr8 hc8
  generalize [hm, ca, ra, upd cr pr (.cells [.slice A7 (row'.length + 1 - 1) (c2 - 1)].toArray 221), rr, cm, gg, cn] = Γ1 at hW1 ⊢
  rw [hri, hdi, hni]
  refine s_idx hA8 (by omega) (by omega) ?_
  simp -implicitDefEqProofs only [go_sem,zA,zB,zC,zD,zE,reduceCtorEq,↓reduceIte,zF,zG,zH,zI]
  refine s_ld0 (hc8 _ (lk_r _ _)) (by simp) (by simp) ?_
  simp -implicitDefEqProofs only [go_sem,zA,zB,zC,zD,zE,reduceCtorEq,↓reduceIte,zF,zG,zH,zI]
  intro b8
  refine ⟨fun hend => ?_, fun hnend => ?_⟩
  ·have hdl : di = r.r.length := by omega
   subst hdl
   have hlr := hI.len
   simp only [List.length_cons] at hlr hf
   have hrm : r ∈ g.rs := List.mem_of_getElem? hxr
   have hr4 := V.right r hrm
   have hlf := V.left r hrm
   have hhas : HasD g r.l ni := ⟨r, hrm, rfl, by simpa using hxl⟩
   have hJ : WJ g n a (all.length - row'.length) x all row' rows := ⟨hI.nodup, hI.snd, fun z hz => hI.rin z (by simp [hz]), by omega, hI.init, hI.told, hI.dim, hI.wide, fun z hz => by
    rcases hI.cl z hz with q | q
    ·simp at q
     rcases q with rfl | q
     ·exact .inr (.inl rfl)
     ·exact .inl q
    ·exact .inr (.inr q)⟩
   obtain ⟨sn, hsn⟩ : ∃ sn : Nat, r.l = sn := ⟨r.l.toNat, by omega⟩
   have hsa : sn < rows.length := by rw [hI.dim]; omega
   have hwd : rows[sn].length = n + 1 := hI.wide _ (List.getElem_mem hsa)
   have hni1 : ni < rows[sn].length := by omega
   obtain ⟨kb, hcell, hArr, hput⟩ := hG.at' hsa (by omega)
   have hggin : ∀ {S al rw' rows Γ}, WS S pn pm pa pr bm b3 n gg al rw' rows Γ → gg ∈ Γ := fun h => by
    obtain ⟨hm, ca, ra, cr, rr, cm, cn, va, vr, rfl, _⟩ := h
    simp
   rw [hsn]
   refine s_split ?_
   simp -implicitDefEqProofs only [S114_5, S114_6, go_sem,zA,zB,zC,zD,zE,reduceCtorEq,↓reduceIte,zF,zG,zH,zI]
   refine s_idx rfl (by omega) (by have := hI.dim; omega) ?_
   simp -implicitDefEqProofs only [go_sem,zA,zB,zC,zD,zE,reduceCtorEq,↓reduceIte,zF,zG,zH,zI]
   refine s_ld0 (hcell _ (by simp [hggin hW1])) (by simp) (by simp) ?_
   simp -implicitDefEqProofs only [go_sem,zA,zB,zC,zD,zE,reduceCtorEq,↓reduceIte,zF,zG,zH,zI]
   refine s_idx rfl (by omega) (by omega) ?_
   simp -implicitDefEqProofs only [go_sem,zA,zB,zC,zD,zE,reduceCtorEq,↓reduceIte,zF,zG,zH,zI]
   refine s_ld0 (hArr.bool hni1 (by simp [hggin hW1])) (by simp) (by simp) ?_
   simp -implicitDefEqProofs only [go_sem,zA,zB,zC,zD,zE,reduceCtorEq,↓reduceIte,zF,zG,zH,zI]
   refine ⟨fun hno => ?_, fun hyes => ?_⟩
   ·refine s_idx rfl (by omega) (by have := hI.dim; omega) ?_
    simp -implicitDefEqProofs only [go_sem,zA,zB,zC,zD,zE,reduceCtorEq,↓reduceIte,zF,zG,zH,zI]
    refine s_ld0 (hcell _ (by simp [hggin hW1])) (by simp) (by simp) ?_
    simp -implicitDefEqProofs only [go_sem,zA,zB,zC,zD,zE,reduceCtorEq,↓reduceIte,zF,zG,zH,zI]
    refine s_idx rfl (by omega) (by omega) ?_
    simp -implicitDefEqProofs only [go_sem,zA,zB,zC,zD,zE,reduceCtorEq,↓reduceIte,zF,zG,zH,zI]
    obtain ⟨hm, ca, ra, cr, rr, cm, cn, va, vr, rfl, hM, hca, hra, hcr, hrr, hcm, hG1, hcn, _⟩ := hW1
    obtain ⟨Aa, caa, rfl⟩ := hra.val
    refine s_storeA (ix := 6) true rfl hArr hni1 ?_
    intro g9 hA9 ho9
    have hG9 := hput g9 _ hA9 (by simp) ho9
    simp -implicitDefEqProofs only [go_sem,zA,zB,zC,zD,zE,reduceCtorEq,↓reduceIte,zF,zG,zH,zI]
    refine s_ld0 (cells_lk ⟨ca, by simp, hca⟩) (by simp) (by simp) ?_
    simp -implicitDefEqProofs only [go_sem,zA,zB,zC,zD,zE,reduceCtorEq,↓reduceIte,zF,zG,zH,zI]
    refine s_loop (fun f2 vs Γ => ∃ (all2 row2 : List It) (k : Nat), vs = [.v true (.int .i64 k)] ∧ k + f2 = all.length ∧ WS (some (.slice Aa all.length caa, all)) pn pm pa pr bm b3 n g9 all2 row2 (rows.set sn (rows[sn].set ni true)) Γ ∧ WJ g n a (all.length - row'.length) x all2 row2 rows ∧ (∀ y ∈ all2, y ∈ all ∨ y ∈ row2) ∧
     (∀ (j : Nat) (hj : j < all.length), j < k → ∀ q, g.rs[all[j].r.toNat]? = some q → ∀ s, q.r[all[j].d.toNat]? = some s → s.t = false → s.n = sn → all[j].n + ni ≤ n → (⟨all[j].r, all[j].d + 1, all[j].n + ni⟩ : It) ∈ all2)) all.length
     (Up.here ⟨all, row', 0, rfl, by omega, ⟨hm, ca, ra, cr, rr, cm, cn, _, _, rfl, hM, hca, hra, hcr, hrr, hcm, hG9, hcn, fun v0 xs0 e => ?_⟩, hJ, fun y hy => .inl hy, by intro j _ h; omega⟩) ?_
    ·simp only [Option.some.injEq, Prod.mk.injEq] at e
     obtain ⟨rfl, rfl⟩ := e
     exact Snap.refl hra
    rintro f2 vs Γ ⟨all2, row2, k, rfl, hkf2, hW2, hJ2, hfrom, hdone⟩
    simp -implicitDefEqProofs only [S114_4, go_sem,zA,zB,zC,zD,zE,reduceCtorEq,↓reduceIte,zF,zG,zH,zI]
    refine ⟨fun hlt => ?_, fun hge => ?_⟩
    ·refine s_split ?_
     simp -implicitDefEqProofs only [S114_2, S114_3, go_sem,zA,zB,zC,zD,zE,reduceCtorEq,↓reduceIte,zF,zG,zH,zI]
     have hk : k < all.length := by omega
     have hslG : SlOk (lk Γ) Aa caa all := by
      obtain ⟨hm, ca, ra, cr, rr, cm, cn, va, vr, rfl, _, _, _, _, _, _, _, _, hsn2⟩ := hW2
      obtain ⟨A', c', e, h⟩ := (hsn2 _ _ rfl).old.slok (L' := lk [hm, ca, ra, cr, rr, cm, g9, cn]) (lk_sub (by simp)) (lk_sub (by simp)) (by omega)
      simp only [Value.slice.injEq, true_and] at e
      obtain ⟨rfl, rfl⟩ := e
      exact h
     obtain ⟨b9, o9, hA9', cs9, hok9, hc9⟩ := hslG.get hk
     have hcs9 : cs9 = [.int .i64 all[k].r, .int .i64 all[k].d, .int .i64 all[k].n] := hok9
     subst hcs9
     refine s_idx hA9' (by omega) (by omega) ?_
     simp -implicitDefEqProofs only [go_sem,zA,zB,zC,zD,zE,reduceCtorEq,↓reduceIte,zF,zG,zH,zI]
     refine s_ld0 (hc9 _ (lk_l _ _)) (by simp) (by simp) ?_
     simp -implicitDefEqProofs only [go_sem,zA,zB,zC,zD,zE,reduceCtorEq,↓reduceIte,zF,zG,zH,zI]
     intro b11
     obtain ⟨hy1, hy2, hy3, hy4, q, hyq, hyd, hyl⟩ := hI.snd _ (List.getElem_mem hk)
     have hstep : ∀ all3 : List It, (∀ z ∈ all2, z ∈ all3) → (∀ q, g.rs[all[k].r.toNat]? = some q → ∀ s, q.r[all[k].d.toNat]? = some s → s.t = false → s.n = sn → all[k].n + ni ≤ n → (⟨all[k].r, all[k].d + 1, all[k].n + ni⟩ : It) ∈ all3) →
       ∀ (j : Nat) (hj : j < all.length), j < k + 1 → ∀ q, g.rs[all[j].r.toNat]? = some q → ∀ s, q.r[all[j].d.toNat]? = some s → s.t = false → s.n = sn → all[j].n + ni ≤ n → (⟨all[j].r, all[j].d + 1, all[j].n + ni⟩ : It) ∈ all3 := by
      intro all3 h1 h2 j hj hjk
      by_cases e : j = k
      ·subst e; exact h2
      ·intro q' a1 s a2 a3 a4 a5; exact h1 _ (hdone j hj (by omega) q' a1 s a2 a3 a4 a5)
     generalize all[k] = y at *
     obtain ⟨yr, hyr⟩ : ∃ m : Nat, y.r = m := ⟨y.r.toNat, by omega⟩
     obtain ⟨yd, hydd⟩ : ∃ m : Nat, y.d = m := ⟨y.d.toNat, by omega⟩
     obtain ⟨yn, hyn⟩ : ∃ m : Nat, y.n = m := ⟨y.n.toNat, by omega⟩
     rw [hyr, Int.toNat_natCast] at hyq
     rw [hydd, Int.toNat_natCast] at hyd hyl
     rw [hyn, Int.toNat_natCast] at hyl
     rw [hyr, hydd, hyn] at hstep
     simp only [Int.toNat_natCast] at hstep
     have hyrg : yr < g.rs.length := (List.getElem?_eq_some_iff.1 hyq).1
     have hqe : g.rs[yr] = q := (List.getElem?_eq_some_iff.1 hyq).2
     have hqm : q ∈ g.rs := List.mem_of_getElem? hyq
     have hq4 := V.right q hqm
     obtain ⟨b12, o12, hA12, A12, c12, hr12, hc12⟩ := hx.ru hyrg
     rw [hqe] at hr12 hc12
     rw [hyr, hydd, hyn]
     refine s_idx hA12 (by omega) (by omega) ?_
     simp -implicitDefEqProofs only [go_sem,zA,zB,zC,zD,zE,reduceCtorEq,↓reduceIte,zF,zG,zH,zI]
     refine s_ld (j := 1) (hc12 _ (lk_r _ _)) (by simp) (by simp) ?_
     simp -implicitDefEqProofs only [go_sem,zA,zB,zC,zD,zE,reduceCtorEq,↓reduceIte,zF,zG,zH,zI]
     by_cases hlt2 : yd < q.r.length
     ·have e1 : decide ((yd : Int) < (q.r.length : Int)) = true := by simpa using hlt2
      simp only [e1]
      simp -implicitDefEqProofs only [go_sem,zA,zB,zC,zD,zE,reduceCtorEq,↓reduceIte,zF,zG,zH,zI]
      obtain ⟨b13, o13, hA13, hc13⟩ := hr12.sy hlt2
      refine s_idx hA13 (by omega) (by omega) ?_
      simp -implicitDefEqProofs only [go_sem,zA,zB,zC,zD,zE,reduceCtorEq,↓reduceIte,zF,zG,zH,zI]
      refine s_ld0 (hc13 _ (lk_r _ _)) (by simp) (by simp) ?_
      cases ht : q.r[yd].t with
      | true =>
       simp -implicitDefEqProofs only [go_sem,zA,zB,zC,zD,zE,reduceCtorEq,↓reduceIte,zF,zG,zH,zI]
       refine s_idxg (b := 0) (o := 0) (by simp) ?_
       simp -implicitDefEqProofs only [go_sem,zA,zB,zC,zD,zE,reduceCtorEq,↓reduceIte,zF,zG,zH,zI]
       refine s_ldg0 (cs := [.int .i64 0]) (by simp) (by simp) (by simp) (by simp) ?_
       simp -implicitDefEqProofs only [go_sem,zA,zB,zC,zD,zE,reduceCtorEq,↓reduceIte,zF,zG,zH,zI]
       simp (disch := omega) only [wrap_id]
       refine Up.here ⟨f2 - 1, by omega, Up.here ⟨all2, row2, k + 1, rfl, by omega, hW2, hJ2, hfrom, hstep all2 (fun z hz => hz) fun q' hq' s hs1 hs2 hs3 => ?_⟩⟩
       rw [hyq] at hq'
       cases hq'
       rw [List.getElem?_eq_getElem hlt2] at hs1
       cases hs1
       rw [ht] at hs2
       cases hs2
      | false =>
       simp -implicitDefEqProofs only [go_sem,zA,zB,zC,zD,zE,reduceCtorEq,↓reduceIte,zF,zG,zH,zI]
       refine s_idx hA13 (by omega) (by omega) ?_
       simp -implicitDefEqProofs only [go_sem,zA,zB,zC,zD,zE,reduceCtorEq,↓reduceIte,zF,zG,zH,zI]
       refine s_ld (j := 1) (hc13 _ (lk_r _ _)) (by simp) (by simp) ?_
       simp -implicitDefEqProofs only [go_sem,zA,zB,zC,zD,zE,reduceCtorEq,↓reduceIte,zF,zG,zH,zI]
       refine ⟨fun heq => ?_, fun hne => ?_⟩
       ·have hb2 := hJ2.bound V
        have hl2 := hJ2.len
        simp (disch := omega) only [wrap_id]
        refine call_add hW2 ⟨yr, (yd : Int) + 1, (yn : Int) + ni⟩ ⟨rfl, fun z hz => ?_⟩ (by omega) (by omega) ?_
        ·simp at hz
         rcases hz with rfl | rfl | rfl <;> exact wf64 (by omega) (by omega)
        ·intro v Γ' hW'
         have hadd := hJ2.add (y := ⟨yr, (yd : Int) + 1, (yn : Int) + ni⟩) (fun hle => by
          refine ⟨by simp, by simp; omega, by simp; omega, hle, q, by simpa using hyq, by simp; omega, ?_⟩
          have := hyl.snocN (a := q.r[yd].n) (j := ni) (by rw [heq, ← hsn]; exact hhas)
          have e : q.r[yd] = ⟨false, q.r[yd].n⟩ := by rw [← ht]
          rw [← e, ← List.take_succ_eq_append_getElem hlt2] at this
          rw [show ((yn : Int) + ni).toNat = yn + ni by omega]
          simpa using this)
         simp -implicitDefEqProofs only [go_sem,zA,zB,zC,zD,zE,reduceCtorEq,↓reduceIte,zF,zG,zH,zI]
         refine Up.here ⟨f2 - 1, by omega, Up.here ⟨_, _, k + 1, rfl, by omega, hW', hadd, fun z hz => ?_, hstep _ addA_sub fun q' hq' s hs1 hs2 hs3 hle => addA_in hle⟩⟩
         unfold addA at hz
         by_cases hc : (yn : Int) + ni ≤ n ∧ (⟨yr, (yd : Int) + 1, (yn : Int) + ni⟩ : It) ∉ all2
         ·rw [if_pos hc] at hz ⊢
          rcases List.mem_append.1 hz with hz | hz
          ·rcases hfrom z hz with q1 | q1
           ·exact .inl q1
           ·exact .inr (by simp [q1])
          ·exact .inr (by simp at hz; simp [hz])
         ·rw [if_neg hc] at hz ⊢
          exact hfrom z hz
       ·simp (disch := omega) only [wrap_id]
        refine Up.here ⟨f2 - 1, by omega, Up.here ⟨all2, row2, k + 1, rfl, by omega, hW2, hJ2, hfrom, hstep all2 (fun z hz => hz) fun q' hq' s hs1 hs2 hs3 => ?_⟩⟩
        rw [hyq] at hq'
        cases hq'
        rw [List.getElem?_eq_getElem hlt2] at hs1
        cases hs1
        exact absurd hs3 hne
     ·have e1 : decide ((yd : Int) < (q.r.length : Int)) = false := by simpa using hlt2
      simp only [e1]
      simp -implicitDefEqProofs only [go_sem,zA,zB,zC,zD,zE,reduceCtorEq,↓reduceIte,zF,zG,zH,zI]
      refine s_idxg (b := 0) (o := 0) (by simp) ?_
      simp -implicitDefEqProofs only [go_sem,zA,zB,zC,zD,zE,reduceCtorEq,↓reduceIte,zF,zG,zH,zI]
      refine s_ldg0 (cs := [.bool false]) (by simp) (by simp) (by simp) (by simp) ?_
      simp -implicitDefEqProofs only [go_sem,zA,zB,zC,zD,zE,reduceCtorEq,↓reduceIte,zF,zG,zH,zI]
      refine s_idxg (b := 0) (o := 0) (by simp) ?_
      simp -implicitDefEqProofs only [go_sem,zA,zB,zC,zD,zE,reduceCtorEq,↓reduceIte,zF,zG,zH,zI]
      refine s_ldg0 (cs := [.int .i64 0]) (by simp) (by simp) (by simp) (by simp) ?_
      simp -implicitDefEqProofs only [go_sem,zA,zB,zC,zD,zE,reduceCtorEq,↓reduceIte,zF,zG,zH,zI]
      simp (disch := omega) only [wrap_id]
      refine Up.here ⟨f2 - 1, by omega, Up.here ⟨all2, row2, k + 1, rfl, by omega, hW2, hJ2, hfrom, hstep all2 (fun z hz => hz) fun q' hq' s hs1 hs2 hs3 => ?_⟩⟩
      rw [hyq] at hq'
      cases hq'
      rw [List.getElem?_eq_none (by omega)] at hs1
      cases hs1
    ·have hk : k = all.length := by omega
     have hl2 := hJ2.len
     have hW3 : WS none pn pm pa pr bm b3 n g9 all2 row2 (rows.set sn (rows[sn].set ni true)) Γ := by
      obtain ⟨hm, ca, ra, cr, rr, cm, cn, va, vr, q1, q2, q3, q4, q5, q6, q7, q8, q9, _⟩ := hW2
      exact ⟨hm, ca, ra, cr, rr, cm, cn, va, vr, q1, q2, q3, q4, q5, q6, q7, q8, q9, by intro _ _ h; cases h⟩
     have htold : ∀ b j, toldL (rows.set sn (rows[sn].set ni true)) b j → toldL rows b j ∨ (b.toNat = sn ∧ j = ni) := by
      intro b j h
      by_cases e : b.toNat = sn ∧ j = ni
      ·exact .inr e
      ·refine .inl ?_
       unfold toldL at h ⊢
       by_cases e1 : sn = b.toNat
       ·subst e1
        have e2 : ¬ ni = j := fun q => e ⟨rfl, q.symm⟩
        simpa [List.getD_eq_getElem?_getD, hsa, List.getElem?_set, e2] using h
       ·simpa [List.getD_eq_getElem?_getD, List.getElem?_set, e1] using h
     have hup : ∀ b j, toldL rows b j → toldL (rows.set sn (rows[sn].set ni true)) b j := by
      intro b j h
      unfold toldL at h ⊢
      by_cases e1 : sn = b.toNat
      ·subst e1
       by_cases e2 : ni = j
       ·subst e2
        simp [hsa, hni1]
       ·simpa [List.getD_eq_getElem?_getD, hsa, List.getElem?_set, e2] using h
      ·simpa [List.getD_eq_getElem?_getD, List.getElem?_set, e1] using h
     refine Up.here ⟨f - 1, by omega, Up.here ⟨all2, row2, _, g9, by omega, hW3, hJ2.nodup, hJ2.snd, hJ2.rin, by omega, hJ2.init, sound_set hI.told hsa (by rw [← hsn]; exact hhas), by simpa using hI.dim, fun z hz => ?_, fun y hy => ?_⟩⟩
     ·rcases List.mem_or_eq_of_mem_set hz with h | h
      ·exact hI.wide z h
      ·rw [h]; simpa using hwd
     ·rcases hJ2.cl y hy with q | q | q
      ·exact .inl q
      ·refine .inr fun r' hr' => ?_
       have er : r' = r := by rw [q, hri] at hr'; simpa [hxr] using hr'.symm
       subst er
       rw [q, hdi, hni]
       simp only [Int.toNat_natCast]
       refine ⟨fun _ => ?_, fun s hs => ?_⟩
       ·simp [toldL, hsn, hsa, hni1]
       ·rw [List.getElem?_eq_none (by omega)] at hs
        cases hs
      ·rcases hfrom y hy with hya | hya
       ·refine .inr fun r' hr' => ⟨fun h => hup _ _ ((q r' hr').1 h), fun s hs => ⟨((q r' hr').2 s hs).1, fun h1 k' h2 h3 => ?_⟩⟩
        rcases htold _ _ h2 with h4 | ⟨h4, rfl⟩
        ·exact ((q r' hr').2 s hs).2 h1 k' h4 h3
        ·obtain ⟨j, hj, rfl⟩ := List.getElem_of_mem hya
         have hs0 := (V.sym r' (List.mem_of_getElem? hr') s (List.mem_of_getElem? hs)).1
         exact hdone j hj (by omega) r' hr' s hs h1 (by omega) h3
       ·exact .inl hya
   ·refine Up.here ⟨f - 1, by omega, Up.here ⟨all, row', rows, gg, by omega, hW1, hJ.done fun r' hr' => ?_⟩⟩
    have er : r' = r := by rw [hri] at hr'; simpa [hxr] using hr'.symm
    subst er
    rw [hdi, hni]
    simp only [Int.toNat_natCast]
    refine ⟨fun _ => ?_, fun s hs => ?_⟩
    ·simp [toldL, hsn, hsa, hni1, hyes]
    ·rw [List.getElem?_eq_none (by omega)] at hs
     cases hs
  ·have hdl : di < r.r.length := by omega
   obtain ⟨b9, o9, hA9, hc9⟩ := hr8.sy hdl
   refine s_idx hA9 (by omega) (by omega) ?_
   simp -implicitDefEqProofs only [go_sem,zA,zB,zC,zD,zE,reduceCtorEq,↓reduceIte,zF,zG,zH,zI]
   refine s_ld0 (hc9 _ (lk_r _ _)) (by simp) (by simp) ?_
   simp -implicitDefEqProofs only [go_sem,zA,zB,zC,zD,zE,reduceCtorEq,↓reduceIte,zF,zG,zH,zI]
   have hlr := hI.len
   simp only [List.length_cons] at hlr hf
   have hJ : WJ g n a (all.length - row'.length) x all row' rows := ⟨hI.nodup, hI.snd, fun z hz => hI.rin z (by simp [hz]), by omega, hI.init, hI.told, hI.dim, hI.wide, fun z hz => by
    rcases hI.cl z hz with q | q
    ·simp at q
     rcases q with rfl | q
     ·exact .inr (.inl rfl)
     ·exact .inl q
    ·exact .inr (.inr q)⟩
   have hrm : r ∈ g.rs := List.mem_of_getElem? hxr
   have hr4 := V.right r hrm
   intro b10
   simp (disch := omega) only [wrap_id]
   refine ⟨fun ht => ?_, fun ht => ?_⟩
   ·refine call_add hW1 ⟨ri, di + 1, ni + 1⟩ ⟨rfl, fun z hz => ?_⟩ (by omega) (by omega) ?_
    ·simp at hz
     rcases hz with rfl | rfl | rfl <;> exact wf64 (by omega) (by omega)
    ·intro v Γ' hW'
     have hadd := hJ.add (y := ⟨ri, di + 1, ni + 1⟩) (fun hle => by
      refine ⟨by simp, by simp; omega, by simp; omega, hle, r, by simpa using hxr, by simp; omega, ?_⟩
      have := hxl.snocT (n := r.r[di].n)
      have e : r.r[di] = ⟨true, r.r[di].n⟩ := by rw [← ht]
      rw [← e, ← List.take_succ_eq_append_getElem hdl] at this
      simpa using this)
     have hal := hadd.len
     simp -implicitDefEqProofs only [go_sem,zA,zB,zC,zD,zE,reduceCtorEq,↓reduceIte,zF,zG,zH,zI]
     refine ⟨f - 1, by omega, Up.here ⟨_, _, rows, gg, ?_, hW', hadd.done fun r' hr' => ?_⟩⟩
     ·show f - 1 + ((addA n all _).length - (addR n all row' _).length) = _
      omega
     ·have er : r' = r := by rw [hri] at hr'; simpa [hxr] using hr'.symm
      subst er
      rw [hdi, Int.toNat_natCast]
      refine ⟨fun q => by omega, fun s hs => ?_⟩
      have es : s = r'.r[di] := by rw [List.getElem?_eq_getElem hdl] at hs; simpa using hs.symm
      subst es
      refine ⟨fun _ hle => ?_, fun q => by rw [ht] at q; cases q⟩
      rw [hri, hdi, hni] at *
      exact addA_in (by simpa using hle)
   ·have hsy := V.sym r hrm r.r[di] (List.getElem_mem hdl)
    obtain ⟨sn, hsn⟩ : ∃ sn : Nat, r.r[di].n = sn := ⟨r.r[di].n.toNat, by omega⟩
    have hsa : sn < rows.length := by have := hsy.2.2 ht; rw [hI.dim]; omega
    rw [hsn]
    have hwd : rows[sn].length = n + 1 := hI.wide _ (List.getElem_mem hsa)
    obtain ⟨kb, hcell, hArr, _⟩ := hG.at' hsa (by omega)
    have hggin : ∀ {al rw' Γ}, WS none pn pm pa pr bm b3 n gg al rw' rows Γ → gg ∈ Γ := fun h => by
     obtain ⟨hm, ca, ra, cr, rr, cm, cn, va, vr, rfl, _⟩ := h
     simp
    refine s_idx rfl (by omega) (by have := hI.dim; omega) ?_
    simp -implicitDefEqProofs only [go_sem,zA,zB,zC,zD,zE,reduceCtorEq,↓reduceIte,zF,zG,zH,zI]
    refine s_ld0 (hcell _ (by simp [hggin hW1])) (by simp) (by simp) ?_
    simp -implicitDefEqProofs only [go_sem,zA,zB,zC,zD,zE,reduceCtorEq,↓reduceIte,zF,zG,zH,zI]
    refine s_loop (fun f2 vs Γ => ∃ (all2 row2 : List It) (k : Nat), vs = [.v true (.int .i64 k)] ∧ k + f2 = n + 1 ∧ WS none pn pm pa pr bm b3 n gg all2 row2 rows Γ ∧ WJ g n a (all.length - row'.length) x all2 row2 rows ∧
     (∀ k' : Nat, k' < k → toldL rows sn k' → (ni : Int) + k' ≤ n → (⟨ri, di + 1, (ni : Int) + k'⟩ : It) ∈ all2)) (n + 1) (Up.here ⟨all, row', 0, rfl, by omega, hW1, hJ, by intro k' h; omega⟩) ?_
    rintro f2 vs Γ ⟨all2, row2, k, rfl, hkf2, hW2, hJ2, hdone⟩
    simp -implicitDefEqProofs only [S114_9, go_sem,zA,zB,zC,zD,zE,reduceCtorEq,↓reduceIte,zF,zG,zH,zI]
    refine ⟨fun hlt => ?_, fun hge => ?_⟩
    ·refine s_split ?_
     simp -implicitDefEqProofs only [S114_7, S114_8, go_sem,zA,zB,zC,zD,zE,reduceCtorEq,↓reduceIte,zF,zG,zH,zI]
     refine s_idx rfl (by omega) (by omega) ?_
     simp -implicitDefEqProofs only [go_sem,zA,zB,zC,zD,zE,reduceCtorEq,↓reduceIte,zF,zG,zH,zI]
     have hkr : k < rows[sn].length := by omega
     refine s_ld0 (hArr.bool hkr (by simp [hggin hW2])) (by simp) (by simp) ?_
     simp -implicitDefEqProofs only [go_sem,zA,zB,zC,zD,zE,reduceCtorEq,↓reduceIte,zF,zG,zH,zI]
     simp (disch := omega) only [wrap_id]
     refine ⟨fun htl => ?_, fun htl => ?_⟩
     ·have hb2 := hJ2.bound V
      have hl2 := hJ2.len
      refine call_add hW2 ⟨ri, di + 1, (ni : Int) + k⟩ ⟨rfl, fun z hz => ?_⟩ (by omega) (by omega) ?_
      ·simp at hz
       rcases hz with rfl | rfl | rfl <;> exact wf64 (by omega) (by omega)
      ·intro v Γ' hW'
       have hadd := hJ2.add (y := ⟨ri, di + 1, (ni : Int) + k⟩) (fun hle => by
        refine ⟨by simp, by simp; omega, by simp; omega, hle, r, by simpa using hxr, by simp; omega, ?_⟩
        have := hxl.snocN (a := r.r[di].n) (j := k) (by rw [hsn]; exact hJ2.told sn k (by simp [hsa, hkr, htl]))
        have e : r.r[di] = ⟨false, r.r[di].n⟩ := by rw [← ht]
        rw [← e, ← List.take_succ_eq_append_getElem hdl] at this
        rw [show ((ni : Int) + k).toNat = ni + k by omega]
        simpa using this)
       simp -implicitDefEqProofs only [go_sem,zA,zB,zC,zD,zE,reduceCtorEq,↓reduceIte,zF,zG,zH,zI]
       refine Up.here ⟨f2 - 1, by omega, Up.here ⟨_, _, k + 1, rfl, by omega, hW', hadd, fun k' hk' ht' hle => ?_⟩⟩
       by_cases e : k' = k
       ·subst e
        exact addA_in hle
       ·exact addA_sub _ (hdone k' (by omega) ht' hle)
     ·refine Up.here ⟨f2 - 1, by omega, Up.here ⟨all2, row2, k + 1, rfl, by omega, hW2, hJ2, fun k' hk' ht' hle => ?_⟩⟩
      by_cases e : k' = k
      ·subst e
       simp [toldL, hsa, hkr, htl] at ht'
      ·exact hdone k' (by omega) ht' hle
    ·have hl2 := hJ2.len
     refine ⟨f - 1, by omega, Up.here ⟨all2, row2, rows, gg, by omega, hW2, hJ2.done fun r' hr' => ?_⟩⟩
     have er : r' = r := by rw [hri] at hr'; simpa [hxr] using hr'.symm
     subst er
     rw [hdi, Int.toNat_natCast]
     refine ⟨fun q => by omega, fun s hs => ?_⟩
     have es : s = r'.r[di] := by rw [List.getElem?_eq_getElem hdl] at hs; simpa using hs.symm
     subst es
     refine ⟨fun q => (by rw [ht] at q; cases q), fun _ k' htl hle => ?_⟩
     rw [hsn] at htl
     rw [hri, hni] at *
     refine hdone k' ?_ htl hle
     rcases Nat.lt_or_ge k' k with q | q
     ·exact q
     ·have hk1 : k' < n + 1 := by omega
      omega
 ·have hrow : row = [] := List.eq_nil_of_length_eq_zero (by omega)
  subst hrow
  have hcl : ∀ x ∈ all, ItC g n rows all x := fun x hx => (hI.cl x hx).resolve_left (by simp)
  refine Up.sel [[6]] (by decide) fun _ _ => ?_
  subst hR
  have hag : g.ns.toNat = a := by omega
  rw [hag]
  refine ⟨_, b3, rows, rfl, rfl, hI.dim, hG, fun b hb => ?_⟩
  have hw := hI.wide _ (List.getElem_mem hb)
  rw [show rows.getD b [] = rows[b] by simp [hb]]
  refine ⟨hw, fun m hm => ⟨fun h => hI.told b m (by simp [hb, hm, h]), fun h => ?_⟩⟩
  have := work_told hI.init hcl (a := (b : Int)) (k := m) (by omega) h
  simpa [toldL, hb, hm] using this
/- The text of parlance/parlref5.Listed as a statement; no condition. -/
def S102_0 : Stmt :=
 .seq
 (.region
 [oq 4 (.box true 57 (.tmp 0)),
 oq 8 (.mv (.const (.slice none 0 0))),
 oq 9 (.mv (.const (.bool false)))]
 [1,2,3,4])
 (.seq
 (.drawn
 [(true,oq 11 (.load true 4 (.tmp 4))),
 (false,oq 12 (.load true 4 (.tmp 4))),
 (false,oq 13 (.mv (.tmp 1))),
 (false,oq 15 (.mv (.tmp 2))),
 (false,oq 14 (.call (.func 114) [.tmp 12,.tmp 13])),
 (false,
 .mk (some 16) none
 (.build 216
 [.int .i64 0,.int .i64 0,.int .i64 0,.slice none 0 0,
 .slice none 0 0,.int .i64 0]
 [(0,4,.tmp 11),(4,1,.tmp 14),(5,1,.tmp 15)])),
 (false,oq 17 (.box false 216 (.tmp 16))),
 (false,oq 10 (.mv (.tmp 17)))]
 [1,3,4,10])
 (.seq
 (.region
 [oq 18 (.mv (.tmp 10)),oq 19 (.fld 2 (.tmp 4)),
 oq 20 (.load false 1 (.tmp 19)),
 oq 21 (.build 39 [.bool false,.int .i64 0] [(1,1,.tmp 20)]),
 oq 22 (.mv (.tmp 1)),oq 23 (.mv (.tmp 3)),
 .mk (some 24) none
 (.call (.func 167) [.tmp 18,.tmp 21,.tmp 22,.tmp 23]),
 oq 25 (.extract 0 (.tmp 24)),
 oq 26 (.extract 1 (.tmp 24)),oq 8 (.mv (.tmp 25)),
 oq 9 (.mv (.tmp 26))]
 [8,9])
 .ret))
def S102 : FnS := ⟨27,[(8,none),(9,none)],S102_0⟩
theorem tr102 : trFn Try.prog 102 [4] [[1,2,3,4],[1,3,4,10],[0,1,2,4,3,5,6,7],[0],[],[],[],[1,2],[],[0,1,2,3,4],[0,1,2,3,4,5],[0,1,2,3,4,5,6],[8,9]] = some S102 := by kernel_rfl
/- parlref5.Listed walked; no condition. -/
theorem ref_listed {Γr : Ctx} {g : Gr} {R : Option Addr} {cR : Nat} (hx : SlOk (lk Γr) R cR g.rs) (V : VG g) {n most deep : Nat} (hn : n ≤ 400) (hm : most ≤ 1000) (hd : deep ≤ 1000) :
  Ret Try.prog 102 [.agg #[.int .i64 g.ts, .int .i64 g.ns, .int .i64 g.st, .slice R g.rs.length cR], .int .i64 (n : Int), .int .i64 (most : Int), .int .i64 (deep : Int)] Γr [] (TrsQ g ⟨false, g.st⟩ n deep most) := by
 generalize hR : TrsQ g ⟨false, g.st⟩ n deep most = R'
 refine ret_of_vc tr102 (Nat.le_of_ble_eq_true rfl) ?_
 have hst := V.st
 simp -implicitDefEqProofs only [S102, S102_0, go_sem,zA,zB,zC,zD,zE,reduceCtorEq,↓reduceIte,zF,zG,zH,zI]
 intro bg
 refine s_drawn [] [] (Ent.refl _) ?_
 simp -implicitDefEqProofs only [go_sem,zA,zB,zC,zD,zE,reduceCtorEq,↓reduceIte,zF,zG,zH,zI]
 refine CallVC.read (ref_lengths (hx.mono (lk_sub (by simp))) V n hn) ?_
 rintro v Γ' ⟨gc, bc, rows, rfl, rfl, hrl, hG, htell⟩
 simp -implicitDefEqProofs only [go_sem,zA,zB,zC,zD,zE,reduceCtorEq,↓reduceIte,zF,zG,zH,zI]
 intro b
 have hS := hG.slok (L := lk [one b (.cells (lsC g R cR bc most).toArray 216), gc]) (lk_sub (by simp))
 rw [hrl] at hS
 have hB : LsK (lk ([one b (.cells (lsC g R cR bc most).toArray 216), gc] ++ Γr)) b g n R cR bc most rows := ⟨⟨_, List.mem_cons_self .., one_self _ _⟩, hx.mono (lk_r _ Γr), hS.mono (lk_l _ Γr), hrl, htell⟩
 refine CallVC.read (lister_trees V hn hm deep hd (s := ⟨false, g.st⟩) (Nat.le_refl n) (fun _ => hst) hB) ?_
 rintro v Γ' (⟨rfl, rfl⟩ | ⟨gt, A, c, out, rfl, rfl, hSo, hol, hout⟩)
 ·simp -implicitDefEqProofs only [go_sem,zA,zB,zC,zD,zE,reduceCtorEq,↓reduceIte,zF,zG,zH,zI]
  refine Up.to [] (Ent.nil _) ?_
  subst hR
  exact .inl ⟨rfl, rfl⟩
 ·simp -implicitDefEqProofs only [go_sem,zA,zB,zC,zD,zE,reduceCtorEq,↓reduceIte,zF,zG,zH,zI]
  refine Up.sel [[0]] (by decide) fun _ _ => ?_
  subst hR
  exact .inr ⟨gt, A, c, out, rfl, rfl, hSo, hol, hout⟩
/- The text of parlance/tree.rules as a statement; no condition. -/
def S168_1 : Stmt :=
 .seq
 (.region [oq 19 (.ibin .lss (.tmp 18) (.tmp 17))] [0,16,17,18,19])
 (.seq (.cond (.tmp 19) .skip (.exit 0))
 (.seq
 (.block 1
 (.seq
 (.region
 [oq 20 (.idx 3 (.tmp 16) (.tmp 18)),
 oq 21 (.load true 3 (.tmp 20)),
 .mk (some 6) none
 (.alloc true 106
 (.agg (Array.mk [.int .i64 0,.int .i64 0,.slice none 0 0]))),
 .mk none none (.store 3 (.tmp 6) (.tmp 21))]
 [0,6,16,17,18])
 (.region
 [oq 22 (.mv (.tmp 0)),
 oq 23 (.load true 3 (.tmp 6)),
 oq 24 (.call (.func 168) [.tmp 22,.tmp 23]),
 oq 0 (.mv (.tmp 24))]
 [0,16,17,18])))
 (.region
 [oq 25 (.ibin .add (.tmp 18) (.const (.int .i64 1))),
 oq 18 (.mv (.tmp 25))]
 [0,16,17,18])))
def S168_0 : Stmt :=
 .seq
 (.region
 [oq 3 (.box true 106 (.tmp 1)),
 oq 4 (.mv (.const (.slice none 0 0)))]
 [0,3])
 (.seq
 (.region
 [oq 7 (.mv (.tmp 0)),oq 8 (.fld 0 (.tmp 3)),
 oq 9 (.load false 1 (.tmp 8)),
 oq 10 (.buildS 3 1 [.int .i64 0] [(0,1,.tmp 9)]),
 oq 11 (.append 29 3 1 8 (.int .i64 0) (.tmp 7) (.tmp 10)),
 oq 0 (.mv (.tmp 11))]
 [0,3])
 (.seq
 (.seq
 (.region
 [oq 12 (.load true 3 (.tmp 3)),
 oq 13 (.call (.func 139) [.tmp 12])]
 [0,3,13])
 (.cond (.tmp 13)
 (.seq
 (.region
 [oq 14 (.mv (.tmp 0)),oq 4 (.mv (.tmp 14))] [4])
 .ret)
 .skip))
 (.seq
 (.seq
 (.region
 [oq 15 (.fld 2 (.tmp 3)),
 oq 16 (.load false 1 (.tmp 15)),
 oq 17 (.len false (.tmp 16)),
 oq 18 (.mv (.const (.int .i64 0)))]
 [0,16,17,18])
 (.block 0 (.loop S168_1 [0,18] [16,17])))
 (.seq
 (.region
 [oq 26 (.mv (.tmp 0)),oq 4 (.mv (.tmp 26))] [4])
 .ret))))
def S168 : FnS := ⟨27,[(4,none)],S168_0⟩
theorem tr168 : trFn Try.prog 168 [3,6] [[0,3],[0,3],[0,3,13],[4],[0,16,17,18],[0,18],[16,17],[0,16,17,18,19],[0,6,16,17,18],[0,16,17,18],[0,16,17,18],[4]] = some S168 := by kernel_rfl
/- The text of parlance/tree.Compare as a statement; no condition. -/
def S103_0 : Stmt :=
 .seq
 (.region
 [oq 2 (.box true 106 (.tmp 0)),
 oq 3 (.box true 106 (.tmp 1)),
 oq 4 (.mv (.const (.int .i64 0)))]
 [2,3])
 (.seq
 (.seq
 (.drawn
 [(false,oq 7 (.load true 3 (.tmp 2))),
 (true,oq 9 (.load true 3 (.tmp 3))),
 (false,oq 8 (.call (.func 67) [.tmp 7])),
 (false,oq 10 (.call (.func 67) [.tmp 9])),
 (false,oq 11 (.call (.func 105) [.tmp 8,.tmp 10])),
 (false,oq 5 (.mv (.tmp 11)))]
 [2,3,5])
 (.seq
 (.region
 [oq 12 (.mv (.tmp 5)),
 oq 13 (.ibin .neq (.tmp 12) (.const (.int .i64 0)))]
 [2,3,5,13])
 (.cond (.tmp 13)
 (.seq
 (.region
 [oq 14 (.mv (.tmp 5)),oq 4 (.mv (.tmp 14))] [4])
 .ret)
 .skip)))
 (.seq
 (.seq
 (.drawn
 [(false,oq 15 (.load true 3 (.tmp 2))),
 (true,oq 17 (.load true 3 (.tmp 3))),
 (false,
 .mk (some 16) none
 (.call (.func 168) [.const (.slice none 0 0),.tmp 15])),
 (false,
 .mk (some 18) none
 (.call (.func 168) [.const (.slice none 0 0),.tmp 17])),
 (false,oq 19 (.call (.func 26) [.tmp 16,.tmp 18])),
 (false,oq 6 (.mv (.tmp 19)))]
 [2,3,6])
 (.seq
 (.region
 [oq 20 (.mv (.tmp 6)),
 oq 21 (.ibin .neq (.tmp 20) (.const (.int .i64 0)))]
 [2,3,6,21])
 (.cond (.tmp 21)
 (.seq
 (.region
 [oq 22 (.mv (.tmp 6)),oq 4 (.mv (.tmp 22))]
 [4])
 .ret)
 .skip)))
 (.seq
 (.drawn
 [(false,oq 23 (.load true 3 (.tmp 2))),
 (true,oq 25 (.load true 3 (.tmp 3))),
 (false,oq 24 (.call (.func 100) [.tmp 23])),
 (false,oq 26 (.call (.func 100) [.tmp 25])),
 (false,oq 27 (.call (.func 26) [.tmp 24,.tmp 26])),
 (false,oq 4 (.mv (.tmp 27)))]
 [4])
 .ret)))
def S103 : FnS := ⟨28,[(4,none)],S103_0⟩
theorem tr103 : trFn Try.prog 103 [2,3] [[2,3],[2,3,5],[0,2,1,3,4,5],[2],[],[0],[],[0,1,2],[0,1,2,3],[0,1,2,3,4],[2,3,5,13],[4],[2,3,6],[0,2,1,3,4,5],[2],[],[0],[],[0,1,2],[0,1,2,3],[0,1,2,3,4],[2,3,6,21],[4],[4],[0,2,1,3,4,5],[2],[],[0],[],[0,1,2],[0,1,2,3],[0,1,2,3,4]] = some S103 := by kernel_rfl
/- Trees compared: tree.rules, tree.Compare of a tree with itself; no condition. -/
mutual
/-- the rules of a tree in preorder -/
def rlT : Tr → List Int
 | ⟨r, t, ks⟩ => r :: (if r = -1 then [] else rlL ks)
def rlL : List Tr → List Int
 | [] => []
 | k :: ks => rlT k ++ rlL ks
end
theorem rlT_eq (x : Tr) : rlT x = x.rule :: (if x.rule = -1 then [] else rlL x.kids) := by
 cases x
 simp only [rlT, Tr.rule, Tr.kids]
 congr
theorem rlL_append (a b : List Tr) : rlL (a ++ b) = rlL a ++ rlL b := by
 induction a with
 | nil => simp [rlL]
 | cons k a ih => simp only [List.cons_append, rlL, ih, List.append_assoc]
theorem rlL_le {ks : List Tr} (h : ∀ k ∈ ks, (rlT k).length ≤ numT k) : (rlL ks).length ≤ numL ks := by
 induction ks with
 | nil => simp [rlL, numL]
 | cons k ks ih =>
  have := h k (by simp)
  have := ih fun x hx => h x (by simp [hx])
  simp only [rlL, numL, List.length_append]
  omega
theorem rlT_le (x : Tr) : (rlT x).length ≤ numT x := by
 refine Tr.ind (p := fun x => (rlT x).length ≤ numT x) (fun x ih => ?_) x
 rw [rlT_eq, numT_eq]
 split
 ·simp
 ·have := rlL_le ih
  simp only [List.length_cons]
  omega
theorem tree_rules {Γr : Ctx} (x : Tr) : ∀ {A : Option Addr} {c : Nat}, SlOk (lk Γr) A c x.kids → numT x ≤ 20000000000 → ∀ {go : PH} {v : Value} {xs : List Int}, Bld go (lk []) 3 v xs → xs.length + numT x ≤ 40000000000 →
  Ret Try.prog 168 [v, .agg #[.int .i64 x.rule, .int .i64 x.term, .slice A x.kids.length c]] Γr [go] (fun v Γ => ∃ go', Γ = [go'] ∧ Bld go' (lk []) 3 v (xs ++ rlT x)) := by
 refine Tr.ind (p := fun x => ∀ {A : Option Addr} {c : Nat}, SlOk (lk Γr) A c x.kids → numT x ≤ 20000000000 → ∀ {go : PH} {v : Value} {xs : List Int}, Bld go (lk []) 3 v xs → xs.length + numT x ≤ 40000000000 →
  Ret Try.prog 168 [v, .agg #[.int .i64 x.rule, .int .i64 x.term, .slice A x.kids.length c]] Γr [go] (fun v Γ => ∃ go', Γ = [go'] ∧ Bld go' (lk []) 3 v (xs ++ rlT x))) (fun x ih A c hx hn go v xs hB hb => ?_) x
 generalize hR : (fun (v : Value) (Γ : Ctx) => ∃ go', _) = R
 obtain ⟨A0, c0, rfl⟩ := hB.val
 refine ret_of_vc tr168 (Nat.le_of_ble_eq_true rfl) ?_
 have hn1 := numT_eq x
 have hlen := numL_len x.kids
 simp -implicitDefEqProofs only [S168, S168_0, go_sem,zA,zB,zC,zD,zE,reduceCtorEq,↓reduceIte,zF,zG,zH,zI]
 intro b1
 intro bk
 refine s_app1S (α := Int) (ix := 1) x.rule rfl hB cells_one rfl (by omega) (by unfold maxLen; omega) ?_
 intro v' go' hB' _
 obtain ⟨A0, c0, rfl⟩ := hB'.val
 simp -implicitDefEqProofs only [go_sem,zA,zB,zC,zD,zE,reduceCtorEq,↓reduceIte,zF,zG,zH,zI]
 refine CallVC.read (tree_leaf _ _ _ _ _) ?_
 rintro v Γ' ⟨rfl, rfl⟩
 simp -implicitDefEqProofs only [go_sem,zA,zB,zC,zD,zE,reduceCtorEq,↓reduceIte,zF,zG,zH,zI]
 refine ⟨fun h => ?_, fun h => ?_⟩
 ·refine Up.skip (Up.here ?_)
  subst hR
  rw [rlT_eq, if_pos h]
  exact ⟨go', rfl, hB'⟩
 ·refine s_loop (fun f vs Γ => ∃ (go : PH) (v : Value) (k : Nat), vs = [.v true v, .v true (.int .i64 k)] ∧ Γ = [go] ∧ k + f = x.kids.length ∧ Bld go (lk []) 3 v ((xs ++ [x.rule]) ++ rlL (x.kids.take k))) x.kids.length
   (Up.skip (Up.here ⟨go', _, 0, rfl, rfl, by omega, by simpa [rlL] using hB'⟩)) ?_
  clear hB'
  clear hB
  rintro f vs Γ ⟨go, v, k, rfl, rfl, hkf, hB⟩
  obtain ⟨A0, c0, rfl⟩ := hB.val
  simp -implicitDefEqProofs only [S168_1, go_sem,zA,zB,zC,zD,zE,reduceCtorEq,↓reduceIte,zF,zG,zH,zI]
  refine ⟨fun hlt => ?_, fun hge => ?_⟩
  ·have hk : k < x.kids.length := by omega
   obtain ⟨b, o, hA, A', c', hs', hc⟩ := hx.tr hk
   have hm := List.getElem_mem hk
   have hst : rlL (x.kids.take (k + 1)) = rlL (x.kids.take k) ++ rlT x.kids[k] := by
    rw [List.take_succ_eq_append_getElem hk, rlL_append]
    simp [rlL]
   have hnk := numL_mem hm
   have hle : numL (x.kids.take k) + numT x.kids[k] ≤ numL x.kids := by
    have h1 : numL (x.kids.take (k + 1)) = numL (x.kids.take k) + numT x.kids[k] := by
     rw [List.take_succ_eq_append_getElem hk, numL_append]
     simp [numL]
    have h2 := numL_append (x.kids.take (k + 1)) (x.kids.drop (k + 1))
    rw [List.take_append_drop] at h2
    omega
   have hs1 : (rlL (x.kids.take k)).length ≤ numL (x.kids.take k) := rlL_le fun y _ => rlT_le y
   refine s_idx hA (by omega) (by omega) ?_
   simp -implicitDefEqProofs only [go_sem,zA,zB,zC,zD,zE,reduceCtorEq,↓reduceIte,zF,zG,zH,zI]
   refine s_ld0 (hc _ (lk_r [go] _)) (by simp) (by simp) ?_
   simp -implicitDefEqProofs only [go_sem,zA,zB,zC,zD,zE,reduceCtorEq,↓reduceIte,zF,zG,zH,zI]
   intro b5
   refine CallVC.perm (Γm := [go]) (Γf := []) (ih _ hm hs' (by omega) hB (by rw [List.length_append, List.length_append, List.length_singleton]; omega)) (List.Perm.refl _) (List.Sublist.refl _) ?_
   rintro v Γ' ⟨go', rfl, hB'⟩
   rw [List.append_assoc, ← hst] at hB'
   obtain ⟨A0, c0, rfl⟩ := hB'.val
   simp -implicitDefEqProofs only [go_sem,zA,zB,zC,zD,zE,reduceCtorEq,↓reduceIte,zF,zG,zH,zI]
   simp (disch := omega) only [wrap_id]
   exact ⟨f - 1, by omega, Up.here ⟨go', _, k + 1, rfl, rfl, by omega, hB'⟩⟩
  ·have hk : k = x.kids.length := by omega
   have he : rlL (x.kids.take k) = rlL x.kids := by rw [hk, List.take_length]
   refine Up.here ?_
   subst hR
   rw [rlT_eq, if_neg h, ← he]
   exact ⟨go, rfl, by have := hB; simp only [List.append_assoc, List.singleton_append] at this ⊢; exact this⟩
theorem cmpI_self (a : Int) : cmpI a a = 0 := by simp [cmpI]
theorem cmpL_self : ∀ (xs : List Int), cmpL xs xs = 0
 | [] => rfl
 | x :: xs => by
  have := cmpL_self xs
  simp [cmpL, cmpI_self, this]
/-- a tree compared with itself -/
theorem tree_compare {Γr : Ctx} (x : Tr) {A B : Option Addr} {c d : Nat} (hx : SlOk (lk Γr) A c x.kids) (hy : SlOk (lk Γr) B d x.kids) (hn : numT x ≤ 20000000000) :
  Ret Try.prog 103 [.agg #[.int .i64 x.rule, .int .i64 x.term, .slice A x.kids.length c], .agg #[.int .i64 x.rule, .int .i64 x.term, .slice B x.kids.length d]] Γr [] (fun v Γ => Γ = [] ∧ v = .int .i64 0) := by
 generalize hR : (fun (v : Value) (Γ : Ctx) => Γ = [] ∧ v = Value.int .i64 0) = R
 refine ret_of_vc tr103 (Nat.le_of_ble_eq_true rfl) ?_
 have hr := rlT_le x
 have hw := wdT_le x
 simp -implicitDefEqProofs only [S103, S103_0, go_sem,zA,zB,zC,zD,zE,reduceCtorEq,↓reduceIte,zF,zG,zH,zI]
 intro b2 b3
 refine s_drawn [] [] (Ent.refl _) ?_
 simp -implicitDefEqProofs only [go_sem,zA,zB,zC,zD,zE,reduceCtorEq,↓reduceIte,zF,zG,zH,zI]
 refine CallVC.read (tree_sizeB x (hx.mono (lk_sub (by simp))) hn) ?_
 rintro v Γ' ⟨rfl, rfl⟩
 simp -implicitDefEqProofs only [go_sem,zA,zB,zC,zD,zE,reduceCtorEq,↓reduceIte,zF,zG,zH,zI]
 refine CallVC.read (tree_sizeB x (hy.mono (lk_sub (by simp))) hn) ?_
 rintro v Γ' ⟨rfl, rfl⟩
 simp -implicitDefEqProofs only [go_sem,zA,zB,zC,zD,zE,reduceCtorEq,↓reduceIte,zF,zG,zH,zI]
 refine CallVC.read (cmp_compare _ _) ?_
 rintro v Γ' ⟨rfl, rfl⟩
 rw [cmpI_self]
 simp -implicitDefEqProofs only [go_sem,zA,zB,zC,zD,zE,reduceCtorEq,↓reduceIte,zF,zG,zH,zI]
 refine s_drawn [] [] (Ent.refl _) ?_
 simp -implicitDefEqProofs only [go_sem,zA,zB,zC,zD,zE,reduceCtorEq,↓reduceIte,zF,zG,zH,zI]
 refine CallVC.read (Ret.emp (tree_rules x (hx.mono (lk_sub (by simp))) hn (Bld.nil V.emp (lk []) 3) (by simp; omega))) ?_
 rintro v Γ' ⟨g1, rfl, hB1⟩
 obtain ⟨A1, c1, rfl, hS1⟩ := hB1.slok (L' := lk [g1]) (Mem.le.refl _) (fun b o ⟨x, hx, _⟩ => by cases hx) (by simp; omega)
 rw [List.nil_append] at hS1 ⊢
 simp -implicitDefEqProofs only [go_sem,zA,zB,zC,zD,zE,reduceCtorEq,↓reduceIte,zF,zG,zH,zI]
 refine CallVC.read (Ret.emp (tree_rules x (hy.mono (lk_sub fun g hg => by simp [hg])) hn (Bld.nil V.emp (lk []) 3) (by simp; omega))) ?_
 rintro v Γ' ⟨g2, rfl, hB2⟩
 obtain ⟨A2, c2, rfl, hS2⟩ := hB2.slok (L' := lk [g2]) (Mem.le.refl _) (fun b o ⟨x, hx, _⟩ => by cases hx) (by simp; omega)
 rw [List.nil_append] at hS2 ⊢
 simp -implicitDefEqProofs only [go_sem,zA,zB,zC,zD,zE,reduceCtorEq,↓reduceIte,zF,zG,zH,zI]
 refine CallVC.read (slices_compare (hS1.mono (lk_sub fun g hg => by simp at hg; subst hg; simp)) (hS2.mono (lk_sub fun g hg => by simp at hg; subst hg; simp))) ?_
 rintro v Γ' ⟨rfl, rfl⟩
 rw [cmpL_self]
 simp -implicitDefEqProofs only [go_sem,zA,zB,zC,zD,zE,reduceCtorEq,↓reduceIte,zF,zG,zH,zI]
 refine s_drawn [] [g2, g1] (Ent.refl _) ?_
 simp -implicitDefEqProofs only [go_sem,zA,zB,zC,zD,zE,reduceCtorEq,↓reduceIte,zF,zG,zH,zI]
 refine CallVC.read (tree_wordB x (hx.mono (lk_sub fun g hg => by simp [hg])) hn) ?_
 rintro v Γ' ⟨g3, rfl, hB3⟩
 obtain ⟨A3, c3, rfl, hS3⟩ := hB3.slok (L' := lk [g3]) (Mem.le.refl _) (fun b o ⟨x, hx, _⟩ => by cases hx) (by omega)
 simp -implicitDefEqProofs only [go_sem,zA,zB,zC,zD,zE,reduceCtorEq,↓reduceIte,zF,zG,zH,zI]
 refine CallVC.read (tree_wordB x (hy.mono (lk_sub fun g hg => by simp [hg])) hn) ?_
 rintro v Γ' ⟨g4, rfl, hB4⟩
 obtain ⟨A4, c4, rfl, hS4⟩ := hB4.slok (L' := lk [g4]) (Mem.le.refl _) (fun b o ⟨x, hx, _⟩ => by cases hx) (by omega)
 simp -implicitDefEqProofs only [go_sem,zA,zB,zC,zD,zE,reduceCtorEq,↓reduceIte,zF,zG,zH,zI]
 refine CallVC.read (slices_compare (hS3.mono (lk_sub fun g hg => by simp at hg; subst hg; simp)) (hS4.mono (lk_sub fun g hg => by simp at hg; subst hg; simp))) ?_
 rintro v Γ' ⟨rfl, rfl⟩
 rw [cmpL_self]
 simp -implicitDefEqProofs only [go_sem,zA,zB,zC,zD,zE,reduceCtorEq,↓reduceIte,zF,zG,zH,zI]
 refine Up.to [] (Ent.nil _) ?_
 subst hR
 exact ⟨rfl, rfl⟩
/- The text of parlance/parlref5.capped as a statement; no condition. -/
def S153_0 : Stmt :=
 .seq (.region [oq 2 (.mv (.const (.int .i64 0)))] [0])
 (.seq
 (.seq
 (.region
 [oq 3 (.mv (.tmp 0)),
 .mk (some 4) none
 (.ibin .gtr (.tmp 3) (.const (.int .i64 1000000000)))]
 [0,4])
 (.cond (.tmp 4)
 (.seq (.region [oq 2 (.mv (.const (.int .i64 1000000000)))] [2])
 .ret)
 .skip))
 (.seq
 (.region [oq 5 (.mv (.tmp 0)),oq 2 (.mv (.tmp 5))]
 [2])
 .ret))
def S153 : FnS := ⟨6,[(2,none)],S153_0⟩
theorem tr153 : trFn Try.prog 153 [] [[0],[0,4],[2],[2]] = some S153 := by kernel_rfl
/- parlref5.capped walked; no condition. -/
theorem ref_capped {Γr : Ctx} (x : Nat) (hx : x ≤ 4000000000000000000) : Ret Try.prog 153 [.int .i64 (x : Int)] Γr [] (fun v Γ => Γ = [] ∧ v = .int .i64 ((capN x : Nat) : Int)) := by
 generalize hR : (fun (v : Value) (Γ : Ctx) => Γ = [] ∧ v = _) = R'
 refine ret_of_vc tr153 (Nat.le_of_ble_eq_true rfl) ?_
 simp -implicitDefEqProofs only [S153, S153_0, go_sem,zA,zB,zC,zD,zE,reduceCtorEq,↓reduceIte,zF,zG,zH,zI]
 refine ⟨fun h => Up.here ?_, fun h => Up.here ?_⟩
 ·subst hR
  have : capN x = 1000000000 := by unfold capN; omega
  exact ⟨rfl, by rw [this]; rfl⟩
 ·subst hR
  have : capN x = x := by unfold capN; omega
  exact ⟨rfl, by rw [this]⟩
/- Tables by the levels of trees: the plain law of the reference's census; no condition. -/
/-- three tables of so many rows of n + 1: how many, whether any, whether more than -/
structure Tri (N n : Nat) (F F' : Nat → Nat → Nat) (M : List (List Int)) (A J : List (List Bool)) : Prop where
 m : Shp N (n + 1) M
 a : Shp N (n + 1) A
 j : Shp N (n + 1) J
 at' : ∀ x k, x < N → k ≤ n → matI M x k = (capN (F x k) : Nat) ∧ (mat A x k = true ↔ 0 < F x k) ∧ (mat J x k = true ↔ F' x k < F x k)
theorem Tri.congr {N n : Nat} {F F' G G' : Nat → Nat → Nat} {M : List (List Int)} {A J : List (List Bool)} (h : Tri N n F F' M A J) (h1 : ∀ x k, x < N → k ≤ n → F x k = G x k) (h2 : ∀ x k, x < N → k ≤ n → F' x k = G' x k) : Tri N n G G' M A J :=
 ⟨h.m, h.a, h.j, fun x k q1 q2 => by rw [← h1 x k q1 q2, ← h2 x k q1 q2]; exact h.at' x k q1 q2⟩
theorem shpR {α : Type} (a b : Nat) (z : α) : Shp a b (List.replicate a (List.replicate b z)) := ⟨by simp, fun r hr => by simp at hr; rw [hr.2]; simp⟩
def updF (F : Nat → Nat → Nat) (x y v : Nat) (a k : Nat) : Nat := if a = x ∧ k = y then v else F a k
theorem mat_setR {w : List (List Bool)} {a b : Nat} (h : Shp a b w) {x y : Nat} (hx : x < a) (hy : y < b) {row : List Bool} (hr : w[x]? = some row) (v : Bool) (x' y' : Nat) : mat (w.set x (row.set y v)) x' y' = if x' = x ∧ y' = y then v else mat w x' y' := by
 have e : w.getD x [] = row := by simp [List.getD_eq_getElem?_getD, hr]
 have := mat_setS h hx hy v x' y'
 rwa [e] at this
theorem Tri.set {N n : Nat} {F F' : Nat → Nat → Nat} {M : List (List Int)} {A J : List (List Bool)} (h : Tri N n F F' M A J) {x y : Nat} (hx : x < N) (hy : y ≤ n) {rm : List Int} {ra rj : List Bool} (hm : M[x]? = some rm) (ha : A[x]? = some ra) (hj : J[x]? = some rj)
  {v v' : Nat} {c : Int} {b d : Bool} (hc : c = (capN v : Nat)) (hb : b = true ↔ 0 < v) (hd : d = true ↔ v' < v) : Tri N n (updF F x y v) (updF F' x y v') (M.set x (rm.set y c)) (A.set x (ra.set y b)) (J.set x (rj.set y d)) := by
 have hml : rm.length = n + 1 := h.m.2 _ (List.mem_of_getElem? hm)
 have hal : ra.length = n + 1 := h.a.2 _ (List.mem_of_getElem? ha)
 have hjl : rj.length = n + 1 := h.j.2 _ (List.mem_of_getElem? hj)
 refine ⟨h.m.set x (by simp [hml]), h.a.set x (by simp [hal]), h.j.set x (by simp [hjl]), fun x' k q1 q2 => ?_⟩
 rw [matI_set h.m hx (by omega) hm, mat_setR h.a hx (by omega) ha, mat_setR h.j hx (by omega) hj]
 unfold updF
 by_cases e : x' = x ∧ k = y
 ·rw [if_pos e, if_pos e, if_pos e, if_pos e, if_pos e]
  exact ⟨hc, hb, hd⟩
 ·rw [if_neg e, if_neg e, if_neg e, if_neg e, if_neg e]
  exact h.at' x' k q1 q2
theorem capN_zero : capN 0 = 0 := rfl
theorem Tri.zero (N n : Nat) : Tri N n (fun _ _ => 0) (fun _ _ => 0) (List.replicate N (List.replicate (n + 1) (0 : Int))) (List.replicate N (List.replicate (n + 1) false)) (List.replicate N (List.replicate (n + 1) false)) := by
 refine ⟨shpR _ _ _, shpR _ _ _, shpR _ _ _, fun x k hx hk => ?_⟩
 have e1 : matI (List.replicate N (List.replicate (n + 1) (0 : Int))) x k = 0 := by
  unfold matI
  rw [List.getD_eq_getElem?_getD, List.getD_eq_getElem?_getD, List.getElem?_replicate, if_pos hx]
  simp only [Option.getD_some]
  rw [List.getElem?_replicate, if_pos (by omega)]
  rfl
 have e2 : mat (List.replicate N (List.replicate (n + 1) false)) x k = false := by
  unfold mat
  rw [List.getD_eq_getElem?_getD, List.getD_eq_getElem?_getD, List.getElem?_replicate, if_pos hx]
  simp only [Option.getD_some]
  rw [List.getElem?_replicate, if_pos (by omega)]
  rfl
 rw [e1, e2]
 simp [capN_zero]
/-- rows of terminals only -/
def oneR (l : List Sy) (k : Nat) : Nat := if (∀ s ∈ l, s.t = true) ∧ k = l.length then 1 else 0
theorem sumN_one (f : Nat → Nat) (c : Nat) : ∀ n, sumN (fun j => (if j = c then 1 else 0) * f j) n = if c < n then f c else 0
 | 0 => rfl
 | n + 1 => by
  rw [sumN, sumN_one f c n]
  by_cases e : n = c
  ·subst e
   rw [if_pos rfl, if_neg (by omega), if_pos (by omega)]
   omega
  ·rw [if_neg e]
   by_cases q : c < n
   ·rw [if_pos q, if_pos (by omega)]; omega
   ·rw [if_neg q, if_neg (by omega)]; omega
theorem rowT_zero : ∀ (l : List Sy) (k : Nat), rowT (fun _ _ => 0) l k = oneR l k
 | [], k => by
  show (if k = 0 then 1 else 0) = oneR [] k
  unfold oneR
  by_cases e : k = 0 <;> simp [e]
 | s :: l, k => by
  show sumN (fun j => symT (fun _ _ => 0) s j * rowT (fun _ _ => 0) l (k - j)) (k + 1) = _
  obtain ⟨st, sn⟩ := s
  cases st with
  | false =>
   rw [sumN_congr (g := fun _ => 0) (fun j _ => by show (if false = true then _ else 0) * _ = 0; simp), sumN_zero]
   unfold oneR
   rw [if_neg]
   intro h
   have := h.1 _ (List.mem_cons_self ..)
   cases this
  | true =>
   rw [sumN_congr (g := fun j => (if j = 1 then 1 else 0) * oneR l (k - j)) (fun j _ => by rw [rowT_zero l]; rfl), sumN_one (fun j => oneR l (k - j)) 1]
   unfold oneR
   by_cases h : ∀ s ∈ l, s.t = true
   ·have h' : ∀ s ∈ (⟨true, sn⟩ : Sy) :: l, s.t = true := fun s hs => by
     rcases List.mem_cons.1 hs with e | e
     ·rw [e]
     ·exact h s e
    by_cases e : k = l.length + 1
    ·rw [if_pos (by omega), if_pos ⟨h, by omega⟩, if_pos ⟨h', by simp [e]⟩]
    ·rw [if_neg (c := _ ∧ k = _) (fun q => e (by simpa using q.2))]
     split
     ·rw [if_neg (fun q => e (by omega))]
     ·rfl
   ·have h' : ¬ ∀ s ∈ (⟨true, sn⟩ : Sy) :: l, s.t = true := fun q => h fun s hs => q s (List.mem_cons_of_mem _ hs)
    rw [if_neg (c := _ ∧ k = _) (fun q => h' q.1)]
    split
    ·rw [if_neg (fun q => h q.1)]
    ·rfl
theorem oneR_le (l : List Sy) (k : Nat) : oneR l k ≤ 1 := by unfold oneR; split <;> omega
/-- of so many rules, the trees of one level -/
def firT (g : Gr) (i : Nat) (a k : Nat) : Nat := sumR (cntT g 0) (a : Int) k (g.rs.take i)
theorem firT_succ {g : Gr} {i : Nat} (hi : i < g.rs.length) (a k : Nat) : firT g (i + 1) a k = firT g i a k + (if g.rs[i].l = (a : Int) then oneR g.rs[i].r k else 0) := by
 unfold firT
 rw [List.take_succ_eq_append_getElem hi, sumR_snoc]
 show _ = _ + (if _ then oneR _ _ else 0)
 rw [← rowT_zero]
 rfl
theorem firT_le {g : Gr} (a k : Nat) : ∀ i, i ≤ g.rs.length → firT g i a k ≤ i
 | 0, _ => by simp [firT, sumR]
 | i + 1, h => by
  rw [firT_succ (by omega)]
  have := firT_le (g := g) a k i (by omega)
  have := oneR_le g.rs[i].r k
  split <;> omega
theorem firT_all (g : Gr) (a k : Nat) : firT g g.rs.length a k = cntT g 1 (a : Int) k := by
 unfold firT
 rw [List.take_length]
 rfl
/-- of so many rules, the trees of one level more -/
def nxtT (g : Gr) (T : Int → Nat → Nat) (c : Nat → Nat) (a k : Nat) : Nat := sumR T (a : Int) k (g.rs.take (c k))
def updC (c : Nat → Nat) (y v : Nat) (k : Nat) : Nat := if k = y then v else c k
theorem nxtT_upd {g : Gr} {T : Int → Nat → Nat} {c : Nat → Nat} {i y x : Nat} (hi : i < g.rs.length) (hc : c y = i) (hx : g.rs[i].l = (x : Int)) (a k : Nat) : updF (nxtT g T c) x y (nxtT g T c x y + rowT T g.rs[i].r y) a k = nxtT g T (updC c y (i + 1)) a k := by
 unfold updF nxtT updC
 by_cases e : k = y
 ·subst e
  rw [if_pos rfl, hc, List.take_succ_eq_append_getElem hi, sumR_snoc]
  by_cases e2 : a = x
  ·subst e2
   rw [if_pos ⟨rfl, rfl⟩, if_pos hx]
  ·rw [if_neg (fun q => e2 q.1), if_neg (fun q => e2 (by omega))]
   omega
 ·rw [if_neg (fun q => e q.2), if_neg e]
theorem nxtT_all (g : Gr) (h : Nat) {c : Nat → Nat} {n : Nat} (hc : ∀ k, k ≤ n → c k = g.rs.length) (a k : Nat) (hk : k ≤ n) : nxtT g (cntT g h) c a k = cntT g (h + 1) (a : Int) k := by
 unfold nxtT
 rw [hc k hk, List.take_length]
 rfl
/- Rows of numbers of trees, symbol by symbol: the plain law of the reference's row; no condition. -/
/-- three rows of n + 1 -/
structure Row3 (n : Nat) (F F' : Nat → Nat) (m : List Int) (a j : List Bool) : Prop where
 ml : m.length = n + 1
 al : a.length = n + 1
 jl : j.length = n + 1
 at' : ∀ k, k ≤ n → m.getD k (-1) = (capN (F k) : Nat) ∧ (a.getD k false = true ↔ 0 < F k) ∧ (j.getD k false = true ↔ F' k < F k)
theorem Row3.congr {n : Nat} {F F' G G' : Nat → Nat} {m : List Int} {a j : List Bool} (h : Row3 n F F' m a j) (h1 : ∀ k, k ≤ n → F k = G k) (h2 : ∀ k, k ≤ n → F' k = G' k) : Row3 n G G' m a j :=
 ⟨h.ml, h.al, h.jl, fun k hk => by rw [← h1 k hk, ← h2 k hk]; exact h.at' k hk⟩
theorem Row3.get {n : Nat} {F F' : Nat → Nat} {m : List Int} {a j : List Bool} (h : Row3 n F F' m a j) {k : Nat} (hk : k ≤ n) (h1 : k < m.length) (h2 : k < a.length) (h3 : k < j.length) : m[k] = (capN (F k) : Nat) ∧ (a[k] = true ↔ 0 < F k) ∧ (j[k] = true ↔ F' k < F k) := by
 have := h.at' k hk
 simpa [List.getD_eq_getElem?_getD, h1, h2, h3] using this
def upd1 (F : Nat → Nat) (y v : Nat) (k : Nat) : Nat := if k = y then v else F k
theorem getD_putL {α : Type} (l : List α) (y k : Nat) (v d : α) (hy : y < l.length) : (l.set y v).getD k d = if k = y then v else l.getD k d := by
 simp only [List.getD_eq_getElem?_getD, List.getElem?_set]
 by_cases e : y = k
 ·subst e; simp [hy]
 ·have : ¬ k = y := fun q => e q.symm
  simp [e, this]
theorem Row3.set {n : Nat} {F F' : Nat → Nat} {m : List Int} {a j : List Bool} (h : Row3 n F F' m a j) {y : Nat} (hy : y ≤ n) {v v' : Nat} {c : Int} {b d : Bool} (hc : c = (capN v : Nat)) (hb : b = true ↔ 0 < v) (hd : d = true ↔ v' < v) :
  Row3 n (upd1 F y v) (upd1 F' y v') (m.set y c) (a.set y b) (j.set y d) := by
 have h1 := h.ml
 have h2 := h.al
 have h3 := h.jl
 refine ⟨by simp [h1], by simp [h2], by simp [h3], fun k hk => ?_⟩
 rw [getD_putL _ _ _ _ _ (by omega), getD_putL _ _ _ _ _ (by omega), getD_putL _ _ _ _ _ (by omega)]
 unfold upd1
 by_cases e : k = y
 ·rw [if_pos e, if_pos e, if_pos e, if_pos e, if_pos e]
  exact ⟨hc, hb, hd⟩
 ·rw [if_neg e, if_neg e, if_neg e, if_neg e, if_neg e]
  exact h.at' k hk
theorem Row3.zero (n : Nat) : Row3 n (fun _ => 0) (fun _ => 0) (List.replicate (n + 1) 0) (List.replicate (n + 1) false) (List.replicate (n + 1) false) := by
 refine ⟨by simp, by simp, by simp, fun k hk => ?_⟩
 have : k < n + 1 := by omega
 simp [List.getD_eq_getElem?_getD, List.getElem?_replicate, this, capN_zero]
theorem Row3.one (n : Nat) : Row3 n oneT oneT ((List.replicate (n + 1) 0).set 0 1) ((List.replicate (n + 1) false).set 0 true) (List.replicate (n + 1) false) := by
 have := (Row3.zero n).set (y := 0) (v := 1) (v' := 1) (c := 1) (b := true) (d := false) (Nat.zero_le _) rfl (by simp) (by simp)
 have e : (List.replicate (n + 1) false).set 0 false = List.replicate (n + 1) false := by simp [List.replicate_succ]
 rw [e] at this
 exact this.congr (fun k _ => by unfold upd1 oneT; split <;> rfl) (fun k _ => by unfold upd1 oneT; split <;> rfl)
/-- what stands in the new rows when x and y stand in the loops -/
def accX (P : Nat → Nat) (T : Int → Nat → Nat) (s : Sy) (x y k : Nat) : Nat := sumN (fun z => P z * symT T s (k - z)) (doneX x y k)
theorem accX_zero (P : Nat → Nat) (T : Int → Nat → Nat) (s : Sy) (k : Nat) : accX P T s 0 0 k = 0 := by unfold accX; rw [doneX_zero]; rfl
theorem accX_step (P : Nat → Nat) (T : Int → Nat → Nat) (s : Sy) (x y k : Nat) : upd1 (accX P T s x y) (x + y) (accX P T s x y (x + y) + P x * symT T s y) k = accX P T s x (y + 1) k := by
 unfold upd1 accX
 rw [doneX_step]
 by_cases e : k = x + y
 ·subst e
  rw [if_pos rfl, if_pos rfl, doneX_at, sumN, show x + y - x = y by omega]
 ·rw [if_neg e, if_neg e]
theorem accX_next (P : Nat → Nat) (T : Int → Nat → Nat) (s : Sy) {n x k : Nat} (hk : k ≤ n) : accX P T s x (n + 1 - x) k = accX P T s (x + 1) 0 k := by unfold accX; rw [doneX_next hk]
theorem accX_all (P : Nat → Nat) (T : Int → Nat → Nat) (s : Sy) {n k : Nat} (hk : k ≤ n) : accX P T s (n + 1) 0 k = convT T P s k := by unfold accX convT; rw [doneX_all hk]
theorem acc_le {P P' : Nat → Nat} {T T' : Int → Nat → Nat} (hP : ∀ k, P' k ≤ P k) (hT : LeT T' T) (s : Sy) (x y k : Nat) : accX P' T' s x y k ≤ accX P T s x y k :=
 sumN_le fun z _ => Nat.mul_le_mul (hP z) (symT_le hT s _)
/-- the symbol's numbers -/
structure SymV (T T' : Int → Nat → Nat) (s : Sy) (y : Nat) (c : Int) (have' top : Bool) : Prop where
 c : c = (capN (symT T s y) : Nat)
 h : have' = true ↔ 0 < symT T s y
 t : top = true ↔ symT T' s y < symT T s y
theorem capN_one : capN 1 = 1 := rfl
theorem SymV.term (T T' : Int → Nat → Nat) (sn : Int) (y : Nat) : SymV T T' ⟨true, sn⟩ y (if y = 1 then 1 else 0) (decide (y = 1)) false := by
 have e : ∀ T, symT T ⟨true, sn⟩ y = if y = 1 then 1 else 0 := fun T => by unfold symT; rfl
 refine ⟨?_, ?_, by rw [e, e]; simp⟩ <;> rw [e] <;> by_cases h : y = 1 <;> simp [h, capN_one, capN_zero]
/-- one step -/
theorem row_step {n : Nat} {P P' : Nat → Nat} {T T' : Int → Nat → Nat} (hP : ∀ k, P' k ≤ P k) (hT : LeT T' T) {s : Sy} {x y : Nat} (hxy : x + y ≤ n) {m : List Int} {a j : List Bool} (h : Row3 n (accX P T s x y) (accX P' T' s x y) m a j)
  {c c0 : Int} {hv tp ab jb : Bool} (hs : SymV T T' s y c hv tp) (hc : c0 = (capN (accX P T s x y (x + y) + P x * symT T s y) : Nat))
  {ax jx : Bool} (hax : ax = true ↔ 0 < P x) (hjx : jx = true ↔ P' x < P x) {a0 j0 : Bool} (ha0 : a0 = true ↔ 0 < accX P T s x y (x + y)) (hj0 : j0 = true ↔ accX P' T' s x y (x + y) < accX P T s x y (x + y))
  (hab : ab = true ↔ a0 = true ∨ (ax = true ∧ hv = true)) (hjb : jb = true ↔ j0 = true ∨ (jx = true ∧ hv = true) ∨ (ax = true ∧ tp = true)) :
  Row3 n (accX P T s x (y + 1)) (accX P' T' s x (y + 1)) (m.set (x + y) c0) (a.set (x + y) ab) (j.set (x + y) jb) := by
 have h1 := acc_le hP hT s x y (x + y)
 have h2 := hP x
 have h3 := symT_le hT s y
 have h4 := Nat.mul_le_mul h2 h3
 refine (h.set (y := x + y) hxy (v := accX P T s x y (x + y) + P x * symT T s y) (v' := accX P' T' s x y (x + y) + P' x * symT T' s y) hc ?_ ?_).congr (fun k _ => accX_step P T s x y k) (fun k _ => accX_step P' T' s x y k)
 ·rw [hab, ha0, hax, hs.h]
  constructor
  ·rintro (q | ⟨q1, q2⟩)
   ·omega
   ·have := Nat.mul_pos q1 q2
    omega
  ·intro q
   rcases Nat.eq_zero_or_pos (accX P T s x y (x + y)) with e | e
   ·have hp : 0 < P x * symT T s y := by omega
    exact .inr ⟨Nat.pos_of_ne_zero fun e => by rw [e, Nat.zero_mul] at hp; omega, Nat.pos_of_ne_zero fun e => by rw [e, Nat.mul_zero] at hp; omega⟩
   ·exact .inl e
 ·rw [hjb, hj0, hjx, hax, hs.h, hs.t]
  have h5 := mul_lt_iff h2 h3
  constructor
  ·rintro (q | q | q)
   ·omega
   ·have := h5.2 (.inl q)
    omega
   ·have := h5.2 (.inr q)
    omega
  ·intro q
   rcases Nat.lt_or_ge (accX P' T' s x y (x + y)) (accX P T s x y (x + y)) with e | e
   ·exact .inl e
   ·rcases h5.1 (by omega) with q | q
    ·exact .inr (.inl q)
    ·exact .inr (.inr q)
/- The text of (*parlance/parlref5.heights).row as a statement; no condition. -/
def S190_1 : Stmt :=
 .seq
 (.region
 [oq 84 (.fld 0 (.tmp 11)),oq 85 (.load false 1 (.tmp 84))]
 [0,7,8,9,11,12,13,14,15,16,17,18,19,42,43,44,70,71,85])
 (.cond (.tmp 85)
 (.seq
 (.region
 [oq 86 (.mv (.tmp 16)),
 oq 87 (.ibin .eql (.tmp 86) (.const (.int .i64 1)))]
 [0,7,8,9,11,12,13,14,15,16,17,18,19,42,43,44,70,71,87])
 (.cond (.tmp 87)
 (.region
 [oq 17 (.mv (.const (.int .i64 1))),
 oq 18 (.mv (.const (.bool true)))]
 [0,7,8,9,11,12,13,14,15,16,17,18,19,42,43,44,70,71])
 .skip))
 (.quiet
 [oq 88 (.mv (.tmp 0)),oq 89 (.nilCheck (.tmp 88)),
 oq 90 (.fld 5 (.tmp 89)),
 oq 91 (.load false 1 (.tmp 90)),
 oq 92 (.fld 1 (.tmp 11)),
 oq 93 (.load false 1 (.tmp 92)),
 oq 94 (.idx 1 (.tmp 91) (.tmp 93)),
 oq 95 (.load false 1 (.tmp 94)),oq 96 (.mv (.tmp 16)),
 oq 97 (.idx 1 (.tmp 95) (.tmp 96)),
 oq 98 (.load false 1 (.tmp 97)),oq 99 (.mv (.tmp 0)),
 oq 100 (.nilCheck (.tmp 99)),
 oq 101 (.fld 6 (.tmp 100)),
 oq 102 (.load false 1 (.tmp 101)),
 oq 103 (.fld 1 (.tmp 11)),
 oq 104 (.load false 1 (.tmp 103)),
 oq 105 (.idx 1 (.tmp 102) (.tmp 104)),
 oq 106 (.load false 1 (.tmp 105)),
 oq 107 (.mv (.tmp 16)),
 oq 108 (.idx 1 (.tmp 106) (.tmp 107)),
 oq 109 (.load false 1 (.tmp 108)),
 oq 110 (.mv (.tmp 0)),oq 111 (.nilCheck (.tmp 110)),
 oq 112 (.fld 7 (.tmp 111)),
 oq 113 (.load false 1 (.tmp 112)),
 oq 114 (.fld 1 (.tmp 11)),
 oq 115 (.load false 1 (.tmp 114)),
 oq 116 (.idx 1 (.tmp 113) (.tmp 115)),
 oq 117 (.load false 1 (.tmp 116)),
 oq 118 (.mv (.tmp 16)),
 oq 119 (.idx 1 (.tmp 117) (.tmp 118)),
 oq 120 (.load false 1 (.tmp 119)),
 oq 17 (.mv (.tmp 98)),oq 18 (.mv (.tmp 109)),
 oq 19 (.mv (.tmp 120))]
 [0,7,8,9,11,12,13,14,15,16,17,18,19,42,43,44,70,71]))
def S190_2 : Stmt :=
 .seq
 (.tree
 (.q (false,oq 121 (.mv (.tmp 12)))
 (.q (false,oq 122 (.mv (.tmp 15)))
 (.q (false,oq 123 (.mv (.tmp 16)))
 (.q (false,oq 125 (.mv (.tmp 12)))
 (.q (false,oq 126 (.mv (.tmp 15)))
 (.q (false,oq 127 (.mv (.tmp 16)))
 (.q (false,oq 131 (.mv (.tmp 7)))
 (.q (false,oq 132 (.mv (.tmp 15)))
 (.q (false,oq 135 (.mv (.tmp 17)))
 (.q (false,oq 124 (.ibin .add (.tmp 122) (.tmp 123)))
 (.q (false,oq 128 (.ibin .add (.tmp 126) (.tmp 127)))
 (.q (false,oq 133 (.idx 1 (.tmp 131) (.tmp 132)))
 (.q (false,oq 129 (.idx 1 (.tmp 125) (.tmp 128)))
 (.q (false,oq 134 (.load false 1 (.tmp 133)))
 (.q
 (false,
 oq 136 (.ibin .mul (.tmp 134) (.tmp 135)))
 (.alt (false,oq 130 (.load false 1 (.tmp 129)))
 (.alt
 (false,oq 137 (.call (.func 153) [.tmp 136]))
 (.q
 (false,
 .mk (some 138) none
 (.ibin .add (.tmp 130) (.tmp 137)))
 (.alt
 (false,
 oq 139 (.call (.func 153) [.tmp 138]))
 (.q
 (false,
 oq 140 (.idx 1 (.tmp 121) (.tmp 124)))
 (.alt
 (false,
 .mk none none (.store 1 (.tmp 140) (.tmp 139)))
 .fin .no))
 .no))
 .no)
 (.alt
 (false,oq 137 (.call (.func 153) [.tmp 136]))
 (.alt (false,oq 130 (.load false 1 (.tmp 129)))
 (.q
 (false,
 .mk (some 138) none
 (.ibin .add (.tmp 130) (.tmp 137)))
 (.alt
 (false,
 oq 139 (.call (.func 153) [.tmp 138]))
 (.q
 (false,
 .mk (some 140) none
 (.idx 1 (.tmp 121) (.tmp 124)))
 (.alt
 (false,
 .mk none none (.store 1 (.tmp 140) (.tmp 139)))
 .fin .no))
 .no))
 .no)
 .no)))))))))))))))))
 [0,7,8,9,11,12,13,14,15,16,18,19,42,43,44,70,71])
 (.seq
 (.region
 [oq 141 (.mv (.tmp 13)),oq 142 (.mv (.tmp 15)),
 oq 143 (.mv (.tmp 16)),
 oq 144 (.ibin .add (.tmp 142) (.tmp 143)),
 oq 145 (.mv (.tmp 13)),oq 146 (.mv (.tmp 15)),
 oq 147 (.mv (.tmp 16)),
 oq 148 (.ibin .add (.tmp 146) (.tmp 147)),
 oq 149 (.idx 1 (.tmp 145) (.tmp 148)),
 oq 150 (.load false 1 (.tmp 149)),
 oq 151 (.mv (.tmp 150)),
 .mk (some 152) (some (151,false)) (.mv (.tmp 8)),
 .mk (some 153) (some (151,false)) (.mv (.tmp 15)),
 .mk (some 154) (some (151,false)) (.idx 1 (.tmp 152) (.tmp 153)),
 .mk (some 155) (some (151,false)) (.load false 1 (.tmp 154)),
 .mk (some 156) (some (151,false)) (.mv (.tmp 155)),
 .mk (some 157) (some (156,true)) (.mv (.tmp 18)),
 .mk (some 158) (some (151,false))
 (.pick (.tmp 156) (.tmp 157) (.const (.bool false))),
 oq 159 (.pick (.tmp 151) (.const (.bool true)) (.tmp 158)),
 oq 160 (.idx 1 (.tmp 141) (.tmp 144)),
 .mk none none (.store 1 (.tmp 160) (.tmp 159))]
 [0,7,8,9,11,12,13,14,15,16,18,19,42,43,44,70,71])
 (.region
 [oq 161 (.mv (.tmp 14)),oq 162 (.mv (.tmp 15)),
 oq 163 (.mv (.tmp 16)),
 oq 164 (.ibin .add (.tmp 162) (.tmp 163)),
 oq 165 (.mv (.tmp 14)),oq 166 (.mv (.tmp 15)),
 oq 167 (.mv (.tmp 16)),
 oq 168 (.ibin .add (.tmp 166) (.tmp 167)),
 oq 169 (.idx 1 (.tmp 165) (.tmp 168)),
 oq 170 (.load false 1 (.tmp 169)),
 oq 171 (.mv (.tmp 170)),
 .mk (some 172) (some (171,false)) (.mv (.tmp 9)),
 .mk (some 173) (some (171,false)) (.mv (.tmp 15)),
 .mk (some 174) (some (171,false)) (.idx 1 (.tmp 172) (.tmp 173)),
 .mk (some 175) (some (171,false)) (.load false 1 (.tmp 174)),
 .mk (some 176) (some (171,false)) (.mv (.tmp 175)),
 .mk (some 177) (some (176,true)) (.mv (.tmp 18)),
 .mk (some 178) (some (171,false))
 (.pick (.tmp 176) (.tmp 177) (.const (.bool false))),
 oq 179 (.pick (.tmp 171) (.const (.bool true)) (.tmp 178)),
 oq 180 (.mv (.tmp 179)),
 .mk (some 181) (some (180,false)) (.mv (.tmp 8)),
 .mk (some 182) (some (180,false)) (.mv (.tmp 15)),
 .mk (some 183) (some (180,false)) (.idx 1 (.tmp 181) (.tmp 182)),
 .mk (some 184) (some (180,false)) (.load false 1 (.tmp 183)),
 .mk (some 185) (some (180,false)) (.mv (.tmp 184)),
 .mk (some 186) (some (185,true)) (.mv (.tmp 19)),
 .mk (some 187) (some (180,false))
 (.pick (.tmp 185) (.tmp 186) (.const (.bool false))),
 oq 188 (.pick (.tmp 180) (.const (.bool true)) (.tmp 187)),
 oq 189 (.idx 1 (.tmp 161) (.tmp 164)),
 .mk none none (.store 1 (.tmp 189) (.tmp 188))]
 [0,7,8,9,11,12,13,14,15,16,42,43,44,70,71]))
def S190_3 : Stmt :=
 .block 5
 (.seq
 (.region
 [oq 17 (.mv (.const (.int .i64 0))),
 oq 18 (.mv (.const (.bool false))),
 oq 19 (.mv (.const (.bool false)))]
 [0,7,8,9,11,12,13,14,15,16,17,18,19,42,43,44,70,71])
 (.join S190_1 S190_2 [17,18,19] [0,7,8,9,11,12,13,14,15,16,42,43,44,70,71]))
def S190_4 : Stmt :=
 .region
 [oq 82 (.mv (.tmp 16)),
 oq 83 (.ibin .add (.tmp 82) (.const (.int .i64 1))),
 oq 16 (.mv (.tmp 83))]
 [0,7,8,9,11,12,13,14,15,16,42,43,44,70,71]
def S190_5 : Stmt :=
 .seq
 (.seq
 (.region
 [oq 74 (.mv (.tmp 15)),oq 75 (.mv (.tmp 16)),
 oq 76 (.ibin .add (.tmp 74) (.tmp 75)),
 oq 77 (.mv (.tmp 0)),oq 78 (.nilCheck (.tmp 77)),
 oq 79 (.fld 4 (.tmp 78)),
 oq 80 (.load false 1 (.tmp 79)),
 oq 81 (.ibin .leq (.tmp 76) (.tmp 80))]
 [0,7,8,9,11,12,13,14,15,16,42,43,44,70,71,81])
 (.cond (.tmp 81) .skip (.exit 4)))
 (.join S190_3 S190_4 [] [0,7,8,9,11,12,13,14,15,16,42,43,44,70,71])
def S190_6 : Stmt :=
 .seq
 (.region [oq 72 (.ibin .lss (.tmp 71) (.tmp 70))]
 [0,7,8,9,11,12,13,14,42,43,44,70,71,72])
 (.seq (.cond (.tmp 72) .skip (.exit 2))
 (.seq
 (.block 3
 (.seq
 (.region
 [oq 73 (.mv (.tmp 71)),oq 15 (.mv (.tmp 73))]
 [0,7,8,9,11,12,13,14,15,42,43,44,70,71])
 (.seq
 (.region [oq 16 (.mv (.const (.int .i64 0)))]
 [0,7,8,9,11,12,13,14,15,16,42,43,44,70,71])
 (.block 4 (.loop S190_5 [16] [0,7,8,9,11,12,13,14,15,42,43,44,70,71])))))
 (.region
 [oq 190 (.ibin .add (.tmp 71) (.const (.int .i64 1))),
 oq 71 (.mv (.tmp 190))]
 [0,7,8,9,11,12,13,14,42,43,44,70,71])))
def S190_7 : Stmt :=
 .seq
 (.region [oq 45 (.ibin .lss (.tmp 44) (.tmp 43))]
 [0,7,8,9,42,43,44,45])
 (.seq (.cond (.tmp 45) .skip (.exit 0))
 (.seq
 (.block 1
 (.seq
 (.region
 [oq 46 (.idx 2 (.tmp 42) (.tmp 44)),
 oq 47 (.load true 2 (.tmp 46)),
 .mk (some 11) none
 (.alloc true 39 (.agg (Array.mk [.bool false,.int .i64 0]))),
 .mk none none (.store 2 (.tmp 11) (.tmp 47))]
 [0,7,8,9,11,42,43,44])
 (.seq
 (.tree
 (.q (false,oq 48 (.mv (.tmp 0)))
 (.q (false,oq 54 (.mv (.tmp 0)))
 (.q (false,oq 60 (.mv (.tmp 0)))
 (.q (false,oq 49 (.nilCheck (.tmp 48)))
 (.q (false,oq 55 (.nilCheck (.tmp 54)))
 (.q (false,oq 61 (.nilCheck (.tmp 60)))
 (.q (false,oq 50 (.fld 4 (.tmp 49)))
 (.q (false,oq 56 (.fld 4 (.tmp 55)))
 (.q (false,oq 62 (.fld 4 (.tmp 61)))
 (.q (false,oq 51 (.load false 1 (.tmp 50)))
 (.q (false,oq 57 (.load false 1 (.tmp 56)))
 (.q (false,oq 63 (.load false 1 (.tmp 62)))
 (.q
 (false,
 .mk (some 52) none
 (.ibin .add (.tmp 51)
 (.const (.int .i64 1))))
 (.q
 (false,
 .mk (some 58) none
 (.ibin .add (.tmp 57)
 (.const (.int .i64 1))))
 (.q
 (false,
 .mk (some 64) none
 (.ibin .add (.tmp 63)
 (.const (.int .i64 1))))
 (.alt
 (false,
 .mk (some 53) none
 (.mk 3 1 8 (.int .i64 0) (.tmp 52)
 (.tmp 52)))
 (.q (false,oq 12 (.mv (.tmp 53)))
 (.alt
 (false,
 .mk (some 59) none
 (.mk 4 1 1 (.bool false) (.tmp 58)
 (.tmp 58)))
 (.q (false,oq 13 (.mv (.tmp 59)))
 (.alt
 (false,
 .mk (some 65) none
 (.mk 4 1 1 (.bool false) (.tmp 64)
 (.tmp 64)))
 (.q (false,oq 14 (.mv (.tmp 65)))
 .fin)
 .no))
 (.alt
 (false,
 .mk (some 65) none
 (.mk 4 1 1 (.bool false) (.tmp 64)
 (.tmp 64)))
 (.alt
 (false,
 .mk (some 59) none
 (.mk 4 1 1 (.bool false) (.tmp 58)
 (.tmp 58)))
 (.q (false,oq 13 (.mv (.tmp 59)))
 (.q (false,oq 14 (.mv (.tmp 65)))
 .fin))
 .no)
 .no)))
 (.alt
 (false,
 .mk (some 59) none
 (.mk 4 1 1 (.bool false) (.tmp 58) (.tmp 58)))
 (.alt
 (false,
 .mk (some 53) none
 (.mk 3 1 8 (.int .i64 0) (.tmp 52)
 (.tmp 52)))
 (.q (false,oq 12 (.mv (.tmp 53)))
 (.q (false,oq 13 (.mv (.tmp 59)))
 (.alt
 (false,
 .mk (some 65) none
 (.mk 4 1 1 (.bool false) (.tmp 64)
 (.tmp 64)))
 (.q (false,oq 14 (.mv (.tmp 65)))
 .fin)
 .no)))
 (.alt
 (false,
 .mk (some 65) none
 (.mk 4 1 1 (.bool false) (.tmp 64)
 (.tmp 64)))
 (.alt
 (false,
 .mk (some 53) none
 (.mk 3 1 8 (.int .i64 0) (.tmp 52)
 (.tmp 52)))
 (.q (false,oq 12 (.mv (.tmp 53)))
 (.q (false,oq 13 (.mv (.tmp 59)))
 (.q
 (false,oq 14 (.mv (.tmp 65)))
 .fin)))
 .no)
 .no))
 (.alt
 (false,
 .mk (some 65) none
 (.mk 4 1 1 (.bool false) (.tmp 64)
 (.tmp 64)))
 (.alt
 (false,
 .mk (some 53) none
 (.mk 3 1 8 (.int .i64 0) (.tmp 52)
 (.tmp 52)))
 (.q (false,oq 12 (.mv (.tmp 53)))
 (.alt
 (false,
 .mk (some 59) none
 (.mk 4 1 1 (.bool false) (.tmp 58)
 (.tmp 58)))
 (.q (false,oq 13 (.mv (.tmp 59)))
 (.q
 (false,oq 14 (.mv (.tmp 65)))
 .fin))
 .no))
 (.alt
 (false,
 .mk (some 59) none
 (.mk 4 1 1 (.bool false) (.tmp 58)
 (.tmp 58)))
 (.alt
 (false,
 .mk (some 53) none
 (.mk 3 1 8 (.int .i64 0) (.tmp 52)
 (.tmp 52)))
 (.q (false,oq 12 (.mv (.tmp 53)))
 (.q
 (false,oq 13 (.mv (.tmp 59)))
 (.q
 (false,oq 14 (.mv (.tmp 65)))
 .fin)))
 .no)
 .no))
 .no))))))))))))))))))
 [0,7,8,9,11,12,13,14,42,43,44])
 (.seq
 (.seq
 (.region
 [oq 66 (.mv (.tmp 0)),
 oq 67 (.nilCheck (.tmp 66)),
 oq 68 (.fld 4 (.tmp 67)),
 oq 69 (.load false 1 (.tmp 68)),
 .mk (some 70) none
 (.ibin .add (.tmp 69) (.const (.int .i64 1))),
 oq 71 (.mv (.const (.int .i64 0)))]
 [0,7,8,9,11,12,13,14,42,43,44,70,71])
 (.block 2 (.loop S190_6 [71] [0,7,8,9,11,12,13,14,42,43,44,70])))
 (.region
 [oq 191 (.mv (.tmp 12)),oq 192 (.mv (.tmp 13)),
 oq 193 (.mv (.tmp 14)),oq 7 (.mv (.tmp 191)),
 oq 8 (.mv (.tmp 192)),oq 9 (.mv (.tmp 193))]
 [0,7,8,9,42,43,44])))))
 (.region
 [oq 194 (.ibin .add (.tmp 44) (.const (.int .i64 1))),
 oq 44 (.mv (.tmp 194))]
 [0,7,8,9,42,43,44])))
def S190_0 : Stmt :=
 .seq
 (.region
 [oq 4 (.mv (.const (.slice none 0 0))),
 oq 5 (.mv (.const (.slice none 0 0))),
 oq 6 (.mv (.const (.slice none 0 0)))]
 [0,1])
 (.seq
 (.tree
 (.q (false,oq 20 (.mv (.tmp 0)))
 (.q (false,oq 26 (.mv (.tmp 0)))
 (.q (false,oq 32 (.mv (.tmp 0)))
 (.q (false,oq 21 (.nilCheck (.tmp 20)))
 (.q (false,oq 27 (.nilCheck (.tmp 26)))
 (.q (false,oq 33 (.nilCheck (.tmp 32)))
 (.q (false,oq 22 (.fld 4 (.tmp 21)))
 (.q (false,oq 28 (.fld 4 (.tmp 27)))
 (.q (false,oq 34 (.fld 4 (.tmp 33)))
 (.q (false,oq 23 (.load false 1 (.tmp 22)))
 (.q (false,oq 29 (.load false 1 (.tmp 28)))
 (.q (false,oq 35 (.load false 1 (.tmp 34)))
 (.q
 (false,
 .mk (some 24) none
 (.ibin .add (.tmp 23) (.const (.int .i64 1))))
 (.q
 (false,
 .mk (some 30) none
 (.ibin .add (.tmp 29) (.const (.int .i64 1))))
 (.q
 (false,
 .mk (some 36) none
 (.ibin .add (.tmp 35) (.const (.int .i64 1))))
 (.alt
 (false,
 .mk (some 25) none
 (.mk 3 1 8 (.int .i64 0) (.tmp 24) (.tmp 24)))
 (.q (false,oq 7 (.mv (.tmp 25)))
 (.alt
 (false,
 .mk (some 31) none
 (.mk 4 1 1 (.bool false) (.tmp 30) (.tmp 30)))
 (.q (false,oq 8 (.mv (.tmp 31)))
 (.alt
 (false,
 .mk (some 37) none
 (.mk 4 1 1 (.bool false) (.tmp 36) (.tmp 36)))
 (.q (false,oq 9 (.mv (.tmp 37))) .fin)
 .no))
 (.alt
 (false,
 .mk (some 37) none
 (.mk 4 1 1 (.bool false) (.tmp 36) (.tmp 36)))
 (.alt
 (false,
 .mk (some 31) none
 (.mk 4 1 1 (.bool false) (.tmp 30) (.tmp 30)))
 (.q (false,oq 8 (.mv (.tmp 31)))
 (.q (false,oq 9 (.mv (.tmp 37))) .fin))
 .no)
 .no)))
 (.alt
 (false,
 .mk (some 31) none
 (.mk 4 1 1 (.bool false) (.tmp 30) (.tmp 30)))
 (.alt
 (false,
 .mk (some 25) none
 (.mk 3 1 8 (.int .i64 0) (.tmp 24)
 (.tmp 24)))
 (.q (false,oq 7 (.mv (.tmp 25)))
 (.q (false,oq 8 (.mv (.tmp 31)))
 (.alt
 (false,
 .mk (some 37) none
 (.mk 4 1 1 (.bool false) (.tmp 36) (.tmp 36)))
 (.q (false,oq 9 (.mv (.tmp 37))) .fin)
 .no)))
 (.alt
 (false,
 .mk (some 37) none
 (.mk 4 1 1 (.bool false) (.tmp 36) (.tmp 36)))
 (.alt
 (false,
 .mk (some 25) none
 (.mk 3 1 8 (.int .i64 0) (.tmp 24)
 (.tmp 24)))
 (.q (false,oq 7 (.mv (.tmp 25)))
 (.q (false,oq 8 (.mv (.tmp 31)))
 (.q (false,oq 9 (.mv (.tmp 37)))
 .fin)))
 .no)
 .no))
 (.alt
 (false,
 .mk (some 37) none
 (.mk 4 1 1 (.bool false) (.tmp 36) (.tmp 36)))
 (.alt
 (false,
 .mk (some 25) none
 (.mk 3 1 8 (.int .i64 0) (.tmp 24)
 (.tmp 24)))
 (.q (false,oq 7 (.mv (.tmp 25)))
 (.alt
 (false,
 .mk (some 31) none
 (.mk 4 1 1 (.bool false) (.tmp 30) (.tmp 30)))
 (.q (false,oq 8 (.mv (.tmp 31)))
 (.q (false,oq 9 (.mv (.tmp 37)))
 .fin))
 .no))
 (.alt
 (false,
 .mk (some 31) none
 (.mk 4 1 1 (.bool false) (.tmp 30) (.tmp 30)))
 (.alt
 (false,
 .mk (some 25) none
 (.mk 3 1 8 (.int .i64 0) (.tmp 24)
 (.tmp 24)))
 (.q (false,oq 7 (.mv (.tmp 25)))
 (.q (false,oq 8 (.mv (.tmp 31)))
 (.q (false,oq 9 (.mv (.tmp 37)))
 .fin)))
 .no)
 .no))
 .no))))))))))))))))))
 [0,1,7,8,9])
 (.seq
 (.region
 [oq 38 (.mv (.tmp 7)),oq 39 (.mv (.tmp 8)),
 oq 40 (.idx 1 (.tmp 38) (.const (.int .i64 0))),
 .mk none none (.store 1 (.tmp 40) (.const (.int .i64 1))),
 oq 41 (.idx 1 (.tmp 39) (.const (.int .i64 0))),
 .mk none none (.store 1 (.tmp 41) (.const (.bool true)))]
 [0,1,7,8,9])
 (.seq
 (.seq
 (.region
 [oq 42 (.mv (.tmp 1)),oq 43 (.len false (.tmp 42)),
 oq 44 (.mv (.const (.int .i64 0)))]
 [0,7,8,9,42,43,44])
 (.block 0 (.loop S190_7 [7,8,9,44] [0,42,43])))
 (.seq
 (.region
 [oq 195 (.mv (.tmp 7)),oq 196 (.mv (.tmp 8)),
 oq 197 (.mv (.tmp 9)),oq 4 (.mv (.tmp 195)),
 oq 5 (.mv (.tmp 196)),oq 6 (.mv (.tmp 197))]
 [4,5,6])
 .ret))))
def S190 : FnS := ⟨198,[(4,none),(5,none),(6,none)],S190_0⟩
theorem tr190 : trFn Try.prog 190 [11] [[0,1],[0,1,7,8,9],[],[2,0,2,6,2,12,2,1,2,7,2,13,2,2,2,8,2,14,2,3,2,9,2,15,2,4,2,10,2,16,3,5,2,18,3,11,2,19,3,17,2,20,0,1,3,17,3,11,2,19,2,20,0,1,1,3,11,3,5,2,18,2,19,3,17,2,20,0,1,3,17,3,5,2,18,2,19,2,20,0,1,1,3,17,3,5,2,18,3,11,2,19,2,20,0,1,3,11,3,5,2,18,2,19,2,20,0,1,1,1],[],[],[0],[0,1],[0,1,2],[0,1,2,3],[0,1,2,3,4],[],[6],[6,7],[6,7,8],[6,7,8,9],[6,7,8,9,10],[],[12],[12,13],[12,13,14],[12,13,14,15],[12,13,14,15,16],[0,1,2,3,4,5],[0,1,2,3,4,5,6,7,8,9,10,11,18],[0,1,2,3,4,5,6,7,8,9,10,11,12,13,14,15,16,17,18,19],[0,1,7,8,9],[0,7,8,9,42,43,44],[7,8,9,44],[0,42,43],[0,7,8,9,42,43,44,45],[0,7,8,9,11,42,43,44],[0,7,8,9,11,12,13,14,42,43,44],[],[2,0,2,6,2,12,2,1,2,7,2,13,2,2,2,8,2,14,2,3,2,9,2,15,2,4,2,10,2,16,3,5,2,18,3,11,2,19,3,17,2,20,0,1,3,17,3,11,2,19,2,20,0,1,1,3,11,3,5,2,18,2,19,3,17,2,20,0,1,3,17,3,5,2,18,2,19,2,20,0,1,1,3,17,3,5,2,18,3,11,2,19,2,20,0,1,3,11,3,5,2,18,2,19,2,20,0,1,1,1],[],[],[0],[0,1],[0,1,2],[0,1,2,3],[0,1,2,3,4],[],[6],[6,7],[6,7,8],[6,7,8,9],[6,7,8,9,10],[],[12],[12,13],[12,13,14],[12,13,14,15],[12,13,14,15,16],[0,1,2,3,4,5],[0,1,2,3,4,5,6,7,8,9,10,11,18],[0,1,2,3,4,5,6,7,8,9,10,11,12,13,14,15,16,17,18,19],[0,7,8,9,11,12,13,14,42,43,44,70,71],[71],[0,7,8,9,11,12,13,14,42,43,44,70],[0,7,8,9,11,12,13,14,42,43,44,70,71,72],[0,7,8,9,11,12,13,14,15,42,43,44,70,71],[0,7,8,9,11,12,13,14,15,16,42,43,44,70,71],[16],[0,7,8,9,11,12,13,14,15,42,43,44,70,71],[0,7,8,9,11,12,13,14,15,16,42,43,44,70,71,81],[],[0,7,8,9,11,12,13,14,15,16,42,43,44,70,71],[0,7,8,9,11,12,13,14,15,16,17,18,19,42,43,44,70,71],[17,18,19],[0,7,8,9,11,12,13,14,15,16,42,43,44,70,71],[0,7,8,9,11,12,13,14,15,16,17,18,19,42,43,44,70,71,85],[0,7,8,9,11,12,13,14,15,16,17,18,19,42,43,44,70,71,87],[0,7,8,9,11,12,13,14,15,16,17,18,19,42,43,44,70,71],[0,7,8,9,11,12,13,14,15,16,17,18,19,42,43,44,70,71],[0,7,8,9,11,12,13,14,15,16,18,19,42,43,44,70,71],[],[2,0,2,1,2,2,2,4,2,5,2,6,2,10,2,11,2,14,2,3,2,7,2,12,2,8,2,13,2,15,3,9,3,16,2,17,3,18,2,19,3,20,0,1,1,1,3,16,3,9,2,17,3,18,2,19,3,20,0,1,1,1,1],[],[],[],[],[1,2],[],[],[],[5,6],[4,5,6,7],[4,5,6,7,8],[],[],[10,11],[10,11,12],[],[10,11,12,13,14],[10,11,12,13,14,15],[4,5,6,7,8,9,10,11,12,13,14,15,16],[4,5,6,7,8,9,10,11,12,13,14,15,16,17],[0,1,2,3,4,5,6,7,8,9,10,11,12,13,14,15,16,17,18],[0,1,2,3,4,5,6,7,8,9,10,11,12,13,14,15,16,17,18,19],[0,7,8,9,11,12,13,14,15,16,18,19,42,43,44,70,71],[0,7,8,9,11,12,13,14,15,16,42,43,44,70,71],[0,7,8,9,11,12,13,14,15,16,42,43,44,70,71],[0,7,8,9,11,12,13,14,42,43,44,70,71],[0,7,8,9,42,43,44],[0,7,8,9,42,43,44],[4,5,6]] = some S190 := by kernel_rfl
/- parlref5.heights: row walked; no condition. -/
def htC (g : Gr) (n : Nat) (R : Option Addr) (cR bm ba bj : Nat) : List Value :=
 [.int .i64 g.ts, .int .i64 g.ns, .int .i64 g.st, .slice R g.rs.length cR, .int .i64 (n : Int), .slice (some ⟨bm, 0, none⟩) g.ns.toNat g.ns.toNat, .slice (some ⟨ba, 0, none⟩) g.ns.toNat g.ns.toNat, .slice (some ⟨bj, 0, none⟩) g.ns.toNat g.ns.toNat]
set_option maxHeartbeats 6400000 in
theorem heights_row {Γr : Ctx} {g : Gr} (V : VG g) {n : Nat} (hn : n ≤ 24) {R : Option Addr} {cR b bm ba bj : Nat} (hb : lk Γr b (.cells (htC g n R cR bm ba bj).toArray 193 (0, 0))) {T T' : Int → Nat → Nat} (hle : LeT T' T) {M : List (List Int)} {A J : List (List Bool)}
  (hI : Tri g.ns.toNat n (fun a => T (a : Int)) (fun a => T' (a : Int)) M A J) (hM : SlOk (lk Γr) (some ⟨bm, 0, none⟩) g.ns.toNat M) (hA : SlOk (lk Γr) (some ⟨ba, 0, none⟩) g.ns.toNat A) (hJ : SlOk (lk Γr) (some ⟨bj, 0, none⟩) g.ns.toNat J)
  {l : List Sy} {Al : Option Addr} {cl : Nat} (hl : SlOk (lk Γr) Al cl l) (h4 : l.length ≤ 4) (hs : ∀ s ∈ l, s.t = false → 0 ≤ s.n ∧ s.n < g.ns) :
  Ret Try.prog 190 [.pointer (some ⟨b, 0, none⟩), .slice Al l.length cl] Γr [] (fun v Γ => ∃ g1 g2 g3 b1 b2 b3 m a j, Γ = [g1, g2, g3] ∧ v = .tuple #[.slice (some ⟨b1, 0, none⟩) (n + 1) (n + 1), .slice (some ⟨b2, 0, none⟩) (n + 1) (n + 1), .slice (some ⟨b3, 0, none⟩) (n + 1) (n + 1)] ∧
   Arr g1 b1 3 m ∧ Arr g2 b2 4 a ∧ Arr g3 b3 4 j ∧ Row3 n (rowT T l) (rowT T' l) m a j) := by
 generalize hR : (fun (v : Value) (Γ : Ctx) => ∃ g1 g2 g3 b1 b2 b3 m a j, _) = R'
 refine ret_of_vc tr190 (Nat.le_of_ble_eq_true rfl) ?_
 simp -implicitDefEqProofs only [S190, S190_0, go_sem,zA,zB,zC,zD,zE,reduceCtorEq,↓reduceIte,zF,zG,zH,zI]
 have hw : IntKind.i64.wrap ((n : Int) + 1) = ((n + 1 : Nat) : Int) := by rw [wrap_id (by omega) (by omega)]; rfl
 refine ⟨[], [], fun ψ Γ' => ∃ (g7 g8 g9 : PH) (b7 b8 b9 : Nat), ψ = [(0, .v true (.pointer (some ⟨b, 0, none⟩))), (1, .v true (.slice Al l.length cl)), (7, .v true (.slice (some ⟨b7, 0, none⟩) (n + 1) (n + 1))), (8, .v true (.slice (some ⟨b8, 0, none⟩) (n + 1) (n + 1))), (9, .v true (.slice (some ⟨b9, 0, none⟩) (n + 1) (n + 1)))] ∧
  Γ' = [g7, g8, g9] ∧ Arr g7 b7 3 (List.replicate (n + 1) (0 : Int)) ∧ Arr g8 b8 4 (List.replicate (n + 1) false) ∧ Arr g9 b9 4 (List.replicate (n + 1) false), Ent.refl _, ?_, ?_⟩
 ·simp -implicitDefEqProofs only [hw, go_sem,zA,zB,zC,zD,zE,reduceCtorEq,↓reduceIte,zF,zG,zH,zI]
  repeat' first
   | with_reducible exact True.intro
   | with_reducible refine And.intro ?_ ?_
   | with_reducible intro bk
   | (refine s_ld (j := 4) (cells_lk (lk_r [] _ _ _ hb)) (by simp [htC]) (by simp) ?_)
   | omega
   | simp -implicitDefEqProofs only [hw, htC, go_sem,zA,zB,zC,zD,zE,reduceCtorEq,↓reduceIte,zF,zG,zH,zI]
  all_goals first
   | exact Up.sel [[0], [1], [2]] (by decide) fun _ _ => ⟨_, _, _, _, _, _, rfl, rfl, Arr.made (0 : Int) _ 3 (n + 1), Arr.made false _ 4 (n + 1), Arr.made false _ 4 (n + 1)⟩
   | exact Up.sel [[0], [2], [1]] (by decide) fun _ _ => ⟨_, _, _, _, _, _, rfl, rfl, Arr.made (0 : Int) _ 3 (n + 1), Arr.made false _ 4 (n + 1), Arr.made false _ 4 (n + 1)⟩
   | exact Up.sel [[1], [0], [2]] (by decide) fun _ _ => ⟨_, _, _, _, _, _, rfl, rfl, Arr.made (0 : Int) _ 3 (n + 1), Arr.made false _ 4 (n + 1), Arr.made false _ 4 (n + 1)⟩
   | exact Up.sel [[1], [2], [0]] (by decide) fun _ _ => ⟨_, _, _, _, _, _, rfl, rfl, Arr.made (0 : Int) _ 3 (n + 1), Arr.made false _ 4 (n + 1), Arr.made false _ 4 (n + 1)⟩
   | exact Up.sel [[2], [0], [1]] (by decide) fun _ _ => ⟨_, _, _, _, _, _, rfl, rfl, Arr.made (0 : Int) _ 3 (n + 1), Arr.made false _ 4 (n + 1), Arr.made false _ 4 (n + 1)⟩
   | exact Up.sel [[2], [1], [0]] (by decide) fun _ _ => ⟨_, _, _, _, _, _, rfl, rfl, Arr.made (0 : Int) _ 3 (n + 1), Arr.made false _ 4 (n + 1), Arr.made false _ 4 (n + 1)⟩
 ·rintro ψ Γ' ⟨g7, g8, g9, b7, b8, b9, rfl, rfl, h7, h8, h9⟩
  simp -implicitDefEqProofs only [go_sem,zA,zB,zC,zD,zE,reduceCtorEq,↓reduceIte,zF,zG,zH,zI]
  refine s_idx rfl (by omega) (by omega) ?_
  simp -implicitDefEqProofs only [go_sem,zA,zB,zC,zD,zE,reduceCtorEq,↓reduceIte,zF,zG,zH,zI]
  refine s_storeA (ix := 0) (α := Int) 1 rfl h7 (i := 0) (by simp) ?_
  intro g7' h7' _
  simp -implicitDefEqProofs only [go_sem,zA,zB,zC,zD,zE,reduceCtorEq,↓reduceIte,zF,zG,zH,zI]
  refine s_idx rfl (by omega) (by omega) ?_
  simp -implicitDefEqProofs only [go_sem,zA,zB,zC,zD,zE,reduceCtorEq,↓reduceIte,zF,zG,zH,zI]
  refine s_storeA (ix := 1) (α := Bool) true rfl h8 (i := 0) (by simp) ?_
  intro g8' h8' _
  simp -implicitDefEqProofs only [go_sem,zA,zB,zC,zD,zE,reduceCtorEq,↓reduceIte,zF,zG,zH,zI]
  refine s_loop (fun f vs Γ => ∃ (g1 g2 g3 : PH) (b1 b2 b3 : Nat) (m : List Int) (a j : List Bool) (i : Nat), vs = [.v true (.slice (some ⟨b1, 0, none⟩) (n + 1) (n + 1)), .v true (.slice (some ⟨b2, 0, none⟩) (n + 1) (n + 1)), .v true (.slice (some ⟨b3, 0, none⟩) (n + 1) (n + 1)), .v true (.int .i64 (i : Int))] ∧
    Γ = [g1, g2, g3] ∧ i + f = l.length ∧ Arr g1 b1 3 m ∧ Arr g2 b2 4 a ∧ Arr g3 b3 4 j ∧ Row3 n (preT T oneT (l.take i)) (preT T' oneT (l.take i)) m a j) l.length
   (Up.here ⟨g7', g8', g9, b7, b8, b9, _, _, _, 0, rfl, rfl, by omega, h7', h8', h9, Row3.one n⟩) ?_
  clear h7 h8 h9 h7' h8'
  rintro f vs Γ ⟨g1, g2, g3, b1, b2, b3, m, a, j, i, rfl, rfl, hif, h1, h2, h3, hRow⟩
  simp -implicitDefEqProofs only [S190_7, go_sem,zA,zB,zC,zD,zE,reduceCtorEq,↓reduceIte,zF,zG,zH,zI]
  refine ⟨fun hlt => ?_, fun hge => ?_⟩
  ·have hi : i < l.length := by omega
   have htk : l.take (i + 1) = l.take i ++ [l[i]] := List.take_succ_eq_append_getElem hi
   have hsr := hs _ (List.getElem_mem hi)
   obtain ⟨b0, o0, h0, hc0⟩ := hl.sy hi
   have hpre := preT_le hle (l.take i) (acc := oneT) (acc' := oneT) (fun _ => Nat.le_refl _)
   have hp1 : preT T oneT (l.take (i + 1)) = convT T (preT T oneT (l.take i)) l[i] := by rw [htk, preT_snoc]
   have hp2 : preT T' oneT (l.take (i + 1)) = convT T' (preT T' oneT (l.take i)) l[i] := by rw [htk, preT_snoc]
   generalize l[i] = s at *
   generalize preT T oneT (l.take i) = P at *
   generalize preT T' oneT (l.take i) = P' at *
   refine s_idx h0 (by omega) (by omega) ?_
   simp -implicitDefEqProofs only [go_sem,zA,zB,zC,zD,zE,reduceCtorEq,↓reduceIte,zF,zG,zH,zI]
   refine s_ld0 (by simpa using hc0 _ (lk_r [g1, g2, g3] _)) (by simp) (by simp) ?_
   simp -implicitDefEqProofs only [go_sem,zA,zB,zC,zD,zE,reduceCtorEq,↓reduceIte,zF,zG,zH,zI]
   intro bs
   refine ⟨[g1, g2, g3], [], fun ψ Γ' => ∃ (g4 g5 g6 : PH) (b4 b5 b6 : Nat), ψ = [(0, .v true (.pointer (some ⟨b, 0, none⟩))), (7, .v true (.slice (some ⟨b1, 0, none⟩) (n + 1) (n + 1))), (8, .v true (.slice (some ⟨b2, 0, none⟩) (n + 1) (n + 1))), (9, .v true (.slice (some ⟨b3, 0, none⟩) (n + 1) (n + 1))), (11, .box bs 39 [.bool s.t, .int .i64 s.n]),
     (12, .v true (.slice (some ⟨b4, 0, none⟩) (n + 1) (n + 1))), (13, .v true (.slice (some ⟨b5, 0, none⟩) (n + 1) (n + 1))), (14, .v true (.slice (some ⟨b6, 0, none⟩) (n + 1) (n + 1))), (42, .v true (.slice Al l.length cl)), (43, .v true (.int .i64 (l.length : Int))), (44, .v true (.int .i64 (i : Int)))] ∧
    Γ' = [g4, g5, g6, g1, g2, g3] ∧ Arr g4 b4 3 (List.replicate (n + 1) (0 : Int)) ∧ Arr g5 b5 4 (List.replicate (n + 1) false) ∧ Arr g6 b6 4 (List.replicate (n + 1) false), Ent.refl _, ?_, ?_⟩
   ·simp -implicitDefEqProofs only [hw, go_sem,zA,zB,zC,zD,zE,reduceCtorEq,↓reduceIte,zF,zG,zH,zI]
    repeat' first
     | with_reducible exact True.intro
     | with_reducible refine And.intro ?_ ?_
     | with_reducible intro bk
     | (refine s_ld (j := 4) (cells_lk (lk_r [g1, g2, g3] _ _ _ hb)) (by simp [htC]) (by simp) ?_)
     | omega
     | simp -implicitDefEqProofs only [hw, htC, go_sem,zA,zB,zC,zD,zE,reduceCtorEq,↓reduceIte,zF,zG,zH,zI]
    all_goals first
    | exact Up.sel [[0], [1], [2], [3], [4], [5]] (by decide) fun _ _ => ⟨_, _, _, _, _, _, rfl, rfl, Arr.made (0 : Int) _ 3 (n + 1), Arr.made false _ 4 (n + 1), Arr.made false _ 4 (n + 1)⟩
    | exact Up.sel [[0], [2], [1], [3], [4], [5]] (by decide) fun _ _ => ⟨_, _, _, _, _, _, rfl, rfl, Arr.made (0 : Int) _ 3 (n + 1), Arr.made false _ 4 (n + 1), Arr.made false _ 4 (n + 1)⟩
    | exact Up.sel [[1], [0], [2], [3], [4], [5]] (by decide) fun _ _ => ⟨_, _, _, _, _, _, rfl, rfl, Arr.made (0 : Int) _ 3 (n + 1), Arr.made false _ 4 (n + 1), Arr.made false _ 4 (n + 1)⟩
    | exact Up.sel [[1], [2], [0], [3], [4], [5]] (by decide) fun _ _ => ⟨_, _, _, _, _, _, rfl, rfl, Arr.made (0 : Int) _ 3 (n + 1), Arr.made false _ 4 (n + 1), Arr.made false _ 4 (n + 1)⟩
    | exact Up.sel [[2], [0], [1], [3], [4], [5]] (by decide) fun _ _ => ⟨_, _, _, _, _, _, rfl, rfl, Arr.made (0 : Int) _ 3 (n + 1), Arr.made false _ 4 (n + 1), Arr.made false _ 4 (n + 1)⟩
    | exact Up.sel [[2], [1], [0], [3], [4], [5]] (by decide) fun _ _ => ⟨_, _, _, _, _, _, rfl, rfl, Arr.made (0 : Int) _ 3 (n + 1), Arr.made false _ 4 (n + 1), Arr.made false _ 4 (n + 1)⟩
   ·rintro ψ Γ' ⟨g4, g5, g6, b4, b5, b6, rfl, rfl, h4', h5, h6⟩
    simp -implicitDefEqProofs only [go_sem,zA,zB,zC,zD,zE,reduceCtorEq,↓reduceIte,zF,zG,zH,zI]
    refine s_ld (j := 4) (cells_lk (lk_r [g4, g5, g6, g1, g2, g3] _ _ _ hb)) (by simp [htC]) (by simp) ?_
    simp -implicitDefEqProofs only [hw, htC, go_sem,zA,zB,zC,zD,zE,reduceCtorEq,↓reduceIte,zF,zG,zH,zI]
    refine s_loop (fun f2 vs Γ => ∃ (g4 g5 g6 : PH) (m2 : List Int) (a2 j2 : List Bool) (x : Nat), vs = [.v true (.int .i64 (x : Int))] ∧
      Γ = [g4, g5, g6, g1, g2, g3] ∧ x + f2 = n + 1 ∧ Arr g4 b4 3 m2 ∧ Arr g5 b5 4 a2 ∧ Arr g6 b6 4 j2 ∧ Row3 n (accX P T s x 0) (accX P' T' s x 0) m2 a2 j2) (n + 1)
     (Up.here ⟨g4, g5, g6, _, _, _, 0, rfl, rfl, by omega, h4', h5, h6, (Row3.zero n).congr (fun k _ => (accX_zero P T s k).symm) (fun k _ => (accX_zero P' T' s k).symm)⟩) ?_
    clear h4' h5 h6
    rintro f2 vs Γ ⟨g4, g5, g6, m2, a2, j2, x, rfl, rfl, hxf, h4', h5, h6, hAcc⟩
    simp -implicitDefEqProofs only [S190_6, go_sem,zA,zB,zC,zD,zE,reduceCtorEq,↓reduceIte,zF,zG,zH,zI]
    refine ⟨fun hlt => ?_, fun hge => ?_⟩
    ·have hx : x ≤ n := by omega
     refine s_loop (fun f3 vs Γ => ∃ (g4 g5 g6 : PH) (m2 : List Int) (a2 j2 : List Bool) (y : Nat), vs = [.v true (.int .i64 (y : Int))] ∧
       Γ = [g4, g5, g6, g1, g2, g3] ∧ x + y + f3 = n + 1 ∧ Arr g4 b4 3 m2 ∧ Arr g5 b5 4 a2 ∧ Arr g6 b6 4 j2 ∧ Row3 n (accX P T s x y) (accX P' T' s x y) m2 a2 j2) (n + 1 - x)
      (Up.here ⟨g4, g5, g6, _, _, _, 0, rfl, rfl, by omega, h4', h5, h6, hAcc⟩) ?_
     clear h4' h5 h6 hAcc
     rintro f3 vs Γ ⟨g4, g5, g6, m2, a2, j2, y, rfl, rfl, hyf, h4', h5, h6, hAcc⟩
     have hw2 : IntKind.i64.wrap ((x : Int) + (y : Int)) = ((x + y : Nat) : Int) := by rw [wrap_id (by omega) (by omega)]; rfl
     simp -implicitDefEqProofs only [S190_5, hw2, go_sem,zA,zB,zC,zD,zE,reduceCtorEq,↓reduceIte,zF,zG,zH,zI]
     refine s_ld (j := 4) (cells_lk (lk_r [g4, g5, g6, g1, g2, g3] _ _ _ hb)) (by simp [htC]) (by simp) ?_
     simp -implicitDefEqProofs only [htC, go_sem,zA,zB,zC,zD,zE,reduceCtorEq,↓reduceIte,zF,zG,zH,zI]
     refine ⟨fun hlt => ?_, fun hge => ?_⟩
     ·have hxy : x + y ≤ n := by omega
      refine s_join (fun vs Γ => vs = [] ∧ ∃ (g4 g5 g6 : PH) (m2 : List Int) (a2 j2 : List Bool), Γ = [g4, g5, g6, g1, g2, g3] ∧ Arr g4 b4 3 m2 ∧ Arr g5 b5 4 a2 ∧ Arr g6 b6 4 j2 ∧ Row3 n (accX P T s x (y + 1)) (accX P' T' s x (y + 1)) m2 a2 j2) ?_ ?_
      ·simp -implicitDefEqProofs only [S190_3, go_sem,zA,zB,zC,zD,zE,reduceCtorEq,↓reduceIte,zF,zG,zH,zI]
       refine s_join (fun vs Γ => Γ = [g4, g5, g6, g1, g2, g3] ∧ ∃ (c : Int) (hv tp : Bool), vs = [.v true (.int .i64 c), .v true (.bool hv), .v true (.bool tp)] ∧ SymV T T' s y c hv tp) ?_ ?_
       ·obtain ⟨st, sn⟩ := s
        cases st with
        | true =>
         have hsy := SymV.term T T' sn y
         simp -implicitDefEqProofs only [S190_1, go_sem,zA,zB,zC,zD,zE,reduceCtorEq,↓reduceIte,zF,zG,zH,zI]
         refine ⟨fun hy1 => Up.here ⟨rfl, _, _, _, rfl, ?_⟩, fun hy1 => Up.here ⟨rfl, _, _, _, rfl, ?_⟩⟩
         ·have : y = 1 := by omega
          simpa [this] using hsy
         ·have : ¬ y = 1 := by omega
          simpa [this] using hsy
        | false =>
         have hsr := hsr rfl
         obtain ⟨q, rfl⟩ : ∃ q : Nat, sn = q := ⟨sn.toNat, by simp at hsr; omega⟩
         have hq : q < g.ns.toNat := by simp at hsr; omega
         have hMl := hI.m.1
         have hAl := hI.a.1
         have hJl := hI.j.1
         have hMr := hI.m.at' (i := q) (by omega)
         have hAr := hI.a.at' (i := q) (by omega)
         have hJr := hI.j.at' (i := q) (by omega)
         obtain ⟨v1, v2, v3⟩ := hI.at' q y hq (by omega)
         rw [matI_get (List.getElem?_eq_getElem (show q < M.length by omega)) (show y < M[q].length by omega)] at v1
         rw [mat_get (List.getElem?_eq_getElem (show q < A.length by omega)) (show y < A[q].length by omega)] at v2
         rw [mat_get (List.getElem?_eq_getElem (show q < J.length by omega)) (show y < J[q].length by omega)] at v3
         obtain ⟨k1, o1, p1, Q1, r1, w1, z1⟩ := hM.list (i := q) (by omega)
         obtain ⟨k2, o2, p2, Q2, r2, w2, z2⟩ := hA.list (i := q) (by omega)
         obtain ⟨k3, o3, p3, Q3, r3, w3, z3⟩ := hJ.list (i := q) (by omega)
         obtain ⟨k4, o4, p4, z4⟩ := w1.int (i := y) (by omega)
         obtain ⟨k5, o5, p5, z5⟩ := w2.bool (i := y) (by omega)
         obtain ⟨k6, o6, p6, z6⟩ := w3.bool (i := y) (by omega)
         simp -implicitDefEqProofs only [S190_1, go_sem,zA,zB,zC,zD,zE,reduceCtorEq,↓reduceIte,zF,zG,zH,zI]
         refine s_ld (j := 5) (cells_lk (lk_r [g4, g5, g6, g1, g2, g3] _ _ _ hb)) (by simp [htC]) (by simp) ?_
         simp -implicitDefEqProofs only [htC, go_sem,zA,zB,zC,zD,zE,reduceCtorEq,↓reduceIte,zF,zG,zH,zI]
         refine s_idx p1 (by omega) (by omega) ?_
         simp -implicitDefEqProofs only [go_sem,zA,zB,zC,zD,zE,reduceCtorEq,↓reduceIte,zF,zG,zH,zI]
         refine s_ld0 (z1 _ (lk_r [g4, g5, g6, g1, g2, g3] _)) (by simp) (by simp) ?_
         simp -implicitDefEqProofs only [go_sem,zA,zB,zC,zD,zE,reduceCtorEq,↓reduceIte,zF,zG,zH,zI]
         refine s_idx p4 (by omega) (by omega) ?_
         simp -implicitDefEqProofs only [go_sem,zA,zB,zC,zD,zE,reduceCtorEq,↓reduceIte,zF,zG,zH,zI]
         refine s_ld0 (z4 _ (lk_r [g4, g5, g6, g1, g2, g3] _)) (by simp) (by simp) ?_
         simp -implicitDefEqProofs only [go_sem,zA,zB,zC,zD,zE,reduceCtorEq,↓reduceIte,zF,zG,zH,zI]
         refine s_ld (j := 6) (cells_lk (lk_r [g4, g5, g6, g1, g2, g3] _ _ _ hb)) (by simp [htC]) (by simp) ?_
         simp -implicitDefEqProofs only [htC, go_sem,zA,zB,zC,zD,zE,reduceCtorEq,↓reduceIte,zF,zG,zH,zI]
         refine s_idx p2 (by omega) (by omega) ?_
         simp -implicitDefEqProofs only [go_sem,zA,zB,zC,zD,zE,reduceCtorEq,↓reduceIte,zF,zG,zH,zI]
         refine s_ld0 (z2 _ (lk_r [g4, g5, g6, g1, g2, g3] _)) (by simp) (by simp) ?_
         simp -implicitDefEqProofs only [go_sem,zA,zB,zC,zD,zE,reduceCtorEq,↓reduceIte,zF,zG,zH,zI]
         refine s_idx p5 (by omega) (by omega) ?_
         simp -implicitDefEqProofs only [go_sem,zA,zB,zC,zD,zE,reduceCtorEq,↓reduceIte,zF,zG,zH,zI]
         refine s_ld0 (z5 _ (lk_r [g4, g5, g6, g1, g2, g3] _)) (by simp) (by simp) ?_
         simp -implicitDefEqProofs only [go_sem,zA,zB,zC,zD,zE,reduceCtorEq,↓reduceIte,zF,zG,zH,zI]
         refine s_ld (j := 7) (cells_lk (lk_r [g4, g5, g6, g1, g2, g3] _ _ _ hb)) (by simp [htC]) (by simp) ?_
         simp -implicitDefEqProofs only [htC, go_sem,zA,zB,zC,zD,zE,reduceCtorEq,↓reduceIte,zF,zG,zH,zI]
         refine s_idx p3 (by omega) (by omega) ?_
         simp -implicitDefEqProofs only [go_sem,zA,zB,zC,zD,zE,reduceCtorEq,↓reduceIte,zF,zG,zH,zI]
         refine s_ld0 (z3 _ (lk_r [g4, g5, g6, g1, g2, g3] _)) (by simp) (by simp) ?_
         simp -implicitDefEqProofs only [go_sem,zA,zB,zC,zD,zE,reduceCtorEq,↓reduceIte,zF,zG,zH,zI]
         refine s_idx p6 (by omega) (by omega) ?_
         simp -implicitDefEqProofs only [go_sem,zA,zB,zC,zD,zE,reduceCtorEq,↓reduceIte,zF,zG,zH,zI]
         refine s_ld0 (z6 _ (lk_r [g4, g5, g6, g1, g2, g3] _)) (by simp) (by simp) ?_
         simp -implicitDefEqProofs only [go_sem,zA,zB,zC,zD,zE,reduceCtorEq,↓reduceIte,zF,zG,zH,zI]
         exact Up.here ⟨rfl, _, _, _, rfl, v1, v2, v3⟩
       ·rintro vs Γ' ⟨rfl, c, hv, tp, rfl, hsy⟩
        obtain ⟨e1, e2, e3⟩ := hRow.get hx (by rw [hRow.ml]; omega) (by rw [hRow.al]; omega) (by rw [hRow.jl]; omega)
        obtain ⟨e4, e5, e6⟩ := hAcc.get hxy (by rw [hAcc.ml]; omega) (by rw [hAcc.al]; omega) (by rw [hAcc.jl]; omega)
        have hml := hRow.ml
        have hal := hRow.al
        have hjl := hRow.jl
        have hml2 := hAcc.ml
        have hal2 := hAcc.al
        have hjl2 := hAcc.jl
        obtain rfl := hsy.c
        have hq1 := capN_mul_le (P x) (symT T s y)
        have hq2 := capN_le (accX P T s x y (x + y))
        have hq3 := capN_le (P x * symT T s y)
        have hw3 : IntKind.i64.wrap (((capN (P x) : Nat) : Int) * ((capN (symT T s y) : Nat) : Int)) = ((capN (P x) * capN (symT T s y) : Nat) : Int) := by rw [← Int.natCast_mul, wrap_id (by omega) (by omega)]
        have hw4 : IntKind.i64.wrap (((capN (accX P T s x y (x + y)) : Nat) : Int) + ((capN (P x * symT T s y) : Nat) : Int)) = ((capN (accX P T s x y (x + y)) + capN (P x * symT T s y) : Nat) : Int) := by rw [← Int.natCast_add, wrap_id (by omega) (by omega)]
        have hcm : ∀ Γ : Ctx, g1 ∈ Γ → Cells Γ b1 x [.int .i64 ((capN (P x) : Nat) : Int)] := fun Γ hg => by
         have := h1.num (i := x) (by omega) hg
         rwa [e1] at this
        have hcm2 : ∀ Γ : Ctx, g4 ∈ Γ → Cells Γ b4 (x + y) [.int .i64 ((capN (accX P T s x y (x + y)) : Nat) : Int)] := fun Γ hg => by
         have := h4'.num (i := x + y) (by omega) hg
         rwa [e4] at this
        simp -implicitDefEqProofs only [S190_2, hw2, go_sem,zA,zB,zC,zD,zE,reduceCtorEq,↓reduceIte,zF,zG,zH,zI]
        refine ⟨[g4, g5, g6, g1, g2, g3], [], fun ψ Γ' => ∃ (g4' : PH), ψ = [(0, .v true (.pointer (some ⟨b, 0, none⟩))), (7, .v true (.slice (some ⟨b1, 0, none⟩) (n + 1) (n + 1))), (8, .v true (.slice (some ⟨b2, 0, none⟩) (n + 1) (n + 1))), (9, .v true (.slice (some ⟨b3, 0, none⟩) (n + 1) (n + 1))), (11, .box bs 39 [.bool s.t, .int .i64 s.n]),
          (12, .v true (.slice (some ⟨b4, 0, none⟩) (n + 1) (n + 1))), (13, .v true (.slice (some ⟨b5, 0, none⟩) (n + 1) (n + 1))), (14, .v true (.slice (some ⟨b6, 0, none⟩) (n + 1) (n + 1))), (15, .v true (.int .i64 (x : Int))), (16, .v true (.int .i64 (y : Int))), (18, .v true (.bool hv)), (19, .v true (.bool tp)), (42, .v true (.slice Al l.length cl)), (43, .v true (.int .i64 (l.length : Int))), (44, .v true (.int .i64 (i : Int))),
          (70, .v true (.int .i64 ((n + 1 : Nat) : Int))), (71, .v true (.int .i64 (x : Int)))] ∧ Γ' = [g4', g5, g6, g1, g2, g3] ∧ Arr g4' b4 3 (m2.set (x + y) ((capN (accX P T s x y (x + y) + P x * symT T s y) : Nat) : Int)), Ent.refl _, ?_, ?_⟩
        ·simp -implicitDefEqProofs only [hw2, go_sem,zA,zB,zC,zD,zE,reduceCtorEq,↓reduceIte,zF,zG,zH,zI]
         refine s_idx rfl (by omega) (by omega) ?_
         simp -implicitDefEqProofs only [go_sem,zA,zB,zC,zD,zE,reduceCtorEq,↓reduceIte,zF,zG,zH,zI]
         refine s_idx rfl (by omega) (by omega) ?_
         simp -implicitDefEqProofs only [go_sem,zA,zB,zC,zD,zE,reduceCtorEq,↓reduceIte,zF,zG,zH,zI]
         refine s_ld0 (by simpa using hcm _ (by simp)) (by simp) (by simp) ?_
         simp -implicitDefEqProofs only [hw3, go_sem,zA,zB,zC,zD,zE,reduceCtorEq,↓reduceIte,zF,zG,zH,zI]
         repeat' first
          | with_reducible exact True.intro
          | with_reducible refine And.intro ?_ ?_
          | with_reducible intro bk
          | (refine s_ld0 (by simpa using hcm2 _ (by simp)) (by simp) (by simp) ?_)
          | (refine CallVC.read (ref_capped (capN (P x) * capN (symT T s y)) (by omega)) ?_; rintro v Γ' ⟨rfl, rfl⟩; rw [capN_mul])
          | (refine CallVC.read (ref_capped (capN (accX P T s x y (x + y)) + capN (P x * symT T s y)) (by omega)) ?_; rintro v Γ' ⟨rfl, rfl⟩; rw [capN_add])
          | (refine s_idx rfl (by omega) (by omega) ?_)
          | (refine s_storeA (ix := 0) (α := Int) ((capN (accX P T s x y (x + y) + P x * symT T s y) : Nat) : Int) rfl h4' (i := x + y) (by omega) ?_; intro g4' h4n _)
          | simp -implicitDefEqProofs only [hw4, go_sem,zA,zB,zC,zD,zE,reduceCtorEq,↓reduceIte,zF,zG,zH,zI]
         all_goals exact Up.here ⟨g4', rfl, h4n⟩
        ·rintro ψ Γ' ⟨g4', rfl, rfl, h4n⟩
         clear hcm hcm2 hw3 hw4 h4'
         have hc5 : ∀ Γ : Ctx, g5 ∈ Γ → Cells Γ b5 (x + y) [.bool a2[x + y]] := fun Γ hg => h5.bool (by omega) hg
         have hc6 : ∀ Γ : Ctx, g6 ∈ Γ → Cells Γ b6 (x + y) [.bool j2[x + y]] := fun Γ hg => h6.bool (by omega) hg
         have hc2 : ∀ Γ : Ctx, g2 ∈ Γ → Cells Γ b2 x [.bool a[x]] := fun Γ hg => h2.bool (by omega) hg
         have hc3 : ∀ Γ : Ctx, g3 ∈ Γ → Cells Γ b3 x [.bool j[x]] := fun Γ hg => h3.bool (by omega) hg
         generalize a2[x + y] = a0 at *
         generalize j2[x + y] = j0 at *
         generalize a[x] = ax at *
         generalize j[x] = jx at *
         have hfin := fun (ab jb : Bool) => row_step (ab := ab) (jb := jb) hpre hle hxy hAcc hsy rfl e2 e3 e5 e6
         clear e1 e2 e3 e4 e5 e6
         simp -implicitDefEqProofs only [hw2, go_sem,zA,zB,zC,zD,zE,reduceCtorEq,↓reduceIte,zF,zG,zH,zI]
         refine s_idx rfl (by omega) (by omega) ?_
         simp -implicitDefEqProofs only [go_sem,zA,zB,zC,zD,zE,reduceCtorEq,↓reduceIte,zF,zG,zH,zI]
         refine s_ld0 (by simpa using hc5 _ (by simp)) (by simp) (by simp) ?_
         cases a0 with
         | true =>
          simp -implicitDefEqProofs only [go_sem,zA,zB,zC,zD,zE,reduceCtorEq,↓reduceIte,zF,zG,zH,zI]
          refine s_idxg (b := 0) (o := 0) (by simp) ?_
          simp -implicitDefEqProofs only [go_sem,zA,zB,zC,zD,zE,reduceCtorEq,↓reduceIte,zF,zG,zH,zI]
          refine s_ldg0 (cs := [.bool false]) (by simp) (by simp) (by simp) (by simp) ?_
          simp -implicitDefEqProofs only [go_sem,zA,zB,zC,zD,zE,reduceCtorEq,↓reduceIte,zF,zG,zH,zI]
          refine s_idx rfl (by omega) (by omega) ?_
          simp -implicitDefEqProofs only [go_sem,zA,zB,zC,zD,zE,reduceCtorEq,↓reduceIte,zF,zG,zH,zI]
          refine s_storeA (ix := 1) (α := Bool) true rfl h5 (i := x + y) (by omega) ?_
          intro g5n h5n _
          simp -implicitDefEqProofs only [hw2, go_sem,zA,zB,zC,zD,zE,reduceCtorEq,↓reduceIte,zF,zG,zH,zI]
          refine s_idx rfl (by omega) (by omega) ?_
          simp -implicitDefEqProofs only [go_sem,zA,zB,zC,zD,zE,reduceCtorEq,↓reduceIte,zF,zG,zH,zI]
          refine s_ld0 (by simpa using hc6 _ (by simp)) (by simp) (by simp) ?_
          cases j0 with
          | true =>
           simp -implicitDefEqProofs only [go_sem,zA,zB,zC,zD,zE,reduceCtorEq,↓reduceIte,zF,zG,zH,zI]
           refine s_idxg (b := 0) (o := 0) (by simp) ?_
           simp -implicitDefEqProofs only [go_sem,zA,zB,zC,zD,zE,reduceCtorEq,↓reduceIte,zF,zG,zH,zI]
           refine s_ldg0 (cs := [.bool false]) (by simp) (by simp) (by simp) (by simp) ?_
           simp -implicitDefEqProofs only [go_sem,zA,zB,zC,zD,zE,reduceCtorEq,↓reduceIte,zF,zG,zH,zI]
           refine s_idxg (b := 0) (o := 0) (by simp) ?_
           simp -implicitDefEqProofs only [go_sem,zA,zB,zC,zD,zE,reduceCtorEq,↓reduceIte,zF,zG,zH,zI]
           refine s_ldg0 (cs := [.bool false]) (by simp) (by simp) (by simp) (by simp) ?_
           simp -implicitDefEqProofs only [go_sem,zA,zB,zC,zD,zE,reduceCtorEq,↓reduceIte,zF,zG,zH,zI]
           refine s_idx rfl (by omega) (by omega) ?_
           simp -implicitDefEqProofs only [go_sem,zA,zB,zC,zD,zE,reduceCtorEq,↓reduceIte,zF,zG,zH,zI]
           refine s_storeA (ix := 2) (α := Bool) true rfl h6 (i := x + y) (by omega) ?_
           intro g6n h6n _
           simp -implicitDefEqProofs only [go_sem,zA,zB,zC,zD,zE,reduceCtorEq,↓reduceIte,zF,zG,zH,zI]
           exact Up.here ⟨g4', g5n, g6n, _, _, _, rfl, h4n, h5n, h6n, hfin true true (by simp) (by simp_all)⟩
          | false =>
           simp -implicitDefEqProofs only [go_sem,zA,zB,zC,zD,zE,reduceCtorEq,↓reduceIte,zF,zG,zH,zI]
           refine s_idx rfl (by omega) (by omega) ?_
           simp -implicitDefEqProofs only [go_sem,zA,zB,zC,zD,zE,reduceCtorEq,↓reduceIte,zF,zG,zH,zI]
           refine s_ld0 (by simpa using hc3 _ (by simp)) (by simp) (by simp) ?_
           simp -implicitDefEqProofs only [go_sem,zA,zB,zC,zD,zE,reduceCtorEq,↓reduceIte,zF,zG,zH,zI]
           have hbb : ∀ bb, (jx && hv) = bb → (bb = true ↔ jx = true ∧ hv = true) := fun bb e => by rw [← e]; simp
           generalize (jx && hv) = bb at *
           have hbb := hbb bb rfl
           cases bb with
           | true =>
            simp -implicitDefEqProofs only [go_sem,zA,zB,zC,zD,zE,reduceCtorEq,↓reduceIte,zF,zG,zH,zI]
            refine s_idxg (b := 0) (o := 0) (by simp) ?_
            simp -implicitDefEqProofs only [go_sem,zA,zB,zC,zD,zE,reduceCtorEq,↓reduceIte,zF,zG,zH,zI]
            refine s_ldg0 (cs := [.bool false]) (by simp) (by simp) (by simp) (by simp) ?_
            simp -implicitDefEqProofs only [go_sem,zA,zB,zC,zD,zE,reduceCtorEq,↓reduceIte,zF,zG,zH,zI]
            refine s_idx rfl (by omega) (by omega) ?_
            simp -implicitDefEqProofs only [go_sem,zA,zB,zC,zD,zE,reduceCtorEq,↓reduceIte,zF,zG,zH,zI]
            refine s_storeA (ix := 2) (α := Bool) true rfl h6 (i := x + y) (by omega) ?_
            intro g6n h6n _
            simp -implicitDefEqProofs only [go_sem,zA,zB,zC,zD,zE,reduceCtorEq,↓reduceIte,zF,zG,zH,zI]
            exact Up.here ⟨g4', g5n, g6n, _, _, _, rfl, h4n, h5n, h6n, hfin true true (by simp) (by simp_all)⟩
           | false =>
            simp -implicitDefEqProofs only [go_sem,zA,zB,zC,zD,zE,reduceCtorEq,↓reduceIte,zF,zG,zH,zI]
            refine s_idx rfl (by omega) (by omega) ?_
            simp -implicitDefEqProofs only [go_sem,zA,zB,zC,zD,zE,reduceCtorEq,↓reduceIte,zF,zG,zH,zI]
            refine s_ld0 (by simpa using hc2 _ (by simp)) (by simp) (by simp) ?_
            simp -implicitDefEqProofs only [go_sem,zA,zB,zC,zD,zE,reduceCtorEq,↓reduceIte,zF,zG,zH,zI]
            refine s_idx rfl (by omega) (by omega) ?_
            simp -implicitDefEqProofs only [go_sem,zA,zB,zC,zD,zE,reduceCtorEq,↓reduceIte,zF,zG,zH,zI]
            refine s_storeA (ix := 2) (α := Bool) (ax && tp) rfl h6 (i := x + y) (by omega) ?_
            intro g6n h6n _
            simp -implicitDefEqProofs only [go_sem,zA,zB,zC,zD,zE,reduceCtorEq,↓reduceIte,zF,zG,zH,zI]
            exact Up.here ⟨g4', g5n, g6n, _, _, _, rfl, h4n, h5n, h6n, hfin true (ax && tp) (by simp) (by simp_all)⟩
         | false =>
          simp -implicitDefEqProofs only [go_sem,zA,zB,zC,zD,zE,reduceCtorEq,↓reduceIte,zF,zG,zH,zI]
          refine s_idx rfl (by omega) (by omega) ?_
          simp -implicitDefEqProofs only [go_sem,zA,zB,zC,zD,zE,reduceCtorEq,↓reduceIte,zF,zG,zH,zI]
          refine s_ld0 (by simpa using hc2 _ (by simp)) (by simp) (by simp) ?_
          simp -implicitDefEqProofs only [go_sem,zA,zB,zC,zD,zE,reduceCtorEq,↓reduceIte,zF,zG,zH,zI]
          refine s_idx rfl (by omega) (by omega) ?_
          simp -implicitDefEqProofs only [go_sem,zA,zB,zC,zD,zE,reduceCtorEq,↓reduceIte,zF,zG,zH,zI]
          refine s_storeA (ix := 1) (α := Bool) (ax && hv) rfl h5 (i := x + y) (by omega) ?_
          intro g5n h5n _
          simp -implicitDefEqProofs only [hw2, go_sem,zA,zB,zC,zD,zE,reduceCtorEq,↓reduceIte,zF,zG,zH,zI]
          refine s_idx rfl (by omega) (by omega) ?_
          simp -implicitDefEqProofs only [go_sem,zA,zB,zC,zD,zE,reduceCtorEq,↓reduceIte,zF,zG,zH,zI]
          refine s_ld0 (by simpa using hc6 _ (by simp)) (by simp) (by simp) ?_
          cases j0 with
          | true =>
           simp -implicitDefEqProofs only [go_sem,zA,zB,zC,zD,zE,reduceCtorEq,↓reduceIte,zF,zG,zH,zI]
           refine s_idxg (b := 0) (o := 0) (by simp) ?_
           simp -implicitDefEqProofs only [go_sem,zA,zB,zC,zD,zE,reduceCtorEq,↓reduceIte,zF,zG,zH,zI]
           refine s_ldg0 (cs := [.bool false]) (by simp) (by simp) (by simp) (by simp) ?_
           simp -implicitDefEqProofs only [go_sem,zA,zB,zC,zD,zE,reduceCtorEq,↓reduceIte,zF,zG,zH,zI]
           refine s_idxg (b := 0) (o := 0) (by simp) ?_
           simp -implicitDefEqProofs only [go_sem,zA,zB,zC,zD,zE,reduceCtorEq,↓reduceIte,zF,zG,zH,zI]
           refine s_ldg0 (cs := [.bool false]) (by simp) (by simp) (by simp) (by simp) ?_
           simp -implicitDefEqProofs only [go_sem,zA,zB,zC,zD,zE,reduceCtorEq,↓reduceIte,zF,zG,zH,zI]
           refine s_idx rfl (by omega) (by omega) ?_
           simp -implicitDefEqProofs only [go_sem,zA,zB,zC,zD,zE,reduceCtorEq,↓reduceIte,zF,zG,zH,zI]
           refine s_storeA (ix := 2) (α := Bool) true rfl h6 (i := x + y) (by omega) ?_
           intro g6n h6n _
           simp -implicitDefEqProofs only [go_sem,zA,zB,zC,zD,zE,reduceCtorEq,↓reduceIte,zF,zG,zH,zI]
           exact Up.here ⟨g4', g5n, g6n, _, _, _, rfl, h4n, h5n, h6n, hfin (ax && hv) true (by simp) (by simp_all)⟩
          | false =>
           simp -implicitDefEqProofs only [go_sem,zA,zB,zC,zD,zE,reduceCtorEq,↓reduceIte,zF,zG,zH,zI]
           refine s_idx rfl (by omega) (by omega) ?_
           simp -implicitDefEqProofs only [go_sem,zA,zB,zC,zD,zE,reduceCtorEq,↓reduceIte,zF,zG,zH,zI]
           refine s_ld0 (by simpa using hc3 _ (by simp)) (by simp) (by simp) ?_
           simp -implicitDefEqProofs only [go_sem,zA,zB,zC,zD,zE,reduceCtorEq,↓reduceIte,zF,zG,zH,zI]
           have hbb : ∀ bb, (jx && hv) = bb → (bb = true ↔ jx = true ∧ hv = true) := fun bb e => by rw [← e]; simp
           generalize (jx && hv) = bb at *
           have hbb := hbb bb rfl
           cases bb with
           | true =>
            simp -implicitDefEqProofs only [go_sem,zA,zB,zC,zD,zE,reduceCtorEq,↓reduceIte,zF,zG,zH,zI]
            refine s_idxg (b := 0) (o := 0) (by simp) ?_
            simp -implicitDefEqProofs only [go_sem,zA,zB,zC,zD,zE,reduceCtorEq,↓reduceIte,zF,zG,zH,zI]
            refine s_ldg0 (cs := [.bool false]) (by simp) (by simp) (by simp) (by simp) ?_
            simp -implicitDefEqProofs only [go_sem,zA,zB,zC,zD,zE,reduceCtorEq,↓reduceIte,zF,zG,zH,zI]
            refine s_idx rfl (by omega) (by omega) ?_
            simp -implicitDefEqProofs only [go_sem,zA,zB,zC,zD,zE,reduceCtorEq,↓reduceIte,zF,zG,zH,zI]
            refine s_storeA (ix := 2) (α := Bool) true rfl h6 (i := x + y) (by omega) ?_
            intro g6n h6n _
            simp -implicitDefEqProofs only [go_sem,zA,zB,zC,zD,zE,reduceCtorEq,↓reduceIte,zF,zG,zH,zI]
            exact Up.here ⟨g4', g5n, g6n, _, _, _, rfl, h4n, h5n, h6n, hfin (ax && hv) true (by simp) (by simp_all)⟩
           | false =>
            simp -implicitDefEqProofs only [go_sem,zA,zB,zC,zD,zE,reduceCtorEq,↓reduceIte,zF,zG,zH,zI]
            refine s_idx rfl (by omega) (by omega) ?_
            simp -implicitDefEqProofs only [go_sem,zA,zB,zC,zD,zE,reduceCtorEq,↓reduceIte,zF,zG,zH,zI]
            refine s_ld0 (by simpa using hc2 _ (by simp)) (by simp) (by simp) ?_
            simp -implicitDefEqProofs only [go_sem,zA,zB,zC,zD,zE,reduceCtorEq,↓reduceIte,zF,zG,zH,zI]
            refine s_idx rfl (by omega) (by omega) ?_
            simp -implicitDefEqProofs only [go_sem,zA,zB,zC,zD,zE,reduceCtorEq,↓reduceIte,zF,zG,zH,zI]
            refine s_storeA (ix := 2) (α := Bool) (ax && tp) rfl h6 (i := x + y) (by omega) ?_
            intro g6n h6n _
            simp -implicitDefEqProofs only [go_sem,zA,zB,zC,zD,zE,reduceCtorEq,↓reduceIte,zF,zG,zH,zI]
            exact Up.here ⟨g4', g5n, g6n, _, _, _, rfl, h4n, h5n, h6n, hfin (ax && hv) (ax && tp) (by simp) (by simp_all)⟩
      ·rintro vs Γ' ⟨rfl, g4, g5, g6, m2, a2, j2, rfl, h4', h5, h6, hAcc⟩
       simp -implicitDefEqProofs only [S190_4, go_sem,zA,zB,zC,zD,zE,reduceCtorEq,↓reduceIte,zF,zG,zH,zI]
       simp (disch := omega) only [wrap_id]
       exact ⟨f3 - 1, by omega, Up.here ⟨g4, g5, g6, m2, a2, j2, y + 1, rfl, rfl, by omega, h4', h5, h6, hAcc⟩⟩
     ·simp (disch := omega) only [wrap_id]
      have hye : y = n + 1 - x := by omega
      subst hye
      exact ⟨f2 - 1, by omega, Up.here ⟨g4, g5, g6, m2, a2, j2, x + 1, rfl, rfl, by omega, h4', h5, h6, hAcc.congr (fun k hk => accX_next P T s hk) (fun k hk => accX_next P' T' s hk)⟩⟩
    ·have hxe : x = n + 1 := by omega
     subst hxe
     simp (disch := omega) only [wrap_id]
     refine ⟨f - 1, by omega, Up.sel [[0], [1], [2]] (by decide) fun _ _ => ⟨g4, g5, g6, b4, b5, b6, m2, a2, j2, i + 1, rfl, rfl, by omega, h4', h5, h6, ?_⟩⟩
     rw [hp1, hp2]
     exact hAcc.congr (fun k hk => accX_all P T s hk) (fun k hk => accX_all P' T' s hk)
  ·have hie : i = l.length := by omega
   subst hie
   rw [List.take_length] at hRow
   refine Up.here ?_
   subst hR
   exact ⟨g1, g2, g3, b1, b2, b3, m, a, j, rfl, rfl, h1, h2, h3, hRow.congr (fun k _ => preT_one T l k) (fun k _ => preT_one T' l k)⟩
/- The text of (*parlance/parlref5.heights).up as a statement; no condition. -/
def S152_1 : Stmt :=
 .seq
 (.region [oq 68 (.ibin .lss (.tmp 67) (.tmp 66))]
 [0,2,3,4,6,7,8,9,48,49,50,66,67,68])
 (.seq (.cond (.tmp 68) .skip (.exit 2))
 (.seq
 (.block 3
 (.seq
 (.region
 [oq 69 (.mv (.tmp 67)),oq 10 (.mv (.tmp 69))]
 [0,2,3,4,6,7,8,9,10,48,49,50,66,67])
 (.seq
 (.drawn
 [(false,oq 70 (.mv (.tmp 2))),
 (false,oq 71 (.fld 0 (.tmp 6))),
 (true,oq 72 (.load false 1 (.tmp 71))),
 (false,oq 73 (.idx 1 (.tmp 70) (.tmp 72))),
 (true,oq 74 (.load false 1 (.tmp 73))),
 (false,oq 75 (.mv (.tmp 10))),
 (false,oq 76 (.mv (.tmp 2))),
 (false,oq 77 (.fld 0 (.tmp 6))),
 (false,oq 78 (.load false 1 (.tmp 77))),
 (false,oq 79 (.idx 1 (.tmp 76) (.tmp 78))),
 (false,oq 80 (.load false 1 (.tmp 79))),
 (false,oq 81 (.mv (.tmp 10))),
 (false,oq 82 (.idx 1 (.tmp 80) (.tmp 81))),
 (false,oq 83 (.load false 1 (.tmp 82))),
 (false,oq 84 (.mv (.tmp 7))),
 (false,oq 85 (.mv (.tmp 10))),
 (false,oq 86 (.idx 1 (.tmp 84) (.tmp 85))),
 (false,oq 87 (.load false 1 (.tmp 86))),
 (false,oq 88 (.ibin .add (.tmp 83) (.tmp 87))),
 (false,oq 89 (.call (.func 153) [.tmp 88])),
 (false,oq 90 (.idx 1 (.tmp 74) (.tmp 75))),
 (false,.mk none none (.store 1 (.tmp 90) (.tmp 89)))]
 [0,2,3,4,6,7,8,9,10,48,49,50,66,67])
 (.seq
 (.drawn
 [(false,oq 91 (.mv (.tmp 3))),
 (false,oq 92 (.fld 0 (.tmp 6))),
 (false,oq 93 (.load false 1 (.tmp 92))),
 (false,oq 94 (.idx 1 (.tmp 91) (.tmp 93))),
 (false,oq 95 (.load false 1 (.tmp 94))),
 (false,oq 96 (.mv (.tmp 10))),
 (false,oq 97 (.mv (.tmp 3))),
 (false,oq 98 (.fld 0 (.tmp 6))),
 (false,oq 99 (.load false 1 (.tmp 98))),
 (false,oq 100 (.idx 1 (.tmp 97) (.tmp 99))),
 (false,oq 101 (.load false 1 (.tmp 100))),
 (false,oq 102 (.mv (.tmp 10))),
 (false,oq 103 (.idx 1 (.tmp 101) (.tmp 102))),
 (false,oq 104 (.load false 1 (.tmp 103))),
 (false,oq 105 (.mv (.tmp 104))),
 (false,.mk (some 106) (some (105,false)) (.mv (.tmp 8))),
 (false,.mk (some 107) (some (105,false)) (.mv (.tmp 10))),
 (false,.mk (some 108) (some (105,false)) (.idx 1 (.tmp 106) (.tmp 107))),
 (false,.mk (some 109) (some (105,false)) (.load false 1 (.tmp 108))),
 (false,
 .mk (some 110) none
 (.pick (.tmp 105) (.const (.bool true)) (.tmp 109))),
 (false,oq 111 (.idx 1 (.tmp 95) (.tmp 96))),
 (false,.mk none none (.store 1 (.tmp 111) (.tmp 110)))]
 [0,2,3,4,6,7,8,9,10,48,49,50,66,67])
 (.drawn
 [(false,oq 112 (.mv (.tmp 4))),
 (false,oq 113 (.fld 0 (.tmp 6))),
 (false,oq 114 (.load false 1 (.tmp 113))),
 (false,oq 115 (.idx 1 (.tmp 112) (.tmp 114))),
 (false,oq 116 (.load false 1 (.tmp 115))),
 (false,oq 117 (.mv (.tmp 10))),
 (false,oq 118 (.mv (.tmp 4))),
 (false,oq 119 (.fld 0 (.tmp 6))),
 (false,oq 120 (.load false 1 (.tmp 119))),
 (false,oq 121 (.idx 1 (.tmp 118) (.tmp 120))),
 (false,oq 122 (.load false 1 (.tmp 121))),
 (false,oq 123 (.mv (.tmp 10))),
 (false,oq 124 (.idx 1 (.tmp 122) (.tmp 123))),
 (false,oq 125 (.load false 1 (.tmp 124))),
 (false,oq 126 (.mv (.tmp 125))),
 (false,.mk (some 127) (some (126,false)) (.mv (.tmp 9))),
 (false,.mk (some 128) (some (126,false)) (.mv (.tmp 10))),
 (false,.mk (some 129) (some (126,false)) (.idx 1 (.tmp 127) (.tmp 128))),
 (false,.mk (some 130) (some (126,false)) (.load false 1 (.tmp 129))),
 (false,
 .mk (some 131) none
 (.pick (.tmp 126) (.const (.bool true)) (.tmp 130))),
 (false,oq 132 (.idx 1 (.tmp 116) (.tmp 117))),
 (false,.mk none none (.store 1 (.tmp 132) (.tmp 131)))]
 [0,2,3,4,6,7,8,9,48,49,50,66,67])))))
 (.region
 [oq 133 (.ibin .add (.tmp 67) (.const (.int .i64 1))),
 oq 67 (.mv (.tmp 133))]
 [0,2,3,4,6,7,8,9,48,49,50,66,67])))
def S152_2 : Stmt :=
 .seq
 (.region [oq 51 (.ibin .lss (.tmp 50) (.tmp 49))]
 [0,2,3,4,48,49,50,51])
 (.seq (.cond (.tmp 51) .skip (.exit 0))
 (.seq
 (.block 1
 (.seq
 (.region
 [oq 52 (.idx 2 (.tmp 48) (.tmp 50)),
 oq 53 (.load true 2 (.tmp 52)),
 .mk (some 6) none
 (.alloc true 37 (.agg (Array.mk [.int .i64 0,.slice none 0 0]))),
 .mk none none (.store 2 (.tmp 6) (.tmp 53))]
 [0,2,3,4,6,48,49,50])
 (.seq
 (.region
 [oq 55 (.mv (.tmp 0)),oq 56 (.fld 1 (.tmp 6)),
 oq 57 (.load false 1 (.tmp 56)),
 oq 58 (.call (.func 190) [.tmp 55,.tmp 57]),
 oq 54 (.mv (.tmp 58)),
 oq 59 (.extract 0 (.tmp 54)),
 oq 60 (.extract 1 (.tmp 54)),
 oq 61 (.extract 2 (.tmp 54)),
 oq 7 (.mv (.tmp 59)),oq 8 (.mv (.tmp 60)),
 oq 9 (.mv (.tmp 61))]
 [0,2,3,4,6,7,8,9,48,49,50])
 (.seq
 (.region
 [oq 62 (.mv (.tmp 0)),
 oq 63 (.nilCheck (.tmp 62)),
 oq 64 (.fld 4 (.tmp 63)),
 oq 65 (.load false 1 (.tmp 64)),
 .mk (some 66) none
 (.ibin .add (.tmp 65) (.const (.int .i64 1))),
 oq 67 (.mv (.const (.int .i64 0)))]
 [0,2,3,4,6,7,8,9,48,49,50,66,67])
 (.block 2 (.loop S152_1 [67] [0,2,3,4,6,7,8,9,48,49,50,66]))))))
 (.region
 [oq 134 (.ibin .add (.tmp 50) (.const (.int .i64 1))),
 oq 50 (.mv (.tmp 134))]
 [0,2,3,4,48,49,50])))
def S152_0 : Stmt :=
 .seq
 (.drawn
 [(false,oq 11 (.mv (.tmp 0))),
 (false,oq 12 (.nilCheck (.tmp 11))),
 (false,oq 13 (.fld 0 (.tmp 12))),
 (false,oq 14 (.fld 1 (.tmp 13))),
 (false,oq 15 (.load false 1 (.tmp 14))),
 (false,oq 16 (.mv (.tmp 0))),
 (false,oq 17 (.nilCheck (.tmp 16))),
 (false,oq 18 (.fld 4 (.tmp 17))),
 (false,oq 19 (.load false 1 (.tmp 18))),
 (false,oq 20 (.ibin .add (.tmp 19) (.const (.int .i64 1)))),
 (false,oq 22 (.mv (.tmp 0))),
 (false,oq 23 (.nilCheck (.tmp 22))),
 (false,oq 24 (.fld 0 (.tmp 23))),
 (false,oq 25 (.fld 1 (.tmp 24))),
 (true,oq 26 (.load false 1 (.tmp 25))),
 (false,oq 27 (.mv (.tmp 0))),
 (false,oq 28 (.nilCheck (.tmp 27))),
 (false,oq 29 (.fld 4 (.tmp 28))),
 (true,oq 30 (.load false 1 (.tmp 29))),
 (false,oq 31 (.ibin .add (.tmp 30) (.const (.int .i64 1)))),
 (false,oq 33 (.mv (.tmp 0))),
 (false,oq 34 (.nilCheck (.tmp 33))),
 (false,oq 35 (.fld 0 (.tmp 34))),
 (false,oq 36 (.fld 1 (.tmp 35))),
 (true,oq 37 (.load false 1 (.tmp 36))),
 (false,oq 38 (.mv (.tmp 0))),
 (false,oq 39 (.nilCheck (.tmp 38))),
 (false,oq 40 (.fld 4 (.tmp 39))),
 (true,oq 41 (.load false 1 (.tmp 40))),
 (false,oq 42 (.ibin .add (.tmp 41) (.const (.int .i64 1)))),
 (false,oq 21 (.call (.func 120) [.tmp 15,.tmp 20])),
 (false,oq 32 (.call (.func 151) [.tmp 26,.tmp 31])),
 (false,oq 43 (.call (.func 151) [.tmp 37,.tmp 42])),
 (false,oq 2 (.mv (.tmp 21))),
 (false,oq 3 (.mv (.tmp 32))),
 (false,oq 4 (.mv (.tmp 43)))]
 [0,2,3,4])
 (.seq
 (.seq
 (.region
 [oq 44 (.mv (.tmp 0)),oq 45 (.nilCheck (.tmp 44)),
 oq 46 (.fld 0 (.tmp 45)),oq 47 (.fld 3 (.tmp 46)),
 oq 48 (.load false 1 (.tmp 47)),
 oq 49 (.len false (.tmp 48)),
 oq 50 (.mv (.const (.int .i64 0)))]
 [0,2,3,4,48,49,50])
 (.block 0 (.loop S152_2 [50] [0,2,3,4,48,49])))
 (.region
 [oq 135 (.mv (.tmp 0)),oq 136 (.mv (.tmp 0)),
 oq 137 (.mv (.tmp 0)),oq 138 (.mv (.tmp 2)),
 oq 139 (.mv (.tmp 3)),oq 140 (.mv (.tmp 4)),
 oq 141 (.nilCheck (.tmp 135)),
 oq 142 (.fld 5 (.tmp 141)),
 .mk none none (.store 1 (.tmp 142) (.tmp 138)),
 oq 143 (.nilCheck (.tmp 136)),
 oq 144 (.fld 6 (.tmp 143)),
 .mk none none (.store 1 (.tmp 144) (.tmp 139)),
 oq 145 (.nilCheck (.tmp 137)),
 oq 146 (.fld 7 (.tmp 145)),
 .mk none none (.store 1 (.tmp 146) (.tmp 140))]
 []))
def S152 : FnS := ⟨147,[],S152_0⟩
theorem tr152 : trFn Try.prog 152 [6] [[0,2,3,4],[0,1,2,3,4,5,6,7,8,9,11,12,13,14,15,16,17,18,19,20,22,23,24,25,26,27,28,29,30,31,10,21,32,33,34,35],[15,19,26,30],[],[0],[0,1],[0,1,2],[0,1,2,3],[],[5],[5,6],[5,6,7],[5,6,7,8],[0,1,2,3,4,5,6,7,8,9],[],[11],[11,12],[11,12,13],[11,12,13,14],[],[16],[16,17],[16,17,18],[16,17,18,19],[0,1,2,3,4,5,6,7,8,9,10,11,12,13,14,15,16,17,18,19,20],[],[22],[22,23],[22,23,24],[22,23,24,25],[],[27],[27,28],[27,28,29],[27,28,29,30],[0,1,2,3,4,5,6,7,8,9,10,11,12,13,14,15,16,17,18,19,20,21,22,23,24,25,26,27,28,29,30,31],[0,1,2,3,4,5,6,7,8,9,10,11,12,13,14,15,16,17,18,19,20,21,22,23,24,25,26,27,28,29,30,31,32],[0,1,2,3,4,5,6,7,8,9,10,11,12,13,14,15,16,17,18,19,20,21,22,23,24,25,26,27,28,29,30,31,32,33],[0,1,2,3,4,5,6,7,8,9,10,11,12,13,14,15,16,17,18,19,20,21,22,23,24,25,26,27,28,29,30,31,32,33,34],[0,2,3,4,48,49,50],[50],[0,2,3,4,48,49],[0,2,3,4,48,49,50,51],[0,2,3,4,6,48,49,50],[0,2,3,4,6,7,8,9,48,49,50],[0,2,3,4,6,7,8,9,48,49,50,66,67],[67],[0,2,3,4,6,7,8,9,48,49,50,66],[0,2,3,4,6,7,8,9,48,49,50,66,67,68],[0,2,3,4,6,7,8,9,10,48,49,50,66,67],[0,2,3,4,6,7,8,9,10,48,49,50,66,67],[0,1,2,3,4,5,6,7,8,9,10,11,12,13,14,15,16,17,18,19,20,21],[2,4],[],[],[1],[0,1,2],[0,1,2,3],[],[],[],[7],[6,7,8],[6,7,8,9],[],[6,7,8,9,10,11],[6,7,8,9,10,11,12],[],[],[14,15],[14,15,16],[6,7,8,9,10,11,12,13,14,15,16,17],[6,7,8,9,10,11,12,13,14,15,16,17,18],[0,1,2,3,4,5,6,7,8,9,10,11,12,13,14,15,16,17,18,19],[0,1,2,3,4,5,6,7,8,9,10,11,12,13,14,15,16,17,18,19,20],[0,2,3,4,6,7,8,9,10,48,49,50,66,67],[0,1,2,3,4,5,6,7,8,9,10,11,12,13,14,15,16,17,18,19,20,21],[],[],[],[1],[0,1,2],[0,1,2,3],[],[],[],[7],[6,7,8],[6,7,8,9],[],[6,7,8,9,10,11],[6,7,8,9,10,11,12],[6,7,8,9,10,11,12,13],[6,7,8,9,10,11,12,13,14],[6,7,8,9,10,11,12,13,14],[6,7,8,9,10,11,12,13,14,15,16],[6,7,8,9,10,11,12,13,14,15,16,17],[6,7,8,9,10,11,12,13,14,15,16,17,18],[0,1,2,3,4,5,6,7,8,9,10,11,12,13,14,15,16,17,18,19],[0,1,2,3,4,5,6,7,8,9,10,11,12,13,14,15,16,17,18,19,20],[0,2,3,4,6,7,8,9,48,49,50,66,67],[0,1,2,3,4,5,6,7,8,9,10,11,12,13,14,15,16,17,18,19,20,21],[],[],[],[1],[0,1,2],[0,1,2,3],[],[],[],[7],[6,7,8],[6,7,8,9],[],[6,7,8,9,10,11],[6,7,8,9,10,11,12],[6,7,8,9,10,11,12,13],[6,7,8,9,10,11,12,13,14],[6,7,8,9,10,11,12,13,14],[6,7,8,9,10,11,12,13,14,15,16],[6,7,8,9,10,11,12,13,14,15,16,17],[6,7,8,9,10,11,12,13,14,15,16,17,18],[0,1,2,3,4,5,6,7,8,9,10,11,12,13,14,15,16,17,18,19],[0,1,2,3,4,5,6,7,8,9,10,11,12,13,14,15,16,17,18,19,20],[0,2,3,4,6,7,8,9,48,49,50,66,67],[0,2,3,4,48,49,50],[]] = some S152 := by kernel_rfl
/- parlref5.heights: up walked; no condition. -/
theorem Grid.ne {α : Type} [Sc α] {g : PH} {b k : Nat} {T e : TypeId} {rows : List (List α)} (h : Grid g b T e rows) (hTe : T ≠ e) {xs : List α} (hA : Arr g k e xs) : b ≠ k := by
 intro q
 subst q
 obtain ⟨ps, hB, _⟩ := h
 have := hB.out
 rw [Arr] at hA
 rw [hA] at this
 simp at this
 exact hTe this.2.symm
theorem Ent.front {A B : Ctx} (h : Ent A B) : ∀ C : Ctx, Ent (C ++ A) (C ++ B)
 | [] => h
 | c :: C => Ent.cons c (Ent.front h C)
theorem Ent.app {A B : Ctx} (h : Ent A B) (C : Ctx) : Ent (A ++ C) (B ++ C) := (Ent.perm List.perm_append_comm).trans ((h.front C).trans (Ent.perm List.perm_append_comm))
/-- so many rules at places before k, one more -/
def cK (k i k' : Nat) : Nat := if k' < k then i + 1 else i
theorem cK_step (k i k' : Nat) : updC (cK k i) k (i + 1) k' = cK (k + 1) i k' := by
 unfold updC cK
 by_cases e : k' = k
 ·rw [if_pos e, if_pos (by omega)]
 ·rw [if_neg e]
  by_cases q : k' < k
  ·rw [if_pos q, if_pos (by omega)]
  ·rw [if_neg q, if_neg (by omega)]
theorem nxtT_congr {g : Gr} {T : Int → Nat → Nat} {c c' : Nat → Nat} {k : Nat} (h : c k = c' k) (a : Nat) : nxtT g T c a k = nxtT g T c' a k := by unfold nxtT; rw [h]
theorem or_lt {a b c d : Nat} (h1 : a ≤ b) (h2 : c ≤ d) : a + c < b + d ↔ a < b ∨ c < d := by omega
theorem nxtT_le {g : Gr} {T T' : Int → Nat → Nat} (h : LeT T' T) (c : Nat → Nat) (a k : Nat) : nxtT g T' c a k ≤ nxtT g T c a k := sumR_le h _ _ _
set_option maxHeartbeats 6400000 in
theorem heights_up {Γr : Ctx} {g : Gr} (V : VG g) {n : Nat} (hn : n ≤ 24) {R : Option Addr} {cR : Nat} (hx : SlOk (lk Γr) R cR g.rs) {gt : PH} {b bm ba bj : Nat} (hb : gt b = some (.cells (htC g n R cR bm ba bj).toArray 193 (0, 0))) {T T' : Int → Nat → Nat} (hle : LeT T' T) {M : List (List Int)} {A J : List (List Bool)}
  (hI : Tri g.ns.toNat n (fun a => T (a : Int)) (fun a => T' (a : Int)) M A J) (hM : SlOk (lk Γr) (some ⟨bm, 0, none⟩) g.ns.toNat M) (hA : SlOk (lk Γr) (some ⟨ba, 0, none⟩) g.ns.toNat A) (hJ : SlOk (lk Γr) (some ⟨bj, 0, none⟩) g.ns.toNat J) :
  Ret Try.prog 152 [.pointer (some ⟨b, 0, none⟩)] Γr [gt] (fun v Γ => ∃ gt' gm ga gj bm' ba' bj' M' A' J', Γ = [gt', gm, ga, gj] ∧ v = .tuple #[] ∧ gt' b = some (.cells (htC g n R cR bm' ba' bj').toArray 193 (0, 0)) ∧
   Grid gm bm' 29 3 M' ∧ Grid ga ba' 22 4 A' ∧ Grid gj bj' 22 4 J' ∧ Tri g.ns.toNat n (nxtT g T (fun _ => g.rs.length)) (nxtT g T' (fun _ => g.rs.length)) M' A' J') := by
 generalize hR : (fun (v : Value) (Γ : Ctx) => ∃ gt' gm ga gj bm' ba' bj' M' A' J', _) = R'
 refine ret_of_vc tr152 (Nat.le_of_ble_eq_true rfl) ?_
 simp -implicitDefEqProofs only [S152, S152_0, go_sem,zA,zB,zC,zD,zE,reduceCtorEq,↓reduceIte,zF,zG,zH,zI]
 have hns := V.ns
 have hvl := V.len
 have hsh := hx.short
 obtain ⟨N, hN⟩ : ∃ N : Nat, g.ns = N := ⟨g.ns.toNat, by omega⟩
 have hN' : g.ns.toNat = N := by omega
 have hw : IntKind.i64.wrap ((n : Int) + 1) = ((n + 1 : Nat) : Int) := by rw [wrap_id (by omega) (by omega)]; rfl
 have hbl : ∀ Γ : Ctx, gt ∈ Γ → lk Γ b (.cells (htC g n R cR bm ba bj).toArray 193 (0, 0)) := fun Γ h => ⟨gt, h, hb⟩
 refine s_drawn [] [gt] (Ent.refl _) ?_
 simp -implicitDefEqProofs only [go_sem,zA,zB,zC,zD,zE,reduceCtorEq,↓reduceIte,zF,zG,zH,zI]
 refine s_ld (j := 1) (cells_lk (hbl _ (by simp))) (by simp [htC]) (by simp) ?_
 simp -implicitDefEqProofs only [htC, go_sem,zA,zB,zC,zD,zE,reduceCtorEq,↓reduceIte,zF,zG,zH,zI]
 refine s_ld (j := 4) (cells_lk (hbl _ (by simp))) (by simp [htC]) (by simp) ?_
 simp -implicitDefEqProofs only [htC, go_sem,zA,zB,zC,zD,zE,reduceCtorEq,↓reduceIte,zF,zG,zH,zI]
 refine s_ld (j := 1) (cells_lk (hbl _ (by simp))) (by simp [htC]) (by simp) ?_
 simp -implicitDefEqProofs only [htC, go_sem,zA,zB,zC,zD,zE,reduceCtorEq,↓reduceIte,zF,zG,zH,zI]
 refine s_ld (j := 4) (cells_lk (hbl _ (by simp))) (by simp [htC]) (by simp) ?_
 simp -implicitDefEqProofs only [htC, go_sem,zA,zB,zC,zD,zE,reduceCtorEq,↓reduceIte,zF,zG,zH,zI]
 refine s_ld (j := 1) (cells_lk (hbl _ (by simp))) (by simp [htC]) (by simp) ?_
 simp -implicitDefEqProofs only [htC, go_sem,zA,zB,zC,zD,zE,reduceCtorEq,↓reduceIte,zF,zG,zH,zI]
 refine s_ld (j := 4) (cells_lk (hbl _ (by simp))) (by simp [htC]) (by simp) ?_
 simp -implicitDefEqProofs only [htC, hw, go_sem,zA,zB,zC,zD,zE,reduceCtorEq,↓reduceIte,zF,zG,zH,zI]
 rw [hN]
 refine CallVC.read (grid_int N (n + 1) (by omega) (by omega)) ?_
 rintro v Γ' ⟨gm, bm', rfl, rfl, hGm⟩
 simp -implicitDefEqProofs only [go_sem,zA,zB,zC,zD,zE,reduceCtorEq,↓reduceIte,zF,zG,zH,zI]
 refine CallVC.read (grid_bool N (n + 1) (by omega) (by omega)) ?_
 rintro v Γ' ⟨ga, ba', rfl, rfl, hGa⟩
 simp -implicitDefEqProofs only [go_sem,zA,zB,zC,zD,zE,reduceCtorEq,↓reduceIte,zF,zG,zH,zI]
 refine CallVC.read (grid_bool N (n + 1) (by omega) (by omega)) ?_
 rintro v Γ' ⟨gj, bj', rfl, rfl, hGj⟩
 simp -implicitDefEqProofs only [go_sem,zA,zB,zC,zD,zE,reduceCtorEq,↓reduceIte,zF,zG,zH,zI]
 refine s_ld (j := 3) (cells_lk (lk_l [gj, ga, gm, gt] Γr _ _ (hbl _ (by simp)))) (by simp [htC]) (by simp) ?_
 simp -implicitDefEqProofs only [htC, go_sem,zA,zB,zC,zD,zE,reduceCtorEq,↓reduceIte,zF,zG,zH,zI]
 have hsh0 : ∀ (T : Int → Nat → Nat) x k, 0 = nxtT g T (fun _ => 0) x k := fun T x k => rfl
 refine s_loop (fun f vs Γ => ∃ (gm ga gj : PH) (M : List (List Int)) (A J : List (List Bool)) (i : Nat), vs = [.v true (.int .i64 (i : Int))] ∧ Γ = [gm, ga, gj, gt] ∧ i + f = g.rs.length ∧ Grid gm bm' 29 3 M ∧ Grid ga ba' 22 4 A ∧ Grid gj bj' 22 4 J ∧ Tri N n (nxtT g T (fun _ => i)) (nxtT g T' (fun _ => i)) M A J) g.rs.length
  (Up.sel [[2], [1], [0], [3]] (by decide) fun _ _ => ⟨gm, ga, gj, _, _, _, 0, rfl, rfl, by omega, hGm, hGa, hGj, (Tri.zero N n).congr (fun x k _ _ => hsh0 T x k) (fun x k _ _ => hsh0 T' x k)⟩) ?_
 clear hGm hGa hGj
 rintro f vs Γ ⟨gm, ga, gj, M2, A2, J2, i, rfl, rfl, hif, hGm, hGa, hGj, hT⟩
 simp -implicitDefEqProofs only [S152_2, go_sem,zA,zB,zC,zD,zE,reduceCtorEq,↓reduceIte,zF,zG,zH,zI]
 refine ⟨fun hlt => ?_, fun hge => ?_⟩
 ·have hi : i < g.rs.length := by omega
  have hmem := List.getElem_mem hi
  have hleft := V.left _ hmem
  have hr4 := V.right _ hmem
  have hsym := V.sym _ hmem
  obtain ⟨b0, o0, h0, A1, c1, hr1, hcr⟩ := hx.ru hi
  have hupd := fun T c y x hc hx a k => nxtT_upd (T := T) (c := c) (y := y) (x := x) hi hc hx a k
  generalize hrr : g.rs[i] = r at *
  obtain ⟨p, hp⟩ : ∃ p : Nat, r.l = p := ⟨r.l.toNat, by omega⟩
  have hpN : p < N := by omega
  refine s_idx h0 (by omega) (by omega) ?_
  simp -implicitDefEqProofs only [go_sem,zA,zB,zC,zD,zE,reduceCtorEq,↓reduceIte,zF,zG,zH,zI]
  refine s_ld0 (by simpa using hcr _ (lk_r [gm, ga, gj, gt] _)) (by simp) (by simp) ?_
  simp -implicitDefEqProofs only [go_sem,zA,zB,zC,zD,zE,reduceCtorEq,↓reduceIte,zF,zG,zH,zI]
  intro bx
  have hrow := heights_row (Γr := [gm, ga, gj, gt] ++ Γr) V hn (b := b) (R := R) (cR := cR) (bm := bm) (ba := ba) (bj := bj) (lk_l _ Γr _ _ (hbl _ (by simp))) hle hI (hM.mono (lk_r [gm, ga, gj, gt] _)) (hA.mono (lk_r [gm, ga, gj, gt] _)) (hJ.mono (lk_r [gm, ga, gj, gt] _)) (hr1.mono (lk_r [gm, ga, gj, gt] _)) hr4 (fun s hs h => ⟨(hsym s hs).1, (hsym s hs).2.2 h⟩)
  refine CallVC.read hrow ?_
  rintro v Γ' ⟨h1, h2, h3, b1, b2, b3, m, a, j, rfl, rfl, hm, ha, hj, hRow⟩
  simp -implicitDefEqProofs only [go_sem,zA,zB,zC,zD,zE,reduceCtorEq,↓reduceIte,zF,zG,zH,zI]
  refine s_ld (j := 4) (cells_lk (lk_l [h1, h2, h3, gm, ga, gj, gt] Γr _ _ (hbl _ (by simp)))) (by simp [htC]) (by simp) ?_
  simp -implicitDefEqProofs only [htC, hw, go_sem,zA,zB,zC,zD,zE,reduceCtorEq,↓reduceIte,zF,zG,zH,zI]
  refine s_loop (fun f2 vs Γ => ∃ (gm ga gj : PH) (M : List (List Int)) (A J : List (List Bool)) (k : Nat), vs = [.v true (.int .i64 (k : Int))] ∧ Γ = [gm, ga, gj, h1, h2, h3, gt] ∧ k + f2 = n + 1 ∧ Grid gm bm' 29 3 M ∧ Grid ga ba' 22 4 A ∧ Grid gj bj' 22 4 J ∧ Tri N n (nxtT g T (cK k i)) (nxtT g T' (cK k i)) M A J) (n + 1)
   (Up.sel [[3], [4], [5], [0], [1], [2], [6]] (by decide) fun _ _ => ⟨gm, ga, gj, _, _, _, 0, rfl, rfl, by omega, hGm, hGa, hGj, hT⟩) ?_
  clear hGm hGa hGj hT
  rintro f2 vs Γ ⟨gm, ga, gj, M2, A2, J2, k, rfl, rfl, hkf, hGm, hGa, hGj, hT⟩
  simp -implicitDefEqProofs only [S152_1, go_sem,zA,zB,zC,zD,zE,reduceCtorEq,↓reduceIte,zF,zG,zH,zI]
  refine ⟨fun hlt => ?_, fun hge => ?_⟩
  ·have hk : k ≤ n := by omega
   have hM2l := hT.m.1
   have hA2l := hT.a.1
   have hJ2l := hT.j.1
   have hM2r := hT.m.at' (i := p) (by omega)
   have hA2r := hT.a.at' (i := p) (by omega)
   have hJ2r := hT.j.at' (i := p) (by omega)
   obtain ⟨e1, e2, e3⟩ := hRow.get hk (by rw [hRow.ml]; omega) (by rw [hRow.al]; omega) (by rw [hRow.jl]; omega)
   obtain ⟨v1, v2, v3⟩ := hT.at' p k hpN hk
   rw [matI_get (List.getElem?_eq_getElem (show p < M2.length by omega)) (show k < M2[p].length by omega)] at v1
   rw [mat_get (List.getElem?_eq_getElem (show p < A2.length by omega)) (show k < A2[p].length by omega)] at v2
   rw [mat_get (List.getElem?_eq_getElem (show p < J2.length by omega)) (show k < J2[p].length by omega)] at v3
   have hml := hRow.ml
   have hal := hRow.al
   have hjl := hRow.jl
   obtain ⟨km, hcm, hAm, hsm⟩ := hGm.at' (i := p) (by omega) (by omega)
   obtain ⟨ka, hca, hAa, hsa⟩ := hGa.at' (i := p) (by omega) (by omega)
   obtain ⟨kj, hcj, hAj, hsj⟩ := hGj.at' (i := p) (by omega) (by omega)
   rw [hM2r] at hcm
   rw [hA2r] at hca
   rw [hJ2r] at hcj
   have hne := hGm.ne (by decide) hAm
   have hent := (Ent.cut hAm).app [ga, gj, h1, h2, h3, gt]
   have hAo : Arr (one km (.cells (M2[p].map Sc.enc).toArray 3 (0, 0))) km 3 M2[p] := one_self _ _
   have hdm := (hcm [gm] (by simp)).del' hne (Γ := [del gm km, ga, gj, h1, h2, h3, gt] ++ Γr) (by simp)
   revert hent hAo
   generalize one km _ = gp
   intro hent hAo
   refine s_drawn [gp] [del gm km, ga, gj, h1, h2, h3, gt] hent ?_
   simp -implicitDefEqProofs only [go_sem,zA,zB,zC,zD,zE,reduceCtorEq,↓reduceIte,zF,zG,zH,zI]
   rw [hp]
   have hX := capN_le (nxtT g T (cK k i) p k)
   have hY := capN_le (rowT T r.r k)
   have hw4 : IntKind.i64.wrap (((capN (nxtT g T (cK k i) p k) : Nat) : Int) + ((capN (rowT T r.r k) : Nat) : Int)) = ((capN (nxtT g T (cK k i) p k) + capN (rowT T r.r k) : Nat) : Int) := by rw [← Int.natCast_add, wrap_id (by omega) (by omega)]
   have hcA : ∀ Γ : Ctx, gp ∈ Γ → Cells Γ km k [.int .i64 ((capN (nxtT g T (cK k i) p k) : Nat) : Int)] := fun Γ hg => by
    have := hAo.num (i := k) (by omega) hg
    rwa [v1] at this
   have hcB : ∀ Γ : Ctx, h1 ∈ Γ → Cells Γ b1 k [.int .i64 ((capN (rowT T r.r k) : Nat) : Int)] := fun Γ hg => by
    have := hm.num (i := k) (by omega) hg
    rwa [e1] at this
   refine s_idx rfl (by omega) (by omega) ?_
   simp -implicitDefEqProofs only [go_sem,zA,zB,zC,zD,zE,reduceCtorEq,↓reduceIte,zF,zG,zH,zI]
   refine s_ld0 (by simpa using hdm) (by simp) (by simp) ?_
   simp -implicitDefEqProofs only [go_sem,zA,zB,zC,zD,zE,reduceCtorEq,↓reduceIte,zF,zG,zH,zI]
   refine s_idx rfl (by omega) (by omega) ?_
   simp -implicitDefEqProofs only [go_sem,zA,zB,zC,zD,zE,reduceCtorEq,↓reduceIte,zF,zG,zH,zI]
   refine s_ld0 (by simpa using (hcm [gm] (by simp)).del' hne (Γ := [gp, del gm km, ga, gj, h1, h2, h3, gt] ++ Γr) (by simp)) (by simp) (by simp) ?_
   simp -implicitDefEqProofs only [go_sem,zA,zB,zC,zD,zE,reduceCtorEq,↓reduceIte,zF,zG,zH,zI]
   refine s_idx rfl (by omega) (by omega) ?_
   simp -implicitDefEqProofs only [go_sem,zA,zB,zC,zD,zE,reduceCtorEq,↓reduceIte,zF,zG,zH,zI]
   refine s_ld0 (hcA _ (by simp)) (by simp) (by simp) ?_
   simp -implicitDefEqProofs only [go_sem,zA,zB,zC,zD,zE,reduceCtorEq,↓reduceIte,zF,zG,zH,zI]
   refine s_idx rfl (by omega) (by omega) ?_
   simp -implicitDefEqProofs only [go_sem,zA,zB,zC,zD,zE,reduceCtorEq,↓reduceIte,zF,zG,zH,zI]
   refine s_ld0 (hcB _ (by simp)) (by simp) (by simp) ?_
   simp -implicitDefEqProofs only [hw4, go_sem,zA,zB,zC,zD,zE,reduceCtorEq,↓reduceIte,zF,zG,zH,zI]
   refine CallVC.read (ref_capped (capN (nxtT g T (cK k i) p k) + capN (rowT T r.r k)) (by omega)) ?_
   rintro v Γ' ⟨rfl, rfl⟩
   rw [capN_add]
   simp -implicitDefEqProofs only [go_sem,zA,zB,zC,zD,zE,reduceCtorEq,↓reduceIte,zF,zG,zH,zI]
   refine s_idx rfl (by omega) (by omega) ?_
   simp -implicitDefEqProofs only [go_sem,zA,zB,zC,zD,zE,reduceCtorEq,↓reduceIte,zF,zG,zH,zI]
   refine s_storeA (ix := 0) (α := Int) ((capN (nxtT g T (cK k i) p k + rowT T r.r k) : Nat) : Int) rfl hAo (i := k) (by omega) ?_
   intro gx hAx _
   clear hcA hcB hw4
   simp -implicitDefEqProofs only [go_sem,zA,zB,zC,zD,zE,reduceCtorEq,↓reduceIte,zF,zG,zH,zI]
   have hcA2 : ∀ Γ : Ctx, ga ∈ Γ → Cells Γ ka k [.bool A2[p][k]] := fun Γ hg => hAa.bool (by omega) hg
   have hcJ2 : ∀ Γ : Ctx, gj ∈ Γ → Cells Γ kj k [.bool J2[p][k]] := fun Γ hg => hAj.bool (by omega) hg
   have hcA3 : ∀ Γ : Ctx, h2 ∈ Γ → Cells Γ b2 k [.bool a[k]] := fun Γ hg => ha.bool (by omega) hg
   have hcJ3 : ∀ Γ : Ctx, h3 ∈ Γ → Cells Γ b3 k [.bool j[k]] := fun Γ hg => hj.bool (by omega) hg
   have fin : ∀ (ab jb : Bool) (gax gjx : PH), Arr gax ka 4 (A2[p].set k ab) → (∀ x, x ≠ ka → gax x = ga x) → Arr gjx kj 4 (J2[p].set k jb) → (∀ x, x ≠ kj → gjx x = gj x) → (ab = true ↔ A2[p][k] = true ∨ a[k] = true) → (jb = true ↔ J2[p][k] = true ∨ j[k] = true) →
     Up [gx, del gm km, gax, gjx, h1, h2, h3, gt] (fun Γ => ∃ (gm ga gj : PH) (M : List (List Int)) (A J : List (List Bool)) (k1 : Nat), [Sl.v true (.int .i64 ((k : Int) + 1))] = [.v true (.int .i64 (k1 : Int))] ∧ Γ = [gm, ga, gj, h1, h2, h3, gt] ∧ k1 + (f2 - 1) = n + 1 ∧ Grid gm bm' 29 3 M ∧ Grid ga ba' 22 4 A ∧ Grid gj bj' 22 4 J ∧ Tri N n (nxtT g T (cK k1 i)) (nxtT g T' (cK k1 i)) M A J) := by
    intro ab jb gax gjx q1 q2 q3 q4 q5 q6
    have hG1 := hsm (upd gm km (.cells ((M2[p].set k ((capN (nxtT g T (cK k i) p k + rowT T r.r k) : Nat) : Int)).map Sc.enc).toArray 3 (0, 0))) _ (upd_self _ _ _) (by simp) (fun y hy => upd_other hy)
    have hG2 := hsa gax _ q1 (by simp) q2
    have hG3 := hsj gjx _ q3 (by simp) q4
    have hl1 := nxtT_le hle (cK k i) (g := g) p k
    have hl2 := rowT_le hle r.r k
    have hset := hT.set hpN hk (List.getElem?_eq_getElem (show p < M2.length by omega)) (List.getElem?_eq_getElem (show p < A2.length by omega)) (List.getElem?_eq_getElem (show p < J2.length by omega)) (v := nxtT g T (cK k i) p k + rowT T r.r k) (v' := nxtT g T' (cK k i) p k + rowT T' r.r k) rfl
     (b := ab) (d := jb) (by rw [q5, v2, e2]; omega) (by rw [q6, v3, e3, or_lt hl1 hl2])
    refine Up.to (upd gm km (.cells ((M2[p].set k ((capN (nxtT g T (cK k i) p k + rowT T r.r k) : Nat) : Int)).map Sc.enc).toArray 3 (0, 0)) :: [gax, gjx, h1, h2, h3, gt]) ((Ent.mend hAx).app [gax, gjx, h1, h2, h3, gt]) ⟨_, _, _, _, _, _, k + 1, rfl, rfl, by omega, hG1, hG2, hG3, ?_⟩
    have hcc : cK k i k = i := by unfold cK; rw [if_neg (by omega)]
    exact hset.congr (fun x y _ _ => by rw [hupd T _ _ _ hcc hp]; exact nxtT_congr (cK_step k i y) x) (fun x y _ _ => by rw [hupd T' _ _ _ hcc hp]; exact nxtT_congr (cK_step k i y) x)
   generalize A2[p][k] = a0 at *
   generalize J2[p][k] = j0 at *
   generalize a[k] = ax at *
   generalize j[k] = jx at *
   refine s_idx rfl (by omega) (by omega) ?_
   simp -implicitDefEqProofs only [go_sem,zA,zB,zC,zD,zE,reduceCtorEq,↓reduceIte,zF,zG,zH,zI]
   refine s_ld0 (by simpa using hca _ (by simp)) (by simp) (by simp) ?_
   simp -implicitDefEqProofs only [go_sem,zA,zB,zC,zD,zE,reduceCtorEq,↓reduceIte,zF,zG,zH,zI]
   refine s_idx rfl (by omega) (by omega) ?_
   simp -implicitDefEqProofs only [go_sem,zA,zB,zC,zD,zE,reduceCtorEq,↓reduceIte,zF,zG,zH,zI]
   refine s_ld0 (by simpa using hca _ (by simp)) (by simp) (by simp) ?_
   simp -implicitDefEqProofs only [go_sem,zA,zB,zC,zD,zE,reduceCtorEq,↓reduceIte,zF,zG,zH,zI]
   refine s_idx rfl (by omega) (by omega) ?_
   simp -implicitDefEqProofs only [go_sem,zA,zB,zC,zD,zE,reduceCtorEq,↓reduceIte,zF,zG,zH,zI]
   refine s_ld0 (hcA2 _ (by simp)) (by simp) (by simp) ?_
   cases a0 with
   | true =>
    simp -implicitDefEqProofs only [go_sem,zA,zB,zC,zD,zE,reduceCtorEq,↓reduceIte,zF,zG,zH,zI]
    refine s_idxg (b := 0) (o := 0) (by simp) ?_
    simp -implicitDefEqProofs only [go_sem,zA,zB,zC,zD,zE,reduceCtorEq,↓reduceIte,zF,zG,zH,zI]
    refine s_ldg0 (cs := [.bool false]) (by simp) (by simp) (by simp) (by simp) ?_
    simp -implicitDefEqProofs only [go_sem,zA,zB,zC,zD,zE,reduceCtorEq,↓reduceIte,zF,zG,zH,zI]
    refine s_idx rfl (by omega) (by omega) ?_
    simp -implicitDefEqProofs only [go_sem,zA,zB,zC,zD,zE,reduceCtorEq,↓reduceIte,zF,zG,zH,zI]
    refine s_storeA (ix := 2) (α := Bool) true rfl hAa (i := k) (by omega) ?_
    intro gax hAx2 hoa
    simp -implicitDefEqProofs only [go_sem,zA,zB,zC,zD,zE,reduceCtorEq,↓reduceIte,zF,zG,zH,zI]
    refine s_idx rfl (by omega) (by omega) ?_
    simp -implicitDefEqProofs only [go_sem,zA,zB,zC,zD,zE,reduceCtorEq,↓reduceIte,zF,zG,zH,zI]
    refine s_ld0 (by simpa using hcj _ (by simp)) (by simp) (by simp) ?_
    simp -implicitDefEqProofs only [go_sem,zA,zB,zC,zD,zE,reduceCtorEq,↓reduceIte,zF,zG,zH,zI]
    refine s_idx rfl (by omega) (by omega) ?_
    simp -implicitDefEqProofs only [go_sem,zA,zB,zC,zD,zE,reduceCtorEq,↓reduceIte,zF,zG,zH,zI]
    refine s_ld0 (by simpa using hcj _ (by simp)) (by simp) (by simp) ?_
    simp -implicitDefEqProofs only [go_sem,zA,zB,zC,zD,zE,reduceCtorEq,↓reduceIte,zF,zG,zH,zI]
    refine s_idx rfl (by omega) (by omega) ?_
    simp -implicitDefEqProofs only [go_sem,zA,zB,zC,zD,zE,reduceCtorEq,↓reduceIte,zF,zG,zH,zI]
    refine s_ld0 (hcJ2 _ (by simp)) (by simp) (by simp) ?_
    cases j0 with
    | true =>
     simp -implicitDefEqProofs only [go_sem,zA,zB,zC,zD,zE,reduceCtorEq,↓reduceIte,zF,zG,zH,zI]
     refine s_idxg (b := 0) (o := 0) (by simp) ?_
     simp -implicitDefEqProofs only [go_sem,zA,zB,zC,zD,zE,reduceCtorEq,↓reduceIte,zF,zG,zH,zI]
     refine s_ldg0 (cs := [.bool false]) (by simp) (by simp) (by simp) (by simp) ?_
     simp -implicitDefEqProofs only [go_sem,zA,zB,zC,zD,zE,reduceCtorEq,↓reduceIte,zF,zG,zH,zI]
     refine s_idx rfl (by omega) (by omega) ?_
     simp -implicitDefEqProofs only [go_sem,zA,zB,zC,zD,zE,reduceCtorEq,↓reduceIte,zF,zG,zH,zI]
     refine s_storeA (ix := 3) (α := Bool) true rfl hAj (i := k) (by omega) ?_
     intro gjx hJx hoj
     simp -implicitDefEqProofs only [go_sem,zA,zB,zC,zD,zE,reduceCtorEq,↓reduceIte,zF,zG,zH,zI]
     simp (disch := omega) only [wrap_id]
     exact ⟨f2 - 1, by omega, fin true true gax gjx hAx2 hoa hJx hoj (by simp) (by simp)⟩
    | false =>
     simp -implicitDefEqProofs only [go_sem,zA,zB,zC,zD,zE,reduceCtorEq,↓reduceIte,zF,zG,zH,zI]
     refine s_idx rfl (by omega) (by omega) ?_
     simp -implicitDefEqProofs only [go_sem,zA,zB,zC,zD,zE,reduceCtorEq,↓reduceIte,zF,zG,zH,zI]
     refine s_ld0 (hcJ3 _ (by simp)) (by simp) (by simp) ?_
     simp -implicitDefEqProofs only [go_sem,zA,zB,zC,zD,zE,reduceCtorEq,↓reduceIte,zF,zG,zH,zI]
     refine s_idx rfl (by omega) (by omega) ?_
     simp -implicitDefEqProofs only [go_sem,zA,zB,zC,zD,zE,reduceCtorEq,↓reduceIte,zF,zG,zH,zI]
     refine s_storeA (ix := 3) (α := Bool) jx rfl hAj (i := k) (by omega) ?_
     intro gjx hJx hoj
     simp -implicitDefEqProofs only [go_sem,zA,zB,zC,zD,zE,reduceCtorEq,↓reduceIte,zF,zG,zH,zI]
     simp (disch := omega) only [wrap_id]
     exact ⟨f2 - 1, by omega, fin true jx gax gjx hAx2 hoa hJx hoj (by simp) (by simp)⟩
   | false =>
    simp -implicitDefEqProofs only [go_sem,zA,zB,zC,zD,zE,reduceCtorEq,↓reduceIte,zF,zG,zH,zI]
    refine s_idx rfl (by omega) (by omega) ?_
    simp -implicitDefEqProofs only [go_sem,zA,zB,zC,zD,zE,reduceCtorEq,↓reduceIte,zF,zG,zH,zI]
    refine s_ld0 (hcA3 _ (by simp)) (by simp) (by simp) ?_
    simp -implicitDefEqProofs only [go_sem,zA,zB,zC,zD,zE,reduceCtorEq,↓reduceIte,zF,zG,zH,zI]
    refine s_idx rfl (by omega) (by omega) ?_
    simp -implicitDefEqProofs only [go_sem,zA,zB,zC,zD,zE,reduceCtorEq,↓reduceIte,zF,zG,zH,zI]
    refine s_storeA (ix := 2) (α := Bool) ax rfl hAa (i := k) (by omega) ?_
    intro gax hAx2 hoa
    simp -implicitDefEqProofs only [go_sem,zA,zB,zC,zD,zE,reduceCtorEq,↓reduceIte,zF,zG,zH,zI]
    refine s_idx rfl (by omega) (by omega) ?_
    simp -implicitDefEqProofs only [go_sem,zA,zB,zC,zD,zE,reduceCtorEq,↓reduceIte,zF,zG,zH,zI]
    refine s_ld0 (by simpa using hcj _ (by simp)) (by simp) (by simp) ?_
    simp -implicitDefEqProofs only [go_sem,zA,zB,zC,zD,zE,reduceCtorEq,↓reduceIte,zF,zG,zH,zI]
    refine s_idx rfl (by omega) (by omega) ?_
    simp -implicitDefEqProofs only [go_sem,zA,zB,zC,zD,zE,reduceCtorEq,↓reduceIte,zF,zG,zH,zI]
    refine s_ld0 (by simpa using hcj _ (by simp)) (by simp) (by simp) ?_
    simp -implicitDefEqProofs only [go_sem,zA,zB,zC,zD,zE,reduceCtorEq,↓reduceIte,zF,zG,zH,zI]
    refine s_idx rfl (by omega) (by omega) ?_
    simp -implicitDefEqProofs only [go_sem,zA,zB,zC,zD,zE,reduceCtorEq,↓reduceIte,zF,zG,zH,zI]
    refine s_ld0 (hcJ2 _ (by simp)) (by simp) (by simp) ?_
    cases j0 with
    | true =>
     simp -implicitDefEqProofs only [go_sem,zA,zB,zC,zD,zE,reduceCtorEq,↓reduceIte,zF,zG,zH,zI]
     refine s_idxg (b := 0) (o := 0) (by simp) ?_
     simp -implicitDefEqProofs only [go_sem,zA,zB,zC,zD,zE,reduceCtorEq,↓reduceIte,zF,zG,zH,zI]
     refine s_ldg0 (cs := [.bool false]) (by simp) (by simp) (by simp) (by simp) ?_
     simp -implicitDefEqProofs only [go_sem,zA,zB,zC,zD,zE,reduceCtorEq,↓reduceIte,zF,zG,zH,zI]
     refine s_idx rfl (by omega) (by omega) ?_
     simp -implicitDefEqProofs only [go_sem,zA,zB,zC,zD,zE,reduceCtorEq,↓reduceIte,zF,zG,zH,zI]
     refine s_storeA (ix := 3) (α := Bool) true rfl hAj (i := k) (by omega) ?_
     intro gjx hJx hoj
     simp -implicitDefEqProofs only [go_sem,zA,zB,zC,zD,zE,reduceCtorEq,↓reduceIte,zF,zG,zH,zI]
     simp (disch := omega) only [wrap_id]
     exact ⟨f2 - 1, by omega, fin ax true gax gjx hAx2 hoa hJx hoj (by simp) (by simp)⟩
    | false =>
     simp -implicitDefEqProofs only [go_sem,zA,zB,zC,zD,zE,reduceCtorEq,↓reduceIte,zF,zG,zH,zI]
     refine s_idx rfl (by omega) (by omega) ?_
     simp -implicitDefEqProofs only [go_sem,zA,zB,zC,zD,zE,reduceCtorEq,↓reduceIte,zF,zG,zH,zI]
     refine s_ld0 (hcJ3 _ (by simp)) (by simp) (by simp) ?_
     simp -implicitDefEqProofs only [go_sem,zA,zB,zC,zD,zE,reduceCtorEq,↓reduceIte,zF,zG,zH,zI]
     refine s_idx rfl (by omega) (by omega) ?_
     simp -implicitDefEqProofs only [go_sem,zA,zB,zC,zD,zE,reduceCtorEq,↓reduceIte,zF,zG,zH,zI]
     refine s_storeA (ix := 3) (α := Bool) jx rfl hAj (i := k) (by omega) ?_
     intro gjx hJx hoj
     simp -implicitDefEqProofs only [go_sem,zA,zB,zC,zD,zE,reduceCtorEq,↓reduceIte,zF,zG,zH,zI]
     simp (disch := omega) only [wrap_id]
     exact ⟨f2 - 1, by omega, fin ax jx gax gjx hAx2 hoa hJx hoj (by simp) (by simp)⟩
  ·have hke : k = n + 1 := by omega
   subst hke
   simp (disch := omega) only [wrap_id]
   refine ⟨f - 1, by omega, Up.sel [[0], [1], [2], [6]] (by decide) fun _ _ => ⟨gm, ga, gj, _, _, _, i + 1, rfl, rfl, by omega, hGm, hGa, hGj, hT.congr (fun x y _ hy => nxtT_congr (by unfold cK; rw [if_pos (by omega)]) x) (fun x y _ hy => nxtT_congr (by unfold cK; rw [if_pos (by omega)]) x)⟩⟩
 ·have hie : i = g.rs.length := by omega
  subst hie
  refine s_storeF (ix := 3) (o := 5) (n := 1) rfl hb (by simp [htC]) ?_
  simp -implicitDefEqProofs only [htC, go_sem,zA,zB,zC,zD,zE,reduceCtorEq,↓reduceIte,zF,zG,zH,zI]
  refine s_storeF (ix := 3) (o := 6) (n := 1) rfl (upd_self _ _ _) (by simp [setC, htC]) ?_
  simp -implicitDefEqProofs only [htC, go_sem,zA,zB,zC,zD,zE,reduceCtorEq,↓reduceIte,zF,zG,zH,zI]
  refine s_storeF (ix := 3) (o := 7) (n := 1) rfl (upd_self _ _ _) (by simp [setC, htC]) ?_
  simp -implicitDefEqProofs only [htC, go_sem,zA,zB,zC,zD,zE,reduceCtorEq,↓reduceIte,zF,zG,zH,zI]
  refine Up.sel [[3], [0], [1], [2]] (by decide) fun _ _ => ?_
  subst hR
  refine ⟨_, gm, ga, gj, bm', ba', bj', M2, A2, J2, rfl, rfl, ?_, hGm, hGa, hGj, by rw [hN']; exact hT⟩
  exact (upd_self _ _ _).trans (by rw [htC, hN'])
/- parlref5.Total walked, given what Census answers; no condition. -/
/-- what Census is to answer -/
def CenR (g : Gr) (n : Int) (v : Value) (Γ : Ctx) : Prop := (cenE g n ≠ 0 ∧ Γ = [] ∧ v = .tuple #[.slice none 0 0, .int .i64 (cenE g n)]) ∨
 (cenE g n = 0 ∧ ∃ go A c, Γ = [go] ∧ v = .tuple #[.slice A g.ns.toNat c, .int .i64 0] ∧ SlOk (lk [go]) A c (cenRows g n.toNat g.ns.toNat))
/- The text of parlance/parlref5.Census as a statement; no condition. -/
def S80_1 : Stmt :=
 .seq
 (.region
 [oq 65 (.fld 0 (.tmp 12)),oq 66 (.load false 1 (.tmp 65)),
 oq 67 (.un .not (.tmp 66))]
 [1,2,7,9,10,52,53,54,59,60,61,67])
 (.cond (.tmp 67)
 (.region
 [oq 68 (.mv (.tmp 1)),
 oq 69 (.ibin .add (.tmp 68) (.const (.int .i64 1))),
 oq 10 (.mv (.tmp 69))]
 [1,2,7,9,10,52,53,54,59,60,61])
 .skip)
def S80_2 : Stmt :=
 .region
 [oq 70 (.mv (.tmp 10)),
 oq 71 (.ibin .add (.tmp 70) (.const (.int .i64 1))),
 oq 10 (.mv (.tmp 71))]
 [1,2,7,9,10,52,53,54,59,60,61]
def S80_3 : Stmt :=
 .block 3
 (.seq
 (.region
 [oq 63 (.idx 2 (.tmp 59) (.tmp 61)),
 oq 64 (.load true 2 (.tmp 63)),
 oq 12 (.alloc true 39 (.agg (Array.mk [.bool false,.int .i64 0]))),
 .mk none none (.store 2 (.tmp 12) (.tmp 64))]
 [1,2,7,9,10,12,52,53,54,59,60,61])
 (.join S80_1 S80_2 [10] [1,2,7,9,52,53,54,59,60,61]))
def S80_4 : Stmt :=
 .region
 [oq 72 (.ibin .add (.tmp 61) (.const (.int .i64 1))),
 oq 61 (.mv (.tmp 72))]
 [1,2,7,9,10,52,53,54,59,60,61]
def S80_5 : Stmt :=
 .seq
 (.region [oq 62 (.ibin .lss (.tmp 61) (.tmp 60))]
 [1,2,7,9,10,52,53,54,59,60,61,62])
 (.seq (.cond (.tmp 62) .skip (.exit 2))
 (.join S80_3 S80_4 [10] [1,2,7,9,52,53,54,59,60,61]))
def S80_6 : Stmt :=
 .block 1
 (.seq
 (.region
 [oq 56 (.idx 2 (.tmp 52) (.tmp 54)),
 oq 57 (.load true 2 (.tmp 56)),
 .mk (some 9) none
 (.alloc true 37 (.agg (Array.mk [.int .i64 0,.slice none 0 0]))),
 .mk none none (.store 2 (.tmp 9) (.tmp 57))]
 [1,2,7,9,52,53,54])
 (.seq
 (.region [oq 10 (.mv (.const (.int .i64 0)))]
 [1,2,7,9,10,52,53,54])
 (.seq
 (.seq
 (.region
 [oq 58 (.fld 1 (.tmp 9)),
 oq 59 (.load false 1 (.tmp 58)),
 oq 60 (.len false (.tmp 59)),
 oq 61 (.mv (.const (.int .i64 0)))]
 [1,2,7,9,10,52,53,54,59,60,61])
 (.block 2 (.loop S80_5 [10,61] [1,2,7,9,52,53,54,59,60])))
 (.seq
 (.region
 [oq 73 (.mv (.tmp 10)),oq 74 (.mv (.tmp 1)),
 oq 75 (.ibin .leq (.tmp 73) (.tmp 74))]
 [1,2,7,9,10,52,53,54,75])
 (.cond (.tmp 75)
 (.seq
 (.drawn
 [(false,oq 76 (.mv (.tmp 7))),
 (false,oq 77 (.nilCheck (.tmp 76))),
 (false,oq 78 (.fld 5 (.tmp 77))),
 (false,oq 79 (.load false 1 (.tmp 78))),
 (false,oq 80 (.fld 0 (.tmp 9))),
 (false,oq 81 (.load false 1 (.tmp 80))),
 (false,oq 82 (.idx 1 (.tmp 79) (.tmp 81))),
 (false,oq 83 (.load false 1 (.tmp 82))),
 (false,oq 84 (.mv (.tmp 10))),
 (false,oq 85 (.idx 1 (.tmp 83) (.tmp 84))),
 (false,oq 86 (.load false 1 (.tmp 85))),
 (false,
 .mk (some 87) none
 (.ibin .add (.tmp 86) (.const (.int .i64 1)))),
 (false,oq 88 (.idx 1 (.tmp 83) (.tmp 84))),
 (false,.mk none none (.store 1 (.tmp 88) (.tmp 87)))]
 [1,2,7,9,10,52,53,54])
 (.drawn
 [(false,oq 89 (.mv (.tmp 7))),
 (false,oq 90 (.nilCheck (.tmp 89))),
 (false,oq 91 (.fld 6 (.tmp 90))),
 (false,oq 92 (.load false 1 (.tmp 91))),
 (false,oq 93 (.fld 0 (.tmp 9))),
 (false,oq 94 (.load false 1 (.tmp 93))),
 (false,oq 95 (.idx 1 (.tmp 92) (.tmp 94))),
 (false,oq 96 (.load false 1 (.tmp 95))),
 (false,oq 97 (.mv (.tmp 10))),
 (false,oq 98 (.mv (.tmp 7))),
 (false,oq 99 (.nilCheck (.tmp 98))),
 (false,oq 100 (.fld 7 (.tmp 99))),
 (false,oq 101 (.load false 1 (.tmp 100))),
 (false,oq 102 (.fld 0 (.tmp 9))),
 (false,oq 103 (.load false 1 (.tmp 102))),
 (false,oq 104 (.idx 1 (.tmp 101) (.tmp 103))),
 (false,oq 105 (.load false 1 (.tmp 104))),
 (false,oq 106 (.mv (.tmp 10))),
 (false,oq 107 (.idx 1 (.tmp 96) (.tmp 97))),
 (false,.mk none none (.store 1 (.tmp 107) (.const (.bool true)))),
 (false,oq 108 (.idx 1 (.tmp 105) (.tmp 106))),
 (false,.mk none none (.store 1 (.tmp 108) (.const (.bool true))))]
 [1,2,7,52,53,54]))
 .skip)))))
def S80_7 : Stmt :=
 .region
 [oq 109 (.ibin .add (.tmp 54) (.const (.int .i64 1))),
 oq 54 (.mv (.tmp 109))]
 [1,2,7,52,53,54]
def S80_8 : Stmt :=
 .seq
 (.region [oq 55 (.ibin .lss (.tmp 54) (.tmp 53))]
 [1,2,7,52,53,54,55])
 (.seq (.cond (.tmp 55) .skip (.exit 0)) (.join S80_6 S80_7 [] [1,2,7,52,53,54]))
def S80_9 : Stmt :=
 .seq
 (.region
 [oq 130 (.mv (.tmp 15)),
 oq 131 (.nilq 0 false (.tmp 130) (.const (.slice none 0 0)))]
 [7,13,14,15,16,131])
 (.cond (.tmp 131)
 (.region
 [oq 132 (.mv (.tmp 7)),oq 133 (.nilCheck (.tmp 132)),
 oq 134 (.fld 5 (.tmp 133)),
 oq 135 (.load false 1 (.tmp 134)),
 oq 15 (.mv (.tmp 135))]
 [7,13,14,15,16])
 .skip)
def S80_10 : Stmt :=
 .seq
 (.region [oq 147 (.ibin .lss (.tmp 146) (.tmp 145))]
 [7,13,14,15,16,17,137,138,145,146,147])
 (.seq (.cond (.tmp 147) .skip (.exit 8))
 (.seq
 (.block 9
 (.seq
 (.region
 [oq 148 (.mv (.tmp 146)),oq 18 (.mv (.tmp 148))]
 [7,13,14,15,16,17,18,137,138,145,146])
 (.drawn
 [(false,oq 149 (.mv (.tmp 14))),
 (false,oq 150 (.mv (.tmp 17))),
 (false,oq 151 (.idx 1 (.tmp 149) (.tmp 150))),
 (false,oq 152 (.load false 1 (.tmp 151))),
 (false,oq 153 (.mv (.tmp 18))),
 (false,oq 154 (.mv (.tmp 14))),
 (false,oq 155 (.mv (.tmp 17))),
 (false,oq 156 (.idx 1 (.tmp 154) (.tmp 155))),
 (false,oq 157 (.load false 1 (.tmp 156))),
 (false,oq 158 (.mv (.tmp 18))),
 (false,oq 159 (.idx 1 (.tmp 157) (.tmp 158))),
 (false,oq 160 (.load false 1 (.tmp 159))),
 (false,oq 161 (.mv (.tmp 160))),
 (false,.mk (some 162) (some (161,false)) (.mv (.tmp 7))),
 (false,.mk (some 163) (some (161,false)) (.nilCheck (.tmp 162))),
 (false,.mk (some 164) (some (161,false)) (.fld 7 (.tmp 163))),
 (false,.mk (some 165) (some (161,false)) (.load false 1 (.tmp 164))),
 (false,.mk (some 166) (some (161,false)) (.mv (.tmp 17))),
 (false,.mk (some 167) (some (161,false)) (.idx 1 (.tmp 165) (.tmp 166))),
 (false,.mk (some 168) (some (161,false)) (.load false 1 (.tmp 167))),
 (false,.mk (some 169) (some (161,false)) (.mv (.tmp 18))),
 (false,.mk (some 170) (some (161,false)) (.idx 1 (.tmp 168) (.tmp 169))),
 (false,.mk (some 171) (some (161,false)) (.load false 1 (.tmp 170))),
 (false,
 .mk (some 172) none
 (.pick (.tmp 161) (.const (.bool true)) (.tmp 171))),
 (false,oq 173 (.idx 1 (.tmp 152) (.tmp 153))),
 (false,.mk none none (.store 1 (.tmp 173) (.tmp 172)))]
 [7,13,14,15,16,17,137,138,145,146])))
 (.region
 [oq 174 (.ibin .add (.tmp 146) (.const (.int .i64 1))),
 oq 146 (.mv (.tmp 174))]
 [7,13,14,15,16,17,137,138,145,146])))
def S80_11 : Stmt :=
 .seq
 (.region [oq 139 (.ibin .lss (.tmp 138) (.tmp 137))]
 [7,13,14,15,16,137,138,139])
 (.seq (.cond (.tmp 139) .skip (.exit 6))
 (.seq
 (.block 7
 (.seq
 (.region
 [oq 140 (.mv (.tmp 138)),oq 17 (.mv (.tmp 140))]
 [7,13,14,15,16,17,137,138])
 (.seq
 (.region
 [oq 141 (.mv (.tmp 14)),oq 142 (.mv (.tmp 17)),
 oq 143 (.idx 1 (.tmp 141) (.tmp 142)),
 oq 144 (.load false 1 (.tmp 143)),
 oq 145 (.len false (.tmp 144)),
 oq 146 (.mv (.const (.int .i64 0)))]
 [7,13,14,15,16,17,137,138,145,146])
 (.block 8 (.loop S80_10 [146] [7,13,14,15,16,17,137,138,145])))))
 (.region
 [oq 175 (.ibin .add (.tmp 138) (.const (.int .i64 1))),
 oq 138 (.mv (.tmp 175))]
 [7,13,14,15,16,137,138])))
def S80_12 : Stmt :=
 .seq
 (.region
 [oq 136 (.mv (.tmp 14)),oq 137 (.len false (.tmp 136)),
 oq 138 (.mv (.const (.int .i64 0)))]
 [7,13,14,15,16,137,138])
 (.block 6 (.loop S80_11 [138] [7,13,14,15,16,137]))
def S80_13 : Stmt :=
 .seq
 (.region
 [oq 127 (.mv (.tmp 16)),oq 128 (.mv (.tmp 13)),
 oq 129 (.ibin .gtr (.tmp 127) (.tmp 128))]
 [7,13,14,15,16,129])
 (.cond (.tmp 129) (.join S80_9 S80_12 [15] [7,13,14,16]) .skip)
def S80_14 : Stmt :=
 .region
 [oq 176 (.mv (.tmp 7)),
 oq 177 (.call (.func 152) [.tmp 176])]
 [7,13,14,15,16]
def S80_15 : Stmt :=
 .block 5 (.join S80_13 S80_14 [15] [7,13,14,16])
def S80_16 : Stmt :=
 .region
 [oq 125 (.mv (.tmp 16)),
 oq 126 (.ibin .add (.tmp 125) (.const (.int .i64 1))),
 oq 16 (.mv (.tmp 126))]
 [7,13,14,15,16]
def S80_17 : Stmt :=
 .seq
 (.seq
 (.region
 [oq 120 (.mv (.tmp 16)),oq 121 (.mv (.tmp 13)),
 oq 122 (.ibin .mul (.const (.int .i64 2)) (.tmp 121)),
 oq 123 (.ibin .add (.tmp 122) (.const (.int .i64 2))),
 oq 124 (.ibin .leq (.tmp 120) (.tmp 123))]
 [7,13,14,15,16,124])
 (.cond (.tmp 124) .skip (.exit 4)))
 (.join S80_15 S80_16 [15] [7,13,14,16])
def S80_18 : Stmt :=
 .block 13
 (.seq
 (.region
 [oq 190 (.mv (.tmp 188)),oq 20 (.mv (.tmp 190))]
 [14,15,19,20,179,180,187,188])
 (.seq
 (.region
 [oq 191 (.mv (.tmp 14)),oq 192 (.mv (.tmp 19)),
 oq 193 (.idx 1 (.tmp 191) (.tmp 192)),
 oq 194 (.load false 1 (.tmp 193)),
 oq 195 (.mv (.tmp 20)),
 oq 196 (.idx 1 (.tmp 194) (.tmp 195)),
 oq 197 (.load false 1 (.tmp 196))]
 [14,15,19,20,179,180,187,188,197])
 (.cond (.tmp 197)
 (.region
 [oq 198 (.mv (.tmp 15)),oq 199 (.mv (.tmp 19)),
 oq 200 (.idx 1 (.tmp 198) (.tmp 199)),
 oq 201 (.load false 1 (.tmp 200)),
 oq 202 (.mv (.tmp 20)),
 oq 203 (.idx 1 (.tmp 201) (.tmp 202)),
 .mk none none (.store 1 (.tmp 203) (.const (.int .i64 (-1))))]
 [14,15,19,179,180,187,188])
 .skip)))
def S80_19 : Stmt :=
 .region
 [oq 204 (.ibin .add (.tmp 188) (.const (.int .i64 1))),
 oq 188 (.mv (.tmp 204))]
 [14,15,19,179,180,187,188]
def S80_20 : Stmt :=
 .seq
 (.region [oq 189 (.ibin .lss (.tmp 188) (.tmp 187))]
 [14,15,19,179,180,187,188,189])
 (.seq (.cond (.tmp 189) .skip (.exit 12))
 (.join S80_18 S80_19 [] [14,15,19,179,180,187,188]))
def S80_21 : Stmt :=
 .seq
 (.region [oq 181 (.ibin .lss (.tmp 180) (.tmp 179))]
 [14,15,179,180,181])
 (.seq (.cond (.tmp 181) .skip (.exit 10))
 (.seq
 (.block 11
 (.seq
 (.region
 [oq 182 (.mv (.tmp 180)),oq 19 (.mv (.tmp 182))]
 [14,15,19,179,180])
 (.seq
 (.region
 [oq 183 (.mv (.tmp 15)),oq 184 (.mv (.tmp 19)),
 oq 185 (.idx 1 (.tmp 183) (.tmp 184)),
 oq 186 (.load false 1 (.tmp 185)),
 oq 187 (.len false (.tmp 186)),
 oq 188 (.mv (.const (.int .i64 0)))]
 [14,15,19,179,180,187,188])
 (.block 12 (.loop S80_20 [188] [14,15,19,179,180,187])))))
 (.region
 [oq 205 (.ibin .add (.tmp 180) (.const (.int .i64 1))),
 oq 180 (.mv (.tmp 205))]
 [14,15,179,180])))
def S80_0 : Stmt :=
 .seq
 (.region
 [oq 2 (.box true 57 (.tmp 0)),
 oq 4 (.mv (.const (.slice none 0 0))),
 oq 5 (.mv (.const (.int .i64 0)))]
 [1,2])
 (.seq
 (.seq
 (.region
 [oq 21 (.load true 4 (.tmp 2)),
 oq 22 (.call (.func 42) [.tmp 21]),
 oq 6 (.mv (.tmp 22))]
 [1,2,6])
 (.seq
 (.region
 [oq 23 (.mv (.tmp 6)),
 oq 24 (.ibin .neq (.tmp 23) (.const (.int .i64 0)))]
 [1,2,6,24])
 (.cond (.tmp 24)
 (.seq
 (.region
 [oq 25 (.mv (.tmp 6)),
 oq 4 (.mv (.const (.slice none 0 0))),
 oq 5 (.mv (.tmp 25))]
 [4,5])
 .ret)
 .skip)))
 (.seq
 (.seq
 (.region
 [oq 26 (.mv (.tmp 1)),
 oq 27 (.ibin .lss (.tmp 26) (.const (.int .i64 0))),
 oq 28 (.mv (.tmp 27)),
 .mk (some 29) (some (28,false)) (.mv (.tmp 1)),
 .mk (some 30) (some (28,false))
 (.ibin .gtr (.tmp 29) (.const (.int .i64 24))),
 oq 31 (.pick (.tmp 28) (.const (.bool true)) (.tmp 30))]
 [1,2,31])
 (.cond (.tmp 31)
 (.seq
 (.region
 [oq 4 (.mv (.const (.slice none 0 0))),
 oq 5 (.mv (.const (.int .i64 1)))]
 [4,5])
 .ret)
 .skip))
 (.seq
 (.drawn
 [(true,oq 32 (.load true 4 (.tmp 2))),
 (false,oq 33 (.mv (.tmp 1))),
 (false,oq 34 (.fld 1 (.tmp 2))),
 (false,oq 35 (.load false 1 (.tmp 34))),
 (false,oq 36 (.mv (.tmp 1))),
 (false,
 oq 37 (.ibin .add (.tmp 36) (.const (.int .i64 1)))),
 (false,oq 39 (.fld 1 (.tmp 2))),
 (true,oq 40 (.load false 1 (.tmp 39))),
 (false,oq 41 (.mv (.tmp 1))),
 (false,
 oq 42 (.ibin .add (.tmp 41) (.const (.int .i64 1)))),
 (false,oq 44 (.fld 1 (.tmp 2))),
 (true,oq 45 (.load false 1 (.tmp 44))),
 (false,oq 46 (.mv (.tmp 1))),
 (false,
 oq 47 (.ibin .add (.tmp 46) (.const (.int .i64 1)))),
 (false,oq 38 (.call (.func 120) [.tmp 35,.tmp 37])),
 (false,oq 43 (.call (.func 151) [.tmp 40,.tmp 42])),
 (false,oq 48 (.call (.func 151) [.tmp 45,.tmp 47])),
 (false,
 .mk (some 49) none
 (.build 193
 [.int .i64 0,.int .i64 0,.int .i64 0,.slice none 0 0,
 .int .i64 0,.slice none 0 0,.slice none 0 0,.slice none 0 0]
 [(0,4,.tmp 32),(4,1,.tmp 33),(5,1,.tmp 38),(6,1,.tmp 43),
 (7,1,.tmp 48)])),
 (false,oq 50 (.box false 193 (.tmp 49))),
 (false,oq 7 (.mv (.tmp 50)))]
 [1,2,7])
 (.seq
 (.seq
 (.region
 [oq 51 (.fld 3 (.tmp 2)),
 oq 52 (.load false 1 (.tmp 51)),
 oq 53 (.len false (.tmp 52)),
 oq 54 (.mv (.const (.int .i64 0)))]
 [1,2,7,52,53,54])
 (.block 0 (.loop S80_8 [54] [1,2,7,52,53])))
 (.seq
 (.region
 [oq 110 (.fld 1 (.tmp 2)),
 oq 111 (.load false 1 (.tmp 110)),
 oq 112 (.mv (.tmp 1)),
 .mk (some 113) none
 (.ibin .add (.tmp 112) (.const (.int .i64 1))),
 oq 114 (.ibin .mul (.tmp 111) (.tmp 113)),
 oq 13 (.mv (.tmp 114))]
 [1,2,7,13])
 (.seq
 (.region
 [oq 115 (.fld 1 (.tmp 2)),
 oq 116 (.load false 1 (.tmp 115)),
 oq 117 (.mv (.tmp 1)),
 .mk (some 118) none
 (.ibin .add (.tmp 117) (.const (.int .i64 1))),
 oq 119 (.call (.func 151) [.tmp 116,.tmp 118]),
 oq 14 (.mv (.tmp 119))]
 [7,13,14])
 (.seq
 (.region [oq 15 (.mv (.const (.slice none 0 0)))] [7,13,14,15])
 (.seq
 (.seq
 (.region [oq 16 (.mv (.const (.int .i64 1)))]
 [7,13,14,15,16])
 (.block 4 (.loop S80_17 [15,16] [7,13,14])))
 (.seq
 (.seq
 (.region
 [oq 178 (.mv (.tmp 15)),
 oq 179 (.len false (.tmp 178)),
 oq 180 (.mv (.const (.int .i64 0)))]
 [14,15,179,180])
 (.block 10 (.loop S80_21 [180] [14,15,179])))
 (.seq
 (.region
 [oq 206 (.mv (.tmp 15)),
 oq 4 (.mv (.tmp 206)),
 oq 5 (.mv (.const (.int .i64 0)))]
 [4,5])
 .ret))))))))))
def S80 : FnS := ⟨207,[(4,none),(5,none)],S80_0⟩
theorem tr80 : trFn Try.prog 80 [2,9,12] [[1,2],[1,2,6],[1,2,6,24],[4,5],[1,2,31],[4,5],[1,2,7],[0,1,2,3,4,5,7,8,9,10,12,13,14,15,6,11,16,17,18,19],[0,8,13],[],[],[],[2],[],[4],[2,3,4,5],[],[7],[],[9],[2,3,4,5,6,7,8,9,10],[],[12],[],[14],[2,3,4,5,6,7,8,9,10,11,12,13,14,15],[0,1,2,3,4,5,6,7,8,9,10,11,12,13,14,15,16],[0,1,2,3,4,5,6,7,8,9,10,11,12,13,14,15,16,17],[0,1,2,3,4,5,6,7,8,9,10,11,12,13,14,15,16,17,18],[1,2,7,52,53,54],[54],[1,2,7,52,53],[1,2,7,52,53,54,55],[],[1,2,7,52,53,54],[1,2,7,9,52,53,54],[1,2,7,9,10,52,53,54],[1,2,7,9,10,52,53,54,59,60,61],[10,61],[1,2,7,9,52,53,54,59,60],[1,2,7,9,10,52,53,54,59,60,61,62],[10],[1,2,7,9,52,53,54,59,60,61],[1,2,7,9,10,12,52,53,54,59,60,61],[10],[1,2,7,9,52,53,54,59,60,61],[1,2,7,9,10,52,53,54,59,60,61,67],[1,2,7,9,10,52,53,54,59,60,61],[1,2,7,9,10,52,53,54,59,60,61],[1,2,7,9,10,52,53,54,59,60,61],[1,2,7,9,10,52,53,54,75],[1,2,7,9,10,52,53,54],[0,1,2,3,4,5,6,7,8,9,10,11,12,13],[],[],[0],[0,1],[0,1,2],[],[4],[0,1,2,3,4,5],[0,1,2,3,4,5,6],[],[0,1,2,3,4,5,6,7,8],[0,1,2,3,4,5,6,7,8,9],[0,1,2,3,4,5,6,7,8,9,10],[0,1,2,3,4,5,6,7,8,9,10,11],[0,1,2,3,4,5,6,7,8,9,10,11,12],[1,2,7,52,53,54],[0,1,2,3,4,5,6,7,8,9,10,11,12,13,14,15,16,17,18,19,20,21],[],[],[0],[0,1],[0,1,2],[],[4],[0,1,2,3,4,5],[0,1,2,3,4,5,6],[],[],[9],[9,10],[9,10,11],[],[13],[9,10,11,12,13,14],[9,10,11,12,13,14,15],[],[0,1,2,3,4,5,6,7,8,9,10,11,12,13,14,15,16],[0,1,2,3,4,5,6,7,8,9,10,11,12,13,14,15,16,18],[0,1,2,3,4,5,6,7,8,9,10,11,12,13,14,15,16,17,18,19],[0,1,2,3,4,5,6,7,8,9,10,11,12,13,14,15,16,17,18,19,20],[1,2,7,52,53,54],[1,2,7,13],[7,13,14],[7,13,14,15],[7,13,14,15,16],[15,16],[7,13,14],[7,13,14,15,16,124],[15],[7,13,14,16],[15],[7,13,14,16],[7,13,14,15,16,129],[15],[7,13,14,16],[7,13,14,15,16,131],[7,13,14,15,16],[7,13,14,15,16,137,138],[138],[7,13,14,15,16,137],[7,13,14,15,16,137,138,139],[7,13,14,15,16,17,137,138],[7,13,14,15,16,17,137,138,145,146],[146],[7,13,14,15,16,17,137,138,145],[7,13,14,15,16,17,137,138,145,146,147],[7,13,14,15,16,17,18,137,138,145,146],[7,13,14,15,16,17,137,138,145,146],[0,1,2,3,4,5,6,7,8,9,10,11,12,13,14,15,16,17,18,19,20,21,22,23,24,25],[],[],[],[0,1],[0,1,2],[],[],[],[5,6],[5,6,7],[],[5,6,7,8,9],[5,6,7,8,9,10],[5,6,7,8,9,10,11],[5,6,7,8,9,10,11,12],[5,6,7,8,9,10,11,12,13],[5,6,7,8,9,10,11,12,13,14],[5,6,7,8,9,10,11,12,13,14,15],[5,6,7,8,9,10,11,12],[5,6,7,8,9,10,11,12,13,14,15,16,17],[5,6,7,8,9,10,11,12,13,14,15,16,17,18],[5,6,7,8,9,10,11,12],[5,6,7,8,9,10,11,12,13,14,15,16,17,18,19,20],[5,6,7,8,9,10,11,12,13,14,15,16,17,18,19,20,21],[5,6,7,8,9,10,11,12,13,14,15,16,17,18,19,20,21,22],[0,1,2,3,4,5,6,7,8,9,10,11,12,13,14,15,16,17,18,19,20,21,22,23],[0,1,2,3,4,5,6,7,8,9,10,11,12,13,14,15,16,17,18,19,20,21,22,23,24],[7,13,14,15,16,17,137,138,145,146],[7,13,14,15,16,137,138],[7,13,14,15,16],[7,13,14,15,16],[14,15,179,180],[180],[14,15,179],[14,15,179,180,181],[14,15,19,179,180],[14,15,19,179,180,187,188],[188],[14,15,19,179,180,187],[14,15,19,179,180,187,188,189],[],[14,15,19,179,180,187,188],[14,15,19,20,179,180,187,188],[14,15,19,20,179,180,187,188,197],[14,15,19,179,180,187,188],[14,15,19,179,180,187,188],[14,15,179,180],[4,5]] = some S80 := by kernel_rfl
end Go.Proofs.Ytniobbepliknmaa.V
