/- A weight by coins: draw.Pick walked; no condition. -/
import Derived.Test.YtniobbepliknmaaPdraw
import Derived.Test.YtniobbepliknmaaS23
namespace Go.Proofs.Ytniobbepliknmaa.V
open Go
set_option linter.unusedVariables false
set_option linter.unusedSimpArgs false
attribute [local go_sem] e_seq e_region e_quiet e_join e_loop e_cond e_block e_exit e_ret e_skip e_fin e_kseq e_snrm e_sret e_sex e_bnrm e_bret e_bex e_rnrm e_rret e_res e_condC e_nil e_g e_mv g_mv e_pick g_pick pickC_eq e_ibin g_ibin ibinC_eq e_sbin g_sbin e_beq g_beq beqC_eq e_nilq g_nilq e_un g_un unC_not unC_neg e_conv g_conv convC_eq e_fld g_fld fldC_ref fldC_ptr e_nilCheck g_nilCheck nilCheckC_ref nilCheckC_ptr nilCheckC_fun e_field g_field fieldC_eq e_len g_len lenC_sl lenC_str e_extract g_extract extractC_eq e_mkFunc e_build g_build e_idiv g_idiv idivC_eq e_ishift g_ishift ishiftC_eq e_idx g_idx e_idxA g_idxA e_load g_load loadC_ref loadC_ptr loadB_eq e_slc g_slc e_box boxC_loc boxC_esc e_alloc allocC_loc allocC_esc e_buildS e_store storeC_ref storeC_ptr storeB_eq e_append e_mk mkC_eq e_call callC_eq e_callK look_nil look_c proj_nil proj_c looks_nil looks_c zip_nil zip_c val_tmp val_const val_func slv_v slv_box slv_ref slot_tmp slot_const slot_func slotL_v slotL_box slotL_ref put_some put_none updBox_c boxSet_box gd_eq slotVals_nil slotVals_c slotsOn_nil slotsOn_c resV_one resV_two vals_nil vals_c allOn_nil allOn_c partOn_nil partOn_c partVals_nil partVals_c fits_nil fits_c fillL_nil fillL_c mkv_one mkv_agg cellsV_agg cellsV_int cellsV_bool cellsV_slice cellsV_string cellsV_pointer cellsV_func cellsV_nilf cellsV_map one'_nil one'_c oc_int oc_bool oc_slice oc_string oc_pointer oc_func oc_nilf oc_map setC_eq iv_add iv_sub iv_mul iv_eql iv_neq iv_lss iv_leq iv_gtr iv_geq iok_add iok_sub iok_mul iok_eql iok_neq iok_lss iok_leq iok_gtr iok_geq pickV_bool args0_nil args0_c bnd_none bnd_some imp_bt imp_bf imp_ebt imp_ebf imp_eb1 imp_np imp_pp cond_or cond_and e_round e_meet beq_iff_eq Int.cast_ofNat_Int not_false_eq_true not_true_eq_false false_and and_false false_implies true_implies true_and and_true Bool.true_and Bool.and_true Bool.not_true Bool.not_false forall_const implies_true List.take_zero List.drop_zero List.take_succ_cons List.drop_succ_cons List.take_nil List.drop_nil List.length_cons List.length_nil List.nil_append List.append_nil List.cons_append Int.toNat_natCast decide_eq_true_eq decide_eq_false_iff_not cond_true cond_false and_self List.getElem?_cons_zero List.getElem?_cons_succ Option.some.injEq exists_eq_left' Nat.zero_add Nat.add_zero Nat.mul_one imp_self true_or or_true or_false false_or Bool.or_eq_true Bool.or_eq_false_iff Bool.and_eq_true Bool.and_eq_false_iff Bool.not_eq_true' Bool.not_eq_false'

theorem SlOk.elem_int {h : PH} {A : Option Addr} {c : Nat} {xs : List Int} (q : SlOk h A c xs) {k : Nat} (hk : k < xs.length) :
    ∃ b o, A = some ⟨b, o, none⟩ ∧ ∀ Γ : Ctx, h ∈ Γ → Cells Γ b (o + k) [.int .i64 xs[k]] := by
  obtain ⟨b, o, rfl, cs, hok, hcells⟩ := q.elem (i := k) (x := xs[k]) (List.getElem?_eq_getElem hk)
  obtain rfl := ok_int hok
  exact ⟨b, o, rfl, fun Γ h => by simpa [Rep.sz] using hcells Γ h⟩

def badW (w : Int) : Prop := w < 0 ∨ 1000000 < w
instance (w : Int) : Decidable (badW w) := by unfold badW; infer_instance
def pickI : List Int → Int → Nat → Option Nat
  | [], _, _ => none
  | w :: r, x, i => if x < w then some i else pickI r (x - w) (i + 1)
def pickedW (ws : List Int) (coins : List Bool) : Int × Int × Int :=
  if 100 < ws.length then (0, 0, 2)
  else if (∃ w ∈ ws, badW w) ∨ ws.sum = 0 then (0, 0, 1)
  else match coinsF ws.sum.toNat coins with
    | none => (0, 0, 5)
    | some (x, u) => match pickI ws x 0 with
      | some i => (i, u, 0)
      | none => (0, 0, 5)

theorem coinsG_lt {n b : Nat} {coins : List Bool} : ∀ {f u : Nat} {x v : Nat}, coinsG n b coins f u = some (x, v) → x < n
  | 0, u, x, v, h => by simp [coinsG] at h
  | f + 1, u, x, v, h => by
    simp only [coinsG] at h
    split at h
    · split at h
      · simp at h; omega
      · exact coinsG_lt h
    · cases h
theorem coinsF_lt {n : Nat} {coins : List Bool} {x v : Nat} (h : coinsF n coins = some (x, v)) : x < n := coinsG_lt h

theorem sum_take (ws : List Int) (k : Nat) (hk : k < ws.length) : (ws.take (k + 1)).sum = (ws.take k).sum + ws[k] := by
  rw [List.take_succ_eq_append_getElem hk, List.sum_append]
  simp
theorem drop_cons (ws : List Int) (k : Nat) (hk : k < ws.length) : ws.drop k = ws[k] :: ws.drop (k + 1) := List.drop_eq_getElem_cons hk

theorem draw_pick {Γr : Ctx} {g1 g2 : PH} (m1 : g1 ∈ Γr) (m2 : g2 ∈ Γr) (A : Option Addr) (c : Nat) (ws : List Int) (B : Option Addr) (d : Nat) (coins : List Bool) (hw : SlOk g1 A c ws) (hc : SlOk g2 B d coins) :
    Ret Try.prog 23 [.slice A ws.length c, .slice B coins.length d] Γr [] (fun v Γ => Γ = [] ∧
      v = .tuple #[.int .i64 (pickedW ws coins).1, .int .i64 (pickedW ws coins).2.1, .int .i64 (pickedW ws coins).2.2]) := by
  generalize hR : (fun v Γ => Γ = [] ∧ v = _) = R
  refine ret_of_vc tr23 (Nat.le_of_ble_eq_true rfl) ?_
  simp only [S23, S23_0, go_sem, Nat.reduceBEq, Nat.reduceAdd, Nat.reduceSub, Nat.reduceMul, Nat.reduceLeDiff, reduceCtorEq, ↓reduceIte, Int.reduceLT, Int.reduceLE, Int.reduceEq, Int.reduceNe]
  refine ⟨fun h => Up.here ?_, fun h100 => ?_⟩
  · subst hR
    have : 100 < ws.length := by omega
    exact ⟨rfl, by simp [pickedW, this]⟩
  have hno : ¬ 100 < ws.length := by omega
  -- the sum
  refine s_loop (fun f vs Γ => Γ = [] ∧ ∃ k : Nat, vs = [.v true (.int .i64 (ws.take k).sum), .v true (.int .i64 k)] ∧ k + f = ws.length ∧ (∀ w ∈ ws.take k, ¬ badW w) ∧ 0 ≤ (ws.take k).sum ∧ (ws.take k).sum ≤ k * 1000000)
    ws.length (Up.here ⟨rfl, 0, rfl, by omega, by simp, by simp, by simp⟩) ?_
  rintro f vs Γ ⟨rfl, k, rfl, hkf, hgood, hs0, hs1⟩
  simp only [S23_1, go_sem, Nat.reduceBEq, Nat.reduceAdd, Nat.reduceSub, Nat.reduceMul, Nat.reduceLeDiff, reduceCtorEq, ↓reduceIte, Int.reduceLT, Int.reduceLE, Int.reduceEq, Int.reduceNe]
  refine ⟨fun hlt => ?_, fun hge => ?_⟩
  · have hk : k < ws.length := by omega
    obtain ⟨b, o, rfl, hcells⟩ := hw.elem_int hk
    refine s_idx rfl (by omega) (by omega) ?_
    simp only [go_sem, Nat.reduceBEq, Nat.reduceAdd, Nat.reduceSub, Nat.reduceMul, Nat.reduceLeDiff, reduceCtorEq, ↓reduceIte, Int.reduceLT, Int.reduceLE, Int.reduceEq, Int.reduceNe]
    refine s_load (vs := [.int .i64 ws[k]]) (hcells _ (by simpa using m1)) ?_
    simp only [go_sem, Nat.reduceBEq, Nat.reduceAdd, Nat.reduceSub, Nat.reduceMul, Nat.reduceLeDiff, reduceCtorEq, ↓reduceIte, Int.reduceLT, Int.reduceLE, Int.reduceEq, Int.reduceNe]
    refine ⟨fun hbad => Up.here ?_, fun hok => ?_⟩
    · subst hR
      have : ∃ w ∈ ws, badW w := ⟨ws[k], List.getElem_mem _, hbad⟩
      exact ⟨rfl, by simp [pickedW, hno, this]⟩
    · have hst := sum_take ws k hk
      have w1 : IntKind.i64.wrap ((ws.take k).sum + ws[k]) = (ws.take (k + 1)).sum := by rw [hst]; exact wrap_id (by omega) (by omega)
      have w2 : IntKind.i64.wrap ((k : Int) + 1) = ((k + 1 : Nat) : Int) := wrap_id (by omega) (by omega)
      simp only [w1, w2]
      refine ⟨f - 1, by omega, Up.here ⟨rfl, k + 1, rfl, by omega, ?_, by omega, by omega⟩⟩
      intro w hw'
      rw [List.take_succ_eq_append_getElem hk, List.mem_append] at hw'
      rcases hw' with q | q
      · exact hgood w q
      · simp at q
        subst q
        unfold badW
        omega
  · have hk : k = ws.length := by omega
    subst hk
    rw [List.take_length] at *
    have hgood' : ¬ ∃ w ∈ ws, badW w := fun ⟨w, q1, q2⟩ => hgood w q1 q2
    refine ⟨fun hz => Up.here ?_, fun hnz => ?_⟩
    · subst hR
      exact ⟨rfl, by simp [pickedW, hno, hz]⟩
    obtain ⟨m, hm⟩ : ∃ m : Nat, ws.sum = m := ⟨ws.sum.toNat, by omega⟩
    have hpv : pickedW ws coins = match coinsF m coins with
        | none => (0, 0, 5)
        | some (x, u) => match pickI ws x 0 with
          | some i => (i, u, 0)
          | none => (0, 0, 5) := by
      have hmz : ¬ (m : Int) = 0 := by omega
      simp only [pickedW, hno, hgood', hm, hmz, if_false, or_self, Int.toNat_natCast]
    rw [hm]
    refine CallVC.pure (draw_number g2 m B d coins hc) (by simpa using m2) ?_
    rintro v Γ' ⟨rfl, rfl⟩
    rw [if_neg (by omega), Int.toNat_natCast]
    cases hcf : coinsF m coins with
    | none =>
      rw [hcf] at hpv
      simp only [go_sem, Nat.reduceBEq, Nat.reduceAdd, Nat.reduceSub, Nat.reduceMul, Nat.reduceLeDiff, reduceCtorEq, ↓reduceIte, Int.reduceLT, Int.reduceLE, Int.reduceEq, Int.reduceNe]
      refine Up.here ?_
      subst hR
      exact ⟨rfl, by simp [hpv]⟩
    | some xu =>
      obtain ⟨x, u⟩ := xu
      rw [hcf] at hpv
      have hx := coinsF_lt hcf
      simp only at hpv
      simp only [go_sem, Nat.reduceBEq, Nat.reduceAdd, Nat.reduceSub, Nat.reduceMul, Nat.reduceLeDiff, reduceCtorEq, ↓reduceIte, Int.reduceLT, Int.reduceLE, Int.reduceEq, Int.reduceNe]
      refine s_loop (fun f vs Γ => Γ = [] ∧ ∃ (k : Nat) (y : Int), vs = [.v true (.int .i64 y), .v true (.int .i64 k)] ∧ k + f = ws.length ∧ 0 ≤ y ∧ y ≤ 1000000000 ∧ pickI (ws.drop k) y k = pickI ws x 0)
        ws.length (Up.here ⟨rfl, 0, x, rfl, by omega, by omega, by omega, rfl⟩) ?_
      rintro f vs Γ ⟨rfl, k, y, rfl, hkf, hy0, hy1, hpk⟩
      simp only [S23_2, go_sem, Nat.reduceBEq, Nat.reduceAdd, Nat.reduceSub, Nat.reduceMul, Nat.reduceLeDiff, reduceCtorEq, ↓reduceIte, Int.reduceLT, Int.reduceLE, Int.reduceEq, Int.reduceNe]
      refine ⟨fun hlt => ?_, fun hge => ?_⟩
      · have hk : k < ws.length := by omega
        obtain ⟨b, o, rfl, hcells⟩ := hw.elem_int hk
        refine s_idx rfl (by omega) (by omega) ?_
        simp only [go_sem, Nat.reduceBEq, Nat.reduceAdd, Nat.reduceSub, Nat.reduceMul, Nat.reduceLeDiff, reduceCtorEq, ↓reduceIte, Int.reduceLT, Int.reduceLE, Int.reduceEq, Int.reduceNe]
        refine s_load (vs := [.int .i64 ws[k]]) (hcells _ (by simpa using m1)) ?_
        simp only [go_sem, Nat.reduceBEq, Nat.reduceAdd, Nat.reduceSub, Nat.reduceMul, Nat.reduceLeDiff, reduceCtorEq, ↓reduceIte, Int.reduceLT, Int.reduceLE, Int.reduceEq, Int.reduceNe]
        rw [drop_cons ws k hk, pickI] at hpk
        have hg := hgood ws[k] (List.getElem_mem _)
        unfold badW at hg
        refine ⟨fun hyw => Up.here ?_, fun hyw => ?_⟩
        · rw [if_pos hyw] at hpk
          subst hR
          exact ⟨rfl, by simp [hpv, ← hpk]⟩
        · rw [if_neg hyw] at hpk
          have w1 : IntKind.i64.wrap (y - ws[k]) = y - ws[k] := wrap_id (by omega) (by omega)
          have w2 : IntKind.i64.wrap ((k : Int) + 1) = ((k + 1 : Nat) : Int) := wrap_id (by omega) (by omega)
          simp only [w1, w2]
          exact ⟨f - 1, by omega, Up.here ⟨rfl, k + 1, _, rfl, by omega, by omega, by omega, hpk⟩⟩
      · have hk : k = ws.length := by omega
        subst hk
        rw [List.drop_length] at hpk
        refine Up.here ?_
        subst hR
        exact ⟨rfl, by simp [hpv, ← hpk, pickI]⟩
end Go.Proofs.Ytniobbepliknmaa.V
