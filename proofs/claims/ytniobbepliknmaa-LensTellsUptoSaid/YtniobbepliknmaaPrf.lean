/- Grammars are checked once more: parlref5.RuleFault walked; no condition. -/
import Derived.Test.YtniobbepliknmaaPck
import Derived.Test.YtniobbepliknmaaVm
import Derived.Test.YtniobbepliknmaaS42
namespace Go.Proofs.Ytniobbepliknmaa.V
open Go
set_option linter.unusedVariables false
set_option linter.unusedSimpArgs false
attribute [local go_sem] e_seq e_region e_quiet e_join e_loop e_cond e_block e_exit e_ret e_skip e_fin e_kseq e_snrm e_sret e_sex e_bnrm e_bret e_bex e_rnrm e_rret e_res e_condC e_nil e_g e_mv g_mv e_pick g_pick pickC_eq e_ibin g_ibin ibinC_eq e_sbin g_sbin e_beq g_beq beqC_eq e_nilq g_nilq nilqC_sl nilqC_pt nilqC_mp e_un g_un unC_not unC_neg e_conv g_conv convC_eq e_fld g_fld fldC_ref fldC_ptr e_nilCheck g_nilCheck nilCheckC_ref nilCheckC_ptr nilCheckC_fun e_field g_field fieldC_eq e_len g_len lenC_sl lenC_str e_extract g_extract extractC_eq e_mkFunc e_build g_build e_idiv g_idiv idivC_eq e_ishift g_ishift ishiftC_eq e_idx g_idx e_idxA g_idxA e_load g_load loadC_ref loadC_ptr loadB_eq e_slc g_slc e_box boxC_loc boxC_esc e_alloc allocC_loc allocC_esc e_buildS e_store storeC_ref storeC_ptr storeB_eq e_append e_appz e_mk mkC_eq e_call callC_eq e_fn g_fn fnC_eq fnV_min' fnV_max' fnV_rune' e_q g_q e_a e_n g_call g_box g_alloc g_buildS g_store g_append g_mk g_a g_n g_dead e_dead e_callK e_drawn e_tree e_finJ e_tk e_tfin e_tno e_nbt_q e_nbt_qn e_nbt_a e_nbt_an e_nbt_fin e_early_nil e_early_t e_early_f e_nob_nil e_nob_none e_nob_some isBox_dead isBox_v isBox_ref e_dnil e_dk e_ek e_finB vcOps_vc1 e_dcons e_tq e_ekt e_tearly e_talt e_dearly look_nil look_c proj_nil proj_c looks_nil looks_c zip_nil zip_c val_tmp val_const val_func slv_v slv_box slv_ref slot_tmp slot_const slot_func slotL_v slotL_box slotL_ref put_some put_none updBox_c boxSet_box gd_eq slotVals_nil slotVals_c slotVals_b boxV_box boxOn_box slotsOn_nil slotsOn_c slotsOn_b resV_one resV_two vals_nil vals_c allOn_nil allOn_c partOn_nil partOn_c partVals_nil partVals_c fits_nil fits_c fillL_nil fillL_c mkv_one mkv_agg cellsV_agg cellsV_int cellsV_bool cellsV_slice cellsV_string cellsV_pointer cellsV_func cellsV_nilf cellsV_map one'_nil one'_c oc_int oc_bool oc_slice oc_string oc_pointer oc_func oc_nilf oc_map setC_eq iv_add iv_sub iv_mul iv_eql iv_neq iv_lss iv_leq iv_gtr iv_geq iok_add iok_sub iok_mul iok_eql iok_neq iok_lss iok_leq iok_gtr iok_geq pickV_bool args0_nil args0_c bnd_none bnd_some imp_bt imp_bf imp_ebt imp_ebf imp_eb1 imp_np imp_pp beq_tt beq_tf beq_ft beq_ff cond_or cond_and e_round e_meet Int.le_refl Int.toNat_zero decide_true decide_false Bool.or_false Bool.false_or Bool.true_or Bool.or_true Bool.and_false Bool.false_and Bool.bne_false Bool.bne_true beq_iff_eq Int.cast_ofNat_Int not_false_eq_true not_true_eq_false false_and and_false false_implies true_implies true_and and_true Bool.true_and Bool.and_true Bool.not_true Bool.not_false forall_const implies_true List.take_zero List.drop_zero List.take_succ_cons List.drop_succ_cons List.take_nil List.drop_nil List.length_cons List.length_nil List.nil_append List.append_nil List.cons_append Int.toNat_natCast decide_eq_true_eq decide_eq_false_iff_not cond_true cond_false and_self List.getElem?_cons_zero List.getElem?_cons_succ List.set_cons_zero List.set_cons_succ Option.some.injEq exists_eq_left' Nat.zero_add Nat.add_zero Nat.mul_one imp_self true_or or_true or_false false_or Bool.or_eq_true Bool.or_eq_false_iff Bool.and_eq_true Bool.and_eq_false_iff Bool.not_eq_true' Bool.not_eq_false'

def strB (l : List UInt8) : Value := .string ⟨l.toArray⟩
theorem strB_inj (a b : List UInt8) (h : strB a = strB b) : a = b := by
  simp only [strB, Value.string.injEq, ByteArray.mk.injEq] at h
  simpa using congrArg Array.toList h
theorem kt_str {P : Program} {k : TypeId} (hk : P.underlying k = some .string) : KT P k strB (fun l => l.length ≤ 1000) :=
  KT.of (Maps.string_keyed hk) strB_inj fun a ha => ⟨Lit.string a, by simp [strB, keyOf, hk, mapKey, ByteArray.size]; unfold maxLen; omega⟩
theorem rune_str {n : Int} (h0 : 0 ≤ n) (h1 : n < 10) : Value.string (Utf8.encode (IntKind.i32.wrap n)) = strB [UInt8.ofNat n.toNat] := by
  obtain ⟨m, rfl⟩ : ∃ m : Nat, n = m := ⟨n.toNat, by omega⟩
  have : m = 0 ∨ m = 1 ∨ m = 2 ∨ m = 3 ∨ m = 4 ∨ m = 5 ∨ m = 6 ∨ m = 7 ∨ m = 8 ∨ m = 9 := by omega
  rcases this with rfl | rfl | rfl | rfl | rfl | rfl | rfl | rfl | rfl | rfl <;> rfl
theorem fn_cat {a b : List UInt8} (h : a.length + b.length ≤ 1000000) : fnV .cat [strB a, strB b] = some (strB (a ++ b)) := by
  have : (ByteArray.mk a.toArray).size + (ByteArray.mk b.toArray).size ≤ 9223372036854775807 := by simp only [ByteArray.size, List.size_toArray]; omega
  simp only [fnV, strB, if_pos this]
  refine congrArg (fun x => some (Value.string x)) (ByteArray.ext ?_)
  simp

def symK (s : Sy) : List UInt8 := [if s.t then 116 else 110, UInt8.ofNat s.n.toNat]
def symsK (l : List Sy) : List UInt8 := l.flatMap symK
def keyK (r : Ru) : List UInt8 := UInt8.ofNat r.l.toNat :: symsK r.r
def okSy (s : Sy) : Prop := 0 ≤ s.n ∧ s.n < 10
theorem byte_inj {a b : Int} (h0 : 0 ≤ a) (h1 : a < 10) (h2 : 0 ≤ b) (h3 : b < 10) (h : UInt8.ofNat a.toNat = UInt8.ofNat b.toNat) : a = b := by
  have := congrArg UInt8.toNat h
  simp only [UInt8.toNat_ofNat'] at this
  omega
theorem symK_inj {s t : Sy} (hs : okSy s) (ht : okSy t) (h : symK s = symK t) : s = t := by
  obtain ⟨a, m⟩ := s
  obtain ⟨b, n⟩ := t
  simp only [symK, List.cons.injEq, and_true] at h
  have := byte_inj hs.1 hs.2 ht.1 ht.2 h.2
  simp only at this
  subst this
  cases a <;> cases b <;> simp at h ⊢
theorem symsK_inj : ∀ {l k : List Sy}, (∀ s ∈ l, okSy s) → (∀ s ∈ k, okSy s) → symsK l = symsK k → l = k
  | [], [], _, _, _ => rfl
  | [], t :: k, _, _, h => by simp [symsK, symK] at h
  | s :: l, [], _, _, h => by simp [symsK, symK] at h
  | s :: l, t :: k, hl, hk, h => by
    have e : symsK (s :: l) = symK s ++ symsK l := rfl
    have e' : symsK (t :: k) = symK t ++ symsK k := rfl
    rw [e, e'] at h
    have h1 := List.append_inj h rfl
    rw [symK_inj (hl s (by simp)) (hk t (by simp)) h1.1, symsK_inj (fun x hx => hl x (by simp [hx])) (fun x hx => hk x (by simp [hx])) h1.2]
theorem symsK_len (l : List Sy) : (symsK l).length = 2 * l.length := by
  induction l with
  | nil => rfl
  | cons s l ih => rw [show symsK (s :: l) = symK s ++ symsK l from rfl, List.length_append, ih]; simp [symK]; omega

theorem rule_fault {Γr : Ctx} {g : Gr} {A : Option Addr} {c : Nat} (hx : SlOk (lk Γr) A c g.rs) :
    Ret Try.prog 42 [.agg #[.int .i64 g.ts, .int .i64 g.ns, .int .i64 g.st, .slice A g.rs.length c]] Γr [] (fun v Γ => Γ = [] ∧ v = .int .i64 (ckF g)) := by
  generalize hR : (fun (v : Value) (Γ : Ctx) => Γ = [] ∧ _) = R
  refine ret_of_vc tr42 (Nat.le_of_ble_eq_true rfl) ?_
  simp -implicitDefEqProofs only [S42, S42_0, go_sem, Nat.reduceBEq, Nat.reduceAdd, Nat.reduceSub, Nat.reduceMul, Nat.reduceLeDiff, reduceCtorEq, ↓reduceIte, Int.reduceLT, Int.reduceLE, Int.reduceEq, Int.reduceNe]
  intro b
  refine ⟨fun h => Up.here ?_, fun hok => ⟨fun h => Up.here ?_, fun h32 => ?_⟩⟩
  · subst hR
    exact ⟨rfl, by rw [ckF, if_pos (by unfold badHead; omega)]⟩
  · subst hR
    exact ⟨rfl, by rw [ckF, if_neg (by unfold badHead; omega), if_pos (by omega)]⟩
  have hck : ckF g = ckR g g.rs.length := by rw [ckF, if_neg (by unfold badHead; omega), if_neg (by omega)]
  refine s_mkmap fun bm => ?_
  simp -implicitDefEqProofs only [go_sem, Nat.reduceBEq, Nat.reduceAdd, Nat.reduceSub, Nat.reduceMul, Nat.reduceLeDiff, reduceCtorEq, ↓reduceIte, Int.reduceLT, Int.reduceLE, Int.reduceEq, Int.reduceNe]
  have hkt : KT Try.prog 9 strB (fun l => l.length ≤ 1000) := kt_str (by kernel_rfl)
  refine s_loop (fun f vs Γ => ∃ gm, Γ = [gm] ∧ ∃ (k : Nat), vs = [.v true (.int .i64 k)] ∧ k + f = g.rs.length ∧ ckR g k = 0 ∧ (∀ r ∈ g.rs.take k, (0 ≤ r.l ∧ r.l < 10) ∧ r.r.length ≤ 4 ∧ ∀ s ∈ r.r, okSy s) ∧ MapM gm bm strB Value.bool (fun l => l.length ≤ 1000) (mset keyK (g.rs.take k))) g.rs.length
    (Up.here ⟨_, rfl, 0, rfl, by omega, rfl, by simp, MapM.new _ _ _ _⟩) ?_
  rintro f vs Γ ⟨gm, rfl, k, rfl, hkf, hck0, hall, hM⟩
  simp -implicitDefEqProofs only [S42_6, go_sem, Nat.reduceBEq, Nat.reduceAdd, Nat.reduceSub, Nat.reduceMul, Nat.reduceLeDiff, reduceCtorEq, ↓reduceIte, Int.reduceLT, Int.reduceLE, Int.reduceEq, Int.reduceNe]
  refine ⟨fun hlt => ?_, fun hge => ?_⟩
  · have hk : k < g.rs.length := by omega
    have hgen : ∀ x, faultAt g k g.rs[k] = x → x ≠ 0 → ckF g = x := fun x h1 h2 => by rw [hck, ckR_fault hk hck0 (by rw [h1]; exact h2), h1]
    have hzero : faultAt g k g.rs[k] = 0 → ckR g (k + 1) = 0 := fun h => by rw [ckR_step hk hck0, h]
    obtain ⟨b1, o1, hA, A', c', hr, hc1⟩ := hx.ru hk
    have hrl := hr.short
    refine s_idx hA (by omega) (by omega) ?_
    simp -implicitDefEqProofs only [go_sem, Nat.reduceBEq, Nat.reduceAdd, Nat.reduceSub, Nat.reduceMul, Nat.reduceLeDiff, reduceCtorEq, ↓reduceIte, Int.reduceLT, Int.reduceLE, Int.reduceEq, Int.reduceNe]
    refine s_ld0 (hc1 _ (lk_r _ _)) (by simp) (by simp) ?_
    simp -implicitDefEqProofs only [go_sem, Nat.reduceBEq, Nat.reduceAdd, Nat.reduceSub, Nat.reduceMul, Nat.reduceLeDiff, reduceCtorEq, ↓reduceIte, Int.reduceLT, Int.reduceLE, Int.reduceEq, Int.reduceNe]
    refine ⟨fun h => Up.to [] (Ent.nil _) ?_, fun hl => ⟨fun h => Up.to [] (Ent.nil _) ?_, fun h4 => ?_⟩⟩
    · subst hR
      exact ⟨rfl, by rw [hgen 3 (by rw [faultAt, if_pos h]) (by decide)]⟩
    · subst hR
      exact ⟨rfl, by rw [hgen 2 (by rw [faultAt, if_neg (by omega), if_pos (by omega)]) (by decide)]⟩
    have hf1 : faultAt g k g.rs[k] = if g.rs[k].r.any (badSy g.ts g.ns) = true then 3 else if g.rs[k] ∈ g.rs.take k then 6 else 0 := by
      rw [faultAt, if_neg (by omega), if_neg (by omega)]
    rw [rune_str (by omega) (by omega)]
    refine s_loop (fun f' vs Γ => ∃ gm, Γ = [gm] ∧ MapM gm bm strB Value.bool (fun l => l.length ≤ 1000) (mset keyK (g.rs.take k)) ∧ ∃ j : Nat, vs = [.v true (strB (UInt8.ofNat g.rs[k].l.toNat :: symsK (g.rs[k].r.take j))), .v true (.int .i64 j)] ∧ j + f' = g.rs[k].r.length ∧ ∀ (i : Nat) (h : i < g.rs[k].r.length), i < j → badSy g.ts g.ns g.rs[k].r[i] = false ∧ okSy g.rs[k].r[i]) g.rs[k].r.length
      (Up.here ⟨_, rfl, hM, 0, rfl, by omega, by intro i _ h; omega⟩) ?_
    rintro f' vs Γ ⟨gm, rfl, hM, j, rfl, hjf, hno⟩
    simp -implicitDefEqProofs only [S42_5, go_sem, Nat.reduceBEq, Nat.reduceAdd, Nat.reduceSub, Nat.reduceMul, Nat.reduceLeDiff, reduceCtorEq, ↓reduceIte, Int.reduceLT, Int.reduceLE, Int.reduceEq, Int.reduceNe]
    refine ⟨fun hlt => ?_, fun hge => ?_⟩
    · have hj : j < g.rs[k].r.length := by omega
      refine s_split ?_
      simp -implicitDefEqProofs only [S42_3, S42_4, go_sem, Nat.reduceBEq, Nat.reduceAdd, Nat.reduceSub, Nat.reduceMul, Nat.reduceLeDiff, reduceCtorEq, ↓reduceIte, Int.reduceLT, Int.reduceLE, Int.reduceEq, Int.reduceNe]
      obtain ⟨b3, o3, hA3, hc3⟩ := hr.sy hj
      refine s_idx hA3 (by omega) (by omega) ?_
      simp -implicitDefEqProofs only [go_sem, Nat.reduceBEq, Nat.reduceAdd, Nat.reduceSub, Nat.reduceMul, Nat.reduceLeDiff, reduceCtorEq, ↓reduceIte, Int.reduceLT, Int.reduceLE, Int.reduceEq, Int.reduceNe]
      refine s_ld0 (hc3 _ (lk_r _ _)) (by simp) (by simp) ?_
      simp -implicitDefEqProofs only [go_sem, Nat.reduceBEq, Nat.reduceAdd, Nat.reduceSub, Nat.reduceMul, Nat.reduceLeDiff, reduceCtorEq, ↓reduceIte, Int.reduceLT, Int.reduceLE, Int.reduceEq, Int.reduceNe]
      intro b4
      have hlen1 : (symsK (g.rs[k].r.take j)).length ≤ 8 := by rw [symsK_len, List.length_take]; omega
      refine s_join (fun vs Γ' => Γ' = [gm] ∧ vs = [.v true (strB (UInt8.ofNat g.rs[k].l.toNat :: symsK (g.rs[k].r.take j) ++ [if g.rs[k].r[j].t then 116 else 110])), .v true (.int .i64 (if g.rs[k].r[j].t then g.ts else g.ns))]) ?_ ?_
      · simp -implicitDefEqProofs only [S42_1, go_sem, Nat.reduceBEq, Nat.reduceAdd, Nat.reduceSub, Nat.reduceMul, Nat.reduceLeDiff, reduceCtorEq, ↓reduceIte, Int.reduceLT, Int.reduceLE, Int.reduceEq, Int.reduceNe]
        refine ⟨fun ht => ?_, fun ht => ?_⟩
        · rw [show Value.string (ByteArray.mk (Array.mk [UInt8.ofNat 116])) = strB [116] from rfl, fn_cat (by simp only [List.length_cons, List.length_nil]; omega)]
          simp -implicitDefEqProofs only [go_sem, Nat.reduceBEq, Nat.reduceAdd, Nat.reduceSub, Nat.reduceMul, Nat.reduceLeDiff, reduceCtorEq, ↓reduceIte, Int.reduceLT, Int.reduceLE, Int.reduceEq, Int.reduceNe]
          exact Up.here ⟨rfl, by rw [ht]; rfl⟩
        · rw [show Value.string (ByteArray.mk (Array.mk [UInt8.ofNat 110])) = strB [110] from rfl, fn_cat (by simp only [List.length_cons, List.length_nil]; omega)]
          simp -implicitDefEqProofs only [go_sem, Nat.reduceBEq, Nat.reduceAdd, Nat.reduceSub, Nat.reduceMul, Nat.reduceLeDiff, reduceCtorEq, ↓reduceIte, Int.reduceLT, Int.reduceLE, Int.reduceEq, Int.reduceNe]
          exact Up.here ⟨rfl, by rw [ht]; rfl⟩
      · rintro vs Γ' ⟨rfl, rfl⟩
        simp -implicitDefEqProofs only [S42_2, go_sem, Nat.reduceBEq, Nat.reduceAdd, Nat.reduceSub, Nat.reduceMul, Nat.reduceLeDiff, reduceCtorEq, ↓reduceIte, Int.reduceLT, Int.reduceLE, Int.reduceEq, Int.reduceNe]
        refine ⟨fun h => Up.to [] (Ent.nil _) ?_, fun h => ?_⟩
        · have hb : g.rs[k].r.any (badSy g.ts g.ns) = true := List.any_eq_true.2 ⟨g.rs[k].r[j], List.getElem_mem hj, by
            unfold badSy
            cases ht : g.rs[k].r[j].t <;> simp only [ht, if_true, if_false, Bool.false_eq_true] at h <;> simp <;> omega⟩
          subst hR
          exact ⟨rfl, by rw [hgen 3 (by rw [hf1, if_pos hb]) (by decide)]⟩
        · have hok2 : okSy g.rs[k].r[j] := by
            unfold okSy
            cases ht : g.rs[k].r[j].t <;> simp only [ht, if_true, if_false, Bool.false_eq_true] at h <;> omega
          have hnb : badSy g.ts g.ns g.rs[k].r[j] = false := by
            unfold badSy
            cases ht : g.rs[k].r[j].t <;> simp only [ht, if_true, if_false, Bool.false_eq_true] at h <;> simp <;> omega
          rw [rune_str hok2.1 hok2.2, fn_cat (by simp only [List.length_cons, List.length_append, List.length_nil]; omega)]
          simp -implicitDefEqProofs only [go_sem, Nat.reduceBEq, Nat.reduceAdd, Nat.reduceSub, Nat.reduceMul, Nat.reduceLeDiff, reduceCtorEq, ↓reduceIte, Int.reduceLT, Int.reduceLE, Int.reduceEq, Int.reduceNe]
          simp (disch := omega) only [wrap_id]
          refine Up.here ⟨f' - 1, by omega, Up.here ⟨_, rfl, hM, j + 1, ?_, by omega, fun i hi hij => ?_⟩⟩
          · have e : symsK (g.rs[k].r.take (j + 1)) = symsK (g.rs[k].r.take j) ++ symK g.rs[k].r[j] := by
              rw [List.take_succ_eq_append_getElem hj]
              simp only [symsK, List.flatMap_append, List.flatMap_cons, List.flatMap_nil, List.append_nil]
            rw [e]
            simp [symK]
          · by_cases e : i = j
            · subst e; exact ⟨hnb, hok2⟩
            · exact hno i hi (by omega)
    have hj : j = g.rs[k].r.length := by omega
    rw [hj, List.take_length]
    have hnb : ¬ (g.rs[k].r.any (badSy g.ts g.ns) = true) := by
      intro h
      obtain ⟨x, hx, hb⟩ := List.any_eq_true.1 h
      obtain ⟨i, hi, rfl⟩ := List.getElem_of_mem hx
      rw [(hno i hi (by omega)).1] at hb
      cases hb
    have hf2 : faultAt g k g.rs[k] = if g.rs[k] ∈ g.rs.take k then 6 else 0 := by rw [hf1, if_neg hnb]
    have hokr : (0 ≤ g.rs[k].l ∧ g.rs[k].l < 10) ∧ g.rs[k].r.length ≤ 4 ∧ ∀ s ∈ g.rs[k].r, okSy s := by
      refine ⟨by omega, by omega, fun s hs => ?_⟩
      obtain ⟨i, hi, rfl⟩ := List.getElem_of_mem hs
      exact (hno i hi (by omega)).2
    rw [show UInt8.ofNat g.rs[k].l.toNat :: symsK g.rs[k].r = keyK g.rs[k] from rfl]
    have hkl : (keyK g.rs[k]).length ≤ 1000 := by simp only [keyK, List.length_cons, symsK_len]; omega
    have hkinj : ∀ r ∈ g.rs.take k, keyK r = keyK g.rs[k] → r = g.rs[k] := by
      intro r hr he
      have h1 := hall r hr
      simp only [keyK, List.cons.injEq] at he
      have e1 := byte_inj h1.1.1 h1.1.2 hokr.1.1 hokr.1.2 he.1
      have e2 := symsK_inj h1.2.2 hokr.2.2 he.2
      cases r
      simp only at e1 e2
      rw [e1, e2]
    refine s_q trivial (qr_look hkt (et := 4) (z := .bool false) (by kernel_rfl) (zero_run (by kernel_rfl)) false (hM.l (by simp)) hkl) ?_
    simp -implicitDefEqProofs only [go_sem, Nat.reduceBEq, Nat.reduceAdd, Nat.reduceSub, Nat.reduceMul, Nat.reduceLeDiff, reduceCtorEq, ↓reduceIte, Int.reduceLT, Int.reduceLE, Int.reduceEq, Int.reduceNe]
    rw [mget_set]
    by_cases hin : g.rs[k] ∈ g.rs.take k
    · rw [if_pos (List.mem_map.2 ⟨_, hin, rfl⟩)]
      simp only [Option.elim_some]
      simp -implicitDefEqProofs only [go_sem, Nat.reduceBEq, Nat.reduceAdd, Nat.reduceSub, Nat.reduceMul, Nat.reduceLeDiff, reduceCtorEq, ↓reduceIte, Int.reduceLT, Int.reduceLE, Int.reduceEq, Int.reduceNe]
      refine Up.to [] (Ent.nil _) ?_
      subst hR
      exact ⟨rfl, by rw [hgen 6 (by rw [hf2, if_pos hin]) (by decide)]⟩
    · have hnk : keyK g.rs[k] ∉ (g.rs.take k).map keyK := by
        intro h
        obtain ⟨r, hr, he⟩ := List.mem_map.1 h
        exact hin (hkinj r hr he ▸ hr)
      rw [if_neg hnk]
      simp only [Option.elim_none]
      simp -implicitDefEqProofs only [go_sem, Nat.reduceBEq, Nat.reduceAdd, Nat.reduceSub, Nat.reduceMul, Nat.reduceLeDiff, reduceCtorEq, ↓reduceIte, Int.reduceLT, Int.reduceLE, Int.reduceEq, Int.reduceNe]
      refine s_upd hkt (et := 4) (ix := 0) (eV := Value.bool) (by kernel_rfl) rfl hM true hkl ?_
      intro g' hM' _
      rw [mput_set _ _ _ hnk, ← List.take_succ_eq_append_getElem hk] at hM'
      simp -implicitDefEqProofs only [go_sem, Nat.reduceBEq, Nat.reduceAdd, Nat.reduceSub, Nat.reduceMul, Nat.reduceLeDiff, reduceCtorEq, ↓reduceIte, Int.reduceLT, Int.reduceLE, Int.reduceEq, Int.reduceNe]
      simp (disch := omega) only [wrap_id]
      refine ⟨f - 1, by omega, Up.here ⟨_, rfl, k + 1, rfl, by omega, hzero (by rw [hf2, if_neg hin]), fun r hr => ?_, hM'⟩⟩
      rw [List.take_succ_eq_append_getElem hk, List.mem_append, List.mem_singleton] at hr
      rcases hr with hr | rfl
      · exact hall r hr
      · exact hokr
  · have hk : k = g.rs.length := by omega
    subst hk
    refine Up.to [] (Ent.nil _) ?_
    subst hR
    exact ⟨rfl, by rw [hck, hck0]⟩
end Go.Proofs.Ytniobbepliknmaa.V
