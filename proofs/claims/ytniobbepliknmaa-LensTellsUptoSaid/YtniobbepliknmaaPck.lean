/- Grammars are checked: gram.Order, gram.Compare and gram.Check walked; no condition. -/
import Derived.Test.YtniobbepliknmaaPcmp
import Derived.Test.YtniobbepliknmaaS203
import Derived.Test.YtniobbepliknmaaS202
import Derived.Test.YtniobbepliknmaaS172
import Derived.Test.YtniobbepliknmaaS112
namespace Go.Proofs.Ytniobbepliknmaa.V
open Go
set_option linter.unusedVariables false
set_option linter.unusedSimpArgs false
attribute [local go_sem] e_seq e_region e_quiet e_join e_loop e_cond e_block e_exit e_ret e_skip e_fin e_kseq e_snrm e_sret e_sex e_bnrm e_bret e_bex e_rnrm e_rret e_res e_condC e_nil e_g e_mv g_mv e_pick g_pick pickC_eq e_ibin g_ibin ibinC_eq e_sbin g_sbin e_beq g_beq beqC_eq e_nilq g_nilq nilqC_sl nilqC_pt nilqC_mp e_un g_un unC_not unC_neg e_conv g_conv convC_eq e_fld g_fld fldC_ref fldC_ptr e_nilCheck g_nilCheck nilCheckC_ref nilCheckC_ptr nilCheckC_fun e_field g_field fieldC_eq e_len g_len lenC_sl lenC_str e_extract g_extract extractC_eq e_mkFunc e_build g_build e_idiv g_idiv idivC_eq e_ishift g_ishift ishiftC_eq e_idx g_idx e_idxA g_idxA e_load g_load loadC_ref loadC_ptr loadB_eq e_slc g_slc e_box boxC_loc boxC_esc e_alloc allocC_loc allocC_esc e_buildS e_store storeC_ref storeC_ptr storeB_eq e_append e_appz e_mk mkC_eq e_call callC_eq e_fn g_fn fnC_eq fnV_min' fnV_max' fnV_rune' e_q g_q e_a e_n g_call g_box g_alloc g_buildS g_store g_append g_mk g_a g_n g_dead e_dead e_callK e_drawn e_tree e_finJ e_tk e_tfin e_tno e_nbt_q e_nbt_qn e_nbt_a e_nbt_an e_nbt_fin e_early_nil e_early_t e_early_f e_nob_nil e_nob_none e_nob_some isBox_dead isBox_v isBox_ref e_dnil e_dk e_ek e_finB vcOps_vc1 e_dcons e_tq e_ekt e_tearly e_talt e_dearly look_nil look_c proj_nil proj_c looks_nil looks_c zip_nil zip_c val_tmp val_const val_func slv_v slv_box slv_ref slot_tmp slot_const slot_func slotL_v slotL_box slotL_ref put_some put_none updBox_c boxSet_box gd_eq slotVals_nil slotVals_c slotVals_b boxV_box boxOn_box slotsOn_nil slotsOn_c slotsOn_b resV_one resV_two vals_nil vals_c allOn_nil allOn_c partOn_nil partOn_c partVals_nil partVals_c fits_nil fits_c fillL_nil fillL_c mkv_one mkv_agg cellsV_agg cellsV_int cellsV_bool cellsV_slice cellsV_string cellsV_pointer cellsV_func cellsV_nilf cellsV_map one'_nil one'_c oc_int oc_bool oc_slice oc_string oc_pointer oc_func oc_nilf oc_map setC_eq iv_add iv_sub iv_mul iv_eql iv_neq iv_lss iv_leq iv_gtr iv_geq iok_add iok_sub iok_mul iok_eql iok_neq iok_lss iok_leq iok_gtr iok_geq pickV_bool args0_nil args0_c bnd_none bnd_some imp_bt imp_bf imp_ebt imp_ebf imp_eb1 imp_np imp_pp beq_tt beq_tf beq_ft beq_ff cond_or cond_and e_round e_meet Int.le_refl Int.toNat_zero decide_true decide_false Bool.or_false Bool.false_or Bool.true_or Bool.or_true Bool.and_false Bool.false_and Bool.bne_false Bool.bne_true beq_iff_eq Int.cast_ofNat_Int not_false_eq_true not_true_eq_false false_and and_false false_implies true_implies true_and and_true Bool.true_and Bool.and_true Bool.not_true Bool.not_false forall_const implies_true List.take_zero List.drop_zero List.take_succ_cons List.drop_succ_cons List.take_nil List.drop_nil List.length_cons List.length_nil List.nil_append List.append_nil List.cons_append Int.toNat_natCast decide_eq_true_eq decide_eq_false_iff_not cond_true cond_false and_self List.getElem?_cons_zero List.getElem?_cons_succ List.set_cons_zero List.set_cons_succ Option.some.injEq exists_eq_left' Nat.zero_add Nat.add_zero Nat.mul_one imp_self true_or or_true or_false false_or Bool.or_eq_true Bool.or_eq_false_iff Bool.and_eq_true Bool.and_eq_false_iff Bool.not_eq_true' Bool.not_eq_false'

def symC (a b : Sy) : Int := if a.t = true ∧ b.t = false then -1 else if a.t = false ∧ b.t = true then 1 else cmpI a.n b.n
def symsC : List Sy → List Sy → Int
  | [], [] => 0
  | [], _ :: _ => -1
  | _ :: _, [] => 1
  | a :: r, b :: s => if symC a b = 0 then symsC r s else symC a b
def ruleC (a b : Ru) : Int := if cmpI a.l b.l = 0 then symsC a.r b.r else cmpI a.l b.l
theorem cmpI_zero {a b : Int} : cmpI a b = 0 ↔ a = b := by
  unfold cmpI
  constructor
  · intro h
    split at h
    · omega
    · split at h <;> omega
  · rintro rfl
    simp
theorem symC_zero {a b : Sy} : symC a b = 0 ↔ a = b := by
  obtain ⟨t, n⟩ := a
  obtain ⟨t', n'⟩ := b
  unfold symC
  cases t <;> cases t' <;> simp [cmpI_zero]
theorem symsC_zero : ∀ {a b : List Sy}, symsC a b = 0 ↔ a = b
  | [], [] => by simp [symsC]
  | [], _ :: _ => by simp [symsC]
  | _ :: _, [] => by simp [symsC]
  | a :: r, b :: s => by
    simp only [symsC, List.cons.injEq]
    by_cases h : symC a b = 0
    · rw [if_pos h, symsC_zero (a := r), symC_zero] at *
      exact ⟨fun q => ⟨h, q⟩, fun q => q.2⟩
    · rw [if_neg h]
      exact ⟨fun q => absurd q h, fun q => absurd (symC_zero.2 q.1) h⟩
theorem ruleC_zero {a b : Ru} : ruleC a b = 0 ↔ a = b := by
  obtain ⟨l, r⟩ := a
  obtain ⟨l', r'⟩ := b
  unfold ruleC
  by_cases h : cmpI l l' = 0
  · rw [if_pos h, symsC_zero]
    simp only [Ru.mk.injEq, cmpI_zero.1 h, true_and]
  · simp only [if_neg h, Ru.mk.injEq]
    exact ⟨fun q => absurd q h, fun q => absurd (cmpI_zero.2 q.1) h⟩

theorem gram_order {Γr : Ctx} (a b : Sy) : Ret Try.prog 203 [.agg #[.bool a.t, .int .i64 a.n], .agg #[.bool b.t, .int .i64 b.n]] Γr [] (fun v Γ => Γ = [] ∧ v = .int .i64 (symC a b)) := by
  generalize hR : (fun (v : Value) (Γ : Ctx) => Γ = [] ∧ _) = R
  refine ret_of_vc tr203 (Nat.le_of_ble_eq_true rfl) ?_
  obtain ⟨t, n⟩ := a
  obtain ⟨t', n'⟩ := b
  cases t <;> cases t'
  all_goals
    simp -implicitDefEqProofs only [S203, S203_0, go_sem, Nat.reduceBEq, Nat.reduceAdd, Nat.reduceSub, Nat.reduceMul, Nat.reduceLeDiff, reduceCtorEq, ↓reduceIte, Int.reduceLT, Int.reduceLE, Int.reduceEq, Int.reduceNe]
  · intro b b'
    refine CallVC.read (cmp_compare _ _) ?_
    rintro v Γ' ⟨rfl, rfl⟩
    simp -implicitDefEqProofs only [go_sem, Nat.reduceBEq, Nat.reduceAdd, Nat.reduceSub, Nat.reduceMul, Nat.reduceLeDiff, reduceCtorEq, ↓reduceIte, Int.reduceLT, Int.reduceLE, Int.reduceEq, Int.reduceNe]
    refine Up.here ?_
    subst hR
    exact ⟨rfl, rfl⟩
  · refine Up.here ?_
    subst hR
    exact ⟨rfl, rfl⟩
  · refine Up.here ?_
    subst hR
    exact ⟨rfl, rfl⟩
  · intro b b'
    refine CallVC.read (cmp_compare _ _) ?_
    rintro v Γ' ⟨rfl, rfl⟩
    simp -implicitDefEqProofs only [go_sem, Nat.reduceBEq, Nat.reduceAdd, Nat.reduceSub, Nat.reduceMul, Nat.reduceLeDiff, reduceCtorEq, ↓reduceIte, Int.reduceLT, Int.reduceLE, Int.reduceEq, Int.reduceNe]
    refine Up.here ?_
    subst hR
    exact ⟨rfl, rfl⟩

theorem compare_syms {Γr : Ctx} {A B : Option Addr} {c d : Nat} {xs ys : List Sy} (hx : SlOk (lk Γr) A c xs) (hy : SlOk (lk Γr) B d ys) :
    Ret Try.prog 202 [.slice A xs.length c, .slice B ys.length d, .func (.func 203) #[] #[]] Γr [] (fun v Γ => Γ = [] ∧ v = .int .i64 (symsC xs ys)) := by
  generalize hR : (fun (v : Value) (Γ : Ctx) => Γ = [] ∧ _) = R
  refine ret_of_vc tr202 (Nat.le_of_ble_eq_true rfl) ?_
  have h1 := hx.short
  have h2 := hy.short
  simp -implicitDefEqProofs only [S202, S202_0, go_sem, Nat.reduceBEq, Nat.reduceAdd, Nat.reduceSub, Nat.reduceMul, Nat.reduceLeDiff, reduceCtorEq, ↓reduceIte, Int.reduceLT, Int.reduceLE, Int.reduceEq, Int.reduceNe]
  refine s_loop (fun f vs Γ => Γ = [] ∧ ∃ k : Nat, vs = [.v true (.int .i64 k)] ∧ k + f = xs.length ∧ k ≤ ys.length ∧ symsC xs ys = symsC (xs.drop k) (ys.drop k)) xs.length (Up.here ⟨rfl, 0, rfl, by omega, by omega, by simp⟩) ?_
  rintro f vs Γ ⟨rfl, k, rfl, hkf, hky, he⟩
  simp -implicitDefEqProofs only [S202_1, go_sem, Nat.reduceBEq, Nat.reduceAdd, Nat.reduceSub, Nat.reduceMul, Nat.reduceLeDiff, reduceCtorEq, ↓reduceIte, Int.reduceLT, Int.reduceLE, Int.reduceEq, Int.reduceNe]
  refine ⟨fun hlt => ?_, fun hge => ?_⟩
  · have hk : k < xs.length := by omega
    obtain ⟨b, o, hA, hc1⟩ := hx.sy hk
    refine s_idx hA (by omega) (by omega) ?_
    simp -implicitDefEqProofs only [go_sem, Nat.reduceBEq, Nat.reduceAdd, Nat.reduceSub, Nat.reduceMul, Nat.reduceLeDiff, reduceCtorEq, ↓reduceIte, Int.reduceLT, Int.reduceLE, Int.reduceEq, Int.reduceNe]
    refine s_ld0 (hc1 _ (Mem.le.refl _)) (by simp) (by simp) ?_
    simp -implicitDefEqProofs only [go_sem, Nat.reduceBEq, Nat.reduceAdd, Nat.reduceSub, Nat.reduceMul, Nat.reduceLeDiff, reduceCtorEq, ↓reduceIte, Int.reduceLT, Int.reduceLE, Int.reduceEq, Int.reduceNe]
    rw [List.drop_eq_getElem_cons hk] at he
    intro b1
    refine ⟨fun hle => Up.here ?_, fun hlt2 => ?_⟩
    · have : ys.drop k = [] := List.drop_eq_nil_of_le (by omega)
      subst hR
      refine ⟨rfl, ?_⟩
      rw [he, this]
      rfl
    · have hk' : k < ys.length := by omega
      obtain ⟨b', o', hB, hc2⟩ := hy.sy hk'
      refine s_idx hB (by omega) (by omega) ?_
      simp -implicitDefEqProofs only [go_sem, Nat.reduceBEq, Nat.reduceAdd, Nat.reduceSub, Nat.reduceMul, Nat.reduceLeDiff, reduceCtorEq, ↓reduceIte, Int.reduceLT, Int.reduceLE, Int.reduceEq, Int.reduceNe]
      refine s_ld0 (hc2 _ (Mem.le.refl _)) (by simp) (by simp) ?_
      simp -implicitDefEqProofs only [go_sem, Nat.reduceBEq, Nat.reduceAdd, Nat.reduceSub, Nat.reduceMul, Nat.reduceLeDiff, reduceCtorEq, ↓reduceIte, Int.reduceLT, Int.reduceLE, Int.reduceEq, Int.reduceNe]
      intro b2
      refine CallVC.read (gram_order _ _) ?_
      rintro v Γ' ⟨rfl, rfl⟩
      rw [List.drop_eq_getElem_cons hk', symsC] at he
      simp -implicitDefEqProofs only [go_sem, Nat.reduceBEq, Nat.reduceAdd, Nat.reduceSub, Nat.reduceMul, Nat.reduceLeDiff, reduceCtorEq, ↓reduceIte, Int.reduceLT, Int.reduceLE, Int.reduceEq, Int.reduceNe]
      refine ⟨fun hne => Up.here ?_, fun heq => ?_⟩
      · rw [if_neg hne] at he
        subst hR
        exact ⟨rfl, by rw [he]⟩
      · rw [if_pos heq] at he
        simp (disch := omega) only [wrap_id]
        exact ⟨f - 1, by omega, Up.here ⟨rfl, k + 1, rfl, by omega, by omega, he⟩⟩
  · have hk : k = xs.length := by omega
    rw [hk, List.drop_length] at he
    subst hR
    refine ⟨fun h => Up.here ⟨rfl, ?_⟩, fun h => Up.here ⟨rfl, ?_⟩⟩
    · rw [he, List.drop_eq_getElem_cons (by omega)]
      rfl
    · rw [he, List.drop_eq_nil_of_le (by omega)]
      rfl

theorem gram_compare {Γr : Ctx} {a b : Ru} {A B : Option Addr} {c d : Nat} (hx : SlOk (lk Γr) A c a.r) (hy : SlOk (lk Γr) B d b.r) :
    Ret Try.prog 172 [.agg #[.int .i64 a.l, .slice A a.r.length c], .agg #[.int .i64 b.l, .slice B b.r.length d]] Γr [] (fun v Γ => Γ = [] ∧ v = .int .i64 (ruleC a b)) := by
  generalize hR : (fun (v : Value) (Γ : Ctx) => Γ = [] ∧ _) = R
  refine ret_of_vc tr172 (Nat.le_of_ble_eq_true rfl) ?_
  simp -implicitDefEqProofs only [S172, S172_0, go_sem, Nat.reduceBEq, Nat.reduceAdd, Nat.reduceSub, Nat.reduceMul, Nat.reduceLeDiff, reduceCtorEq, ↓reduceIte, Int.reduceLT, Int.reduceLE, Int.reduceEq, Int.reduceNe]
  intro b1 b2
  refine CallVC.read (cmp_compare _ _) ?_
  rintro v Γ' ⟨rfl, rfl⟩
  simp -implicitDefEqProofs only [go_sem, Nat.reduceBEq, Nat.reduceAdd, Nat.reduceSub, Nat.reduceMul, Nat.reduceLeDiff, reduceCtorEq, ↓reduceIte, Int.reduceLT, Int.reduceLE, Int.reduceEq, Int.reduceNe]
  refine ⟨fun hne => Up.here ?_, fun heq => ?_⟩
  · subst hR
    exact ⟨rfl, by rw [ruleC, if_neg hne]⟩
  · refine CallVC.read (compare_syms hx hy) ?_
    rintro v Γ' ⟨rfl, rfl⟩
    simp -implicitDefEqProofs only [go_sem, Nat.reduceBEq, Nat.reduceAdd, Nat.reduceSub, Nat.reduceMul, Nat.reduceLeDiff, reduceCtorEq, ↓reduceIte, Int.reduceLT, Int.reduceLE, Int.reduceEq, Int.reduceNe]
    refine Up.here ?_
    subst hR
    exact ⟨rfl, by rw [ruleC, if_pos heq]⟩

/-- a symbol that is none of the grammar -/
def badSy (ts ns : Int) (s : Sy) : Bool := decide (s.n < 0) || (s.t && decide (ts ≤ s.n)) || (!s.t && decide (ns ≤ s.n))
/-- the fault of rule k: the errors 3, 2, 3, 6, or none -/
def faultAt (g : Gr) (k : Nat) (r : Ru) : Int :=
  if r.l < 0 ∨ g.ns ≤ r.l then 3 else if 4 < r.r.length then 2 else if r.r.any (badSy g.ts g.ns) = true then 3 else if r ∈ g.rs.take k then 6 else 0
def ckR (g : Gr) : Nat → Int
  | 0 => 0
  | k + 1 => if ckR g k ≠ 0 then ckR g k else match g.rs[k]? with | some r => faultAt g k r | none => 0
def badHead (g : Gr) : Prop := g.ts < 1 ∨ 8 < g.ts ∨ g.ns < 1 ∨ 10 < g.ns ∨ g.st < 0 ∨ g.ns ≤ g.st
instance (g : Gr) : Decidable (badHead g) := by unfold badHead; infer_instance
def ckF (g : Gr) : Int := if badHead g then 1 else if 32 < g.rs.length then 2 else ckR g g.rs.length
theorem ckR_stays {g : Gr} {k : Nat} (h : ckR g k ≠ 0) : ∀ {m : Nat}, k ≤ m → ckR g m = ckR g k
  | m, hm => by
    induction m with
    | zero => have : k = 0 := by omega
              subst this; rfl
    | succ m ih =>
      by_cases e : k = m + 1
      · subst e; rfl
      · have := ih (by omega)
        rw [ckR, if_pos (by rw [this]; exact h), this]
theorem ckR_step {g : Gr} {k : Nat} (hk : k < g.rs.length) (h : ckR g k = 0) : ckR g (k + 1) = faultAt g k g.rs[k] := by
  rw [ckR, if_neg (by simp [h]), List.getElem?_eq_getElem hk]
theorem ckR_fault {g : Gr} {k : Nat} (hk : k < g.rs.length) (h : ckR g k = 0) (hf : faultAt g k g.rs[k] ≠ 0) : ckR g g.rs.length = faultAt g k g.rs[k] := by
  have := ckR_step hk h
  rw [← this] at hf ⊢
  exact ckR_stays hf (by omega)

theorem gram_check {Γr : Ctx} {g : Gr} {A : Option Addr} {c : Nat} (hx : SlOk (lk Γr) A c g.rs) :
    Ret Try.prog 112 [.agg #[.int .i64 g.ts, .int .i64 g.ns, .int .i64 g.st, .slice A g.rs.length c]] Γr [] (fun v Γ => Γ = [] ∧ v = .int .i64 (ckF g)) := by
  generalize hR : (fun (v : Value) (Γ : Ctx) => Γ = [] ∧ _) = R
  refine ret_of_vc tr112 (Nat.le_of_ble_eq_true rfl) ?_
  simp -implicitDefEqProofs only [S112, S112_0, go_sem, Nat.reduceBEq, Nat.reduceAdd, Nat.reduceSub, Nat.reduceMul, Nat.reduceLeDiff, reduceCtorEq, ↓reduceIte, Int.reduceLT, Int.reduceLE, Int.reduceEq, Int.reduceNe]
  intro b
  refine ⟨fun h => Up.here ?_, fun hok => ⟨fun h => Up.here ?_, fun h32 => ?_⟩⟩
  · subst hR
    exact ⟨rfl, by rw [ckF, if_pos (by unfold badHead; omega)]⟩
  · subst hR
    exact ⟨rfl, by rw [ckF, if_neg (by unfold badHead; omega), if_pos (by omega)]⟩
  have hck : ckF g = ckR g g.rs.length := by rw [ckF, if_neg (by unfold badHead; omega), if_neg (by omega)]
  refine s_loop (fun f vs Γ => Γ = [] ∧ ∃ k : Nat, vs = [.v true (.int .i64 k)] ∧ k + f = g.rs.length ∧ ckR g k = 0) g.rs.length (Up.here ⟨rfl, 0, rfl, by omega, rfl⟩) ?_
  rintro f vs Γ ⟨rfl, k, rfl, hkf, hck0⟩
  simp -implicitDefEqProofs only [S112_3, go_sem, Nat.reduceBEq, Nat.reduceAdd, Nat.reduceSub, Nat.reduceMul, Nat.reduceLeDiff, reduceCtorEq, ↓reduceIte, Int.reduceLT, Int.reduceLE, Int.reduceEq, Int.reduceNe]
  refine ⟨fun hlt => ?_, fun hge => ?_⟩
  · have hk : k < g.rs.length := by omega
    have hgen : ∀ x, faultAt g k g.rs[k] = x → x ≠ 0 → ckF g = x := fun x h1 h2 => by rw [hck, ckR_fault hk hck0 (by rw [h1]; exact h2), h1]
    have hzero : faultAt g k g.rs[k] = 0 → ckR g (k + 1) = 0 := fun h => by rw [ckR_step hk hck0, h]
    obtain ⟨b1, o1, hA, A', c', hr, hc1⟩ := hx.ru hk
    have hrl := hr.short
    refine s_idx hA (by omega) (by omega) ?_
    simp -implicitDefEqProofs only [go_sem, Nat.reduceBEq, Nat.reduceAdd, Nat.reduceSub, Nat.reduceMul, Nat.reduceLeDiff, reduceCtorEq, ↓reduceIte, Int.reduceLT, Int.reduceLE, Int.reduceEq, Int.reduceNe]
    refine s_ld0 (hc1 _ (Mem.le.refl _)) (by simp) (by simp) ?_
    simp -implicitDefEqProofs only [go_sem, Nat.reduceBEq, Nat.reduceAdd, Nat.reduceSub, Nat.reduceMul, Nat.reduceLeDiff, reduceCtorEq, ↓reduceIte, Int.reduceLT, Int.reduceLE, Int.reduceEq, Int.reduceNe]
    intro b2
    refine ⟨fun h => Up.here ?_, fun hl => ⟨fun h => Up.here ?_, fun h4 => ?_⟩⟩
    · subst hR
      exact ⟨rfl, by rw [hgen 3 (by rw [faultAt, if_pos h]) (by decide)]⟩
    · subst hR
      exact ⟨rfl, by rw [hgen 2 (by rw [faultAt, if_neg (by omega), if_pos (by omega)]) (by decide)]⟩
    have hf1 : faultAt g k g.rs[k] = if g.rs[k].r.any (badSy g.ts g.ns) = true then 3 else if g.rs[k] ∈ g.rs.take k then 6 else 0 := by
      rw [faultAt, if_neg (by omega), if_neg (by omega)]
    refine s_loop (fun f' vs Γ => Γ = [] ∧ ∃ j : Nat, vs = [.v true (.int .i64 j)] ∧ j + f' = g.rs[k].r.length ∧ ∀ (i : Nat) (h : i < g.rs[k].r.length), i < j → badSy g.ts g.ns g.rs[k].r[i] = false) g.rs[k].r.length (Up.here ⟨rfl, 0, rfl, by omega, by intro i _ h; omega⟩) ?_
    rintro f' vs Γ ⟨rfl, j, rfl, hjf, hno⟩
    simp -implicitDefEqProofs only [S112_1, go_sem, Nat.reduceBEq, Nat.reduceAdd, Nat.reduceSub, Nat.reduceMul, Nat.reduceLeDiff, reduceCtorEq, ↓reduceIte, Int.reduceLT, Int.reduceLE, Int.reduceEq, Int.reduceNe]
    refine ⟨fun hlt => ?_, fun hge => ?_⟩
    · have hj : j < g.rs[k].r.length := by omega
      obtain ⟨b3, o3, hA3, hc3⟩ := hr.sy hj
      refine s_idx hA3 (by omega) (by omega) ?_
      simp -implicitDefEqProofs only [go_sem, Nat.reduceBEq, Nat.reduceAdd, Nat.reduceSub, Nat.reduceMul, Nat.reduceLeDiff, reduceCtorEq, ↓reduceIte, Int.reduceLT, Int.reduceLE, Int.reduceEq, Int.reduceNe]
      refine s_ld0 (hc3 _ (Mem.le.refl _)) (by simp) (by simp) ?_
      simp -implicitDefEqProofs only [go_sem, Nat.reduceBEq, Nat.reduceAdd, Nat.reduceSub, Nat.reduceMul, Nat.reduceLeDiff, reduceCtorEq, ↓reduceIte, Int.reduceLT, Int.reduceLE, Int.reduceEq, Int.reduceNe]
      simp (disch := omega) only [wrap_id]
      refine ⟨fun h1 h2 => ⟨h1, h2⟩, fun h1 h2 => ⟨h1, h2⟩, fun h => Up.here ?_, fun h => ?_⟩
      · have hb : g.rs[k].r.any (badSy g.ts g.ns) = true := List.any_eq_true.2 ⟨g.rs[k].r[j], List.getElem_mem hj, by
          simp only [badSy, Bool.or_eq_true, Bool.and_eq_true, decide_eq_true_eq, Bool.not_eq_true']; exact h⟩
        subst hR
        exact ⟨rfl, by rw [hgen 3 (by rw [hf1, if_pos hb]) (by decide)]⟩
      · exact ⟨f' - 1, by omega, Up.here ⟨rfl, j + 1, rfl, by omega, fun i hi hij => by
          by_cases e : i = j
          · subst e
            simp only [badSy, Bool.or_eq_false_iff, Bool.and_eq_false_iff, decide_eq_false_iff_not, Bool.not_eq_false']; exact h
          · exact hno i hi (by omega)⟩⟩
    have hnb : ¬ (g.rs[k].r.any (badSy g.ts g.ns) = true) := by
      intro h
      obtain ⟨x, hx, hb⟩ := List.any_eq_true.1 h
      obtain ⟨i, hi, rfl⟩ := List.getElem_of_mem hx
      rw [hno i hi (by omega)] at hb
      cases hb
    have hf2 : faultAt g k g.rs[k] = if g.rs[k] ∈ g.rs.take k then 6 else 0 := by rw [hf1, if_neg hnb]
    refine s_hi k (by simp -implicitDefEqProofs only [go_sem, Nat.reduceBEq, Nat.reduceAdd, Nat.reduceSub, Nat.reduceMul, Nat.reduceLeDiff, reduceCtorEq, ↓reduceIte, Int.reduceLT, Int.reduceLE, Int.reduceEq, Int.reduceNe]; exact ⟨_, rfl⟩) (by have := hx.cap; omega) ?_
    simp -implicitDefEqProofs only [go_sem, Nat.reduceBEq, Nat.reduceAdd, Nat.reduceSub, Nat.reduceMul, Nat.reduceLeDiff, reduceCtorEq, ↓reduceIte, Int.reduceLT, Int.reduceLE, Int.reduceEq, Int.reduceNe]
    refine s_loop (fun f' vs Γ => Γ = [] ∧ ∃ j : Nat, vs = [.v true (.int .i64 j)] ∧ j + f' = k ∧ ∀ (i : Nat) (h : i < g.rs.length), i < j → g.rs[i] ≠ g.rs[k]) k (Up.here ⟨rfl, 0, rfl, by omega, by intro i _ h; omega⟩) ?_
    rintro f' vs Γ ⟨rfl, j, rfl, hjf, hne⟩
    simp -implicitDefEqProofs only [S112_2, go_sem, Nat.reduceBEq, Nat.reduceAdd, Nat.reduceSub, Nat.reduceMul, Nat.reduceLeDiff, reduceCtorEq, ↓reduceIte, Int.reduceLT, Int.reduceLE, Int.reduceEq, Int.reduceNe]
    refine ⟨fun hlt => ?_, fun hge => ?_⟩
    · have hj : j < g.rs.length := by omega
      obtain ⟨b3, o3, hA3, A4, c4, hr4, hc3⟩ := hx.ru hj
      refine s_idx hA3 (by omega) (by omega) ?_
      simp -implicitDefEqProofs only [go_sem, Nat.reduceBEq, Nat.reduceAdd, Nat.reduceSub, Nat.reduceMul, Nat.reduceLeDiff, reduceCtorEq, ↓reduceIte, Int.reduceLT, Int.reduceLE, Int.reduceEq, Int.reduceNe]
      refine s_ld0 (hc3 _ (Mem.le.refl _)) (by simp) (by simp) ?_
      simp -implicitDefEqProofs only [go_sem, Nat.reduceBEq, Nat.reduceAdd, Nat.reduceSub, Nat.reduceMul, Nat.reduceLeDiff, reduceCtorEq, ↓reduceIte, Int.reduceLT, Int.reduceLE, Int.reduceEq, Int.reduceNe]
      intro b5
      refine CallVC.read (gram_compare hr4 hr) ?_
      rintro v Γ' ⟨rfl, rfl⟩
      simp -implicitDefEqProofs only [go_sem, Nat.reduceBEq, Nat.reduceAdd, Nat.reduceSub, Nat.reduceMul, Nat.reduceLeDiff, reduceCtorEq, ↓reduceIte, Int.reduceLT, Int.reduceLE, Int.reduceEq, Int.reduceNe]
      refine ⟨fun h => Up.here ?_, fun h => ?_⟩
      · have hin : g.rs[k] ∈ g.rs.take k := by
          rw [← ruleC_zero.1 h, List.mem_take_iff_getElem]
          exact ⟨j, by omega, rfl⟩
        subst hR
        exact ⟨rfl, by rw [hgen 6 (by rw [hf2, if_pos hin]) (by decide)]⟩
      · simp (disch := omega) only [wrap_id]
        exact ⟨f' - 1, by omega, Up.here ⟨rfl, j + 1, rfl, by omega, fun i hi hij => by
          by_cases e : i = j
          · subst e; exact fun q => h (ruleC_zero.2 q)
          · exact hne i hi (by omega)⟩⟩
    · have hin : ¬ g.rs[k] ∈ g.rs.take k := by
        rw [List.mem_take_iff_getElem]
        rintro ⟨i, hi, e⟩
        exact hne i (by omega) (by omega) e
      simp (disch := omega) only [wrap_id]
      exact ⟨f - 1, by omega, Up.here ⟨rfl, k + 1, rfl, by omega, hzero (by rw [hf2, if_neg hin])⟩⟩
  · have hk : k = g.rs.length := by omega
    subst hk
    refine Up.here ?_
    subst hR
    exact ⟨rfl, by rw [hck, hck0]⟩
end Go.Proofs.Ytniobbepliknmaa.V
