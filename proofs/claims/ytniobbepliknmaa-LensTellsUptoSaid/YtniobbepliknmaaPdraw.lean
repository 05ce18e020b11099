/- Numbers by coins: the plain law of draw.Number and parlref5.Coins, and both walked; no condition. -/
import Derived.Test.YtniobbepliknmaaVj
import Derived.Test.YtniobbepliknmaaS21
import Derived.Test.YtniobbepliknmaaS22
namespace Go.Proofs.Ytniobbepliknmaa.V
open Go
set_option linter.unusedVariables false
set_option linter.unusedSimpArgs false
attribute [local go_sem] e_seq e_region e_quiet e_join e_loop e_cond e_block e_exit e_ret e_skip e_fin e_kseq e_snrm e_sret e_sex e_bnrm e_bret e_bex e_rnrm e_rret e_res e_condC e_nil e_g e_mv g_mv e_pick g_pick pickC_eq e_ibin g_ibin ibinC_eq e_sbin g_sbin e_beq g_beq beqC_eq e_nilq g_nilq nilqC_sl nilqC_pt nilqC_mp e_un g_un unC_not unC_neg e_conv g_conv convC_eq e_fld g_fld fldC_ref fldC_ptr e_nilCheck g_nilCheck nilCheckC_ref nilCheckC_ptr nilCheckC_fun e_field g_field fieldC_eq e_len g_len lenC_sl lenC_str e_extract g_extract extractC_eq e_mkFunc e_build g_build e_idiv g_idiv idivC_eq e_ishift g_ishift ishiftC_eq e_idx g_idx e_idxA g_idxA e_load g_load loadC_ref loadC_ptr loadB_eq e_slc g_slc e_box boxC_loc boxC_esc e_alloc allocC_loc allocC_esc e_buildS e_store storeC_ref storeC_ptr storeB_eq e_append e_appz e_mk mkC_eq e_call callC_eq e_fn g_fn fnC_eq fnV_min' fnV_max' fnV_rune' e_q g_q e_a e_n g_call g_box g_alloc g_buildS g_store g_append g_mk g_a g_n g_dead e_dead e_callK e_drawn e_tree e_finJ e_tk e_tfin e_tno e_nbt_q e_nbt_qn e_nbt_a e_nbt_an e_nbt_fin e_early_nil e_early_t e_early_f e_nob_nil e_nob_none e_nob_some isBox_dead isBox_v isBox_ref e_dnil e_dk e_ek e_finB vcOps_vc1 e_dcons e_tq e_ekt e_tearly e_talt e_dearly look_nil look_c proj_nil proj_c looks_nil looks_c zip_nil zip_c val_tmp val_const val_func slv_v slv_box slv_ref slot_tmp slot_const slot_func slotL_v slotL_box slotL_ref put_some put_none updBox_c boxSet_box gd_eq slotVals_nil slotVals_c slotVals_b boxV_box boxOn_box slotsOn_nil slotsOn_c slotsOn_b resV_one resV_two vals_nil vals_c allOn_nil allOn_c partOn_nil partOn_c partVals_nil partVals_c fits_nil fits_c fillL_nil fillL_c mkv_one mkv_agg cellsV_agg cellsV_int cellsV_bool cellsV_slice cellsV_string cellsV_pointer cellsV_func cellsV_nilf cellsV_map one'_nil one'_c oc_int oc_bool oc_slice oc_string oc_pointer oc_func oc_nilf oc_map setC_eq iv_add iv_sub iv_mul iv_eql iv_neq iv_lss iv_leq iv_gtr iv_geq iok_add iok_sub iok_mul iok_eql iok_neq iok_lss iok_leq iok_gtr iok_geq pickV_bool args0_nil args0_c bnd_none bnd_some imp_bt imp_bf imp_ebt imp_ebf imp_eb1 imp_np imp_pp beq_tt beq_tf beq_ft beq_ff cond_or cond_and e_round e_meet Int.le_refl Int.toNat_zero decide_true decide_false Bool.or_false Bool.false_or Bool.true_or Bool.or_true Bool.and_false Bool.false_and Bool.bne_false Bool.bne_true beq_iff_eq Int.cast_ofNat_Int not_false_eq_true not_true_eq_false false_and and_false false_implies true_implies true_and and_true Bool.true_and Bool.and_true Bool.not_true Bool.not_false forall_const implies_true List.take_zero List.drop_zero List.take_succ_cons List.drop_succ_cons List.take_nil List.drop_nil List.length_cons List.length_nil List.nil_append List.append_nil List.cons_append Int.toNat_natCast decide_eq_true_eq decide_eq_false_iff_not cond_true cond_false and_self List.getElem?_cons_zero List.getElem?_cons_succ List.set_cons_zero List.set_cons_succ Option.some.injEq exists_eq_left' Nat.zero_add Nat.add_zero Nat.mul_one imp_self true_or or_true or_false false_or Bool.or_eq_true Bool.or_eq_false_iff Bool.and_eq_true Bool.and_eq_false_iff Bool.not_eq_true' Bool.not_eq_false'

/-- the number that coins tell, the first one being worth most -/
def bval (l : List Bool) : Nat := l.foldl (fun x c => 2 * x + c.toNat) 0
def coinsG (n b : Nat) (coins : List Bool) : Nat → Nat → Option (Nat × Nat)
  | 0, _ => none
  | f + 1, used => if used + b ≤ coins.length then
      (if bval ((coins.drop used).take b) < n then some (bval ((coins.drop used).take b), used + b) else coinsG n b coins f (used + b)) else none
/-- how many coins tell a number below n -/
def bitsG (n : Nat) : Nat → Nat → Nat
  | 0, b => b
  | f + 1, b => if 2 ^ b < n then bitsG n f (b + 1) else b
def coinsF (n : Nat) (coins : List Bool) : Option (Nat × Nat) := coinsG n (bitsG n 40 0) coins (coins.length + 1) 0

theorem bval_snoc (l : List Bool) (c : Bool) : bval (l ++ [c]) = 2 * bval l + c.toNat := by simp [bval]
theorem bval_lt (l : List Bool) : bval l < 2 ^ l.length := by
  suffices h : ∀ (l : List Bool) (x : Nat), l.foldl (fun x c => 2 * x + c.toNat) x < (x + 1) * 2 ^ l.length by simpa [bval] using h l 0
  intro l
  induction l with
  | nil => intro x; simp
  | cons c l ih =>
    intro x
    have h := ih (2 * x + c.toNat)
    have hc : c.toNat ≤ 1 := by cases c <;> simp
    simp only [List.foldl_cons, List.length_cons]
    refine Nat.lt_of_lt_of_le h ?_
    rw [Nat.pow_succ, Nat.mul_comm (2 ^ l.length) 2, ← Nat.mul_assoc]
    exact Nat.mul_le_mul_right _ (by omega)

/-- the bits that are found are few -/
theorem bitsG_le (n : Nat) (hn : n ≤ 2 ^ 40) : ∀ f b, b + f = 40 → bitsG n f b ≤ 40
  | 0, b, h => by simp [bitsG]; omega
  | f + 1, b, h => by
    simp only [bitsG]
    split
    · exact bitsG_le n hn f (b + 1) (by omega)
    · omega

theorem shl_one (b : Nat) (hb : b ≤ 40) : ishiftV .shl .i64 1 (b : Int) = .int .i64 ((2 ^ b : Nat) : Int) := by
  have h1 : min (b : Int).toNat IntKind.i64.bits = b := by
    have : IntKind.i64.bits = 64 := rfl
    rw [this]; omega
  have h2 : (2 : Nat) ^ b ≤ 2 ^ 40 := Nat.pow_le_pow_right (by omega) hb
  simp only [ishiftV, h1, Int.one_mul]
  rw [wrap_id]
  · simp
  · have : (0 : Int) ≤ ((2 ^ b : Nat) : Int) := Int.natCast_nonneg _
    simp at this ⊢; omega
  · have h3 : ((2 ^ b : Nat) : Int) ≤ ((2 ^ 40 : Nat) : Int) := by exact_mod_cast h2
    simp at h3 ⊢; omega

theorem draw_number {Γr : Ctx} (n : Int) (A : Option Addr) (c : Nat) (coins : List Bool) (hc : SlOk (lk Γr) A c coins) :
    Ret Try.prog 21 [.int .i64 n, .slice A coins.length c] Γr [] (fun v Γ => Γ = [] ∧
      v = if n < 1 ∨ 1000000000 < n then .tuple #[.int .i64 0, .int .i64 0, .int .i64 1] else
        match coinsF n.toNat coins with
        | some (x, u) => .tuple #[.int .i64 x, .int .i64 u, .int .i64 0]
        | none => .tuple #[.int .i64 0, .int .i64 0, .int .i64 5]) := by
  generalize hR : (fun v Γ => Γ = [] ∧ v = _) = R
  refine ret_of_vc tr21 (Nat.le_of_ble_eq_true rfl) ?_
  simp only [S21, S21_0, go_sem, Nat.reduceBEq, Nat.reduceAdd, Nat.reduceSub, Nat.reduceMul, Nat.reduceLeDiff, reduceCtorEq, ↓reduceIte, Int.reduceLT, Int.reduceLE, Int.reduceEq, Int.reduceNe]
  refine ⟨fun h => Up.here ?_, fun hn => ?_⟩
  · subst hR
    rw [if_pos h]
    exact ⟨rfl, rfl⟩
  have hno : ¬ (n < 1 ∨ 1000000000 < n) := by omega
  obtain ⟨m, rfl⟩ : ∃ m : Nat, n = m := ⟨n.toNat, by omega⟩
  have hlen := hc.short
  have hm40 : m ≤ 2 ^ 40 := by omega
  -- how many bits
  refine s_loop (fun f vs Γ => Γ = [] ∧ ∃ b : Nat, vs = [.v true (.int .i64 b)] ∧ b + f = 40 ∧ bitsG m f b = bitsG m 40 0) 40 (Up.here ⟨rfl, 0, rfl, rfl, rfl⟩) ?_
  rintro f vs Γ ⟨rfl, b, rfl, hbf, hb⟩
  simp only [S21_1, go_sem, Nat.reduceBEq, Nat.reduceAdd, Nat.reduceSub, Nat.reduceMul, Nat.reduceLeDiff, reduceCtorEq, ↓reduceIte, Int.reduceLT, Int.reduceLE, Int.reduceEq, Int.reduceNe]
  have hb40 : b ≤ 40 := by omega
  rw [shl_one b hb40]
  simp only [go_sem, Nat.reduceBEq, Nat.reduceAdd, Nat.reduceSub, Nat.reduceMul, Nat.reduceLeDiff, reduceCtorEq, ↓reduceIte, Int.reduceLT, Int.reduceLE, Int.reduceEq, Int.reduceNe]
  refine ⟨by omega, fun hlt => ?_, fun hge => ?_⟩
  · have hf : f ≠ 0 := by
      intro h0
      subst h0
      have : b = 40 := by omega
      subst this
      omega
    obtain ⟨f, rfl⟩ := Nat.exists_eq_succ_of_ne_zero hf
    refine ⟨f, by omega, Up.here ⟨rfl, b + 1, ?_, by omega, ?_⟩⟩
    · rw [wrap_id (by omega) (by omega)]; rfl
    · rw [← hb]
      have : 2 ^ b < m := by exact_mod_cast hlt
      simp [bitsG, this]
  · have hbits : bitsG m 40 0 = b := by
      rw [← hb]
      have : ¬ 2 ^ b < m := by intro q; exact hge (by exact_mod_cast q)
      cases f <;> simp [bitsG, this]
    -- chunk after chunk
    refine s_loop (fun f vs Γ => Γ = [] ∧ ∃ used : Nat, vs = [.v true (.int .i64 used)] ∧ used ≤ coins.length ∧ coins.length < f + used ∧ coinsG m b coins f used = coinsF m coins) (coins.length + 1)
      (Up.here ⟨rfl, 0, rfl, by omega, by omega, by rw [coinsF, hbits]⟩) ?_
    rintro f vs Γ ⟨rfl, used, rfl, hu, hfu, hres⟩
    simp only [S21_5, go_sem, Nat.reduceBEq, Nat.reduceAdd, Nat.reduceSub, Nat.reduceMul, Nat.reduceLeDiff, reduceCtorEq, ↓reduceIte, Int.reduceLT, Int.reduceLE, Int.reduceEq, Int.reduceNe]
    obtain ⟨f, rfl⟩ : ∃ k, f = k + 1 := ⟨f - 1, by omega⟩
    rw [wrap_id (by omega) (by omega)]
    simp only [coinsG] at hres
    refine ⟨fun hle => ?_, fun hgt => ?_⟩
    · have hle' : used + b ≤ coins.length := by omega
      rw [if_pos hle'] at hres
      refine s_slice used (used + b) ?_ ?_ (by omega) (by have := hc.cap; omega) ?_
      · simp only [go_sem, Nat.reduceBEq, Nat.reduceAdd, Nat.reduceSub, Nat.reduceMul, Nat.reduceLeDiff, reduceCtorEq, ↓reduceIte, Int.reduceLT, Int.reduceLE, Int.reduceEq, Int.reduceNe]
        exact ⟨.i64, rfl⟩
      · simp only [go_sem, Nat.reduceBEq, Nat.reduceAdd, Nat.reduceSub, Nat.reduceMul, Nat.reduceLeDiff, reduceCtorEq, ↓reduceIte, Int.reduceLT, Int.reduceLE, Int.reduceEq, Int.reduceNe]
        exact ⟨.i64, by simp⟩
      simp only [go_sem, Nat.reduceBEq, Nat.reduceAdd, Nat.reduceSub, Nat.reduceMul, Nat.reduceLeDiff, reduceCtorEq, ↓reduceIte, Int.reduceLT, Int.reduceLE, Int.reduceEq, Int.reduceNe]
      have hsl := hc.slice (l := used) (m := used + b) (by omega) hle'
      have hck : (coins.take (used + b)).drop used = (coins.drop used).take b := by
        rw [← List.take_drop]
      rw [hck] at hsl
      obtain ⟨ch, hch⟩ : ∃ ch, ch = (coins.drop used).take b := ⟨_, rfl⟩
      have hcl : ch.length = b := by rw [hch]; simp; omega
      rw [← hch] at hsl hres
      obtain ⟨A', hA'⟩ : ∃ A', A' = (if c = used then A else A.map (fun x => x.add used)) := ⟨_, rfl⟩
      have hsl' : SlOk (lk Γr) A' (c - used) ch := by rw [hA']; simpa [Rep.sz] using hsl
      rw [← hA', show used + b - used = b by omega]
      -- the number that the chunk tells
      refine s_loop (fun g vs Γ => Γ = [] ∧ ∃ j : Nat, vs = [.v true (.int .i64 (bval (ch.take j) : Nat)), .v true (.int .i64 j)] ∧ j + g = b) b
        (Up.here ⟨rfl, 0, by simp [bval, looks, look], by omega⟩) ?_
      rintro g vs Γ ⟨rfl, j, rfl, hjg⟩
      have hbv := bval_lt (ch.take j)
      have hb2 : 2 ^ (ch.take j).length ≤ 2 ^ 40 := Nat.pow_le_pow_right (by omega) (by simp; omega)
      simp only [S21_4, go_sem, Nat.reduceBEq, Nat.reduceAdd, Nat.reduceSub, Nat.reduceMul, Nat.reduceLeDiff, reduceCtorEq, ↓reduceIte, Int.reduceLT, Int.reduceLE, Int.reduceEq, Int.reduceNe]
      refine ⟨fun hlt => ?_, fun hge2 => ?_⟩
      · have hj : j < b := by omega
        have hjc : j < ch.length := by omega
        refine s_split ?_
        obtain ⟨bb, oo, rfl, cs, hok, hcells⟩ := hsl'.elem (i := j) (x := ch[j]) (List.getElem?_eq_getElem hjc)
        obtain rfl := ok_bool hok
        simp only [S21_2, S21_3, go_sem, Nat.reduceBEq, Nat.reduceAdd, Nat.reduceSub, Nat.reduceMul, Nat.reduceLeDiff, reduceCtorEq, ↓reduceIte, Int.reduceLT, Int.reduceLE, Int.reduceEq, Int.reduceNe]
        refine s_idx rfl (by omega) (by omega) ?_
        simp only [go_sem, Nat.reduceBEq, Nat.reduceAdd, Nat.reduceSub, Nat.reduceMul, Nat.reduceLeDiff, reduceCtorEq, ↓reduceIte, Int.reduceLT, Int.reduceLE, Int.reduceEq, Int.reduceNe]
        refine s_load (vs := [.bool ch[j]]) (by simpa [Rep.sz] using hcells _ (Mem.le.refl _)) ?_
        simp only [go_sem, Nat.reduceBEq, Nat.reduceAdd, Nat.reduceSub, Nat.reduceMul, Nat.reduceLeDiff, reduceCtorEq, ↓reduceIte, Int.reduceLT, Int.reduceLE, Int.reduceEq, Int.reduceNe]
        have w1 : IntKind.i64.wrap (((bval (ch.take j) : Nat) : Int) * 2) = ((bval (ch.take j) : Nat) : Int) * 2 := wrap_id (by omega) (by omega)
        have w2 : IntKind.i64.wrap (((bval (ch.take j) : Nat) : Int) * 2 + 1) = ((bval (ch.take j) : Nat) : Int) * 2 + 1 := wrap_id (by omega) (by omega)
        have w3 : IntKind.i64.wrap ((j : Int) + 1) = (j : Int) + 1 := wrap_id (by omega) (by omega)
        simp only [w1, w2, w3]
        have htake : ch.take (j + 1) = ch.take j ++ [ch[j]] := by rw [List.take_succ_eq_append_getElem hjc]
        have hstep : bval (ch.take (j + 1)) = 2 * bval (ch.take j) + ch[j].toNat := by rw [htake, bval_snoc]
        refine ⟨fun ht => ?_, fun ht => ?_⟩
        · refine Up.here ⟨g - 1, by omega, Up.here ⟨rfl, j + 1, ?_, by omega⟩⟩
          rw [hstep, ht]
          simp
          omega
        · refine Up.here ⟨g - 1, by omega, Up.here ⟨rfl, j + 1, ?_, by omega⟩⟩
          rw [hstep, ht]
          simp
          omega
      · have hj : j = b := by omega
        subst hj
        have htk : ch.take j = ch := by rw [← hcl]; exact List.take_length
        rw [htk]
        rw [wrap_id (by omega) (by omega)]
        refine ⟨fun hlt => ?_, fun hge3 => ?_⟩
        · have : bval ch < m := by exact_mod_cast hlt
          rw [if_pos this] at hres
          refine Up.here ?_
          subst hR
          refine ⟨rfl, ?_⟩
          rw [if_neg hno]
          simp [← hres]
        · have : ¬ bval ch < m := by intro q; exact hge3 (by exact_mod_cast q)
          rw [if_neg this] at hres
          have hjpos : 0 < j := by
            rcases Nat.eq_zero_or_pos j with q | q
            · subst q
              have : ch = [] := List.eq_nil_of_length_eq_zero hcl
              subst this
              simp [bval] at hge3
              omega
            · exact q
          exact ⟨f, by omega, Up.here ⟨rfl, used + j, by simp, hle', by omega, hres⟩⟩
    · have hgt' : ¬ used + b ≤ coins.length := by omega
      rw [if_neg hgt'] at hres
      refine Up.here ?_
      subst hR
      refine ⟨rfl, ?_⟩
      rw [if_neg hno]
      simp [← hres]

theorem ref_coins {Γr : Ctx} (m : Nat) (hm0 : 1 ≤ m) (hm1 : m ≤ 1000000000) (A : Option Addr) (c : Nat) (coins : List Bool) (hc : SlOk (lk Γr) A c coins) :
    Ret Try.prog 22 [.int .i64 m, .slice A coins.length c] Γr [] (fun v Γ => Γ = [] ∧
      v = match coinsF m coins with
        | some (x, u) => .tuple #[.int .i64 x, .int .i64 u, .bool true]
        | none => .tuple #[.int .i64 0, .int .i64 0, .bool false]) := by
  generalize hR : (fun v Γ => Γ = [] ∧ v = _) = R
  refine ret_of_vc tr22 (Nat.le_of_ble_eq_true rfl) ?_
  simp only [S22, S22_0, go_sem, Nat.reduceBEq, Nat.reduceAdd, Nat.reduceSub, Nat.reduceMul, Nat.reduceLeDiff, reduceCtorEq, ↓reduceIte, Int.reduceLT, Int.reduceLE, Int.reduceEq, Int.reduceNe]
  have hlen := hc.short
  refine s_loop (fun f vs Γ => Γ = [] ∧ ∃ b : Nat, vs = [.v true (.int .i64 b), .v true (.int .i64 (2 ^ b : Nat))] ∧ b + f = 40 ∧ bitsG m f b = bitsG m 40 0) 40 (Up.here ⟨rfl, 0, rfl, rfl, rfl⟩) ?_
  rintro f vs Γ ⟨rfl, b, rfl, hbf, hb⟩
  have hb40 : b ≤ 40 := by omega
  have hpow : 2 ^ b ≤ 2 ^ 40 := Nat.pow_le_pow_right (by omega) hb40
  simp only [S22_1, go_sem, Nat.reduceBEq, Nat.reduceAdd, Nat.reduceSub, Nat.reduceMul, Nat.reduceLeDiff, reduceCtorEq, ↓reduceIte, Int.reduceLT, Int.reduceLE, Int.reduceEq, Int.reduceNe]
  refine ⟨fun hlt => ?_, fun hge => ?_⟩
  · have hlt' : 2 ^ b < m := by exact_mod_cast hlt
    have hf : f ≠ 0 := by
      intro h0
      subst h0
      have : b = 40 := by omega
      subst this
      omega
    obtain ⟨f, rfl⟩ := Nat.exists_eq_succ_of_ne_zero hf
    refine ⟨f, by omega, Up.here ⟨rfl, b + 1, ?_, by omega, ?_⟩⟩
    · have hq : IntKind.i64.wrap (((2 ^ b : Nat) : Int) * 2) = ((2 ^ (b + 1) : Nat) : Int) := by
        rw [Nat.pow_succ]
        obtain ⟨p, hp⟩ : ∃ p, p = 2 ^ b := ⟨_, rfl⟩
        rw [← hp] at hpow ⊢
        rw [wrap_id (by omega) (by omega)]
        rfl
      have hq2 : IntKind.i64.wrap ((b : Int) + 1) = ((b + 1 : Nat) : Int) := wrap_id (by omega) (by omega)
      rw [hq, hq2]
    · rw [← hb]
      simp [bitsG, hlt']
  · have hge' : ¬ 2 ^ b < m := by intro q; exact hge (by exact_mod_cast q)
    have hbits : bitsG m 40 0 = b := by
      rw [← hb]
      cases f <;> simp [bitsG, hge']
    refine s_loop (fun f vs Γ => Γ = [] ∧ ∃ i used : Nat, vs = [.v true (.int .i64 i)] ∧ used = i * b ∧ i ≤ used ∧ used ≤ coins.length ∧ coins.length < f + used ∧ coinsG m b coins f used = coinsF m coins) (coins.length + 1)
      (Up.here ⟨rfl, 0, 0, rfl, by omega, by omega, by omega, by omega, by rw [coinsF, hbits]⟩) ?_
    rintro f vs Γ ⟨rfl, i, used, rfl, hui, hiu, hu, hfu, hres⟩
    have wi : IntKind.i64.wrap ((i : Int) * (b : Int)) = (used : Int) := by
      have : (i : Int) * (b : Int) = (used : Int) := by rw [hui]; simp
      rw [this]
      exact wrap_id (by omega) (by omega)
    simp only [S22_5, wi, go_sem, Nat.reduceBEq, Nat.reduceAdd, Nat.reduceSub, Nat.reduceMul, Nat.reduceLeDiff, reduceCtorEq, ↓reduceIte, Int.reduceLT, Int.reduceLE, Int.reduceEq, Int.reduceNe]
    obtain ⟨f, rfl⟩ : ∃ k, f = k + 1 := ⟨f - 1, by omega⟩
    simp only [coinsG] at hres
    refine ⟨fun _ => ?_, fun hgt => by omega⟩
    refine s_slice used coins.length ?_ ?_ (by omega) hc.cap ?_
    · simp only [go_sem, Nat.reduceBEq, Nat.reduceAdd, Nat.reduceSub, Nat.reduceMul, Nat.reduceLeDiff, reduceCtorEq, ↓reduceIte, Int.reduceLT, Int.reduceLE, Int.reduceEq, Int.reduceNe]
      exact ⟨.i64, rfl⟩
    · simp only [go_sem, Nat.reduceBEq, Nat.reduceAdd, Nat.reduceSub, Nat.reduceMul, Nat.reduceLeDiff, reduceCtorEq, ↓reduceIte, Int.reduceLT, Int.reduceLE, Int.reduceEq, Int.reduceNe]
    simp only [go_sem, Nat.reduceBEq, Nat.reduceAdd, Nat.reduceSub, Nat.reduceMul, Nat.reduceLeDiff, reduceCtorEq, ↓reduceIte, Int.reduceLT, Int.reduceLE, Int.reduceEq, Int.reduceNe]
    have hsl := hc.slice (l := used) (m := coins.length) (by omega) (Nat.le_refl _)
    rw [List.take_length] at hsl
    refine ⟨fun hshort => ?_, fun hlong => ?_⟩
    · have : ¬ used + b ≤ coins.length := by omega
      rw [if_neg this] at hres
      refine Up.here ?_
      subst hR
      exact ⟨rfl, by simp [← hres]⟩
    have hle' : used + b ≤ coins.length := by omega
    rw [if_pos hle'] at hres
    obtain ⟨A', hA'⟩ : ∃ A', A' = (if c = used then A else A.map (fun x => x.add used)) := ⟨_, rfl⟩
    have hsl' : SlOk (lk Γr) A' (c - used) (coins.drop used) := by rw [hA']; simpa [Rep.sz] using hsl
    rw [← hA']
    obtain ⟨ch, hch⟩ : ∃ ch, ch = (coins.drop used).take b := ⟨_, rfl⟩
    have hcl : ch.length = b := by rw [hch]; simp; omega
    rw [← hch] at hres
    -- the sum of what the coins are worth
    refine s_loop (fun g vs Γ => Γ = [] ∧ ∃ j : Nat, vs = [.v true (.int .i64 (bval (ch.take j) * 2 ^ (b - j) : Nat)), .v true (.int .i64 j)] ∧ j + g = b) b
      (Up.here ⟨rfl, 0, by simp [bval, looks, look], by omega⟩) ?_
    rintro g vs Γ ⟨rfl, j, rfl, hjg⟩
    have hbv := bval_lt (ch.take j)
    have hbnd : bval (ch.take j) * 2 ^ (b - j) + 2 ^ (b - j) ≤ 2 ^ 40 := by
      have h1 : (bval (ch.take j) + 1) * 2 ^ (b - j) ≤ 2 ^ j * 2 ^ (b - j) := Nat.mul_le_mul_right _ (by
        have : (ch.take j).length = j := by simp; omega
        rw [this] at hbv
        omega)
      rw [← Nat.pow_add, show j + (b - j) = b by omega, Nat.add_mul, Nat.one_mul] at h1
      omega
    simp only [S22_4, go_sem, Nat.reduceBEq, Nat.reduceAdd, Nat.reduceSub, Nat.reduceMul, Nat.reduceLeDiff, reduceCtorEq, ↓reduceIte, Int.reduceLT, Int.reduceLE, Int.reduceEq, Int.reduceNe]
    refine ⟨fun hlt => ?_, fun hge2 => ?_⟩
    · have hj : j < b := by omega
      have hjc : j < ch.length := by omega
      have hjd : j < (coins.drop used).length := by simp; omega
      have hcj : (coins.drop used)[j] = ch[j] := by simp [hch]
      refine s_split ?_
      obtain ⟨bb, oo, rfl, cs, hok, hcells⟩ := hsl'.elem (i := j) (x := ch[j]) (by rw [← hcj]; exact List.getElem?_eq_getElem hjd)
      obtain rfl := ok_bool hok
      have w1 : IntKind.i64.wrap ((b : Int) - 1) = (b : Int) - 1 := wrap_id (by omega) (by omega)
      have w2 : IntKind.i64.wrap ((b : Int) - 1 - (j : Int)) = ((b - 1 - j : Nat) : Int) := by rw [wrap_id (by omega) (by omega)]; omega
      have w3 : IntKind.i64.wrap ((j : Int) + 1) = ((j + 1 : Nat) : Int) := wrap_id (by omega) (by omega)
      have hsplit : 2 ^ (b - j) = 2 ^ (b - 1 - j) * 2 := by rw [← Nat.pow_succ]; congr 1; omega
      have w4 : IntKind.i64.wrap (((bval (ch.take j) * 2 ^ (b - j) : Nat) : Int) + ((2 ^ (b - 1 - j) : Nat) : Int)) = ((bval (ch.take j) * 2 ^ (b - j) + 2 ^ (b - 1 - j) : Nat) : Int) := by
        rw [wrap_id (by omega) (by omega)]; rfl
      have htake : ch.take (j + 1) = ch.take j ++ [ch[j]] := by rw [List.take_succ_eq_append_getElem hjc]
      have hstep : bval (ch.take (j + 1)) = 2 * bval (ch.take j) + ch[j].toNat := by rw [htake, bval_snoc]
      have hexp : b - (j + 1) = b - 1 - j := by omega
      have hnext : bval (ch.take (j + 1)) * 2 ^ (b - (j + 1)) = bval (ch.take j) * 2 ^ (b - j) + ch[j].toNat * 2 ^ (b - 1 - j) := by
        rw [hstep, hexp, hsplit, Nat.add_mul, Nat.mul_comm 2, Nat.mul_assoc, Nat.mul_comm 2]
      simp only [S22_2, S22_3, go_sem, Nat.reduceBEq, Nat.reduceAdd, Nat.reduceSub, Nat.reduceMul, Nat.reduceLeDiff, reduceCtorEq, ↓reduceIte, Int.reduceLT, Int.reduceLE, Int.reduceEq, Int.reduceNe]
      refine s_idx rfl (by omega) (by simp; omega) ?_
      simp only [go_sem, Nat.reduceBEq, Nat.reduceAdd, Nat.reduceSub, Nat.reduceMul, Nat.reduceLeDiff, reduceCtorEq, ↓reduceIte, Int.reduceLT, Int.reduceLE, Int.reduceEq, Int.reduceNe]
      refine s_load (vs := [.bool ch[j]]) (by simpa [Rep.sz] using hcells _ (Mem.le.refl _)) ?_
      simp only [w1, w2, shl_one (b - 1 - j) (by omega), w3, w4, go_sem, Nat.reduceBEq, Nat.reduceAdd, Nat.reduceSub, Nat.reduceMul, Nat.reduceLeDiff, reduceCtorEq, ↓reduceIte, Int.reduceLT, Int.reduceLE, Int.reduceEq, Int.reduceNe]
      refine ⟨fun ht => ⟨by omega, ?_⟩, fun ht => ?_⟩
      · refine Up.here ⟨g - 1, by omega, Up.here ⟨rfl, j + 1, ?_, by omega⟩⟩
        rw [hnext, ht]
        simp
      · refine Up.here ⟨g - 1, by omega, Up.here ⟨rfl, j + 1, ?_, by omega⟩⟩
        rw [hnext, ht]
        simp
    · have hj : j = b := by omega
      subst hj
      have htk : ch.take j = ch := by rw [← hcl]; exact List.take_length
      rw [htk]
      simp only [Nat.sub_self, Nat.pow_zero, Nat.mul_one]
      have hx : bval ch < 2 ^ j := by have := bval_lt ch; rwa [hcl] at this
      have hjle : 2 ^ j ≤ 2 ^ 40 := Nat.pow_le_pow_right (by omega) (by omega)
      refine ⟨fun hlt => ?_, fun hge3 => ?_⟩
      · have : bval ch < m := by exact_mod_cast hlt
        rw [if_pos this] at hres
        have w5 : IntKind.i64.wrap ((i : Int) + 1) = ((i + 1 : Nat) : Int) := wrap_id (by omega) (by omega)
        have w6 : IntKind.i64.wrap (((i + 1 : Nat) : Int) * (j : Int)) = ((used + j : Nat) : Int) := by
          have : ((i + 1 : Nat) : Int) * (j : Int) = ((used + j : Nat) : Int) := by rw [hui, ← Nat.add_one_mul]; simp
          rw [this]
          exact wrap_id (by omega) (by omega)
        rw [w5, w6]
        refine Up.here ?_
        subst hR
        exact ⟨rfl, by simp [← hres]⟩
      · have : ¬ bval ch < m := by intro q; exact hge3 (by exact_mod_cast q)
        rw [if_neg this] at hres
        have hjpos : 0 < j := by
          rcases Nat.eq_zero_or_pos j with q | q
          · subst q
            have : ch = [] := List.eq_nil_of_length_eq_zero hcl
            subst this
            simp [bval] at hge3
            omega
          · exact q
        refine ⟨f, by omega, Up.here ⟨rfl, i + 1, used + j, by simp; exact wrap_id (by omega) (by omega), by rw [hui, Nat.add_mul, Nat.one_mul], by omega, hle', by omega, hres⟩⟩
end Go.Proofs.Ytniobbepliknmaa.V
