/- Texts put together, in the order in which they build; each says what it proves; no condition. -/
import Derived.Test.YtiipiapfnedfjaaM2
import Derived.Test.YtiipiapfnedfjaaM1
import Derived.Test.YtiipiapfnedfjaaProg
import Derived.Maps.Keyed
import Derived.DeepKeys5
import Derived.MapFrom
import Derived.Maps.RangeRun
import Derived.Laws.BytesArg
import Derived.Shelf.Sort.Plain
import Derived.Shelf.SlSortCmp.NoneTotal
import Derived.Shelf.Slices.CompactI
import Derived.Shelf.Slices.In.SortNone
namespace Go.Proofs.Ytiipiapfnedfjaa.V
open Go
set_option linter.unusedVariables false
set_option linter.unusedSimpArgs false
open Nat renaming reduceBEq → zA, reduceAdd → zB, reduceSub → zC, reduceMul → zD, reduceLeDiff → zE
open Int renaming reduceLT → zF, reduceLE → zG, reduceEq → zH, reduceNe → zI
/- Derivations of words, and what fixpoints over them are: the plain law; no condition. -/
/-- a list of symbols derives a word; a terminal n stands as f n -/
inductive DerF {α : Type} (f : Int → α) (rs : List Ru) : List Sy → List α → Prop
 | nil : DerF f rs [] []
 | term {l : List Sy} {w : List α} (n : Int) (h : DerF f rs l w) : DerF f rs (⟨true, n⟩ :: l) (f n :: w)
 | non {l : List Sy} {u w : List α} (r : Ru) (hr : r ∈ rs) (hu : DerF f rs r.r u) (hw : DerF f rs l w) : DerF f rs (⟨false, r.l⟩ :: l) (u ++ w)
/-- a nonterminal derives a word -/
def DerN {α : Type} (f : Int → α) (rs : List Ru) (a : Int) (w : List α) : Prop := ∃ r ∈ rs, r.l = a ∧ DerF f rs r.r w
theorem DerF.map {α : Type} (f : Int → α) {rs : List Ru} {l : List Sy} {w : List Int} (h : DerF id rs l w) : DerF f rs l (w.map f) := by
 induction h with
 | nil => exact .nil
 | term n _ ih => exact .term n ih
 | non r hr _ _ ih1 ih2 => rw [List.map_append]; exact .non r hr ih1 ih2
theorem DerF.back {α : Type} {f : Int → α} {rs : List Ru} {l : List Sy} {w : List α} (h : DerF f rs l w) : ∃ v, w = v.map f ∧ DerF id rs l v := by
 induction h with
 | nil => exact ⟨[], rfl, .nil⟩
 | term n _ ih => obtain ⟨v, rfl, h⟩ := ih; exact ⟨n :: v, rfl, .term n h⟩
 | non r hr _ _ ih1 ih2 => obtain ⟨v1, rfl, h1⟩ := ih1; obtain ⟨v2, rfl, h2⟩ := ih2; exact ⟨v1 ++ v2, by simp, .non r hr h1 h2⟩
theorem DerF.all {rs : List Ru} {p : Int → Prop} (hp : ∀ r ∈ rs, ∀ s ∈ r.r, s.t = true → p s.n) {l : List Sy} (hl : ∀ s ∈ l, s.t = true → p s.n) {w : List Int} (h : DerF id rs l w) : ∀ x ∈ w, p x := by
 induction h with
 | nil => simp
 | term n _ ih =>
  intro x hx
  rcases List.mem_cons.1 hx with hx | hx
  ·rw [hx]; exact hl ⟨true, n⟩ (by simp) rfl
  ·exact ih (fun s hs => hl s (by simp [hs])) x hx
 | non r hr _ _ ih1 ih2 =>
  intro x hx
  rcases List.mem_append.1 hx with hx | hx
  ·exact ih1 (hp r hr) x hx
  ·exact ih2 (fun s hs => hl s (by simp [hs])) x hx
theorem map_inj_on {α : Type} {f : Int → α} {p : Int → Prop} (hf : ∀ x y, p x → p y → f x = f y → x = y) : ∀ {u v : List Int}, (∀ x ∈ u, p x) → (∀ x ∈ v, p x) → u.map f = v.map f → u = v
 | [], [], _, _, _ => rfl
 | [], _ :: _, _, _, h => by simp at h
 | _ :: _, [], _, _, h => by simp at h
 | x :: u, y :: v, hu, hv, h => by
  simp only [List.map_cons, List.cons.injEq] at h
  rw [hf x y (hu x (by simp)) (hv y (by simp)) h.1, map_inj_on hf (fun z hz => hu z (by simp [hz])) (fun z hz => hv z (by simp [hz])) h.2]
theorem derN_map {α : Type} {f : Int → α} {p : Int → Prop} (hf : ∀ x y, p x → p y → f x = f y → x = y) {rs : List Ru} (hp : ∀ r ∈ rs, ∀ s ∈ r.r, s.t = true → p s.n) {a : Int} {w : List Int} (hw : ∀ x ∈ w, p x) : DerN f rs a (w.map f) ↔ DerN id rs a w := by
 constructor
 ·rintro ⟨r, hr, h1, h2⟩
  obtain ⟨v, hv, hd⟩ := h2.back
  have := map_inj_on hf hw (hd.all hp (hp r hr)) hv
  subst this
  exact ⟨r, hr, h1, hd⟩
 ·rintro ⟨r, hr, h1, h2⟩
  exact ⟨r, hr, h1, h2.map f⟩

/-! words put together out of sets of words -/
def SyC {α : Type} (f : Int → α) (E : Int → List α → Prop) (s : Sy) (w : List α) : Prop := if s.t = true then w = [f s.n] else E s.n w
def Cmb {α : Type} (f : Int → α) (E : Int → List α → Prop) : List Sy → List α → Prop
 | [], w => w = []
 | s :: l, w => ∃ u v, w = u ++ v ∧ SyC f E s u ∧ Cmb f E l v
theorem cmb_snoc {α : Type} {f : Int → α} {E : Int → List α → Prop} {s : Sy} : ∀ {l : List Sy} {w : List α}, Cmb f E (l ++ [s]) w ↔ ∃ u v, w = u ++ v ∧ Cmb f E l u ∧ SyC f E s v
 | [], w => by
  constructor
  ·rintro ⟨u, v, rfl, h1, h2⟩
   have h2 : v = [] := h2
   subst h2
   exact ⟨[], u, by simp, rfl, h1⟩
  ·rintro ⟨u, v, rfl, h1, h2⟩
   have h1 : u = [] := h1
   subst h1
   exact ⟨v, [], by simp, h2, rfl⟩
 | t :: l, w => by
  constructor
  ·rintro ⟨u, v, rfl, h1, h2⟩
   obtain ⟨v1, v2, rfl, h3, h4⟩ := cmb_snoc.1 h2
   exact ⟨u ++ v1, v2, by simp, ⟨u, v1, rfl, h1, h3⟩, h4⟩
  ·rintro ⟨u, v, rfl, ⟨u1, u2, rfl, h1, h2⟩, h3⟩
   exact ⟨u1, u2 ++ v, by simp, h1, cmb_snoc.2 ⟨u2, v, rfl, h2, h3⟩⟩
theorem cmb_sound {α : Type} {f : Int → α} {rs : List Ru} {E : Int → List α → Prop} (hE : ∀ a w, E a w → DerN f rs a w) : ∀ {l : List Sy} {w : List α}, Cmb f E l w → DerF f rs l w
 | [], w, h => by
  have h : w = [] := h
  subst h
  exact .nil
 | ⟨true, n⟩ :: l, w, h => by
  obtain ⟨u, v, rfl, h1, h2⟩ := h
  have h1 : u = [f n] := h1
  subst h1
  exact .term n (cmb_sound hE h2)
 | ⟨false, a⟩ :: l, w, h => by
  obtain ⟨u, v, rfl, h1, h2⟩ := h
  have h1 : E a u := by simpa [SyC] using h1
  obtain ⟨r, hr, rfl, hd⟩ := hE _ _ h1
  exact .non r hr hd (cmb_sound hE h2)
theorem cmb_all {α : Type} {f : Int → α} {rs : List Ru} {E : Int → List α → Prop} {n : Nat} (hE : ∀ r ∈ rs, ∀ w, Cmb f E r.r w → w.length ≤ n → E r.l w) {l : List Sy} {w : List α} (h : DerF f rs l w) : w.length ≤ n → Cmb f E l w := by
 induction h with
 | nil => exact fun _ => rfl
 | term m _ ih =>
  intro hn
  simp only [List.length_cons] at hn
  exact ⟨[f m], _, rfl, rfl, ih (by omega)⟩
 | non r hr _ _ ih1 ih2 =>
  intro hn
  rw [List.length_append] at hn
  refine ⟨_, _, rfl, ?_, ih2 (by omega)⟩
  simp only [SyC]
  exact hE r hr _ (ih1 (by omega)) (by omega)
theorem SyC.mono {α : Type} {f : Int → α} {E E' : Int → List α → Prop} (h : ∀ a w, E a w → E' a w) {s : Sy} {w : List α} (q : SyC f E s w) : SyC f E' s w := by
 unfold SyC at *
 split
 ·rename_i e; rw [if_pos e] at q; exact q
 ·rename_i e; rw [if_neg e] at q; exact h _ _ q

/-! places in a word -/
def Stp (E : Int → Nat → Nat → Prop) (w : List Int) (s : Sy) (i k : Nat) : Prop := if s.t = true then w[i]? = some s.n ∧ k = i + 1 else E s.n i k
def Rch (E : Int → Nat → Nat → Prop) (w : List Int) : List Sy → Nat → Nat → Prop
 | [], i, j => j = i
 | s :: l, i, j => ∃ k, Stp E w s i k ∧ Rch E w l k j
theorem Stp.mono {E E' : Int → Nat → Nat → Prop} (h : ∀ a i j, E a i j → E' a i j) {w : List Int} {s : Sy} {i j : Nat} (q : Stp E w s i j) : Stp E' w s i j := by
 unfold Stp at *
 split
 ·rename_i e; rw [if_pos e] at q; exact q
 ·rename_i e; rw [if_neg e] at q; exact h _ _ _ q
theorem Rch.mono {E E' : Int → Nat → Nat → Prop} (h : ∀ a i j, E a i j → E' a i j) {w : List Int} : ∀ {l : List Sy} {i j : Nat}, Rch E w l i j → Rch E' w l i j
 | [], _, _, q => q
 | _ :: _, _, _, ⟨k, h1, h2⟩ => ⟨k, h1.mono h, Rch.mono h h2⟩
/- The text of cmp.Compare[int] as a statement; no condition. -/
def S189_0 : Stmt :=
 .seq (.region [oq 4 (.mv (.const (.int .i64 0)))] [0,1])
 (.seq
 (.region
 [oq 7 (.mv (.tmp 0)),
 oq 8 (.call (.func 243) [.tmp 7]),
 oq 5 (.mv (.tmp 8))]
 [0,1,5])
 (.seq
 (.region
 [oq 9 (.mv (.tmp 1)),
 oq 10 (.call (.func 243) [.tmp 9]),
 oq 6 (.mv (.tmp 10))]
 [0,1,5,6])
 (.seq
 (.seq (.region [oq 11 (.mv (.tmp 5))] [0,1,6,11])
 (.cond (.tmp 11)
 (.seq
 (.seq (.region [oq 12 (.mv (.tmp 6))] [12])
 (.cond (.tmp 12)
 (.seq
 (.region [oq 4 (.mv (.const (.int .i64 0)))] [4])
 .ret)
 .skip))
 (.seq (.region [oq 4 (.mv (.const (.int .i64 (-1))))] [4])
 .ret))
 .skip))
 (.seq
 (.seq (.region [oq 13 (.mv (.tmp 6))] [0,1,13])
 (.cond (.tmp 13)
 (.seq (.region [oq 4 (.mv (.const (.int .i64 1)))] [4])
 .ret)
 .skip))
 (.seq
 (.seq
 (.region
 [oq 14 (.mv (.tmp 0)),oq 15 (.mv (.tmp 1)),
 oq 16 (.ibin .lss (.tmp 14) (.tmp 15))]
 [0,1,16])
 (.cond (.tmp 16)
 (.seq
 (.region [oq 4 (.mv (.const (.int .i64 (-1))))] [4])
 .ret)
 .skip))
 (.seq
 (.seq
 (.region
 [oq 17 (.mv (.tmp 0)),oq 18 (.mv (.tmp 1)),
 oq 19 (.ibin .gtr (.tmp 17) (.tmp 18))]
 [19])
 (.cond (.tmp 19)
 (.seq
 (.region [oq 4 (.mv (.const (.int .i64 1)))] [4])
 .ret)
 .skip))
 (.seq (.region [oq 4 (.mv (.const (.int .i64 0)))] [4])
 .ret)))))))
def S189 : FnS := ⟨20,[(4,none)],S189_0⟩
theorem tr189 : trFn Try.prog 189 [] [[0,1],[0,1,5],[0,1,5,6],[0,1,6,11],[12],[4],[4],[0,1,13],[4],[0,1,16],[4],[19],[4],[4]] = some S189 := by kernel_rfl
/- The text of slices.Compare[[]int,int] as a statement; no condition. -/
def S104_1 : Stmt :=
 .seq
 (.region [oq 12 (.ibin .lss (.tmp 11) (.tmp 10))] [0,1,9,10,11,12])
 (.seq (.cond (.tmp 12) .skip (.exit 0))
 (.seq
 (.block 1
 (.seq
 (.region
 [oq 13 (.mv (.tmp 11)),
 oq 14 (.idx 1 (.tmp 9) (.tmp 11)),
 oq 15 (.load false 1 (.tmp 14)),
 oq 5 (.mv (.tmp 13)),oq 6 (.mv (.tmp 15))]
 [0,1,5,6,9,10,11])
 (.seq
 (.seq
 (.region
 [oq 16 (.mv (.tmp 5)),oq 17 (.mv (.tmp 1)),
 oq 18 (.len false (.tmp 17)),
 oq 19 (.ibin .geq (.tmp 16) (.tmp 18))]
 [0,1,5,6,9,10,11,19])
 (.cond (.tmp 19)
 (.seq (.region [oq 4 (.mv (.const (.int .i64 1)))] [4])
 .ret)
 .skip))
 (.seq
 (.region
 [oq 20 (.mv (.tmp 1)),oq 21 (.mv (.tmp 5)),
 oq 22 (.idx 1 (.tmp 20) (.tmp 21)),
 oq 23 (.load false 1 (.tmp 22)),
 oq 7 (.mv (.tmp 23))]
 [0,1,6,7,9,10,11])
 (.seq
 (.region
 [oq 24 (.mv (.tmp 6)),oq 25 (.mv (.tmp 7)),
 oq 26 (.call (.func 189) [.tmp 24,.tmp 25]),
 oq 8 (.mv (.tmp 26))]
 [0,1,8,9,10,11])
 (.seq
 (.region
 [oq 27 (.mv (.tmp 8)),
 .mk (some 28) none
 (.ibin .neq (.tmp 27) (.const (.int .i64 0)))]
 [0,1,8,9,10,11,28])
 (.cond (.tmp 28)
 (.seq
 (.region
 [oq 29 (.mv (.tmp 8)),
 oq 4 (.mv (.tmp 29))]
 [4])
 .ret)
 .skip)))))))
 (.region
 [oq 30 (.ibin .add (.tmp 11) (.const (.int .i64 1))),
 oq 11 (.mv (.tmp 30))]
 [0,1,9,10,11])))
def S104_0 : Stmt :=
 .seq (.region [oq 4 (.mv (.const (.int .i64 0)))] [0,1])
 (.seq
 (.seq
 (.region
 [oq 9 (.mv (.tmp 0)),oq 10 (.len false (.tmp 9)),
 oq 11 (.mv (.const (.int .i64 0)))]
 [0,1,9,10,11])
 (.block 0 (.loop S104_1 [11] [0,1,9,10])))
 (.seq
 (.seq
 (.region
 [oq 31 (.mv (.tmp 0)),oq 32 (.len false (.tmp 31)),
 oq 33 (.mv (.tmp 1)),oq 34 (.len false (.tmp 33)),
 oq 35 (.ibin .lss (.tmp 32) (.tmp 34))]
 [35])
 (.cond (.tmp 35)
 (.seq (.region [oq 4 (.mv (.const (.int .i64 (-1))))] [4])
 .ret)
 .skip))
 (.seq (.region [oq 4 (.mv (.const (.int .i64 0)))] [4])
 .ret)))
def S104 : FnS := ⟨36,[(4,none)],S104_0⟩
theorem tr104 : trFn Try.prog 104 [] [[0,1],[0,1,9,10,11],[11],[0,1,9,10],[0,1,9,10,11,12],[0,1,5,6,9,10,11],[0,1,5,6,9,10,11,19],[4],[0,1,6,7,9,10,11],[0,1,8,9,10,11],[0,1,8,9,10,11,28],[4],[0,1,9,10,11],[35],[4],[4]] = some S104 := by kernel_rfl
/- The text of cmp.isNaN[int] as a statement; no condition. -/
def S243_0 : Stmt :=
 .seq (.region [oq 2 (.mv (.const (.bool false)))] [0])
 (.seq
 (.region
 [oq 3 (.mv (.tmp 0)),oq 4 (.mv (.tmp 0)),
 oq 5 (.ibin .neq (.tmp 3) (.tmp 4)),
 oq 2 (.mv (.tmp 5))]
 [2])
 .ret)
def S243 : FnS := ⟨6,[(2,none)],S243_0⟩
theorem tr243 : trFn Try.prog 243 [] [[0],[2]] = some S243 := by kernel_rfl
/- cmp.Compare and slices.Compare of whole numbers walked; no condition. -/
attribute [local go_sem] e_seq e_region e_quiet e_join e_loop e_cond e_block e_exit e_ret e_skip e_fin e_kseq e_snrm e_sret e_sex e_bnrm e_bret e_bex e_rnrm e_rret e_res e_condC e_nil e_g e_mv g_mv e_pick g_pick pickC_eq e_ibin g_ibin ibinC_eq e_sbin g_sbin e_beq g_beq beqC_eq e_nilq g_nilq nilqC_sl nilqC_pt nilqC_mp e_un g_un unC_not unC_neg e_conv g_conv convC_eq e_fld g_fld fldC_ref fldC_ptr e_nilCheck g_nilCheck nilCheckC_ref nilCheckC_ptr nilCheckC_fun e_field g_field fieldC_eq e_len g_len lenC_sl lenC_str e_extract g_extract extractC_eq e_mkFunc e_build g_build e_idiv g_idiv idivC_eq e_ishift g_ishift ishiftC_eq e_idx g_idx e_idxA g_idxA e_load g_load e_loadB g_loadB atB_ref atB_v g_mkFunc loadC_ref loadC_ptr loadB_eq e_slc g_slc e_box boxC_loc boxC_esc e_alloc allocC_loc allocC_esc e_buildS e_store storeC_ref storeC_ptr storeB_eq e_append e_appz e_mk mkC_eq e_call callC_eq e_fn g_fn fnC_eq fnV_min' fnV_max' fnV_rune' e_q g_q e_a e_n g_call g_box g_alloc g_buildS g_store g_append g_mk g_a g_n g_dead e_dead e_callK e_drawn e_tree e_finJ e_tk e_tfin e_tno e_nbt_q e_nbt_qn e_nbt_a e_nbt_an e_nbt_fin e_drawnB e_bxb_nil e_bxb e_stB_none e_stB_some boxSt_store bs_mv bs_pick bs_ibin bs_idiv bs_ishift bs_sbin bs_beq bs_nilq bs_un bs_conv bs_box bs_alloc bs_build bs_buildS bs_load bs_fld bs_nilCheck bs_idx bs_idxA bs_field bs_slc bs_len bs_append bs_appz bs_mk bs_call bs_extract bs_mkFunc bs_fn bs_q bs_a bs_n bs_loadB bs_dead isBox_box e_early_nil e_early_t e_early_f e_nob_nil e_nob_none e_nob_some isBox_dead isBox_v isBox_ref e_dnil e_dk e_ek e_finB vcOps_vc1 e_dcons e_tq e_ekt e_tearly e_talt e_dearly look_nil look_c proj_nil proj_c looks_nil looks_c zip_nil zip_c val_tmp val_const val_func slv_v slv_box slv_ref slot_tmp slot_const slot_func slotL_v slotL_box slotL_ref put_some put_none updBox_c boxSet_box gd_eq slotVals_nil slotVals_c slotVals_b boxV_box boxOn_box slotsOn_nil slotsOn_c slotsOn_b resV_one resV_two vals_nil vals_c allOn_nil allOn_c partOn_nil partOn_c partVals_nil partVals_c fits_nil fits_c fillL_nil fillL_c mkv_one mkv_agg cellsV_agg cellsV_int cellsV_bool cellsV_slice cellsV_string cellsV_pointer cellsV_func cellsV_nilf cellsV_map one'_nil one'_c oc_int oc_bool oc_slice oc_string oc_pointer oc_func oc_nilf oc_map setC_eq iv_add iv_sub iv_mul iv_eql iv_neq iv_lss iv_leq iv_gtr iv_geq iok_add iok_sub iok_mul iok_eql iok_neq iok_lss iok_leq iok_gtr iok_geq pickV_bool args0_nil args0_c bnd_none bnd_some imp_bt imp_bf imp_ebt imp_ebf imp_eb1 imp_np imp_pp beq_tt beq_tf beq_ft beq_ff cond_or cond_and e_round e_meet Int.le_refl Int.toNat_zero decide_true decide_false Bool.or_false Bool.false_or Bool.true_or Bool.or_true Bool.and_false Bool.false_and Bool.bne_false Bool.bne_true beq_iff_eq Int.cast_ofNat_Int not_false_eq_true not_true_eq_false false_and and_false false_implies true_implies true_and and_true Bool.true_and Bool.and_true Bool.not_true Bool.not_false forall_const implies_true List.take_zero List.drop_zero List.take_succ_cons List.drop_succ_cons List.take_nil List.drop_nil List.length_cons List.length_nil List.nil_append List.append_nil List.cons_append Int.toNat_natCast decide_eq_true_eq decide_eq_false_iff_not cond_true cond_false and_self List.getElem?_cons_zero List.getElem?_cons_succ List.set_cons_zero List.set_cons_succ Option.some.injEq exists_eq_left' Nat.zero_add Nat.add_zero Nat.mul_one imp_self true_or or_true or_false false_or Bool.or_eq_true Bool.or_eq_false_iff Bool.and_eq_true Bool.and_eq_false_iff Bool.not_eq_true' Bool.not_eq_false'

def cmpI (a b : Int) : Int := if a < b then -1 else if b < a then 1 else 0
def cmpL : List Int → List Int → Int
 | [], [] => 0
 | [], _ :: _ => -1
 | _ :: _, [] => 1
 | a :: r, b :: s => if cmpI a b = 0 then cmpL r s else cmpI a b

theorem is_nan {Γr : Ctx} (a : Int) : Ret Try.prog 243 [.int .i64 a] Γr [] (fun v Γ => Γ = [] ∧ v = .bool false) := by
 generalize hR : (fun (v : Value) (Γ : Ctx) => Γ = [] ∧ _) = R
 refine ret_of_vc tr243 (Nat.le_of_ble_eq_true rfl) ?_
 simp only [S243, S243_0, go_sem,zA,zB,zC,zD,zE,reduceCtorEq,↓reduceIte,zF,zG,zH,zI]
 refine Up.here ?_
 subst hR
 exact ⟨rfl, by simp⟩
theorem cmp_compare {Γr : Ctx} (a b : Int) : Ret Try.prog 189 [.int .i64 a, .int .i64 b] Γr [] (fun v Γ => Γ = [] ∧ v = .int .i64 (cmpI a b)) := by
 generalize hR : (fun (v : Value) (Γ : Ctx) => Γ = [] ∧ _) = R
 refine ret_of_vc tr189 (Nat.le_of_ble_eq_true rfl) ?_
 simp only [S189, S189_0, go_sem,zA,zB,zC,zD,zE,reduceCtorEq,↓reduceIte,zF,zG,zH,zI]
 refine CallVC.read (is_nan a) ?_
 rintro v Γ' ⟨rfl, rfl⟩
 simp only [go_sem,zA,zB,zC,zD,zE,reduceCtorEq,↓reduceIte,zF,zG,zH,zI]
 refine CallVC.read (is_nan b) ?_
 rintro v Γ' ⟨rfl, rfl⟩
 simp only [go_sem,zA,zB,zC,zD,zE,reduceCtorEq,↓reduceIte,zF,zG,zH,zI]
 subst hR
 refine ⟨fun h => Up.here ⟨rfl, ?_⟩, fun h => ⟨fun h' => Up.here ⟨rfl, ?_⟩, fun h' => Up.here ⟨rfl, ?_⟩⟩⟩
 ·simp [cmpI, h]
 ·simp [cmpI, h, h']
 ·simp [cmpI, h, h']

theorem slices_compare {Γr : Ctx} {A B : Option Addr} {c d : Nat} {xs ys : List Int} (hx : SlOk (lk Γr) A c xs) (hy : SlOk (lk Γr) B d ys) :
  Ret Try.prog 104 [.slice A xs.length c, .slice B ys.length d] Γr [] (fun v Γ => Γ = [] ∧ v = .int .i64 (cmpL xs ys)) := by
 generalize hR : (fun (v : Value) (Γ : Ctx) => Γ = [] ∧ _) = R
 refine ret_of_vc tr104 (Nat.le_of_ble_eq_true rfl) ?_
 have h1 := hx.short
 have h2 := hy.short
 simp only [S104, S104_0, go_sem,zA,zB,zC,zD,zE,reduceCtorEq,↓reduceIte,zF,zG,zH,zI]
 refine s_loop (fun f vs Γ => Γ = [] ∧ ∃ k : Nat, vs = [.v true (.int .i64 k)] ∧ k + f = xs.length ∧ k ≤ ys.length ∧ cmpL xs ys = cmpL (xs.drop k) (ys.drop k)) xs.length (Up.here ⟨rfl, 0, rfl, by omega, by omega, by simp⟩) ?_
 rintro f vs Γ ⟨rfl, k, rfl, hkf, hky, he⟩
 simp only [S104_1, go_sem,zA,zB,zC,zD,zE,reduceCtorEq,↓reduceIte,zF,zG,zH,zI]
 refine ⟨fun hlt => ?_, fun hge => ?_⟩
 ·have hk : k < xs.length := by omega
  obtain ⟨b, o, hA, hc1⟩ := hx.int hk
  refine s_idx hA (by omega) (by omega) ?_
  simp only [go_sem,zA,zB,zC,zD,zE,reduceCtorEq,↓reduceIte,zF,zG,zH,zI]
  refine s_ld0 (hc1 _ (Mem.le.refl _)) (by simp) (by simp) ?_
  simp only [go_sem,zA,zB,zC,zD,zE,reduceCtorEq,↓reduceIte,zF,zG,zH,zI]
  rw [List.drop_eq_getElem_cons hk] at he
  refine ⟨fun hle => Up.here ?_, fun hlt2 => ?_⟩
  ·have : ys.drop k = [] := List.drop_eq_nil_of_le (by omega)
   subst hR
   refine ⟨rfl, ?_⟩
   rw [he, this]
   rfl
  ·have hk' : k < ys.length := by omega
   obtain ⟨b', o', hB, hc2⟩ := hy.int hk'
   refine s_idx hB (by omega) (by omega) ?_
   simp only [go_sem,zA,zB,zC,zD,zE,reduceCtorEq,↓reduceIte,zF,zG,zH,zI]
   refine s_ld0 (hc2 _ (Mem.le.refl _)) (by simp) (by simp) ?_
   simp only [go_sem,zA,zB,zC,zD,zE,reduceCtorEq,↓reduceIte,zF,zG,zH,zI]
   refine CallVC.read (cmp_compare _ _) ?_
   rintro v Γ' ⟨rfl, rfl⟩
   rw [List.drop_eq_getElem_cons hk', cmpL] at he
   simp only [go_sem,zA,zB,zC,zD,zE,reduceCtorEq,↓reduceIte,zF,zG,zH,zI]
   refine ⟨fun hne => Up.here ?_, fun heq => ?_⟩
   ·rw [if_neg hne] at he
    subst hR
    exact ⟨rfl, by rw [he]⟩
   ·rw [if_pos heq] at he
    simp (disch := omega) only [wrap_id]
    exact ⟨f - 1, by omega, Up.here ⟨rfl, k + 1, rfl, by omega, by omega, he⟩⟩
 ·have hk : k = xs.length := by omega
  rw [hk, List.drop_length] at he
  subst hR
  refine ⟨fun h => Up.here ⟨rfl, ?_⟩, fun h => Up.here ⟨rfl, ?_⟩⟩
  ·rw [he, List.drop_eq_getElem_cons (by omega)]
   rfl
  ·rw [he, List.drop_eq_nil_of_le (by omega)]
   rfl
/- The text of parlance/gram.Order as a statement; no condition. -/
def S226_0 : Stmt :=
 .seq
 (.region
 [oq 2 (.box true 53 (.tmp 0)),oq 3 (.box true 53 (.tmp 1)),
 oq 4 (.mv (.const (.int .i64 0)))]
 [2,3])
 (.seq
 (.block 0
 (.seq
 (.region
 [oq 6 (.fld 0 (.tmp 2)),
 oq 7 (.load false 1 (.tmp 6)),oq 8 (.mv (.tmp 7)),
 .mk (some 9) (some (8,true)) (.fld 0 (.tmp 3)),
 .mk (some 10) (some (8,true)) (.load false 1 (.tmp 9)),
 .mk (some 11) (some (8,true)) (.un .not (.tmp 10)),
 oq 12 (.pick (.tmp 8) (.tmp 11) (.const (.bool false))),
 oq 5 (.mv (.tmp 12))]
 [2,3,5])
 (.cond (.tmp 5)
 (.seq (.region [oq 4 (.mv (.const (.int .i64 (-1))))] [4])
 .ret)
 (.seq
 (.region
 [oq 14 (.fld 0 (.tmp 2)),
 oq 15 (.load false 1 (.tmp 14)),
 oq 16 (.un .not (.tmp 15)),
 oq 17 (.mv (.tmp 16)),
 .mk (some 18) (some (17,true)) (.fld 0 (.tmp 3)),
 .mk (some 19) (some (17,true)) (.load false 1 (.tmp 18)),
 oq 20 (.pick (.tmp 17) (.tmp 19) (.const (.bool false))),
 oq 13 (.mv (.tmp 20))]
 [2,3,13])
 (.cond (.tmp 13)
 (.seq (.region [oq 4 (.mv (.const (.int .i64 1)))] [4])
 .ret)
 .skip)))))
 (.seq
 (.region
 [oq 21 (.fld 1 (.tmp 2)),
 oq 22 (.load false 1 (.tmp 21)),
 oq 23 (.fld 1 (.tmp 3)),
 oq 24 (.load false 1 (.tmp 23)),
 oq 25 (.call (.func 189) [.tmp 22,.tmp 24]),
 oq 4 (.mv (.tmp 25))]
 [4])
 .ret))
def S226 : FnS := ⟨26,[(4,none)],S226_0⟩
theorem tr226 : trFn Try.prog 226 [2,3] [[2,3],[2,3,5],[4],[2,3,13],[4],[4]] = some S226 := by kernel_rfl
/- The text of slices.CompareFunc[[]parlance/api.Sym,[]parlance/api.Sym,parlance/api.Sym,parlance/api.Sym] as a statement; no condition. -/
def S225_1 : Stmt :=
 .seq
 (.region [oq 14 (.ibin .lss (.tmp 13) (.tmp 12))]
 [0,1,2,11,12,13,14])
 (.seq (.cond (.tmp 14) .skip (.exit 0))
 (.seq
 (.block 1
 (.seq
 (.region
 [oq 15 (.mv (.tmp 13)),
 oq 16 (.idx 2 (.tmp 11) (.tmp 13)),
 oq 17 (.load true 2 (.tmp 16)),
 .mk (some 8) none
 (.alloc true 53 (.agg (Array.mk [.bool false,.int .i64 0]))),
 oq 7 (.mv (.tmp 15)),
 .mk none none (.store 2 (.tmp 8) (.tmp 17))]
 [0,1,2,7,8,11,12,13])
 (.seq
 (.seq
 (.region
 [oq 18 (.mv (.tmp 7)),oq 19 (.mv (.tmp 1)),
 oq 20 (.len false (.tmp 19)),
 oq 21 (.ibin .geq (.tmp 18) (.tmp 20))]
 [0,1,2,7,8,11,12,13,21])
 (.cond (.tmp 21)
 (.seq (.region [oq 6 (.mv (.const (.int .i64 1)))] [6])
 .ret)
 .skip))
 (.seq
 (.region
 [oq 22 (.mv (.tmp 1)),oq 23 (.mv (.tmp 7)),
 oq 24 (.idx 2 (.tmp 22) (.tmp 23)),
 oq 25 (.load true 2 (.tmp 24)),
 .mk (some 9) none
 (.alloc true 53 (.agg (Array.mk [.bool false,.int .i64 0]))),
 .mk none none (.store 2 (.tmp 9) (.tmp 25))]
 [0,1,2,8,9,11,12,13])
 (.seq
 (.region
 [oq 26 (.mv (.tmp 2)),
 oq 27 (.load true 2 (.tmp 8)),
 oq 28 (.load true 2 (.tmp 9)),
 oq 29 (.call (.tmp 26) [.tmp 27,.tmp 28]),
 oq 10 (.mv (.tmp 29))]
 [0,1,2,10,11,12,13])
 (.seq
 (.region
 [oq 30 (.mv (.tmp 10)),
 .mk (some 31) none
 (.ibin .neq (.tmp 30) (.const (.int .i64 0)))]
 [0,1,2,10,11,12,13,31])
 (.cond (.tmp 31)
 (.seq
 (.region
 [oq 32 (.mv (.tmp 10)),
 oq 6 (.mv (.tmp 32))]
 [6])
 .ret)
 .skip)))))))
 (.region
 [oq 33 (.ibin .add (.tmp 13) (.const (.int .i64 1))),
 oq 13 (.mv (.tmp 33))]
 [0,1,2,11,12,13])))
def S225_0 : Stmt :=
 .seq (.region [oq 6 (.mv (.const (.int .i64 0)))] [0,1,2])
 (.seq
 (.seq
 (.region
 [oq 11 (.mv (.tmp 0)),oq 12 (.len false (.tmp 11)),
 oq 13 (.mv (.const (.int .i64 0)))]
 [0,1,2,11,12,13])
 (.block 0 (.loop S225_1 [13] [0,1,2,11,12])))
 (.seq
 (.seq
 (.region
 [oq 34 (.mv (.tmp 0)),oq 35 (.len false (.tmp 34)),
 oq 36 (.mv (.tmp 1)),oq 37 (.len false (.tmp 36)),
 oq 38 (.ibin .lss (.tmp 35) (.tmp 37))]
 [38])
 (.cond (.tmp 38)
 (.seq (.region [oq 6 (.mv (.const (.int .i64 (-1))))] [6])
 .ret)
 .skip))
 (.seq (.region [oq 6 (.mv (.const (.int .i64 0)))] [6])
 .ret)))
def S225 : FnS := ⟨39,[(6,none)],S225_0⟩
theorem tr225 : trFn Try.prog 225 [8,9] [[0,1,2],[0,1,2,11,12,13],[13],[0,1,2,11,12],[0,1,2,11,12,13,14],[0,1,2,7,8,11,12,13],[0,1,2,7,8,11,12,13,21],[6],[0,1,2,8,9,11,12,13],[0,1,2,10,11,12,13],[0,1,2,10,11,12,13,31],[6],[0,1,2,11,12,13],[38],[6],[6]] = some S225 := by kernel_rfl
/- The text of parlance/gram.Compare as a statement; no condition. -/
def S174_0 : Stmt :=
 .seq
 (.region
 [oq 2 (.box true 129 (.tmp 0)),
 oq 3 (.box true 129 (.tmp 1)),
 oq 4 (.mv (.const (.int .i64 0)))]
 [2,3])
 (.seq
 (.seq
 (.region
 [oq 6 (.fld 0 (.tmp 2)),oq 7 (.load false 1 (.tmp 6)),
 oq 8 (.fld 0 (.tmp 3)),oq 9 (.load false 1 (.tmp 8)),
 oq 10 (.call (.func 189) [.tmp 7,.tmp 9]),
 oq 5 (.mv (.tmp 10))]
 [2,3,5])
 (.seq
 (.region
 [oq 11 (.mv (.tmp 5)),
 oq 12 (.ibin .neq (.tmp 11) (.const (.int .i64 0)))]
 [2,3,5,12])
 (.cond (.tmp 12)
 (.seq
 (.region
 [oq 13 (.mv (.tmp 5)),oq 4 (.mv (.tmp 13))] [4])
 .ret)
 .skip)))
 (.seq
 (.region
 [oq 14 (.fld 1 (.tmp 2)),
 oq 15 (.load false 1 (.tmp 14)),
 oq 16 (.fld 1 (.tmp 3)),
 oq 17 (.load false 1 (.tmp 16)),
 oq 18 (.call (.func 225) [.tmp 15,.tmp 17,.func 226]),
 oq 4 (.mv (.tmp 18))]
 [4])
 .ret))
def S174 : FnS := ⟨19,[(4,none)],S174_0⟩
theorem tr174 : trFn Try.prog 174 [2,3] [[2,3],[2,3,5],[2,3,5,12],[4],[4]] = some S174 := by kernel_rfl
/- The text of parlance/gram.Check as a statement; no condition. -/
def S79_1 : Stmt :=
 .seq
 (.region [oq 69 (.ibin .lss (.tmp 68) (.tmp 67))]
 [1,3,4,44,45,46,66,67,68,69])
 (.seq (.cond (.tmp 69) .skip (.exit 2))
 (.seq
 (.block 3
 (.seq
 (.region
 [oq 70 (.idx 2 (.tmp 66) (.tmp 68)),
 oq 71 (.load true 2 (.tmp 70)),
 .mk (some 6) none
 (.alloc true 53 (.agg (Array.mk [.bool false,.int .i64 0]))),
 .mk none none (.store 2 (.tmp 6) (.tmp 71))]
 [1,3,4,6,44,45,46,66,67,68])
 (.seq
 (.region
 [oq 72 (.fld 1 (.tmp 6)),
 oq 73 (.load false 1 (.tmp 72)),
 oq 74 (.ibin .lss (.tmp 73) (.const (.int .i64 0))),
 oq 75 (.mv (.tmp 74)),
 .mk (some 76) (some (75,false)) (.fld 0 (.tmp 6)),
 .mk (some 77) (some (75,false)) (.load false 1 (.tmp 76)),
 .mk (some 78) (some (75,false)) (.mv (.tmp 77)),
 .mk (some 79) (some (78,true)) (.fld 1 (.tmp 6)),
 .mk (some 80) (some (78,true)) (.load false 1 (.tmp 79)),
 .mk (some 81) (some (78,true)) (.fld 0 (.tmp 1)),
 .mk (some 82) (some (78,true)) (.load false 1 (.tmp 81)),
 .mk (some 83) (some (78,true)) (.ibin .geq (.tmp 80) (.tmp 82)),
 .mk (some 84) (some (75,false))
 (.pick (.tmp 78) (.tmp 83) (.const (.bool false))),
 oq 85 (.pick (.tmp 75) (.const (.bool true)) (.tmp 84)),
 oq 86 (.mv (.tmp 85)),
 .mk (some 87) (some (86,false)) (.fld 0 (.tmp 6)),
 .mk (some 88) (some (86,false)) (.load false 1 (.tmp 87)),
 .mk (some 89) (some (86,false)) (.un .not (.tmp 88)),
 .mk (some 90) (some (86,false)) (.mv (.tmp 89)),
 .mk (some 91) (some (90,true)) (.fld 1 (.tmp 6)),
 .mk (some 92) (some (90,true)) (.load false 1 (.tmp 91)),
 .mk (some 93) (some (90,true)) (.fld 1 (.tmp 1)),
 .mk (some 94) (some (90,true)) (.load false 1 (.tmp 93)),
 .mk (some 95) (some (90,true)) (.ibin .geq (.tmp 92) (.tmp 94)),
 .mk (some 96) (some (86,false))
 (.pick (.tmp 90) (.tmp 95) (.const (.bool false))),
 oq 97 (.pick (.tmp 86) (.const (.bool true)) (.tmp 96))]
 [1,3,4,44,45,46,66,67,68,97])
 (.cond (.tmp 97)
 (.seq (.region [oq 2 (.mv (.const (.int .i64 3)))] [2])
 .ret)
 .skip))))
 (.region
 [oq 98 (.ibin .add (.tmp 68) (.const (.int .i64 1))),
 oq 68 (.mv (.tmp 98))]
 [1,3,4,44,45,46,66,67,68])))
def S79_2 : Stmt :=
 .seq
 (.region [oq 105 (.ibin .lss (.tmp 104) (.tmp 103))]
 [1,4,44,45,46,102,103,104,105])
 (.seq (.cond (.tmp 105) .skip (.exit 4))
 (.seq
 (.block 5
 (.seq
 (.region
 [oq 106 (.idx 2 (.tmp 102) (.tmp 104)),
 oq 107 (.load true 2 (.tmp 106)),
 .mk (some 8) none
 (.alloc true 129 (.agg (Array.mk [.int .i64 0,.slice none 0 0]))),
 .mk none none (.store 2 (.tmp 8) (.tmp 107))]
 [1,4,8,44,45,46,102,103,104])
 (.seq
 (.region
 [oq 108 (.load true 2 (.tmp 8)),
 oq 109 (.load true 2 (.tmp 4)),
 oq 110 (.call (.func 174) [.tmp 108,.tmp 109]),
 .mk (some 111) none
 (.ibin .eql (.tmp 110) (.const (.int .i64 0)))]
 [1,4,44,45,46,102,103,104,111])
 (.cond (.tmp 111)
 (.seq (.region [oq 2 (.mv (.const (.int .i64 6)))] [2])
 .ret)
 .skip))))
 (.region
 [oq 112 (.ibin .add (.tmp 104) (.const (.int .i64 1))),
 oq 104 (.mv (.tmp 112))]
 [1,4,44,45,46,102,103,104])))
def S79_3 : Stmt :=
 .seq
 (.region [oq 47 (.ibin .lss (.tmp 46) (.tmp 45))] [1,44,45,46,47])
 (.seq (.cond (.tmp 47) .skip (.exit 0))
 (.seq
 (.block 1
 (.seq
 (.region
 [oq 48 (.mv (.tmp 46)),
 oq 49 (.idx 2 (.tmp 44) (.tmp 46)),
 oq 50 (.load true 2 (.tmp 49)),
 .mk (some 4) none
 (.alloc true 129 (.agg (Array.mk [.int .i64 0,.slice none 0 0]))),
 oq 3 (.mv (.tmp 48)),
 .mk none none (.store 2 (.tmp 4) (.tmp 50))]
 [1,3,4,44,45,46])
 (.seq
 (.seq
 (.region
 [oq 51 (.fld 0 (.tmp 4)),
 oq 52 (.load false 1 (.tmp 51)),
 .mk (some 53) none
 (.ibin .lss (.tmp 52) (.const (.int .i64 0))),
 oq 54 (.mv (.tmp 53)),
 .mk (some 55) (some (54,false)) (.fld 0 (.tmp 4)),
 .mk (some 56) (some (54,false)) (.load false 1 (.tmp 55)),
 .mk (some 57) (some (54,false)) (.fld 1 (.tmp 1)),
 .mk (some 58) (some (54,false)) (.load false 1 (.tmp 57)),
 .mk (some 59) (some (54,false)) (.ibin .geq (.tmp 56) (.tmp 58)),
 .mk (some 60) none
 (.pick (.tmp 54) (.const (.bool true)) (.tmp 59))]
 [1,3,4,44,45,46,60])
 (.cond (.tmp 60)
 (.seq (.region [oq 2 (.mv (.const (.int .i64 3)))] [2])
 .ret)
 .skip))
 (.seq
 (.seq
 (.region
 [oq 61 (.fld 1 (.tmp 4)),
 oq 62 (.load false 1 (.tmp 61)),
 oq 63 (.len false (.tmp 62)),
 .mk (some 64) none
 (.ibin .gtr (.tmp 63) (.const (.int .i64 4)))]
 [1,3,4,44,45,46,64])
 (.cond (.tmp 64)
 (.seq
 (.region [oq 2 (.mv (.const (.int .i64 2)))] [2])
 .ret)
 .skip))
 (.seq
 (.seq
 (.region
 [oq 65 (.fld 1 (.tmp 4)),
 oq 66 (.load false 1 (.tmp 65)),
 oq 67 (.len false (.tmp 66)),
 oq 68 (.mv (.const (.int .i64 0)))]
 [1,3,4,44,45,46,66,67,68])
 (.block 2 (.loop S79_1 [68] [1,3,4,44,45,46,66,67])))
 (.seq
 (.region
 [oq 99 (.fld 3 (.tmp 1)),
 oq 100 (.load false 1 (.tmp 99)),
 oq 101 (.mv (.tmp 3)),
 oq 102 (.slc 2 (.tmp 100) none (some (.tmp 101)) none),
 oq 103 (.len false (.tmp 102)),
 oq 104 (.mv (.const (.int .i64 0)))]
 [1,4,44,45,46,102,103,104])
 (.block 4 (.loop S79_2 [104] [1,4,44,45,46,102,103]))))))))
 (.region
 [oq 113 (.ibin .add (.tmp 46) (.const (.int .i64 1))),
 oq 46 (.mv (.tmp 113))]
 [1,44,45,46])))
def S79_0 : Stmt :=
 .seq
 (.region
 [oq 1 (.box true 24 (.tmp 0)),
 oq 2 (.mv (.const (.int .i64 0)))]
 [1])
 (.seq
 (.seq
 (.region
 [oq 9 (.fld 0 (.tmp 1)),oq 10 (.load false 1 (.tmp 9)),
 oq 11 (.ibin .lss (.tmp 10) (.const (.int .i64 1))),
 oq 12 (.mv (.tmp 11)),
 .mk (some 13) (some (12,false)) (.fld 0 (.tmp 1)),
 .mk (some 14) (some (12,false)) (.load false 1 (.tmp 13)),
 .mk (some 15) (some (12,false))
 (.ibin .gtr (.tmp 14) (.const (.int .i64 8))),
 oq 16 (.pick (.tmp 12) (.const (.bool true)) (.tmp 15)),
 oq 17 (.mv (.tmp 16)),
 .mk (some 18) (some (17,false)) (.fld 1 (.tmp 1)),
 .mk (some 19) (some (17,false)) (.load false 1 (.tmp 18)),
 .mk (some 20) (some (17,false))
 (.ibin .lss (.tmp 19) (.const (.int .i64 1))),
 oq 21 (.pick (.tmp 17) (.const (.bool true)) (.tmp 20)),
 oq 22 (.mv (.tmp 21)),
 .mk (some 23) (some (22,false)) (.fld 1 (.tmp 1)),
 .mk (some 24) (some (22,false)) (.load false 1 (.tmp 23)),
 .mk (some 25) (some (22,false))
 (.ibin .gtr (.tmp 24) (.const (.int .i64 10))),
 oq 26 (.pick (.tmp 22) (.const (.bool true)) (.tmp 25)),
 oq 27 (.mv (.tmp 26)),
 .mk (some 28) (some (27,false)) (.fld 2 (.tmp 1)),
 .mk (some 29) (some (27,false)) (.load false 1 (.tmp 28)),
 .mk (some 30) (some (27,false))
 (.ibin .lss (.tmp 29) (.const (.int .i64 0))),
 oq 31 (.pick (.tmp 27) (.const (.bool true)) (.tmp 30)),
 oq 32 (.mv (.tmp 31)),
 .mk (some 33) (some (32,false)) (.fld 2 (.tmp 1)),
 .mk (some 34) (some (32,false)) (.load false 1 (.tmp 33)),
 .mk (some 35) (some (32,false)) (.fld 1 (.tmp 1)),
 .mk (some 36) (some (32,false)) (.load false 1 (.tmp 35)),
 .mk (some 37) (some (32,false)) (.ibin .geq (.tmp 34) (.tmp 36)),
 oq 38 (.pick (.tmp 32) (.const (.bool true)) (.tmp 37))]
 [1,38])
 (.cond (.tmp 38)
 (.seq (.region [oq 2 (.mv (.const (.int .i64 1)))] [2])
 .ret)
 .skip))
 (.seq
 (.seq
 (.region
 [oq 39 (.fld 3 (.tmp 1)),
 oq 40 (.load false 1 (.tmp 39)),
 oq 41 (.len false (.tmp 40)),
 oq 42 (.ibin .gtr (.tmp 41) (.const (.int .i64 32)))]
 [1,42])
 (.cond (.tmp 42)
 (.seq (.region [oq 2 (.mv (.const (.int .i64 2)))] [2])
 .ret)
 .skip))
 (.seq
 (.seq
 (.region
 [oq 43 (.fld 3 (.tmp 1)),
 oq 44 (.load false 1 (.tmp 43)),
 oq 45 (.len false (.tmp 44)),
 oq 46 (.mv (.const (.int .i64 0)))]
 [1,44,45,46])
 (.block 0 (.loop S79_3 [46] [1,44,45])))
 (.seq (.region [oq 2 (.mv (.const (.int .i64 0)))] [2])
 .ret))))
def S79 : FnS := ⟨114,[(2,none)],S79_0⟩
theorem tr79 : trFn Try.prog 79 [1,4,6,8] [[1],[1,38],[2],[1,42],[2],[1,44,45,46],[46],[1,44,45],[1,44,45,46,47],[1,3,4,44,45,46],[1,3,4,44,45,46,60],[2],[1,3,4,44,45,46,64],[2],[1,3,4,44,45,46,66,67,68],[68],[1,3,4,44,45,46,66,67],[1,3,4,44,45,46,66,67,68,69],[1,3,4,6,44,45,46,66,67,68],[1,3,4,44,45,46,66,67,68,97],[2],[1,3,4,44,45,46,66,67,68],[1,4,44,45,46,102,103,104],[104],[1,4,44,45,46,102,103],[1,4,44,45,46,102,103,104,105],[1,4,8,44,45,46,102,103,104],[1,4,44,45,46,102,103,104,111],[2],[1,4,44,45,46,102,103,104],[1,44,45,46],[2]] = some S79 := by kernel_rfl
/- Grammars are checked: gram.Order, gram.Compare and gram.Check walked; no condition. -/
def symC (a b : Sy) : Int := if a.t = true ∧ b.t = false then -1 else if a.t = false ∧ b.t = true then 1 else cmpI a.n b.n
def symsC : List Sy → List Sy → Int
 | [], [] => 0
 | [], _ :: _ => -1
 | _ :: _, [] => 1
 | a :: r, b :: s => if symC a b = 0 then symsC r s else symC a b
def ruleC (a b : Ru) : Int := if cmpI a.l b.l = 0 then symsC a.r b.r else cmpI a.l b.l
theorem cmpI_zero {a b : Int} : cmpI a b = 0 ↔ a = b := by
 unfold cmpI
 constructor
 ·intro h
  split at h
  ·omega
  ·split at h <;> omega
 ·rintro rfl
  simp
theorem symC_zero {a b : Sy} : symC a b = 0 ↔ a = b := by
 obtain ⟨t, n⟩ := a
 obtain ⟨t', n'⟩ := b
 unfold symC
 cases t <;> cases t' <;> simp [cmpI_zero]
theorem symsC_zero : ∀ {a b : List Sy}, symsC a b = 0 ↔ a = b
 | [], [] => by simp [symsC]
 | [], _ :: _ => by simp [symsC]
 | _ :: _, [] => by simp [symsC]
 | a :: r, b :: s => by
  simp only [symsC, List.cons.injEq]
  by_cases h : symC a b = 0
  ·rw [if_pos h, symsC_zero (a := r), symC_zero] at *
   exact ⟨fun q => ⟨h, q⟩, fun q => q.2⟩
  ·rw [if_neg h]
   exact ⟨fun q => absurd q h, fun q => absurd (symC_zero.2 q.1) h⟩
theorem ruleC_zero {a b : Ru} : ruleC a b = 0 ↔ a = b := by
 obtain ⟨l, r⟩ := a
 obtain ⟨l', r'⟩ := b
 unfold ruleC
 by_cases h : cmpI l l' = 0
 ·rw [if_pos h, symsC_zero]
  simp only [Ru.mk.injEq, cmpI_zero.1 h, true_and]
 ·simp only [if_neg h, Ru.mk.injEq]
  exact ⟨fun q => absurd q h, fun q => absurd (cmpI_zero.2 q.1) h⟩

theorem gram_order {Γr : Ctx} (a b : Sy) : Ret Try.prog 226 [.agg #[.bool a.t, .int .i64 a.n], .agg #[.bool b.t, .int .i64 b.n]] Γr [] (fun v Γ => Γ = [] ∧ v = .int .i64 (symC a b)) := by
 generalize hR : (fun (v : Value) (Γ : Ctx) => Γ = [] ∧ _) = R
 refine ret_of_vc tr226 (Nat.le_of_ble_eq_true rfl) ?_
 obtain ⟨t, n⟩ := a
 obtain ⟨t', n'⟩ := b
 cases t <;> cases t'
 all_goals
  simp -implicitDefEqProofs only [S226, S226_0, go_sem,zA,zB,zC,zD,zE,reduceCtorEq,↓reduceIte,zF,zG,zH,zI]
 ·intro b b'
  refine CallVC.read (cmp_compare _ _) ?_
  rintro v Γ' ⟨rfl, rfl⟩
  simp -implicitDefEqProofs only [go_sem,zA,zB,zC,zD,zE,reduceCtorEq,↓reduceIte,zF,zG,zH,zI]
  refine Up.here ?_
  subst hR
  exact ⟨rfl, rfl⟩
 ·refine Up.here ?_
  subst hR
  exact ⟨rfl, rfl⟩
 ·refine Up.here ?_
  subst hR
  exact ⟨rfl, rfl⟩
 ·intro b b'
  refine CallVC.read (cmp_compare _ _) ?_
  rintro v Γ' ⟨rfl, rfl⟩
  simp -implicitDefEqProofs only [go_sem,zA,zB,zC,zD,zE,reduceCtorEq,↓reduceIte,zF,zG,zH,zI]
  refine Up.here ?_
  subst hR
  exact ⟨rfl, rfl⟩

theorem compare_syms {Γr : Ctx} {A B : Option Addr} {c d : Nat} {xs ys : List Sy} (hx : SlOk (lk Γr) A c xs) (hy : SlOk (lk Γr) B d ys) :
  Ret Try.prog 225 [.slice A xs.length c, .slice B ys.length d, .func (.func 226) #[] #[]] Γr [] (fun v Γ => Γ = [] ∧ v = .int .i64 (symsC xs ys)) := by
 generalize hR : (fun (v : Value) (Γ : Ctx) => Γ = [] ∧ _) = R
 refine ret_of_vc tr225 (Nat.le_of_ble_eq_true rfl) ?_
 have h1 := hx.short
 have h2 := hy.short
 simp -implicitDefEqProofs only [S225, S225_0, go_sem,zA,zB,zC,zD,zE,reduceCtorEq,↓reduceIte,zF,zG,zH,zI]
 refine s_loop (fun f vs Γ => Γ = [] ∧ ∃ k : Nat, vs = [.v true (.int .i64 k)] ∧ k + f = xs.length ∧ k ≤ ys.length ∧ symsC xs ys = symsC (xs.drop k) (ys.drop k)) xs.length (Up.here ⟨rfl, 0, rfl, by omega, by omega, by simp⟩) ?_
 rintro f vs Γ ⟨rfl, k, rfl, hkf, hky, he⟩
 simp -implicitDefEqProofs only [S225_1, go_sem,zA,zB,zC,zD,zE,reduceCtorEq,↓reduceIte,zF,zG,zH,zI]
 refine ⟨fun hlt => ?_, fun hge => ?_⟩
 ·have hk : k < xs.length := by omega
  obtain ⟨b, o, hA, hc1⟩ := hx.sy hk
  refine s_idx hA (by omega) (by omega) ?_
  simp -implicitDefEqProofs only [go_sem,zA,zB,zC,zD,zE,reduceCtorEq,↓reduceIte,zF,zG,zH,zI]
  refine s_ld0 (hc1 _ (Mem.le.refl _)) (by simp) (by simp) ?_
  simp -implicitDefEqProofs only [go_sem,zA,zB,zC,zD,zE,reduceCtorEq,↓reduceIte,zF,zG,zH,zI]
  rw [List.drop_eq_getElem_cons hk] at he
  intro b1
  refine ⟨fun hle => Up.here ?_, fun hlt2 => ?_⟩
  ·have : ys.drop k = [] := List.drop_eq_nil_of_le (by omega)
   subst hR
   refine ⟨rfl, ?_⟩
   rw [he, this]
   rfl
  ·have hk' : k < ys.length := by omega
   obtain ⟨b', o', hB, hc2⟩ := hy.sy hk'
   refine s_idx hB (by omega) (by omega) ?_
   simp -implicitDefEqProofs only [go_sem,zA,zB,zC,zD,zE,reduceCtorEq,↓reduceIte,zF,zG,zH,zI]
   refine s_ld0 (hc2 _ (Mem.le.refl _)) (by simp) (by simp) ?_
   simp -implicitDefEqProofs only [go_sem,zA,zB,zC,zD,zE,reduceCtorEq,↓reduceIte,zF,zG,zH,zI]
   intro b2
   refine CallVC.read (gram_order _ _) ?_
   rintro v Γ' ⟨rfl, rfl⟩
   rw [List.drop_eq_getElem_cons hk', symsC] at he
   simp -implicitDefEqProofs only [go_sem,zA,zB,zC,zD,zE,reduceCtorEq,↓reduceIte,zF,zG,zH,zI]
   refine ⟨fun hne => Up.here ?_, fun heq => ?_⟩
   ·rw [if_neg hne] at he
    subst hR
    exact ⟨rfl, by rw [he]⟩
   ·rw [if_pos heq] at he
    simp (disch := omega) only [wrap_id]
    exact ⟨f - 1, by omega, Up.here ⟨rfl, k + 1, rfl, by omega, by omega, he⟩⟩
 ·have hk : k = xs.length := by omega
  rw [hk, List.drop_length] at he
  subst hR
  refine ⟨fun h => Up.here ⟨rfl, ?_⟩, fun h => Up.here ⟨rfl, ?_⟩⟩
  ·rw [he, List.drop_eq_getElem_cons (by omega)]
   rfl
  ·rw [he, List.drop_eq_nil_of_le (by omega)]
   rfl

theorem gram_compare {Γr : Ctx} {a b : Ru} {A B : Option Addr} {c d : Nat} (hx : SlOk (lk Γr) A c a.r) (hy : SlOk (lk Γr) B d b.r) :
  Ret Try.prog 174 [.agg #[.int .i64 a.l, .slice A a.r.length c], .agg #[.int .i64 b.l, .slice B b.r.length d]] Γr [] (fun v Γ => Γ = [] ∧ v = .int .i64 (ruleC a b)) := by
 generalize hR : (fun (v : Value) (Γ : Ctx) => Γ = [] ∧ _) = R
 refine ret_of_vc tr174 (Nat.le_of_ble_eq_true rfl) ?_
 simp -implicitDefEqProofs only [S174, S174_0, go_sem,zA,zB,zC,zD,zE,reduceCtorEq,↓reduceIte,zF,zG,zH,zI]
 intro b1 b2
 refine CallVC.read (cmp_compare _ _) ?_
 rintro v Γ' ⟨rfl, rfl⟩
 simp -implicitDefEqProofs only [go_sem,zA,zB,zC,zD,zE,reduceCtorEq,↓reduceIte,zF,zG,zH,zI]
 refine ⟨fun hne => Up.here ?_, fun heq => ?_⟩
 ·subst hR
  exact ⟨rfl, by rw [ruleC, if_neg hne]⟩
 ·refine CallVC.read (compare_syms hx hy) ?_
  rintro v Γ' ⟨rfl, rfl⟩
  simp -implicitDefEqProofs only [go_sem,zA,zB,zC,zD,zE,reduceCtorEq,↓reduceIte,zF,zG,zH,zI]
  refine Up.here ?_
  subst hR
  exact ⟨rfl, by rw [ruleC, if_pos heq]⟩

/-- a symbol that is none of the grammar -/
def badSy (ts ns : Int) (s : Sy) : Bool := decide (s.n < 0) || (s.t && decide (ts ≤ s.n)) || (!s.t && decide (ns ≤ s.n))
/-- the fault of rule k: the errors 3, 2, 3, 6, or none -/
def faultAt (g : Gr) (k : Nat) (r : Ru) : Int :=
 if r.l < 0 ∨ g.ns ≤ r.l then 3 else if 4 < r.r.length then 2 else if r.r.any (badSy g.ts g.ns) = true then 3 else if r ∈ g.rs.take k then 6 else 0
def ckR (g : Gr) : Nat → Int
 | 0 => 0
 | k + 1 => if ckR g k ≠ 0 then ckR g k else match g.rs[k]? with | some r => faultAt g k r | none => 0
def badHead (g : Gr) : Prop := g.ts < 1 ∨ 8 < g.ts ∨ g.ns < 1 ∨ 10 < g.ns ∨ g.st < 0 ∨ g.ns ≤ g.st
instance (g : Gr) : Decidable (badHead g) := by unfold badHead; infer_instance
def ckF (g : Gr) : Int := if badHead g then 1 else if 32 < g.rs.length then 2 else ckR g g.rs.length
theorem ckR_stays {g : Gr} {k : Nat} (h : ckR g k ≠ 0) : ∀ {m : Nat}, k ≤ m → ckR g m = ckR g k
 | m, hm => by
  induction m with
  | zero => have : k = 0 := by omega
            subst this; rfl
  | succ m ih =>
   by_cases e : k = m + 1
   ·subst e; rfl
   ·have := ih (by omega)
    rw [ckR, if_pos (by rw [this]; exact h), this]
theorem ckR_step {g : Gr} {k : Nat} (hk : k < g.rs.length) (h : ckR g k = 0) : ckR g (k + 1) = faultAt g k g.rs[k] := by
 rw [ckR, if_neg (by simp [h]), List.getElem?_eq_getElem hk]
theorem ckR_fault {g : Gr} {k : Nat} (hk : k < g.rs.length) (h : ckR g k = 0) (hf : faultAt g k g.rs[k] ≠ 0) : ckR g g.rs.length = faultAt g k g.rs[k] := by
 have := ckR_step hk h
 rw [← this] at hf ⊢
 exact ckR_stays hf (by omega)

theorem gram_check {Γr : Ctx} {g : Gr} {A : Option Addr} {c : Nat} (hx : SlOk (lk Γr) A c g.rs) :
  Ret Try.prog 79 [.agg #[.int .i64 g.ts, .int .i64 g.ns, .int .i64 g.st, .slice A g.rs.length c]] Γr [] (fun v Γ => Γ = [] ∧ v = .int .i64 (ckF g)) := by
 generalize hR : (fun (v : Value) (Γ : Ctx) => Γ = [] ∧ _) = R
 refine ret_of_vc tr79 (Nat.le_of_ble_eq_true rfl) ?_
 simp -implicitDefEqProofs only [S79, S79_0, go_sem,zA,zB,zC,zD,zE,reduceCtorEq,↓reduceIte,zF,zG,zH,zI]
 intro b
 refine ⟨fun h => Up.here ?_, fun hok => ⟨fun h => Up.here ?_, fun h32 => ?_⟩⟩
 ·subst hR
  exact ⟨rfl, by rw [ckF, if_pos (by unfold badHead; omega)]⟩
 ·subst hR
  exact ⟨rfl, by rw [ckF, if_neg (by unfold badHead; omega), if_pos (by omega)]⟩
 have hck : ckF g = ckR g g.rs.length := by rw [ckF, if_neg (by unfold badHead; omega), if_neg (by omega)]
 refine s_loop (fun f vs Γ => Γ = [] ∧ ∃ k : Nat, vs = [.v true (.int .i64 k)] ∧ k + f = g.rs.length ∧ ckR g k = 0) g.rs.length (Up.here ⟨rfl, 0, rfl, by omega, rfl⟩) ?_
 rintro f vs Γ ⟨rfl, k, rfl, hkf, hck0⟩
 simp -implicitDefEqProofs only [S79_3, go_sem,zA,zB,zC,zD,zE,reduceCtorEq,↓reduceIte,zF,zG,zH,zI]
 refine ⟨fun hlt => ?_, fun hge => ?_⟩
 ·have hk : k < g.rs.length := by omega
  have hgen : ∀ x, faultAt g k g.rs[k] = x → x ≠ 0 → ckF g = x := fun x h1 h2 => by rw [hck, ckR_fault hk hck0 (by rw [h1]; exact h2), h1]
  have hzero : faultAt g k g.rs[k] = 0 → ckR g (k + 1) = 0 := fun h => by rw [ckR_step hk hck0, h]
  obtain ⟨b1, o1, hA, A', c', hr, hc1⟩ := hx.ru hk
  have hrl := hr.short
  refine s_idx hA (by omega) (by omega) ?_
  simp -implicitDefEqProofs only [go_sem,zA,zB,zC,zD,zE,reduceCtorEq,↓reduceIte,zF,zG,zH,zI]
  refine s_ld0 (hc1 _ (Mem.le.refl _)) (by simp) (by simp) ?_
  simp -implicitDefEqProofs only [go_sem,zA,zB,zC,zD,zE,reduceCtorEq,↓reduceIte,zF,zG,zH,zI]
  intro b2
  refine ⟨fun h => Up.here ?_, fun hl => ⟨fun h => Up.here ?_, fun h4 => ?_⟩⟩
  ·subst hR
   exact ⟨rfl, by rw [hgen 3 (by rw [faultAt, if_pos h]) (by decide)]⟩
  ·subst hR
   exact ⟨rfl, by rw [hgen 2 (by rw [faultAt, if_neg (by omega), if_pos (by omega)]) (by decide)]⟩
  have hf1 : faultAt g k g.rs[k] = if g.rs[k].r.any (badSy g.ts g.ns) = true then 3 else if g.rs[k] ∈ g.rs.take k then 6 else 0 := by
   rw [faultAt, if_neg (by omega), if_neg (by omega)]
  refine s_loop (fun f' vs Γ => Γ = [] ∧ ∃ j : Nat, vs = [.v true (.int .i64 j)] ∧ j + f' = g.rs[k].r.length ∧ ∀ (i : Nat) (h : i < g.rs[k].r.length), i < j → badSy g.ts g.ns g.rs[k].r[i] = false) g.rs[k].r.length (Up.here ⟨rfl, 0, rfl, by omega, by intro i _ h; omega⟩) ?_
  rintro f' vs Γ ⟨rfl, j, rfl, hjf, hno⟩
  simp -implicitDefEqProofs only [S79_1, go_sem,zA,zB,zC,zD,zE,reduceCtorEq,↓reduceIte,zF,zG,zH,zI]
  refine ⟨fun hlt => ?_, fun hge => ?_⟩
  ·have hj : j < g.rs[k].r.length := by omega
   obtain ⟨b3, o3, hA3, hc3⟩ := hr.sy hj
   refine s_idx hA3 (by omega) (by omega) ?_
   simp -implicitDefEqProofs only [go_sem,zA,zB,zC,zD,zE,reduceCtorEq,↓reduceIte,zF,zG,zH,zI]
   refine s_ld0 (hc3 _ (Mem.le.refl _)) (by simp) (by simp) ?_
   simp -implicitDefEqProofs only [go_sem,zA,zB,zC,zD,zE,reduceCtorEq,↓reduceIte,zF,zG,zH,zI]
   simp (disch := omega) only [wrap_id]
   refine ⟨fun h1 h2 => ⟨h1, h2⟩, fun h1 h2 => ⟨h1, h2⟩, fun h => Up.here ?_, fun h => ?_⟩
   ·have hb : g.rs[k].r.any (badSy g.ts g.ns) = true := List.any_eq_true.2 ⟨g.rs[k].r[j], List.getElem_mem hj, by
     simp only [badSy, Bool.or_eq_true, Bool.and_eq_true, decide_eq_true_eq, Bool.not_eq_true']; exact h⟩
    subst hR
    exact ⟨rfl, by rw [hgen 3 (by rw [hf1, if_pos hb]) (by decide)]⟩
   ·exact ⟨f' - 1, by omega, Up.here ⟨rfl, j + 1, rfl, by omega, fun i hi hij => by
     by_cases e : i = j
     ·subst e
      simp only [badSy, Bool.or_eq_false_iff, Bool.and_eq_false_iff, decide_eq_false_iff_not, Bool.not_eq_false']; exact h
     ·exact hno i hi (by omega)⟩⟩
  have hnb : ¬ (g.rs[k].r.any (badSy g.ts g.ns) = true) := by
   intro h
   obtain ⟨x, hx, hb⟩ := List.any_eq_true.1 h
   obtain ⟨i, hi, rfl⟩ := List.getElem_of_mem hx
   rw [hno i hi (by omega)] at hb
   cases hb
  have hf2 : faultAt g k g.rs[k] = if g.rs[k] ∈ g.rs.take k then 6 else 0 := by rw [hf1, if_neg hnb]
  refine s_hi k (by simp -implicitDefEqProofs only [go_sem,zA,zB,zC,zD,zE,reduceCtorEq,↓reduceIte,zF,zG,zH,zI]; exact ⟨_, rfl⟩) (by have := hx.cap; omega) ?_
  simp -implicitDefEqProofs only [go_sem,zA,zB,zC,zD,zE,reduceCtorEq,↓reduceIte,zF,zG,zH,zI]
  refine s_loop (fun f' vs Γ => Γ = [] ∧ ∃ j : Nat, vs = [.v true (.int .i64 j)] ∧ j + f' = k ∧ ∀ (i : Nat) (h : i < g.rs.length), i < j → g.rs[i] ≠ g.rs[k]) k (Up.here ⟨rfl, 0, rfl, by omega, by intro i _ h; omega⟩) ?_
  rintro f' vs Γ ⟨rfl, j, rfl, hjf, hne⟩
  simp -implicitDefEqProofs only [S79_2, go_sem,zA,zB,zC,zD,zE,reduceCtorEq,↓reduceIte,zF,zG,zH,zI]
  refine ⟨fun hlt => ?_, fun hge => ?_⟩
  ·have hj : j < g.rs.length := by omega
   obtain ⟨b3, o3, hA3, A4, c4, hr4, hc3⟩ := hx.ru hj
   refine s_idx hA3 (by omega) (by omega) ?_
   simp -implicitDefEqProofs only [go_sem,zA,zB,zC,zD,zE,reduceCtorEq,↓reduceIte,zF,zG,zH,zI]
   refine s_ld0 (hc3 _ (Mem.le.refl _)) (by simp) (by simp) ?_
   simp -implicitDefEqProofs only [go_sem,zA,zB,zC,zD,zE,reduceCtorEq,↓reduceIte,zF,zG,zH,zI]
   intro b5
   refine CallVC.read (gram_compare hr4 hr) ?_
   rintro v Γ' ⟨rfl, rfl⟩
   simp -implicitDefEqProofs only [go_sem,zA,zB,zC,zD,zE,reduceCtorEq,↓reduceIte,zF,zG,zH,zI]
   refine ⟨fun h => Up.here ?_, fun h => ?_⟩
   ·have hin : g.rs[k] ∈ g.rs.take k := by
     rw [← ruleC_zero.1 h, List.mem_take_iff_getElem]
     exact ⟨j, by omega, rfl⟩
    subst hR
    exact ⟨rfl, by rw [hgen 6 (by rw [hf2, if_pos hin]) (by decide)]⟩
   ·simp (disch := omega) only [wrap_id]
    exact ⟨f' - 1, by omega, Up.here ⟨rfl, j + 1, rfl, by omega, fun i hi hij => by
     by_cases e : i = j
     ·subst e; exact fun q => h (ruleC_zero.2 q)
     ·exact hne i hi (by omega)⟩⟩
  ·have hin : ¬ g.rs[k] ∈ g.rs.take k := by
    rw [List.mem_take_iff_getElem]
    rintro ⟨i, hi, e⟩
    exact hne i (by omega) (by omega) e
   simp (disch := omega) only [wrap_id]
   exact ⟨f - 1, by omega, Up.here ⟨rfl, k + 1, rfl, by omega, hzero (by rw [hf2, if_neg hin])⟩⟩
 ·have hk : k = g.rs.length := by omega
  subst hk
  refine Up.here ?_
  subst hR
  exact ⟨rfl, by rw [hck, hck0]⟩
/- Grammars that are accepted; no condition. -/
/-- a grammar that is accepted -/
structure VG (g : Gr) : Prop where
 ts : 1 ≤ g.ts ∧ g.ts ≤ 8
 ns : 1 ≤ g.ns ∧ g.ns ≤ 10
 st : 0 ≤ g.st ∧ g.st < g.ns
 len : g.rs.length ≤ 32
 left : ∀ r ∈ g.rs, 0 ≤ r.l ∧ r.l < g.ns
 right : ∀ r ∈ g.rs, r.r.length ≤ 4
 sym : ∀ r ∈ g.rs, ∀ s ∈ r.r, 0 ≤ s.n ∧ (s.t = true → s.n < g.ts) ∧ (s.t = false → s.n < g.ns)
theorem ckF_ok {g : Gr} (h : ckF g = 0) : VG g := by
 unfold ckF at h
 split at h
 ·cases h
 rename_i hb
 split at h
 ·cases h
 rename_i h32
 unfold badHead at hb
 have hf : ∀ k (hk : k < g.rs.length), faultAt g k g.rs[k] = 0 := by
  intro k hk
  have h0 : ∀ m, m ≤ g.rs.length → ckR g m = 0 := by
   intro m hm
   apply Classical.byContradiction
   intro hn
   exact hn (by rw [← ckR_stays hn hm, h])
  rw [← ckR_step hk (h0 k (by omega))]
  exact h0 (k + 1) hk
 have hr : ∀ r ∈ g.rs, (0 ≤ r.l ∧ r.l < g.ns) ∧ r.r.length ≤ 4 ∧ ∀ s ∈ r.r, badSy g.ts g.ns s = false := by
  intro r hr
  obtain ⟨k, hk, rfl⟩ := List.getElem_of_mem hr
  have h1 := hf k hk
  unfold faultAt at h1
  split at h1
  ·cases h1
  split at h1
  ·cases h1
  split at h1
  ·cases h1
  rename_i q1 q2 q3
  refine ⟨by omega, by omega, fun s hs => ?_⟩
  cases hb : badSy g.ts g.ns s with
  | false => rfl
  | true => exact absurd (List.any_eq_true.2 ⟨s, hs, hb⟩) q3
 refine ⟨by omega, by omega, by omega, by omega, fun r h => (hr r h).1, fun r h => (hr r h).2.1, fun r h s hs => ?_⟩
 have := (hr r h).2.2 s hs
 simp only [badSy, Bool.or_eq_false_iff, Bool.and_eq_false_iff, decide_eq_false_iff_not, Bool.not_eq_false'] at this
 obtain ⟨⟨h1, h2⟩, h3⟩ := this
 refine ⟨by omega, fun ht => ?_, fun ht => ?_⟩
 ·rw [ht] at h2; simp at h2; exact h2
 ·rw [ht] at h3; simp at h3; exact h3

/- Maps: a map as the list of its keys and values; no condition. -/
set_option linter.unusedSectionVars false
attribute [local go_sem] e_seq e_region e_quiet e_join e_loop e_cond e_block e_exit e_ret e_skip e_fin e_kseq e_snrm e_sret e_sex e_bnrm e_bret e_bex e_rnrm e_rret e_res e_condC e_nil e_g e_mv g_mv e_pick g_pick pickC_eq e_ibin g_ibin ibinC_eq e_sbin g_sbin e_beq g_beq beqC_eq e_nilq g_nilq nilqC_sl nilqC_pt nilqC_mp e_un g_un unC_not unC_neg e_conv g_conv convC_eq e_fld g_fld fldC_ref fldC_ptr e_nilCheck g_nilCheck nilCheckC_ref nilCheckC_ptr nilCheckC_fun e_field g_field fieldC_eq e_len g_len lenC_sl lenC_str e_extract g_extract extractC_eq e_mkFunc e_build g_build e_idiv g_idiv idivC_eq e_ishift g_ishift ishiftC_eq e_idx g_idx e_idxA g_idxA e_load g_load e_loadB g_loadB atB_ref atB_v g_mkFunc loadC_ref loadC_ptr loadB_eq e_slc g_slc e_box boxC_loc boxC_esc e_alloc allocC_loc allocC_esc e_buildS e_store storeC_ref storeC_ptr storeB_eq e_append e_appz e_mk mkC_eq e_call callC_eq e_fn g_fn fnC_eq fnV_min' fnV_max' fnV_rune' e_q g_q e_a e_n g_call g_box g_alloc g_buildS g_store g_append g_mk g_a g_n g_dead e_dead e_callK e_drawn e_tree e_finJ e_tk e_tfin e_tno e_nbt_q e_nbt_qn e_nbt_a e_nbt_an e_nbt_fin e_drawnB e_bxb_nil e_bxb e_stB_none e_stB_some boxSt_store bs_mv bs_pick bs_ibin bs_idiv bs_ishift bs_sbin bs_beq bs_nilq bs_un bs_conv bs_box bs_alloc bs_build bs_buildS bs_load bs_fld bs_nilCheck bs_idx bs_idxA bs_field bs_slc bs_len bs_append bs_appz bs_mk bs_call bs_extract bs_mkFunc bs_fn bs_q bs_a bs_n bs_loadB bs_dead isBox_box e_early_nil e_early_t e_early_f e_nob_nil e_nob_none e_nob_some isBox_dead isBox_v isBox_ref e_dnil e_dk e_ek e_finB vcOps_vc1 e_dcons e_tq e_ekt e_tearly e_talt e_dearly look_nil look_c proj_nil proj_c looks_nil looks_c zip_nil zip_c val_tmp val_const val_func slv_v slv_box slv_ref slot_tmp slot_const slot_func slotL_v slotL_box slotL_ref put_some put_none updBox_c boxSet_box gd_eq slotVals_nil slotVals_c slotVals_b boxV_box boxOn_box slotsOn_nil slotsOn_c slotsOn_b resV_one resV_two vals_nil vals_c allOn_nil allOn_c partOn_nil partOn_c partVals_nil partVals_c fits_nil fits_c fillL_nil fillL_c mkv_one mkv_agg cellsV_agg cellsV_int cellsV_bool cellsV_slice cellsV_string cellsV_pointer cellsV_func cellsV_nilf cellsV_map one'_nil one'_c oc_int oc_bool oc_slice oc_string oc_pointer oc_func oc_nilf oc_map setC_eq iv_add iv_sub iv_mul iv_eql iv_neq iv_lss iv_leq iv_gtr iv_geq iok_add iok_sub iok_mul iok_eql iok_neq iok_lss iok_leq iok_gtr iok_geq pickV_bool args0_nil args0_c bnd_none bnd_some imp_bt imp_bf imp_ebt imp_ebf imp_eb1 imp_np imp_pp beq_tt beq_tf beq_ft beq_ff cond_or cond_and e_round e_meet Int.le_refl Int.toNat_zero decide_true decide_false Bool.or_false Bool.false_or Bool.true_or Bool.or_true Bool.and_false Bool.false_and Bool.bne_false Bool.bne_true beq_iff_eq Int.cast_ofNat_Int not_false_eq_true not_true_eq_false false_and and_false false_implies true_implies true_and and_true Bool.true_and Bool.and_true Bool.not_true Bool.not_false forall_const implies_true List.take_zero List.drop_zero List.take_succ_cons List.drop_succ_cons List.take_nil List.drop_nil List.length_cons List.length_nil List.nil_append List.append_nil List.cons_append Int.toNat_natCast decide_eq_true_eq decide_eq_false_iff_not cond_true cond_false and_self List.getElem?_cons_zero List.getElem?_cons_succ List.set_cons_zero List.set_cons_succ Option.some.injEq exists_eq_left' Nat.zero_add Nat.add_zero Nat.mul_one imp_self true_or or_true or_false false_or Bool.or_eq_true Bool.or_eq_false_iff Bool.and_eq_true Bool.and_eq_false_iff Bool.not_eq_true' Bool.not_eq_false'

theorem zero_run {P : Program} {e : TypeId} {z : Value} (h : (P.info? e).bind (·.zero) = some z) (w : World) : (zeroValue e).run P w = .ok z w := by
 obtain ⟨i, hi, hz⟩ := Option.bind_eq_some_iff.1 h
 simp [zeroValue, typeInfo, hi, hz]
/-- what a map's operations need of the keys -/
structure KT (P : Program) (k : TypeId) {α : Type} (eK : α → Value) (good : α → Prop) : Prop where
 inj : ∀ a b, eK a = eK b → a = b
 check : ∀ (w : World) (em : Bool) a, good a → (Instr.checkKey em 10000 k (eK a)).run P w = .ok () w
 find : ∀ (w : World) a, good a → ∀ es : List MapEntry, (∀ e ∈ es, ∃ b, good b ∧ e.key = eK b) →
  ((Instr.findKey k (eK a) es).run P w = .ok none w ∧ ∀ e ∈ es, e.key ≠ eK a) ∨ ∃ j e, (Instr.findKey k (eK a) es).run P w = .ok (some (j, e.val)) w ∧ es[j]? = some e ∧ e.key = eK a
 stays : ∀ (w : World) a, good a → (Instr.keyThatStays (eK a) (eK a)).run P w = .ok (eK a) w
theorem KT.of {P : Program} {k : TypeId} {α : Type} {eK : α → Value} {good : α → Prop} (K : Maps.Keyed P k) (hi : ∀ a b, eK a = eK b → a = b) (h : ∀ a, good a → ∃ l, keyOf P k (eK a) = some l) : KT P k eK good where
 inj := hi
 check w em a ha := by obtain ⟨l, hl⟩ := h a ha; exact K.check w em hl
 find w a ha es he := by
  obtain ⟨l, hl⟩ := h a ha
  exact K.find w hl es fun e hm => by obtain ⟨b, hb, q⟩ := he e hm; rw [q]; exact h b hb
 stays w a ha := by obtain ⟨l, hl⟩ := h a ha; exact K.stays w hl

section
variable {α β : Type}
/-- each entry has its own time of birth, which is past -/
def Born (es : List MapEntry) (clock : Nat) : Prop := (∀ e ∈ es, e.born < clock) ∧ (es.map (·.born)).Nodup
/-- the map b lies in memory -/
structure MapL (L : Mem) (b : Nat) (eK : α → Value) (eV : β → Value) (good : α → Prop) (l : List (α × β)) : Prop where
 nodup : (l.map (·.1)).Nodup
 good : ∀ p ∈ l, good p.1
 at' : ∃ es clock, L b (.map es clock) ∧ es.toList.map (fun e => (e.key, e.val)) = l.map (fun p => (eK p.1, eV p.2)) ∧ Born es.toList clock
theorem MapL.mono {L L' : Mem} {b : Nat} {eK : α → Value} {eV : β → Value} {good : α → Prop} {l : List (α × β)} (h : MapL L b eK eV good l) (hl : Mem.le L L') : MapL L' b eK eV good l :=
 ⟨h.nodup, h.good, let ⟨es, c, q1, q2⟩ := h.at'; ⟨es, c, hl _ _ q1, q2⟩⟩
/-- the map b is a heap's -/
def MapM (g : PH) (b : Nat) (eK : α → Value) (eV : β → Value) (good : α → Prop) (l : List (α × β)) : Prop := MapL (fun b o => g b = some o) b eK eV good l
theorem MapM.l {g : PH} {Γ : Ctx} {b : Nat} {eK : α → Value} {eV : β → Value} {good : α → Prop} {l : List (α × β)} (h : MapM g b eK eV good l) (hg : g ∈ Γ) : MapL (lk Γ) b eK eV good l :=
 MapL.mono h fun _ _ q => ⟨g, hg, q⟩
theorem MapM.mono {g g' : PH} {b : Nat} {eK : α → Value} {eV : β → Value} {good : α → Prop} {l : List (α × β)} (h : MapM g b eK eV good l) (hg : Mem.le (lk [g]) (lk [g'])) : MapM g' b eK eV good l :=
 MapL.mono h fun b o q => by obtain ⟨x, hx, q'⟩ := hg b o ⟨g, by simp, q⟩; simp at hx; subst hx; exact q'
theorem MapM.new (b : Nat) (eK : α → Value) (eV : β → Value) (good : α → Prop) : MapM (one b (.map #[] 0)) b eK eV good ([] : List (α × β)) := ⟨by simp, by simp, #[], 0, one_self _ _, rfl, by simp [Born]⟩

theorem entry_of {es : Array MapEntry} {eK : α → Value} {eV : β → Value} {l : List (α × β)} (h : es.toList.map (fun e => (e.key, e.val)) = l.map (fun p => (eK p.1, eV p.2))) {j : Nat} {e : MapEntry} (hj : es.toList[j]? = some e) : ∃ p, l[j]? = some p ∧ e.key = eK p.1 ∧ e.val = eV p.2 := by
 have h1 := congrArg (·[j]?) h
 simp only [List.getElem?_map, hj, Option.map_some] at h1
 cases hp : l[j]? with
 | none => rw [hp] at h1; simp at h1
 | some p => rw [hp] at h1; simp at h1; exact ⟨p, rfl, h1.1, h1.2⟩
theorem entry_good {L : Mem} {b : Nat} {eK : α → Value} {eV : β → Value} {good : α → Prop} {l : List (α × β)} (hm : MapL L b eK eV good l) {es : Array MapEntry} (h : es.toList.map (fun e => (e.key, e.val)) = l.map (fun p => (eK p.1, eV p.2))) : ∀ e ∈ es.toList, ∃ b, good b ∧ e.key = eK b := by
 intro e he
 obtain ⟨j, hj⟩ := List.getElem?_of_mem he
 obtain ⟨p, hp, hk, _⟩ := entry_of h hj
 exact ⟨p.1, hm.good p (List.mem_of_getElem? hp), hk⟩
theorem entry_none {es : Array MapEntry} {eK : α → Value} {eV : β → Value} {l : List (α × β)} (h : es.toList.map (fun e => (e.key, e.val)) = l.map (fun p => (eK p.1, eV p.2))) {a : α} (hn : ∀ e ∈ es.toList, e.key ≠ eK a) : a ∉ l.map (·.1) := by
 intro ha
 obtain ⟨p, hp, rfl⟩ := List.mem_map.1 ha
 have : (eK p.1, eV p.2) ∈ es.toList.map (fun e => (e.key, e.val)) := by rw [h]; exact List.mem_map.2 ⟨p, hp, rfl⟩
 obtain ⟨e, he, q⟩ := List.mem_map.1 this
 simp at q
 exact hn e he q.1

end
section
variable {α β : Type} [DecidableEq α]
def mget (l : List (α × β)) (a : α) : Option β := (l.find? (fun p => decide (p.1 = a))).map (·.2)
def mput (l : List (α × β)) (a : α) (v : β) : List (α × β) := if a ∈ l.map (·.1) then l.map (fun p => if p.1 = a then (a, v) else p) else l ++ [(a, v)]
theorem mget_none {l : List (α × β)} {a : α} : mget l a = none ↔ a ∉ l.map (·.1) := by
 simp only [mget, Option.map_eq_none_iff, List.find?_eq_none, decide_eq_true_eq, List.mem_map, not_exists, not_and]
theorem mget_at {l : List (α × β)} (hn : (l.map (·.1)).Nodup) {j : Nat} {p : α × β} (h : l[j]? = some p) : mget l p.1 = some p.2 := by
 obtain ⟨hj, rfl⟩ := List.getElem?_eq_some_iff.1 h
 have : l.find? (fun q => decide (q.1 = l[j].1)) = some l[j] := by
  rw [List.find?_eq_some_iff_getElem]
  refine ⟨by simp, j, hj, rfl, fun i hi => ?_⟩
  simp only [Bool.not_eq_eq_eq_not, Bool.not_true, decide_eq_false_iff_not]
  intro e
  have := (List.pairwise_iff_getElem.1 hn) i j (by simp; omega) (by simpa using hj) hi
  simp at this
  exact this e
 rw [mget, this]
 rfl
theorem mput_keys (l : List (α × β)) (a : α) (v : β) : (mput l a v).map (·.1) = if a ∈ l.map (·.1) then l.map (·.1) else l.map (·.1) ++ [a] := by
 unfold mput
 split
 ·rw [List.map_map]
  apply List.map_congr_left
  intro p _
  simp only [Function.comp]
  split
  ·rename_i h; exact h.symm
  ·rfl
 ·simp
theorem mput_nodup {l : List (α × β)} (hn : (l.map (·.1)).Nodup) (a : α) (v : β) : ((mput l a v).map (·.1)).Nodup := by
 rw [mput_keys]
 split
 ·exact hn
 ·rw [List.nodup_append]
  refine ⟨hn, by simp, ?_⟩
  rintro x hx y hy rfl
  simp at hy
  subst hy
  contradiction
theorem mget_put {l : List (α × β)} (a x : α) (v : β) : mget (mput l a v) x = if x = a then some v else mget l x := by
 unfold mput mget
 split
 ·rename_i hin
  rw [List.find?_map]
  by_cases e : x = a
  ·subst e
   rw [if_pos rfl]
   have : (fun p : α × β => decide (p.1 = x)) ∘ (fun p : α × β => if p.1 = x then (x, v) else p) = fun p => decide (p.1 = x) := by
    funext p; simp only [Function.comp]; split <;> simp_all
   rw [this]
   cases hf : l.find? (fun p => decide (p.1 = x)) with
   | none =>
    rw [List.find?_eq_none] at hf
    simp only [List.mem_map] at hin
    obtain ⟨p, hp, rfl⟩ := hin
    exact absurd (hf p hp) (by simp)
   | some p =>
    have := List.find?_some hf
    simp only [decide_eq_true_eq] at this
    simp [this]
  ·rw [if_neg e]
   have : (fun p : α × β => decide (p.1 = x)) ∘ (fun p : α × β => if p.1 = a then (a, v) else p) = fun p => decide (p.1 = x) := by
    funext p
    simp only [Function.comp]
    split
    ·rename_i h; simp [h, fun q : a = x => e q.symm]
    ·rfl
   rw [this]
   cases hf : l.find? (fun p => decide (p.1 = x)) with
   | none => rfl
   | some p =>
    have := List.find?_some hf
    simp only [decide_eq_true_eq] at this
    simp [this, e]
 ·rename_i hin
  rw [List.find?_append]
  by_cases e : x = a
  ·subst e
   rw [if_pos rfl]
   have : l.find? (fun p => decide (p.1 = x)) = none := by
    rw [List.find?_eq_none]
    intro p hp h
    simp only [decide_eq_true_eq] at h
    exact hin (List.mem_map.2 ⟨p, hp, h⟩)
   simp [this]
  ·rw [if_neg e]
   have e' : ¬ a = x := fun q => e q.symm
   simp [e']

/-- a set -/
def mset {γ : Type} (f : γ → α) (l : List γ) : List (α × Bool) := l.map fun x => (f x, true)
theorem mset_keys {γ : Type} (f : γ → α) (l : List γ) : (mset f l).map (·.1) = l.map f := by simp [mset]
theorem mget_set {γ : Type} (f : γ → α) (l : List γ) (a : α) : mget (mset f l) a = if a ∈ l.map f then some true else none := by
 split
 ·rename_i h
  have hne : mget (mset f l) a ≠ none := by rw [Ne, mget_none, mset_keys]; simpa using h
  cases hg : mget (mset f l) a with
  | none => exact absurd hg hne
  | some v =>
   simp only [mget, Option.map_eq_some_iff] at hg
   obtain ⟨p, hp, rfl⟩ := hg
   have := List.mem_of_find?_eq_some hp
   simp only [mset, List.mem_map] at this
   obtain ⟨x, _, rfl⟩ := this
   rfl
 ·rename_i h
  rw [mget_none, mset_keys]
  exact h
theorem mput_set {γ : Type} (f : γ → α) (l : List γ) (x : γ) (h : f x ∉ l.map f) : mput (mset f l) (f x) true = mset f (l ++ [x]) := by
 rw [mput, mset_keys, if_neg h]
 simp [mset]
theorem qr_look {P : Program} {Γ : Ctx} {t kt et : TypeId} {eK : α → Value} {eV : β → Value} {good : α → Prop} {z : Value} (T : KT P kt eK good) (ht : P.underlying t = some (.map kt et)) (hz : ∀ w, (zeroValue et).run P w = .ok z w) (ok : Bool)
  {b : Nat} {l : List (α × β)} (hm : MapL (lk Γ) b eK eV good l) {a : α} (ha : good a) :
  QR P (.look t ok) [.map (some b), eK a] Γ (if ok then .tuple #[(mget l a).elim z eV, .bool (mget l a).isSome] else (mget l a).elim z eV) := by
 intro w hw
 obtain ⟨es, clock, hb, he, _⟩ := hm.at'
 obtain ⟨h, hh, hb⟩ := hb
 have hb := hw h hh b _ hb
 simp only [qsem]
 rcases T.find w a ha es.toList (entry_good hm he) with ⟨h1, h2⟩ | ⟨j, e, h1, h2, h3⟩
 ·have hg : mget l a = none := mget_none.2 (entry_none he h2)
  cases ok <;> simp [Instr.lookup, run_underlying ht, MapKept.run_getObj_map hb, T.check w _ a ha, h1, hz w, hg, Result.andThen]
 ·obtain ⟨p, hp, hk, hv⟩ := entry_of he h2
  have : p.1 = a := T.inj _ _ (by rw [← hk, h3])
  subst this
  have hg := mget_at hm.nodup hp
  cases ok <;> simp [Instr.lookup, run_underlying ht, MapKept.run_getObj_map hb, T.check w _ _ ha, h1, hg, hv, Result.andThen]

section
variable {P : Program} {Γr : Ctx} {d : Option Nat} {r : List SOper} {φ : Fr} {Γ : Ctx} {K : Fr → Ctx → Prop}
theorem s_mkmap {t : TypeId} (hk : ∀ b, vcOps P Γr r (put φ d (.v true (.map (some b)))) (one b (.map #[] 0) :: Γ) K) : nC P Γr d r φ Γ K (.mkmap t) [] := by
 intro w _
 exact ⟨_, _, by simp only [qsem, List.head?_nil]; rfl, hk _⟩
theorem entry_put {es : Array MapEntry} {eK : α → Value} {eV : β → Value} {l : List (α × β)} {i : Nat} {a : α} {v : β} (hn : (l.map (·.1)).Nodup) (h : es.toList.map (fun e => (e.key, e.val)) = l.map (fun p => (eK p.1, eV p.2))) {p : α × β} (hp : l[i]? = some p) (ha : p.1 = a) :
  (es.modify i fun e => { e with key := eK a, val := eV v }).toList.map (fun e => (e.key, e.val)) = (mput l a v).map (fun p => (eK p.1, eV p.2)) := by
 have hin : a ∈ l.map (·.1) := List.mem_map.2 ⟨p, List.mem_of_getElem? hp, ha⟩
 rw [mput, if_pos hin]
 apply List.ext_getElem?
 intro j
 have hj := congrArg (·[j]?) h
 simp only [List.getElem?_map, Array.getElem?_toList] at hj ⊢
 rw [Array.getElem?_modify]
 obtain ⟨hi, rfl⟩ := List.getElem?_eq_some_iff.1 hp
 by_cases e : i = j
 ·subst e
  rw [hp] at hj ⊢
  simp only [if_true, Option.map_some, ha] at hj ⊢
  cases hq : es[i]? with
  | none => rw [hq] at hj; simp at hj
  | some q => simp
 ·rw [if_neg e, hj]
  cases hq : l[j]? with
  | none => rfl
  | some q =>
   obtain ⟨hj', rfl⟩ := List.getElem?_eq_some_iff.1 hq
   have : ¬ l[j].1 = a := fun q => by
    rw [← q] at ha
    have hpw := List.pairwise_iff_getElem.1 hn
    rcases Nat.lt_or_ge i j with q1 | q1
    ·have := hpw i j (by simpa using hi) (by simpa using hj') q1
     simp at this
     exact this ha
    ·have := hpw j i (by simpa using hj') (by simpa using hi) (by omega)
     simp at this
     exact this ha.symm
   simp [this]
theorem born_put {es : Array MapEntry} {c : Nat} (h : Born es.toList c) {j : Nat} {x y : Value} : Born (es.modify j fun e => { e with key := x, val := y }).toList c := by
 have hm : (es.modify j fun e => { e with key := x, val := y }).toList.map (·.born) = es.toList.map (·.born) := by
  apply List.ext_getElem?
  intro i
  simp only [List.getElem?_map, Array.getElem?_toList, Array.getElem?_modify]
  split
  ·cases es[i]? <;> rfl
  ·rfl
 refine ⟨fun e he => ?_, by rw [hm]; exact h.2⟩
 have : e.born ∈ es.toList.map (·.born) := by rw [← hm]; exact List.mem_map.2 ⟨e, he, rfl⟩
 obtain ⟨e', h1, h2⟩ := List.mem_map.1 this
 rw [← h2]
 exact h.1 e' h1
theorem s_upd {t kt et : TypeId} {eK : α → Value} {eV : β → Value} {good : α → Prop} (T : KT P kt eK good) (ht : P.underlying t = some (.map kt et)) {g : PH} {ix b : Nat} {l : List (α × β)} (hg : Γ[ix]? = some g) (hm : MapM g b eK eV good l) {a : α} (v : β) (ha : good a)
  (hk : ∀ g', MapM g' b eK eV good (mput l a v) → (∀ k, k ≠ b → g' k = g k) → vcOps P Γr r (put φ d (.v true undef)) (Γ.set ix g') K) : aC P Γr d r φ Γ K (.upd t) [.map (some b), eK a, eV v] := by
 intro w hw
 obtain ⟨es, clock, hb0, he, hbo⟩ := hm.at'
 have hgΓ : g ∈ Γ := List.mem_of_getElem? hg
 have hb := hw g (by simp [hgΓ]) b _ hb0
 have hgood : ∀ p ∈ mput l a v, good p.1 := fun p hp => by
  have : p.1 ∈ (mput l a v).map (·.1) := List.mem_map.2 ⟨p, hp, rfl⟩
  rw [mput_keys] at this
  split at this
  ·obtain ⟨q, hq, e⟩ := List.mem_map.1 this
   rw [← e]; exact hm.good q hq
  ·simp only [List.mem_append, List.mem_singleton] at this
   rcases this with q | q
   ·obtain ⟨q, hq, e⟩ := List.mem_map.1 q
    rw [← e]; exact hm.good q hq
   ·rw [q]; exact ha
 have hc := T.check w false a ha
 rcases T.find w a ha es.toList (entry_good hm he) with ⟨h1, h2⟩ | ⟨j, e, h1, h2, h3⟩
 ·have hno := entry_none he h2
  refine ⟨undef, setBlk w b (.map (es.push { key := eK a, val := eV v, born := clock }) (clock + 1)), 0, ?_, .inr ⟨ix, g, b, _, _, hg, hb0, rfl, hk _ ⟨mput_nodup hm.nodup a v, hgood, _, _, upd_self _ _ _, ?_, ?_⟩ fun k hne => upd_other hne⟩⟩
  ·simp [qsem, Instr.mapUpdate, run_underlying ht, MapKept.run_getObj_map hb, hc, h1, MapKept.run_setObj_map _ hb, Result.andThen, setBlk]
  ·rw [mput, if_neg hno, Array.toList_push, List.map_append, he, List.map_append]
   rfl
  ·rw [Array.toList_push]
   refine ⟨fun e he => ?_, ?_⟩
   ·rcases List.mem_append.1 he with he | he
    ·have := hbo.1 e he; omega
    ·simp at he; subst he; simp
   ·rw [List.map_append, List.nodup_append]
    refine ⟨hbo.2, by simp, ?_⟩
    rintro x hx y hy rfl
    simp at hy
    obtain ⟨e, he, rfl⟩ := List.mem_map.1 hx
    have := hbo.1 e he
    omega
 ·obtain ⟨p, hp, hk', hv⟩ := entry_of he h2
  have hpa : p.1 = a := T.inj _ _ (by rw [← hk', h3])
  have hj : es[j]? = some e := by simpa using h2
  refine ⟨undef, setBlk w b (.map (es.modify j fun e => { e with key := eK a, val := eV v }) clock), 0, ?_, .inr ⟨ix, g, b, _, _, hg, hb0, rfl, hk _ ⟨mput_nodup hm.nodup a v, hgood, _, _, upd_self _ _ _, entry_put hm.nodup he hp hpa, born_put hbo⟩ fun k hne => upd_other hne⟩⟩
  simp [qsem, Instr.mapUpdate, run_underlying ht, MapKept.run_getObj_map hb, hc, h1, hj, h3, T.stays w a ha, MapKept.run_setObj_map _ hb, Result.andThen, setBlk]
end
end
/- Grids: rows of rows that are made and changed; no condition. -/
set_option linter.unusedSectionVars false
attribute [local go_sem] e_seq e_region e_quiet e_join e_loop e_cond e_block e_exit e_ret e_skip e_fin e_kseq e_snrm e_sret e_sex e_bnrm e_bret e_bex e_rnrm e_rret e_res e_condC e_nil e_g e_mv g_mv e_pick g_pick pickC_eq e_ibin g_ibin ibinC_eq e_sbin g_sbin e_beq g_beq beqC_eq e_nilq g_nilq nilqC_sl nilqC_pt nilqC_mp e_un g_un unC_not unC_neg e_conv g_conv convC_eq e_fld g_fld fldC_ref fldC_ptr e_nilCheck g_nilCheck nilCheckC_ref nilCheckC_ptr nilCheckC_fun e_field g_field fieldC_eq e_len g_len lenC_sl lenC_str e_extract g_extract extractC_eq e_mkFunc e_build g_build e_idiv g_idiv idivC_eq e_ishift g_ishift ishiftC_eq e_idx g_idx e_idxA g_idxA e_load g_load e_loadB g_loadB atB_ref atB_v g_mkFunc loadC_ref loadC_ptr loadB_eq e_slc g_slc e_box boxC_loc boxC_esc e_alloc allocC_loc allocC_esc e_buildS e_store storeC_ref storeC_ptr storeB_eq e_append e_appz e_mk mkC_eq e_call callC_eq e_fn g_fn fnC_eq fnV_min' fnV_max' fnV_rune' e_q g_q e_a e_n g_call g_box g_alloc g_buildS g_store g_append g_mk g_a g_n g_dead e_dead e_callK e_drawn e_tree e_finJ e_tk e_tfin e_tno e_nbt_q e_nbt_qn e_nbt_a e_nbt_an e_nbt_fin e_drawnB e_bxb_nil e_bxb e_stB_none e_stB_some boxSt_store bs_mv bs_pick bs_ibin bs_idiv bs_ishift bs_sbin bs_beq bs_nilq bs_un bs_conv bs_box bs_alloc bs_build bs_buildS bs_load bs_fld bs_nilCheck bs_idx bs_idxA bs_field bs_slc bs_len bs_append bs_appz bs_mk bs_call bs_extract bs_mkFunc bs_fn bs_q bs_a bs_n bs_loadB bs_dead isBox_box e_early_nil e_early_t e_early_f e_nob_nil e_nob_none e_nob_some isBox_dead isBox_v isBox_ref e_dnil e_dk e_ek e_finB vcOps_vc1 e_dcons e_tq e_ekt e_tearly e_talt e_dearly look_nil look_c proj_nil proj_c looks_nil looks_c zip_nil zip_c val_tmp val_const val_func slv_v slv_box slv_ref slot_tmp slot_const slot_func slotL_v slotL_box slotL_ref put_some put_none updBox_c boxSet_box gd_eq slotVals_nil slotVals_c slotVals_b boxV_box boxOn_box slotsOn_nil slotsOn_c slotsOn_b resV_one resV_two vals_nil vals_c allOn_nil allOn_c partOn_nil partOn_c partVals_nil partVals_c fits_nil fits_c fillL_nil fillL_c mkv_one mkv_agg cellsV_agg cellsV_int cellsV_bool cellsV_slice cellsV_string cellsV_pointer cellsV_func cellsV_nilf cellsV_map one'_nil one'_c oc_int oc_bool oc_slice oc_string oc_pointer oc_func oc_nilf oc_map setC_eq iv_add iv_sub iv_mul iv_eql iv_neq iv_lss iv_leq iv_gtr iv_geq iok_add iok_sub iok_mul iok_eql iok_neq iok_lss iok_leq iok_gtr iok_geq pickV_bool args0_nil args0_c bnd_none bnd_some imp_bt imp_bf imp_ebt imp_ebf imp_eb1 imp_np imp_pp beq_tt beq_tf beq_ft beq_ff cond_or cond_and e_round e_meet Int.le_refl Int.toNat_zero decide_true decide_false Bool.or_false Bool.false_or Bool.true_or Bool.or_true Bool.and_false Bool.false_and Bool.bne_false Bool.bne_true beq_iff_eq Int.cast_ofNat_Int not_false_eq_true not_true_eq_false false_and and_false false_implies true_implies true_and and_true Bool.true_and Bool.and_true Bool.not_true Bool.not_false forall_const implies_true List.take_zero List.drop_zero List.take_succ_cons List.drop_succ_cons List.take_nil List.drop_nil List.length_cons List.length_nil List.nil_append List.append_nil List.cons_append Int.toNat_natCast decide_eq_true_eq decide_eq_false_iff_not cond_true cond_false and_self List.getElem?_cons_zero List.getElem?_cons_succ List.set_cons_zero List.set_cons_succ Option.some.injEq exists_eq_left' Nat.zero_add Nat.add_zero Nat.mul_one imp_self true_or or_true or_false false_or Bool.or_eq_true Bool.or_eq_false_iff Bool.and_eq_true Bool.and_eq_false_iff Bool.not_eq_true' Bool.not_eq_false'

section
variable {α : Type} [Sc α]
def gcell (p : Option Nat × List α) : Value := match p.1 with
 | none => .slice none 0 0
 | some k => .slice (some ⟨k, 0, none⟩) p.2.length p.2.length
structure GridB (g : PH) (b : Nat) (T e : TypeId) (ps : List (Option Nat × List α)) : Prop where
 out : g b = some (.cells (ps.map gcell).toArray T (0, 0))
 row : ∀ (i k : Nat) xs, ps[i]? = some (some k, xs) → k ≠ b ∧ g k = some (.cells (xs.map Sc.enc).toArray e (0, 0)) ∧ xs.length ≤ 1000000
 nil : ∀ (i : Nat) xs, ps[i]? = some (none, xs) → xs = []
 apart : ∀ (i j k : Nat) xs ys, ps[i]? = some (some k, xs) → ps[j]? = some (some k, ys) → i = j
 short : ps.length ≤ 1000000
/-- the rows of a grid whose outer array is b -/
def Grid (g : PH) (b : Nat) (T e : TypeId) (rows : List (List α)) : Prop := ∃ ps, GridB g b T e ps ∧ rows = ps.map (·.2)

theorem Grid.made (b : Nat) (T e : TypeId) {m : Nat} (hm : m ≤ 1000000) : Grid (one b (.cells (zerosL [Value.slice none 0 0] m).toArray T)) b T e (List.replicate m ([] : List α)) := by
 refine ⟨List.replicate m (none, []), ⟨?_, ?_, ?_, ?_, by simpa using hm⟩, by simp⟩
 ·rw [one_self]
  congr 3
  induction m with
  | zero => rfl
  | succ m ih => simp [zerosL, List.replicate_succ, gcell, ih (by omega)]
 ·intro i k xs h
  rw [List.getElem?_replicate] at h
  split at h <;> simp at h
 ·intro i xs h
  rw [List.getElem?_replicate] at h
  split at h <;> simp at h
  exact h
 ·intro i j k xs ys h
  rw [List.getElem?_replicate] at h
  split at h <;> simp at h
theorem Grid.mono {g g' : PH} {b : Nat} {T e : TypeId} {rows : List (List α)} (h : Grid g b T e rows) (hl : Mem.le (lk [g]) (lk [g'])) : Grid g' b T e rows := by
 obtain ⟨ps, h, rfl⟩ := h
 have up : ∀ k o, g k = some o → g' k = some o := fun k o q => lk_one.1 (hl _ _ (lk_one.2 q))
 exact ⟨ps, ⟨up _ _ h.out, fun i k xs q => let ⟨a, b, c⟩ := h.row i k xs q; ⟨a, up _ _ b, c⟩, h.nil, h.apart, h.short⟩, rfl⟩
theorem Grid.short {g : PH} {b : Nat} {T e : TypeId} {rows : List (List α)} (h : Grid g b T e rows) : rows.length ≤ 1000000 := by
 obtain ⟨ps, h, rfl⟩ := h
 simpa using h.short
theorem Grid.slok {g : PH} {b : Nat} {T e : TypeId} {rows : List (List α)} {L : Mem} (h : Grid g b T e rows) (hL : Mem.le (lk [g]) L) : SlOk L (some ⟨b, 0, none⟩) rows.length rows := by
 have hs := h.short
 obtain ⟨ps, h, rfl⟩ := h
 refine ⟨Nat.le_refl _, by unfold maxLen; omega, by omega, .inr ⟨b, 0, _, T, _, rfl, hL _ _ (lk_one.2 h.out), fun i x hi => ?_⟩⟩
 rw [List.getElem?_map] at hi
 cases hp : ps[i]? with
 | none => rw [hp] at hi; simp at hi
 | some p =>
  obtain ⟨o, xs⟩ := p
  rw [hp] at hi
  simp only [Option.map_some, Option.some.injEq] at hi
  subst hi
  refine ⟨[gcell (o, xs)], ?_, fun j hj => ?_⟩
  ·cases o with
   | none =>
    have := h.nil i xs hp
    subst this
    exact ⟨none, 0, rfl, SlOk.nil⟩
   | some k =>
    obtain ⟨h1, h2, h3⟩ := h.row i k xs hp
    exact ⟨_, _, rfl, Arr.slok (g := g) (b := k) (T := e) h2 hL (Nat.le_refl _) (by unfold maxLen; show xs.length ≤ _; omega) (by omega)⟩
  ·have : j = 0 := by simp [Rep.sz] at hj; exact hj
   subst this
   simp [Rep.sz, hp]
/-- rows[i] is to be changed -/
theorem Grid.at' {g : PH} {b : Nat} {T e : TypeId} {rows : List (List α)} (h : Grid g b T e rows) {i : Nat} (hi : i < rows.length) (hpos : 0 < rows[i].length) :
  ∃ k, (∀ Γ : Ctx, g ∈ Γ → Cells Γ b i [.slice (some ⟨k, 0, none⟩) rows[i].length rows[i].length]) ∧ Arr g k e rows[i] ∧
   ∀ g' (xs : List α), Arr g' k e xs → xs.length = rows[i].length → (∀ x, x ≠ k → g' x = g x) → Grid g' b T e (rows.set i xs) := by
 obtain ⟨ps, h, rfl⟩ := h
 have hi' : i < ps.length := by simpa using hi
 obtain ⟨o, xs, hp⟩ : ∃ o xs, ps[i]? = some (o, xs) := ⟨_, _, List.getElem?_eq_getElem hi'⟩
 have hx : (ps.map (·.2))[i] = xs := by
  have := (List.getElem?_eq_some_iff.1 hp).2
  simp [this]
 simp only [hx] at hpos ⊢
 cases o with
 | none => have := h.nil i xs hp; subst this; simp at hpos
 | some k =>
  obtain ⟨h1, h2, h3⟩ := h.row i k xs hp
  refine ⟨k, fun Γ hg => ⟨g, hg, _, T, _, h.out, fun j hj => ?_⟩, h2, fun g' ys hA hl ho => ?_⟩
  ·have : j = 0 := by simp at hj; exact hj
   subst this
   simp [hp, gcell]
  ·have hset : ∀ j, (ps.set i (some k, ys))[j]? = if i = j then some (some k, ys) else ps[j]? := fun j => by
    rw [List.getElem?_set]
    by_cases e : i = j
    ·subst e; simp [hi']
    ·simp [e]
   refine ⟨ps.set i (some k, ys), ⟨?_, ?_, ?_, ?_, by simpa using h.short⟩, by simp [List.map_set]⟩
   ·rw [ho b (fun q => h1 q.symm), h.out]
    congr 3
    apply List.ext_getElem?
    intro j
    rw [List.getElem?_map, List.getElem?_map, hset]
    by_cases e : i = j
    ·subst e
     simp [hp, gcell, hl]
    ·simp [e]
   ·intro j m zs hj
    rw [hset] at hj
    by_cases e : i = j
    ·subst e
     simp only [if_true, Option.some.injEq, Prod.mk.injEq] at hj
     obtain ⟨rfl, rfl⟩ := hj
     exact ⟨h1, hA, by omega⟩
    ·rw [if_neg e] at hj
     obtain ⟨q1, q2, q3⟩ := h.row j m zs hj
     have hm : m ≠ k := fun q => by subst q; exact e (h.apart i j m xs zs hp hj)
     exact ⟨q1, by rw [ho m hm]; exact q2, q3⟩
   ·intro j zs hj
    rw [hset] at hj
    by_cases e : i = j
    ·subst e; simp at hj
    ·rw [if_neg e] at hj; exact h.nil j zs hj
   ·intro j j' m zs zs' hj hj'
    rw [hset] at hj hj'
    by_cases e : i = j
    ·subst e
     simp only [if_true, Option.some.injEq, Prod.mk.injEq] at hj
     obtain ⟨rfl, rfl⟩ := hj
     by_cases e' : i = j'
     ·exact e'
     ·rw [if_neg e'] at hj'
      exact h.apart i j' k xs zs' hp hj'
    ·rw [if_neg e] at hj
     by_cases e' : i = j'
     ·subst e'
      simp only [if_true, Option.some.injEq, Prod.mk.injEq] at hj'
      obtain ⟨rfl, rfl⟩ := hj'
      exact h.apart j i k zs xs hj hp
     ·rw [if_neg e'] at hj'
      exact h.apart j j' m zs zs' hj hj'
/-- a new row, whose array lies elsewhere, is put in -/
theorem Grid.put {g : PH} {b : Nat} {T e : TypeId} {rows : List (List α)} (h : Grid g b T e rows) {i : Nat} (hi : i < rows.length) (k : Nat) (xs : List α) (hl : xs.length ≤ 1000000) {cs : List Value} (hc : g b = some (.cells cs.toArray T (0, 0)))
  {x2 G : PH} (hA : Arr x2 k e xs) (hd : Disj x2 (upd g b (.cells (setC cs i 1 (.slice (some ⟨k, 0, none⟩) xs.length xs.length)).toArray T))) (hG : Mem.le (lk [x2, upd g b (.cells (setC cs i 1 (.slice (some ⟨k, 0, none⟩) xs.length xs.length)).toArray T)]) (lk [G])) :
  Grid G b T e (rows.set i xs) := by
 obtain ⟨ps, h, rfl⟩ := h
 have hi' : i < ps.length := by simpa using hi
 have hcs : cs = ps.map gcell := by
  have := h.out
  rw [hc] at this
  simpa using this
 subst hcs
 have up1 : ∀ j o, x2 j = some o → G j = some o := fun j o q => lk_one.1 (hG _ _ ⟨x2, by simp, q⟩)
 have up2 : ∀ j o, upd g b (.cells (setC (ps.map gcell) i 1 (.slice (some ⟨k, 0, none⟩) xs.length xs.length)).toArray T) j = some o → G j = some o := fun j o q => lk_one.1 (hG _ _ ⟨_, by simp, q⟩)
 have hkg : ∀ j, j = b ∨ g j ≠ none → j ≠ k := fun j hj q => by
  subst q
  rcases hd j with q | q
  ·rw [Arr] at hA; rw [hA] at q; cases q
  ·rcases hj with rfl | hj
   ·rw [upd_self] at q; cases q
   ·by_cases e : j = b
    ·subst e; rw [upd_self] at q; cases q
    ·rw [upd_other e] at q; exact hj q
 have hset : ∀ j, (ps.set i (some k, xs))[j]? = if i = j then some (some k, xs) else ps[j]? := fun j => by
  rw [List.getElem?_set]
  by_cases e : i = j
  ·subst e; simp [hi']
  ·simp [e]
 refine ⟨ps.set i (some k, xs), ⟨?_, ?_, ?_, ?_, by simpa using h.short⟩, by simp [List.map_set]⟩
 ·rw [up2 b _ (upd_self _ _ _)]
  congr 3
  rw [List.map_set, List.set_eq_take_append_cons_drop, if_pos (by simpa using hi')]
  simp [setC, cellsV, gcell, Value.cells]
 ·intro j m zs hj
  rw [hset] at hj
  by_cases e : i = j
  ·subst e
   simp only [if_true, Option.some.injEq, Prod.mk.injEq] at hj
   obtain ⟨rfl, rfl⟩ := hj
   exact ⟨fun q => hkg b (.inl rfl) q.symm, up1 _ _ hA, hl⟩
  ·rw [if_neg e] at hj
   obtain ⟨q1, q2, q3⟩ := h.row j m zs hj
   exact ⟨q1, up2 _ _ (by rw [upd_other q1]; exact q2), q3⟩
 ·intro j zs hj
  rw [hset] at hj
  by_cases e : i = j
  ·subst e; simp at hj
  ·rw [if_neg e] at hj; exact h.nil j zs hj
 ·intro j j' m zs zs' hj hj'
  rw [hset] at hj hj'
  by_cases e : i = j
  ·subst e
   simp only [if_true, Option.some.injEq, Prod.mk.injEq] at hj
   obtain ⟨rfl, rfl⟩ := hj
   by_cases e' : i = j'
   ·exact e'
   ·rw [if_neg e'] at hj'
    have := (h.row j' k zs' hj').2.1
    exact absurd rfl (hkg k (.inr (by rw [this]; simp)))
  ·rw [if_neg e] at hj
   by_cases e' : i = j'
   ·subst e'
    simp only [if_true, Option.some.injEq, Prod.mk.injEq] at hj'
    obtain ⟨rfl, rfl⟩ := hj'
    have := (h.row j k zs hj).2.1
    exact absurd rfl (hkg k (.inr (by rw [this]; simp)))
   ·rw [if_neg e'] at hj'
    exact h.apart j j' m zs zs' hj hj'
end
section
variable {P : Program} {Γr : Ctx} {d : Option Nat} {r : List SOper} {φ : Fr} {Γ : Ctx} {K : Fr → Ctx → Prop}
end
/- Keys that are structs or arrays of whole numbers; no condition. -/
/-- a struct of n fields of type e, or an array of n -/
def intsKey (P : Program) (k e n : Nat) : Bool := match P.underlying k with
 | some (.struct fs) => fs.toList.map (fun f => (f.offset, f.type)) == (List.range n).map (fun i => (i, e)) && fs.all (·.name != "_")
 | some (.array m t) => m == n && t == e
 | _ => false
def intsV (xs : List Int) : Value := .agg (xs.map (Value.int .i64)).toArray
theorem intsV_inj (a b : List Int) (h : intsV a = intsV b) : a = b := by
 simp only [intsV, Value.agg.injEq] at h
 have := congrArg Array.toList h
 simp only [List.toList_toArray] at this
 exact (List.map_inj_right (fun x y q => by simpa using q)).1 this
def okInts (n : Nat) (xs : List Int) : Prop := xs.length = n ∧ ∀ x ∈ xs, (Lit.int .i64 x).wf = true
theorem key_ints {P : Program} {k e n : Nat} (hk : intsKey P k e n = true) (hc : P.cellsOf k = n) (he : P.underlying e = some (.int .i64)) (hce : P.cellsOf e = 1) (hkt : P.keyType k = true) (hsz : 1 ≤ P.types.size) {xs : List Int} (hx : okInts n xs) : ∃ l, keyOf P k (intsV xs) = some l := by
 obtain ⟨m, hm⟩ : ∃ m, P.types.size = m + 1 := ⟨P.types.size - 1, by omega⟩
 obtain ⟨hl, hw⟩ := hx
 have hone : ∀ i, i < n → ∃ y, P.keyLits (m + 1) e (((xs.map (Value.int .i64)).drop i).take (P.cellsOf e)) = some y := by
  intro i hi
  have : ((xs.map (Value.int .i64)).drop i).take (P.cellsOf e) = [.int .i64 xs[i]] := by
   rw [hce, List.drop_eq_getElem_cons (by simpa using (by omega : i < xs.length))]
   simp
  rw [this]
  unfold Program.keyLits
  simp only [he]
  exact ⟨_, if_pos ⟨trivial, hw _ (List.getElem_mem _)⟩⟩
 unfold keyOf
 unfold intsKey at hk
 split at hk
 ·rename_i fs hu
  simp only [Bool.and_eq_true, beq_iff_eq] at hk
  simp only [hu]
  rw [if_pos (by simp [hkt, intsV, Value.formed, hu, hc, hl]), hm]
  unfold Program.keyLits
  simp only [hu, intsV, Value.cells, List.toList_toArray]
  rw [if_pos ⟨by simp [hc, hl], hk.2⟩]
  have : ∃ r, (fs.toList.mapM fun f => P.keyLits (m + 1) f.type (((xs.map (Value.int .i64)).drop f.offset).take (P.cellsOf f.type))) = some r := by
   refine MapFrom.mapM_some fun f hf => ?_
   have : (f.offset, f.type) ∈ (List.range n).map (fun i => (i, e)) := by rw [← hk.1]; exact List.mem_map.2 ⟨f, hf, rfl⟩
   obtain ⟨i, hi, h⟩ := List.mem_map.1 this
   simp only [Prod.mk.injEq] at h
   rw [← h.1, ← h.2]
   exact hone i (by simpa using hi)
  obtain ⟨r, hr⟩ := this
  rw [hr]
  exact ⟨_, rfl⟩
 ·rename_i m' t hu
  simp only [Bool.and_eq_true, beq_iff_eq] at hk
  obtain ⟨rfl, rfl⟩ := hk
  simp only [hu]
  rw [if_pos (by simp [hkt, intsV, Value.formed, hu, hc, hl]), hm]
  unfold Program.keyLits
  simp only [hu, intsV, Value.cells, List.toList_toArray]
  rw [if_pos (by simp [hc, hl])]
  have : ∃ r, ((List.range m').mapM fun i => P.keyLits (m + 1) t (((xs.map (Value.int .i64)).drop (i * P.cellsOf t)).take (P.cellsOf t))) = some r := by
   refine MapFrom.mapM_some fun i hi => ?_
   rw [show i * P.cellsOf t = i by rw [hce, Nat.mul_one]]
   exact hone i (by simpa using hi)
  obtain ⟨r, hr⟩ := this
  rw [hr]
  exact ⟨_, rfl⟩
 ·cases hk
theorem kt_ints {P : Program} {k e n : Nat} (hl : laidOutB P = true) (hs : P.types.size + 2 ≤ 10000) (hr : k < P.types.size) (hk : intsKey P k e n = true) (hc : P.cellsOf k = n) (he : P.underlying e = some (.int .i64)) (hce : P.cellsOf e = 1) (hkt : P.keyType k = true)
  (hw : (match P.underlying k with | some (.array _ _) | some (.struct _) => true | _ => false) = true) : KT P k intsV (okInts n) :=
 KT.of (Maps.Keyed.of_law (deep_law_gate hl hs hr hkt hw)) intsV_inj fun xs hx => key_ints hk hc he hce hkt (by omega) hx
theorem wf64 {x : Int} (h0 : -9223372036854775808 ≤ x) (h1 : x ≤ 9223372036854775807) : (Lit.int .i64 x).wf = true := by
 have h2 : IntKind.i64.min = -9223372036854775808 := by decide
 have h3 : IntKind.i64.max = 9223372036854775807 := by decide
 simp only [Lit.wf, h2, h3, Bool.and_eq_true, decide_eq_true_eq]
 exact ⟨h0, h1⟩
/-- xs[k:] of a row -/
theorem Bld.drop {α : Type} [Rep α] {g : PH} {L : Mem} {e : TypeId} {A : Option Addr} {n c : Nat} {xs : List α} (h : Bld g L e (.slice A n c) xs) {k : Nat} (hk : k ≤ xs.length) :
  Bld g L e (.slice (if c = k then A else A.map (·.add (k * Rep.sz α))) (n - k) (c - k)) (xs.drop k) := by
 obtain ⟨cs, ⟨h1, h2⟩, h3⟩ := h
 have hkl : k * Rep.sz α ≤ xs.length * Rep.sz α := Nat.mul_le_mul_right _ hk
 have hl : (xs.drop k).length = xs.length - k := by simp
 have hmul : xs.length * Rep.sz α - k * Rep.sz α = (xs.length - k) * Rep.sz α := (Nat.sub_mul _ _ _).symm
 refine ⟨cs.drop (k * Rep.sz α), ⟨by rw [List.length_drop, h1, hl, hmul], ?_⟩, fun i x hi => ?_⟩
 ·rcases h2 with ⟨q0, A', q⟩ | ⟨b, o, cap, cur, q1, q2, q3, q4, q5, q6⟩
  ·left
   simp only [Value.slice.injEq] at q
   obtain ⟨rfl, rfl, rfl⟩ := q
   have : k = 0 := by omega
   subst this
   exact ⟨by rw [hl]; omega, A, by simp⟩
  ·simp only [Value.slice.injEq] at q1
   obtain ⟨rfl, rfl, rfl⟩ := q1
   by_cases e1 : cap + 1 = k
   ·left
    refine ⟨by rw [hl]; omega, some ⟨b, o, none⟩, ?_⟩
    rw [if_pos e1, show xs.length - k = 0 by omega, show cap + 1 - k = 0 by omega]
   ·right
    rw [if_neg e1, hl]
    have hm2 : (cap - k + 1) * Rep.sz α + k * Rep.sz α = (cap + 1) * Rep.sz α := by rw [← Nat.add_mul]; congr 1; omega
    refine ⟨b, o + k * Rep.sz α, cap - k, cur, by rw [Option.map_some, add_mk, show cap + 1 - k = cap - k + 1 by omega], by omega, by omega, q4, by omega, ?_⟩
    rw [← q6, List.drop_take, List.drop_drop, hmul]
 ·rw [List.getElem?_drop] at hi
  obtain ⟨c', r1, r2⟩ := h3 (k + i) x hi
  refine ⟨c', r1, fun j hj => ?_⟩
  rw [← r2 j hj, List.getElem?_drop]
  congr 1
  rw [Nat.add_mul]
  omega
/- The text of parlance/dfa.Check as a statement; no condition. -/
def S149_1 : Stmt :=
 .seq
 (.region [oq 38 (.ibin .lss (.tmp 37) (.tmp 36))] [1,3,35,36,37,38])
 (.seq (.cond (.tmp 38) .skip (.exit 0))
 (.seq
 (.block 1
 (.seq
 (.region
 [oq 39 (.idx 1 (.tmp 35) (.tmp 37)),
 oq 40 (.load false 1 (.tmp 39)),
 oq 5 (.mv (.tmp 40))]
 [1,3,5,35,36,37])
 (.seq
 (.region
 [oq 41 (.mv (.tmp 5)),
 oq 42 (.len false (.tmp 41)),
 oq 43 (.mv (.tmp 3)),
 oq 44 (.ibin .neq (.tmp 42) (.tmp 43)),
 oq 45 (.mv (.tmp 44)),
 .mk (some 46) (some (45,false)) (.mv (.tmp 3)),
 .mk (some 47) (some (45,false))
 (.ibin .eql (.tmp 46) (.const (.int .i64 0))),
 oq 48 (.pick (.tmp 45) (.const (.bool true)) (.tmp 47))]
 [1,3,35,36,37,48])
 (.cond (.tmp 48)
 (.seq (.region [oq 2 (.mv (.const (.int .i64 3)))] [2])
 .ret)
 .skip))))
 (.region
 [oq 49 (.ibin .add (.tmp 37) (.const (.int .i64 1))),
 oq 37 (.mv (.tmp 49))]
 [1,3,35,36,37])))
def S149_2 : Stmt :=
 .seq
 (.region [oq 78 (.ibin .lss (.tmp 77) (.tmp 76))]
 [1,62,63,64,75,76,77,78])
 (.seq (.cond (.tmp 78) .skip (.exit 4))
 (.seq
 (.block 5
 (.seq
 (.region
 [oq 79 (.idx 1 (.tmp 75) (.tmp 77)),
 oq 80 (.load false 1 (.tmp 79)),
 oq 9 (.mv (.tmp 80))]
 [1,9,62,63,64,75,76,77])
 (.seq
 (.region
 [oq 81 (.mv (.tmp 9)),
 .mk (some 82) none
 (.ibin .lss (.tmp 81) (.const (.int .i64 (-1)))),
 oq 83 (.mv (.tmp 82)),
 .mk (some 84) (some (83,false)) (.mv (.tmp 9)),
 .mk (some 85) (some (83,false)) (.fld 2 (.tmp 1)),
 .mk (some 86) (some (83,false)) (.load false 1 (.tmp 85)),
 .mk (some 87) (some (83,false)) (.len false (.tmp 86)),
 .mk (some 88) (some (83,false)) (.ibin .geq (.tmp 84) (.tmp 87)),
 oq 89 (.pick (.tmp 83) (.const (.bool true)) (.tmp 88))]
 [1,62,63,64,75,76,77,89])
 (.cond (.tmp 89)
 (.seq (.region [oq 2 (.mv (.const (.int .i64 1)))] [2])
 .ret)
 .skip))))
 (.region
 [oq 90 (.ibin .add (.tmp 77) (.const (.int .i64 1))),
 oq 77 (.mv (.tmp 90))]
 [1,62,63,64,75,76,77])))
def S149_3 : Stmt :=
 .seq
 (.region [oq 65 (.ibin .lss (.tmp 64) (.tmp 63))] [1,62,63,64,65])
 (.seq (.cond (.tmp 65) .skip (.exit 2))
 (.seq
 (.block 3
 (.seq
 (.region
 [oq 66 (.mv (.tmp 64)),
 oq 67 (.idx 1 (.tmp 62) (.tmp 64)),
 oq 68 (.load false 1 (.tmp 67)),
 oq 6 (.mv (.tmp 66)),oq 7 (.mv (.tmp 68))]
 [1,6,7,62,63,64])
 (.seq
 (.seq
 (.region
 [oq 69 (.fld 1 (.tmp 1)),
 oq 70 (.load false 1 (.tmp 69)),
 oq 71 (.mv (.tmp 6)),
 oq 72 (.idx 1 (.tmp 70) (.tmp 71)),
 oq 73 (.load false 1 (.tmp 72)),
 .mk (some 74) none
 (.ibin .lss (.tmp 73) (.const (.int .i64 (-1))))]
 [1,7,62,63,64,74])
 (.cond (.tmp 74)
 (.seq (.region [oq 2 (.mv (.const (.int .i64 1)))] [2])
 .ret)
 .skip))
 (.seq
 (.region
 [oq 75 (.mv (.tmp 7)),
 oq 76 (.len false (.tmp 75)),
 oq 77 (.mv (.const (.int .i64 0)))]
 [1,62,63,64,75,76,77])
 (.block 4 (.loop S149_2 [77] [1,62,63,64,75,76]))))))
 (.region
 [oq 91 (.ibin .add (.tmp 64) (.const (.int .i64 1))),
 oq 64 (.mv (.tmp 91))]
 [1,62,63,64])))
def S149_0 : Stmt :=
 .seq
 (.region
 [oq 1 (.box true 94 (.tmp 0)),
 oq 2 (.mv (.const (.int .i64 0)))]
 [1])
 (.seq
 (.seq
 (.region
 [oq 10 (.fld 2 (.tmp 1)),
 oq 11 (.load false 1 (.tmp 10)),
 oq 12 (.len false (.tmp 11)),
 oq 13 (.ibin .gtr (.tmp 12) (.const (.int .i64 200)))]
 [1,13])
 (.cond (.tmp 13)
 (.seq (.region [oq 2 (.mv (.const (.int .i64 2)))] [2])
 .ret)
 .skip))
 (.seq
 (.seq
 (.region
 [oq 14 (.fld 2 (.tmp 1)),
 oq 15 (.load false 1 (.tmp 14)),
 oq 16 (.len false (.tmp 15)),
 oq 17 (.ibin .eql (.tmp 16) (.const (.int .i64 0))),
 oq 18 (.mv (.tmp 17)),
 .mk (some 19) (some (18,false)) (.fld 1 (.tmp 1)),
 .mk (some 20) (some (18,false)) (.load false 1 (.tmp 19)),
 .mk (some 21) (some (18,false)) (.len false (.tmp 20)),
 .mk (some 22) (some (18,false)) (.fld 2 (.tmp 1)),
 .mk (some 23) (some (18,false)) (.load false 1 (.tmp 22)),
 .mk (some 24) (some (18,false)) (.len false (.tmp 23)),
 .mk (some 25) (some (18,false)) (.ibin .neq (.tmp 21) (.tmp 24)),
 oq 26 (.pick (.tmp 18) (.const (.bool true)) (.tmp 25))]
 [1,26])
 (.cond (.tmp 26)
 (.seq (.region [oq 2 (.mv (.const (.int .i64 3)))] [2])
 .ret)
 .skip))
 (.seq
 (.region
 [oq 27 (.fld 2 (.tmp 1)),
 oq 28 (.load false 1 (.tmp 27)),
 oq 29 (.idx 1 (.tmp 28) (.const (.int .i64 0))),
 oq 30 (.load false 1 (.tmp 29)),
 oq 31 (.len false (.tmp 30)),oq 3 (.mv (.tmp 31))]
 [1,3])
 (.seq
 (.seq
 (.region
 [oq 32 (.mv (.tmp 3)),
 .mk (some 33) none
 (.ibin .gtr (.tmp 32) (.const (.int .i64 16)))]
 [1,3,33])
 (.cond (.tmp 33)
 (.seq (.region [oq 2 (.mv (.const (.int .i64 2)))] [2])
 .ret)
 .skip))
 (.seq
 (.seq
 (.region
 [oq 34 (.fld 2 (.tmp 1)),
 oq 35 (.load false 1 (.tmp 34)),
 oq 36 (.len false (.tmp 35)),
 oq 37 (.mv (.const (.int .i64 0)))]
 [1,3,35,36,37])
 (.block 0 (.loop S149_1 [37] [1,3,35,36])))
 (.seq
 (.seq
 (.region
 [oq 50 (.fld 0 (.tmp 1)),
 oq 51 (.load false 1 (.tmp 50)),
 .mk (some 52) none
 (.ibin .lss (.tmp 51) (.const (.int .i64 0))),
 oq 53 (.mv (.tmp 52)),
 .mk (some 54) (some (53,false)) (.fld 0 (.tmp 1)),
 .mk (some 55) (some (53,false)) (.load false 1 (.tmp 54)),
 .mk (some 56) (some (53,false)) (.fld 2 (.tmp 1)),
 .mk (some 57) (some (53,false)) (.load false 1 (.tmp 56)),
 .mk (some 58) (some (53,false)) (.len false (.tmp 57)),
 .mk (some 59) (some (53,false)) (.ibin .geq (.tmp 55) (.tmp 58)),
 .mk (some 60) none
 (.pick (.tmp 53) (.const (.bool true)) (.tmp 59))]
 [1,60])
 (.cond (.tmp 60)
 (.seq
 (.region [oq 2 (.mv (.const (.int .i64 1)))] [2])
 .ret)
 .skip))
 (.seq
 (.seq
 (.region
 [oq 61 (.fld 2 (.tmp 1)),
 oq 62 (.load false 1 (.tmp 61)),
 oq 63 (.len false (.tmp 62)),
 oq 64 (.mv (.const (.int .i64 0)))]
 [1,62,63,64])
 (.block 2 (.loop S149_3 [64] [1,62,63])))
 (.seq (.region [oq 2 (.mv (.const (.int .i64 0)))] [2])
 .ret))))))))
def S149 : FnS := ⟨92,[(2,none)],S149_0⟩
theorem tr149 : trFn Try.prog 149 [1] [[1],[1,13],[2],[1,26],[2],[1,3],[1,3,33],[2],[1,3,35,36,37],[37],[1,3,35,36],[1,3,35,36,37,38],[1,3,5,35,36,37],[1,3,35,36,37,48],[2],[1,3,35,36,37],[1,60],[2],[1,62,63,64],[64],[1,62,63],[1,62,63,64,65],[1,6,7,62,63,64],[1,7,62,63,64,74],[2],[1,62,63,64,75,76,77],[77],[1,62,63,64,75,76],[1,62,63,64,75,76,77,78],[1,9,62,63,64,75,76,77],[1,62,63,64,75,76,77,89],[2],[1,62,63,64,75,76,77],[1,62,63,64],[2]] = some S149 := by kernel_rfl
/- The text of parlance/parlref5.DfaFault as a statement; no condition. -/
def S135_1 : Stmt :=
 .seq
 (.region [oq 78 (.ibin .lss (.tmp 77) (.tmp 76))]
 [1,3,46,47,48,75,76,77,78])
 (.seq (.cond (.tmp 78) .skip (.exit 3))
 (.seq
 (.block 4
 (.seq
 (.region
 [oq 79 (.idx 1 (.tmp 75) (.tmp 77)),
 oq 80 (.load false 1 (.tmp 79)),
 oq 7 (.mv (.tmp 80))]
 [1,3,7,46,47,48,75,76,77])
 (.region
 [oq 81 (.mv (.tmp 3)),oq 82 (.mv (.tmp 81)),
 .mk (some 83) (some (82,false)) (.mv (.tmp 7)),
 .mk (some 84) (some (82,false))
 (.ibin .lss (.tmp 83) (.const (.int .i64 (-1)))),
 oq 85 (.pick (.tmp 82) (.const (.bool true)) (.tmp 84)),
 oq 86 (.mv (.tmp 85)),
 .mk (some 87) (some (86,false)) (.mv (.tmp 7)),
 .mk (some 88) (some (86,false)) (.fld 2 (.tmp 1)),
 .mk (some 89) (some (86,false)) (.load false 1 (.tmp 88)),
 .mk (some 90) (some (86,false)) (.len false (.tmp 89)),
 .mk (some 91) (some (86,false)) (.ibin .geq (.tmp 87) (.tmp 90)),
 oq 92 (.pick (.tmp 86) (.const (.bool true)) (.tmp 91)),
 oq 3 (.mv (.tmp 92))]
 [1,3,46,47,48,75,76,77])))
 (.region
 [oq 93 (.ibin .add (.tmp 77) (.const (.int .i64 1))),
 oq 77 (.mv (.tmp 93))]
 [1,3,46,47,48,75,76,77])))
def S135_2 : Stmt :=
 .seq
 (.region [oq 49 (.ibin .lss (.tmp 48) (.tmp 47))] [1,3,46,47,48,49])
 (.seq (.cond (.tmp 49) .skip (.exit 1))
 (.seq
 (.block 2
 (.seq
 (.region
 [oq 50 (.mv (.tmp 48)),
 oq 51 (.idx 1 (.tmp 46) (.tmp 48)),
 oq 52 (.load false 1 (.tmp 51)),
 oq 4 (.mv (.tmp 50)),oq 5 (.mv (.tmp 52))]
 [1,3,4,5,46,47,48])
 (.seq
 (.seq
 (.region
 [oq 53 (.mv (.tmp 5)),
 oq 54 (.len false (.tmp 53)),
 oq 55 (.fld 2 (.tmp 1)),
 oq 56 (.load false 1 (.tmp 55)),
 oq 57 (.idx 1 (.tmp 56) (.const (.int .i64 0))),
 oq 58 (.load false 1 (.tmp 57)),
 oq 59 (.len false (.tmp 58)),
 oq 60 (.ibin .neq (.tmp 54) (.tmp 59)),
 oq 61 (.mv (.tmp 60)),
 .mk (some 62) (some (61,false)) (.mv (.tmp 5)),
 .mk (some 63) (some (61,false)) (.len false (.tmp 62)),
 .mk (some 64) (some (61,false))
 (.ibin .eql (.tmp 63) (.const (.int .i64 0))),
 .mk (some 65) none
 (.pick (.tmp 61) (.const (.bool true)) (.tmp 64))]
 [1,3,4,5,46,47,48,65])
 (.cond (.tmp 65)
 (.seq (.region [oq 2 (.mv (.const (.int .i64 3)))] [2])
 .ret)
 .skip))
 (.seq
 (.region
 [oq 66 (.mv (.tmp 3)),oq 67 (.mv (.tmp 66)),
 .mk (some 68) (some (67,false)) (.fld 1 (.tmp 1)),
 .mk (some 69) (some (67,false)) (.load false 1 (.tmp 68)),
 .mk (some 70) (some (67,false)) (.mv (.tmp 4)),
 .mk (some 71) (some (67,false)) (.idx 1 (.tmp 69) (.tmp 70)),
 .mk (some 72) (some (67,false)) (.load false 1 (.tmp 71)),
 .mk (some 73) (some (67,false))
 (.ibin .lss (.tmp 72) (.const (.int .i64 (-1)))),
 .mk (some 74) none
 (.pick (.tmp 67) (.const (.bool true)) (.tmp 73)),
 oq 3 (.mv (.tmp 74))]
 [1,3,5,46,47,48])
 (.seq
 (.region
 [oq 75 (.mv (.tmp 5)),
 oq 76 (.len false (.tmp 75)),
 oq 77 (.mv (.const (.int .i64 0)))]
 [1,3,46,47,48,75,76,77])
 (.block 3 (.loop S135_1 [3,77] [1,46,47,48,75,76])))))))
 (.region
 [oq 94 (.ibin .add (.tmp 48) (.const (.int .i64 1))),
 oq 48 (.mv (.tmp 94))]
 [1,3,46,47,48])))
def S135_0 : Stmt :=
 .seq
 (.region
 [oq 1 (.box true 94 (.tmp 0)),
 oq 2 (.mv (.const (.int .i64 0)))]
 [1])
 (.seq
 (.block 0
 (.seq
 (.region
 [oq 9 (.fld 2 (.tmp 1)),
 oq 10 (.load false 1 (.tmp 9)),
 oq 11 (.len false (.tmp 10)),
 oq 12 (.ibin .gtr (.tmp 11) (.const (.int .i64 200))),
 oq 8 (.mv (.tmp 12))]
 [1,8])
 (.cond (.tmp 8)
 (.seq (.region [oq 2 (.mv (.const (.int .i64 2)))] [2])
 .ret)
 (.seq
 (.region
 [oq 14 (.fld 2 (.tmp 1)),
 oq 15 (.load false 1 (.tmp 14)),
 oq 16 (.len false (.tmp 15)),
 oq 17 (.ibin .eql (.tmp 16) (.const (.int .i64 0))),
 oq 18 (.mv (.tmp 17)),
 .mk (some 19) (some (18,false)) (.fld 1 (.tmp 1)),
 .mk (some 20) (some (18,false)) (.load false 1 (.tmp 19)),
 .mk (some 21) (some (18,false)) (.len false (.tmp 20)),
 .mk (some 22) (some (18,false)) (.fld 2 (.tmp 1)),
 .mk (some 23) (some (18,false)) (.load false 1 (.tmp 22)),
 .mk (some 24) (some (18,false)) (.len false (.tmp 23)),
 .mk (some 25) (some (18,false)) (.ibin .neq (.tmp 21) (.tmp 24)),
 oq 26 (.pick (.tmp 18) (.const (.bool true)) (.tmp 25)),
 oq 13 (.mv (.tmp 26))]
 [1,13])
 (.cond (.tmp 13)
 (.seq (.region [oq 2 (.mv (.const (.int .i64 3)))] [2])
 .ret)
 (.seq
 (.region
 [oq 28 (.fld 2 (.tmp 1)),
 oq 29 (.load false 1 (.tmp 28)),
 oq 30 (.idx 1 (.tmp 29) (.const (.int .i64 0))),
 oq 31 (.load false 1 (.tmp 30)),
 oq 32 (.len false (.tmp 31)),
 .mk (some 33) none
 (.ibin .gtr (.tmp 32) (.const (.int .i64 16))),
 oq 27 (.mv (.tmp 33))]
 [1,27])
 (.cond (.tmp 27)
 (.seq
 (.region [oq 2 (.mv (.const (.int .i64 2)))] [2])
 .ret)
 .skip)))))))
 (.seq
 (.region
 [oq 34 (.fld 0 (.tmp 1)),
 oq 35 (.load false 1 (.tmp 34)),
 oq 36 (.ibin .lss (.tmp 35) (.const (.int .i64 0))),
 oq 37 (.mv (.tmp 36)),
 .mk (some 38) (some (37,false)) (.fld 0 (.tmp 1)),
 .mk (some 39) (some (37,false)) (.load false 1 (.tmp 38)),
 .mk (some 40) (some (37,false)) (.fld 2 (.tmp 1)),
 .mk (some 41) (some (37,false)) (.load false 1 (.tmp 40)),
 .mk (some 42) (some (37,false)) (.len false (.tmp 41)),
 .mk (some 43) (some (37,false)) (.ibin .geq (.tmp 39) (.tmp 42)),
 oq 44 (.pick (.tmp 37) (.const (.bool true)) (.tmp 43)),
 oq 3 (.mv (.tmp 44))]
 [1,3])
 (.seq
 (.seq
 (.region
 [oq 45 (.fld 2 (.tmp 1)),
 oq 46 (.load false 1 (.tmp 45)),
 oq 47 (.len false (.tmp 46)),
 oq 48 (.mv (.const (.int .i64 0)))]
 [1,3,46,47,48])
 (.block 1 (.loop S135_2 [3,48] [1,46,47])))
 (.seq
 (.seq (.region [oq 95 (.mv (.tmp 3))] [95])
 (.cond (.tmp 95)
 (.seq (.region [oq 2 (.mv (.const (.int .i64 1)))] [2])
 .ret)
 .skip))
 (.seq (.region [oq 2 (.mv (.const (.int .i64 0)))] [2])
 .ret)))))
def S135 : FnS := ⟨96,[(2,none)],S135_0⟩
theorem tr135 : trFn Try.prog 135 [1] [[1],[1,8],[2],[1,13],[2],[1,27],[2],[1,3],[1,3,46,47,48],[3,48],[1,46,47],[1,3,46,47,48,49],[1,3,4,5,46,47,48],[1,3,4,5,46,47,48,65],[2],[1,3,5,46,47,48],[1,3,46,47,48,75,76,77],[3,77],[1,46,47,48,75,76],[1,3,46,47,48,75,76,77,78],[1,3,7,46,47,48,75,76,77],[1,3,46,47,48,75,76,77],[1,3,46,47,48,75,76,77],[1,3,46,47,48],[95],[2],[2]] = some S135 := by kernel_rfl
/- Automata: dfa.Check, dfa.Run, parlref5.DfaFault, parlref5.Ends walked; no condition. -/
def colsD (d : Da) : Nat := (d.nx.headD []).length
/-- what is wrong with an automaton -/
def dfF (d : Da) : Int :=
 if 200 < d.nx.length then 2
 else if d.nx.length = 0 ∨ d.ac.length ≠ d.nx.length then 3
 else if 16 < colsD d then 2
 else if ∃ r ∈ d.nx, r.length ≠ colsD d ∨ colsD d = 0 then 3
 else if d.st < 0 ∨ (d.nx.length : Int) ≤ d.st ∨ (∃ x ∈ d.ac, x < -1) ∨ (∃ r ∈ d.nx, ∃ t ∈ r, t < -1 ∨ (d.nx.length : Int) ≤ t) then 1 else 0
/-- an automaton that is accepted -/
structure VD (d : Da) : Prop where
 len : 1 ≤ d.nx.length ∧ d.nx.length ≤ 200
 acc : d.ac.length = d.nx.length
 cols : 1 ≤ colsD d ∧ colsD d ≤ 16
 row : ∀ r ∈ d.nx, r.length = colsD d
 st : 0 ≤ d.st ∧ d.st < d.nx.length
 ac : ∀ x ∈ d.ac, -1 ≤ x
 to : ∀ r ∈ d.nx, ∀ t ∈ r, -1 ≤ t ∧ t < d.nx.length
theorem dfF_ok {d : Da} (h : dfF d = 0) : VD d := by
 unfold dfF at h
 split at h
 ·cases h
 rename_i h1
 split at h
 ·cases h
 rename_i h2
 split at h
 ·cases h
 rename_i h3
 split at h
 ·cases h
 rename_i h4
 split at h
 ·cases h
 rename_i h5
 simp only [not_exists, not_and, not_or] at h4 h5
 have hr : ∀ r ∈ d.nx, r.length = colsD d ∧ colsD d ≠ 0 := fun r hr => by have := h4 r hr; omega
 have hc : colsD d ≠ 0 := by
  cases hn : d.nx with
  | nil => rw [hn] at h2; simp at h2
  | cons r l => exact (hr r (by simp [hn])).2
 exact ⟨by omega, by omega, by omega, fun r q => (hr r q).1, by omega, fun x q => by have := h5.2.2.1 x q; omega, fun r q t q' => by have := h5.2.2.2 r q t q'; omega⟩
theorem cols_at {d : Da} (h : 0 < d.nx.length) : d.nx[0].length = colsD d := by
 unfold colsD
 congr 1
 generalize d.nx = l at *
 cases l with
 | nil => simp at h
 | cons r l => rfl
section
variable {Γr : Ctx} {d : Da} {A B : Option Addr} {c e : Nat}
theorem dfa_check (hA : SlOk (lk Γr) A c d.ac) (hB : SlOk (lk Γr) B e d.nx) :
  Ret Try.prog 149 [.agg #[.int .i64 d.st, .slice A d.ac.length c, .slice B d.nx.length e]] Γr [] (fun v Γ => Γ = [] ∧ v = .int .i64 (dfF d)) := by
 generalize hR : (fun (v : Value) (Γ : Ctx) => Γ = [] ∧ v = Value.int .i64 (dfF d)) = R
 refine ret_of_vc tr149 (Nat.le_of_ble_eq_true rfl) ?_
 have hsB := hB.short
 have hsA := hA.short
 unfold dfF at hR
 simp -implicitDefEqProofs only [S149, S149_0, go_sem,zA,zB,zC,zD,zE,reduceCtorEq,↓reduceIte,zF,zG,zH,zI]
 intro b
 refine ⟨fun h => Up.here ?_, fun h1 => ?_⟩
 ·rw [if_pos (by omega)] at hR
  subst hR
  exact ⟨rfl, rfl⟩
 rw [if_neg (by omega)] at hR
 refine ⟨fun h => Up.here ?_, fun h2 => ?_⟩
 ·rw [if_pos (by omega)] at hR
  subst hR
  exact ⟨rfl, rfl⟩
 rw [if_neg (by omega)] at hR
 have hpos : 0 < d.nx.length := by omega
 obtain ⟨b1, o1, hB1, A1, c1, hr1, hc1⟩ := hB.list hpos
 have hcol := cols_at hpos
 rw [hcol] at hc1
 refine s_idx hB1 (by omega) (by omega) ?_
 simp -implicitDefEqProofs only [go_sem,zA,zB,zC,zD,zE,reduceCtorEq,↓reduceIte,zF,zG,zH,zI]
 refine s_ld0 (hc1 _ (lk_r _ _)) (by simp) (by simp) ?_
 simp -implicitDefEqProofs only [go_sem,zA,zB,zC,zD,zE,reduceCtorEq,↓reduceIte,zF,zG,zH,zI]
 refine ⟨fun h => Up.here ?_, fun h3 => ?_⟩
 ·rw [if_pos (by omega)] at hR
  subst hR
  exact ⟨rfl, rfl⟩
 rw [if_neg (by omega)] at hR
 refine s_loop (fun f vs Γ => Γ = [] ∧ ∃ k : Nat, vs = [.v true (.int .i64 k)] ∧ k + f = d.nx.length ∧ ∀ (j : Nat) (hj : j < d.nx.length), j < k → d.nx[j].length = colsD d ∧ colsD d ≠ 0) d.nx.length
  (Up.here ⟨rfl, 0, rfl, by omega, fun j _ h => by omega⟩) ?_
 rintro f vs Γ ⟨rfl, k, rfl, hkf, hok⟩
 simp -implicitDefEqProofs only [S149_1, go_sem,zA,zB,zC,zD,zE,reduceCtorEq,↓reduceIte,zF,zG,zH,zI]
 refine ⟨fun hlt => ?_, fun hge => ?_⟩
 ·have hk : k < d.nx.length := by omega
  obtain ⟨b2, o2, hB2, A2, c2, hr2, hc2⟩ := hB.list hk
  refine s_idx hB2 (by omega) (by omega) ?_
  simp -implicitDefEqProofs only [go_sem,zA,zB,zC,zD,zE,reduceCtorEq,↓reduceIte,zF,zG,zH,zI]
  refine s_ld0 (hc2 _ (lk_r _ _)) (by simp) (by simp) ?_
  simp -implicitDefEqProofs only [go_sem,zA,zB,zC,zD,zE,reduceCtorEq,↓reduceIte,zF,zG,zH,zI]
  refine ⟨fun h => Up.here ?_, fun h => ?_⟩
  ·rw [if_pos ⟨_, List.getElem_mem hk, by omega⟩] at hR
   subst hR
   exact ⟨rfl, rfl⟩
  ·simp (disch := omega) only [wrap_id]
   refine ⟨f - 1, by omega, Up.here ⟨rfl, k + 1, rfl, by omega, fun j hj h2 => ?_⟩⟩
   by_cases e : j = k
   ·subst e; omega
   ·exact hok j hj (by omega)
 have hk : k = d.nx.length := by omega
 have hrow : ∀ r ∈ d.nx, r.length = colsD d ∧ colsD d ≠ 0 := fun r hr => by
  obtain ⟨j, hj, rfl⟩ := List.getElem_of_mem hr
  exact hok j hj (by omega)
 rw [if_neg (by rintro ⟨r, hr, h⟩; have := hrow r hr; omega)] at hR
 have hc0 : 0 < colsD d := by have := hrow _ (List.getElem_mem hpos); omega
 refine ⟨fun h => Up.here ?_, fun h4 => ?_⟩
 ·rw [if_pos (by omega)] at hR
  subst hR
  exact ⟨rfl, rfl⟩
 refine s_loop (fun f vs Γ => Γ = [] ∧ ∃ k : Nat, vs = [.v true (.int .i64 k)] ∧ k + f = d.nx.length ∧ (∀ (j : Nat) (hj : j < d.ac.length), j < k → -1 ≤ d.ac[j]) ∧ ∀ (j : Nat) (hj : j < d.nx.length), j < k → ∀ t ∈ d.nx[j], -1 ≤ t ∧ t < d.nx.length) d.nx.length
  (Up.here ⟨rfl, 0, rfl, by omega, fun j _ h => by omega, fun j _ h => by omega⟩) ?_
 rintro f vs Γ ⟨rfl, k, rfl, hkf, hac, hto⟩
 simp -implicitDefEqProofs only [S149_3, go_sem,zA,zB,zC,zD,zE,reduceCtorEq,↓reduceIte,zF,zG,zH,zI]
 refine ⟨fun hlt => ?_, fun hge => ?_⟩
 ·have hk : k < d.nx.length := by omega
  have hka : k < d.ac.length := by omega
  obtain ⟨b2, o2, hB2, A2, c2, hr2, hc2⟩ := hB.list hk
  obtain ⟨b3, o3, hA3, hc3⟩ := hA.int hka
  refine s_idx hB2 (by omega) (by omega) ?_
  simp -implicitDefEqProofs only [go_sem,zA,zB,zC,zD,zE,reduceCtorEq,↓reduceIte,zF,zG,zH,zI]
  refine s_ld0 (hc2 _ (lk_r _ _)) (by simp) (by simp) ?_
  simp -implicitDefEqProofs only [go_sem,zA,zB,zC,zD,zE,reduceCtorEq,↓reduceIte,zF,zG,zH,zI]
  refine s_idx hA3 (by omega) (by omega) ?_
  simp -implicitDefEqProofs only [go_sem,zA,zB,zC,zD,zE,reduceCtorEq,↓reduceIte,zF,zG,zH,zI]
  refine s_ld0 (hc3 _ (lk_r _ _)) (by simp) (by simp) ?_
  simp -implicitDefEqProofs only [go_sem,zA,zB,zC,zD,zE,reduceCtorEq,↓reduceIte,zF,zG,zH,zI]
  refine ⟨fun h => Up.here ?_, fun h5 => ?_⟩
  ·rw [if_pos (.inr (.inr (.inl ⟨_, List.getElem_mem hka, by omega⟩)))] at hR
   subst hR
   exact ⟨rfl, rfl⟩
  have hrk := hrow _ (List.getElem_mem hk)
  refine s_loop (fun f2 vs Γ => Γ = [] ∧ ∃ m : Nat, vs = [.v true (.int .i64 m)] ∧ m + f2 = d.nx[k].length ∧ ∀ (j : Nat) (hj : j < d.nx[k].length), j < m → -1 ≤ d.nx[k][j] ∧ d.nx[k][j] < d.nx.length) d.nx[k].length
   (Up.here ⟨rfl, 0, rfl, by omega, fun j _ h => by omega⟩) ?_
  rintro f2 vs Γ ⟨rfl, m, rfl, hmf, hm⟩
  simp -implicitDefEqProofs only [S149_2, go_sem,zA,zB,zC,zD,zE,reduceCtorEq,↓reduceIte,zF,zG,zH,zI]
  refine ⟨fun hlt => ?_, fun hge => ?_⟩
  ·have hml : m < d.nx[k].length := by omega
   obtain ⟨b4, o4, hA4, hc4⟩ := hr2.int hml
   refine s_idx hA4 (by omega) (by omega) ?_
   simp -implicitDefEqProofs only [go_sem,zA,zB,zC,zD,zE,reduceCtorEq,↓reduceIte,zF,zG,zH,zI]
   refine s_ld0 (hc4 _ (lk_r _ _)) (by simp) (by simp) ?_
   simp -implicitDefEqProofs only [go_sem,zA,zB,zC,zD,zE,reduceCtorEq,↓reduceIte,zF,zG,zH,zI]
   refine ⟨fun h => Up.here ?_, fun h => ?_⟩
   ·rw [if_pos (.inr (.inr (.inr ⟨_, List.getElem_mem hk, _, List.getElem_mem hml, by omega⟩)))] at hR
    subst hR
    exact ⟨rfl, rfl⟩
   ·simp (disch := omega) only [wrap_id]
    refine ⟨f2 - 1, by omega, Up.here ⟨rfl, m + 1, rfl, by omega, fun j hj h2 => ?_⟩⟩
    by_cases e : j = m
    ·subst e; omega
    ·exact hm j hj (by omega)
  ·have hml : m = d.nx[k].length := by omega
   simp (disch := omega) only [wrap_id]
   refine ⟨f - 1, by omega, Up.here ⟨rfl, k + 1, rfl, by omega, fun j hj h2 => ?_, fun j hj h2 t ht => ?_⟩⟩
   ·by_cases e : j = k
    ·subst e; omega
    ·exact hac j hj (by omega)
   ·by_cases e : j = k
    ·subst e
     obtain ⟨i, hi, rfl⟩ := List.getElem_of_mem ht
     exact hm i hi (by omega)
    ·exact hto j hj (by omega) t ht
 ·have hk : k = d.nx.length := by omega
  refine Up.here ?_
  rw [if_neg ?_] at hR
  ·subst hR
   exact ⟨rfl, rfl⟩
  ·rintro (h | h | ⟨x, hx, h⟩ | ⟨r, hr, t, ht, h⟩)
   ·omega
   ·omega
   ·obtain ⟨j, hj, rfl⟩ := List.getElem_of_mem hx
    have := hac j hj (by omega)
    omega
   ·obtain ⟨j, hj, rfl⟩ := List.getElem_of_mem hr
    have := hto j hj (by omega) t ht
    omega
theorem ref_dfa (hA : SlOk (lk Γr) A c d.ac) (hB : SlOk (lk Γr) B e d.nx) :
  Ret Try.prog 135 [.agg #[.int .i64 d.st, .slice A d.ac.length c, .slice B d.nx.length e]] Γr [] (fun v Γ => Γ = [] ∧ v = .int .i64 (dfF d)) := by
 generalize hR : (fun (v : Value) (Γ : Ctx) => Γ = [] ∧ v = Value.int .i64 (dfF d)) = R
 refine ret_of_vc tr135 (Nat.le_of_ble_eq_true rfl) ?_
 have hsB := hB.short
 have hsA := hA.short
 unfold dfF at hR
 simp -implicitDefEqProofs only [S135, S135_0, go_sem,zA,zB,zC,zD,zE,reduceCtorEq,↓reduceIte,zF,zG,zH,zI]
 intro b
 refine ⟨fun h => Up.here ?_, fun h1 => ?_⟩
 ·rw [if_pos (by omega)] at hR
  subst hR
  exact ⟨rfl, rfl⟩
 rw [if_neg (by omega)] at hR
 refine ⟨fun h => Up.here ?_, fun h2 => ?_⟩
 ·rw [if_pos (by omega)] at hR
  subst hR
  exact ⟨rfl, rfl⟩
 rw [if_neg (by omega)] at hR
 have hpos : 0 < d.nx.length := by omega
 obtain ⟨b1, o1, hB1, A1, c1, hr1, hc1⟩ := hB.list hpos
 have hcol := cols_at hpos
 rw [hcol] at hc1
 have hc1' : ∀ Γ : Ctx, Mem.le (lk Γr) (lk Γ) → Cells Γ b1 o1 [.slice A1 (colsD d) c1] := fun Γ h => by simpa using hc1 Γ h
 refine s_idx hB1 (by omega) (by omega) ?_
 simp -implicitDefEqProofs only [go_sem,zA,zB,zC,zD,zE,reduceCtorEq,↓reduceIte,zF,zG,zH,zI]
 refine s_ld0 (hc1' _ (lk_r _ _)) (by simp) (by simp) ?_
 simp -implicitDefEqProofs only [go_sem,zA,zB,zC,zD,zE,reduceCtorEq,↓reduceIte,zF,zG,zH,zI]
 refine ⟨fun h => Up.here ?_, fun h3 => ?_⟩
 ·rw [if_pos (by omega)] at hR
  subst hR
  exact ⟨rfl, rfl⟩
 rw [if_neg (by omega)] at hR
 let badA (k : Nat) : Prop := ∃ (j : Nat) (hj : j < d.ac.length), j < k ∧ d.ac[j] < -1
 let badT (k : Nat) : Prop := ∃ (j : Nat) (hj : j < d.nx.length), j < k ∧ ∃ t ∈ d.nx[j], t < -1 ∨ (d.nx.length : Int) ≤ t
 refine s_loop (fun f vs Γ => Γ = [] ∧ ∃ (k : Nat) (bd : Bool), vs = [.v true (.bool bd), .v true (.int .i64 k)] ∧ k + f = d.nx.length ∧ (∀ (j : Nat) (hj : j < d.nx.length), j < k → d.nx[j].length = colsD d ∧ colsD d ≠ 0) ∧ (bd = true ↔ (d.st < 0 ∨ (d.nx.length : Int) ≤ d.st) ∨ badA k ∨ badT k)) d.nx.length
  (Up.here ⟨rfl, 0, _, rfl, by omega, fun j _ h => by omega, ?_⟩) ?_
 ·simp only [Bool.or_eq_true, decide_eq_true_eq]
  refine ⟨.inl, fun h => h.resolve_right ?_⟩
  rintro (⟨j, _, h, _⟩ | ⟨j, _, h, _⟩) <;> omega
 rintro f vs Γ ⟨rfl, k, bd, rfl, hkf, hok, hbd⟩
 simp -implicitDefEqProofs only [S135_2, go_sem,zA,zB,zC,zD,zE,reduceCtorEq,↓reduceIte,zF,zG,zH,zI]
 refine ⟨fun hlt => ?_, fun hge => ?_⟩
 ·have hk : k < d.nx.length := by omega
  have hka : k < d.ac.length := by omega
  obtain ⟨b2, o2, hB2, A2, c2, hr2, hc2⟩ := hB.list hk
  obtain ⟨b3, o3, hA3, hc3⟩ := hA.int hka
  refine s_idx hB2 (by omega) (by omega) ?_
  simp -implicitDefEqProofs only [go_sem,zA,zB,zC,zD,zE,reduceCtorEq,↓reduceIte,zF,zG,zH,zI]
  refine s_ld0 (hc2 _ (lk_r _ _)) (by simp) (by simp) ?_
  simp -implicitDefEqProofs only [go_sem,zA,zB,zC,zD,zE,reduceCtorEq,↓reduceIte,zF,zG,zH,zI]
  refine s_idx hB1 (by omega) (by omega) ?_
  simp -implicitDefEqProofs only [go_sem,zA,zB,zC,zD,zE,reduceCtorEq,↓reduceIte,zF,zG,zH,zI]
  refine s_ld0 (hc1' _ (lk_r _ _)) (by simp) (by simp) ?_
  simp -implicitDefEqProofs only [go_sem,zA,zB,zC,zD,zE,reduceCtorEq,↓reduceIte,zF,zG,zH,zI]
  refine ⟨fun h => Up.here ?_, fun h => ?_⟩
  ·rw [if_pos ⟨_, List.getElem_mem hk, by omega⟩] at hR
   subst hR
   exact ⟨rfl, rfl⟩
  refine s_idxg (fun he => ⟨by first | exact he | rfl | simp_all, by first | exact he | rfl | simp_all, hA3, by omega, by omega⟩) ?_
  simp -implicitDefEqProofs only [go_sem,zA,zB,zC,zD,zE,reduceCtorEq,↓reduceIte,zF,zG,zH,zI]
  refine s_ldg0 (fun he => by first | exact he | rfl | simp_all) (fun _ => hc3 _ (lk_r _ _)) (by simp) (by simp) ?_
  simp -implicitDefEqProofs only [go_sem,zA,zB,zC,zD,zE,reduceCtorEq,↓reduceIte,zF,zG,zH,zI]
  refine s_loop (fun f2 vs Γ => Γ = [] ∧ ∃ (m : Nat) (bd : Bool), vs = [.v true (.bool bd), .v true (.int .i64 m)] ∧ m + f2 = d.nx[k].length ∧ (bd = true ↔ (d.st < 0 ∨ (d.nx.length : Int) ≤ d.st) ∨ badA (k + 1) ∨ badT k ∨ ∃ (j : Nat) (hj : j < d.nx[k].length), j < m ∧ (d.nx[k][j] < -1 ∨ (d.nx.length : Int) ≤ d.nx[k][j]))) d.nx[k].length
   (Up.here ⟨rfl, 0, _, rfl, by omega, ?_⟩) ?_
  ·simp only [Bool.or_eq_true, decide_eq_true_eq, hbd]
   constructor
   ·rintro ((h | ⟨j, hj, h1, h2⟩ | h) | h)
    ·exact .inl h
    ·exact .inr (.inl ⟨j, hj, by omega, h2⟩)
    ·exact .inr (.inr (.inl h))
    ·exact .inr (.inl ⟨k, hka, by omega, h⟩)
   ·rintro (h | ⟨j, hj, h1, h2⟩ | h | ⟨j, _, h, _⟩)
    ·exact .inl (.inl h)
    ·by_cases e : j = k
     ·subst e; exact .inr h2
     ·exact .inl (.inr (.inl ⟨j, hj, by omega, h2⟩))
    ·exact .inl (.inr (.inr h))
    ·omega
  rintro f2 vs Γ ⟨rfl, m, bd2, rfl, hmf, hbd2⟩
  simp -implicitDefEqProofs only [S135_1, go_sem,zA,zB,zC,zD,zE,reduceCtorEq,↓reduceIte,zF,zG,zH,zI]
  refine ⟨fun hlt => ?_, fun hge => ?_⟩
  ·have hml : m < d.nx[k].length := by omega
   obtain ⟨b4, o4, hA4, hc4⟩ := hr2.int hml
   refine s_idx hA4 (by omega) (by omega) ?_
   simp -implicitDefEqProofs only [go_sem,zA,zB,zC,zD,zE,reduceCtorEq,↓reduceIte,zF,zG,zH,zI]
   refine s_ld0 (hc4 _ (lk_r _ _)) (by simp) (by simp) ?_
   simp -implicitDefEqProofs only [go_sem,zA,zB,zC,zD,zE,reduceCtorEq,↓reduceIte,zF,zG,zH,zI]
   simp (disch := omega) only [wrap_id]
   refine ⟨f2 - 1, by omega, Up.here ⟨rfl, m + 1, _, rfl, by omega, ?_⟩⟩
   simp only [Bool.or_eq_true, decide_eq_true_eq, hbd2]
   constructor
   ·rintro (((h | h | h | ⟨j, hj, h1, h2⟩) | h) | h)
    ·exact .inl h
    ·exact .inr (.inl h)
    ·exact .inr (.inr (.inl h))
    ·exact .inr (.inr (.inr ⟨j, hj, by omega, h2⟩))
    ·exact .inr (.inr (.inr ⟨m, hml, by omega, .inl h⟩))
    ·exact .inr (.inr (.inr ⟨m, hml, by omega, .inr h⟩))
   ·rintro (h | h | h | ⟨j, hj, h1, h2⟩)
    ·exact .inl (.inl (.inl h))
    ·exact .inl (.inl (.inr (.inl h)))
    ·exact .inl (.inl (.inr (.inr (.inl h))))
    ·by_cases e : j = m
     ·subst e
      rcases h2 with h2 | h2
      ·exact .inl (.inr h2)
      ·exact .inr h2
     ·exact .inl (.inl (.inr (.inr (.inr ⟨j, hj, by omega, h2⟩))))
  ·have hml : m = d.nx[k].length := by omega
   simp (disch := omega) only [wrap_id]
   refine ⟨f - 1, by omega, Up.here ⟨rfl, k + 1, bd2, rfl, by omega, fun j hj h2 => ?_, ?_⟩⟩
   ·by_cases e : j = k
    ·subst e; omega
    ·exact hok j hj (by omega)
   ·rw [hbd2]
    refine or_congr_right (or_congr_right ⟨?_, ?_⟩)
    ·rintro (⟨j, hj, h1, h2⟩ | ⟨j, hj, h1, h2⟩)
     ·exact ⟨j, hj, by omega, h2⟩
     ·exact ⟨k, hk, by omega, _, List.getElem_mem hj, h2⟩
    ·rintro ⟨j, hj, h1, t, ht, h2⟩
     by_cases e : j = k
     ·subst e
      obtain ⟨i, hi, rfl⟩ := List.getElem_of_mem ht
      exact .inr ⟨i, hi, by omega, h2⟩
     ·exact .inl ⟨j, hj, by omega, t, ht, h2⟩
 ·have hk : k = d.nx.length := by omega
  have hrow : ∀ r ∈ d.nx, r.length = colsD d ∧ colsD d ≠ 0 := fun r hr => by
   obtain ⟨j, hj, rfl⟩ := List.getElem_of_mem hr
   exact hok j hj (by omega)
  rw [if_neg (by rintro ⟨r, hr, h⟩; have := hrow r hr; omega)] at hR
  have hall : bd = true ↔ (d.st < 0 ∨ (d.nx.length : Int) ≤ d.st ∨ (∃ x ∈ d.ac, x < -1) ∨ (∃ r ∈ d.nx, ∃ t ∈ r, t < -1 ∨ (d.nx.length : Int) ≤ t)) := by
   rw [hbd, or_assoc]
   refine or_congr_right (or_congr_right (or_congr ⟨?_, ?_⟩ ⟨?_, ?_⟩))
   ·rintro ⟨j, hj, _, h⟩; exact ⟨_, List.getElem_mem hj, h⟩
   ·rintro ⟨x, hx, h⟩
    obtain ⟨j, hj, rfl⟩ := List.getElem_of_mem hx
    exact ⟨j, hj, by omega, h⟩
   ·rintro ⟨j, hj, _, h⟩; exact ⟨_, List.getElem_mem hj, h⟩
   ·rintro ⟨x, hx, h⟩
    obtain ⟨j, hj, rfl⟩ := List.getElem_of_mem hx
    exact ⟨j, hj, by omega, h⟩
  refine ⟨fun h => Up.here ?_, fun h => Up.here ?_⟩
  ·rw [if_pos (hall.1 h)] at hR
   subst hR
   exact ⟨rfl, rfl⟩
  ·rw [if_neg (fun q => by rw [hall.2 q] at h; cases h)] at hR
   subst hR
   exact ⟨rfl, rfl⟩
end
/- The text of parlance/parlref5.Ends as a statement; no condition. -/
def S59_1 : Stmt :=
 .seq
 (.region [oq 13 (.ibin .lss (.tmp 12) (.tmp 11))] [2,5,10,11,12,13])
 (.seq (.cond (.tmp 13) .skip (.exit 0))
 (.seq
 (.block 1
 (.seq
 (.region
 [oq 14 (.idx 1 (.tmp 10) (.tmp 12)),
 oq 15 (.load false 1 (.tmp 14)),
 oq 7 (.mv (.tmp 15))]
 [2,5,7,10,11,12])
 (.seq
 (.seq
 (.region
 [oq 16 (.mv (.tmp 5)),
 .mk (some 17) none
 (.ibin .lss (.tmp 16) (.const (.int .i64 0)))]
 [2,5,7,10,11,12,17])
 (.cond (.tmp 17)
 (.seq (.region [oq 4 (.mv (.const (.bool false)))] [4])
 .ret)
 .skip))
 (.region
 [oq 18 (.fld 2 (.tmp 2)),
 oq 19 (.load false 1 (.tmp 18)),
 oq 20 (.mv (.tmp 5)),
 oq 21 (.idx 1 (.tmp 19) (.tmp 20)),
 oq 22 (.load false 1 (.tmp 21)),
 oq 23 (.mv (.tmp 7)),
 oq 24 (.idx 1 (.tmp 22) (.tmp 23)),
 oq 25 (.load false 1 (.tmp 24)),
 oq 5 (.mv (.tmp 25))]
 [2,5,10,11,12]))))
 (.region
 [oq 26 (.ibin .add (.tmp 12) (.const (.int .i64 1))),
 oq 12 (.mv (.tmp 26))]
 [2,5,10,11,12])))
def S59_0 : Stmt :=
 .seq
 (.region
 [oq 2 (.box true 94 (.tmp 0)),
 oq 4 (.mv (.const (.bool false)))]
 [1,2])
 (.seq
 (.region
 [oq 8 (.fld 0 (.tmp 2)),oq 9 (.load false 1 (.tmp 8)),
 oq 5 (.mv (.tmp 9))]
 [1,2,5])
 (.seq
 (.seq
 (.region
 [oq 10 (.mv (.tmp 1)),oq 11 (.len false (.tmp 10)),
 oq 12 (.mv (.const (.int .i64 0)))]
 [2,5,10,11,12])
 (.block 0 (.loop S59_1 [5,12] [2,10,11])))
 (.seq
 (.region
 [oq 27 (.mv (.tmp 5)),
 oq 28 (.ibin .geq (.tmp 27) (.const (.int .i64 0))),
 oq 29 (.mv (.tmp 28)),
 .mk (some 30) (some (29,true)) (.fld 1 (.tmp 2)),
 .mk (some 31) (some (29,true)) (.load false 1 (.tmp 30)),
 .mk (some 32) (some (29,true)) (.mv (.tmp 5)),
 .mk (some 33) (some (29,true)) (.idx 1 (.tmp 31) (.tmp 32)),
 .mk (some 34) (some (29,true)) (.load false 1 (.tmp 33)),
 .mk (some 35) (some (29,true))
 (.ibin .geq (.tmp 34) (.const (.int .i64 0))),
 oq 36 (.pick (.tmp 29) (.tmp 35) (.const (.bool false))),
 oq 4 (.mv (.tmp 36))]
 [4])
 .ret)))
def S59 : FnS := ⟨37,[(4,none)],S59_0⟩
theorem tr59 : trFn Try.prog 59 [2] [[1,2],[1,2,5],[2,5,10,11,12],[5,12],[2,10,11],[2,5,10,11,12,13],[2,5,7,10,11,12],[2,5,7,10,11,12,17],[4],[2,5,10,11,12],[2,5,10,11,12],[4]] = some S59 := by kernel_rfl
/- Runs of automata, parlref5.Ends walked; no condition. -/
def stepD (d : Da) (s x : Int) : Int := (d.nx.getD s.toNat []).getD x.toNat 0
def accD (d : Da) (s : Int) : Int := d.ac.getD s.toNat 0
def endsD (d : Da) : Int → List Int → Bool
 | s, [] => decide (0 ≤ s) && decide (0 ≤ accD d s)
 | s, x :: w => if s < 0 then false else endsD d (stepD d s x) w
theorem ends_neg {d : Da} {s : Int} (h : s < 0) : ∀ w, endsD d s w = false
 | [] => by simp [endsD]; omega
 | x :: w => by simp [endsD, h]
theorem step_at {d : Da} {s x : Nat} (hs : s < d.nx.length) (hx : x < d.nx[s].length) : stepD d s x = d.nx[s][x] := by simp [stepD, hs, hx]
theorem VD.step {d : Da} (V : VD d) {s x : Int} (hs : 0 ≤ s ∧ s < d.nx.length) (hx : 0 ≤ x ∧ x < colsD d) : -1 ≤ stepD d s x ∧ stepD d s x < d.nx.length := by
 have h1 : s.toNat < d.nx.length := by omega
 have h2 := V.row _ (List.getElem_mem h1)
 have h3 : x.toNat < d.nx[s.toNat].length := by omega
 have e : stepD d s x = d.nx[s.toNat][x.toNat] := by simp [stepD, h1, h3]
 rw [e]
 exact V.to _ (List.getElem_mem h1) _ (List.getElem_mem h3)
/-- symbols of the automaton -/
def okW (d : Da) (w : List Int) : Prop := ∀ x ∈ w, 0 ≤ x ∧ x < colsD d
section
variable {Γr : Ctx} {d : Da} {A B : Option Addr} {c e : Nat}
theorem ref_ends (hA : SlOk (lk Γr) A c d.ac) (hB : SlOk (lk Γr) B e d.nx) (V : VD d) {w : List Int} {W : Option Addr} {cw : Nat} (hW : SlOk (lk Γr) W cw w) (hw : okW d w) :
  Ret Try.prog 59 [.agg #[.int .i64 d.st, .slice A d.ac.length c, .slice B d.nx.length e], .slice W w.length cw] Γr [] (fun v Γ => Γ = [] ∧ v = .bool (endsD d d.st w)) := by
 generalize hR : (fun (v : Value) (Γ : Ctx) => Γ = [] ∧ v = Value.bool _) = R
 refine ret_of_vc tr59 (Nat.le_of_ble_eq_true rfl) ?_
 have hsW := hW.short
 have hst := V.st
 simp -implicitDefEqProofs only [S59, S59_0, go_sem,zA,zB,zC,zD,zE,reduceCtorEq,↓reduceIte,zF,zG,zH,zI]
 intro b
 refine s_loop (fun f vs Γ => Γ = [] ∧ ∃ (k : Nat) (s : Int), vs = [.v true (.int .i64 s), .v true (.int .i64 k)] ∧ k + f = w.length ∧ -1 ≤ s ∧ s < d.nx.length ∧ endsD d d.st w = endsD d s (w.drop k)) w.length
  (Up.here ⟨rfl, 0, d.st, rfl, by omega, by omega, by omega, by simp⟩) ?_
 rintro f vs Γ ⟨rfl, k, s, rfl, hkf, h0, h1, he⟩
 simp -implicitDefEqProofs only [S59_1, go_sem,zA,zB,zC,zD,zE,reduceCtorEq,↓reduceIte,zF,zG,zH,zI]
 refine ⟨fun hlt => ?_, fun hge => ?_⟩
 ·have hk : k < w.length := by omega
  obtain ⟨b1, o1, hA1, hc1⟩ := hW.int hk
  have hx := hw _ (List.getElem_mem hk)
  rw [List.drop_eq_getElem_cons hk] at he
  simp only [endsD] at he
  refine s_idx hA1 (by omega) (by omega) ?_
  simp -implicitDefEqProofs only [go_sem,zA,zB,zC,zD,zE,reduceCtorEq,↓reduceIte,zF,zG,zH,zI]
  refine s_ld0 (hc1 _ (lk_r _ _)) (by simp) (by simp) ?_
  simp -implicitDefEqProofs only [go_sem,zA,zB,zC,zD,zE,reduceCtorEq,↓reduceIte,zF,zG,zH,zI]
  generalize w[k] = x at *
  refine ⟨fun h => Up.here ?_, fun h => ?_⟩
  ·rw [if_pos h] at he
   subst hR
   exact ⟨rfl, by rw [he]⟩
  rw [if_neg h] at he
  have hsp := V.step (s := s) (x := x) (by omega) hx
  obtain ⟨sn, rfl⟩ : ∃ n : Nat, s = n := ⟨s.toNat, by omega⟩
  obtain ⟨xn, rfl⟩ : ∃ n : Nat, x = n := ⟨x.toNat, by omega⟩
  have hsl : sn < d.nx.length := by omega
  have hrl := V.row _ (List.getElem_mem hsl)
  have hxl : xn < d.nx[sn].length := by omega
  rw [step_at hsl hxl] at he hsp
  obtain ⟨b2, o2, hB2, A2, c2, hr2, hc2⟩ := hB.list hsl
  obtain ⟨b3, o3, hA3, hc3⟩ := hr2.int hxl
  refine s_idx hB2 (by omega) (by omega) ?_
  simp -implicitDefEqProofs only [go_sem,zA,zB,zC,zD,zE,reduceCtorEq,↓reduceIte,zF,zG,zH,zI]
  refine s_ld0 (hc2 _ (lk_r _ _)) (by simp) (by simp) ?_
  simp -implicitDefEqProofs only [go_sem,zA,zB,zC,zD,zE,reduceCtorEq,↓reduceIte,zF,zG,zH,zI]
  refine s_idx hA3 (by omega) (by omega) ?_
  simp -implicitDefEqProofs only [go_sem,zA,zB,zC,zD,zE,reduceCtorEq,↓reduceIte,zF,zG,zH,zI]
  refine s_ld0 (hc3 _ (lk_r _ _)) (by simp) (by simp) ?_
  simp -implicitDefEqProofs only [go_sem,zA,zB,zC,zD,zE,reduceCtorEq,↓reduceIte,zF,zG,zH,zI]
  simp (disch := omega) only [wrap_id]
  exact ⟨f - 1, by omega, Up.here ⟨rfl, k + 1, _, rfl, by omega, hsp.1, hsp.2, he⟩⟩
 ·have hk : k = w.length := by omega
  rw [hk, List.drop_length] at he
  simp only [endsD] at he
  by_cases h : 0 ≤ s
  ·obtain ⟨sn, rfl⟩ : ∃ n : Nat, s = n := ⟨s.toNat, by omega⟩
   have hsl : sn < d.ac.length := by have := V.acc; omega
   have hac : accD d sn = d.ac[sn] := by simp [accD, hsl]
   obtain ⟨b3, o3, hA3, hc3⟩ := hA.int hsl
   have hd : decide ((0 : Int) ≤ (sn : Int)) = true := by simp
   simp only [hd]
   simp -implicitDefEqProofs only [go_sem,zA,zB,zC,zD,zE,reduceCtorEq,↓reduceIte,zF,zG,zH,zI]
   refine s_idx hA3 (by omega) (by omega) ?_
   simp -implicitDefEqProofs only [go_sem,zA,zB,zC,zD,zE,reduceCtorEq,↓reduceIte,zF,zG,zH,zI]
   refine s_ld0 (hc3 _ (lk_r _ _)) (by simp) (by simp) ?_
   simp -implicitDefEqProofs only [go_sem,zA,zB,zC,zD,zE,reduceCtorEq,↓reduceIte,zF,zG,zH,zI]
   refine Up.here ?_
   subst hR
   rw [hac] at he
   exact ⟨rfl, by rw [he]; simp⟩
  ·have hd : decide (0 ≤ s) = false := by simpa using h
   simp only [hd]
   simp -implicitDefEqProofs only [go_sem,zA,zB,zC,zD,zE,reduceCtorEq,↓reduceIte,zF,zG,zH,zI]
   refine s_idxg (b := 0) (o := 0) (by simp) ?_
   simp -implicitDefEqProofs only [go_sem,zA,zB,zC,zD,zE,reduceCtorEq,↓reduceIte,zF,zG,zH,zI]
   refine s_ldg0 (cs := [.int .i64 0]) (by simp) (by simp) (by simp) (by simp) ?_
   simp -implicitDefEqProofs only [go_sem,zA,zB,zC,zD,zE,reduceCtorEq,↓reduceIte,zF,zG,zH,zI]
   refine Up.here ?_
   subst hR
   exact ⟨rfl, by rw [he, hd]; simp⟩
end
/- The words that a grammar and an automaton have in common: the plain law of a product; no condition. -/
theorem VG.term {g : Gr} (V : VG g) {r : Ru} (hr : r ∈ g.rs) {s : Sy} (hs : s ∈ r.r) (ht : s.t = true) : 0 ≤ s.n ∧ s.n < g.ts := ⟨(V.sym r hr s hs).1, (V.sym r hr s hs).2.1 ht⟩
/-- an automaton goes from s to p by a word -/
def RunQ (d : Da) : Int → List Int → Int → Prop
 | s, [], p => p = s
 | s, x :: w, p => 0 ≤ stepD d s x ∧ RunQ d (stepD d s x) w p
theorem runQ_app {d : Da} : ∀ {u v : List Int} {s p : Int}, RunQ d s (u ++ v) p ↔ ∃ m, RunQ d s u m ∧ RunQ d m v p
 | [], v, s, p => by
  constructor
  ·intro h; exact ⟨s, rfl, h⟩
  ·rintro ⟨m, h1, h2⟩
   have h1 : m = s := h1
   subst h1
   exact h2
 | x :: u, v, s, p => by
  constructor
  ·rintro ⟨h1, h2⟩
   obtain ⟨m, h3, h4⟩ := runQ_app.1 h2
   exact ⟨m, ⟨h1, h3⟩, h4⟩
  ·rintro ⟨m, ⟨h1, h2⟩, h3⟩
   exact ⟨h1, runQ_app.2 ⟨m, h2, h3⟩⟩
theorem ends_runQ {d : Da} : ∀ {w : List Int} {s : Int}, 0 ≤ s → (endsD d s w = true ↔ ∃ p, RunQ d s w p ∧ 0 ≤ accD d p)
 | [], s, h => by
  simp only [endsD, Bool.and_eq_true, decide_eq_true_eq]
  constructor
  ·rintro ⟨_, q⟩; exact ⟨s, rfl, q⟩
  ·rintro ⟨p, h1, h2⟩
   have h1 : p = s := h1
   subst h1
   exact ⟨h, h2⟩
 | x :: w, s, h => by
  simp only [endsD]
  rw [if_neg (by omega)]
  by_cases e : 0 ≤ stepD d s x
  ·rw [ends_runQ e]
   constructor
   ·rintro ⟨p, h1, h2⟩; exact ⟨p, ⟨e, h1⟩, h2⟩
   ·rintro ⟨p, ⟨_, h1⟩, h2⟩; exact ⟨p, h1, h2⟩
  ·rw [ends_neg (by omega)]
   constructor
   ·intro q; cases q
   ·rintro ⟨p, ⟨q, _⟩, _⟩; omega
/-- q is a state -/
def StQ (d : Da) (q : Int) : Prop := 0 ≤ q ∧ q < d.nx.length
theorem runQ_st {d : Da} (V : VD d) : ∀ {w : List Int} {s p : Int}, StQ d s → okW d w → RunQ d s w p → StQ d p
 | [], s, p, hs, _, h => by
  have h : p = s := h
  rw [h]; exact hs
 | x :: w, s, p, hs, hw, h => by
  have h1 := V.step hs (hw x (by simp))
  exact runQ_st V ⟨h.1, h1.2⟩ (fun y hy => hw y (by simp [hy])) h.2

/-! ways by symbols: T tells which states follow which states by nonterminals -/
def AftQ (T : Int → Int → Int → Prop) (d : Da) (q : Int) (s : Sy) (p : Int) : Prop := if s.t = true then p = stepD d q s.n ∧ 0 ≤ p else T q s.n p
/-- xs: the states behind each of the symbols -/
def PthL (T : Int → Int → Int → Prop) (d : Da) : List Sy → Int → List Int → Prop
 | [], _, xs => xs = []
 | s :: l, q, xs => ∃ x r, xs = x :: r ∧ AftQ T d q s x ∧ PthL T d l x r
def lastQ (q : Int) (xs : List Int) : Int := xs.getLastD q
theorem lastQ_cons (q x : Int) (xs : List Int) : lastQ q (x :: xs) = lastQ x xs := by
 cases xs <;> rfl
/-- p follows q by the symbols -/
def ChnQ (T : Int → Int → Int → Prop) (d : Da) : List Sy → Int → Int → Prop
 | [], q, p => p = q
 | s :: l, q, p => ∃ x, AftQ T d q s x ∧ ChnQ T d l x p
theorem chn_pth {T : Int → Int → Int → Prop} {d : Da} : ∀ {l : List Sy} {q p : Int}, ChnQ T d l q p ↔ ∃ xs, PthL T d l q xs ∧ lastQ q xs = p
 | [], q, p => by
  constructor
  ·intro h
   have h : p = q := h
   exact ⟨[], rfl, by rw [h]; rfl⟩
  ·rintro ⟨xs, h1, h2⟩
   have h1 : xs = [] := h1
   subst h1
   exact h2.symm
 | s :: l, q, p => by
  constructor
  ·rintro ⟨x, h1, h2⟩
   obtain ⟨xs, h3, h4⟩ := chn_pth.1 h2
   exact ⟨x :: xs, ⟨x, xs, rfl, h1, h3⟩, by rw [lastQ_cons]; exact h4⟩
  ·rintro ⟨_, ⟨x, r, rfl, h1, h2⟩, h3⟩
   rw [lastQ_cons] at h3
   exact ⟨x, h1, chn_pth.2 ⟨r, h2, h3⟩⟩
theorem chn_snoc {T : Int → Int → Int → Prop} {d : Da} {s : Sy} : ∀ {l : List Sy} {q p : Int}, ChnQ T d (l ++ [s]) q p ↔ ∃ x, ChnQ T d l q x ∧ AftQ T d x s p
 | [], q, p => by
  constructor
  ·rintro ⟨x, h1, h2⟩
   have h2 : p = x := h2
   subst h2
   exact ⟨q, rfl, h1⟩
  ·rintro ⟨x, h1, h2⟩
   have h1 : x = q := h1
   subst h1
   exact ⟨p, h2, rfl⟩
 | t :: l, q, p => by
  constructor
  ·rintro ⟨x, h1, h2⟩
   obtain ⟨y, h3, h4⟩ := chn_snoc.1 h2
   exact ⟨y, ⟨x, h1, h3⟩, h4⟩
  ·rintro ⟨y, ⟨x, h1, h2⟩, h3⟩
   exact ⟨x, h1, chn_snoc.2 ⟨y, h2, h3⟩⟩
/-- each of these follows by a word -/
def SndQ (g : Gr) (d : Da) (T : Int → Int → Int → Prop) : Prop := ∀ q n p, T q n p → ∃ w, DerN id g.rs n w ∧ RunQ d q w p
def ClsQ (g : Gr) (d : Da) (T : Int → Int → Int → Prop) : Prop := ∀ r ∈ g.rs, ∀ q p, StQ d q → ChnQ T d r.r q p → T q r.l p
theorem chn_sound {g : Gr} {d : Da} {T : Int → Int → Int → Prop} (h : SndQ g d T) : ∀ {l : List Sy} {q p : Int}, ChnQ T d l q p → ∃ w, DerF id g.rs l w ∧ RunQ d q w p
 | [], q, p, h1 => ⟨[], .nil, h1⟩
 | ⟨true, n⟩ :: l, q, p, ⟨x, h1, h2⟩ => by
  have h1 : x = stepD d q n ∧ 0 ≤ x := by simpa [AftQ] using h1
  obtain ⟨rfl, h1⟩ := h1
  obtain ⟨w, h3, h4⟩ := chn_sound h h2
  exact ⟨n :: w, .term n h3, h1, h4⟩
 | ⟨false, n⟩ :: l, q, p, ⟨x, h1, h2⟩ => by
  have h1 : T q n x := by simpa [AftQ] using h1
  obtain ⟨u, ⟨r, hr, rfl, h5⟩, h6⟩ := h _ _ _ h1
  obtain ⟨w, h3, h4⟩ := chn_sound h h2
  exact ⟨u ++ w, .non r hr h5 h3, runQ_app.2 ⟨x, h6, h4⟩⟩
/-! products -/
abbrev Tri := Int × Int × Int
/-- the symbols of a way -/
def symW (num : Tri → Int) : List Sy → Int → List Int → List Sy
 | s :: l, q, x :: xs => (if s.t = true then s else ⟨false, num (q, s.n, x)⟩) :: symW num l x xs
 | _, _, _ => []
/-- the nonterminals of a way are among these -/
def triIn (U : Tri → Prop) : List Sy → Int → List Int → Prop
 | s :: l, q, x :: xs => (s.t = false → U (q, s.n, x)) ∧ triIn U l x xs
 | _, _, _ => True
structure PrdQ (g : Gr) (d : Da) (T : Int → Int → Int → Prop) (U : Tri → Prop) (num : Tri → Int) (RS : List Ru) : Prop where
 rules : ∀ r, r ∈ RS ↔ (∃ p, T d.st g.st p ∧ 0 ≤ accD d p ∧ r = ⟨0, [⟨false, num (d.st, g.st, p)⟩]⟩) ∨
  ∃ t, U t ∧ ∃ r0 ∈ g.rs, r0.l = t.2.1 ∧ ∃ xs, PthL T d r0.r t.1 xs ∧ lastQ t.1 xs = t.2.2 ∧ r = ⟨num t, symW num r0.r t.1 xs⟩
 inj : ∀ t t', U t → U t' → num t = num t' → t = t'
 pos : ∀ t, U t → 1 ≤ num t
 start : ∀ p, T d.st g.st p → 0 ≤ accD d p → U (d.st, g.st, p)
 closed : ∀ t, U t → ∀ r0 ∈ g.rs, r0.l = t.2.1 → ∀ xs, PthL T d r0.r t.1 xs → lastQ t.1 xs = t.2.2 → triIn U r0.r t.1 xs
 st : ∀ t, U t → StQ d t.1
theorem prd_sound {g : Gr} {d : Da} {T : Int → Int → Int → Prop} {U : Tri → Prop} {num : Tri → Int} {RS : List Ru} (H : PrdQ g d T U num RS) {L : List Sy} {w : List Int} (hd : DerF id RS L w) :
  ∀ {l : List Sy} {q : Int} {xs : List Int}, PthL T d l q xs → triIn U l q xs → L = symW num l q xs → DerF id g.rs l w ∧ RunQ d q w (lastQ q xs) := by
 induction hd with
 | nil =>
  intro l q xs h1 h2 h3
  cases l with
  | nil =>
   have h1 : xs = [] := h1
   subst h1
   exact ⟨.nil, rfl⟩
  | cons s l =>
   obtain ⟨x, r, rfl, _, _⟩ := h1
   simp [symW] at h3
 | term n _ ih =>
  intro l q xs h1 h2 h3
  cases l with
  | nil =>
   have h1 : xs = [] := h1
   subst h1
   simp [symW] at h3
  | cons s l =>
   obtain ⟨x, r, rfl, h4, h5⟩ := h1
   simp only [symW, List.cons.injEq] at h3
   obtain ⟨h6, h7⟩ := h3
   obtain ⟨t, m⟩ := s
   cases t with
   | false => simp at h6
   | true =>
    simp only [if_true, Sy.mk.injEq, true_and] at h6
    subst h6
    have h4 : x = stepD d q n ∧ 0 ≤ x := by simpa [AftQ] using h4
    obtain ⟨rfl, h4⟩ := h4
    obtain ⟨h8, h9⟩ := ih h5 h2.2 h7
    rw [lastQ_cons]
    exact ⟨.term n h8, h4, h9⟩
 | @non L u v r hr hu hw ih1 ih2 =>
  intro l q xs h1 h2 h3
  cases l with
  | nil =>
   have h1 : xs = [] := h1
   subst h1
   simp [symW] at h3
  | cons s l =>
   obtain ⟨x, xr, rfl, h4, h5⟩ := h1
   simp only [symW, List.cons.injEq] at h3
   obtain ⟨h6, h7⟩ := h3
   obtain ⟨t, m⟩ := s
   cases t with
   | true => simp at h6
   | false =>
    simp only [Bool.false_eq_true, if_false, Sy.mk.injEq, true_and] at h6
    have hU : U (q, m, x) := h2.1 rfl
    obtain ⟨h8, h9⟩ := ih2 h5 h2.2 h7
    have hp := H.pos _ hU
    rcases (H.rules r).1 hr with ⟨p, _, _, rfl⟩ | ⟨t, ht, r0, hr0, hl0, ys, hy1, hy2, rfl⟩
    ·simp at h6; omega
    ·have := H.inj _ _ ht hU h6
     subst this
     obtain ⟨h10, h11⟩ := ih1 hy1 (H.closed _ hU r0 hr0 hl0 ys hy1 hy2) rfl
     have hl0 : r0.l = m := hl0
     subst hl0
     rw [lastQ_cons]
     have hy2 : lastQ q ys = x := hy2
     rw [hy2] at h11
     exact ⟨.non r0 hr0 h10 h8, runQ_app.2 ⟨x, h11, h9⟩⟩
theorem prd_all {g : Gr} {d : Da} {T : Int → Int → Int → Prop} {U : Tri → Prop} {num : Tri → Int} {RS : List Ru} (V : VG g) (D : VD d) (hT : g.ts = colsD d) (hc : ClsQ g d T) (H : PrdQ g d T U num RS) {l : List Sy} {w : List Int} (hd : DerF id g.rs l w) (hl : ∀ s ∈ l, s.t = true → 0 ≤ s.n ∧ s.n < g.ts) :
  ∀ {q p : Int}, StQ d q → RunQ d q w p → ∃ xs, PthL T d l q xs ∧ lastQ q xs = p ∧ (triIn U l q xs → DerF id RS (symW num l q xs) w) := by
 induction hd with
 | nil =>
  intro q p _ h
  have h : p = q := h
  subst h
  exact ⟨[], rfl, rfl, fun _ => .nil⟩
 | term n _ ih =>
  rintro q p hq ⟨h1, h2⟩
  have hn := hl ⟨true, n⟩ (by simp) rfl
  have h3 := D.step hq (x := n) (by rw [← hT]; exact hn)
  obtain ⟨xs, h4, h5, h6⟩ := ih (fun s hs => hl s (by simp [hs])) ⟨h1, h3.2⟩ h2
  exact ⟨stepD d q n :: xs, ⟨_, _, rfl, by simp [AftQ]; exact h1, h4⟩, by rw [lastQ_cons]; exact h5, fun h => .term n (h6 h.2)⟩
 | @non l u v r hr hu hw ih1 ih2 =>
  intro q p hq hrun
  obtain ⟨m, h1, h2⟩ := runQ_app.1 hrun
  have hrs : ∀ s ∈ r.r, s.t = true → 0 ≤ s.n ∧ s.n < g.ts := fun s hs ht => V.term hr hs ht
  have hok : okW d u := fun x hx => by
   have := hu.all (p := fun x => 0 ≤ x ∧ x < g.ts) (fun r hr s hs ht => V.term hr hs ht) hrs x hx
   rw [← hT]; exact this
  have hm := runQ_st D hq hok h1
  obtain ⟨xs1, h3, h4, h5⟩ := ih1 hrs hq h1
  obtain ⟨xs2, h6, h7, h8⟩ := ih2 (fun s hs => hl s (by simp [hs])) hm h2
  have hTm : T q r.l m := hc r hr q m hq (chn_pth.2 ⟨xs1, h3, h4⟩)
  refine ⟨m :: xs2, ⟨m, xs2, rfl, by simpa [AftQ] using hTm, h6⟩, by rw [lastQ_cons]; exact h7, fun h => ?_⟩
  have hU : U (q, r.l, m) := h.1 rfl
  have hin : (⟨num (q, r.l, m), symW num r.r q xs1⟩ : Ru) ∈ RS := (H.rules _).2 (.inr ⟨(q, r.l, m), hU, r, hr, rfl, xs1, h3, h4, rfl⟩)
  have h9 := h5 (H.closed _ hU r hr rfl xs1 h3 h4)
  exact DerF.non _ hin h9 (h8 h.2)
/-- nonterminal 0 has the words that both have -/
theorem prd_words {g : Gr} {d : Da} {T : Int → Int → Int → Prop} {U : Tri → Prop} {num : Tri → Int} {RS : List Ru} (V : VG g) (D : VD d) (hT : g.ts = colsD d) (hs : SndQ g d T) (hc : ClsQ g d T) (H : PrdQ g d T U num RS) (w : List Int) :
  DerN id RS 0 w ↔ DerN id g.rs g.st w ∧ endsD d d.st w = true := by
 have hq : StQ d d.st := D.st
 constructor
 ·rintro ⟨r, hr, h0, hd⟩
  rcases (H.rules r).1 hr with ⟨p, h1, h2, rfl⟩ | ⟨t, ht, r0, hr0, hl0, ys, hy1, hy2, rfl⟩
  ·have h3 : PthL T d [⟨false, g.st⟩] d.st [p] := ⟨p, [], rfl, by simpa [AftQ] using h1, rfl⟩
   have h4 : triIn U [⟨false, g.st⟩] d.st [p] := ⟨fun _ => H.start p h1 h2, trivial⟩
   obtain ⟨h5, h6⟩ := prd_sound H hd h3 h4 (by simp [symW])
   refine ⟨?_, (ends_runQ hq.1).2 ⟨p, h6, h2⟩⟩
   generalize hL : [(⟨false, g.st⟩ : Sy)] = L at h5
   cases h5 with
   | nil => simp at hL
   | term n _ => simp at hL
   | @non l u v r hr hu hv =>
    simp only [List.cons.injEq, Sy.mk.injEq, true_and] at hL
    obtain ⟨h7, rfl⟩ := hL
    cases hv
    rw [List.append_nil]
    exact ⟨r, hr, h7.symm, hu⟩
  ·have h0 : num t = 0 := h0
   have := H.pos t ht
   omega
 ·rintro ⟨⟨r, hr, h0, hd⟩, he⟩
  obtain ⟨p, h1, h2⟩ := (ends_runQ hq.1).1 he
  obtain ⟨xs, h3, h4, h5⟩ := prd_all V D hT hc H hd (fun s hs ht => V.term hr hs ht) hq h1
  have hTp : T d.st g.st p := by rw [← h0]; exact hc r hr _ _ hq (chn_pth.2 ⟨xs, h3, h4⟩)
  have hU := H.start p hTp h2
  have h6 := h5 (H.closed _ hU r hr h0 xs h3 h4)
  refine ⟨⟨0, [⟨false, num (d.st, g.st, p)⟩]⟩, (H.rules _).2 (.inl ⟨p, hTp, h2, rfl⟩), rfl, ?_⟩
  have hin : (⟨num (d.st, g.st, p), symW num r.r d.st xs⟩ : Ru) ∈ RS := (H.rules _).2 (.inr ⟨(d.st, g.st, p), hU, r, hr, h0, xs, h3, h4, rfl⟩)
  have := DerF.non (f := id) _ hin h6 (DerF.nil (f := id) (rs := RS))
  rw [List.append_nil] at this
  exact this
/- The automaton of all other words: the plain law; no condition. -/
def othX (n : Nat) (x : Int) : Int := if x < 0 then (n : Int) else x
def othA (x : Int) : Int := if x < 0 then 0 else -1
def othD (d : Da) : Da := ⟨d.st, d.ac.map othA ++ [0], d.nx.map (fun row => row.map (othX d.nx.length)) ++ [List.replicate (colsD d) (d.nx.length : Int)]⟩
theorem oth_cols {d : Da} (V : VD d) : colsD (othD d) = colsD d := by
 have hl := V.len
 unfold colsD othD
 cases hn : d.nx with
 | nil => rw [hn] at hl; simp at hl
 | cons r l => simp
theorem oth_ok {d : Da} (V : VD d) (hl : d.nx.length ≤ 199) : VD (othD d) where
 len := by simp [othD]; omega
 acc := by have := V.acc; simp [othD]; omega
 cols := by rw [oth_cols V]; exact V.cols
 row r hr := by
  rw [oth_cols V]
  simp only [othD, List.mem_append, List.mem_map, List.mem_singleton] at hr
  rcases hr with ⟨x, hx, rfl⟩ | rfl
  ·simpa using V.row x hx
  ·simp
 st := by have := V.st; simp [othD]; omega
 ac x hx := by
  simp only [othD, List.mem_append, List.mem_map, List.mem_singleton] at hx
  rcases hx with ⟨y, hy, rfl⟩ | rfl
  ·unfold othA; split <;> omega
  ·omega
 to r hr t ht := by
  have hlen : ((othD d).nx.length : Int) = d.nx.length + 1 := by simp [othD]
  rw [hlen]
  simp only [othD, List.mem_append, List.mem_map, List.mem_singleton] at hr
  rcases hr with ⟨x, hx, rfl⟩ | rfl
  ·obtain ⟨y, hy, rfl⟩ := List.mem_map.1 ht
   have := V.to x hx y hy
   unfold othX
   split <;> omega
  ·obtain ⟨_, rfl⟩ := List.mem_replicate.1 ht
   omega
theorem oth_step {d : Da} (V : VD d) {s x : Int} (hs : StQ d s) (hx : 0 ≤ x ∧ x < colsD d) : stepD (othD d) s x = othX d.nx.length (stepD d s x) := by
 obtain ⟨sn, rfl⟩ : ∃ n : Nat, s = n := ⟨s.toNat, by have := hs.1; omega⟩
 obtain ⟨xn, rfl⟩ : ∃ n : Nat, x = n := ⟨x.toNat, by omega⟩
 have h1 : sn < d.nx.length := by have := hs.2; omega
 have h2 : xn < d.nx[sn].length := by have := V.row _ (List.getElem_mem h1); omega
 simp [stepD, othD, List.getElem?_append, h1, h2]
theorem oth_last {d : Da} (V : VD d) {x : Int} (hx : 0 ≤ x ∧ x < colsD d) : stepD (othD d) d.nx.length x = d.nx.length := by
 obtain ⟨xn, rfl⟩ : ∃ n : Nat, x = n := ⟨x.toNat, by omega⟩
 have h2 : xn < colsD d := by omega
 simp [stepD, othD, h2]
theorem oth_ends {d : Da} (V : VD d) : ∀ {w : List Int} {s : Int}, -1 ≤ s → s < d.nx.length → okW d w → endsD (othD d) (othX d.nx.length s) w = !endsD d s w
 | [], s, h0, h1, _ => by
  have ha := V.acc
  simp only [endsD]
  by_cases e : s < 0
  ·have e1 : othX d.nx.length s = d.nx.length := if_pos e
   rw [e1]
   have : accD (othD d) d.nx.length = 0 := by
    simp only [accD, othD]
    rw [List.getD_eq_getElem?_getD, List.getElem?_append_right (by simp; omega)]
    simp [ha]
   rw [this]
   simp only [Int.natCast_nonneg, decide_true, Int.le_refl, Bool.and_self]
   rw [decide_eq_false (by omega)]
   rfl
  ·have e1 : othX d.nx.length s = s := if_neg e
   rw [e1]
   obtain ⟨sn, rfl⟩ : ∃ n : Nat, s = n := ⟨s.toNat, by omega⟩
   have h2 : sn < d.ac.length := by omega
   have : accD (othD d) sn = othA (accD d sn) := by simp [accD, othD, List.getElem?_append, h2]
   rw [this]
   unfold othA
   split
   ·rename_i q
    rw [decide_eq_false (show ¬ (0 ≤ accD d sn) by omega)]
    simp
   ·rename_i q
    rw [decide_eq_true (show (0 ≤ accD d sn) by omega)]
    simp
 | x :: w, s, h0, h1, hw => by
  have hx := hw x (by simp)
  have hw' : okW d w := fun y hy => hw y (by simp [hy])
  simp only [endsD]
  by_cases e : s < 0
  ·have e1 : othX d.nx.length s = d.nx.length := if_pos e
   rw [e1, if_neg (by omega), if_pos e, oth_last V hx]
   have := oth_ends V (w := w) (s := -1) (by omega) (by omega) hw'
   rw [show othX d.nx.length (-1) = d.nx.length by simp [othX], ends_neg (d := d) (s := -1) (by omega) w] at this
   exact this
  ·have e1 : othX d.nx.length s = s := if_neg e
   rw [e1, if_neg e, if_neg e, oth_step V ⟨by omega, h1⟩ hx]
   have h2 := V.step (s := s) ⟨by omega, h1⟩ hx
   exact oth_ends V h2.1 h2.2 hw'
/- The text of parlance/compare.Other as a statement; no condition. -/
def S171_1 : Stmt :=
 .seq
 (.region
 [oq 35 (.mv (.tmp 9)),
 oq 36 (.ibin .lss (.tmp 35) (.const (.int .i64 0)))]
 [1,2,3,4,5,7,9,22,23,24,29,30,31,36])
 (.cond (.tmp 36)
 (.region [oq 37 (.mv (.tmp 3)),oq 9 (.mv (.tmp 37))]
 [1,2,3,4,5,7,9,22,23,24,29,30,31])
 .skip)
def S171_2 : Stmt :=
 .region
 [oq 38 (.mv (.tmp 7)),oq 39 (.mv (.tmp 9)),
 oq 40 (.buildS 3 1 [.int .i64 0] [(0,1,.tmp 39)]),
 oq 41 (.append 25 3 1 8 (.int .i64 0) (.tmp 38) (.tmp 40)),
 oq 7 (.mv (.tmp 41))]
 [1,2,3,4,5,7,22,23,24,29,30,31]
def S171_3 : Stmt :=
 .block 3
 (.seq
 (.region
 [oq 33 (.idx 1 (.tmp 29) (.tmp 31)),
 oq 34 (.load false 1 (.tmp 33)),oq 9 (.mv (.tmp 34))]
 [1,2,3,4,5,7,9,22,23,24,29,30,31])
 (.join S171_1 S171_2 [9] [1,2,3,4,5,7,22,23,24,29,30,31]))
def S171_4 : Stmt :=
 .region
 [oq 42 (.ibin .add (.tmp 31) (.const (.int .i64 1))),
 oq 31 (.mv (.tmp 42))]
 [1,2,3,4,5,7,22,23,24,29,30,31]
def S171_5 : Stmt :=
 .seq
 (.region [oq 32 (.ibin .lss (.tmp 31) (.tmp 30))]
 [1,2,3,4,5,7,22,23,24,29,30,31,32])
 (.seq (.cond (.tmp 32) .skip (.exit 2))
 (.join S171_3 S171_4 [7] [1,2,3,4,5,22,23,24,29,30,31]))
def S171_6 : Stmt :=
 .block 1
 (.seq
 (.region
 [oq 26 (.mv (.tmp 24)),
 oq 27 (.idx 1 (.tmp 22) (.tmp 24)),
 oq 28 (.load false 1 (.tmp 27)),oq 5 (.mv (.tmp 26)),
 oq 6 (.mv (.tmp 28))]
 [1,2,3,4,5,6,22,23,24])
 (.seq
 (.region [oq 7 (.mv (.const (.slice none 0 0)))]
 [1,2,3,4,5,6,7,22,23,24])
 (.seq
 (.seq
 (.region
 [oq 29 (.mv (.tmp 6)),oq 30 (.len false (.tmp 29)),
 oq 31 (.mv (.const (.int .i64 0)))]
 [1,2,3,4,5,7,22,23,24,29,30,31])
 (.block 2 (.loop S171_5 [7,31] [1,2,3,4,5,22,23,24,29,30])))
 (.seq
 (.region
 [oq 43 (.fld 2 (.tmp 4)),
 oq 44 (.load false 1 (.tmp 43)),
 oq 45 (.mv (.tmp 7)),
 oq 46 (.buildS 25 1 [.slice none 0 0] [(0,1,.tmp 45)]),
 oq 47 (.append 28 25 1 24 (.slice none 0 0) (.tmp 44) (.tmp 46)),
 oq 48 (.fld 2 (.tmp 4)),
 .mk none none (.store 1 (.tmp 48) (.tmp 47))]
 [1,2,3,4,5,22,23,24])
 (.seq
 (.region
 [oq 49 (.fld 1 (.tmp 1)),
 oq 50 (.load false 1 (.tmp 49)),
 oq 51 (.mv (.tmp 5)),
 oq 52 (.idx 1 (.tmp 50) (.tmp 51)),
 oq 53 (.load false 1 (.tmp 52)),
 oq 54 (.ibin .lss (.tmp 53) (.const (.int .i64 0)))]
 [1,2,3,4,22,23,24,54])
 (.cond (.tmp 54)
 (.region
 [oq 55 (.fld 1 (.tmp 4)),
 oq 56 (.load false 1 (.tmp 55)),
 .mk (some 57) none
 (.buildS 3 1 [.int .i64 0] [(0,1,.const (.int .i64 0))]),
 .mk (some 58) none
 (.append 25 3 1 8 (.int .i64 0) (.tmp 56) (.tmp 57)),
 oq 59 (.fld 1 (.tmp 4)),
 .mk none none (.store 1 (.tmp 59) (.tmp 58))]
 [1,2,3,4,22,23,24])
 (.region
 [oq 60 (.fld 1 (.tmp 4)),
 oq 61 (.load false 1 (.tmp 60)),
 .mk (some 62) none
 (.buildS 3 1 [.int .i64 0] [(0,1,.const (.int .i64 (-1)))]),
 .mk (some 63) none
 (.append 25 3 1 8 (.int .i64 0) (.tmp 61) (.tmp 62)),
 oq 64 (.fld 1 (.tmp 4)),
 .mk none none (.store 1 (.tmp 64) (.tmp 63))]
 [1,2,3,4,22,23,24])))))))
def S171_7 : Stmt :=
 .region
 [oq 65 (.ibin .add (.tmp 24) (.const (.int .i64 1))),
 oq 24 (.mv (.tmp 65))]
 [1,2,3,4,22,23,24]
def S171_8 : Stmt :=
 .seq
 (.region [oq 25 (.ibin .lss (.tmp 24) (.tmp 23))]
 [1,2,3,4,22,23,24,25])
 (.seq (.cond (.tmp 25) .skip (.exit 0)) (.join S171_6 S171_7 [4] [1,2,3,22,23,24]))
def S171_9 : Stmt :=
 .seq
 (.region [oq 72 (.ibin .lss (.tmp 71) (.tmp 70))]
 [2,3,4,10,70,71,72])
 (.seq (.cond (.tmp 72) .skip (.exit 4))
 (.seq
 (.block 5
 (.region
 [oq 73 (.mv (.tmp 10)),oq 74 (.mv (.tmp 3)),
 oq 75 (.buildS 3 1 [.int .i64 0] [(0,1,.tmp 74)]),
 oq 76 (.append 25 3 1 8 (.int .i64 0) (.tmp 73) (.tmp 75)),
 oq 10 (.mv (.tmp 76))]
 [2,3,4,10,70,71]))
 (.region
 [oq 77 (.ibin .add (.tmp 71) (.const (.int .i64 1))),
 oq 71 (.mv (.tmp 77))]
 [2,3,4,10,70,71])))
def S171_0 : Stmt :=
 .seq
 (.region
 [oq 1 (.box true 94 (.tmp 0)),
 .mk (some 2) none
 (.alloc true 94
 (.agg (Array.mk [.int .i64 0,.slice none 0 0,.slice none 0 0])))]
 [1,2])
 (.seq
 (.seq
 (.region
 [oq 11 (.load true 3 (.tmp 1)),
 oq 12 (.call (.func 149) [.tmp 11]),
 oq 13 (.ibin .neq (.tmp 12) (.const (.int .i64 0)))]
 [1,2,13])
 (.cond (.tmp 13)
 (.seq
 (.region
 [.mk (some 14) none
 (.build 94 [.int .i64 0,.slice none 0 0,.slice none 0 0] []),
 .mk none none (.store 3 (.tmp 2) (.tmp 14))]
 [2])
 .ret)
 .skip))
 (.seq
 (.region
 [oq 15 (.fld 2 (.tmp 1)),
 oq 16 (.load false 1 (.tmp 15)),
 oq 17 (.len false (.tmp 16)),oq 3 (.mv (.tmp 17))]
 [1,2,3])
 (.seq
 (.region
 [oq 18 (.fld 0 (.tmp 1)),
 oq 19 (.load false 1 (.tmp 18)),
 .mk (some 20) none
 (.build 94 [.int .i64 0,.slice none 0 0,.slice none 0 0]
 [(0,1,.tmp 19)]),
 .mk (some 4) none
 (.alloc true 94
 (.agg (Array.mk [.int .i64 0,.slice none 0 0,.slice none 0 0]))),
 .mk none none (.store 3 (.tmp 4) (.tmp 20))]
 [1,2,3,4])
 (.seq
 (.seq
 (.region
 [oq 21 (.fld 2 (.tmp 1)),
 oq 22 (.load false 1 (.tmp 21)),
 oq 23 (.len false (.tmp 22)),
 oq 24 (.mv (.const (.int .i64 0)))]
 [1,2,3,4,22,23,24])
 (.block 0 (.loop S171_8 [4,24] [1,2,3,22,23])))
 (.seq
 (.region [oq 10 (.mv (.const (.slice none 0 0)))] [1,2,3,4,10])
 (.seq
 (.seq
 (.region
 [oq 66 (.fld 2 (.tmp 1)),
 oq 67 (.load false 1 (.tmp 66)),
 oq 68 (.idx 1 (.tmp 67) (.const (.int .i64 0))),
 oq 69 (.load false 1 (.tmp 68)),
 oq 70 (.len false (.tmp 69)),
 oq 71 (.mv (.const (.int .i64 0)))]
 [2,3,4,10,70,71])
 (.block 4 (.loop S171_9 [10,71] [2,3,4,70])))
 (.seq
 (.tree
 (.q (false,oq 78 (.fld 2 (.tmp 4)))
 (.q (false,oq 80 (.mv (.tmp 10)))
 (.q (false,oq 83 (.fld 1 (.tmp 4)))
 (.q (false,oq 79 (.load false 1 (.tmp 78)))
 (.q (true,oq 84 (.load false 1 (.tmp 83)))
 (.alt
 (false,
 .mk (some 81) none
 (.buildS 25 1 [.slice none 0 0] [(0,1,.tmp 80)]))
 (.alt
 (false,
 .mk (some 82) none
 (.append 28 25 1 24 (.slice none 0 0) (.tmp 79) (.tmp 81)))
 (.q (false,oq 87 (.fld 2 (.tmp 4)))
 (.alt
 (false,
 .mk (some 85) none
 (.buildS 3 1 [.int .i64 0]
 [(0,1,.const (.int .i64 0))]))
 (.alt
 (false,
 .mk (some 86) none
 (.append 25 3 1 8 (.int .i64 0) (.tmp 84)
 (.tmp 85)))
 (.alt
 (false,.mk none none (.store 1 (.tmp 87) (.tmp 82)))
 (.q (false,oq 88 (.fld 1 (.tmp 4)))
 (.alt
 (false,.mk none none (.store 1 (.tmp 88) (.tmp 86)))
 .fin .no))
 .no)
 .no)
 .no))
 (.alt
 (false,
 .mk (some 85) none
 (.buildS 3 1 [.int .i64 0]
 [(0,1,.const (.int .i64 0))]))
 (.alt
 (false,
 .mk (some 82) none
 (.append 28 25 1 24 (.slice none 0 0) (.tmp 79)
 (.tmp 81)))
 (.q (false,oq 87 (.fld 2 (.tmp 4)))
 (.alt
 (false,
 .mk (some 86) none
 (.append 25 3 1 8 (.int .i64 0) (.tmp 84)
 (.tmp 85)))
 (.alt
 (false,.mk none none (.store 1 (.tmp 87) (.tmp 82)))
 (.q (false,oq 88 (.fld 1 (.tmp 4)))
 (.alt
 (false,
 .mk none none (.store 1 (.tmp 88) (.tmp 86)))
 .fin .no))
 .no)
 .no))
 .no)
 .no))
 (.alt
 (false,
 .mk (some 85) none
 (.buildS 3 1 [.int .i64 0]
 [(0,1,.const (.int .i64 0))]))
 (.alt
 (false,
 .mk (some 81) none
 (.buildS 25 1 [.slice none 0 0] [(0,1,.tmp 80)]))
 (.alt
 (false,
 .mk (some 82) none
 (.append 28 25 1 24 (.slice none 0 0) (.tmp 79)
 (.tmp 81)))
 (.q (false,oq 87 (.fld 2 (.tmp 4)))
 (.alt
 (false,
 .mk (some 86) none
 (.append 25 3 1 8 (.int .i64 0) (.tmp 84)
 (.tmp 85)))
 (.alt
 (false,.mk none none (.store 1 (.tmp 87) (.tmp 82)))
 (.q (false,oq 88 (.fld 1 (.tmp 4)))
 (.alt
 (false,
 .mk none none (.store 1 (.tmp 88) (.tmp 86)))
 .fin .no))
 .no)
 .no))
 .no)
 .no)
 .no)))))))
 [2,4])
 (.seq
 (.region
 [oq 89 (.load true 3 (.tmp 4)),
 .mk none none (.store 3 (.tmp 2) (.tmp 89))]
 [2])
 .ret))))))))
def S171 : FnS := ⟨90,[(2,some (true,3))],S171_0⟩
theorem tr171 : trFn Try.prog 171 [1,2,4] [[1,2],[1,2,13],[2],[1,2,3],[1,2,3,4],[1,2,3,4,22,23,24],[4,24],[1,2,3,22,23],[1,2,3,4,22,23,24,25],[4],[1,2,3,22,23,24],[1,2,3,4,5,6,22,23,24],[1,2,3,4,5,6,7,22,23,24],[1,2,3,4,5,7,22,23,24,29,30,31],[7,31],[1,2,3,4,5,22,23,24,29,30],[1,2,3,4,5,7,22,23,24,29,30,31,32],[7],[1,2,3,4,5,22,23,24,29,30,31],[1,2,3,4,5,7,9,22,23,24,29,30,31],[9],[1,2,3,4,5,7,22,23,24,29,30,31],[1,2,3,4,5,7,9,22,23,24,29,30,31,36],[1,2,3,4,5,7,9,22,23,24,29,30,31],[1,2,3,4,5,7,22,23,24,29,30,31],[1,2,3,4,5,7,22,23,24,29,30,31],[1,2,3,4,5,22,23,24],[1,2,3,4,22,23,24,54],[1,2,3,4,22,23,24],[1,2,3,4,22,23,24],[1,2,3,4,22,23,24],[1,2,3,4,10],[2,3,4,10,70,71],[10,71],[2,3,4,70],[2,3,4,10,70,71,72],[2,3,4,10,70,71],[2,3,4,10,70,71],[2,4],[],[2,0,2,2,2,5,2,1,2,6,3,3,3,4,2,9,3,7,3,8,3,10,2,11,3,12,0,1,1,1,1,3,7,3,4,2,9,3,8,3,10,2,11,3,12,0,1,1,1,1,1,3,7,3,3,3,4,2,9,3,8,3,10,2,11,3,12,0,1,1,1,1,1,1],[6],[],[0],[],[2],[0,1,2,3],[],[5],[],[0,1,2,3,4,5,6,7],[0,1,2,3,4,5,6],[0,1,2,3,4,5,6,7,8,9],[0,1,2,3,4,5,6,7,8,9,10],[0,1,2,3,4,5,6,7,8,9,10,11],[2]] = some S171 := by kernel_rfl
/- The automaton of all other words: compare.Other walked; no condition. -/
set_option maxHeartbeats 2000000 in
theorem cmp_other {Γr : Ctx} {d : Da} {A B : Option Addr × Nat} (D : VD d) (h0 : dfF d = 0) (hA : SlOk (lk Γr) A.1 A.2 d.ac) (hB : SlOk (lk Γr) B.1 B.2 d.nx) :
  Ret Try.prog 171 [.agg #[.int .i64 d.st, .slice A.1 d.ac.length A.2, .slice B.1 d.nx.length B.2]] Γr [] (fun v Γ => ∃ gx A' c' B' e', Γ = [gx] ∧ v = .agg #[.int .i64 d.st, .slice A' (othD d).ac.length c', .slice B' (othD d).nx.length e'] ∧ SlOk (lk [gx]) A' c' (othD d).ac ∧ SlOk (lk [gx]) B' e' (othD d).nx) := by
 generalize hR : (fun (v : Value) (Γ : Ctx) => ∃ gx A' c' B' e', _) = R
 refine ret_of_vc tr171 (Nat.le_of_ble_eq_true rfl) ?_
 have hdl := D.len
 have hac := D.acc
 have hcol := D.cols
 simp -implicitDefEqProofs only [S171, S171_0, go_sem,zA,zB,zC,zD,zE,reduceCtorEq,↓reduceIte,zF,zG,zH,zI]
 intro b0 b1
 refine CallVC.read (Γ := []) (dfa_check (Γr := [] ++ Γr) hA hB) ?_
 rintro v Γ' ⟨rfl, rfl⟩
 rw [h0]
 simp -implicitDefEqProofs only [go_sem,zA,zB,zC,zD,zE,reduceCtorEq,↓reduceIte,zF,zG,zH,zI]
 intro b2
 refine s_loop (fun f vs Γ => ∃ (gn ga gr : PH) (vn va : Value) (k : Nat), vs = [.box b2 94 [.int .i64 d.st, va, vn], .v true (.int .i64 k)] ∧ Γ = [gn, ga, gr] ∧ k + f = d.nx.length ∧ Bld gn (lk [gr]) 25 vn ((d.nx.take k).map (fun row => row.map (othX d.nx.length))) ∧ Bld ga (lk []) 3 va ((d.ac.take k).map othA)) d.nx.length
  (Up.emp (Up.emp (Up.emp (Up.here ⟨emp, emp, emp, _, _, 0, rfl, rfl, by omega, Bld.nil _ _ _, Bld.nil _ _ _⟩)))) ?_
 rintro f vs Γ ⟨gn, ga, gr, vn, va, k, rfl, rfl, hkf, hBn, hBa⟩
 obtain ⟨An, cn, rfl⟩ := hBn.val
 obtain ⟨Aa, ca, rfl⟩ := hBa.val
 simp -implicitDefEqProofs only [S171_8, go_sem,zA,zB,zC,zD,zE,reduceCtorEq,↓reduceIte,zF,zG,zH,zI]
 refine ⟨fun hlt => ?_, fun hge => ?_⟩
 ·have hk : k < d.nx.length := by omega
  obtain ⟨b3, o3, hB3, A4, c4, hs4, hc4⟩ := hB.list hk
  obtain ⟨b5, o5, hA5, hc5⟩ := hA.int (i := k) (by omega)
  have hrl := D.row _ (List.getElem_mem hk)
  have htk := List.take_succ_eq_append_getElem hk
  have hta := List.take_succ_eq_append_getElem (l := d.ac) (i := k) (by omega)
  have hnl : ((d.nx.take k).map (fun row => row.map (othX d.nx.length))).length = k := by simp; omega
  have hal : ((d.ac.take k).map othA).length = k := by simp; omega
  have hrx : ∀ x ∈ d.nx[k], -1 ≤ x ∧ x < d.nx.length := D.to _ (List.getElem_mem hk)
  obtain ⟨row, hrow⟩ : ∃ row, d.nx[k] = row := ⟨_, rfl⟩
  obtain ⟨y, hy⟩ : ∃ y, d.ac[k]'(by omega) = y := ⟨_, rfl⟩
  rw [hrow] at hs4 hc4 hrl htk hrx
  rw [hy] at hc5 hta
  refine s_split ?_
  simp -implicitDefEqProofs only [S171_6, S171_7, go_sem,zA,zB,zC,zD,zE,reduceCtorEq,↓reduceIte,zF,zG,zH,zI]
  refine s_idx hB3 (by omega) (by omega) ?_
  simp -implicitDefEqProofs only [go_sem,zA,zB,zC,zD,zE,reduceCtorEq,↓reduceIte,zF,zG,zH,zI]
  refine s_ld0 (hc4 _ (lk_r _ _)) (by simp) (by simp) ?_
  simp -implicitDefEqProofs only [go_sem,zA,zB,zC,zD,zE,reduceCtorEq,↓reduceIte,zF,zG,zH,zI]
  refine s_loop (fun f2 vs Γ => ∃ (go : PH) (v : Value) (j : Nat), vs = [.v true v, .v true (.int .i64 j)] ∧ Γ = [go, gn, ga, gr] ∧ j + f2 = row.length ∧ Bld go (lk []) 3 v ((row.take j).map (othX d.nx.length))) row.length
   (Up.emp (Up.here ⟨emp, _, 0, rfl, rfl, by omega, Bld.nil _ _ _⟩)) ?_
  rintro f2 vs Γ ⟨go, v, j, rfl, rfl, hjf, hBo⟩
  obtain ⟨Ao, co, rfl⟩ := hBo.val
  simp -implicitDefEqProofs only [S171_5, go_sem,zA,zB,zC,zD,zE,reduceCtorEq,↓reduceIte,zF,zG,zH,zI]
  refine ⟨fun hlt2 => ?_, fun hge2 => ?_⟩
  ·have hj : j < row.length := by omega
   obtain ⟨b6, o6, hA6, hc6⟩ := hs4.int hj
   have htj := List.take_succ_eq_append_getElem hj
   have hol : ((row.take j).map (othX d.nx.length)).length = j := by simp; omega
   obtain ⟨x, hx⟩ : ∃ x, row[j] = x := ⟨_, rfl⟩
   rw [hx] at hc6 htj
   have happ : ∀ (x' : Int), othX d.nx.length x = x' → ∀ go' v', Bld go' (lk []) 3 v' ((row.take j).map (othX d.nx.length) ++ [x']) → Bld go' (lk []) 3 v' ((row.take (j + 1)).map (othX d.nx.length)) := by
    intro x' h go' v' hb
    rw [htj, List.map_append, List.map_singleton, h]
    exact hb
   refine s_split ?_
   simp -implicitDefEqProofs only [S171_3, S171_4, go_sem,zA,zB,zC,zD,zE,reduceCtorEq,↓reduceIte,zF,zG,zH,zI]
   refine s_idx hA6 (by omega) (by omega) ?_
   simp -implicitDefEqProofs only [go_sem,zA,zB,zC,zD,zE,reduceCtorEq,↓reduceIte,zF,zG,zH,zI]
   refine s_ld0 (hc6 _ (lk_r _ _)) (by simp) (by simp) ?_
   simp -implicitDefEqProofs only [go_sem,zA,zB,zC,zD,zE,reduceCtorEq,↓reduceIte,zF,zG,zH,zI]
   refine s_split ?_
   simp -implicitDefEqProofs only [S171_1, S171_2, go_sem,zA,zB,zC,zD,zE,reduceCtorEq,↓reduceIte,zF,zG,zH,zI]
   refine ⟨fun hneg => Up.here ?_, fun hpos => Up.here ?_⟩
   ·intro b7
    refine s_app1S (ix := 1) (d.nx.length : Int) rfl hBo cells_one rfl (by omega) (by unfold maxLen; omega) ?_
    intro v8 go' hB8 _
    simp -implicitDefEqProofs only [go_sem,zA,zB,zC,zD,zE,reduceCtorEq,↓reduceIte,zF,zG,zH,zI]
    simp (disch := omega) only [wrap_id]
    exact Up.here ⟨f2 - 1, by omega, Up.skip (Up.here ⟨go', _, j + 1, rfl, rfl, by omega, happ _ (if_pos hneg) _ _ hB8⟩)⟩
   ·intro b7
    refine s_app1S (ix := 1) x rfl hBo cells_one rfl (by omega) (by unfold maxLen; omega) ?_
    intro v8 go' hB8 _
    simp -implicitDefEqProofs only [go_sem,zA,zB,zC,zD,zE,reduceCtorEq,↓reduceIte,zF,zG,zH,zI]
    simp (disch := omega) only [wrap_id]
    exact Up.here ⟨f2 - 1, by omega, Up.skip (Up.here ⟨go', _, j + 1, rfl, rfl, by omega, happ _ (if_neg hpos) _ _ hB8⟩)⟩
  ·have hj : j = row.length := by omega
   rw [hj, List.take_length] at hBo
   rw [hj, List.take_length]
   obtain ⟨_, _, e1, hso⟩ := hBo.slok (L' := lk [go]) (Mem.le.refl _) (lk_sub (by simp)) (by simp; omega)
   simp only [Value.slice.injEq, true_and] at e1
   obtain ⟨rfl, rfl⟩ := e1
   intro b7
   refine s_app1 (ix := 2) (L' := lk [go, gr]) (x := row.map (othX d.nx.length)) rfl hBn (lk_sub (by simp)) ⟨_, _, rfl, hso.mono (lk_sub (by simp))⟩ cells_one rfl (by omega) (by unfold maxLen; omega) ?_
   intro v8 gn' hB8 _
   obtain ⟨A8, c8, rfl⟩ := hB8.val
   rw [show (d.nx.take k).map (fun row => row.map (othX d.nx.length)) ++ [row.map (othX d.nx.length)] = (d.nx.take (k + 1)).map (fun row => row.map (othX d.nx.length)) by rw [htk]; simp] at hB8 ⊢
   simp -implicitDefEqProofs only [go_sem,zA,zB,zC,zD,zE,reduceCtorEq,↓reduceIte,zF,zG,zH,zI]
   refine s_idx hA5 (by omega) (by omega) ?_
   simp -implicitDefEqProofs only [go_sem,zA,zB,zC,zD,zE,reduceCtorEq,↓reduceIte,zF,zG,zH,zI]
   refine s_ld0 (hc5 _ (lk_r _ _)) (by simp) (by simp) ?_
   simp -implicitDefEqProofs only [go_sem,zA,zB,zC,zD,zE,reduceCtorEq,↓reduceIte,zF,zG,zH,zI]
   refine ⟨fun hneg => ?_, fun hpos => ?_⟩
   ·intro b9
    refine s_app1S (ix := 4) (0 : Int) rfl hBa cells_one rfl (by omega) (by unfold maxLen; omega) ?_
    intro v10 ga' hB10 _
    obtain ⟨A10, c10, rfl⟩ := hB10.val
    rw [show (d.ac.take k).map othA ++ [0] = (d.ac.take (k + 1)).map othA by rw [hta]; simp [othA, hneg]] at hB10 ⊢
    simp -implicitDefEqProofs only [go_sem,zA,zB,zC,zD,zE,reduceCtorEq,↓reduceIte,zF,zG,zH,zI]
    simp (disch := omega) only [wrap_id]
    refine Up.here ⟨f - 1, by omega, Up.sel [[3], [4], [2, 5]] (by decide) fun _ hm2 => ⟨gn', ga', _, _, _, k + 1, rfl, rfl, by omega, hB8.mono (Mem.le.refl _) (Mem.le.trans (lk_sub (by simp [sel])) (hm2 [2, 5] (by simp))), hB10⟩⟩
   ·intro b9
    refine s_app1S (ix := 4) (-1 : Int) rfl hBa cells_one rfl (by omega) (by unfold maxLen; omega) ?_
    intro v10 ga' hB10 _
    obtain ⟨A10, c10, rfl⟩ := hB10.val
    rw [show (d.ac.take k).map othA ++ [-1] = (d.ac.take (k + 1)).map othA by rw [hta]; simp [othA, hpos]] at hB10 ⊢
    simp -implicitDefEqProofs only [go_sem,zA,zB,zC,zD,zE,reduceCtorEq,↓reduceIte,zF,zG,zH,zI]
    simp (disch := omega) only [wrap_id]
    refine Up.here ⟨f - 1, by omega, Up.sel [[3], [4], [2, 5]] (by decide) fun _ hm2 => ⟨gn', ga', _, _, _, k + 1, rfl, rfl, by omega, hB8.mono (Mem.le.refl _) (Mem.le.trans (lk_sub (by simp [sel])) (hm2 [2, 5] (by simp))), hB10⟩⟩
 ·have hk : k = d.nx.length := by omega
  have hA0 : d.ac.take k = d.ac := List.take_of_length_le (by omega)
  rw [hk, List.take_length] at hBn
  rw [hA0] at hBa
  rw [hA0, hk, List.take_length, List.length_map, List.length_map] at *
  obtain ⟨b3, o3, hB3, A4, c4, hs4, hc4⟩ := hB.list (i := 0) (by omega)
  have hcl := cols_at (d := d) (by omega)
  rw [hcl] at hc4
  refine s_idx hB3 (by omega) (by omega) ?_
  simp -implicitDefEqProofs only [go_sem,zA,zB,zC,zD,zE,reduceCtorEq,↓reduceIte,zF,zG,zH,zI]
  refine s_ld0 (hc4 _ (lk_r _ _)) (by simp) (by simp) ?_
  simp -implicitDefEqProofs only [go_sem,zA,zB,zC,zD,zE,reduceCtorEq,↓reduceIte,zF,zG,zH,zI]
  refine s_loop (fun f2 vs Γ => ∃ (gl : PH) (v : Value) (j : Nat), vs = [.v true v, .v true (.int .i64 j)] ∧ Γ = [gl, gn, ga, gr] ∧ j + f2 = colsD d ∧ Bld gl (lk []) 3 v (List.replicate j (d.nx.length : Int))) (colsD d)
   (Up.emp (Up.here ⟨emp, _, 0, rfl, rfl, by omega, Bld.nil _ _ _⟩)) ?_
  rintro f2 vs Γ ⟨gl, v, j, rfl, rfl, hjf, hBl⟩
  obtain ⟨Al, cl, rfl⟩ := hBl.val
  rw [List.length_replicate] at hBl ⊢
  have hll : (List.replicate j (d.nx.length : Int)).length = j := by simp
  simp -implicitDefEqProofs only [S171_9, go_sem,zA,zB,zC,zD,zE,reduceCtorEq,↓reduceIte,zF,zG,zH,zI]
  refine ⟨fun hlt2 => ?_, fun hge2 => ?_⟩
  ·intro b7
   refine s_app1S (ix := 1) (d.nx.length : Int) rfl hBl cells_one rfl (by simp; omega) (by unfold maxLen; simp; omega) ?_
   intro v8 gl' hB8 _
   rw [← List.replicate_succ'] at hB8
   simp -implicitDefEqProofs only [go_sem,zA,zB,zC,zD,zE,reduceCtorEq,↓reduceIte,zF,zG,zH,zI]
   simp (disch := omega) only [wrap_id]
   exact ⟨f2 - 1, by omega, Up.skip (Up.here ⟨gl', _, j + 1, rfl, rfl, by omega, hB8⟩)⟩
  ·have hj : j = colsD d := by omega
   subst hj
   obtain ⟨_, _, e1, hso⟩ := hBl.slok (L' := lk [gl]) (Mem.le.refl _) (lk_sub (by simp)) (by simp; omega)
   simp only [Value.slice.injEq, true_and] at e1
   obtain ⟨_, rfl, rfl⟩ : _ ∧ Al = _ ∧ cl = _ := ⟨trivial, e1.1, e1.2.2⟩
   have hon : (d.nx.map (fun row => row.map (othX d.nx.length)) ++ [List.replicate (colsD d) (d.nx.length : Int)]) = (othD d).nx := rfl
   have hoa : d.ac.map othA ++ [0] = (othD d).ac := rfl
   refine ⟨[gl, gn, ga, gr], [], fun ψ Γ' => ∃ (gn ga gr : PH) (An Aa : Option Addr) (cn ca : Nat), ψ = [(2, .box b1 94 [.int .i64 0, .slice none 0 0, .slice none 0 0]), (4, .box b2 94 [.int .i64 d.st, .slice Aa (othD d).ac.length ca, .slice An (othD d).nx.length cn])] ∧
    Γ' = [gn, ga, gr] ∧ Bld gn (lk [gr]) 25 (.slice An (othD d).nx.length cn) (othD d).nx ∧ Bld ga (lk []) 3 (.slice Aa (othD d).ac.length ca) (othD d).ac, Ent.refl _, ?_, ?_⟩
   ·simp -implicitDefEqProofs only [go_sem,zA,zB,zC,zD,zE,reduceCtorEq,↓reduceIte,zF,zG,zH,zI]
    have hlen2 : (d.ac.map othA).length ≤ 200 := by simp; omega
    refine ⟨fun b => ⟨?_, fun b' => ?_⟩, fun b' b => ?_⟩
    ·refine s_app1 (ix := 2) (L' := lk [gl, gr]) (x := List.replicate (colsD d) (d.nx.length : Int)) rfl hBn (lk_sub (by simp)) ⟨Al, cl, by rw [List.length_replicate], hso.mono (lk_sub (by simp))⟩ cells_one rfl (by simp; omega) (by unfold maxLen; simp; omega) ?_
     intro v8 gn' hB8 _
     rw [hon] at hB8
     obtain ⟨A8, c8, rfl⟩ := hB8.val
     simp -implicitDefEqProofs only [go_sem,zA,zB,zC,zD,zE,reduceCtorEq,↓reduceIte,zF,zG,zH,zI]
     intro b'
     refine s_app1S (ix := 4) (0 : Int) rfl hBa cells_one rfl (by omega) (by unfold maxLen; simp; omega) ?_
     intro v10 ga' hB10 _
     rw [hoa] at hB10
     obtain ⟨A10, c10, rfl⟩ := hB10.val
     simp -implicitDefEqProofs only [go_sem,zA,zB,zC,zD,zE,reduceCtorEq,↓reduceIte,zF,zG,zH,zI]
     exact Up.sel [[3], [4], [2, 5]] (by decide) fun _ hm2 => ⟨gn', ga', _, A8, A10, c8, c10, rfl, rfl, hB8.mono (Mem.le.refl _) (Mem.le.trans (lk_sub (by simp [sel])) (hm2 [2, 5] (by simp))), hB10⟩
    ·refine s_app1 (ix := 3) (L' := lk [gl, gr]) (x := List.replicate (colsD d) (d.nx.length : Int)) rfl hBn (lk_sub (by simp)) ⟨Al, cl, by rw [List.length_replicate], hso.mono (lk_sub (by simp))⟩ (cells_lk ⟨_, List.mem_cons_of_mem _ (List.mem_cons_self ..), one_self _ _⟩) rfl (by simp; omega) (by unfold maxLen; simp; omega) ?_
     intro v8 gn' hB8 _
     rw [hon] at hB8
     obtain ⟨A8, c8, rfl⟩ := hB8.val
     simp -implicitDefEqProofs only [go_sem,zA,zB,zC,zD,zE,reduceCtorEq,↓reduceIte,zF,zG,zH,zI]
     refine s_app1S (ix := 4) (0 : Int) rfl hBa cells_one rfl (by omega) (by unfold maxLen; simp; omega) ?_
     intro v10 ga' hB10 _
     rw [hoa] at hB10
     obtain ⟨A10, c10, rfl⟩ := hB10.val
     simp -implicitDefEqProofs only [go_sem,zA,zB,zC,zD,zE,reduceCtorEq,↓reduceIte,zF,zG,zH,zI]
     exact Up.sel [[3], [4], [2, 5]] (by decide) fun _ hm2 => ⟨gn', ga', _, A8, A10, c8, c10, rfl, rfl, hB8.mono (Mem.le.refl _) (Mem.le.trans (lk_sub (by simp [sel])) (hm2 [2, 5] (by simp))), hB10⟩
    ·refine s_app1 (ix := 3) (L' := lk [gl, gr]) (x := List.replicate (colsD d) (d.nx.length : Int)) rfl hBn (lk_sub (by simp)) ⟨Al, cl, by rw [List.length_replicate], hso.mono (lk_sub (by simp))⟩ cells_one rfl (by simp; omega) (by unfold maxLen; simp; omega) ?_
     intro v8 gn' hB8 _
     rw [hon] at hB8
     obtain ⟨A8, c8, rfl⟩ := hB8.val
     simp -implicitDefEqProofs only [go_sem,zA,zB,zC,zD,zE,reduceCtorEq,↓reduceIte,zF,zG,zH,zI]
     refine s_app1S (ix := 4) (0 : Int) rfl hBa (cells_lk ⟨_, List.mem_cons_of_mem _ (List.mem_cons_self ..), one_self _ _⟩) rfl (by omega) (by unfold maxLen; simp; omega) ?_
     intro v10 ga' hB10 _
     rw [hoa] at hB10
     obtain ⟨A10, c10, rfl⟩ := hB10.val
     simp -implicitDefEqProofs only [go_sem,zA,zB,zC,zD,zE,reduceCtorEq,↓reduceIte,zF,zG,zH,zI]
     exact Up.sel [[3], [4], [2, 5]] (by decide) fun _ hm2 => ⟨gn', ga', _, A8, A10, c8, c10, rfl, rfl, hB8.mono (Mem.le.refl _) (Mem.le.trans (lk_sub (by simp [sel])) (hm2 [2, 5] (by simp))), hB10⟩
   ·rintro ψ Γ' ⟨gn, ga, gr, An, Aa, cn, ca, rfl, rfl, hBn, hBa⟩
    simp -implicitDefEqProofs only [go_sem,zA,zB,zC,zD,zE,reduceCtorEq,↓reduceIte,zF,zG,zH,zI]
    refine Up.one fun gx hx => ?_
    subst hR
    have hol : (othD d).nx.length ≤ 300 := by simp [othD]; omega
    have hoal : (othD d).ac.length ≤ 300 := by simp [othD]; omega
    obtain ⟨_, _, e2, h2⟩ := hBn.slok (L' := lk [gx]) (Mem.le.trans (lk_sub (by simp)) hx) (Mem.le.trans (lk_sub (by simp)) hx) (by omega)
    obtain ⟨_, _, e3, h3⟩ := hBa.slok (L' := lk [gx]) (Mem.le.trans (lk_sub (by simp)) hx) (lk_sub (by simp)) (by omega)
    simp only [Value.slice.injEq, true_and] at e2 e3
    obtain ⟨rfl, rfl⟩ := e2
    obtain ⟨rfl, rfl⟩ := e3
    exact ⟨gx, _, _, _, _, rfl, rfl, h3, h2⟩
/- Ways through an automaton as lists, and what is reached by them; the plain law; no condition. -/
/-- the states behind a symbol -/
def aftL (T : Int → Int → List Int) (d : Da) (q : Int) (s : Sy) : List Int := if s.t = true then (if 0 ≤ stepD d q s.n then [stepD d q s.n] else []) else T q s.n
/-- the ways from q to p, each as the states behind q -/
def waysF (T : Int → Int → List Int) (d : Da) : List Sy → Int → Int → List (List Int)
 | [], q, p => if q = p then [[]] else []
 | s :: l, q, p => (aftL T d q s).flatMap fun x => (waysF T d l x p).map (x :: ·)
abbrev TofL (T : Int → Int → List Int) (q n p : Int) : Prop := p ∈ T q n
theorem mem_aft {T : Int → Int → List Int} {d : Da} {q x : Int} {s : Sy} : x ∈ aftL T d q s ↔ AftQ (TofL T) d q s x := by
 unfold aftL AftQ
 by_cases h : s.t = true
 ·rw [if_pos h, if_pos h]
  split
  ·rename_i h2
   simp only [List.mem_singleton]
   constructor
   ·rintro rfl; exact ⟨rfl, h2⟩
   ·exact fun q => q.1
  ·rename_i h2
   simp only [List.not_mem_nil, false_iff]
   rintro ⟨rfl, q⟩
   exact h2 q
 ·rw [if_neg h, if_neg h]
theorem mem_ways {T : Int → Int → List Int} {d : Da} : ∀ {l : List Sy} {q p : Int} {xs : List Int}, xs ∈ waysF T d l q p ↔ PthL (TofL T) d l q xs ∧ lastQ q xs = p
 | [], q, p, xs => by
  simp only [waysF, PthL]
  split
  ·rename_i h
   simp only [List.mem_singleton]
   constructor
   ·rintro rfl; exact ⟨rfl, h⟩
   ·exact fun h => h.1
  ·rename_i h
   simp only [List.not_mem_nil, false_iff]
   rintro ⟨rfl, q1⟩
   exact h q1
 | s :: l, q, p, xs => by
  simp only [waysF, List.mem_flatMap, List.mem_map]
  constructor
  ·rintro ⟨x, hx, ys, hy, rfl⟩
   obtain ⟨h1, h2⟩ := mem_ways.1 hy
   exact ⟨⟨x, ys, rfl, mem_aft.1 hx, h1⟩, by rw [lastQ_cons]; exact h2⟩
  ·rintro ⟨⟨x, ys, rfl, h1, h2⟩, h3⟩
   rw [lastQ_cons] at h3
   exact ⟨x, mem_aft.2 h1, ys, mem_ways.2 ⟨h2, h3⟩, rfl⟩
theorem aft_len {T : Int → Int → List Int} {d : Da} {m : Nat} (hm : 1 ≤ m) (hT : ∀ q n, (T q n).length ≤ m) (q : Int) (s : Sy) : (aftL T d q s).length ≤ m := by
 unfold aftL
 split
 ·split <;> simp <;> omega
 ·exact hT q s.n
theorem aft_nodup {T : Int → Int → List Int} {d : Da} (hT : ∀ q n, (T q n).Nodup) (q : Int) (s : Sy) : (aftL T d q s).Nodup := by
 unfold aftL
 split
 ·split <;> simp
 ·exact hT q s.n
theorem flat_len {α β : Type} {m : Nat} (f : α → List β) (h : ∀ x, (f x).length ≤ m) : ∀ l : List α, (l.flatMap f).length ≤ l.length * m
 | [] => by simp
 | x :: l => by
  rw [List.flatMap_cons, List.length_append, List.length_cons, Nat.add_mul, Nat.one_mul]
  have := flat_len f h l
  have := h x
  omega
theorem ways_one (p : Int) : ∀ l : List Int, l.Nodup → (l.flatMap fun x => (if x = p then [[]] else ([] : List (List Int))).map (x :: ·)).length ≤ 1
 | [], _ => by simp
 | x :: l, h => by
  obtain ⟨h1, h2⟩ := List.nodup_cons.1 h
  rw [List.flatMap_cons, List.length_append]
  have ih := ways_one p l h2
  by_cases e : x = p
  ·subst e
   have : (l.flatMap fun y => (if y = x then [[]] else ([] : List (List Int))).map (y :: ·)) = [] := by
    rw [List.flatMap_eq_nil_iff]
    intro y hy
    have : y ≠ x := fun q => h1 (q ▸ hy)
    simp [this]
   rw [this]
   simp
  ·rw [if_neg e]
   simpa using ih
theorem ways_len {T : Int → Int → List Int} {d : Da} {m : Nat} (hm : 1 ≤ m) (hT : ∀ q n, (T q n).length ≤ m) (hN : ∀ q n, (T q n).Nodup) : ∀ {l : List Sy} {q p : Int}, l ≠ [] → (waysF T d l q p).length ≤ m ^ (l.length - 1)
 | [], q, p, h => absurd rfl h
 | [s], q, p, _ => by
  simp only [waysF, List.length_singleton, Nat.sub_self, Nat.pow_zero]
  exact ways_one p _ (aft_nodup hN q s)
 | s :: s' :: l, q, p, _ => by
  have h1 : ∀ x, ((waysF T d (s' :: l) x p).map (x :: ·)).length ≤ m ^ l.length := fun x => by
   have := ways_len (d := d) hm hT hN (l := s' :: l) (q := x) (p := p) (by simp)
   rw [List.length_map]
   simpa using this
  have h2 := flat_len (fun x => (waysF T d (s' :: l) x p).map (x :: ·)) h1 (aftL T d q s)
  have h3 := Nat.mul_le_mul_right (m ^ l.length) (aft_len (d := d) hm hT q s)
  show ((aftL T d q s).flatMap fun x => (waysF T d (s' :: l) x p).map (x :: ·)).length ≤ m ^ (l.length + 1)
  rw [Nat.pow_succ, Nat.mul_comm]
  omega
theorem ways_le {T : Int → Int → List Int} {d : Da} (hT : ∀ q n, (T q n).length ≤ 12) (hN : ∀ q n, (T q n).Nodup) {l : List Sy} (hl : l.length ≤ 4) (q p : Int) : (waysF T d l q p).length ≤ 1728 := by
 by_cases h : l = []
 ·subst h
  simp only [waysF]
  split <;> simp
 ·have h1 := ways_len (d := d) (by omega) hT hN (q := q) (p := p) h
  have h2 : 12 ^ (l.length - 1) ≤ 12 ^ 3 := Nat.pow_le_pow_right (by omega) (by omega)
  omega

/-! what is reached -/
/-- the nonterminals of a way, in order -/
def triL : List Sy → Int → List Int → List Tri
 | s :: l, q, x :: xs => (if s.t = true then [] else [(q, s.n, x)]) ++ triL l x xs
 | _, _, _ => []
theorem triIn_iff {U : Tri → Prop} : ∀ {l : List Sy} {q : Int} {xs : List Int}, triIn U l q xs ↔ ∀ t ∈ triL l q xs, U t
 | [], q, xs => by simp [triIn, triL]
 | s :: l, q, [] => by simp [triIn, triL]
 | s :: l, q, x :: xs => by
  simp only [triIn, triL, List.mem_append]
  rw [triIn_iff (l := l)]
  constructor
  ·rintro ⟨h1, h2⟩ t (h | h)
   ·split at h
    ·cases h
    ·rename_i hs
     simp only [List.mem_singleton] at h
     subst h
     exact h1 (by simpa using hs)
   ·exact h2 t h
  ·intro h
   refine ⟨fun hs => h _ (.inl ?_), fun t ht => h t (.inr ht)⟩
   rw [if_neg (by simp [hs])]
   simp
inductive ReaQ (g : Gr) (d : Da) (T : Int → Int → List Int) : Tri → Prop
 | start {p : Int} (h : p ∈ T d.st g.st) (ha : 0 ≤ accD d p) : ReaQ g d T (d.st, g.st, p)
 | step {t t' : Tri} {r : Ru} {xs : List Int} (h : ReaQ g d T t) (hr : r ∈ g.rs) (hl : r.l = t.2.1) (hx : xs ∈ waysF T d r.r t.1 t.2.2) (ht : t' ∈ triL r.r t.1 xs) : ReaQ g d T t'
/-- how many rules a nonterminal of the product has -/
def cntW (g : Gr) (d : Da) (T : Int → Int → List Int) (t : Tri) : Nat := (g.rs.map fun r => if r.l = t.2.1 then (waysF T d r.r t.1 t.2.2).length else 0).sum
def endsL (g : Gr) (d : Da) (T : Int → Int → List Int) : List Int := (T d.st g.st).filter fun p => decide (0 ≤ accD d p)
/-- the rules of the product, and where they come from -/
def startR (g : Gr) (d : Da) (T : Int → Int → List Int) (num : Tri → Int) : List (Ru × Int) := (endsL g d T).map fun p => (⟨0, [⟨false, num (d.st, g.st, p)⟩]⟩, -1)
def rulesT (g : Gr) (d : Da) (T : Int → Int → List Int) (num : Tri → Int) (t : Tri) : List (Ru × Int) :=
 g.rs.zipIdx.flatMap fun ri => if ri.1.l = t.2.1 then (waysF T d ri.1.r t.1 t.2.2).map fun xs => (⟨num t, symW num ri.1.r t.1 xs⟩, (ri.2 : Int)) else []
def rulesP (g : Gr) (d : Da) (T : Int → Int → List Int) (num : Tri → Int) (used : List Tri) : List (Ru × Int) := startR g d T num ++ used.flatMap (rulesT g d T num)
theorem mem_rulesP {g : Gr} {d : Da} {T : Int → Int → List Int} {num : Tri → Int} {used : List Tri} {r : Ru} : r ∈ (rulesP g d T num used).map (·.1) ↔ (∃ p, TofL T d.st g.st p ∧ 0 ≤ accD d p ∧ r = ⟨0, [⟨false, num (d.st, g.st, p)⟩]⟩) ∨
  ∃ t, t ∈ used ∧ ∃ r0 ∈ g.rs, r0.l = t.2.1 ∧ ∃ xs, PthL (TofL T) d r0.r t.1 xs ∧ lastQ t.1 xs = t.2.2 ∧ r = ⟨num t, symW num r0.r t.1 xs⟩ := by
 simp only [rulesP, startR, endsL, rulesT, List.map_append, List.mem_append, List.mem_map, List.mem_flatMap, List.mem_filter, decide_eq_true_eq]
 refine or_congr ?_ ?_
 ·constructor
  ·rintro ⟨_, ⟨p, ⟨h1, h2⟩, rfl⟩, rfl⟩
   exact ⟨p, h1, h2, rfl⟩
  ·rintro ⟨p, h1, h2, rfl⟩
   exact ⟨_, ⟨p, ⟨h1, h2⟩, rfl⟩, rfl⟩
 ·constructor
  ·rintro ⟨⟨x, f⟩, ⟨t, ht, ⟨r0, i⟩, hri, hx⟩, rfl⟩
   have hr0 : r0 ∈ g.rs := by
    obtain ⟨h1, h2, h3⟩ := List.mem_zipIdx hri
    rw [h3]; exact List.getElem_mem _
   split at hx
   ·rename_i hl
    obtain ⟨xs, h1, h2⟩ := List.mem_map.1 hx
    simp only [Prod.mk.injEq] at h2
    obtain ⟨h3, h4⟩ := mem_ways.1 h1
    exact ⟨t, ht, r0, hr0, hl, xs, h3, h4, h2.1.symm⟩
   ·cases hx
  ·rintro ⟨t, ht, r0, hr0, hl, xs, h1, h2, rfl⟩
   obtain ⟨i, hi, rfl⟩ := List.getElem_of_mem hr0
   refine ⟨(_, (i : Int)), ⟨t, ht, (g.rs[i], i), ?_, ?_⟩, rfl⟩
   ·rw [List.mem_zipIdx_iff_getElem?]
    simp [hi]
   ·rw [if_pos hl]
    exact List.mem_map.2 ⟨xs, mem_ways.2 ⟨h1, h2⟩, rfl⟩
/-- the place of an element, from 1 on -/
def numU (used : List Tri) (t : Tri) : Int := (used.idxOf t : Int) + 1
theorem prd_of {g : Gr} {d : Da} (V : VG g) (D : VD d) {T : Int → Int → List Int} {used : List Tri} (hu : ∀ t, t ∈ used ↔ ReaQ g d T t) (hst : ∀ t ∈ used, StQ d t.1) : PrdQ g d (TofL T) (· ∈ used) (numU used) ((rulesP g d T (numU used) used).map (·.1)) where
 rules r := mem_rulesP
 inj t t' h h' e := by
  have e : used.idxOf t = used.idxOf t' := by unfold numU at e; omega
  have h1 := List.idxOf_lt_length_of_mem h
  have h2 := List.idxOf_lt_length_of_mem h'
  have h3 := List.getElem_idxOf h1
  have h4 := List.getElem_idxOf h2
  rw [← h3, ← h4]
  simp only [e]
 pos t h := by unfold numU; omega
 start p h1 h2 := (hu _).2 (.start h1 h2)
 closed t h r0 hr hl xs h1 h2 := triIn_iff.2 fun t' ht' => (hu _).2 (.step ((hu _).1 h) hr hl (mem_ways.2 ⟨h1, h2⟩) ht')
 st t h := hst t h
/-- a list that has the starts, is closed, and has nothing else -/
theorem rea_of {g : Gr} {d : Da} {T : Int → Int → List Int} {row : List Tri} (h1 : ∀ t ∈ row, ReaQ g d T t) (h2 : ∀ p ∈ endsL g d T, (d.st, g.st, p) ∈ row) (h3 : ∀ t ∈ row, ∀ r ∈ g.rs, r.l = t.2.1 → ∀ xs ∈ waysF T d r.r t.1 t.2.2, ∀ t' ∈ triL r.r t.1 xs, t' ∈ row) (t : Tri) : t ∈ row ↔ ReaQ g d T t := by
 refine ⟨h1 t, fun h => ?_⟩
 induction h with
 | start h ha => exact h2 _ (by simp [endsL, h, ha])
 | step _ hr hl hx ht ih => exact h3 _ ih _ hr hl _ hx _ ht
/-- states and nonterminals of what is reached -/
theorem pth_st {g : Gr} {d : Da} (V : VG g) (D : VD d) (hT : g.ts = colsD d) {T : Int → Int → List Int} (hst : ∀ q n p, p ∈ T q n → StQ d p) : ∀ {l : List Sy} {q : Int} {xs : List Int}, (∀ s ∈ l, 0 ≤ s.n ∧ (s.t = true → s.n < g.ts) ∧ (s.t = false → s.n < g.ns)) → StQ d q → PthL (TofL T) d l q xs → (∀ x ∈ xs, StQ d x) ∧ ∀ t ∈ triL l q xs, StQ d t.1 ∧ (0 ≤ t.2.1 ∧ t.2.1 < g.ns) ∧ StQ d t.2.2
 | [], q, xs, _, _, h => by
  have h : xs = [] := h
  subst h
  exact ⟨fun x hx => by simp at hx, fun t ht => by simp [triL] at ht⟩
 | s :: l, q, xs, hl, hq, h => by
  obtain ⟨x, r, rfl, h1, h2⟩ := h
  have hs := hl s (by simp)
  have hx : StQ d x := by
   unfold AftQ at h1
   split at h1
   ·rename_i ht
    obtain ⟨rfl, h3⟩ := h1
    have := D.step hq (x := s.n) ⟨hs.1, by rw [← hT]; exact hs.2.1 ht⟩
    exact ⟨h3, this.2⟩
   ·exact hst _ _ _ h1
  obtain ⟨h3, h4⟩ := pth_st V D hT hst (fun s' q' => hl s' (by simp [q'])) hx h2
  refine ⟨fun y hy => ?_, fun t ht => ?_⟩
  ·rcases List.mem_cons.1 hy with rfl | hy
   ·exact hx
   ·exact h3 y hy
  ·simp only [triL, List.mem_append] at ht
   rcases ht with ht | ht
   ·split at ht
    ·cases ht
    ·rename_i hn
     simp only [List.mem_singleton] at ht
     subst ht
     exact ⟨hq, ⟨hs.1, hs.2.2 (by simpa using hn)⟩, hx⟩
   ·exact h4 t ht
theorem rea_st {g : Gr} {d : Da} (V : VG g) (D : VD d) (hT : g.ts = colsD d) {T : Int → Int → List Int} (hst : ∀ q n p, p ∈ T q n → StQ d p) {t : Tri} (h : ReaQ g d T t) : StQ d t.1 ∧ (0 ≤ t.2.1 ∧ t.2.1 < g.ns) ∧ StQ d t.2.2 := by
 induction h with
 | start h _ => exact ⟨D.st, V.st, hst _ _ _ h⟩
 | step _ hr hl hx ht ih => exact (pth_st V D hT hst (V.sym _ hr) ih.1 (mem_ways.1 hx).1).2 _ ht
theorem nod_bound : ∀ (M : Nat) (l : List Nat), l.Nodup → (∀ x ∈ l, x < M) → l.length ≤ M
 | 0, [], _, _ => Nat.le_refl _
 | 0, x :: l, _, h => by have := h x (by simp); omega
 | M + 1, l, hn, h => by
  have h1 := nod_bound M (l.erase M) (hn.erase M) (fun x hx => by
   rw [hn.mem_erase_iff] at hx
   have := h x hx.2
   have := hx.1
   omega)
  rw [List.length_erase] at h1
  split at h1 <;> omega
/-- so many they are at most -/
theorem tri_many {n m k : Nat} : ∀ {row : List Tri}, row.Nodup → (∀ t ∈ row, (0 ≤ t.1 ∧ t.1 < n) ∧ (0 ≤ t.2.1 ∧ t.2.1 < m) ∧ (0 ≤ t.2.2 ∧ t.2.2 < k)) → row.length ≤ n * m * k := by
 intro row hn hb
 have h1 : (row.map fun t => (t.1.toNat * m + t.2.1.toNat) * k + t.2.2.toNat).Nodup := by
  rw [List.nodup_iff_pairwise_ne, List.pairwise_map]
  refine (List.Pairwise.and_mem.1 hn).imp ?_
  rintro ⟨a, b, c⟩ ⟨a', b', c'⟩ ⟨h1, h2, h3⟩ e
  have q1 := hb _ h1
  have q2 := hb _ h2
  simp only at q1 q2 e
  have e2 : c.toNat = c'.toNat := by
   have := congrArg (· % k) e
   simpa [Nat.mul_comm _ k, Nat.mul_add_mod, Nat.mod_eq_of_lt (show c.toNat < k by omega), Nat.mod_eq_of_lt (show c'.toNat < k by omega)] using this
  have e3 : (a.toNat * m + b.toNat) * k = (a'.toNat * m + b'.toNat) * k := by omega
  have hk : 0 < k := by omega
  have e4 := Nat.eq_of_mul_eq_mul_right hk e3
  have e5 : b.toNat = b'.toNat := by
   have := congrArg (· % m) e4
   simpa [Nat.mul_comm _ m, Nat.mul_add_mod, Nat.mod_eq_of_lt (show b.toNat < m by omega), Nat.mod_eq_of_lt (show b'.toNat < m by omega)] using this
  have e6 : a.toNat * m = a'.toNat * m := by omega
  have e7 := Nat.eq_of_mul_eq_mul_right (show 0 < m by omega) e6
  exact h3 (by simp only [Prod.mk.injEq]; omega)
 have h2 : ∀ x ∈ row.map (fun t => (t.1.toNat * m + t.2.1.toNat) * k + t.2.2.toNat), x ∈ List.range (n * m * k) := by
  intro x hx
  obtain ⟨⟨a, b, c⟩, ht, rfl⟩ := List.mem_map.1 hx
  have q := hb _ ht
  simp only at q
  rw [List.mem_range]
  have h3 : a.toNat * m + b.toNat + 1 ≤ n * m := by
   have := Nat.mul_le_mul_right m (show a.toNat + 1 ≤ n by omega)
   rw [Nat.add_mul, Nat.one_mul] at this
   omega
  have h4 := Nat.mul_le_mul_right k h3
  rw [Nat.add_mul, Nat.one_mul] at h4
  show (a.toNat * m + b.toNat) * k + c.toNat < n * m * k
  have : c.toNat < k := by omega
  omega
 have := nod_bound (n * m * k) _ h1 fun x hx => List.mem_range.1 (h2 x hx)
 simpa using this
/- Keys that are pairs or triples of whole numbers; no condition. -/
theorem prog_laid : laidOutB Try.prog = true := by kernel_rfl
theorem kt_two : KT Try.prog 291 intsV (okInts 2) := kt_ints (P := Try.prog) (k := 291) (e := 3) (n := 2) prog_laid (of_decide_eq_true (by kernel_rfl)) (of_decide_eq_true (by kernel_rfl)) (by kernel_rfl) (by kernel_rfl) (by kernel_rfl) (by kernel_rfl) (by kernel_rfl) (by kernel_rfl)
theorem kt_three : KT Try.prog 126 intsV (okInts 3) := kt_ints (P := Try.prog) (k := 126) (e := 3) (n := 3) prog_laid (of_decide_eq_true (by kernel_rfl)) (of_decide_eq_true (by kernel_rfl)) (by kernel_rfl) (by kernel_rfl) (by kernel_rfl) (by kernel_rfl) (by kernel_rfl) (by kernel_rfl)
/-- numbers that are keys -/
def keyI (x : Int) : Prop := -1 ≤ x ∧ x < 100000
theorem key_wf {x : Int} (h : keyI x) : (Lit.int .i64 x).wf = true := wf64 (by have := h.1; omega) (by have := h.2; omega)
theorem key_two {a b : Int} (ha : keyI a) (hb : keyI b) : okInts 2 [a, b] := ⟨rfl, fun x hx => by simp at hx; rcases hx with rfl | rfl <;> exact key_wf ‹_›⟩
theorem key_three {a b c : Int} (ha : keyI a) (hb : keyI b) (hc : keyI c) : okInts 3 [a, b, c] := ⟨rfl, fun x hx => by simp at hx; rcases hx with rfl | rfl | rfl <;> exact key_wf ‹_›⟩
/- Natural numbers and headers of slices as data; no condition. -/
instance : Sc Nat := ⟨fun x => .int .i64 (x : Int), fun _ => rfl, fun _ => rfl⟩
/-- a slice's header -/
structure Hd where
 A : Option Addr
 n : Nat
 c : Nat
def Hd.v (h : Hd) : Value := .slice h.A h.n h.c
instance : Sc Hd := ⟨Hd.v, fun _ => rfl, fun _ => rfl⟩
theorem SlOk.hd {h : Mem} {A : Option Addr} {c : Nat} {xs : List Hd} (q : SlOk h A c xs) {i : Nat} (hi : i < xs.length) :
  ∃ b o, A = some ⟨b, o, none⟩ ∧ ∀ Γ : Ctx, Mem.le h (lk Γ) → Cells Γ b (o + i) [.slice xs[i].A xs[i].n xs[i].c] := by
 obtain ⟨b, o, hA, cs, h1, h2⟩ := q.get hi
 obtain rfl := ok_sc h1
 exact ⟨b, o, hA, fun Γ h => by simpa [Rep.sz, Sc.enc, Hd.v] using h2 Γ h⟩
/-- headers, each of which leads to its list -/
def HdsOk {α : Type} [Rep α] (L : Mem) (hs : List Hd) (xss : List (List α)) : Prop := hs.length = xss.length ∧ ∀ (i : Nat) (h : Hd) (xs : List α), hs[i]? = some h → xss[i]? = some xs → h.n = xs.length ∧ SlOk L h.A h.c xs
theorem HdsOk.mono {α : Type} [Rep α] {L L' : Mem} {hs : List Hd} {xss : List (List α)} (h : HdsOk L hs xss) (hL : Mem.le L L') : HdsOk L' hs xss :=
 ⟨h.1, fun i x xs h1 h2 => let ⟨q1, q2⟩ := h.2 i x xs h1 h2; ⟨q1, q2.mono hL⟩⟩
theorem HdsOk.slok {α : Type} [Rep α] {L L1 L2 : Mem} {A : Option Addr} {c : Nat} {hs : List Hd} {xss : List (List α)} (h : SlOk L1 A c hs) (hx : HdsOk L2 hs xss) (h1 : Mem.le L1 L) (h2 : Mem.le L2 L) : SlOk L A c xss := by
 have hl := hx.1
 refine ⟨by rw [← hl]; exact h.cap, h.max, by rw [← hl]; exact h.short, ?_⟩
 rcases h.at' with q | ⟨b, o, cells, T, fr, hA, hb, hq⟩
 ·subst q
  exact .inl (List.eq_nil_of_length_eq_zero (by simpa using hl.symm))
 ·refine .inr ⟨b, o, cells, T, fr, hA, h1 _ _ hb, fun i xs hi => ?_⟩
  have hil : i < hs.length := by rw [hl]; exact (List.getElem?_eq_some_iff.1 hi).1
  obtain ⟨cs, q1, q2⟩ := hq i _ (List.getElem?_eq_getElem hil)
  obtain rfl := ok_sc q1
  obtain ⟨r1, r2⟩ := hx.2 i _ xs (List.getElem?_eq_getElem hil) hi
  refine ⟨[.slice hs[i].A hs[i].n hs[i].c], ⟨hs[i].A, hs[i].c, by rw [r1], r2.mono h2⟩, q2⟩
theorem HdsOk.set {α : Type} [Rep α] {L L' : Mem} {hs : List Hd} {xss : List (List α)} {h : Hd} {xs : List α} (i : Nat) (hx : HdsOk L hs xss) (hL : Mem.le L L') (hn : h.n = xs.length) (hh : SlOk L' h.A h.c xs) : HdsOk L' (hs.set i h) (xss.set i xs) := by
 refine ⟨by simp [hx.1], fun j y ys h1 h2 => ?_⟩
 by_cases e : j = i
 ·subst e
  have hj : j < hs.length := by simpa using (List.getElem?_eq_some_iff.1 h1).1
  have hj2 : j < xss.length := by rw [← hx.1]; exact hj
  rw [List.getElem?_set_self hj] at h1
  rw [List.getElem?_set_self hj2] at h2
  cases h1; cases h2
  exact ⟨hn, hh⟩
 ·rw [List.getElem?_set_ne (fun q => e q.symm)] at h1 h2
  obtain ⟨r1, r2⟩ := hx.2 j y ys h1 h2
  exact ⟨r1, r2.mono hL⟩
theorem HdsOk.made {α : Type} [Rep α] (L : Mem) (n : Nat) : HdsOk (α := α) L (List.replicate n ⟨none, 0, 0⟩) (List.replicate n []) := by
 refine ⟨by simp, fun i h xs h1 h2 => ?_⟩
 rw [List.getElem?_replicate] at h1 h2
 split at h1
 ·rename_i q
  rw [if_pos q] at h2
  cases h1; cases h2
  exact ⟨rfl, SlOk.nil⟩
 ·cases h1

/- The text of (*parlance/meet.maker).after as a statement; no condition. -/
def S216_0 : Stmt :=
 .seq
 (.region
 [oq 5 (.box true 53 (.tmp 2)),
 oq 6 (.mv (.const (.slice none 0 0)))]
 [0,1,5])
 (.seq
 (.seq
 (.region
 [oq 8 (.fld 0 (.tmp 5)),oq 9 (.load false 1 (.tmp 8)),
 oq 10 (.un .not (.tmp 9))]
 [0,1,5,10])
 (.cond (.tmp 10)
 (.seq
 (.quiet
 [oq 11 (.mv (.tmp 0)),oq 12 (.nilCheck (.tmp 11)),
 oq 13 (.fld 7 (.tmp 12)),
 oq 14 (.load false 1 (.tmp 13)),
 oq 15 (.mv (.tmp 1)),oq 16 (.fld 1 (.tmp 5)),
 oq 17 (.load false 1 (.tmp 16)),
 .mk (some 18) none
 (.build 291 [.int .i64 0,.int .i64 0]
 [(0,1,.tmp 15),(1,1,.tmp 17)]),
 oq 19 (.q (Qk.look 247 false) [.tmp 14,.tmp 18]),
 oq 6 (.mv (.tmp 19))]
 [6])
 .ret)
 .skip))
 (.seq
 (.seq
 (.quiet
 [oq 20 (.mv (.tmp 0)),oq 21 (.nilCheck (.tmp 20)),
 oq 22 (.fld 4 (.tmp 21)),oq 23 (.fld 2 (.tmp 22)),
 oq 24 (.load false 1 (.tmp 23)),
 oq 25 (.mv (.tmp 1)),
 oq 26 (.idx 1 (.tmp 24) (.tmp 25)),
 oq 27 (.load false 1 (.tmp 26)),
 oq 28 (.fld 1 (.tmp 5)),
 oq 29 (.load false 1 (.tmp 28)),
 oq 30 (.idx 1 (.tmp 27) (.tmp 29)),
 oq 31 (.load false 1 (.tmp 30)),
 oq 7 (.mv (.tmp 31))]
 [7])
 (.seq
 (.region
 [oq 32 (.mv (.tmp 7)),
 oq 33 (.ibin .geq (.tmp 32) (.const (.int .i64 0)))]
 [7,33])
 (.cond (.tmp 33)
 (.seq
 (.region
 [oq 34 (.mv (.tmp 7)),
 oq 35 (.buildS 3 1 [.int .i64 0] [(0,1,.tmp 34)]),
 oq 6 (.mv (.tmp 35))]
 [6])
 .ret)
 .skip)))
 (.seq (.region [oq 6 (.mv (.const (.slice none 0 0)))] [6]) .ret)))
def S216 : FnS := ⟨36,[(6,none)],S216_0⟩
theorem tr216 : trFn Try.prog 216 [5] [[0,1,5],[0,1,5,10],[6],[7],[7,33],[6],[6]] = some S216 := by kernel_rfl
/- What follows a symbol in a product: meet's after walked; no condition. -/
/-- a map from pairs to lists of states: its entries lead to lists in L -/
def TabL (Lm L : Mem) (b : Nat) (T : Int → Int → List Int) : Prop := ∃ l : List (List Int × Hd), MapL Lm b intsV Hd.v (okInts 2) l ∧ ∀ q n, (mget l [q, n] = none → T q n = []) ∧ ∀ h, mget l [q, n] = some h → h.n = (T q n).length ∧ SlOk L h.A h.c (T q n)
theorem TabL.mono {Lm Lm' L L' : Mem} {b : Nat} {T : Int → Int → List Int} (h : TabL Lm L b T) (h1 : Mem.le Lm Lm') (h2 : Mem.le L L') : TabL Lm' L' b T := by
 obtain ⟨l, q1, q2⟩ := h
 exact ⟨l, q1.mono h1, fun q n => ⟨(q2 q n).1, fun x hx => let ⟨r1, r2⟩ := (q2 q n).2 x hx; ⟨r1, r2.mono h2⟩⟩⟩
theorem TabL.look {Γ : Ctx} {L : Mem} {b : Nat} {T : Int → Int → List Int} (h : TabL (lk Γ) L b T) {q n : Int} (hq : keyI q) (hn : keyI n) :
  ∃ A c, SlOk L A c (T q n) ∧ QR Try.prog (.look 247 false) [.map (some b), intsV [q, n]] Γ (.slice A (T q n).length c) := by
 obtain ⟨l, h1, h2⟩ := h
 have := qr_look kt_two (t := 247) (et := 25) (z := .slice none 0 0) (by kernel_rfl) (zero_run (by kernel_rfl)) false h1 (key_two hq hn)
 cases hg : mget l [q, n] with
 | none =>
  rw [hg] at this
  rw [(h2 q n).1 hg]
  exact ⟨none, 0, SlOk.nil, this⟩
 | some x =>
  rw [hg] at this
  obtain ⟨r1, r2⟩ := (h2 q n).2 x hg
  refine ⟨x.A, x.c, r2, ?_⟩
  rw [← r1]
  exact this
/-- the maker of a product lies in memory -/
def mkrC (g : Gr) (d : Da) (G : Option Addr × Nat) (A : Option Addr × Nat) (B : Option Addr × Nat) (bm : Nat) (u : Value) : List Value :=
 [.int .i64 g.ts, .int .i64 g.ns, .int .i64 g.st, .slice G.1 g.rs.length G.2, .int .i64 d.st, .slice A.1 d.ac.length A.2, .slice B.1 d.nx.length B.2, .map (some bm), u]
section
variable {Γr : Ctx} {g : Gr} {d : Da} {G A B : Option Addr × Nat} {pm bm : Nat} {u : Value} {T : Int → Int → List Int}
theorem meet_after (hm : ∃ w, lk Γr pm (.cells (mkrC g d G A B bm u).toArray w (0, 0))) (hB : SlOk (lk Γr) B.1 B.2 d.nx) (D : VD d) (hT : g.ts = colsD d) (htab : TabL (lk Γr) (lk Γr) bm T) {q : Int} (hq : StQ d q) {s : Sy} (h0 : 0 ≤ s.n) (h1 : s.t = true → s.n < g.ts) (h2 : s.t = false → s.n < 100) :
  Ret Try.prog 216 [.pointer (some ⟨pm, 0, none⟩), .int .i64 q, .agg #[.bool s.t, .int .i64 s.n]] Γr [] (fun v Γ => ∃ gx A' c', Γ = [gx] ∧ v = .slice A' (aftL T d q s).length c' ∧ SlOk (lk (Γ ++ Γr)) A' c' (aftL T d q s)) := by
 generalize hR : (fun (v : Value) (Γ : Ctx) => ∃ gx A' c', _) = R
 refine ret_of_vc tr216 (Nat.le_of_ble_eq_true rfl) ?_
 obtain ⟨w, hm⟩ := hm
 obtain ⟨t, n⟩ := s
 have hlen := D.len
 have h0 : 0 ≤ n := h0
 cases t
 ·simp only [forall_const, Bool.false_eq_true, false_implies] at h1 h2
  obtain ⟨A', c', hs, hl⟩ := htab.look (q := q) (n := n) ⟨by have := hq.1; omega, by have := hq.2; omega⟩ ⟨by omega, by omega⟩
  simp -implicitDefEqProofs only [S216, S216_0, go_sem,zA,zB,zC,zD,zE,reduceCtorEq,↓reduceIte,zF,zG,zH,zI]
  intro b
  refine s_ld (j := 7) (cells_lk hm) (by simp [mkrC]) (by simp) ?_
  simp only [mkrC]
  simp -implicitDefEqProofs only [go_sem,zA,zB,zC,zD,zE,reduceCtorEq,↓reduceIte,zF,zG,zH,zI]
  refine s_q trivial hl ?_
  simp -implicitDefEqProofs only [go_sem,zA,zB,zC,zD,zE,reduceCtorEq,↓reduceIte,zF,zG,zH,zI]
  refine Up.one fun gx hx => ?_
  subst hR
  exact ⟨gx, A', c', rfl, rfl, hs.mono (lk_r _ _)⟩
 ·have h1 : n < g.ts := h1 rfl
  obtain ⟨qn, rfl⟩ : ∃ k : Nat, q = k := ⟨q.toNat, by have := hq.1; omega⟩
  obtain ⟨xn, rfl⟩ : ∃ k : Nat, n = k := ⟨n.toNat, by omega⟩
  have hql : qn < d.nx.length := by have := hq.2; omega
  have hrl := D.row _ (List.getElem_mem hql)
  have hxl : xn < d.nx[qn].length := by omega
  have hst := step_at hql hxl
  obtain ⟨b1, o1, hB1, A1, c1, hr1, hc1⟩ := hB.list hql
  obtain ⟨b2, o2, hA2, hc2⟩ := hr1.int hxl
  simp -implicitDefEqProofs only [S216, S216_0, go_sem,zA,zB,zC,zD,zE,reduceCtorEq,↓reduceIte,zF,zG,zH,zI]
  intro b
  refine s_ld (j := 6) (cells_lk hm) (by simp [mkrC]) (by simp) ?_
  simp only [mkrC]
  simp -implicitDefEqProofs only [go_sem,zA,zB,zC,zD,zE,reduceCtorEq,↓reduceIte,zF,zG,zH,zI]
  refine s_idx hB1 (by omega) (by omega) ?_
  simp -implicitDefEqProofs only [go_sem,zA,zB,zC,zD,zE,reduceCtorEq,↓reduceIte,zF,zG,zH,zI]
  refine s_ld0 (hc1 _ (lk_r _ _)) (by simp) (by simp) ?_
  simp -implicitDefEqProofs only [go_sem,zA,zB,zC,zD,zE,reduceCtorEq,↓reduceIte,zF,zG,zH,zI]
  refine s_idx hA2 (by omega) (by omega) ?_
  simp -implicitDefEqProofs only [go_sem,zA,zB,zC,zD,zE,reduceCtorEq,↓reduceIte,zF,zG,zH,zI]
  refine s_ld0 (hc2 _ (lk_r _ _)) (by simp) (by simp) ?_
  simp -implicitDefEqProofs only [go_sem,zA,zB,zC,zD,zE,reduceCtorEq,↓reduceIte,zF,zG,zH,zI]
  have haf : aftL T d qn ⟨true, xn⟩ = if 0 ≤ d.nx[qn][xn] then [d.nx[qn][xn]] else [] := by simp only [aftL, if_true, hst]
  rw [haf] at hR
  generalize d.nx[qn][xn] = p at *
  refine ⟨fun hp => ?_, fun hp => ?_⟩
  ·rw [if_pos hp] at hR
   intro b3
   refine Up.here ?_
   subst hR
   exact ⟨_, _, 1, rfl, rfl, lit_slok [p] rfl (by simp)⟩
  ·rw [if_neg hp] at hR
   refine Up.one fun gx hx => ?_
   subst hR
   exact ⟨gx, none, 0, rfl, rfl, SlOk.nil⟩
end
/- Tables of states that follow by nonterminals, which grow: the plain law; no condition. -/
def updT (T : Int → Int → List Int) (q n : Int) (l : List Int) : Int → Int → List Int := fun q' n' => if q' = q ∧ n' = n then l else T q' n'
structure TabI (g : Gr) (d : Da) (T : Int → Int → List Int) : Prop where
 snd : SndQ g d (TofL T)
 srt : ∀ q n, (T q n).Pairwise (· < ·)
 rng : ∀ q n p, p ∈ T q n → StQ d q ∧ (0 ≤ n ∧ n < g.ns) ∧ StQ d p
theorem srt_nodup {l : List Int} (h : l.Pairwise (· < ·)) : l.Nodup := h.imp fun {a b} q => by intro e; omega
theorem srt_len {m : Nat} {l : List Int} (h : l.Pairwise (· < ·)) (hb : ∀ p ∈ l, 0 ≤ p ∧ p < m) : l.length ≤ m := by
 have h1 : (l.map Int.toNat).Nodup := by
  rw [List.nodup_iff_pairwise_ne, List.pairwise_map]
  refine (List.Pairwise.and_mem.1 h).imp ?_
  rintro a b ⟨ha, hb', hab⟩
  have := hb a ha
  omega
 have := nod_bound m _ h1 fun x hx => by
  obtain ⟨y, hy, rfl⟩ := List.mem_map.1 hx
  have := hb y hy
  omega
 simpa using this
def szT (T : Int → Int → List Int) : Nat := ((List.range 12).map fun q : Nat => ((List.range 10).map fun n : Nat => (T q n).length).sum).sum
theorem sum_le' {f h : Nat → Nat} : ∀ N, (∀ i, i < N → f i ≤ h i) → ((List.range N).map f).sum ≤ ((List.range N).map h).sum
 | 0, _ => by simp
 | N + 1, hh => by
  rw [List.range_succ, List.map_append, List.map_append, List.sum_append, List.sum_append]
  have := sum_le' N fun i hi => hh i (by omega)
  have := hh N (by omega)
  simp
  omega
theorem sum_lt' {f h : Nat → Nat} {k : Nat} : ∀ N, (∀ i, i < N → f i ≤ h i) → k < N → f k < h k → ((List.range N).map f).sum < ((List.range N).map h).sum
 | 0, _, hk, _ => by omega
 | N + 1, hh, hk, hlt => by
  rw [List.range_succ, List.map_append, List.map_append, List.sum_append, List.sum_append]
  by_cases e : k = N
  ·subst e
   have := sum_le' k fun i hi => hh i (by omega)
   simp
   omega
  ·have := sum_lt' N (fun i hi => hh i (by omega)) (by omega) hlt
   have := hh N (by omega)
   simp
   omega
theorem sum_const {f : Nat → Nat} {m : Nat} (N : Nat) (h : ∀ i, i < N → f i ≤ m) : ((List.range N).map f).sum ≤ N * m := by
 have h1 := sum_le' (h := fun _ => m) N h
 have h2 : ∀ N, ((List.range N).map fun _ => m).sum = N * m := by
  intro N
  induction N with
  | zero => simp
  | succ N ih => rw [List.range_succ, List.map_append, List.sum_append, ih, Nat.add_mul]; simp
 rw [h2] at h1
 exact h1
theorem szT_le {g : Gr} {d : Da} {T : Int → Int → List Int} (h : TabI g d T) (h12 : d.nx.length ≤ 12) : szT T ≤ 1440 := by
 have h1 : ∀ q n, (T q n).length ≤ 12 := fun q n => srt_len (h.srt q n) fun p hp => by have := (h.rng q n p hp).2.2; exact ⟨this.1, by have := this.2; omega⟩
 have h2 : ∀ q : Nat, ((List.range 10).map fun n : Nat => (T q n).length).sum ≤ 120 := fun q => sum_const 10 (m := 12) fun n _ => h1 q n
 exact sum_const 12 (m := 120) fun q _ => h2 q
theorem szT_upd {T : Int → Int → List Int} {q n : Int} (hq : 0 ≤ q ∧ q < 12) (hn : 0 ≤ n ∧ n < 10) {l : List Int} (hl : (T q n).length < l.length) : szT T < szT (updT T q n l) := by
 have hup : ∀ q' n', (T q' n').length ≤ (updT T q n l q' n').length := fun q' n' => by
  unfold updT
  split
  ·rename_i e; rw [e.1, e.2]; omega
  ·exact Nat.le_refl _
 refine sum_lt' (k := q.toNat) 12 (fun i hi => sum_le' 10 fun j hj => hup _ _) (by omega) (sum_lt' (k := n.toNat) 10 (fun j hj => hup _ _) (by omega) ?_)
 have e1 : ((q.toNat : Nat) : Int) = q := by omega
 have e2 : ((n.toNat : Nat) : Int) = n := by omega
 rw [e1, e2]
 simp [updT, hl]
theorem szT_zero : szT (fun _ _ => []) = 0 := by decide
theorem TabI.zero (g : Gr) (d : Da) : TabI g d fun _ _ => [] := ⟨fun _ _ _ h => by simp [TofL] at h, fun _ _ => List.Pairwise.nil, fun _ _ _ h => by simp at h⟩
theorem TabI.upd {g : Gr} {d : Da} (V : VG g) {T : Int → Int → List Int} (h : TabI g d T) {r : Ru} (hr : r ∈ g.rs) {q : Int} (hq : StQ d q) {l : List Int} (hs : l.Pairwise (· < ·)) (hl : ∀ p, p ∈ l ↔ p ∈ T q r.l ∨ ChnQ (TofL T) d r.r q p) (hst : ∀ p, ChnQ (TofL T) d r.r q p → StQ d p) : TabI g d (updT T q r.l l) where
 snd q' n' p hp := by
  unfold TofL updT at hp
  split at hp
  ·rename_i e
   obtain ⟨rfl, rfl⟩ := e
   rcases (hl p).1 hp with z | z
   ·exact h.snd _ _ _ z
   ·obtain ⟨w, h1, h2⟩ := chn_sound h.snd z
    exact ⟨w, ⟨r, hr, rfl, h1⟩, h2⟩
  ·exact h.snd _ _ _ hp
 srt q' n' := by
  unfold updT
  split
  ·exact hs
  ·exact h.srt _ _
 rng q' n' p hp := by
  unfold updT at hp
  split at hp
  ·rename_i e
   obtain ⟨rfl, rfl⟩ := e
   rcases (hl p).1 hp with z | z
   ·exact h.rng _ _ _ z
   ·exact ⟨hq, V.left r hr, hst p z⟩
  ·exact h.rng _ _ _ hp
theorem aft_st {g : Gr} {d : Da} (D : VD d) (hT : g.ts = colsD d) {T : Int → Int → List Int} (h : TabI g d T) {q : Int} (hq : StQ d q) {s : Sy} (h0 : 0 ≤ s.n) (h1 : s.t = true → s.n < g.ts) {x : Int} (hx : AftQ (TofL T) d q s x) : StQ d x := by
 unfold AftQ at hx
 split at hx
 ·rename_i ht
  obtain ⟨rfl, h2⟩ := hx
  have := D.step hq (x := s.n) ⟨h0, by rw [← hT]; exact h1 ht⟩
  exact ⟨h2, this.2⟩
 ·exact (h.rng _ _ _ hx).2.2
/-- the states behind symbols, as a list -/
def AtS (T : Int → Int → List Int) (d : Da) (l : List Sy) (q : Int) (at' : List Int) : Prop := ∀ p, p ∈ at' ↔ ChnQ (TofL T) d l q p
/-- closed for a rule and a state -/
def ClrQ (T : Int → Int → List Int) (d : Da) (r : Ru) (q : Int) : Prop := ∀ p, ChnQ (TofL T) d r.r q p → p ∈ T q r.l
theorem len_new {a b : List Int} (ha : a.Nodup) (hb : b.Nodup) (hsub : ∀ x ∈ a, x ∈ b) : a.length ≤ b.length := by
 induction a generalizing b with
 | nil => simp
 | cons x a ih =>
  obtain ⟨h1, h2⟩ := List.nodup_cons.1 ha
  have hx := hsub x (by simp)
  have := ih h2 (hb.erase x) fun y hy => (hb.mem_erase_iff).2 ⟨fun e => h1 (e ▸ hy), hsub y (by simp [hy])⟩
  rw [List.length_erase_of_mem hx] at this
  have := List.length_pos_of_mem hx
  simp
  omega
theorem len_same {a b : List Int} (ha : a.Nodup) (hb : b.Nodup) (hsub : ∀ x ∈ a, x ∈ b) (hl : b.length ≤ a.length) : ∀ x ∈ b, x ∈ a := by
 intro x hx
 apply Classical.byContradiction
 intro hn
 have := len_new (a := x :: a) (b := b) (List.nodup_cons.2 ⟨hn, ha⟩) hb fun y hy => by
  rcases List.mem_cons.1 hy with rfl | hy
  ·exact hx
  ·exact hsub y hy
 simp at this
 omega
/- A map is ranged over; how many keys it has; bytes that become a text; no condition. -/
set_option linter.unusedSectionVars false
attribute [local go_sem] e_seq e_region e_quiet e_join e_loop e_cond e_block e_exit e_ret e_skip e_fin e_kseq e_snrm e_sret e_sex e_bnrm e_bret e_bex e_rnrm e_rret e_res e_condC e_nil e_g e_mv g_mv e_pick g_pick pickC_eq e_ibin g_ibin ibinC_eq e_sbin g_sbin e_beq g_beq beqC_eq e_nilq g_nilq nilqC_sl nilqC_pt nilqC_mp e_un g_un unC_not unC_neg e_conv g_conv convC_eq e_fld g_fld fldC_ref fldC_ptr e_nilCheck g_nilCheck nilCheckC_ref nilCheckC_ptr nilCheckC_fun e_field g_field fieldC_eq e_len g_len lenC_sl lenC_str e_extract g_extract extractC_eq e_mkFunc e_build g_build e_idiv g_idiv idivC_eq e_ishift g_ishift ishiftC_eq e_idx g_idx e_idxA g_idxA e_load g_load e_loadB g_loadB atB_ref atB_v g_mkFunc loadC_ref loadC_ptr loadB_eq e_slc g_slc e_box boxC_loc boxC_esc e_alloc allocC_loc allocC_esc e_buildS e_store storeC_ref storeC_ptr storeB_eq e_append e_appz e_mk mkC_eq e_call callC_eq e_fn g_fn fnC_eq fnV_min' fnV_max' fnV_rune' e_q g_q e_a e_n g_call g_box g_alloc g_buildS g_store g_append g_mk g_a g_n g_dead e_dead e_callK e_drawn e_tree e_finJ e_tk e_tfin e_tno e_nbt_q e_nbt_qn e_nbt_a e_nbt_an e_nbt_fin e_drawnB e_bxb_nil e_bxb e_stB_none e_stB_some boxSt_store bs_mv bs_pick bs_ibin bs_idiv bs_ishift bs_sbin bs_beq bs_nilq bs_un bs_conv bs_box bs_alloc bs_build bs_buildS bs_load bs_fld bs_nilCheck bs_idx bs_idxA bs_field bs_slc bs_len bs_append bs_appz bs_mk bs_call bs_extract bs_mkFunc bs_fn bs_q bs_a bs_n bs_loadB bs_dead isBox_box e_early_nil e_early_t e_early_f e_nob_nil e_nob_none e_nob_some isBox_dead isBox_v isBox_ref e_dnil e_dk e_ek e_finB vcOps_vc1 e_dcons e_tq e_ekt e_tearly e_talt e_dearly look_nil look_c proj_nil proj_c looks_nil looks_c zip_nil zip_c val_tmp val_const val_func slv_v slv_box slv_ref slot_tmp slot_const slot_func slotL_v slotL_box slotL_ref put_some put_none updBox_c boxSet_box gd_eq slotVals_nil slotVals_c slotVals_b boxV_box boxOn_box slotsOn_nil slotsOn_c slotsOn_b resV_one resV_two vals_nil vals_c allOn_nil allOn_c partOn_nil partOn_c partVals_nil partVals_c fits_nil fits_c fillL_nil fillL_c mkv_one mkv_agg cellsV_agg cellsV_int cellsV_bool cellsV_slice cellsV_string cellsV_pointer cellsV_func cellsV_nilf cellsV_map one'_nil one'_c oc_int oc_bool oc_slice oc_string oc_pointer oc_func oc_nilf oc_map setC_eq iv_add iv_sub iv_mul iv_eql iv_neq iv_lss iv_leq iv_gtr iv_geq iok_add iok_sub iok_mul iok_eql iok_neq iok_lss iok_leq iok_gtr iok_geq pickV_bool args0_nil args0_c bnd_none bnd_some imp_bt imp_bf imp_ebt imp_ebf imp_eb1 imp_np imp_pp beq_tt beq_tf beq_ft beq_ff cond_or cond_and e_round e_meet Int.le_refl Int.toNat_zero decide_true decide_false Bool.or_false Bool.false_or Bool.true_or Bool.or_true Bool.and_false Bool.false_and Bool.bne_false Bool.bne_true beq_iff_eq Int.cast_ofNat_Int not_false_eq_true not_true_eq_false false_and and_false false_implies true_implies true_and and_true Bool.true_and Bool.and_true Bool.not_true Bool.not_false forall_const implies_true List.take_zero List.drop_zero List.take_succ_cons List.drop_succ_cons List.take_nil List.drop_nil List.length_cons List.length_nil List.nil_append List.append_nil List.cons_append Int.toNat_natCast decide_eq_true_eq decide_eq_false_iff_not cond_true cond_false and_self List.getElem?_cons_zero List.getElem?_cons_succ List.set_cons_zero List.set_cons_succ Option.some.injEq exists_eq_left' Nat.zero_add Nat.add_zero Nat.mul_one imp_self true_or or_true or_false false_or Bool.or_eq_true Bool.or_eq_false_iff Bool.and_eq_true Bool.and_eq_false_iff Bool.not_eq_true' Bool.not_eq_false'

section
variable {α β : Type}
def kvs (es : List MapEntry) : List (Value × Value) := es.map fun e => (e.key, e.val)
def encs (eK : α → Value) (eV : β → Value) (l : List (α × β)) : List (Value × Value) := l.map fun p => (eK p.1, eV p.2)
/-- the iterator r over the map b: what is still to come -/
structure ItM (L : Mem) (g : PH) (r b : Nat) (eK : α → Value) (eV : β → Value) (left : List (α × β)) : Prop where
 at' : ∃ es clock seen, L b (.map es clock) ∧ Born es.toList clock ∧ g r = some (.mapIter (some b) clock seen clock) ∧ kvs (leftOf es seen).toList = encs eK eV left
/-- the entry that the iterator r came to -/
def CurM (L : Mem) (g : PH) (r b : Nat) (k v : Value) : Prop := ∃ (es : Array MapEntry) (clock : Nat) (seen : Array Nat) (e : MapEntry), L b (.map es clock) ∧ Born es.toList clock ∧ g r = some (.mapIter (some b) clock (seen.push e.born) clock) ∧ e ∈ es.toList ∧ e.key = k ∧ e.val = v
theorem ItM.mono {L L' : Mem} {g g' : PH} {r b : Nat} {eK : α → Value} {eV : β → Value} {left : List (α × β)} (h : ItM L g r b eK eV left) (hl : Mem.le L L') (hg : Mem.le (lk [g]) (lk [g'])) : ItM L' g' r b eK eV left := by
 obtain ⟨es, c, s, h1, h2, h3, h4⟩ := h.at'
 exact ⟨es, c, s, hl _ _ h1, h2, lk_one.1 (hg _ _ (lk_one.2 h3)), h4⟩
theorem filter_erase {es : List MapEntry} : ∀ {j : Nat} {e : MapEntry}, (es.map (·.born)).Nodup → es[j]? = some e → es.filter (fun x => x.born != e.born) = es.eraseIdx j := by
 induction es with
 | nil => intro j e _ h; simp at h
 | cons x es ih =>
  intro j e hn hj
  obtain ⟨h1, h2⟩ := List.nodup_cons.1 hn
  cases j with
  | zero =>
   simp only [List.getElem?_cons_zero, Option.some.injEq] at hj
   subst hj
   simp only [List.filter_cons, bne_self_eq_false, Bool.false_eq_true, if_false, List.eraseIdx_cons_zero]
   rw [List.filter_eq_self]
   intro y hy
   simp only [bne_iff_ne, ne_eq]
   exact fun q => h1 (List.mem_map.2 ⟨y, hy, q⟩)
  | succ j =>
   simp only [List.getElem?_cons_succ] at hj
   have hne : x.born ≠ e.born := fun q => h1 (List.mem_map.2 ⟨e, List.mem_of_getElem? hj, q.symm⟩)
   simp only [List.filter_cons, List.eraseIdx_cons_succ, bne_iff_ne, ne_eq, hne, not_false_eq_true, if_true]
   rw [ih h2 hj]
theorem left_push {es : Array MapEntry} {seen : Array Nat} {c : Nat} (hb : Born es.toList c) {j : Nat} {e : MapEntry} (hj : (leftOf es seen).toList[j]? = some e) : (leftOf es (seen.push e.born)).toList = (leftOf es seen).toList.eraseIdx j := by
 have hn : ((leftOf es seen).toList.map (·.born)).Nodup := by
  unfold leftOf
  rw [Array.toList_filter]
  exact hb.2.sublist (List.filter_sublist.map _)
 rw [← filter_erase hn hj]
 unfold leftOf
 rw [Array.toList_filter, Array.toList_filter, List.filter_filter]
 apply List.filter_congr
 intro x _
 simp only [Array.contains_push, Bool.not_or]
 rw [Bool.and_comm]
 rfl
theorem map_erase {γ δ : Type} (f : γ → δ) : ∀ (l : List γ) (j : Nat), (l.eraseIdx j).map f = (l.map f).eraseIdx j
 | [], _ => by simp
 | x :: l, 0 => rfl
 | x :: l, j + 1 => by simp [map_erase f l j]
theorem mem_erase {γ : Type} : ∀ {l : List γ} {j : Nat} {p : γ}, l[j]? = some p → ∀ x, x ∈ l ↔ x = p ∨ x ∈ l.eraseIdx j
 | [], _, _, h, _ => by simp at h
 | y :: l, 0, p, h, x => by
  simp only [List.getElem?_cons_zero, Option.some.injEq] at h
  subst h
  simp
 | y :: l, j + 1, p, h, x => by
  simp only [List.getElem?_cons_succ] at h
  have := mem_erase h x
  simp only [List.mem_cons, List.eraseIdx_cons_succ, this]
  constructor
  ·rintro (q | q | q) <;> simp [q]
  ·rintro (q | q | q) <;> simp [q]
end
section
variable {α β : Type}
variable {P : Program} {Γr : Ctx} {d : Option Nat} {rr : List SOper} {φ : Fr} {Γ : Ctx} {K : Fr → Ctx → Prop}
/-- for k, v := range m -/
theorem s_rng {L : Mem} {t kt et : TypeId} (ht : P.underlying t = some (.map kt et)) {b : Nat} {eK : α → Value} {eV : β → Value} {good : α → Prop} {l : List (α × β)} (hm : MapL L b eK eV good l) (hL : Mem.le L (lk (Γ ++ Γr)))
  (hk : ∀ r g, ItM L g r b eK eV l → vcOps P Γr rr (put φ d (.v true (.pointer (some ⟨r, 0, none⟩)))) (g :: Γ) K) : nC P Γr d rr φ Γ K (.rng t) [.map (some b)] := by
 intro w hw
 obtain ⟨es, clock, hb, he, hbo⟩ := hm.at'
 obtain ⟨h, hh, hb'⟩ := hL _ _ hb
 have hbw := hw h hh b _ hb'
 refine ⟨_, _, by simp only [qsem]; exact run_range_map w t kt et b es clock ht hbw, hk _ _ ⟨es, clock, #[], hb, hbo, one_self _ _, ?_⟩⟩
 have : leftOf es #[] = es := by
  unfold leftOf
  rw [Array.filter_eq_self]
  simp
 rw [this]
 exact he
theorem s_next {L : Mem} {g : PH} {ix r b : Nat} {eK : α → Value} {eV : β → Value} {left : List (α × β)} (hg : Γ[ix]? = some g) (hI : ItM L g r b eK eV left) (hL : Mem.le L (lk (Γ ++ Γr)))
  (hend : left = [] → vcOps P Γr rr (put φ d (.v true (.tuple #[.bool false]))) Γ K)
  (hk : ∀ g' p left', (∀ x, x ∈ left ↔ x = p ∨ x ∈ left') → left'.length + 1 = left.length → ItM L g' r b eK eV left' → CurM L g' r b (eK p.1) (eV p.2) → vcOps P Γr rr (put φ d (.v true (.tuple #[.bool true, eK p.1, eV p.2]))) (Γ.set ix g') K) :
  aC P Γr d rr φ Γ K (.next false) [.pointer (some ⟨r, 0, none⟩)] := by
 intro w hw
 obtain ⟨es, clock, seen, hb, hbo, hr, he⟩ := hI.at'
 obtain ⟨h, hh, hb'⟩ := hL _ _ hb
 have hbw := hw h hh b _ hb'
 have hgΓ : g ∈ Γ := List.mem_of_getElem? hg
 have hrw := hw g (by simp [hgΓ]) r _ hr
 have hold : ∀ x ∈ es.toList, x.born < clock := hbo.1
 rcases run_next_at (P := P) w 0 r b clock clock seen es clock hrw hbw hold (Nat.le_refl _) with ⟨h0, h1⟩ | ⟨e, hel, w1, hw1, h1⟩
 ·refine ⟨_, w, 0, by simp only [qsem]; exact h1, .inl ⟨rfl, hend ?_⟩⟩
  have hl0 : (kvs (leftOf es seen).toList).length = 0 := by simp [kvs, h0]
  rw [he] at hl0
  exact List.eq_nil_of_length_eq_zero (by simpa [encs] using hl0)
 ·obtain ⟨j, hj⟩ := List.getElem?_of_mem hel
  obtain ⟨p, hp, hk1, hv1⟩ : ∃ p, left[j]? = some p ∧ e.key = eK p.1 ∧ e.val = eV p.2 := by
   have h2 := congrArg (·[j]?) he
   simp only [kvs, encs, List.getElem?_map, hj, Option.map_some] at h2
   cases hq : left[j]? with
   | none => rw [hq] at h2; simp at h2
   | some p => rw [hq] at h2; simp at h2; exact ⟨p, rfl, h2.1, h2.2⟩
  have hes : e ∈ es.toList := by
   unfold leftOf at hel
   rw [Array.toList_filter] at hel
   exact (List.mem_filter.1 hel).1
  have hjl := (List.getElem?_eq_some_iff.1 hp).1
  have fin := hk (upd g r (.mapIter (some b) clock (seen.push e.born) clock)) p (left.eraseIdx j) (mem_erase hp) (by rw [List.length_eraseIdx_of_lt hjl]; omega)
   ⟨es, clock, _, hb, hbo, upd_self _ _ _, by
    rw [left_push hbo hj]
    have : kvs ((leftOf es seen).toList.eraseIdx j) = (kvs (leftOf es seen).toList).eraseIdx j := map_erase _ _ _
    rw [this, he]
    exact (map_erase _ _ _).symm⟩ ⟨es, clock, seen, e, hb, hbo, upd_self _ _ _, hes, hk1, hv1⟩
  rw [hk1, hv1] at h1
  rcases hw1 with rfl | rfl
  ·exact ⟨_, _, 0, by simp only [qsem]; exact h1, .inr ⟨ix, g, r, _, _, hg, hr, rfl, fin⟩⟩
  ·exact ⟨_, _, 1, by simp only [qsem]; exact h1, .inr ⟨ix, g, r, _, _, hg, hr, rfl, fin⟩⟩
theorem qr_entry {L : Mem} {g : PH} {r b : Nat} {k v : Value} (h : CurM L g r b k v) (hL : Mem.le L (lk Γ)) (hg : g ∈ Γ) : QR P .entry [.pointer (some ⟨r, 0, none⟩)] Γ (.tuple #[k, v]) := by
 intro w hw
 obtain ⟨es, clock, seen, e, hb, hbo, hr, hm, rfl, rfl⟩ := h
 obtain ⟨x, hx, hb'⟩ := hL _ _ hb
 simp only [qsem]
 have hr' := hw g hg r _ hr
 have hb2 := hw x hx b _ hb'
 have hf : es.find? (·.born == e.born) = some e := by rw [← Array.find?_toList]; exact find_born e es.toList hbo.2 hm
 simp only [Instr.entry, getObj, Sem.run_bind, Sem.run, hr', hb2, Result.andThen, Array.back?_push, bne_self_eq_false, Bool.false_eq_true, if_false, hf]
 rfl
/-- len(m) -/
theorem qr_len {t kt et : TypeId} (ht : P.underlying t = some (.map kt et)) {b : Nat} {eK : α → Value} {eV : β → Value} {good : α → Prop} {l : List (α × β)} (hm : MapL (lk Γ) b eK eV good l) : QR P (.bi 4 [t]) [.map (some b)] Γ (.int .i64 l.length) := by
 intro w hw
 obtain ⟨es, clock, hb, he, hbo⟩ := hm.at'
 obtain ⟨h, hh, hb'⟩ := hb
 have hbw := hw h hh b _ hb'
 have hsz : es.size = l.length := by
  have := congrArg List.length he
  simpa using this
 simp [qsem, Builtin.len_, run_underlying ht, MapKept.run_getObj_map hbw, goInt, hsz]
end
/-! m[k], .. = v, ..: the entry is laid first, and then written -/
section
variable {α β : Type} [DecidableEq α]
variable {P : Program} {Γr : Ctx} {d : Option Nat} {rr : List SOper} {φ : Fr} {Γ : Ctx} {K : Fr → Ctx → Prop}
/-- the map b reads as l, but for a new last entry at a -/
structure MentM (g : PH) (b : Nat) (eK : α → Value) (eV : β → Value) (good : α → Prop) (l : List (α × β)) (a : α) (stamp : Nat) : Prop where
 nodup : (l.map (·.1)).Nodup
 okA : good a
 okL : ∀ p ∈ l, good p.1
 new : a ∉ l.map (·.1)
 at' : ∃ (es : Array MapEntry) (v0 : Value), g b = some (.map (es.push { key := eK a, val := v0, born := stamp }) (stamp + 1)) ∧ es.toList.map (fun e => (e.key, e.val)) = l.map (fun p => (eK p.1, eV p.2)) ∧ Born es.toList stamp
theorem s_ment {t kt et : TypeId} {eK : α → Value} {eV : β → Value} {good : α → Prop} {z : Value} (T : KT P kt eK good) (ht : P.underlying t = some (.map kt et)) (hz : ∀ w, (zeroValue et).run P w = .ok z w) {g : PH} {ix b : Nat} {l : List (α × β)} (hg : Γ[ix]? = some g) (hm : MapM g b eK eV good l) {a : α} (ha : good a) (hno : a ∉ l.map (·.1))
  (hk : ∀ g' stamp, MentM g' b eK eV good l a stamp → (∀ k, k ≠ b → g' k = g k) → vcOps P Γr rr (put φ d (.v true (.tuple #[z, .int .i64 (stamp : Nat)]))) (Γ.set ix g') K) : aC P Γr d rr φ Γ K (.ment t) [.map (some b), eK a] := by
 intro w hw
 obtain ⟨es, clock, hb0, he, hbo⟩ := hm.at'
 have hgΓ : g ∈ Γ := List.mem_of_getElem? hg
 have hb := hw g (by simp [hgΓ]) b _ hb0
 have hc := T.check w false a ha
 rcases T.find w a ha es.toList (entry_good hm he) with ⟨h1, h2⟩ | ⟨j, e, h1, h2, h3⟩
 ·refine ⟨_, setBlk w b (.map (es.push { key := eK a, val := z, born := clock }) (clock + 1)), 0, ?_, .inr ⟨ix, g, b, _, _, hg, hb0, rfl, hk _ clock ⟨hm.nodup, ha, hm.good, hno, es, z, upd_self _ _ _, he, hbo⟩ fun k hne => upd_other hne⟩⟩
  simp [qsem, Instr.mapEntry, run_underlying ht, MapKept.run_getObj_map hb, hc, h1, hz w, MapKept.run_setObj_map _ hb, Result.andThen, setBlk, goInt]
 ·exfalso
  obtain ⟨p, hp, hk', hv⟩ := entry_of he h2
  have hpa : p.1 = a := T.inj _ _ (by rw [← hk', h3])
  exact hno (List.mem_map.2 ⟨p, List.mem_of_getElem? hp, hpa⟩)
theorem s_estore {t : TypeId} {eK : α → Value} {eV : β → Value} {good : α → Prop} {g : PH} {ix b : Nat} {l : List (α × β)} {a : α} {stamp : Nat} (hg : Γ[ix]? = some g) (hm : MentM g b eK eV good l a stamp) (v : β)
  (hk : ∀ g', MapM g' b eK eV good (l ++ [(a, v)]) → (∀ k, k ≠ b → g' k = g k) → vcOps P Γr rr (put φ d (.v true undef)) (Γ.set ix g') K) : aC P Γr d rr φ Γ K (.estore t) [.map (some b), .int .i64 (stamp : Nat), eV v] := by
 intro w hw
 obtain ⟨es, v0, hb0, he, hbo⟩ := hm.at'
 have hgΓ : g ∈ Γ := List.mem_of_getElem? hg
 have hb := hw g (by simp [hgΓ]) b _ hb0
 have hfind : (es.push { key := eK a, val := v0, born := stamp }).findIdx? (fun e => (e.born : Int) == (stamp : Int)) = some es.size := by
  have hn : es.findIdx? (fun e => (e.born : Int) == (stamp : Int)) = none := by
   rw [Array.findIdx?_eq_none_iff]
   intro x hx
   have := hbo.1 x (by simpa using hx)
   simp
   omega
  rw [Array.findIdx?_push, hn]
  simp
 have hmod : (es.push { key := eK a, val := v0, born := stamp }).modify es.size (fun e => { e with val := eV v }) = es.push { key := eK a, val := eV v, born := stamp } := by
  apply Array.ext
  ·simp
  ·intro i h1 h2
   rw [Array.getElem_modify]
   simp only [Array.getElem_push]
   split
   ·rename_i e
    subst e
    simp
   ·rename_i e
    have : i < es.size := by simp at h1; omega
    simp [this]
 refine ⟨undef, setBlk w b (.map (es.push { key := eK a, val := eV v, born := stamp }) (stamp + 1)), 0, ?_, .inr ⟨ix, g, b, _, _, hg, hb0, rfl, hk _ ⟨?_, ?_, _, _, upd_self _ _ _, ?_, ?_⟩ fun k hne => upd_other hne⟩⟩
 ·simp only [qsem, Instr.entryStore, Sem.run_bind, MapKept.run_getObj_map hb, Result.andThen, asInt, asIntOf, Sem.run_pure, hfind, hmod, MapKept.run_setObj_map _ hb]
  rfl
 ·rw [List.map_append, List.nodup_append]
  refine ⟨hm.nodup, by simp, ?_⟩
  rintro x hx y hy rfl
  simp at hy
  subst hy
  exact hm.new hx
 ·intro p hp
  rcases List.mem_append.1 hp with hp | hp
  ·exact hm.okL p hp
  ·simp at hp
   subst hp
   exact hm.okA
 ·rw [Array.toList_push, List.map_append, he, List.map_append]
  rfl
 ·rw [Array.toList_push]
  refine ⟨fun e he => ?_, ?_⟩
  ·rcases List.mem_append.1 he with he | he
   ·have := hbo.1 e he; omega
   ·simp at he; subst he; simp
  ·rw [List.map_append, List.nodup_append]
   refine ⟨hbo.2, by simp, ?_⟩
   rintro x hx y hy rfl
   simp at hy
   obtain ⟨e, he, rfl⟩ := List.mem_map.1 hx
   have := hbo.1 e he
   omega
end
/-! bytes -/
structure By where
 n : UInt8
instance : Sc By := ⟨fun x => .int .u8 x.n.toNat, fun _ => rfl, fun _ => rfl⟩
theorem wrap_by {x : Int} (h0 : 0 ≤ x) (h1 : x < 256) : IntKind.u8.wrap x = ((UInt8.ofNat x.toNat).toNat : Int) := by
 rw [IntKind.wrap_u8]
 simp
 omega
theorem qr_bytes {P : Program} {Γ : Ctx} {s d e : TypeId} (hs : P.underlying s = some (.slice e)) (he : P.underlying e = some (.int .u8)) (hd : P.underlying d = some .string) {L : Mem} {A : Option Addr} {c : Nat} {xs : List By} (hx : SlOk L A c xs) (hL : Mem.le L (lk Γ)) :
  QR P (.cnv s d) [.slice A xs.length c] Γ (.string ⟨(xs.map (·.n)).toArray⟩) := by
 intro w hw
 simp only [qsem]
 have hstr : ∀ ys : List By, strOfNums (ys.map fun x => (x.n.toNat : Int)) = ⟨(ys.map (·.n)).toArray⟩ := fun ys => by
  unfold strOfNums
  congr 1
  simp
 cases A with
 | none =>
  have : xs = [] := hx.ofNone
  subst this
  rw [run_convert_bytes_nil w s e hs he _ _ d hd]
  rfl
 | some a =>
  rcases hx.at' with rfl | ⟨b, o, cells, T, fr, hA, hb, hc⟩
  ·have := run_convert_bytes_string (P := P) w s d e (some a) 0 c hs he hd
   simp only [List.length_nil]
   rw [this, run_bytesToString w a 0 c [] (by
    have := run_loadCells_list (P := P) w a [] (by simp)
    simpa using this)]
   rfl
  ·simp only [Option.some.injEq] at hA
   subst hA
   have := run_convert_bytes_arg (P := P) w s e hs he b o xs.length c (xs.map fun x => (x.n.toNat : Int)) (by simp) (fun i hi => by
    obtain ⟨cs, h1, h2⟩ := hc i xs[i] (List.getElem?_eq_getElem hi)
    have h1 := ok_sc h1
    subst h1
    have h3 := h2 0 (by simp [Rep.sz])
    obtain ⟨g, hg, hgb⟩ := hL _ _ hb
    have hwb := hw g hg b _ hgb
    simp only [World.cell?, hwb]
    simp [Rep.sz, Sc.enc] at h3
    simp [h3, List.getD, hi]) d hd
   rw [this, hstr]
/- m[k], .. = v, ..: whether the key is there already or not; no condition. -/
set_option linter.unusedSectionVars false

section
variable {α β : Type} [DecidableEq α]
variable {P : Program} {Γr : Ctx} {d : Option Nat} {rr : List SOper} {φ : Fr} {Γ : Ctx} {K : Fr → Ctx → Prop}
/-- the map b reads as l, and its entry at a, which may be new, bears this stamp -/
def EntX (g : PH) (b : Nat) (eK : α → Value) (eV : β → Value) (good : α → Prop) (l : List (α × β)) (a : α) (stamp : Nat) : Prop :=
 MentM g b eK eV good l a stamp ∨ (MapM g b eK eV good l ∧ good a ∧ a ∈ l.map (·.1) ∧ ∃ (es : Array MapEntry) (clock j : Nat) (e : MapEntry), g b = some (.map es clock) ∧ es.toList.map (fun e => (e.key, e.val)) = l.map (fun p => (eK p.1, eV p.2)) ∧ Born es.toList clock ∧ es[j]? = some e ∧ e.key = eK a ∧ e.born = stamp)
theorem s_mentX {t kt et : TypeId} {eK : α → Value} {eV : β → Value} {good : α → Prop} {z : Value} (T : KT P kt eK good) (ht : P.underlying t = some (.map kt et)) (hz : ∀ w, (zeroValue et).run P w = .ok z w) {g : PH} {ix b : Nat} {l : List (α × β)} (hg : Γ[ix]? = some g) (hm : MapM g b eK eV good l) {a : α} (ha : good a)
  (hk : ∀ g' stamp x, EntX g' b eK eV good l a stamp → (∀ k, k ≠ b → g' k = g k) → vcOps P Γr rr (put φ d (.v true (.tuple #[x, .int .i64 (stamp : Nat)]))) (Γ.set ix g') K) : aC P Γr d rr φ Γ K (.ment t) [.map (some b), eK a] := by
 by_cases hin : a ∈ l.map (·.1)
 ·intro w hw
  obtain ⟨es, clock, hb0, he, hbo⟩ := hm.at'
  have hgΓ : g ∈ Γ := List.mem_of_getElem? hg
  have hb := hw g (by simp [hgΓ]) b _ hb0
  have hc := T.check w false a ha
  rcases T.find w a ha es.toList (entry_good hm he) with ⟨h1, h2⟩ | ⟨j, e, h1, h2, h3⟩
  ·exact absurd hin (entry_none he h2)
  ·have hj : es[j]? = some e := by simpa using h2
   have hmod : es.modify j (fun e => { e with key := eK a }) = es := by
    apply Array.ext_getElem?
    intro i
    rw [Array.getElem?_modify]
    split
    ·rename_i q
     subst q
     rw [hj, ← h3]
     rfl
    ·rfl
   have hself : ∀ k, upd g b (.map es clock) k = g k := fun k => by
    by_cases q : k = b
    ·subst q; rw [upd_self]; exact hb0.symm
    ·exact upd_other q
   have hupd : upd g b (.map es clock) = g := funext hself
   refine ⟨_, setBlk w b (.map es clock), 0, ?_, .inr ⟨ix, g, b, _, _, hg, hb0, rfl, hk _ e.born e.val (.inr ⟨by rw [hupd]; exact hm, ha, hin, es, clock, j, e, upd_self _ _ _, he, hbo, hj, h3, rfl⟩) fun k hne => upd_other hne⟩⟩
   simp [qsem, Instr.mapEntry, run_underlying ht, MapKept.run_getObj_map hb, hc, h1, hj, h3, T.stays w a ha, hmod, MapKept.run_setObj_map _ hb, Result.andThen, setBlk, goInt]
 ·exact s_ment T ht hz hg hm ha hin fun g' stamp hM hne => hk g' stamp z (.inl hM) hne
theorem s_estoreX {t : TypeId} {eK : α → Value} {eV : β → Value} {good : α → Prop} {g : PH} {ix b : Nat} {l : List (α × β)} {a : α} {stamp : Nat} (hinj : ∀ a b, eK a = eK b → a = b) (hg : Γ[ix]? = some g) (hm : EntX g b eK eV good l a stamp) (v : β)
  (hk : ∀ g', MapM g' b eK eV good (mput l a v) → (∀ k, k ≠ b → g' k = g k) → vcOps P Γr rr (put φ d (.v true undef)) (Γ.set ix g') K) : aC P Γr d rr φ Γ K (.estore t) [.map (some b), .int .i64 (stamp : Nat), eV v] := by
 rcases hm with hm | ⟨hm, ha, hin, es, clock, j, e, hb0, he, hbo, hj, h3, rfl⟩
 ·refine s_estore hg hm v fun g' hM hne => hk g' ?_ hne
  rw [mput, if_neg hm.new]
  exact hM
 ·intro w hw
  have hgΓ : g ∈ Γ := List.mem_of_getElem? hg
  have hb := hw g (by simp [hgΓ]) b _ hb0
  obtain ⟨hjl, hje⟩ := Array.getElem?_eq_some_iff.1 hj
  have hfind : es.findIdx? (fun x => (x.born : Int) == (e.born : Int)) = some j := by
   rw [Array.findIdx?_eq_some_iff_getElem]
   refine ⟨hjl, by rw [hje]; simp, fun i hi => ?_⟩
   simp only [beq_iff_eq]
   intro q
   have hpw := List.pairwise_iff_getElem.1 hbo.2 i j (by simp; omega) (by simpa using hjl) hi
   simp only [List.getElem_map, Array.getElem_toList] at hpw
   rw [hje] at hpw
   exact hpw (by omega)
  obtain ⟨p, hp, hk', hv⟩ := entry_of he (j := j) (e := e) (by simpa using hj)
  have hpa : p.1 = a := hinj _ _ (by rw [← hk', h3])
  have hmod : es.modify j (fun x => { x with val := eV v }) = es.modify j (fun x => { x with key := eK a, val := eV v }) := by
   apply Array.ext_getElem?
   intro i
   rw [Array.getElem?_modify, Array.getElem?_modify]
   split
   ·rename_i q
    subst q
    rw [hj, ← h3]
    rfl
   ·rfl
  have hgood : ∀ q ∈ mput l a v, good q.1 := fun q hq => by
   have : q.1 ∈ (mput l a v).map (·.1) := List.mem_map.2 ⟨q, hq, rfl⟩
   rw [mput_keys, if_pos hin] at this
   obtain ⟨q', hq', e'⟩ := List.mem_map.1 this
   rw [← e']; exact hm.good q' hq'
  refine ⟨undef, setBlk w b (.map (es.modify j fun x => { x with key := eK a, val := eV v }) clock), 0, ?_, .inr ⟨ix, g, b, _, _, hg, hb0, rfl, hk _ ⟨mput_nodup hm.nodup a v, hgood, _, _, upd_self _ _ _, entry_put hm.nodup he hp hpa, born_put hbo⟩ fun k hne => upd_other hne⟩⟩
  simp only [qsem, Instr.entryStore, Sem.run_bind, MapKept.run_getObj_map hb, Result.andThen, asInt, asIntOf, Sem.run_pure, hfind, hmod, MapKept.run_setObj_map _ hb]
  rfl
end
end Go.Proofs.Ytiipiapfnedfjaa.V
/- The library's sort and its slices.Compact, by the kit's contracts, as calls of the walk; no condition. -/
namespace Go.Proofs.Ytiipiapfnedfjaa.V
open Go Go.Sort Go.Proofs
set_option linter.unusedVariables false
set_option linter.unusedSimpArgs false

section
variable {β : Type} [Inhabited β]
theorem row_heap (enc : β → Value) (w : World) (blk off n : Nat) (d : Array β) (os : Array Obj) {k : Nat} (hk : k < w.heap.size) :
  (grow (putRow enc (Sort.ahead w n) blk off d) os).heap[k]? = if blk = k then (w.heap[k]?).map (onCells (putCells enc off d)) else w.heap[k]? := by
 simp only [grow, putRow, mapBlock, Sort.ahead]
 rw [Array.getElem?_append_left (by simpa using hk), Array.getElem?_modify]
theorem sat_lt {Γ : Ctx} {w : World} (hs : Sat Γ w) {h : PH} (hh : h ∈ Γ) {k : Nat} {o : Obj} (hk : h k = some o) : k < w.heap.size :=
 (Array.getElem?_eq_some_iff.1 (hs.holds h hh k o hk)).1
theorem done_row {Γr : Ctx} {g : PH} {w : World} {blk off n : Nat} {cur : Array Value} {e : TypeId} (hs : Sat ([g] ++ Γr) w) (hg : g blk = some (.cells cur e (0, 0))) (enc : β → Value) (d : Array β) (os : Array Obj) :
  Done Γr [g] [upd g blk (.cells (putCells enc off d cur) e (0, 0))] w (grow (putRow enc (Sort.ahead w n) blk off d) os) := by
 have hdis : ∀ h ∈ Γr, Disj g h := (List.pairwise_cons.1 hs.apart).1
 have hgh : ∀ h ∈ Γr, h blk = none := fun h hh => by
  rcases hdis h hh blk with q | q
  ·rw [hg] at q; cases q
  ·exact q
 have hold : ∀ k, k < w.heap.size → k ≠ blk → (grow (putRow enc (Sort.ahead w n) blk off d) os).heap[k]? = w.heap[k]? := fun k hk hne => by
  rw [row_heap enc w blk off n d os hk, if_neg (fun q => hne q.symm)]
 refine ⟨⟨?_, ?_⟩, ?_, rfl, ⟨rfl, ?_⟩, rfl, ?_, ?_⟩
 ·intro h hh k o hk
  rcases List.mem_append.1 hh with hh | hh
  ·simp at hh
   subst hh
   by_cases e1 : k = blk
   ·subst e1
    rw [upd_self] at hk
    rw [row_heap enc w k off n d os (sat_lt hs (h := g) (by simp) hg), if_pos rfl, hs.holds g (by simp) _ _ hg]
    simpa [onCells] using hk
   ·rw [upd_other e1] at hk
    rw [hold k (sat_lt hs (h := g) (by simp) hk) e1]
    exact hs.holds g (by simp) _ _ hk
  ·have hne : k ≠ blk := fun q => by rw [q, hgh h hh] at hk; cases hk
   rw [hold k (sat_lt hs (by simp [hh]) hk) hne]
   exact hs.holds h (by simp [hh]) _ _ hk
 ·refine List.pairwise_cons.2 ⟨fun h hh k => ?_, (List.pairwise_cons.1 hs.apart).2⟩
  by_cases e1 : k = blk
  ·subst e1; exact .inr (hgh h hh)
  ·rw [upd_other e1]; exact hdis h hh k
 ·intro h hh k hk
  simp at hh
  subst hh
  right
  refine ⟨g, by simp, ?_⟩
  by_cases e1 : k = blk
  ·subst e1; rw [hg]; simp
  ·rwa [upd_other e1] at hk
 ·show w.drawn ≤ w.drawn + n
  omega
 ·simp [grow, putRow, mapBlock, Sort.ahead]
 ·intro k hk hno
  refine hold k hk fun q => ?_
  subst q
  have := hno g (by simp)
  rw [hg] at this
  cases this
theorem Sat.right {Γ Γr : Ctx} {w : World} (h : Sat (Γ ++ Γr) w) : Sat Γr w := ⟨fun g hg => h.holds g (by simp [hg]), (List.pairwise_append.1 h.apart).2.1⟩
theorem done_same {Γr : Ctx} {w : World} (hs : Sat Γr w) {g : PH} (hs' : Sat ([g] ++ Γr) w) : Done Γr [g] [g] w w :=
 ⟨hs', fun h hh k hk => .inr ⟨h, hh, hk⟩, rfl, ⟨rfl, Nat.le_refl _⟩, rfl, Nat.le_refl _, fun _ _ _ => rfl⟩
/-- what changes nothing only draws, and makes new blocks -/
theorem done_grow {Γr : Ctx} {W W' : World} (h : Done Γr [] [] W W') : ∃ q os', W' = grow (W.drewN q) os' := by
 have h2 := h.same
 have h4 := h.size
 have h1 := h.os
 have h3 := h.tape
 have h5 := h.output
 clear h
 refine ⟨W'.drawn - W.drawn, W'.heap.extract W.heap.size W'.heap.size, ?_⟩
 obtain ⟨hp, tp, dr, os, out⟩ := W
 obtain ⟨hp', tp', dr', os', out'⟩ := W'
 simp only at h1 h2 h3 h4 h5
 obtain ⟨rfl, h3⟩ := h3
 subst h1 h5
 have hh : hp' = hp ++ hp'.extract hp.size hp'.size := by
  apply Array.ext_getElem?
  intro k
  by_cases hk : k < hp.size
  ·rw [Array.getElem?_append_left hk]
   exact h2 k hk (by simp)
  ·rw [Array.getElem?_append_right (by omega), Array.getElem?_extract]
   by_cases hk' : k < hp'.size
   ·rw [if_pos (by omega)]; congr 1; omega
   ·rw [if_neg (by omega), Array.getElem?_eq_none (by omega)]
 simp only [grow, World.drewN]
 rw [← hh]
 congr 1
 omega
end

/-! whole numbers -/
theorem put_take {α : Type} [Inhabited α] (enc : α → Value) (off : Nat) (cur : Array Value) (ys : List α) (h : off + ys.length ≤ cur.size) : ((putCells enc off ys.toArray cur).toList.drop off).take ys.length = ys.map enc := by
 apply List.ext_getElem?
 intro j
 rw [List.getElem?_take]
 by_cases hj : j < ys.length
 ·rw [if_pos hj, List.getElem?_drop, Array.getElem?_toList]
  simp only [putCells, Array.getElem?_mapIdx, List.size_toArray]
  rw [Array.getElem?_eq_getElem (by omega), Option.map_some, if_pos (by omega), List.getElem?_map, List.getElem?_eq_getElem hj]
  simp [hj]
 ·rw [if_neg hj, List.getElem?_eq_none (by simp; omega)]
theorem put_size {α : Type} [Inhabited α] (enc : α → Value) (off : Nat) (cur : Array Value) (d : Array α) : (putCells enc off d cur).size = cur.size := by simp [putCells]
theorem holds_of {w : World} {g : PH} {Γ : Ctx} (hs : Sat Γ w) (hg : g ∈ Γ) {α : Type} [Inhabited α] {enc : α → Value} {b off : Nat} {cur : Array Value} {e : TypeId} (hb : g b = some (.cells cur e (0, 0))) {xs : List α} (hx : (cur.toList.drop off).take xs.length = xs.map enc) : Sort.Holds enc w b off xs.toArray := by
 have hw := hs.holds g hg _ _ hb
 intro j hj
 have hj : j < xs.length := by simpa using hj
 refine ⟨?_, ?_⟩
 ·have h1 := congrArg (·[j]?) hx
  simp only [List.getElem?_take, if_pos hj, List.getElem?_drop, Array.getElem?_toList, List.getElem?_map, List.getElem?_eq_getElem hj, Option.map_some] at h1
  simp only [World.cell?, hw, Option.isSome_none, Bool.false_eq_true, if_false, h1]
  simp [hj]
 ·simp [World.frozen?, hw]
/-- slices.Sort of whole numbers -/
theorem sort_row {P : Program} {f : FuncId} (hf : isFn P f = true) (hC : ∀ (blk off cap : Nat) (zs : List Int) (w : World), Sort.Holds (Value.int .i64) w blk off zs.toArray → blk < w.heap.size → zs.length < 4611686018427387904 →
   Calls P f #[.slice (some ⟨blk, off, none⟩) zs.length cap] w fun e w' => e = .returned (.tuple #[]) ∧ ∃ n os, w' = grow (putRow (Value.int .i64) (Sort.ahead w n) blk off (zs.mergeSort fun x y => decide (x ≤ y)).toArray) os)
  (hN : ∀ p cap w, Calls P f #[.slice p 0 cap] w fun e w' => e = .returned (.tuple #[]) ∧ w' = w)
  {Γr : Ctx} {g : PH} {L : Mem} {e : TypeId} {A : Option Addr} {n c : Nat} {xs : List Int} (h : Bld g L e (.slice A n c) xs) (hlen : xs.length ≤ 140737488355328) :
  Ret P f [.slice A n c] Γr [g] (fun v Γ => v = .tuple #[] ∧ ∃ g', Γ = [g'] ∧ Bld g' L e (.slice A n c) (xs.mergeSort fun x y => decide (x ≤ y)) ∧ ∀ k, rowBlk (.slice A n c) ≠ some k → g' k = g k) := by
 refine ⟨hf, fun w hs => ?_⟩
 obtain ⟨hn, hh⟩ := h.sc
 rcases hh with rfl | ⟨b, o, cap, cur, rfl, rfl, h1, h2, h3, h4, h5⟩
 ·have hn : n = 0 := hn
  subst hn
  refine (hN A c w).mono ?_
  rintro e' w' ⟨rfl, rfl⟩
  exact ⟨_, [g], rfl, ⟨rfl, g, rfl, by simpa using h, fun _ _ => rfl⟩, done_same hs.right hs⟩
 ·subst hn
  have hH : Sort.Holds (Value.int .i64) w b o xs.toArray := holds_of hs (g := g) (by simp) h3 h5
  have hx := h4
  refine (hC b o (cap + 1) xs w hH (sat_lt hs (h := g) (by simp) h3) (by omega)).mono ?_
  rintro e' w' ⟨rfl, m, os, rfl⟩
  have hl : (xs.mergeSort fun x y => decide (x ≤ y)).length = xs.length := List.length_mergeSort _
  refine ⟨_, _, rfl, ⟨rfl, _, rfl, ?_, fun k hk => ?_⟩, done_row hs h3 _ _ os⟩
  ·refine Bld.ofRow _ ⟨by simp [hl], .inr ⟨b, o, cap, _, rfl, h1, h2, upd_self _ _ _, by rw [put_size]; omega, ?_⟩⟩ hl.symm
   rw [Nat.mul_one]
   have := put_take (Value.int .i64) o cur (xs.mergeSort fun x y => decide (x ≤ y)) (by omega)
   rw [hl] at this
   exact this
  ·cases hxl : xs.length with
   | zero =>
    rw [hxl] at hk hl
    have : (xs.mergeSort fun x y => decide (x ≤ y)) = [] := List.eq_nil_of_length_eq_zero hl
    rw [this]
    by_cases e1 : k = b
    ·subst e1
     rw [upd_self, h3]
     congr 2
     simp [putCells]
     apply Array.ext_getElem?
     intro i
     simp only [Array.getElem?_mapIdx]
     cases cur[i]? with
     | none => rfl
     | some y => simp; omega
    ·rw [upd_other e1]
   | succ m' =>
    rw [hxl] at hk
    exact upd_other fun q => hk (by subst q; rfl)

/-! each once -/
theorem mem_cmp {zs : List Int} : ∀ {m : Nat}, m < zs.length → ∃ j, j ≤ m ∧ Lib.keeps zs.toArray j = true ∧ zs.toArray[j]! = zs.toArray[m]!
 | 0, h => ⟨0, Nat.le_refl _, by simp [Lib.keeps], rfl⟩
 | m + 1, h => by
  by_cases e : zs.toArray[m + 1]! = zs.toArray[m]!
  ·obtain ⟨j, h1, h2, h3⟩ := mem_cmp (zs := zs) (m := m) (by omega)
   exact ⟨j, by omega, h2, by rw [h3, e]⟩
  ·exact ⟨m + 1, Nat.le_refl _, by simp only [Lib.keeps, decide_eq_true_eq, Nat.add_sub_cancel]; exact .inr e, rfl⟩
theorem cmp_mem {zs : List Int} {x : Int} : x ∈ Lib.compact zs ↔ x ∈ zs := by
 simp only [Lib.compact, Lib.compactUpTo, List.mem_map, List.mem_filter, List.mem_range]
 constructor
 ·rintro ⟨j, ⟨h1, _⟩, rfl⟩
  simp [h1]
 ·intro h
  obtain ⟨m, hm, rfl⟩ := List.getElem_of_mem h
  obtain ⟨j, h1, h2, h3⟩ := mem_cmp hm
  exact ⟨j, ⟨by omega, h2⟩, by rw [h3]; simp [hm]⟩
theorem cmp_sorted {zs : List Int} (h : zs.Pairwise (· ≤ ·)) : (Lib.compact zs).Pairwise (· < ·) := by
 simp only [Lib.compact, Lib.compactUpTo]
 rw [List.pairwise_map]
 have hr : (List.range zs.length).Pairwise (· < ·) := List.pairwise_lt_range
 refine (List.Pairwise.and_mem.1 (hr.filter _)).imp ?_
 rintro i j ⟨hi, hj, hij⟩
 simp only [List.mem_filter, List.mem_range] at hi hj
 have hk := hj.2
 simp only [Lib.keeps, decide_eq_true_eq] at hk
 have hne : zs.toArray[j]! ≠ zs.toArray[j - 1]! := by
  rcases hk with q | q
  ·omega
  ·exact q
 have hle : ∀ a b, a ≤ b → b < zs.length → zs.toArray[a]! ≤ zs.toArray[b]! := by
  intro a b hab hb
  rcases Nat.lt_or_ge a b with q | q
  ·have := List.pairwise_iff_getElem.1 h a b (by omega) hb q
   simpa [hb, show a < zs.length by omega] using this
  ·have : a = b := by omega
   subst this
   exact Int.le_refl _
 have h1 := hle i (j - 1) (by omega) (by omega)
 have h2 := hle (j - 1) j (by omega) hj.1
 omega
theorem cmp_len (zs : List Int) : (Lib.compact zs).length ≤ zs.length := by
 simp only [Lib.compact, Lib.compactUpTo, List.length_map]
 have := List.length_filter_le (Lib.keeps zs.toArray) (List.range zs.length)
 simpa using this
/-- sorted, and each once -/
theorem so_spec (zs : List Int) : (Lib.compact (zs.mergeSort fun x y => decide (x ≤ y))).Pairwise (· < ·) ∧ ∀ x, x ∈ Lib.compact (zs.mergeSort fun x y => decide (x ≤ y)) ↔ x ∈ zs := by
 refine ⟨cmp_sorted ?_, fun x => by rw [cmp_mem, List.mem_mergeSort]⟩
 have := List.pairwise_mergeSort (le := fun x y : Int => decide (x ≤ y)) (fun a b c h1 h2 => by simp at *; omega) (fun a b => by simp; omega) zs
 exact this.imp (by simp)

/-- slices.Compact of whole numbers -/
theorem compact_row {P : Program} {f : FuncId} (hf : isFn P f = true) (hC : ∀ (blk off cap : Nat) (zs : List Int) (w : World), Sort.Holds (Value.int .i64) w blk off zs.toArray → zs.length ≤ 9223372036854775807 → zs.length ≤ cap →
   Calls P f #[.slice (some ⟨blk, off, none⟩) zs.length cap] w fun e w' => e = .returned (.slice (some ⟨blk, off, none⟩) (Lib.compact zs).length cap) ∧ ∃ q, w' = putRow (Value.int .i64) (Sort.ahead w q) blk off (Lib.compact zs ++ List.replicate (zs.length - (Lib.compact zs).length) 0).toArray)
  (hN : ∀ p cap w, Calls P f #[.slice p 0 cap] w fun e w' => e = .returned (.slice p 0 cap) ∧ w' = w)
  {Γr : Ctx} {g : PH} {L : Mem} {e : TypeId} {A : Option Addr} {n c : Nat} {xs : List Int} (h : Bld g L e (.slice A n c) xs) :
  Ret P f [.slice A n c] Γr [g] (fun v Γ => v = .slice A (Lib.compact xs).length c ∧ ∃ g', Γ = [g'] ∧ Bld g' L e (.slice A (Lib.compact xs).length c) (Lib.compact xs) ∧ ∀ k, rowBlk (.slice A n c) ≠ some k → g' k = g k) := by
 refine ⟨hf, fun w hs => ?_⟩
 obtain ⟨hn, hh⟩ := h.sc
 rcases hh with rfl | ⟨b, o, cap, cur, rfl, rfl, h1, h2, h3, h4, h5⟩
 ·have hn : n = 0 := hn
  subst hn
  refine (hN A c w).mono ?_
  rintro e' w' ⟨rfl, rfl⟩
  exact ⟨_, [g], rfl, ⟨rfl, g, rfl, h, fun _ _ => rfl⟩, done_same hs.right hs⟩
 ·subst hn
  have hH : Sort.Holds (Value.int .i64) w b o xs.toArray := holds_of hs (g := g) (by simp) h3 h5
  refine (hC b o (cap + 1) xs w hH (by unfold maxLen at h2; omega) h1).mono ?_
  rintro e' w' ⟨rfl, m, rfl⟩
  have hl := cmp_len xs
  obtain ⟨zs, hz⟩ : ∃ zs, Lib.compact xs = zs := ⟨_, rfl⟩
  rw [hz] at hl ⊢
  have hlen : (zs ++ List.replicate (xs.length - zs.length) (0 : Int)).length = xs.length := by simp; omega
  have hd := done_row hs h3 (Value.int .i64) (n := m) (off := o) (zs ++ List.replicate (xs.length - zs.length) (0 : Int)).toArray #[]
  rw [grow_empty] at hd
  refine ⟨_, _, rfl, ⟨rfl, _, rfl, ?_, fun k hk => ?_⟩, hd⟩
  ·refine Bld.ofRow _ ⟨by simp, .inr ⟨b, o, cap, _, rfl, by omega, h2, upd_self _ _ _, by rw [put_size]; omega, ?_⟩⟩ rfl
   rw [Nat.mul_one]
   have := put_take (Value.int .i64) o cur (zs ++ List.replicate (xs.length - zs.length) (0 : Int)) (by rw [hlen]; omega)
   rw [hlen] at this
   have h6 := congrArg (List.take zs.length) this
   rw [List.take_take, Nat.min_eq_left hl] at h6
   rw [h6, List.map_append, List.take_append_of_le_length (by simp), List.take_of_length_le (by simp)]
   rfl
  ·cases hxl : xs.length with
   | zero =>
    have hx0 : xs = [] := List.eq_nil_of_length_eq_zero hxl
    rw [hxl] at hl
    have : zs = [] := List.eq_nil_of_length_eq_zero (by omega)
    subst this hx0
    by_cases e1 : k = b
    ·subst e1
     rw [upd_self, h3]
     congr 2
     simp [putCells]
     apply Array.ext_getElem?
     intro i
     simp only [Array.getElem?_mapIdx]
     cases cur[i]? with
     | none => rfl
     | some y => simp; omega
    ·rw [upd_other e1]
   | succ m' =>
    rw [hxl] at hk
    exact upd_other fun q => hk (by subst q; rfl)

/-! rows of structs -/
theorem flat_get {β : Type} [Inhabited β] {enc : β → List Value} {k : Nat} (hk : ∀ x, (enc x).length = k) : ∀ (zs : List β) (t : Nat), t < zs.length * k → (zs.flatMap enc)[t]? = some ((enc zs.toArray[t / k]!)[t % k]!)
 | [], t, h => by simp at h
 | z :: zs, t, h => by
  have hk0 : 0 < k := by
   rcases Nat.eq_zero_or_pos k with q | q
   ·subst q; simp at h
   ·exact q
  rw [List.flatMap_cons]
  by_cases ht : t < k
  ·rw [List.getElem?_append_left (by rw [hk]; exact ht), Nat.div_eq_of_lt ht, Nat.mod_eq_of_lt ht]
   have : t < (enc z).length := by rw [hk]; exact ht
   simp [this]
  ·rw [List.getElem?_append_right (by rw [hk]; omega), hk]
   simp only [List.length_cons, Nat.add_mul, Nat.one_mul] at h
   rw [flat_get hk zs (t - k) (by omega)]
   have h1 : t / k = (t - k) / k + 1 := by rw [← Nat.add_div_right _ hk0]; congr 1; omega
   have h2 : t % k = (t - k) % k := by rw [← Nat.add_mod_right (t - k)]; congr 1; omega
   rw [h1, h2]
   simp
theorem flat_eq {β : Type} [Inhabited β] {enc : β → List Value} {k : Nat} (hk : ∀ x, (enc x).length = k) (zs : List β) : flatK enc k zs.toArray = (zs.flatMap enc).toArray := by
 have hl : (zs.flatMap enc).length = zs.length * k := by
  induction zs with
  | nil => simp
  | cons z zs ih => rw [List.flatMap_cons, List.length_append, hk, ih, List.length_cons, Nat.add_mul, Nat.one_mul, Nat.add_comm]
 apply Array.ext_getElem?
 intro t
 by_cases ht : t < zs.length * k
 ·have h1 := flat_get hk zs t ht
  have h0 : (zs.flatMap enc).toArray[t]? = some ((enc zs.toArray[t / k]!)[t % k]!) := by simpa using h1
  rw [h0]
  have h2 := get_flatK enc k zs.toArray t (by simpa using ht)
  rw [Array.getElem?_eq_getElem (by simpa using ht)]
  rw [getElem!_pos _ t (by simpa using ht)] at h2
  rw [h2]
 ·rw [Array.getElem?_eq_none (by simp; omega), Array.getElem?_eq_none (by rw [List.size_toArray, hl]; omega)]
/-- what reads as an element, and its cells -/
abbrev RepC (α : Type) [Rep α] (L : Mem) := { p : α × List Value // Rep.ok L p.1 p.2 }
theorem bld_split {α : Type} [Rep α] {L : Mem} : ∀ {xs : List α} {cs : List Value}, cs.length = xs.length * Rep.sz α → (∀ i x, xs[i]? = some x → ∃ c, Rep.ok L x c ∧ ∀ j, j < Rep.sz α → cs[i * Rep.sz α + j]? = c[j]?) →
  ∃ zs : List (RepC α L), zs.map (fun p => p.1.1) = xs ∧ zs.flatMap (fun p => p.1.2) = cs
 | [], cs, hl, _ => ⟨[], rfl, by simp at hl; subst hl; rfl⟩
 | x :: xs, cs, hl, h => by
  simp only [List.length_cons, Nat.add_mul, Nat.one_mul] at hl
  obtain ⟨c, h1, h2⟩ := h 0 x rfl
  obtain ⟨zs, h3, h4⟩ := bld_split (xs := xs) (cs := cs.drop (Rep.sz α)) (by simp; omega) (fun i y hi => by
   obtain ⟨c', q1, q2⟩ := h (i + 1) y (by simpa using hi)
   refine ⟨c', q1, fun j hj => ?_⟩
   rw [List.getElem?_drop, ← q2 j hj, Nat.add_mul, Nat.one_mul]
   congr 1
   omega)
  refine ⟨⟨(x, c), h1⟩ :: zs, by simp [h3], ?_⟩
  rw [List.flatMap_cons, h4]
  have hc := Rep.len h1
  have : c = cs.take (Rep.sz α) := by
   apply List.ext_getElem?
   intro j
   rw [List.getElem?_take]
   by_cases hj : j < Rep.sz α
   ·rw [if_pos hj, ← h2 j hj]; simp
   ·rw [if_neg hj, List.getElem?_eq_none (by omega)]
  subst this
  exact List.take_append_drop _ _
/-- a strict weak order -/
structure OrdC {α : Type} (cmp : α → α → Int) : Prop where
 irr : ∀ x, ¬ cmp x x < 0
 trans : ∀ x y z, cmp x y < 0 → cmp y z < 0 → cmp x z < 0
 ntrans : ∀ x y z, ¬ cmp x y < 0 → ¬ cmp y z < 0 → ¬ cmp x z < 0
theorem OrdC.swo {α β : Type} {cmp : α → α → Int} (h : OrdC cmp) (p : β → α) : SWO (ltOf fun x y => cmp (p x) (p y)) where
 irrefl x := by simpa [ltOf] using h.irr (p x)
 trans x y z h1 h2 := by simp only [ltOf, decide_eq_true_eq] at *; exact h.trans _ _ _ h1 h2
 ntrans x y z h1 h2 := by simp only [ltOf, decide_eq_false_iff_not] at *; exact h.ntrans _ _ _ h1 h2
abbrev SortFC (P : Program) (f gf : FuncId) (cb : Array Value) (k : Nat) : Prop := ∀ {β : Type} [Inhabited β] (enc : β → List Value), (∀ x, (enc x).length = k) → (∀ x, ∀ v ∈ enc x, v.oneCell' = true) → ∀ (cf : β → β → Int), SWO (ltOf cf) → ∀ (blk off cap : Nat) (d : Array β) (w : World),
  CmpLays P gf cb enc k cf blk off d.size w → HoldsK enc k w blk off d → blk < w.heap.size → d.size < 4611686018427387904 →
  Calls P f #[.slice (some ⟨blk, off, none⟩) d.size cap, .func (.func gf) #[] cb] w fun e w' => e = .returned (.tuple #[]) ∧ ∃ d' n os, PermIn 0 d.size d d' ∧ SortedIn (ltOf cf) 0 d.size d' ∧ w' = sortWorldK enc k w blk off n d' os
/-- slices.SortFunc of structs -/
theorem sortf_row {P : Program} {f gf : FuncId} {cb : Array Value} {α : Type} [Rep α] (hf : isFn P f = true) (hC : SortFC P f gf cb (Rep.sz α)) (hN : ∀ p cap fv w, Calls P f #[.slice p 0 cap, fv] w fun e w' => e = .returned (.tuple #[]) ∧ w' = w)
  {Γr : Ctx} {g : PH} {L : Mem} {e : TypeId} {A : Option Addr} {n c : Nat} {xs : List α} {cmp : α → α → Int} (hO : OrdC cmp)
  (hcmp : ∀ x y cx cy, Rep.ok L x cx → Rep.ok L y cy → Ret P gf ([.agg cx.toArray, .agg cy.toArray] ++ cb.toList) Γr [] (fun v Γ => Γ = [] ∧ v = .int .i64 (cmp x y)))
  (h : Bld g L e (.slice A n c) xs) (hlen : xs.length ≤ 140737488355328) :
  Ret P f [.slice A n c, .func (.func gf) #[] cb] Γr [g] (fun v Γ => v = .tuple #[] ∧ ∃ g' ys, Γ = [g'] ∧ ys.Perm xs ∧ ys.Pairwise (fun a b => ¬ cmp b a < 0) ∧ Bld g' L e (.slice A n c) ys ∧ ∀ k, rowBlk (.slice A n c) ≠ some k → g' k = g k) := by
 refine ⟨hf, fun w hs => ?_⟩
 obtain ⟨cs, ⟨hl, hh⟩, hx⟩ := h
 rcases hh with ⟨hn0, A', hv⟩ | ⟨b, o, cap, cur, hv, h1, h2, h3, h4, h5⟩
 ·simp only [Value.slice.injEq] at hv
  obtain ⟨rfl, rfl, rfl⟩ := hv
  have hx0 : xs = [] := List.eq_nil_of_length_eq_zero hn0
  subst hx0
  refine (hN A 0 _ w).mono ?_
  rintro e' w' ⟨rfl, rfl⟩
  exact ⟨_, [g], rfl, ⟨rfl, g, [], rfl, List.Perm.refl _, List.Pairwise.nil, ⟨cs, ⟨hl, .inl ⟨rfl, _, rfl⟩⟩, hx⟩, fun _ _ => rfl⟩, done_same hs.right hs⟩
 ·simp only [Value.slice.injEq] at hv
  obtain ⟨rfl, rfl, rfl⟩ := hv
  by_cases hemp : xs = []
  ·subst hemp
   refine (hN _ (cap + 1) _ w).mono ?_
   rintro e' w' ⟨rfl, rfl⟩
   exact ⟨_, [g], rfl, ⟨rfl, g, [], rfl, List.Perm.refl _, List.Pairwise.nil, ⟨cs, ⟨hl, .inr ⟨b, o, cap, cur, rfl, h1, h2, h3, h4, h5⟩⟩, hx⟩, fun _ _ => rfl⟩, done_same hs.right hs⟩
  obtain ⟨zs, hz1, hz2⟩ := bld_split hl hx
  have hzl : zs.length = xs.length := by rw [← hz1]; simp
  have hne : zs ≠ [] := fun q => hemp (by rw [← hz1, q]; rfl)
  haveI : Inhabited (RepC α L) := ⟨zs.head hne⟩
  have henc : ∀ x : RepC α L, x.1.2.length = Rep.sz α := fun x => Rep.len x.2
  have hflat := flat_eq (enc := fun p : RepC α L => p.1.2) henc zs
  rw [hz2] at hflat
  have hH : HoldsK (fun p : RepC α L => p.1.2) (Rep.sz α) w b o zs.toArray := by
   unfold HoldsK
   rw [hflat]
   exact holds_of hs (g := g) (by simp) h3 (by rw [hl, h5]; simp)
  have hsz : zs.toArray.size = xs.length := by simpa using hzl
  have hbl := sat_lt hs (h := g) (by simp) h3
  have hlay : CmpLays P gf cb (fun p : RepC α L => p.1.2) (Rep.sz α) (fun x y => cmp x.1.1 y.1.1) b o zs.toArray.size w := by
   intro m os dk hdk x y
   have hW : Sat Γr (sortWorldK (fun p : RepC α L => p.1.2) (Rep.sz α) w b o m dk os) := (done_row hs h3 (id : Value → Value) (n := m) (off := o) (flatK (fun p : RepC α L => p.1.2) (Rep.sz α) dk) os).sat.right
   have := (hcmp x.1.1 y.1.1 x.1.2 y.1.2 x.2 y.2).calls _ hW
   have e1 : ([Value.agg x.1.2.toArray, Value.agg y.1.2.toArray] ++ cb.toList).toArray = #[Value.agg x.1.2.toArray, Value.agg y.1.2.toArray] ++ cb := by simp
   rw [e1] at this
   refine this.mono ?_
   rintro e' w' ⟨v, Γ', rfl, ⟨rfl, rfl⟩, hd⟩
   exact ⟨rfl, done_grow hd⟩
  have hcall := hC (fun p : RepC α L => p.1.2) henc (fun x v hv => Rep.one x.2 v hv) (fun x y => cmp x.1.1 y.1.1) (hO.swo fun x : RepC α L => x.1.1) b o (cap + 1) zs.toArray w hlay hH hbl (by rw [hsz]; omega)
  rw [hsz] at hcall
  refine hcall.mono ?_
  rintro e' w' ⟨rfl, d', m, os, hp, hso, rfl⟩
  obtain ⟨us, rfl⟩ : ∃ us, d' = List.toArray us := ⟨d'.toList, by simp⟩
  have hus : us.length = xs.length := by have := hp.1; simpa [hzl] using this
  have hperm : us.Perm zs := by
   have := hp.2.2
   rw [Array.extract_eq_self_of_le (by simp [hus]), Array.extract_eq_self_of_le (by simp [hzl])] at this
   simpa using this
  have hflat' := flat_eq (enc := fun p : RepC α L => p.1.2) henc us
  have hfl : (us.flatMap fun p => p.1.2).length = xs.length * Rep.sz α := by
   rw [← hl, ← hz2]
   exact (hperm.flatMap_right _).length_eq
  refine ⟨_, _, rfl, ⟨rfl, _, us.map (fun p => p.1.1), rfl, ?_, ?_, ⟨us.flatMap (fun p => p.1.2), ⟨by rw [hfl]; simp [hus], .inr ⟨b, o, cap, _, by simp [hus], by simp [hus]; exact h1, h2, upd_self _ _ _, by rw [put_size]; exact h4, ?_⟩⟩, ?_⟩, fun k hk => ?_⟩, done_row hs h3 (id : Value → Value) (n := m) (off := o) _ os⟩
  ·rw [← hz1]; exact hperm.map _
  ·rw [List.pairwise_map, List.pairwise_iff_getElem]
   intro i j hi hj hij
   have := hso i j (by omega) hij (by omega)
   simpa [ltOf, hi, hj] using this
  ·rw [hflat', List.length_map, hus, ← hfl]
   have := put_take (id : Value → Value) o cur (us.flatMap fun p => p.1.2) (by rw [hfl]; exact Nat.le_trans (Nat.add_le_add_left (Nat.mul_le_mul_right _ h1) _) h4)
   rw [this]; simp
  ·intro i x hi
   rw [List.getElem?_map] at hi
   obtain ⟨p, hp1, rfl⟩ := Option.map_eq_some_iff.1 hi
   refine ⟨p.1.2, p.2, fun j hj => ?_⟩
   obtain ⟨hi', rfl⟩ := List.getElem?_eq_some_iff.1 hp1
   have hk0 : 0 < Rep.sz α := by omega
   have hlt : i * Rep.sz α + j < us.length * Rep.sz α := by
    have := Nat.mul_le_mul_right (Rep.sz α) (show i + 1 ≤ us.length by omega)
    rw [Nat.add_mul, Nat.one_mul] at this
    omega
   have := flat_get (enc := fun p : RepC α L => p.1.2) henc us (i * Rep.sz α + j) hlt
   rw [this]
   have e1 : (i * Rep.sz α + j) / Rep.sz α = i := by rw [Nat.mul_comm, Nat.mul_add_div hk0, Nat.div_eq_of_lt hj, Nat.add_zero]
   have e2 : (i * Rep.sz α + j) % Rep.sz α = j := by rw [Nat.mul_comm, Nat.mul_add_mod, Nat.mod_eq_of_lt hj]
   rw [e1, e2]
   have e3 : us.toArray[i]! = us[i] := by simp [hi']
   rw [e3]
   have : j < us[i].1.2.length := by rw [henc]; exact hj
   simp [this]
  ·refine upd_other fun q => hk ?_
   subst q
   cases hxl : xs.length with
   | zero => exact absurd (List.eq_nil_of_length_eq_zero hxl) hemp
   | succ m' => rfl
end Go.Proofs.Ytiipiapfnedfjaa.V
/- The kit's contract for a function of the library, laid at this program by the kit's own tool in plain words; no condition. -/
namespace Go.Proofs.Ytiipiapfnedfjaa.V
open Go Go.Shelf Go.Proofs
def laysS_ren : Go.Shelf.Ren := ⟨fun | 189 => 118 | 125 => 188 | 257 => 196 | 128 => 241 | 129 => 242 | 294 => 245 | 295 => 246 | 296 => 247 | 297 => 248 | 298 => 249 | 299 => 250 | 216 => 251 | 300 => 252 | 301 => 253 | 328 => 280 | 329 => 276 | 330 => 277 | 331 => 281 | 332 => 282 | 215 => 243 | 343 => 298 | n => n, fun | 28 => 25 | 3 => 3 | 46 => 282 | 0 => 0 | 51 => 196 | 53 => 342 | 4 => 4 | 183 => 335 | 182 => 334 | 131 => 186 | 5 => 5 | 9 => 9 | 218 => 366 | 222 => 85 | 228 => 382 | 229 => 383 | n => n, fun | n => n⟩
theorem laysS : Go.Proofs.Lays.n189 Try.prog laysS_ren := {
 mixed := by kernel_rfl
 f125 := Try.func188.trans (congrArg some (by kernel_rfl))
 f128 := Try.func241.trans (congrArg some (by kernel_rfl))
 f129 := Try.func242.trans (congrArg some (by kernel_rfl))
 f189 := Try.func118.trans (congrArg some (by kernel_rfl))
 f215 := Try.func243.trans (congrArg some (by kernel_rfl))
 f216 := Try.func251.trans (congrArg some (by kernel_rfl))
 f257 := Try.func196.trans (congrArg some (by kernel_rfl))
 f294 := Try.func245.trans (congrArg some (by kernel_rfl))
 f295 := Try.func246.trans (congrArg some (by kernel_rfl))
 f296 := Try.func247.trans (congrArg some (by kernel_rfl))
 f297 := Try.func248.trans (congrArg some (by kernel_rfl))
 f298 := Try.func249.trans (congrArg some (by kernel_rfl))
 f299 := Try.func250.trans (congrArg some (by kernel_rfl))
 f300 := Try.func252.trans (congrArg some (by kernel_rfl))
 f301 := Try.func253.trans (congrArg some (by kernel_rfl))
 f328 := Try.func280.trans (congrArg some (by kernel_rfl))
 f329 := Try.func276.trans (congrArg some (by kernel_rfl))
 f330 := Try.func277.trans (congrArg some (by kernel_rfl))
 f331 := Try.func281.trans (congrArg some (by kernel_rfl))
 f332 := Try.func282.trans (congrArg some (by kernel_rfl))
 f343 := Try.func298.trans (congrArg some (by kernel_rfl))
 t0 := Try.underlying0
 a0 := Try.isAgg0
 z0 := Try.sizeOf0
 v0 := Try.zeroValue0
 t3 := Try.underlying3
 a3 := Try.isAgg3
 z3 := Try.sizeOf3
 v3 := Try.zeroValue3
 t4 := Try.underlying4
 a4 := Try.isAgg4
 z4 := Try.sizeOf4
 v4 := Try.zeroValue4
 t5 := Try.underlying5
 a5 := Try.isAgg5
 z5 := Try.sizeOf5
 v5 := Try.zeroValue5
 t9 := Try.underlying9
 a9 := Try.isAgg9
 z9 := Try.sizeOf9
 v9 := Try.zeroValue9
 t28 := Try.underlying25
 a28 := Try.isAgg25
 z28 := Try.sizeOf25
 v28 := Try.zeroValue25
 t46 := Try.underlying282
 a46 := Try.isAgg282
 z46 := Try.sizeOf282
 v46 := Try.zeroValue282
 t51 := Try.underlying196
 a51 := Try.isAgg196
 z51 := Try.sizeOf196
 v51 := Try.zeroValue196
 t53 := Try.underlying342
 a53 := Try.isAgg342
 z53 := Try.sizeOf342
 v53 := Try.zeroValue342
 t131 := Try.underlying186
 a131 := Try.isAgg186
 z131 := Try.sizeOf186
 v131 := Try.zeroValue186
 t182 := Try.underlying334
 a182 := Try.isAgg334
 z182 := Try.sizeOf334
 v182 := Try.zeroValue334
 t183 := Try.underlying335
 a183 := Try.isAgg335
 z183 := Try.sizeOf335
 v183 := Try.zeroValue335
 t218 := Try.underlying366
 a218 := Try.isAgg366
 z218 := Try.sizeOf366
 v218 := Try.zeroValue366
 t222 := Try.underlying85
 a222 := Try.isAgg85
 z222 := Try.sizeOf85
 v222 := Try.zeroValue85
 t228 := Try.underlying382
 a228 := Try.isAgg382
 z228 := Try.sizeOf382
 v228 := Try.zeroValue382
 t229 := Try.underlying383
 a229 := Try.isAgg383
 z229 := Try.sizeOf383
 v229 := Try.zeroValue383 }
end Go.Proofs.Ytiipiapfnedfjaa.V
/- The kit's contract for a function of the library, laid at this program by the kit's own tool in plain words; no condition. -/
namespace Go.Proofs.Ytiipiapfnedfjaa.V
open Go Go.Shelf Go.Proofs
def laysC_ren : Go.Shelf.Ren := ⟨fun | 20 => 217 | n => n, fun | 22 => 25 | 3 => 3 | 4 => 4 | 0 => 0 | n => n, fun | n => n⟩
theorem laysC : Go.Proofs.Lays2.n20 Try.prog laysC_ren := {
 mixed := by kernel_rfl
 f20 := Try.func217.trans (congrArg some (by kernel_rfl))
 t0 := Try.underlying0
 a0 := Try.isAgg0
 z0 := Try.sizeOf0
 v0 := Try.zeroValue0
 t3 := Try.underlying3
 a3 := Try.isAgg3
 z3 := Try.sizeOf3
 v3 := Try.zeroValue3
 t4 := Try.underlying4
 a4 := Try.isAgg4
 z4 := Try.sizeOf4
 v4 := Try.zeroValue4
 t22 := Try.underlying25
 a22 := Try.isAgg25
 z22 := Try.sizeOf25
 v22 := Try.zeroValue25
 i3 := by kernel_rfl }
end Go.Proofs.Ytiipiapfnedfjaa.V
/- slices.Sort and slices.Compact of whole numbers: their contracts; no condition. -/
namespace Go.Proofs.Ytiipiapfnedfjaa.V
open Go Go.Proofs
set_option linter.unusedVariables false
set_option linter.unusedSimpArgs false

def sortI (xs : List Int) : List Int := xs.mergeSort fun x y => decide (x ≤ y)
def soI (xs : List Int) : List Int := Lib.compact (sortI xs)
theorem sortI_len (xs : List Int) : (sortI xs).length = xs.length := List.length_mergeSort _
theorem soI_len (xs : List Int) : (soI xs).length ≤ xs.length := by have := cmp_len (sortI xs); rw [sortI_len] at this; exact this
theorem soI_lt (xs : List Int) : (soI xs).Pairwise (· < ·) := (so_spec xs).1
theorem soI_mem {xs : List Int} {x : Int} : x ∈ soI xs ↔ x ∈ xs := (so_spec xs).2 x
theorem slices_sort {Γr : Ctx} {g : PH} {L : Mem} {e : TypeId} {A : Option Addr} {n c : Nat} {xs : List Int} (h : Bld g L e (.slice A n c) xs) (hlen : xs.length ≤ 140737488355328) :
  Ret Try.prog 118 [.slice A n c] Γr [g] (fun v Γ => v = .tuple #[] ∧ ∃ g', Γ = [g'] ∧ Bld g' L e (.slice A n c) (sortI xs) ∧ ∀ k, rowBlk (.slice A n c) ≠ some k → g' k = g k) :=
 sort_row (by kernel_rfl) (fun blk off cap zs w => Any.slices_Sort_int laysS blk off cap zs w) (fun p cap w => Any.slices_Sort_int_none laysS p cap w) h hlen
theorem slices_compact {Γr : Ctx} {g : PH} {L : Mem} {e : TypeId} {A : Option Addr} {n c : Nat} {xs : List Int} (h : Bld g L e (.slice A n c) xs) :
  Ret Try.prog 217 [.slice A n c] Γr [g] (fun v Γ => v = .slice A (Lib.compact xs).length c ∧ ∃ g', Γ = [g'] ∧ Bld g' L e (.slice A (Lib.compact xs).length c) (Lib.compact xs) ∧ ∀ k, rowBlk (.slice A n c) ≠ some k → g' k = g k) :=
 compact_row (by kernel_rfl) (fun blk off cap zs w => Any.slices_Compact_int laysC blk off cap zs w) (fun p cap w => Any.slices_Compact_int_empty laysC p cap w) h
end Go.Proofs.Ytiipiapfnedfjaa.V
/- The text of slices.Clone[[]int,int] as a statement; no condition. -/
namespace Go.Proofs.Ytiipiapfnedfjaa.V
open Go
def S143_0 : Stmt :=
 .seq (.region [oq 2 (.mv (.const (.slice none 0 0)))] [0])
 (.seq
 (.seq
 (.region
 [oq 3 (.mv (.tmp 0)),
 oq 4 (.nilq 0 false (.tmp 3) (.const (.slice none 0 0)))]
 [0,4])
 (.cond (.tmp 4)
 (.seq (.region [oq 2 (.mv (.const (.slice none 0 0)))] [2]) .ret)
 .skip))
 (.seq
 (.region
 [oq 5 (.buildS 3 0 [] []),oq 6 (.mv (.tmp 0)),
 oq 7 (.append 25 3 1 8 (.int .i64 0) (.tmp 5) (.tmp 6)),
 oq 2 (.mv (.tmp 7))]
 [2])
 .ret))
def S143 : FnS := ⟨8,[(2,none)],S143_0⟩
theorem tr143 : trFn Try.prog 143 [] [[0],[0,4],[2],[2]] = some S143 := by kernel_rfl
end Go.Proofs.Ytiipiapfnedfjaa.V
/- The text of slices.Concat[[]int,int] as a statement; no condition. -/
namespace Go.Proofs.Ytiipiapfnedfjaa.V
open Go
def S218_1 : Stmt :=
 .block 1
 (.seq
 (.region
 [oq 13 (.idx 1 (.tmp 9) (.tmp 11)),
 oq 14 (.load false 1 (.tmp 13)),oq 5 (.mv (.tmp 14))]
 [0,3,5,9,10,11])
 (.seq
 (.region
 [oq 15 (.mv (.tmp 3)),oq 16 (.mv (.tmp 5)),
 oq 17 (.len false (.tmp 16)),
 oq 18 (.ibin .add (.tmp 15) (.tmp 17)),
 oq 3 (.mv (.tmp 18))]
 [0,3,9,10,11])
 (.seq
 (.region
 [oq 19 (.mv (.tmp 3)),
 oq 20 (.ibin .lss (.tmp 19) (.const (.int .i64 0)))]
 [0,3,9,10,11,20])
 (.cond (.tmp 20)
 (.region [oq 21 .dead,.mk none none .dead] [0,3,9,10,11]) .skip))))
def S218_2 : Stmt :=
 .region
 [oq 22 (.ibin .add (.tmp 11) (.const (.int .i64 1))),
 oq 11 (.mv (.tmp 22))]
 [0,3,9,10,11]
def S218_3 : Stmt :=
 .seq
 (.region [oq 12 (.ibin .lss (.tmp 11) (.tmp 10))] [0,3,9,10,11,12])
 (.seq (.cond (.tmp 12) .skip (.exit 0)) (.join S218_1 S218_2 [3] [0,9,10,11]))
def S218_4 : Stmt :=
 .seq
 (.region [oq 28 (.ibin .lss (.tmp 27) (.tmp 26))] [6,25,26,27,28])
 (.seq (.cond (.tmp 28) .skip (.exit 2))
 (.seq
 (.block 3
 (.seq
 (.region
 [oq 29 (.idx 1 (.tmp 25) (.tmp 27)),
 oq 30 (.load false 1 (.tmp 29)),
 oq 8 (.mv (.tmp 30))]
 [6,8,25,26,27])
 (.region
 [oq 31 (.mv (.tmp 6)),oq 32 (.mv (.tmp 8)),
 oq 33 (.append 25 3 1 8 (.int .i64 0) (.tmp 31) (.tmp 32)),
 oq 6 (.mv (.tmp 33))]
 [6,25,26,27])))
 (.region
 [oq 34 (.ibin .add (.tmp 27) (.const (.int .i64 1))),
 oq 27 (.mv (.tmp 34))]
 [6,25,26,27])))
def S218_0 : Stmt :=
 .seq (.region [oq 2 (.mv (.const (.slice none 0 0)))] [0])
 (.seq (.region [oq 3 (.mv (.const (.int .i64 0)))] [0,3])
 (.seq
 (.seq
 (.region
 [oq 9 (.mv (.tmp 0)),oq 10 (.len false (.tmp 9)),
 oq 11 (.mv (.const (.int .i64 0)))]
 [0,3,9,10,11])
 (.block 0 (.loop S218_3 [3,11] [0,9,10])))
 (.seq
 (.region
 [oq 23 (.mv (.tmp 3)),
 .mk (some 24) none
 (.call (.func 265) [.const (.slice none 0 0),.tmp 23]),
 oq 6 (.mv (.tmp 24))]
 [0,6])
 (.seq
 (.seq
 (.region
 [oq 25 (.mv (.tmp 0)),
 oq 26 (.len false (.tmp 25)),
 oq 27 (.mv (.const (.int .i64 0)))]
 [6,25,26,27])
 (.block 2 (.loop S218_4 [6,27] [25,26])))
 (.seq
 (.region
 [oq 35 (.mv (.tmp 6)),oq 2 (.mv (.tmp 35))] [2])
 .ret)))))
def S218 : FnS := ⟨36,[(2,none)],S218_0⟩
theorem tr218 : trFn Try.prog 218 [] [[0],[0,3],[0,3,9,10,11],[3,11],[0,9,10],[0,3,9,10,11,12],[3],[0,9,10,11],[0,3,5,9,10,11],[0,3,9,10,11],[0,3,9,10,11,20],[0,3,9,10,11],[0,3,9,10,11],[0,6],[6,25,26,27],[6,27],[25,26],[6,25,26,27,28],[6,8,25,26,27],[6,25,26,27],[6,25,26,27],[2]] = some S218 := by kernel_rfl
end Go.Proofs.Ytiipiapfnedfjaa.V
/- The text of slices.Grow[[]int,int] as a statement; no condition. -/
namespace Go.Proofs.Ytiipiapfnedfjaa.V
open Go
def S265_1 : Stmt :=
 .seq
 (.region
 [oq 5 (.mv (.tmp 1)),
 oq 6 (.ibin .lss (.tmp 5) (.const (.int .i64 0)))]
 [0,1,6])
 (.cond (.tmp 6) (.region [oq 7 .dead,.mk none none .dead] [0,1])
 .skip)
def S265_2 : Stmt :=
 .seq
 (.region
 [oq 8 (.mv (.tmp 1)),oq 9 (.mv (.tmp 0)),
 oq 10 (.q (Qk.bi 0 [25]) [.tmp 9]),oq 11 (.mv (.tmp 0)),
 oq 12 (.len false (.tmp 11)),
 oq 13 (.ibin .sub (.tmp 10) (.tmp 12)),
 oq 14 (.ibin .sub (.tmp 8) (.tmp 13)),
 oq 1 (.mv (.tmp 14))]
 [0,1])
 (.seq
 (.region
 [oq 15 (.mv (.tmp 1)),
 oq 16 (.ibin .gtr (.tmp 15) (.const (.int .i64 0)))]
 [0,1,16])
 (.cond (.tmp 16)
 (.region
 [oq 17 (.mv (.tmp 0)),oq 18 (.mv (.tmp 0)),
 oq 19 (.q (Qk.bi 0 [25]) [.tmp 18]),
 oq 20 (.slc 1 (.tmp 17) none (some (.tmp 19)) none),
 oq 21 (.mv (.tmp 1)),
 oq 22 (.appz 25 3 3 1 8 (.int .i64 0) (.tmp 20) (.tmp 21)),
 oq 23 (.mv (.tmp 0)),oq 24 (.len false (.tmp 23)),
 oq 25 (.slc 1 (.tmp 22) none (some (.tmp 24)) none),
 oq 0 (.mv (.tmp 25))]
 [0])
 .skip))
def S265_3 : Stmt :=
 .seq
 (.region [oq 26 (.mv (.tmp 0)),oq 4 (.mv (.tmp 26))] [4])
 .ret
def S265_4 : Stmt :=
 .join S265_2 S265_3 [0] []
def S265_0 : Stmt :=
 .seq (.region [oq 4 (.mv (.const (.slice none 0 0)))] [0,1])
 (.join S265_1 S265_4 [] [0,1])
def S265 : FnS := ⟨27,[(4,none)],S265_0⟩
theorem tr265 : trFn Try.prog 265 [] [[0,1],[],[0,1],[0,1,6],[0,1],[0],[],[0,1],[0,1,16],[0],[4]] = some S265 := by kernel_rfl
end Go.Proofs.Ytiipiapfnedfjaa.V
