/- Texts put together, in the order in which they build; each says what it proves; no condition. -/
import Derived.Test.YtniobbepliknmaaM3
import Derived.Maps.Keyed
import Derived.DeepKeys5
import Derived.MapFrom
import Derived.Test.YtniobbepliknmaaM2
import Derived.Test.YtniobbepliknmaaProg
import Derived.Maps.RangeRun
import Derived.Laws.BytesArg
/- Trees as data; no condition. -/
namespace Go.Proofs.Ytniobbepliknmaa.V
open Go
set_option linter.unusedVariables false
set_option linter.unusedSimpArgs false

inductive Tr where
  | mk (rule term : Int) (kids : List Tr)
def Tr.rule : Tr → Int | ⟨r, _, _⟩ => r
def Tr.term : Tr → Int | ⟨_, t, _⟩ => t
def Tr.kids : Tr → List Tr | ⟨_, _, k⟩ => k
noncomputable instance : DecidableEq Tr := fun _ _ => Classical.propDecidable _
theorem Tr.lt {x : Tr} {k : Tr} (h : k ∈ x.kids) : SizeOf.sizeOf k < SizeOf.sizeOf x := by
  cases x with
  | mk r t ks =>
    have := List.sizeOf_lt_of_mem h
    simp only [Tr.kids] at this
    rw [Tr.mk.sizeOf_spec]
    omega
theorem Tr.ind {p : Tr → Prop} (h : ∀ x, (∀ k ∈ x.kids, p k) → p x) (x : Tr) : p x :=
  h x fun k hk => Tr.ind h k
termination_by SizeOf.sizeOf x
decreasing_by exact Tr.lt hk
/-- a tree lies in memory -/
inductive TrOk (L : Mem) : Tr → List Value → Prop
  | nil (r t : Int) (A : Option Addr) (c : Nat) (hc : c ≤ maxLen) : TrOk L ⟨r, t, []⟩ [.int .i64 r, .int .i64 t, .slice A 0 c]
  | kids (r t : Int) (ks : List Tr) (b o : Nat) (cells : Array Value) (T : TypeId) (fr : Nat × Nat) (c : Nat) (css : Nat → List Value) (h1 : ks.length ≤ c) (h2 : c ≤ maxLen) (h3 : ks.length ≤ 140737488355328)
      (hb : L b (.cells cells T fr)) (hk : ∀ (i : Nat) (x : Tr), ks[i]? = some x → TrOk L x (css i)) (hc : ∀ (i : Nat) (x : Tr), ks[i]? = some x → ∀ j, j < 3 → cells[o + i * 3 + j]? = (css i)[j]?) :
      TrOk L ⟨r, t, ks⟩ [.int .i64 r, .int .i64 t, .slice (some ⟨b, o, none⟩) ks.length c]
theorem TrOk.form {L : Mem} {x : Tr} {cs : List Value} (h : TrOk L x cs) : ∃ A c, cs = [.int .i64 x.rule, .int .i64 x.term, .slice A x.kids.length c] := by
  cases h with
  | nil r t A c hc => exact ⟨A, c, rfl⟩
  | kids r t ks b o cells T fr c css => exact ⟨_, c, rfl⟩
theorem TrOk.mono {L L' : Mem} (hL : Mem.le L L') {x : Tr} {cs : List Value} (h : TrOk L x cs) : TrOk L' x cs := by
  induction h with
  | nil r t A c hc => exact .nil r t A c hc
  | kids r t ks b o cells T fr c css h1 h2 h3 hb hk hc ih => exact .kids r t ks b o cells T fr c css h1 h2 h3 (hL _ _ hb) ih hc
instance : Rep Tr where
  sz := 3
  ok := TrOk
  len h := by obtain ⟨A, c, rfl⟩ := h.form; rfl
  one h := by obtain ⟨A, c, rfl⟩ := h.form; simp [one', Value.oneCell']
  mono h hh := h.mono hh
/-! numbers of nodes -/
end Go.Proofs.Ytniobbepliknmaa.V
/- Rows whose elements are changed one by one; no condition. -/
namespace Go.Proofs.Ytniobbepliknmaa.V
open Go
set_option linter.unusedVariables false
set_option linter.unusedSimpArgs false

theorem splice_get {cs new : List Value} {p m j : Nat} (hm : new.length = m) (hp : p + m ≤ cs.length) : (cs.take p ++ new ++ cs.drop (p + m))[j]? = if p ≤ j ∧ j < p + m then new[j - p]? else cs[j]? := by
  have h1 : (cs.take p).length = p := by simp; omega
  have h2 : (cs.take p ++ new).length = p + m := by rw [List.length_append, h1, hm]
  by_cases a : j < p
  · rw [if_neg (by omega), List.getElem?_append_left (by omega), List.getElem?_append_left (by omega), List.getElem?_take, if_pos a]
  · by_cases b : j < p + m
    · rw [if_pos ⟨by omega, b⟩, List.getElem?_append_left (by omega), List.getElem?_append_right (by omega), h1]
    · rw [if_neg (by omega), List.getElem?_append_right (by omega), h2, List.getElem?_drop]
      congr 1
      omega
theorem Row.put {g : PH} {e : TypeId} {sz n c i : Nat} {A : Option Addr} {cs : List Value} (h : Row g e sz (.slice A n c) n cs) (hi : i < n) :
    ∃ b o cur, A = some ⟨b, o, none⟩ ∧ g b = some (.cells cur e (0, 0)) ∧ o + i * sz + sz ≤ cur.size ∧ (∀ j, j < n * sz → cur[o + j]? = cs[j]?) ∧ cs.length = n * sz ∧
      ∀ x : Value, (cellsV x).length = sz → Row (upd g b (.cells (setC cur.toList (o + i * sz) sz x).toArray e)) e sz (.slice A n c) n (cs.take (i * sz) ++ cellsV x ++ cs.drop (i * sz + sz)) := by
  obtain ⟨h1, h2⟩ := h
  rcases h2 with ⟨q, _⟩ | ⟨b, o, cap, cur, q1, q2, q3, q4, q5, q6⟩
  · omega
  · simp only [Value.slice.injEq, true_and] at q1
    obtain ⟨rfl, rfl⟩ := q1
    have hle : (i + 1) * sz ≤ n * sz := Nat.mul_le_mul_right _ hi
    rw [Nat.add_mul, Nat.one_mul] at hle
    have hcap : n * sz ≤ (cap + 1) * sz := Nat.mul_le_mul_right _ q2
    have hcur : ∀ j, j < n * sz → cur[o + j]? = cs[j]? := fun j hj => by
      rw [← q6, List.getElem?_take, if_pos hj, List.getElem?_drop]
      simp
    refine ⟨b, o, cur, rfl, q4, by omega, hcur, h1, fun x hx => ⟨?_, .inr ⟨b, o, cap, _, rfl, q2, q3, upd_self _ _ _, ?_, ?_⟩⟩⟩
    · simp [hx]; omega
    · simp [setC, hx]; omega
    · apply List.ext_getElem?
      intro j
      rw [List.getElem?_take, List.getElem?_drop, splice_get hx (by omega)]
      simp only [List.toList_toArray, setC]
      rw [splice_get hx (by simp; omega)]
      by_cases a : j < n * sz
      · rw [if_pos a]
        by_cases b : i * sz ≤ j ∧ j < i * sz + sz
        · rw [if_pos (by omega), if_pos b]
          congr 1
          omega
        · rw [if_neg (by omega), if_neg b, ← hcur j a]
          simp
      · rw [if_neg a]
        split
        · omega
        · rw [List.getElem?_eq_none (by omega)]
/-- a row; what its elements lead to lies here and there -/
def BldM {α : Type} [Rep α] (g : PH) (Lf : Nat → Mem) (e : TypeId) (v : Value) (xs : List α) : Prop :=
  ∃ cs, Row g e (Rep.sz α) v xs.length cs ∧ ∀ i x, xs[i]? = some x → ∃ c, Rep.ok (Lf i) x c ∧ ∀ j, j < Rep.sz α → cs[i * Rep.sz α + j]? = c[j]?
theorem BldM.mono {α : Type} [Rep α] {g : PH} {Lf Lg : Nat → Mem} {e : TypeId} {v : Value} {xs : List α} (h : BldM g Lf e v xs) (hL : ∀ i, i < xs.length → Mem.le (Lf i) (Lg i)) : BldM g Lg e v xs := by
  obtain ⟨cs, h1, h2⟩ := h
  refine ⟨cs, h1, fun i x hi => ?_⟩
  obtain ⟨c, q1, q2⟩ := h2 i x hi
  exact ⟨c, Rep.mono q1 (hL i (List.getElem?_eq_some_iff.1 hi).1), q2⟩
/-- an element, its place and its cells -/
theorem BldM.get {α : Type} [Rep α] {g : PH} {Lf : Nat → Mem} {e : TypeId} {A : Option Addr} {c i : Nat} {xs : List α} (h : BldM g Lf e (.slice A xs.length c) xs) (hi : i < xs.length) :
    ∃ b o cs, A = some ⟨b, o, none⟩ ∧ Rep.ok (Lf i) xs[i] cs ∧ ∀ Γ : Ctx, g ∈ Γ → Cells Γ b (o + i * Rep.sz α) cs := by
  obtain ⟨cs, h1, h2⟩ := h
  obtain ⟨b, o, cur, rfl, hb, hsz, hcur, hlen, _⟩ := h1.put hi
  obtain ⟨c', q1, q2⟩ := h2 i _ (List.getElem?_eq_getElem hi)
  refine ⟨b, o, c', rfl, q1, fun Γ hg => ⟨g, hg, cur, e, (0, 0), hb, fun j hj => ?_⟩⟩
  have hj' : j < Rep.sz α := by rw [← Rep.len q1]; exact hj
  have hle : (i + 1) * Rep.sz α ≤ xs.length * Rep.sz α := Nat.mul_le_mul_right _ hi
  rw [Nat.add_mul, Nat.one_mul] at hle
  rw [Nat.add_assoc, hcur _ (by omega), q2 j hj']
/-- an element is changed -/
theorem BldM.put {α : Type} [Rep α] {g : PH} {Lf : Nat → Mem} {L : Mem} {e : TypeId} {A : Option Addr} {c i : Nat} {xs : List α} {x : α} {new : Value} (h : BldM g Lf e (.slice A xs.length c) xs) (hi : i < xs.length) (hx : Rep.ok L x (cellsV new)) :
    ∃ b o cur, A = some ⟨b, o, none⟩ ∧ g b = some (.cells cur e (0, 0)) ∧ o + i * Rep.sz α + Rep.sz α ≤ cur.size ∧
      BldM (upd g b (.cells (setC cur.toList (o + i * Rep.sz α) (Rep.sz α) new).toArray e)) (fun j => if j = i then L else Lf j) e (.slice A xs.length c) (xs.set i x) := by
  obtain ⟨cs, h1, h2⟩ := h
  obtain ⟨b, o, cur, rfl, hb, hsz, hcur, hlen, hput⟩ := h1.put hi
  have hn := Rep.len hx
  refine ⟨b, o, cur, rfl, hb, hsz, _, by rw [List.length_set]; exact hput new hn, fun k y hk => ?_⟩
  have hkl : k < xs.length := by simpa using (List.getElem?_eq_some_iff.1 hk).1
  have hle : (i + 1) * Rep.sz α ≤ xs.length * Rep.sz α := Nat.mul_le_mul_right _ hi
  have hlk : (k + 1) * Rep.sz α ≤ xs.length * Rep.sz α := Nat.mul_le_mul_right _ hkl
  rw [Nat.add_mul, Nat.one_mul] at hle hlk
  by_cases e : k = i
  · subst e
    rw [List.getElem?_set_self hi] at hk
    cases hk
    refine ⟨_, by show Rep.ok (if k = k then L else Lf k) x _; rw [if_pos rfl]; exact hx, fun j hj => ?_⟩
    rw [splice_get hn (by omega), if_pos (by omega)]
    congr 1
    omega
  · rw [List.getElem?_set_ne (fun q => e q.symm)] at hk
    obtain ⟨c', q1, q2⟩ := h2 k y hk
    refine ⟨c', by show Rep.ok (if k = i then L else Lf k) y c'; rw [if_neg e]; exact q1, fun j hj => ?_⟩
    rw [splice_get hn (by omega), if_neg, q2 j hj]
    intro ⟨a1, a2⟩
    rcases Nat.lt_or_gt_of_ne e with q | q
    · have : (k + 1) * Rep.sz α ≤ i * Rep.sz α := Nat.mul_le_mul_right _ q
      rw [Nat.add_mul, Nat.one_mul] at this
      omega
    · have : (i + 1) * Rep.sz α ≤ k * Rep.sz α := Nat.mul_le_mul_right _ q
      rw [Nat.add_mul, Nat.one_mul] at this
      omega
end Go.Proofs.Ytniobbepliknmaa.V
/- Maps: a map as the list of its keys and values; no condition. -/
namespace Go.Proofs.Ytniobbepliknmaa.V
open Go
set_option linter.unusedVariables false
set_option linter.unusedSimpArgs false
set_option linter.unusedSectionVars false
attribute [local go_sem] e_seq e_region e_quiet e_join e_loop e_cond e_block e_exit e_ret e_skip e_fin e_kseq e_snrm e_sret e_sex e_bnrm e_bret e_bex e_rnrm e_rret e_res e_condC e_nil e_g e_mv g_mv e_pick g_pick pickC_eq e_ibin g_ibin ibinC_eq e_sbin g_sbin e_beq g_beq beqC_eq e_nilq g_nilq nilqC_sl nilqC_pt nilqC_mp e_un g_un unC_not unC_neg e_conv g_conv convC_eq e_fld g_fld fldC_ref fldC_ptr e_nilCheck g_nilCheck nilCheckC_ref nilCheckC_ptr nilCheckC_fun e_field g_field fieldC_eq e_len g_len lenC_sl lenC_str e_extract g_extract extractC_eq e_mkFunc e_build g_build e_idiv g_idiv idivC_eq e_ishift g_ishift ishiftC_eq e_idx g_idx e_idxA g_idxA e_load g_load e_loadB g_loadB atB_ref atB_v g_mkFunc loadC_ref loadC_ptr loadB_eq e_slc g_slc e_box boxC_loc boxC_esc e_alloc allocC_loc allocC_esc e_buildS e_store storeC_ref storeC_ptr storeB_eq e_append e_appz e_mk mkC_eq e_call callC_eq e_fn g_fn fnC_eq fnV_min' fnV_max' fnV_rune' e_q g_q e_a e_n g_call g_box g_alloc g_buildS g_store g_append g_mk g_a g_n g_dead e_dead e_callK e_drawn e_tree e_finJ e_tk e_tfin e_tno e_nbt_q e_nbt_qn e_nbt_a e_nbt_an e_nbt_fin e_drawnB e_bxb_nil e_bxb e_stB_none e_stB_some boxSt_store bs_mv bs_pick bs_ibin bs_idiv bs_ishift bs_sbin bs_beq bs_nilq bs_un bs_conv bs_box bs_alloc bs_build bs_buildS bs_load bs_fld bs_nilCheck bs_idx bs_idxA bs_field bs_slc bs_len bs_append bs_appz bs_mk bs_call bs_extract bs_mkFunc bs_fn bs_q bs_a bs_n bs_loadB bs_dead isBox_box e_early_nil e_early_t e_early_f e_nob_nil e_nob_none e_nob_some isBox_dead isBox_v isBox_ref e_dnil e_dk e_ek e_finB vcOps_vc1 e_dcons e_tq e_ekt e_tearly e_talt e_dearly look_nil look_c proj_nil proj_c looks_nil looks_c zip_nil zip_c val_tmp val_const val_func slv_v slv_box slv_ref slot_tmp slot_const slot_func slotL_v slotL_box slotL_ref put_some put_none updBox_c boxSet_box gd_eq slotVals_nil slotVals_c slotVals_b boxV_box boxOn_box slotsOn_nil slotsOn_c slotsOn_b resV_one resV_two vals_nil vals_c allOn_nil allOn_c partOn_nil partOn_c partVals_nil partVals_c fits_nil fits_c fillL_nil fillL_c mkv_one mkv_agg cellsV_agg cellsV_int cellsV_bool cellsV_slice cellsV_string cellsV_pointer cellsV_func cellsV_nilf cellsV_map one'_nil one'_c oc_int oc_bool oc_slice oc_string oc_pointer oc_func oc_nilf oc_map setC_eq iv_add iv_sub iv_mul iv_eql iv_neq iv_lss iv_leq iv_gtr iv_geq iok_add iok_sub iok_mul iok_eql iok_neq iok_lss iok_leq iok_gtr iok_geq pickV_bool args0_nil args0_c bnd_none bnd_some imp_bt imp_bf imp_ebt imp_ebf imp_eb1 imp_np imp_pp beq_tt beq_tf beq_ft beq_ff cond_or cond_and e_round e_meet Int.le_refl Int.toNat_zero decide_true decide_false Bool.or_false Bool.false_or Bool.true_or Bool.or_true Bool.and_false Bool.false_and Bool.bne_false Bool.bne_true beq_iff_eq Int.cast_ofNat_Int not_false_eq_true not_true_eq_false false_and and_false false_implies true_implies true_and and_true Bool.true_and Bool.and_true Bool.not_true Bool.not_false forall_const implies_true List.take_zero List.drop_zero List.take_succ_cons List.drop_succ_cons List.take_nil List.drop_nil List.length_cons List.length_nil List.nil_append List.append_nil List.cons_append Int.toNat_natCast decide_eq_true_eq decide_eq_false_iff_not cond_true cond_false and_self List.getElem?_cons_zero List.getElem?_cons_succ List.set_cons_zero List.set_cons_succ Option.some.injEq exists_eq_left' Nat.zero_add Nat.add_zero Nat.mul_one imp_self true_or or_true or_false false_or Bool.or_eq_true Bool.or_eq_false_iff Bool.and_eq_true Bool.and_eq_false_iff Bool.not_eq_true' Bool.not_eq_false'

theorem zero_run {P : Program} {e : TypeId} {z : Value} (h : (P.info? e).bind (·.zero) = some z) (w : World) : (zeroValue e).run P w = .ok z w := by
  obtain ⟨i, hi, hz⟩ := Option.bind_eq_some_iff.1 h
  simp [zeroValue, typeInfo, hi, hz]
/-- what a map's operations need of the keys -/
structure KT (P : Program) (k : TypeId) {α : Type} (eK : α → Value) (good : α → Prop) : Prop where
  inj : ∀ a b, eK a = eK b → a = b
  check : ∀ (w : World) (em : Bool) a, good a → (Instr.checkKey em 10000 k (eK a)).run P w = .ok () w
  find : ∀ (w : World) a, good a → ∀ es : List MapEntry, (∀ e ∈ es, ∃ b, good b ∧ e.key = eK b) →
    ((Instr.findKey k (eK a) es).run P w = .ok none w ∧ ∀ e ∈ es, e.key ≠ eK a) ∨ ∃ j e, (Instr.findKey k (eK a) es).run P w = .ok (some (j, e.val)) w ∧ es[j]? = some e ∧ e.key = eK a
  stays : ∀ (w : World) a, good a → (Instr.keyThatStays (eK a) (eK a)).run P w = .ok (eK a) w
theorem KT.of {P : Program} {k : TypeId} {α : Type} {eK : α → Value} {good : α → Prop} (K : Maps.Keyed P k) (hi : ∀ a b, eK a = eK b → a = b) (h : ∀ a, good a → ∃ l, keyOf P k (eK a) = some l) : KT P k eK good where
  inj := hi
  check w em a ha := by obtain ⟨l, hl⟩ := h a ha; exact K.check w em hl
  find w a ha es he := by
    obtain ⟨l, hl⟩ := h a ha
    exact K.find w hl es fun e hm => by obtain ⟨b, hb, q⟩ := he e hm; rw [q]; exact h b hb
  stays w a ha := by obtain ⟨l, hl⟩ := h a ha; exact K.stays w hl

section
variable {α β : Type}
/-- each entry has its own time of birth, which is past -/
def Born (es : List MapEntry) (clock : Nat) : Prop := (∀ e ∈ es, e.born < clock) ∧ (es.map (·.born)).Nodup
/-- the map b lies in memory -/
structure MapL (L : Mem) (b : Nat) (eK : α → Value) (eV : β → Value) (good : α → Prop) (l : List (α × β)) : Prop where
  nodup : (l.map (·.1)).Nodup
  good : ∀ p ∈ l, good p.1
  at' : ∃ es clock, L b (.map es clock) ∧ es.toList.map (fun e => (e.key, e.val)) = l.map (fun p => (eK p.1, eV p.2)) ∧ Born es.toList clock
theorem MapL.mono {L L' : Mem} {b : Nat} {eK : α → Value} {eV : β → Value} {good : α → Prop} {l : List (α × β)} (h : MapL L b eK eV good l) (hl : Mem.le L L') : MapL L' b eK eV good l :=
  ⟨h.nodup, h.good, let ⟨es, c, q1, q2⟩ := h.at'; ⟨es, c, hl _ _ q1, q2⟩⟩
/-- the map b is a heap's -/
def MapM (g : PH) (b : Nat) (eK : α → Value) (eV : β → Value) (good : α → Prop) (l : List (α × β)) : Prop := MapL (fun b o => g b = some o) b eK eV good l
theorem MapM.l {g : PH} {Γ : Ctx} {b : Nat} {eK : α → Value} {eV : β → Value} {good : α → Prop} {l : List (α × β)} (h : MapM g b eK eV good l) (hg : g ∈ Γ) : MapL (lk Γ) b eK eV good l :=
  MapL.mono h fun _ _ q => ⟨g, hg, q⟩
theorem MapM.mono {g g' : PH} {b : Nat} {eK : α → Value} {eV : β → Value} {good : α → Prop} {l : List (α × β)} (h : MapM g b eK eV good l) (hg : Mem.le (lk [g]) (lk [g'])) : MapM g' b eK eV good l :=
  MapL.mono h fun b o q => by obtain ⟨x, hx, q'⟩ := hg b o ⟨g, by simp, q⟩; simp at hx; subst hx; exact q'
theorem MapM.new (b : Nat) (eK : α → Value) (eV : β → Value) (good : α → Prop) : MapM (one b (.map #[] 0)) b eK eV good ([] : List (α × β)) := ⟨by simp, by simp, #[], 0, one_self _ _, rfl, by simp [Born]⟩

theorem entry_of {es : Array MapEntry} {eK : α → Value} {eV : β → Value} {l : List (α × β)} (h : es.toList.map (fun e => (e.key, e.val)) = l.map (fun p => (eK p.1, eV p.2))) {j : Nat} {e : MapEntry} (hj : es.toList[j]? = some e) : ∃ p, l[j]? = some p ∧ e.key = eK p.1 ∧ e.val = eV p.2 := by
  have h1 := congrArg (·[j]?) h
  simp only [List.getElem?_map, hj, Option.map_some] at h1
  cases hp : l[j]? with
  | none => rw [hp] at h1; simp at h1
  | some p => rw [hp] at h1; simp at h1; exact ⟨p, rfl, h1.1, h1.2⟩
theorem entry_good {L : Mem} {b : Nat} {eK : α → Value} {eV : β → Value} {good : α → Prop} {l : List (α × β)} (hm : MapL L b eK eV good l) {es : Array MapEntry} (h : es.toList.map (fun e => (e.key, e.val)) = l.map (fun p => (eK p.1, eV p.2))) : ∀ e ∈ es.toList, ∃ b, good b ∧ e.key = eK b := by
  intro e he
  obtain ⟨j, hj⟩ := List.getElem?_of_mem he
  obtain ⟨p, hp, hk, _⟩ := entry_of h hj
  exact ⟨p.1, hm.good p (List.mem_of_getElem? hp), hk⟩
theorem entry_none {es : Array MapEntry} {eK : α → Value} {eV : β → Value} {l : List (α × β)} (h : es.toList.map (fun e => (e.key, e.val)) = l.map (fun p => (eK p.1, eV p.2))) {a : α} (hn : ∀ e ∈ es.toList, e.key ≠ eK a) : a ∉ l.map (·.1) := by
  intro ha
  obtain ⟨p, hp, rfl⟩ := List.mem_map.1 ha
  have : (eK p.1, eV p.2) ∈ es.toList.map (fun e => (e.key, e.val)) := by rw [h]; exact List.mem_map.2 ⟨p, hp, rfl⟩
  obtain ⟨e, he, q⟩ := List.mem_map.1 this
  simp at q
  exact hn e he q.1

end
section
variable {α β : Type} [DecidableEq α]
def mget (l : List (α × β)) (a : α) : Option β := (l.find? (fun p => decide (p.1 = a))).map (·.2)
def mput (l : List (α × β)) (a : α) (v : β) : List (α × β) := if a ∈ l.map (·.1) then l.map (fun p => if p.1 = a then (a, v) else p) else l ++ [(a, v)]
theorem mget_none {l : List (α × β)} {a : α} : mget l a = none ↔ a ∉ l.map (·.1) := by
  simp only [mget, Option.map_eq_none_iff, List.find?_eq_none, decide_eq_true_eq, List.mem_map, not_exists, not_and]
theorem mget_at {l : List (α × β)} (hn : (l.map (·.1)).Nodup) {j : Nat} {p : α × β} (h : l[j]? = some p) : mget l p.1 = some p.2 := by
  obtain ⟨hj, rfl⟩ := List.getElem?_eq_some_iff.1 h
  have : l.find? (fun q => decide (q.1 = l[j].1)) = some l[j] := by
    rw [List.find?_eq_some_iff_getElem]
    refine ⟨by simp, j, hj, rfl, fun i hi => ?_⟩
    simp only [Bool.not_eq_eq_eq_not, Bool.not_true, decide_eq_false_iff_not]
    intro e
    have := (List.pairwise_iff_getElem.1 hn) i j (by simp; omega) (by simpa using hj) hi
    simp at this
    exact this e
  rw [mget, this]
  rfl
theorem mput_keys (l : List (α × β)) (a : α) (v : β) : (mput l a v).map (·.1) = if a ∈ l.map (·.1) then l.map (·.1) else l.map (·.1) ++ [a] := by
  unfold mput
  split
  · rw [List.map_map]
    apply List.map_congr_left
    intro p _
    simp only [Function.comp]
    split
    · rename_i h; exact h.symm
    · rfl
  · simp
theorem mput_nodup {l : List (α × β)} (hn : (l.map (·.1)).Nodup) (a : α) (v : β) : ((mput l a v).map (·.1)).Nodup := by
  rw [mput_keys]
  split
  · exact hn
  · rw [List.nodup_append]
    refine ⟨hn, by simp, ?_⟩
    rintro x hx y hy rfl
    simp at hy
    subst hy
    contradiction
/-- a set -/
def mset {γ : Type} (f : γ → α) (l : List γ) : List (α × Bool) := l.map fun x => (f x, true)
theorem mset_keys {γ : Type} (f : γ → α) (l : List γ) : (mset f l).map (·.1) = l.map f := by simp [mset]
theorem mget_set {γ : Type} (f : γ → α) (l : List γ) (a : α) : mget (mset f l) a = if a ∈ l.map f then some true else none := by
  split
  · rename_i h
    have hne : mget (mset f l) a ≠ none := by rw [Ne, mget_none, mset_keys]; simpa using h
    cases hg : mget (mset f l) a with
    | none => exact absurd hg hne
    | some v =>
      simp only [mget, Option.map_eq_some_iff] at hg
      obtain ⟨p, hp, rfl⟩ := hg
      have := List.mem_of_find?_eq_some hp
      simp only [mset, List.mem_map] at this
      obtain ⟨x, _, rfl⟩ := this
      rfl
  · rename_i h
    rw [mget_none, mset_keys]
    exact h
theorem mput_set {γ : Type} (f : γ → α) (l : List γ) (x : γ) (h : f x ∉ l.map f) : mput (mset f l) (f x) true = mset f (l ++ [x]) := by
  rw [mput, mset_keys, if_neg h]
  simp [mset]
theorem qr_look {P : Program} {Γ : Ctx} {t kt et : TypeId} {eK : α → Value} {eV : β → Value} {good : α → Prop} {z : Value} (T : KT P kt eK good) (ht : P.underlying t = some (.map kt et)) (hz : ∀ w, (zeroValue et).run P w = .ok z w) (ok : Bool)
    {b : Nat} {l : List (α × β)} (hm : MapL (lk Γ) b eK eV good l) {a : α} (ha : good a) :
    QR P (.look t ok) [.map (some b), eK a] Γ (if ok then .tuple #[(mget l a).elim z eV, .bool (mget l a).isSome] else (mget l a).elim z eV) := by
  intro w hw
  obtain ⟨es, clock, hb, he, _⟩ := hm.at'
  obtain ⟨h, hh, hb⟩ := hb
  have hb := hw h hh b _ hb
  simp only [qsem]
  rcases T.find w a ha es.toList (entry_good hm he) with ⟨h1, h2⟩ | ⟨j, e, h1, h2, h3⟩
  · have hg : mget l a = none := mget_none.2 (entry_none he h2)
    cases ok <;> simp [Instr.lookup, run_underlying ht, MapKept.run_getObj_map hb, T.check w _ a ha, h1, hz w, hg, Result.andThen]
  · obtain ⟨p, hp, hk, hv⟩ := entry_of he h2
    have : p.1 = a := T.inj _ _ (by rw [← hk, h3])
    subst this
    have hg := mget_at hm.nodup hp
    cases ok <;> simp [Instr.lookup, run_underlying ht, MapKept.run_getObj_map hb, T.check w _ _ ha, h1, hg, hv, Result.andThen]

section
variable {P : Program} {Γr : Ctx} {d : Option Nat} {r : List SOper} {φ : Fr} {Γ : Ctx} {K : Fr → Ctx → Prop}
theorem s_mkmap {t : TypeId} (hk : ∀ b, vcOps P Γr r (put φ d (.v true (.map (some b)))) (one b (.map #[] 0) :: Γ) K) : nC P Γr d r φ Γ K (.mkmap t) [] := by
  intro w _
  exact ⟨_, _, by simp only [qsem, List.head?_nil]; rfl, hk _⟩
theorem entry_put {es : Array MapEntry} {eK : α → Value} {eV : β → Value} {l : List (α × β)} {i : Nat} {a : α} {v : β} (hn : (l.map (·.1)).Nodup) (h : es.toList.map (fun e => (e.key, e.val)) = l.map (fun p => (eK p.1, eV p.2))) {p : α × β} (hp : l[i]? = some p) (ha : p.1 = a) :
    (es.modify i fun e => { e with key := eK a, val := eV v }).toList.map (fun e => (e.key, e.val)) = (mput l a v).map (fun p => (eK p.1, eV p.2)) := by
  have hin : a ∈ l.map (·.1) := List.mem_map.2 ⟨p, List.mem_of_getElem? hp, ha⟩
  rw [mput, if_pos hin]
  apply List.ext_getElem?
  intro j
  have hj := congrArg (·[j]?) h
  simp only [List.getElem?_map, Array.getElem?_toList] at hj ⊢
  rw [Array.getElem?_modify]
  obtain ⟨hi, rfl⟩ := List.getElem?_eq_some_iff.1 hp
  by_cases e : i = j
  · subst e
    rw [hp] at hj ⊢
    simp only [if_true, Option.map_some, ha] at hj ⊢
    cases hq : es[i]? with
    | none => rw [hq] at hj; simp at hj
    | some q => simp
  · rw [if_neg e, hj]
    cases hq : l[j]? with
    | none => rfl
    | some q =>
      obtain ⟨hj', rfl⟩ := List.getElem?_eq_some_iff.1 hq
      have : ¬ l[j].1 = a := fun q => by
        rw [← q] at ha
        have hpw := List.pairwise_iff_getElem.1 hn
        rcases Nat.lt_or_ge i j with q1 | q1
        · have := hpw i j (by simpa using hi) (by simpa using hj') q1
          simp at this
          exact this ha
        · have := hpw j i (by simpa using hj') (by simpa using hi) (by omega)
          simp at this
          exact this ha.symm
      simp [this]
theorem born_put {es : Array MapEntry} {c : Nat} (h : Born es.toList c) {j : Nat} {x y : Value} : Born (es.modify j fun e => { e with key := x, val := y }).toList c := by
  have hm : (es.modify j fun e => { e with key := x, val := y }).toList.map (·.born) = es.toList.map (·.born) := by
    apply List.ext_getElem?
    intro i
    simp only [List.getElem?_map, Array.getElem?_toList, Array.getElem?_modify]
    split
    · cases es[i]? <;> rfl
    · rfl
  refine ⟨fun e he => ?_, by rw [hm]; exact h.2⟩
  have : e.born ∈ es.toList.map (·.born) := by rw [← hm]; exact List.mem_map.2 ⟨e, he, rfl⟩
  obtain ⟨e', h1, h2⟩ := List.mem_map.1 this
  rw [← h2]
  exact h.1 e' h1
theorem s_upd {t kt et : TypeId} {eK : α → Value} {eV : β → Value} {good : α → Prop} (T : KT P kt eK good) (ht : P.underlying t = some (.map kt et)) {g : PH} {ix b : Nat} {l : List (α × β)} (hg : Γ[ix]? = some g) (hm : MapM g b eK eV good l) {a : α} (v : β) (ha : good a)
    (hk : ∀ g', MapM g' b eK eV good (mput l a v) → (∀ k, k ≠ b → g' k = g k) → vcOps P Γr r (put φ d (.v true undef)) (Γ.set ix g') K) : aC P Γr d r φ Γ K (.upd t) [.map (some b), eK a, eV v] := by
  intro w hw
  obtain ⟨es, clock, hb0, he, hbo⟩ := hm.at'
  have hgΓ : g ∈ Γ := List.mem_of_getElem? hg
  have hb := hw g (by simp [hgΓ]) b _ hb0
  have hgood : ∀ p ∈ mput l a v, good p.1 := fun p hp => by
    have : p.1 ∈ (mput l a v).map (·.1) := List.mem_map.2 ⟨p, hp, rfl⟩
    rw [mput_keys] at this
    split at this
    · obtain ⟨q, hq, e⟩ := List.mem_map.1 this
      rw [← e]; exact hm.good q hq
    · simp only [List.mem_append, List.mem_singleton] at this
      rcases this with q | q
      · obtain ⟨q, hq, e⟩ := List.mem_map.1 q
        rw [← e]; exact hm.good q hq
      · rw [q]; exact ha
  have hc := T.check w false a ha
  rcases T.find w a ha es.toList (entry_good hm he) with ⟨h1, h2⟩ | ⟨j, e, h1, h2, h3⟩
  · have hno := entry_none he h2
    refine ⟨undef, setBlk w b (.map (es.push { key := eK a, val := eV v, born := clock }) (clock + 1)), 0, ?_, .inr ⟨ix, g, b, _, _, hg, hb0, rfl, hk _ ⟨mput_nodup hm.nodup a v, hgood, _, _, upd_self _ _ _, ?_, ?_⟩ fun k hne => upd_other hne⟩⟩
    · simp [qsem, Instr.mapUpdate, run_underlying ht, MapKept.run_getObj_map hb, hc, h1, MapKept.run_setObj_map _ hb, Result.andThen, setBlk]
    · rw [mput, if_neg hno, Array.toList_push, List.map_append, he, List.map_append]
      rfl
    · rw [Array.toList_push]
      refine ⟨fun e he => ?_, ?_⟩
      · rcases List.mem_append.1 he with he | he
        · have := hbo.1 e he; omega
        · simp at he; subst he; simp
      · rw [List.map_append, List.nodup_append]
        refine ⟨hbo.2, by simp, ?_⟩
        rintro x hx y hy rfl
        simp at hy
        obtain ⟨e, he, rfl⟩ := List.mem_map.1 hx
        have := hbo.1 e he
        omega
  · obtain ⟨p, hp, hk', hv⟩ := entry_of he h2
    have hpa : p.1 = a := T.inj _ _ (by rw [← hk', h3])
    have hj : es[j]? = some e := by simpa using h2
    refine ⟨undef, setBlk w b (.map (es.modify j fun e => { e with key := eK a, val := eV v }) clock), 0, ?_, .inr ⟨ix, g, b, _, _, hg, hb0, rfl, hk _ ⟨mput_nodup hm.nodup a v, hgood, _, _, upd_self _ _ _, entry_put hm.nodup he hp hpa, born_put hbo⟩ fun k hne => upd_other hne⟩⟩
    simp [qsem, Instr.mapUpdate, run_underlying ht, MapKept.run_getObj_map hb, hc, h1, hj, h3, T.stays w a ha, MapKept.run_setObj_map _ hb, Result.andThen, setBlk]
end
end
end Go.Proofs.Ytniobbepliknmaa.V
/- Grids: rows of rows that are made and changed; no condition. -/
namespace Go.Proofs.Ytniobbepliknmaa.V
open Go
set_option linter.unusedVariables false
set_option linter.unusedSimpArgs false
set_option linter.unusedSectionVars false
attribute [local go_sem] e_seq e_region e_quiet e_join e_loop e_cond e_block e_exit e_ret e_skip e_fin e_kseq e_snrm e_sret e_sex e_bnrm e_bret e_bex e_rnrm e_rret e_res e_condC e_nil e_g e_mv g_mv e_pick g_pick pickC_eq e_ibin g_ibin ibinC_eq e_sbin g_sbin e_beq g_beq beqC_eq e_nilq g_nilq nilqC_sl nilqC_pt nilqC_mp e_un g_un unC_not unC_neg e_conv g_conv convC_eq e_fld g_fld fldC_ref fldC_ptr e_nilCheck g_nilCheck nilCheckC_ref nilCheckC_ptr nilCheckC_fun e_field g_field fieldC_eq e_len g_len lenC_sl lenC_str e_extract g_extract extractC_eq e_mkFunc e_build g_build e_idiv g_idiv idivC_eq e_ishift g_ishift ishiftC_eq e_idx g_idx e_idxA g_idxA e_load g_load e_loadB g_loadB atB_ref atB_v g_mkFunc loadC_ref loadC_ptr loadB_eq e_slc g_slc e_box boxC_loc boxC_esc e_alloc allocC_loc allocC_esc e_buildS e_store storeC_ref storeC_ptr storeB_eq e_append e_appz e_mk mkC_eq e_call callC_eq e_fn g_fn fnC_eq fnV_min' fnV_max' fnV_rune' e_q g_q e_a e_n g_call g_box g_alloc g_buildS g_store g_append g_mk g_a g_n g_dead e_dead e_callK e_drawn e_tree e_finJ e_tk e_tfin e_tno e_nbt_q e_nbt_qn e_nbt_a e_nbt_an e_nbt_fin e_drawnB e_bxb_nil e_bxb e_stB_none e_stB_some boxSt_store bs_mv bs_pick bs_ibin bs_idiv bs_ishift bs_sbin bs_beq bs_nilq bs_un bs_conv bs_box bs_alloc bs_build bs_buildS bs_load bs_fld bs_nilCheck bs_idx bs_idxA bs_field bs_slc bs_len bs_append bs_appz bs_mk bs_call bs_extract bs_mkFunc bs_fn bs_q bs_a bs_n bs_loadB bs_dead isBox_box e_early_nil e_early_t e_early_f e_nob_nil e_nob_none e_nob_some isBox_dead isBox_v isBox_ref e_dnil e_dk e_ek e_finB vcOps_vc1 e_dcons e_tq e_ekt e_tearly e_talt e_dearly look_nil look_c proj_nil proj_c looks_nil looks_c zip_nil zip_c val_tmp val_const val_func slv_v slv_box slv_ref slot_tmp slot_const slot_func slotL_v slotL_box slotL_ref put_some put_none updBox_c boxSet_box gd_eq slotVals_nil slotVals_c slotVals_b boxV_box boxOn_box slotsOn_nil slotsOn_c slotsOn_b resV_one resV_two vals_nil vals_c allOn_nil allOn_c partOn_nil partOn_c partVals_nil partVals_c fits_nil fits_c fillL_nil fillL_c mkv_one mkv_agg cellsV_agg cellsV_int cellsV_bool cellsV_slice cellsV_string cellsV_pointer cellsV_func cellsV_nilf cellsV_map one'_nil one'_c oc_int oc_bool oc_slice oc_string oc_pointer oc_func oc_nilf oc_map setC_eq iv_add iv_sub iv_mul iv_eql iv_neq iv_lss iv_leq iv_gtr iv_geq iok_add iok_sub iok_mul iok_eql iok_neq iok_lss iok_leq iok_gtr iok_geq pickV_bool args0_nil args0_c bnd_none bnd_some imp_bt imp_bf imp_ebt imp_ebf imp_eb1 imp_np imp_pp beq_tt beq_tf beq_ft beq_ff cond_or cond_and e_round e_meet Int.le_refl Int.toNat_zero decide_true decide_false Bool.or_false Bool.false_or Bool.true_or Bool.or_true Bool.and_false Bool.false_and Bool.bne_false Bool.bne_true beq_iff_eq Int.cast_ofNat_Int not_false_eq_true not_true_eq_false false_and and_false false_implies true_implies true_and and_true Bool.true_and Bool.and_true Bool.not_true Bool.not_false forall_const implies_true List.take_zero List.drop_zero List.take_succ_cons List.drop_succ_cons List.take_nil List.drop_nil List.length_cons List.length_nil List.nil_append List.append_nil List.cons_append Int.toNat_natCast decide_eq_true_eq decide_eq_false_iff_not cond_true cond_false and_self List.getElem?_cons_zero List.getElem?_cons_succ List.set_cons_zero List.set_cons_succ Option.some.injEq exists_eq_left' Nat.zero_add Nat.add_zero Nat.mul_one imp_self true_or or_true or_false false_or Bool.or_eq_true Bool.or_eq_false_iff Bool.and_eq_true Bool.and_eq_false_iff Bool.not_eq_true' Bool.not_eq_false'

section
variable {α : Type} [Sc α]
def gcell (p : Option Nat × List α) : Value := match p.1 with
  | none => .slice none 0 0
  | some k => .slice (some ⟨k, 0, none⟩) p.2.length p.2.length
structure GridB (g : PH) (b : Nat) (T e : TypeId) (ps : List (Option Nat × List α)) : Prop where
  out : g b = some (.cells (ps.map gcell).toArray T (0, 0))
  row : ∀ (i k : Nat) xs, ps[i]? = some (some k, xs) → k ≠ b ∧ g k = some (.cells (xs.map Sc.enc).toArray e (0, 0)) ∧ xs.length ≤ 1000000
  nil : ∀ (i : Nat) xs, ps[i]? = some (none, xs) → xs = []
  apart : ∀ (i j k : Nat) xs ys, ps[i]? = some (some k, xs) → ps[j]? = some (some k, ys) → i = j
  short : ps.length ≤ 1000000
/-- the rows of a grid whose outer array is b -/
def Grid (g : PH) (b : Nat) (T e : TypeId) (rows : List (List α)) : Prop := ∃ ps, GridB g b T e ps ∧ rows = ps.map (·.2)

theorem Grid.made (b : Nat) (T e : TypeId) {m : Nat} (hm : m ≤ 1000000) : Grid (one b (.cells (zerosL [Value.slice none 0 0] m).toArray T)) b T e (List.replicate m ([] : List α)) := by
  refine ⟨List.replicate m (none, []), ⟨?_, ?_, ?_, ?_, by simpa using hm⟩, by simp⟩
  · rw [one_self]
    congr 3
    induction m with
    | zero => rfl
    | succ m ih => simp [zerosL, List.replicate_succ, gcell, ih (by omega)]
  · intro i k xs h
    rw [List.getElem?_replicate] at h
    split at h <;> simp at h
  · intro i xs h
    rw [List.getElem?_replicate] at h
    split at h <;> simp at h
    exact h
  · intro i j k xs ys h
    rw [List.getElem?_replicate] at h
    split at h <;> simp at h
theorem Grid.mono {g g' : PH} {b : Nat} {T e : TypeId} {rows : List (List α)} (h : Grid g b T e rows) (hl : Mem.le (lk [g]) (lk [g'])) : Grid g' b T e rows := by
  obtain ⟨ps, h, rfl⟩ := h
  have up : ∀ k o, g k = some o → g' k = some o := fun k o q => lk_one.1 (hl _ _ (lk_one.2 q))
  exact ⟨ps, ⟨up _ _ h.out, fun i k xs q => let ⟨a, b, c⟩ := h.row i k xs q; ⟨a, up _ _ b, c⟩, h.nil, h.apart, h.short⟩, rfl⟩
theorem Grid.short {g : PH} {b : Nat} {T e : TypeId} {rows : List (List α)} (h : Grid g b T e rows) : rows.length ≤ 1000000 := by
  obtain ⟨ps, h, rfl⟩ := h
  simpa using h.short
theorem Grid.slok {g : PH} {b : Nat} {T e : TypeId} {rows : List (List α)} {L : Mem} (h : Grid g b T e rows) (hL : Mem.le (lk [g]) L) : SlOk L (some ⟨b, 0, none⟩) rows.length rows := by
  have hs := h.short
  obtain ⟨ps, h, rfl⟩ := h
  refine ⟨Nat.le_refl _, by unfold maxLen; omega, by omega, .inr ⟨b, 0, _, T, _, rfl, hL _ _ (lk_one.2 h.out), fun i x hi => ?_⟩⟩
  rw [List.getElem?_map] at hi
  cases hp : ps[i]? with
  | none => rw [hp] at hi; simp at hi
  | some p =>
    obtain ⟨o, xs⟩ := p
    rw [hp] at hi
    simp only [Option.map_some, Option.some.injEq] at hi
    subst hi
    refine ⟨[gcell (o, xs)], ?_, fun j hj => ?_⟩
    · cases o with
      | none =>
        have := h.nil i xs hp
        subst this
        exact ⟨none, 0, rfl, SlOk.nil⟩
      | some k =>
        obtain ⟨h1, h2, h3⟩ := h.row i k xs hp
        exact ⟨_, _, rfl, Arr.slok (g := g) (b := k) (T := e) h2 hL (Nat.le_refl _) (by unfold maxLen; show xs.length ≤ _; omega) (by omega)⟩
    · have : j = 0 := by simp [Rep.sz] at hj; exact hj
      subst this
      simp [Rep.sz, hp]
/-- rows[i] is to be changed -/
theorem Grid.at' {g : PH} {b : Nat} {T e : TypeId} {rows : List (List α)} (h : Grid g b T e rows) {i : Nat} (hi : i < rows.length) (hpos : 0 < rows[i].length) :
    ∃ k, (∀ Γ : Ctx, g ∈ Γ → Cells Γ b i [.slice (some ⟨k, 0, none⟩) rows[i].length rows[i].length]) ∧ Arr g k e rows[i] ∧
      ∀ g' (xs : List α), Arr g' k e xs → xs.length = rows[i].length → (∀ x, x ≠ k → g' x = g x) → Grid g' b T e (rows.set i xs) := by
  obtain ⟨ps, h, rfl⟩ := h
  have hi' : i < ps.length := by simpa using hi
  obtain ⟨o, xs, hp⟩ : ∃ o xs, ps[i]? = some (o, xs) := ⟨_, _, List.getElem?_eq_getElem hi'⟩
  have hx : (ps.map (·.2))[i] = xs := by
    have := (List.getElem?_eq_some_iff.1 hp).2
    simp [this]
  simp only [hx] at hpos ⊢
  cases o with
  | none => have := h.nil i xs hp; subst this; simp at hpos
  | some k =>
    obtain ⟨h1, h2, h3⟩ := h.row i k xs hp
    refine ⟨k, fun Γ hg => ⟨g, hg, _, T, _, h.out, fun j hj => ?_⟩, h2, fun g' ys hA hl ho => ?_⟩
    · have : j = 0 := by simp at hj; exact hj
      subst this
      simp [hp, gcell]
    · have hset : ∀ j, (ps.set i (some k, ys))[j]? = if i = j then some (some k, ys) else ps[j]? := fun j => by
        rw [List.getElem?_set]
        by_cases e : i = j
        · subst e; simp [hi']
        · simp [e]
      refine ⟨ps.set i (some k, ys), ⟨?_, ?_, ?_, ?_, by simpa using h.short⟩, by simp [List.map_set]⟩
      · rw [ho b (fun q => h1 q.symm), h.out]
        congr 3
        apply List.ext_getElem?
        intro j
        rw [List.getElem?_map, List.getElem?_map, hset]
        by_cases e : i = j
        · subst e
          simp [hp, gcell, hl]
        · simp [e]
      · intro j m zs hj
        rw [hset] at hj
        by_cases e : i = j
        · subst e
          simp only [if_true, Option.some.injEq, Prod.mk.injEq] at hj
          obtain ⟨rfl, rfl⟩ := hj
          exact ⟨h1, hA, by omega⟩
        · rw [if_neg e] at hj
          obtain ⟨q1, q2, q3⟩ := h.row j m zs hj
          have hm : m ≠ k := fun q => by subst q; exact e (h.apart i j m xs zs hp hj)
          exact ⟨q1, by rw [ho m hm]; exact q2, q3⟩
      · intro j zs hj
        rw [hset] at hj
        by_cases e : i = j
        · subst e; simp at hj
        · rw [if_neg e] at hj; exact h.nil j zs hj
      · intro j j' m zs zs' hj hj'
        rw [hset] at hj hj'
        by_cases e : i = j
        · subst e
          simp only [if_true, Option.some.injEq, Prod.mk.injEq] at hj
          obtain ⟨rfl, rfl⟩ := hj
          by_cases e' : i = j'
          · exact e'
          · rw [if_neg e'] at hj'
            exact h.apart i j' k xs zs' hp hj'
        · rw [if_neg e] at hj
          by_cases e' : i = j'
          · subst e'
            simp only [if_true, Option.some.injEq, Prod.mk.injEq] at hj'
            obtain ⟨rfl, rfl⟩ := hj'
            exact h.apart j i k zs xs hj hp
          · rw [if_neg e'] at hj'
            exact h.apart j j' m zs zs' hj hj'
/-- a new row, whose array lies elsewhere, is put in -/
theorem Grid.put {g : PH} {b : Nat} {T e : TypeId} {rows : List (List α)} (h : Grid g b T e rows) {i : Nat} (hi : i < rows.length) (k : Nat) (xs : List α) (hl : xs.length ≤ 1000000) {cs : List Value} (hc : g b = some (.cells cs.toArray T (0, 0)))
    {x2 G : PH} (hA : Arr x2 k e xs) (hd : Disj x2 (upd g b (.cells (setC cs i 1 (.slice (some ⟨k, 0, none⟩) xs.length xs.length)).toArray T))) (hG : Mem.le (lk [x2, upd g b (.cells (setC cs i 1 (.slice (some ⟨k, 0, none⟩) xs.length xs.length)).toArray T)]) (lk [G])) :
    Grid G b T e (rows.set i xs) := by
  obtain ⟨ps, h, rfl⟩ := h
  have hi' : i < ps.length := by simpa using hi
  have hcs : cs = ps.map gcell := by
    have := h.out
    rw [hc] at this
    simpa using this
  subst hcs
  have up1 : ∀ j o, x2 j = some o → G j = some o := fun j o q => lk_one.1 (hG _ _ ⟨x2, by simp, q⟩)
  have up2 : ∀ j o, upd g b (.cells (setC (ps.map gcell) i 1 (.slice (some ⟨k, 0, none⟩) xs.length xs.length)).toArray T) j = some o → G j = some o := fun j o q => lk_one.1 (hG _ _ ⟨_, by simp, q⟩)
  have hkg : ∀ j, j = b ∨ g j ≠ none → j ≠ k := fun j hj q => by
    subst q
    rcases hd j with q | q
    · rw [Arr] at hA; rw [hA] at q; cases q
    · rcases hj with rfl | hj
      · rw [upd_self] at q; cases q
      · by_cases e : j = b
        · subst e; rw [upd_self] at q; cases q
        · rw [upd_other e] at q; exact hj q
  have hset : ∀ j, (ps.set i (some k, xs))[j]? = if i = j then some (some k, xs) else ps[j]? := fun j => by
    rw [List.getElem?_set]
    by_cases e : i = j
    · subst e; simp [hi']
    · simp [e]
  refine ⟨ps.set i (some k, xs), ⟨?_, ?_, ?_, ?_, by simpa using h.short⟩, by simp [List.map_set]⟩
  · rw [up2 b _ (upd_self _ _ _)]
    congr 3
    rw [List.map_set, List.set_eq_take_append_cons_drop, if_pos (by simpa using hi')]
    simp [setC, cellsV, gcell, Value.cells]
  · intro j m zs hj
    rw [hset] at hj
    by_cases e : i = j
    · subst e
      simp only [if_true, Option.some.injEq, Prod.mk.injEq] at hj
      obtain ⟨rfl, rfl⟩ := hj
      exact ⟨fun q => hkg b (.inl rfl) q.symm, up1 _ _ hA, hl⟩
    · rw [if_neg e] at hj
      obtain ⟨q1, q2, q3⟩ := h.row j m zs hj
      exact ⟨q1, up2 _ _ (by rw [upd_other q1]; exact q2), q3⟩
  · intro j zs hj
    rw [hset] at hj
    by_cases e : i = j
    · subst e; simp at hj
    · rw [if_neg e] at hj; exact h.nil j zs hj
  · intro j j' m zs zs' hj hj'
    rw [hset] at hj hj'
    by_cases e : i = j
    · subst e
      simp only [if_true, Option.some.injEq, Prod.mk.injEq] at hj
      obtain ⟨rfl, rfl⟩ := hj
      by_cases e' : i = j'
      · exact e'
      · rw [if_neg e'] at hj'
        have := (h.row j' k zs' hj').2.1
        exact absurd rfl (hkg k (.inr (by rw [this]; simp)))
    · rw [if_neg e] at hj
      by_cases e' : i = j'
      · subst e'
        simp only [if_true, Option.some.injEq, Prod.mk.injEq] at hj'
        obtain ⟨rfl, rfl⟩ := hj'
        have := (h.row j k zs hj).2.1
        exact absurd rfl (hkg k (.inr (by rw [this]; simp)))
      · rw [if_neg e'] at hj'
        exact h.apart j j' m zs zs' hj hj'
end
section
variable {P : Program} {Γr : Ctx} {d : Option Nat} {r : List SOper} {φ : Fr} {Γ : Ctx} {K : Fr → Ctx → Prop}
/-- rows[i] = make(..) -/
theorem s_storeG {α : Type} [Sc α] {g : PH} {b i ix k n : Nat} {T e : TypeId} {rows : List (List α)} (xs : List α) (hn : n = xs.length) (hg : Γ[ix]? = some g) (h : Grid g b T e rows) (hi : i < rows.length) (hl : xs.length ≤ 1000000)
    (hk : ∀ g', (∀ x2 G, Arr x2 k e xs → Disj x2 g' → Mem.le (lk [x2, g']) (lk [G]) → Grid G b T e (rows.set i xs)) → vcOps P Γr r φ (Γ.set ix g') K) : storeP P Γr r φ Γ K 1 b i (.slice (some ⟨k, 0, none⟩) n n) := by
  subst hn
  obtain ⟨ps, hB, hr⟩ := id h
  refine ⟨ix, g, _, T, hg, hB.out, by subst hr; simp at hi ⊢; omega, ?_⟩
  exact hk _ fun x2 G hA hd hG => h.put hi k xs hl hB.out hA hd hG
end
end Go.Proofs.Ytniobbepliknmaa.V
/- Keys that are structs or arrays of whole numbers; no condition. -/
namespace Go.Proofs.Ytniobbepliknmaa.V
open Go
set_option linter.unusedVariables false
set_option linter.unusedSimpArgs false

theorem wf64 {x : Int} (h0 : -9223372036854775808 ≤ x) (h1 : x ≤ 9223372036854775807) : (Lit.int .i64 x).wf = true := by
  have h2 : IntKind.i64.min = -9223372036854775808 := by decide
  have h3 : IntKind.i64.max = 9223372036854775807 := by decide
  simp only [Lit.wf, h2, h3, Bool.and_eq_true, decide_eq_true_eq]
  exact ⟨h0, h1⟩
/-- xs[k:] of a row -/
theorem Bld.drop {α : Type} [Rep α] {g : PH} {L : Mem} {e : TypeId} {A : Option Addr} {n c : Nat} {xs : List α} (h : Bld g L e (.slice A n c) xs) {k : Nat} (hk : k ≤ xs.length) :
    Bld g L e (.slice (if c = k then A else A.map (·.add (k * Rep.sz α))) (n - k) (c - k)) (xs.drop k) := by
  obtain ⟨cs, ⟨h1, h2⟩, h3⟩ := h
  have hkl : k * Rep.sz α ≤ xs.length * Rep.sz α := Nat.mul_le_mul_right _ hk
  have hl : (xs.drop k).length = xs.length - k := by simp
  have hmul : xs.length * Rep.sz α - k * Rep.sz α = (xs.length - k) * Rep.sz α := (Nat.sub_mul _ _ _).symm
  refine ⟨cs.drop (k * Rep.sz α), ⟨by rw [List.length_drop, h1, hl, hmul], ?_⟩, fun i x hi => ?_⟩
  · rcases h2 with ⟨q0, A', q⟩ | ⟨b, o, cap, cur, q1, q2, q3, q4, q5, q6⟩
    · left
      simp only [Value.slice.injEq] at q
      obtain ⟨rfl, rfl, rfl⟩ := q
      have : k = 0 := by omega
      subst this
      exact ⟨by rw [hl]; omega, A, by simp⟩
    · simp only [Value.slice.injEq] at q1
      obtain ⟨rfl, rfl, rfl⟩ := q1
      by_cases e1 : cap + 1 = k
      · left
        refine ⟨by rw [hl]; omega, some ⟨b, o, none⟩, ?_⟩
        rw [if_pos e1, show xs.length - k = 0 by omega, show cap + 1 - k = 0 by omega]
      · right
        rw [if_neg e1, hl]
        have hm2 : (cap - k + 1) * Rep.sz α + k * Rep.sz α = (cap + 1) * Rep.sz α := by rw [← Nat.add_mul]; congr 1; omega
        refine ⟨b, o + k * Rep.sz α, cap - k, cur, by rw [Option.map_some, add_mk, show cap + 1 - k = cap - k + 1 by omega], by omega, by omega, q4, by omega, ?_⟩
        rw [← q6, List.drop_take, List.drop_drop, hmul]
  · rw [List.getElem?_drop] at hi
    obtain ⟨c', r1, r2⟩ := h3 (k + i) x hi
    refine ⟨c', r1, fun j hj => ?_⟩
    rw [← r2 j hj, List.getElem?_drop]
    congr 1
    rw [Nat.add_mul]
    omega
end Go.Proofs.Ytniobbepliknmaa.V
/- The text of parlance/dfa.Check as a statement (slots: 0 d, 1 d, 3 cols, 4 _, 5 row, 6 s, 7 row, 8 _, 9 t); no condition. -/
namespace Go.Proofs.Ytniobbepliknmaa.V
open Go
def S115_1 : Stmt :=
  Stmt.seq
  (Stmt.region [SOper.mk (some 38) none (SOp.ibin BinOp.lss (Operand.tmp 37) (Operand.tmp 36))] [1, 3, 35, 36, 37, 38])
  (Stmt.seq (Stmt.cond (Operand.tmp 38) Stmt.skip (Stmt.exit 0))
    (Stmt.seq
      (Stmt.block 1
        (Stmt.seq
          (Stmt.region
            [SOper.mk (some 39) none (SOp.idx 1 (Operand.tmp 35) (Operand.tmp 37)),
              SOper.mk (some 40) none (SOp.load false 1 (Operand.tmp 39)),
              SOper.mk (some 5) none (SOp.mv (Operand.tmp 40))]
            [1, 3, 5, 35, 36, 37])
          (Stmt.seq
            (Stmt.region
              [SOper.mk (some 41) none (SOp.mv (Operand.tmp 5)),
                SOper.mk (some 42) none (SOp.len false (Operand.tmp 41)),
                SOper.mk (some 43) none (SOp.mv (Operand.tmp 3)),
                SOper.mk (some 44) none (SOp.ibin BinOp.neq (Operand.tmp 42) (Operand.tmp 43)),
                SOper.mk (some 45) none (SOp.mv (Operand.tmp 44)),
                SOper.mk (some 46) (some (45, false)) (SOp.mv (Operand.tmp 3)),
                SOper.mk (some 47) (some (45, false))
                  (SOp.ibin BinOp.eql (Operand.tmp 46) (Operand.const (Value.int IntKind.i64 0))),
                SOper.mk (some 48) none (SOp.pick (Operand.tmp 45) (Operand.const (Value.bool true)) (Operand.tmp 47))]
              [1, 3, 35, 36, 37, 48])
            (Stmt.cond (Operand.tmp 48)
              (Stmt.seq (Stmt.region [SOper.mk (some 2) none (SOp.mv (Operand.const (Value.int IntKind.i64 3)))] [2])
                Stmt.ret)
              Stmt.skip))))
      (Stmt.region
        [SOper.mk (some 49) none (SOp.ibin BinOp.add (Operand.tmp 37) (Operand.const (Value.int IntKind.i64 1))),
          SOper.mk (some 37) none (SOp.mv (Operand.tmp 49))]
        [1, 3, 35, 36, 37])))
def S115_2 : Stmt :=
  Stmt.seq
  (Stmt.region [SOper.mk (some 78) none (SOp.ibin BinOp.lss (Operand.tmp 77) (Operand.tmp 76))]
    [1, 62, 63, 64, 75, 76, 77, 78])
  (Stmt.seq (Stmt.cond (Operand.tmp 78) Stmt.skip (Stmt.exit 4))
    (Stmt.seq
      (Stmt.block 5
        (Stmt.seq
          (Stmt.region
            [SOper.mk (some 79) none (SOp.idx 1 (Operand.tmp 75) (Operand.tmp 77)),
              SOper.mk (some 80) none (SOp.load false 1 (Operand.tmp 79)),
              SOper.mk (some 9) none (SOp.mv (Operand.tmp 80))]
            [1, 9, 62, 63, 64, 75, 76, 77])
          (Stmt.seq
            (Stmt.region
              [SOper.mk (some 81) none (SOp.mv (Operand.tmp 9)),
                SOper.mk (some 82) none
                  (SOp.ibin BinOp.lss (Operand.tmp 81) (Operand.const (Value.int IntKind.i64 (-1)))),
                SOper.mk (some 83) none (SOp.mv (Operand.tmp 82)),
                SOper.mk (some 84) (some (83, false)) (SOp.mv (Operand.tmp 9)),
                SOper.mk (some 85) (some (83, false)) (SOp.fld 2 (Operand.tmp 1)),
                SOper.mk (some 86) (some (83, false)) (SOp.load false 1 (Operand.tmp 85)),
                SOper.mk (some 87) (some (83, false)) (SOp.len false (Operand.tmp 86)),
                SOper.mk (some 88) (some (83, false)) (SOp.ibin BinOp.geq (Operand.tmp 84) (Operand.tmp 87)),
                SOper.mk (some 89) none (SOp.pick (Operand.tmp 83) (Operand.const (Value.bool true)) (Operand.tmp 88))]
              [1, 62, 63, 64, 75, 76, 77, 89])
            (Stmt.cond (Operand.tmp 89)
              (Stmt.seq (Stmt.region [SOper.mk (some 2) none (SOp.mv (Operand.const (Value.int IntKind.i64 1)))] [2])
                Stmt.ret)
              Stmt.skip))))
      (Stmt.region
        [SOper.mk (some 90) none (SOp.ibin BinOp.add (Operand.tmp 77) (Operand.const (Value.int IntKind.i64 1))),
          SOper.mk (some 77) none (SOp.mv (Operand.tmp 90))]
        [1, 62, 63, 64, 75, 76, 77])))
def S115_3 : Stmt :=
  Stmt.seq
  (Stmt.region [SOper.mk (some 65) none (SOp.ibin BinOp.lss (Operand.tmp 64) (Operand.tmp 63))] [1, 62, 63, 64, 65])
  (Stmt.seq (Stmt.cond (Operand.tmp 65) Stmt.skip (Stmt.exit 2))
    (Stmt.seq
      (Stmt.block 3
        (Stmt.seq
          (Stmt.region
            [SOper.mk (some 66) none (SOp.mv (Operand.tmp 64)),
              SOper.mk (some 67) none (SOp.idx 1 (Operand.tmp 62) (Operand.tmp 64)),
              SOper.mk (some 68) none (SOp.load false 1 (Operand.tmp 67)),
              SOper.mk (some 6) none (SOp.mv (Operand.tmp 66)), SOper.mk (some 7) none (SOp.mv (Operand.tmp 68))]
            [1, 6, 7, 62, 63, 64])
          (Stmt.seq
            (Stmt.seq
              (Stmt.region
                [SOper.mk (some 69) none (SOp.fld 1 (Operand.tmp 1)),
                  SOper.mk (some 70) none (SOp.load false 1 (Operand.tmp 69)),
                  SOper.mk (some 71) none (SOp.mv (Operand.tmp 6)),
                  SOper.mk (some 72) none (SOp.idx 1 (Operand.tmp 70) (Operand.tmp 71)),
                  SOper.mk (some 73) none (SOp.load false 1 (Operand.tmp 72)),
                  SOper.mk (some 74) none
                    (SOp.ibin BinOp.lss (Operand.tmp 73) (Operand.const (Value.int IntKind.i64 (-1))))]
                [1, 7, 62, 63, 64, 74])
              (Stmt.cond (Operand.tmp 74)
                (Stmt.seq (Stmt.region [SOper.mk (some 2) none (SOp.mv (Operand.const (Value.int IntKind.i64 1)))] [2])
                  Stmt.ret)
                Stmt.skip))
            (Stmt.seq
              (Stmt.region
                [SOper.mk (some 75) none (SOp.mv (Operand.tmp 7)),
                  SOper.mk (some 76) none (SOp.len false (Operand.tmp 75)),
                  SOper.mk (some 77) none (SOp.mv (Operand.const (Value.int IntKind.i64 0)))]
                [1, 62, 63, 64, 75, 76, 77])
              (Stmt.block 4 (Stmt.loop S115_2 [77] [1, 62, 63, 64, 75, 76]))))))
      (Stmt.region
        [SOper.mk (some 91) none (SOp.ibin BinOp.add (Operand.tmp 64) (Operand.const (Value.int IntKind.i64 1))),
          SOper.mk (some 64) none (SOp.mv (Operand.tmp 91))]
        [1, 62, 63, 64])))
def S115_0 : Stmt :=
  Stmt.seq
  (Stmt.region
    [SOper.mk (some 1) none (SOp.box true 67 (Operand.tmp 0)),
      SOper.mk (some 2) none (SOp.mv (Operand.const (Value.int IntKind.i64 0)))]
    [1])
  (Stmt.seq
    (Stmt.seq
      (Stmt.region
        [SOper.mk (some 10) none (SOp.fld 2 (Operand.tmp 1)),
          SOper.mk (some 11) none (SOp.load false 1 (Operand.tmp 10)),
          SOper.mk (some 12) none (SOp.len false (Operand.tmp 11)),
          SOper.mk (some 13) none (SOp.ibin BinOp.gtr (Operand.tmp 12) (Operand.const (Value.int IntKind.i64 200)))]
        [1, 13])
      (Stmt.cond (Operand.tmp 13)
        (Stmt.seq (Stmt.region [SOper.mk (some 2) none (SOp.mv (Operand.const (Value.int IntKind.i64 2)))] [2])
          Stmt.ret)
        Stmt.skip))
    (Stmt.seq
      (Stmt.seq
        (Stmt.region
          [SOper.mk (some 14) none (SOp.fld 2 (Operand.tmp 1)),
            SOper.mk (some 15) none (SOp.load false 1 (Operand.tmp 14)),
            SOper.mk (some 16) none (SOp.len false (Operand.tmp 15)),
            SOper.mk (some 17) none (SOp.ibin BinOp.eql (Operand.tmp 16) (Operand.const (Value.int IntKind.i64 0))),
            SOper.mk (some 18) none (SOp.mv (Operand.tmp 17)),
            SOper.mk (some 19) (some (18, false)) (SOp.fld 1 (Operand.tmp 1)),
            SOper.mk (some 20) (some (18, false)) (SOp.load false 1 (Operand.tmp 19)),
            SOper.mk (some 21) (some (18, false)) (SOp.len false (Operand.tmp 20)),
            SOper.mk (some 22) (some (18, false)) (SOp.fld 2 (Operand.tmp 1)),
            SOper.mk (some 23) (some (18, false)) (SOp.load false 1 (Operand.tmp 22)),
            SOper.mk (some 24) (some (18, false)) (SOp.len false (Operand.tmp 23)),
            SOper.mk (some 25) (some (18, false)) (SOp.ibin BinOp.neq (Operand.tmp 21) (Operand.tmp 24)),
            SOper.mk (some 26) none (SOp.pick (Operand.tmp 18) (Operand.const (Value.bool true)) (Operand.tmp 25))]
          [1, 26])
        (Stmt.cond (Operand.tmp 26)
          (Stmt.seq (Stmt.region [SOper.mk (some 2) none (SOp.mv (Operand.const (Value.int IntKind.i64 3)))] [2])
            Stmt.ret)
          Stmt.skip))
      (Stmt.seq
        (Stmt.region
          [SOper.mk (some 27) none (SOp.fld 2 (Operand.tmp 1)),
            SOper.mk (some 28) none (SOp.load false 1 (Operand.tmp 27)),
            SOper.mk (some 29) none (SOp.idx 1 (Operand.tmp 28) (Operand.const (Value.int IntKind.i64 0))),
            SOper.mk (some 30) none (SOp.load false 1 (Operand.tmp 29)),
            SOper.mk (some 31) none (SOp.len false (Operand.tmp 30)), SOper.mk (some 3) none (SOp.mv (Operand.tmp 31))]
          [1, 3])
        (Stmt.seq
          (Stmt.seq
            (Stmt.region
              [SOper.mk (some 32) none (SOp.mv (Operand.tmp 3)),
                SOper.mk (some 33) none
                  (SOp.ibin BinOp.gtr (Operand.tmp 32) (Operand.const (Value.int IntKind.i64 16)))]
              [1, 3, 33])
            (Stmt.cond (Operand.tmp 33)
              (Stmt.seq (Stmt.region [SOper.mk (some 2) none (SOp.mv (Operand.const (Value.int IntKind.i64 2)))] [2])
                Stmt.ret)
              Stmt.skip))
          (Stmt.seq
            (Stmt.seq
              (Stmt.region
                [SOper.mk (some 34) none (SOp.fld 2 (Operand.tmp 1)),
                  SOper.mk (some 35) none (SOp.load false 1 (Operand.tmp 34)),
                  SOper.mk (some 36) none (SOp.len false (Operand.tmp 35)),
                  SOper.mk (some 37) none (SOp.mv (Operand.const (Value.int IntKind.i64 0)))]
                [1, 3, 35, 36, 37])
              (Stmt.block 0 (Stmt.loop S115_1 [37] [1, 3, 35, 36])))
            (Stmt.seq
              (Stmt.seq
                (Stmt.region
                  [SOper.mk (some 50) none (SOp.fld 0 (Operand.tmp 1)),
                    SOper.mk (some 51) none (SOp.load false 1 (Operand.tmp 50)),
                    SOper.mk (some 52) none
                      (SOp.ibin BinOp.lss (Operand.tmp 51) (Operand.const (Value.int IntKind.i64 0))),
                    SOper.mk (some 53) none (SOp.mv (Operand.tmp 52)),
                    SOper.mk (some 54) (some (53, false)) (SOp.fld 0 (Operand.tmp 1)),
                    SOper.mk (some 55) (some (53, false)) (SOp.load false 1 (Operand.tmp 54)),
                    SOper.mk (some 56) (some (53, false)) (SOp.fld 2 (Operand.tmp 1)),
                    SOper.mk (some 57) (some (53, false)) (SOp.load false 1 (Operand.tmp 56)),
                    SOper.mk (some 58) (some (53, false)) (SOp.len false (Operand.tmp 57)),
                    SOper.mk (some 59) (some (53, false)) (SOp.ibin BinOp.geq (Operand.tmp 55) (Operand.tmp 58)),
                    SOper.mk (some 60) none
                      (SOp.pick (Operand.tmp 53) (Operand.const (Value.bool true)) (Operand.tmp 59))]
                  [1, 60])
                (Stmt.cond (Operand.tmp 60)
                  (Stmt.seq
                    (Stmt.region [SOper.mk (some 2) none (SOp.mv (Operand.const (Value.int IntKind.i64 1)))] [2])
                    Stmt.ret)
                  Stmt.skip))
              (Stmt.seq
                (Stmt.seq
                  (Stmt.region
                    [SOper.mk (some 61) none (SOp.fld 2 (Operand.tmp 1)),
                      SOper.mk (some 62) none (SOp.load false 1 (Operand.tmp 61)),
                      SOper.mk (some 63) none (SOp.len false (Operand.tmp 62)),
                      SOper.mk (some 64) none (SOp.mv (Operand.const (Value.int IntKind.i64 0)))]
                    [1, 62, 63, 64])
                  (Stmt.block 2 (Stmt.loop S115_3 [64] [1, 62, 63])))
                (Stmt.seq (Stmt.region [SOper.mk (some 2) none (SOp.mv (Operand.const (Value.int IntKind.i64 0)))] [2])
                  Stmt.ret))))))))
def S115 : FnS := ⟨92, [(2, none)], S115_0⟩
theorem tr115 : trFn Try.prog 115 [1] [[1], [1, 13], [2], [1, 26], [2], [1, 3], [1, 3, 33], [2], [1, 3, 35, 36, 37], [37], [1, 3, 35, 36], [1, 3, 35, 36, 37, 38], [1, 3, 5, 35, 36, 37], [1, 3, 35, 36, 37, 48], [2], [1, 3, 35, 36, 37], [1, 60], [2], [1, 62, 63, 64], [64], [1, 62, 63], [1, 62, 63, 64, 65], [1, 6, 7, 62, 63, 64], [1, 7, 62, 63, 64, 74], [2], [1, 62, 63, 64, 75, 76, 77], [77], [1, 62, 63, 64, 75, 76], [1, 62, 63, 64, 75, 76, 77, 78], [1, 9, 62, 63, 64, 75, 76, 77], [1, 62, 63, 64, 75, 76, 77, 89], [2], [1, 62, 63, 64, 75, 76, 77], [1, 62, 63, 64], [2]] = some S115 := by kernel_rfl
end Go.Proofs.Ytniobbepliknmaa.V
/- The text of parlance/parlref5.Ends as a statement (slots: 0 d, 1 w, 2 d, 3 w, 5 s, 6 _, 7 x); no condition. -/
namespace Go.Proofs.Ytniobbepliknmaa.V
open Go
def S50_1 : Stmt :=
  Stmt.seq
  (Stmt.region [SOper.mk (some 13) none (SOp.ibin BinOp.lss (Operand.tmp 12) (Operand.tmp 11))] [2, 5, 10, 11, 12, 13])
  (Stmt.seq (Stmt.cond (Operand.tmp 13) Stmt.skip (Stmt.exit 0))
    (Stmt.seq
      (Stmt.block 1
        (Stmt.seq
          (Stmt.region
            [SOper.mk (some 14) none (SOp.idx 1 (Operand.tmp 10) (Operand.tmp 12)),
              SOper.mk (some 15) none (SOp.load false 1 (Operand.tmp 14)),
              SOper.mk (some 7) none (SOp.mv (Operand.tmp 15))]
            [2, 5, 7, 10, 11, 12])
          (Stmt.seq
            (Stmt.seq
              (Stmt.region
                [SOper.mk (some 16) none (SOp.mv (Operand.tmp 5)),
                  SOper.mk (some 17) none
                    (SOp.ibin BinOp.lss (Operand.tmp 16) (Operand.const (Value.int IntKind.i64 0)))]
                [2, 5, 7, 10, 11, 12, 17])
              (Stmt.cond (Operand.tmp 17)
                (Stmt.seq (Stmt.region [SOper.mk (some 4) none (SOp.mv (Operand.const (Value.bool false)))] [4])
                  Stmt.ret)
                Stmt.skip))
            (Stmt.region
              [SOper.mk (some 18) none (SOp.fld 2 (Operand.tmp 2)),
                SOper.mk (some 19) none (SOp.load false 1 (Operand.tmp 18)),
                SOper.mk (some 20) none (SOp.mv (Operand.tmp 5)),
                SOper.mk (some 21) none (SOp.idx 1 (Operand.tmp 19) (Operand.tmp 20)),
                SOper.mk (some 22) none (SOp.load false 1 (Operand.tmp 21)),
                SOper.mk (some 23) none (SOp.mv (Operand.tmp 7)),
                SOper.mk (some 24) none (SOp.idx 1 (Operand.tmp 22) (Operand.tmp 23)),
                SOper.mk (some 25) none (SOp.load false 1 (Operand.tmp 24)),
                SOper.mk (some 5) none (SOp.mv (Operand.tmp 25))]
              [2, 5, 10, 11, 12]))))
      (Stmt.region
        [SOper.mk (some 26) none (SOp.ibin BinOp.add (Operand.tmp 12) (Operand.const (Value.int IntKind.i64 1))),
          SOper.mk (some 12) none (SOp.mv (Operand.tmp 26))]
        [2, 5, 10, 11, 12])))
def S50_0 : Stmt :=
  Stmt.seq
  (Stmt.region
    [SOper.mk (some 2) none (SOp.box true 67 (Operand.tmp 0)),
      SOper.mk (some 4) none (SOp.mv (Operand.const (Value.bool false)))]
    [1, 2])
  (Stmt.seq
    (Stmt.region
      [SOper.mk (some 8) none (SOp.fld 0 (Operand.tmp 2)), SOper.mk (some 9) none (SOp.load false 1 (Operand.tmp 8)),
        SOper.mk (some 5) none (SOp.mv (Operand.tmp 9))]
      [1, 2, 5])
    (Stmt.seq
      (Stmt.seq
        (Stmt.region
          [SOper.mk (some 10) none (SOp.mv (Operand.tmp 1)), SOper.mk (some 11) none (SOp.len false (Operand.tmp 10)),
            SOper.mk (some 12) none (SOp.mv (Operand.const (Value.int IntKind.i64 0)))]
          [2, 5, 10, 11, 12])
        (Stmt.block 0 (Stmt.loop S50_1 [5, 12] [2, 10, 11])))
      (Stmt.seq
        (Stmt.region
          [SOper.mk (some 27) none (SOp.mv (Operand.tmp 5)),
            SOper.mk (some 28) none (SOp.ibin BinOp.geq (Operand.tmp 27) (Operand.const (Value.int IntKind.i64 0))),
            SOper.mk (some 29) none (SOp.mv (Operand.tmp 28)),
            SOper.mk (some 30) (some (29, true)) (SOp.fld 1 (Operand.tmp 2)),
            SOper.mk (some 31) (some (29, true)) (SOp.load false 1 (Operand.tmp 30)),
            SOper.mk (some 32) (some (29, true)) (SOp.mv (Operand.tmp 5)),
            SOper.mk (some 33) (some (29, true)) (SOp.idx 1 (Operand.tmp 31) (Operand.tmp 32)),
            SOper.mk (some 34) (some (29, true)) (SOp.load false 1 (Operand.tmp 33)),
            SOper.mk (some 35) (some (29, true))
              (SOp.ibin BinOp.geq (Operand.tmp 34) (Operand.const (Value.int IntKind.i64 0))),
            SOper.mk (some 36) none (SOp.pick (Operand.tmp 29) (Operand.tmp 35) (Operand.const (Value.bool false))),
            SOper.mk (some 4) none (SOp.mv (Operand.tmp 36))]
          [4])
        Stmt.ret)))
def S50 : FnS := ⟨37, [(4, none)], S50_0⟩
theorem tr50 : trFn Try.prog 50 [2] [[1, 2], [1, 2, 5], [2, 5, 10, 11, 12], [5, 12], [2, 10, 11], [2, 5, 10, 11, 12, 13], [2, 5, 7, 10, 11, 12], [2, 5, 7, 10, 11, 12, 17], [4], [2, 5, 10, 11, 12], [2, 5, 10, 11, 12], [4]] = some S50 := by kernel_rfl
end Go.Proofs.Ytniobbepliknmaa.V
/- The text of parlance/parlref5.DfaFault as a statement (slots: 0 d, 1 d, 3 bad, 4 s, 5 row, 6 _, 7 x); no condition. -/
namespace Go.Proofs.Ytniobbepliknmaa.V
open Go
def S47_1 : Stmt :=
  Stmt.seq
  (Stmt.region [SOper.mk (some 78) none (SOp.ibin BinOp.lss (Operand.tmp 77) (Operand.tmp 76))]
    [1, 3, 46, 47, 48, 75, 76, 77, 78])
  (Stmt.seq (Stmt.cond (Operand.tmp 78) Stmt.skip (Stmt.exit 3))
    (Stmt.seq
      (Stmt.block 4
        (Stmt.seq
          (Stmt.region
            [SOper.mk (some 79) none (SOp.idx 1 (Operand.tmp 75) (Operand.tmp 77)),
              SOper.mk (some 80) none (SOp.load false 1 (Operand.tmp 79)),
              SOper.mk (some 7) none (SOp.mv (Operand.tmp 80))]
            [1, 3, 7, 46, 47, 48, 75, 76, 77])
          (Stmt.region
            [SOper.mk (some 81) none (SOp.mv (Operand.tmp 3)), SOper.mk (some 82) none (SOp.mv (Operand.tmp 81)),
              SOper.mk (some 83) (some (82, false)) (SOp.mv (Operand.tmp 7)),
              SOper.mk (some 84) (some (82, false))
                (SOp.ibin BinOp.lss (Operand.tmp 83) (Operand.const (Value.int IntKind.i64 (-1)))),
              SOper.mk (some 85) none (SOp.pick (Operand.tmp 82) (Operand.const (Value.bool true)) (Operand.tmp 84)),
              SOper.mk (some 86) none (SOp.mv (Operand.tmp 85)),
              SOper.mk (some 87) (some (86, false)) (SOp.mv (Operand.tmp 7)),
              SOper.mk (some 88) (some (86, false)) (SOp.fld 2 (Operand.tmp 1)),
              SOper.mk (some 89) (some (86, false)) (SOp.load false 1 (Operand.tmp 88)),
              SOper.mk (some 90) (some (86, false)) (SOp.len false (Operand.tmp 89)),
              SOper.mk (some 91) (some (86, false)) (SOp.ibin BinOp.geq (Operand.tmp 87) (Operand.tmp 90)),
              SOper.mk (some 92) none (SOp.pick (Operand.tmp 86) (Operand.const (Value.bool true)) (Operand.tmp 91)),
              SOper.mk (some 3) none (SOp.mv (Operand.tmp 92))]
            [1, 3, 46, 47, 48, 75, 76, 77])))
      (Stmt.region
        [SOper.mk (some 93) none (SOp.ibin BinOp.add (Operand.tmp 77) (Operand.const (Value.int IntKind.i64 1))),
          SOper.mk (some 77) none (SOp.mv (Operand.tmp 93))]
        [1, 3, 46, 47, 48, 75, 76, 77])))
def S47_2 : Stmt :=
  Stmt.seq
  (Stmt.region [SOper.mk (some 49) none (SOp.ibin BinOp.lss (Operand.tmp 48) (Operand.tmp 47))] [1, 3, 46, 47, 48, 49])
  (Stmt.seq (Stmt.cond (Operand.tmp 49) Stmt.skip (Stmt.exit 1))
    (Stmt.seq
      (Stmt.block 2
        (Stmt.seq
          (Stmt.region
            [SOper.mk (some 50) none (SOp.mv (Operand.tmp 48)),
              SOper.mk (some 51) none (SOp.idx 1 (Operand.tmp 46) (Operand.tmp 48)),
              SOper.mk (some 52) none (SOp.load false 1 (Operand.tmp 51)),
              SOper.mk (some 4) none (SOp.mv (Operand.tmp 50)), SOper.mk (some 5) none (SOp.mv (Operand.tmp 52))]
            [1, 3, 4, 5, 46, 47, 48])
          (Stmt.seq
            (Stmt.seq
              (Stmt.region
                [SOper.mk (some 53) none (SOp.mv (Operand.tmp 5)),
                  SOper.mk (some 54) none (SOp.len false (Operand.tmp 53)),
                  SOper.mk (some 55) none (SOp.fld 2 (Operand.tmp 1)),
                  SOper.mk (some 56) none (SOp.load false 1 (Operand.tmp 55)),
                  SOper.mk (some 57) none (SOp.idx 1 (Operand.tmp 56) (Operand.const (Value.int IntKind.i64 0))),
                  SOper.mk (some 58) none (SOp.load false 1 (Operand.tmp 57)),
                  SOper.mk (some 59) none (SOp.len false (Operand.tmp 58)),
                  SOper.mk (some 60) none (SOp.ibin BinOp.neq (Operand.tmp 54) (Operand.tmp 59)),
                  SOper.mk (some 61) none (SOp.mv (Operand.tmp 60)),
                  SOper.mk (some 62) (some (61, false)) (SOp.mv (Operand.tmp 5)),
                  SOper.mk (some 63) (some (61, false)) (SOp.len false (Operand.tmp 62)),
                  SOper.mk (some 64) (some (61, false))
                    (SOp.ibin BinOp.eql (Operand.tmp 63) (Operand.const (Value.int IntKind.i64 0))),
                  SOper.mk (some 65) none
                    (SOp.pick (Operand.tmp 61) (Operand.const (Value.bool true)) (Operand.tmp 64))]
                [1, 3, 4, 5, 46, 47, 48, 65])
              (Stmt.cond (Operand.tmp 65)
                (Stmt.seq (Stmt.region [SOper.mk (some 2) none (SOp.mv (Operand.const (Value.int IntKind.i64 3)))] [2])
                  Stmt.ret)
                Stmt.skip))
            (Stmt.seq
              (Stmt.region
                [SOper.mk (some 66) none (SOp.mv (Operand.tmp 3)), SOper.mk (some 67) none (SOp.mv (Operand.tmp 66)),
                  SOper.mk (some 68) (some (67, false)) (SOp.fld 1 (Operand.tmp 1)),
                  SOper.mk (some 69) (some (67, false)) (SOp.load false 1 (Operand.tmp 68)),
                  SOper.mk (some 70) (some (67, false)) (SOp.mv (Operand.tmp 4)),
                  SOper.mk (some 71) (some (67, false)) (SOp.idx 1 (Operand.tmp 69) (Operand.tmp 70)),
                  SOper.mk (some 72) (some (67, false)) (SOp.load false 1 (Operand.tmp 71)),
                  SOper.mk (some 73) (some (67, false))
                    (SOp.ibin BinOp.lss (Operand.tmp 72) (Operand.const (Value.int IntKind.i64 (-1)))),
                  SOper.mk (some 74) none
                    (SOp.pick (Operand.tmp 67) (Operand.const (Value.bool true)) (Operand.tmp 73)),
                  SOper.mk (some 3) none (SOp.mv (Operand.tmp 74))]
                [1, 3, 5, 46, 47, 48])
              (Stmt.seq
                (Stmt.region
                  [SOper.mk (some 75) none (SOp.mv (Operand.tmp 5)),
                    SOper.mk (some 76) none (SOp.len false (Operand.tmp 75)),
                    SOper.mk (some 77) none (SOp.mv (Operand.const (Value.int IntKind.i64 0)))]
                  [1, 3, 46, 47, 48, 75, 76, 77])
                (Stmt.block 3 (Stmt.loop S47_1 [3, 77] [1, 46, 47, 48, 75, 76])))))))
      (Stmt.region
        [SOper.mk (some 94) none (SOp.ibin BinOp.add (Operand.tmp 48) (Operand.const (Value.int IntKind.i64 1))),
          SOper.mk (some 48) none (SOp.mv (Operand.tmp 94))]
        [1, 3, 46, 47, 48])))
def S47_0 : Stmt :=
  Stmt.seq
  (Stmt.region
    [SOper.mk (some 1) none (SOp.box true 67 (Operand.tmp 0)),
      SOper.mk (some 2) none (SOp.mv (Operand.const (Value.int IntKind.i64 0)))]
    [1])
  (Stmt.seq
    (Stmt.block 0
      (Stmt.seq
        (Stmt.region
          [SOper.mk (some 9) none (SOp.fld 2 (Operand.tmp 1)),
            SOper.mk (some 10) none (SOp.load false 1 (Operand.tmp 9)),
            SOper.mk (some 11) none (SOp.len false (Operand.tmp 10)),
            SOper.mk (some 12) none (SOp.ibin BinOp.gtr (Operand.tmp 11) (Operand.const (Value.int IntKind.i64 200))),
            SOper.mk (some 8) none (SOp.mv (Operand.tmp 12))]
          [1, 8])
        (Stmt.cond (Operand.tmp 8)
          (Stmt.seq (Stmt.region [SOper.mk (some 2) none (SOp.mv (Operand.const (Value.int IntKind.i64 2)))] [2])
            Stmt.ret)
          (Stmt.seq
            (Stmt.region
              [SOper.mk (some 14) none (SOp.fld 2 (Operand.tmp 1)),
                SOper.mk (some 15) none (SOp.load false 1 (Operand.tmp 14)),
                SOper.mk (some 16) none (SOp.len false (Operand.tmp 15)),
                SOper.mk (some 17) none (SOp.ibin BinOp.eql (Operand.tmp 16) (Operand.const (Value.int IntKind.i64 0))),
                SOper.mk (some 18) none (SOp.mv (Operand.tmp 17)),
                SOper.mk (some 19) (some (18, false)) (SOp.fld 1 (Operand.tmp 1)),
                SOper.mk (some 20) (some (18, false)) (SOp.load false 1 (Operand.tmp 19)),
                SOper.mk (some 21) (some (18, false)) (SOp.len false (Operand.tmp 20)),
                SOper.mk (some 22) (some (18, false)) (SOp.fld 2 (Operand.tmp 1)),
                SOper.mk (some 23) (some (18, false)) (SOp.load false 1 (Operand.tmp 22)),
                SOper.mk (some 24) (some (18, false)) (SOp.len false (Operand.tmp 23)),
                SOper.mk (some 25) (some (18, false)) (SOp.ibin BinOp.neq (Operand.tmp 21) (Operand.tmp 24)),
                SOper.mk (some 26) none (SOp.pick (Operand.tmp 18) (Operand.const (Value.bool true)) (Operand.tmp 25)),
                SOper.mk (some 13) none (SOp.mv (Operand.tmp 26))]
              [1, 13])
            (Stmt.cond (Operand.tmp 13)
              (Stmt.seq (Stmt.region [SOper.mk (some 2) none (SOp.mv (Operand.const (Value.int IntKind.i64 3)))] [2])
                Stmt.ret)
              (Stmt.seq
                (Stmt.region
                  [SOper.mk (some 28) none (SOp.fld 2 (Operand.tmp 1)),
                    SOper.mk (some 29) none (SOp.load false 1 (Operand.tmp 28)),
                    SOper.mk (some 30) none (SOp.idx 1 (Operand.tmp 29) (Operand.const (Value.int IntKind.i64 0))),
                    SOper.mk (some 31) none (SOp.load false 1 (Operand.tmp 30)),
                    SOper.mk (some 32) none (SOp.len false (Operand.tmp 31)),
                    SOper.mk (some 33) none
                      (SOp.ibin BinOp.gtr (Operand.tmp 32) (Operand.const (Value.int IntKind.i64 16))),
                    SOper.mk (some 27) none (SOp.mv (Operand.tmp 33))]
                  [1, 27])
                (Stmt.cond (Operand.tmp 27)
                  (Stmt.seq
                    (Stmt.region [SOper.mk (some 2) none (SOp.mv (Operand.const (Value.int IntKind.i64 2)))] [2])
                    Stmt.ret)
                  Stmt.skip)))))))
    (Stmt.seq
      (Stmt.region
        [SOper.mk (some 34) none (SOp.fld 0 (Operand.tmp 1)),
          SOper.mk (some 35) none (SOp.load false 1 (Operand.tmp 34)),
          SOper.mk (some 36) none (SOp.ibin BinOp.lss (Operand.tmp 35) (Operand.const (Value.int IntKind.i64 0))),
          SOper.mk (some 37) none (SOp.mv (Operand.tmp 36)),
          SOper.mk (some 38) (some (37, false)) (SOp.fld 0 (Operand.tmp 1)),
          SOper.mk (some 39) (some (37, false)) (SOp.load false 1 (Operand.tmp 38)),
          SOper.mk (some 40) (some (37, false)) (SOp.fld 2 (Operand.tmp 1)),
          SOper.mk (some 41) (some (37, false)) (SOp.load false 1 (Operand.tmp 40)),
          SOper.mk (some 42) (some (37, false)) (SOp.len false (Operand.tmp 41)),
          SOper.mk (some 43) (some (37, false)) (SOp.ibin BinOp.geq (Operand.tmp 39) (Operand.tmp 42)),
          SOper.mk (some 44) none (SOp.pick (Operand.tmp 37) (Operand.const (Value.bool true)) (Operand.tmp 43)),
          SOper.mk (some 3) none (SOp.mv (Operand.tmp 44))]
        [1, 3])
      (Stmt.seq
        (Stmt.seq
          (Stmt.region
            [SOper.mk (some 45) none (SOp.fld 2 (Operand.tmp 1)),
              SOper.mk (some 46) none (SOp.load false 1 (Operand.tmp 45)),
              SOper.mk (some 47) none (SOp.len false (Operand.tmp 46)),
              SOper.mk (some 48) none (SOp.mv (Operand.const (Value.int IntKind.i64 0)))]
            [1, 3, 46, 47, 48])
          (Stmt.block 1 (Stmt.loop S47_2 [3, 48] [1, 46, 47])))
        (Stmt.seq
          (Stmt.seq (Stmt.region [SOper.mk (some 95) none (SOp.mv (Operand.tmp 3))] [95])
            (Stmt.cond (Operand.tmp 95)
              (Stmt.seq (Stmt.region [SOper.mk (some 2) none (SOp.mv (Operand.const (Value.int IntKind.i64 1)))] [2])
                Stmt.ret)
              Stmt.skip))
          (Stmt.seq (Stmt.region [SOper.mk (some 2) none (SOp.mv (Operand.const (Value.int IntKind.i64 0)))] [2])
            Stmt.ret)))))
def S47 : FnS := ⟨96, [(2, none)], S47_0⟩
theorem tr47 : trFn Try.prog 47 [1] [[1], [1, 8], [2], [1, 13], [2], [1, 27], [2], [1, 3], [1, 3, 46, 47, 48], [3, 48], [1, 46, 47], [1, 3, 46, 47, 48, 49], [1, 3, 4, 5, 46, 47, 48], [1, 3, 4, 5, 46, 47, 48, 65], [2], [1, 3, 5, 46, 47, 48], [1, 3, 46, 47, 48, 75, 76, 77], [3, 77], [1, 46, 47, 48, 75, 76], [1, 3, 46, 47, 48, 75, 76, 77, 78], [1, 3, 7, 46, 47, 48, 75, 76, 77], [1, 3, 46, 47, 48, 75, 76, 77], [1, 3, 46, 47, 48, 75, 76, 77], [1, 3, 46, 47, 48], [95], [2], [2]] = some S47 := by kernel_rfl
end Go.Proofs.Ytniobbepliknmaa.V
/- Automata: dfa.Check, dfa.Run, parlref5.DfaFault, parlref5.Ends walked; no condition. -/
namespace Go.Proofs.Ytniobbepliknmaa.V
open Go
set_option linter.unusedVariables false
set_option linter.unusedSimpArgs false
attribute [local go_sem] e_seq e_region e_quiet e_join e_loop e_cond e_block e_exit e_ret e_skip e_fin e_kseq e_snrm e_sret e_sex e_bnrm e_bret e_bex e_rnrm e_rret e_res e_condC e_nil e_g e_mv g_mv e_pick g_pick pickC_eq e_ibin g_ibin ibinC_eq e_sbin g_sbin e_beq g_beq beqC_eq e_nilq g_nilq nilqC_sl nilqC_pt nilqC_mp e_un g_un unC_not unC_neg e_conv g_conv convC_eq e_fld g_fld fldC_ref fldC_ptr e_nilCheck g_nilCheck nilCheckC_ref nilCheckC_ptr nilCheckC_fun e_field g_field fieldC_eq e_len g_len lenC_sl lenC_str e_extract g_extract extractC_eq e_mkFunc e_build g_build e_idiv g_idiv idivC_eq e_ishift g_ishift ishiftC_eq e_idx g_idx e_idxA g_idxA e_load g_load e_loadB g_loadB atB_ref atB_v g_mkFunc loadC_ref loadC_ptr loadB_eq e_slc g_slc e_box boxC_loc boxC_esc e_alloc allocC_loc allocC_esc e_buildS e_store storeC_ref storeC_ptr storeB_eq e_append e_appz e_mk mkC_eq e_call callC_eq e_fn g_fn fnC_eq fnV_min' fnV_max' fnV_rune' e_q g_q e_a e_n g_call g_box g_alloc g_buildS g_store g_append g_mk g_a g_n g_dead e_dead e_callK e_drawn e_tree e_finJ e_tk e_tfin e_tno e_nbt_q e_nbt_qn e_nbt_a e_nbt_an e_nbt_fin e_drawnB e_bxb_nil e_bxb e_stB_none e_stB_some boxSt_store bs_mv bs_pick bs_ibin bs_idiv bs_ishift bs_sbin bs_beq bs_nilq bs_un bs_conv bs_box bs_alloc bs_build bs_buildS bs_load bs_fld bs_nilCheck bs_idx bs_idxA bs_field bs_slc bs_len bs_append bs_appz bs_mk bs_call bs_extract bs_mkFunc bs_fn bs_q bs_a bs_n bs_loadB bs_dead isBox_box e_early_nil e_early_t e_early_f e_nob_nil e_nob_none e_nob_some isBox_dead isBox_v isBox_ref e_dnil e_dk e_ek e_finB vcOps_vc1 e_dcons e_tq e_ekt e_tearly e_talt e_dearly look_nil look_c proj_nil proj_c looks_nil looks_c zip_nil zip_c val_tmp val_const val_func slv_v slv_box slv_ref slot_tmp slot_const slot_func slotL_v slotL_box slotL_ref put_some put_none updBox_c boxSet_box gd_eq slotVals_nil slotVals_c slotVals_b boxV_box boxOn_box slotsOn_nil slotsOn_c slotsOn_b resV_one resV_two vals_nil vals_c allOn_nil allOn_c partOn_nil partOn_c partVals_nil partVals_c fits_nil fits_c fillL_nil fillL_c mkv_one mkv_agg cellsV_agg cellsV_int cellsV_bool cellsV_slice cellsV_string cellsV_pointer cellsV_func cellsV_nilf cellsV_map one'_nil one'_c oc_int oc_bool oc_slice oc_string oc_pointer oc_func oc_nilf oc_map setC_eq iv_add iv_sub iv_mul iv_eql iv_neq iv_lss iv_leq iv_gtr iv_geq iok_add iok_sub iok_mul iok_eql iok_neq iok_lss iok_leq iok_gtr iok_geq pickV_bool args0_nil args0_c bnd_none bnd_some imp_bt imp_bf imp_ebt imp_ebf imp_eb1 imp_np imp_pp beq_tt beq_tf beq_ft beq_ff cond_or cond_and e_round e_meet Int.le_refl Int.toNat_zero decide_true decide_false Bool.or_false Bool.false_or Bool.true_or Bool.or_true Bool.and_false Bool.false_and Bool.bne_false Bool.bne_true beq_iff_eq Int.cast_ofNat_Int not_false_eq_true not_true_eq_false false_and and_false false_implies true_implies true_and and_true Bool.true_and Bool.and_true Bool.not_true Bool.not_false forall_const implies_true List.take_zero List.drop_zero List.take_succ_cons List.drop_succ_cons List.take_nil List.drop_nil List.length_cons List.length_nil List.nil_append List.append_nil List.cons_append Int.toNat_natCast decide_eq_true_eq decide_eq_false_iff_not cond_true cond_false and_self List.getElem?_cons_zero List.getElem?_cons_succ List.set_cons_zero List.set_cons_succ Option.some.injEq exists_eq_left' Nat.zero_add Nat.add_zero Nat.mul_one imp_self true_or or_true or_false false_or Bool.or_eq_true Bool.or_eq_false_iff Bool.and_eq_true Bool.and_eq_false_iff Bool.not_eq_true' Bool.not_eq_false'

def colsD (d : Da) : Nat := (d.nx.headD []).length
/-- what is wrong with an automaton -/
def dfF (d : Da) : Int :=
  if 200 < d.nx.length then 2
  else if d.nx.length = 0 ∨ d.ac.length ≠ d.nx.length then 3
  else if 16 < colsD d then 2
  else if ∃ r ∈ d.nx, r.length ≠ colsD d ∨ colsD d = 0 then 3
  else if d.st < 0 ∨ (d.nx.length : Int) ≤ d.st ∨ (∃ x ∈ d.ac, x < -1) ∨ (∃ r ∈ d.nx, ∃ t ∈ r, t < -1 ∨ (d.nx.length : Int) ≤ t) then 1 else 0
/-- an automaton that is accepted -/
structure VD (d : Da) : Prop where
  len : 1 ≤ d.nx.length ∧ d.nx.length ≤ 200
  acc : d.ac.length = d.nx.length
  cols : 1 ≤ colsD d ∧ colsD d ≤ 16
  row : ∀ r ∈ d.nx, r.length = colsD d
  st : 0 ≤ d.st ∧ d.st < d.nx.length
  ac : ∀ x ∈ d.ac, -1 ≤ x
  to : ∀ r ∈ d.nx, ∀ t ∈ r, -1 ≤ t ∧ t < d.nx.length
theorem dfF_ok {d : Da} (h : dfF d = 0) : VD d := by
  unfold dfF at h
  split at h
  · cases h
  rename_i h1
  split at h
  · cases h
  rename_i h2
  split at h
  · cases h
  rename_i h3
  split at h
  · cases h
  rename_i h4
  split at h
  · cases h
  rename_i h5
  simp only [not_exists, not_and, not_or] at h4 h5
  have hr : ∀ r ∈ d.nx, r.length = colsD d ∧ colsD d ≠ 0 := fun r hr => by have := h4 r hr; omega
  have hc : colsD d ≠ 0 := by
    cases hn : d.nx with
    | nil => rw [hn] at h2; simp at h2
    | cons r l => exact (hr r (by simp [hn])).2
  exact ⟨by omega, by omega, by omega, fun r q => (hr r q).1, by omega, fun x q => by have := h5.2.2.1 x q; omega, fun r q t q' => by have := h5.2.2.2 r q t q'; omega⟩
theorem cols_at {d : Da} (h : 0 < d.nx.length) : d.nx[0].length = colsD d := by
  unfold colsD
  congr 1
  generalize d.nx = l at *
  cases l with
  | nil => simp at h
  | cons r l => rfl
section
variable {Γr : Ctx} {d : Da} {A B : Option Addr} {c e : Nat}
theorem dfa_check (hA : SlOk (lk Γr) A c d.ac) (hB : SlOk (lk Γr) B e d.nx) :
    Ret Try.prog 115 [.agg #[.int .i64 d.st, .slice A d.ac.length c, .slice B d.nx.length e]] Γr [] (fun v Γ => Γ = [] ∧ v = .int .i64 (dfF d)) := by
  generalize hR : (fun (v : Value) (Γ : Ctx) => Γ = [] ∧ v = Value.int .i64 (dfF d)) = R
  refine ret_of_vc tr115 (Nat.le_of_ble_eq_true rfl) ?_
  have hsB := hB.short
  have hsA := hA.short
  unfold dfF at hR
  simp -implicitDefEqProofs only [S115, S115_0, go_sem, Nat.reduceBEq, Nat.reduceAdd, Nat.reduceSub, Nat.reduceMul, Nat.reduceLeDiff, reduceCtorEq, ↓reduceIte, Int.reduceLT, Int.reduceLE, Int.reduceEq, Int.reduceNe]
  intro b
  refine ⟨fun h => Up.here ?_, fun h1 => ?_⟩
  · rw [if_pos (by omega)] at hR
    subst hR
    exact ⟨rfl, rfl⟩
  rw [if_neg (by omega)] at hR
  refine ⟨fun h => Up.here ?_, fun h2 => ?_⟩
  · rw [if_pos (by omega)] at hR
    subst hR
    exact ⟨rfl, rfl⟩
  rw [if_neg (by omega)] at hR
  have hpos : 0 < d.nx.length := by omega
  obtain ⟨b1, o1, hB1, A1, c1, hr1, hc1⟩ := hB.list hpos
  have hcol := cols_at hpos
  rw [hcol] at hc1
  refine s_idx hB1 (by omega) (by omega) ?_
  simp -implicitDefEqProofs only [go_sem, Nat.reduceBEq, Nat.reduceAdd, Nat.reduceSub, Nat.reduceMul, Nat.reduceLeDiff, reduceCtorEq, ↓reduceIte, Int.reduceLT, Int.reduceLE, Int.reduceEq, Int.reduceNe]
  refine s_ld0 (hc1 _ (lk_r _ _)) (by simp) (by simp) ?_
  simp -implicitDefEqProofs only [go_sem, Nat.reduceBEq, Nat.reduceAdd, Nat.reduceSub, Nat.reduceMul, Nat.reduceLeDiff, reduceCtorEq, ↓reduceIte, Int.reduceLT, Int.reduceLE, Int.reduceEq, Int.reduceNe]
  refine ⟨fun h => Up.here ?_, fun h3 => ?_⟩
  · rw [if_pos (by omega)] at hR
    subst hR
    exact ⟨rfl, rfl⟩
  rw [if_neg (by omega)] at hR
  refine s_loop (fun f vs Γ => Γ = [] ∧ ∃ k : Nat, vs = [.v true (.int .i64 k)] ∧ k + f = d.nx.length ∧ ∀ (j : Nat) (hj : j < d.nx.length), j < k → d.nx[j].length = colsD d ∧ colsD d ≠ 0) d.nx.length
    (Up.here ⟨rfl, 0, rfl, by omega, fun j _ h => by omega⟩) ?_
  rintro f vs Γ ⟨rfl, k, rfl, hkf, hok⟩
  simp -implicitDefEqProofs only [S115_1, go_sem, Nat.reduceBEq, Nat.reduceAdd, Nat.reduceSub, Nat.reduceMul, Nat.reduceLeDiff, reduceCtorEq, ↓reduceIte, Int.reduceLT, Int.reduceLE, Int.reduceEq, Int.reduceNe]
  refine ⟨fun hlt => ?_, fun hge => ?_⟩
  · have hk : k < d.nx.length := by omega
    obtain ⟨b2, o2, hB2, A2, c2, hr2, hc2⟩ := hB.list hk
    refine s_idx hB2 (by omega) (by omega) ?_
    simp -implicitDefEqProofs only [go_sem, Nat.reduceBEq, Nat.reduceAdd, Nat.reduceSub, Nat.reduceMul, Nat.reduceLeDiff, reduceCtorEq, ↓reduceIte, Int.reduceLT, Int.reduceLE, Int.reduceEq, Int.reduceNe]
    refine s_ld0 (hc2 _ (lk_r _ _)) (by simp) (by simp) ?_
    simp -implicitDefEqProofs only [go_sem, Nat.reduceBEq, Nat.reduceAdd, Nat.reduceSub, Nat.reduceMul, Nat.reduceLeDiff, reduceCtorEq, ↓reduceIte, Int.reduceLT, Int.reduceLE, Int.reduceEq, Int.reduceNe]
    refine ⟨fun h => Up.here ?_, fun h => ?_⟩
    · rw [if_pos ⟨_, List.getElem_mem hk, by omega⟩] at hR
      subst hR
      exact ⟨rfl, rfl⟩
    · simp (disch := omega) only [wrap_id]
      refine ⟨f - 1, by omega, Up.here ⟨rfl, k + 1, rfl, by omega, fun j hj h2 => ?_⟩⟩
      by_cases e : j = k
      · subst e; omega
      · exact hok j hj (by omega)
  have hk : k = d.nx.length := by omega
  have hrow : ∀ r ∈ d.nx, r.length = colsD d ∧ colsD d ≠ 0 := fun r hr => by
    obtain ⟨j, hj, rfl⟩ := List.getElem_of_mem hr
    exact hok j hj (by omega)
  rw [if_neg (by rintro ⟨r, hr, h⟩; have := hrow r hr; omega)] at hR
  have hc0 : 0 < colsD d := by have := hrow _ (List.getElem_mem hpos); omega
  refine ⟨fun h => Up.here ?_, fun h4 => ?_⟩
  · rw [if_pos (by omega)] at hR
    subst hR
    exact ⟨rfl, rfl⟩
  refine s_loop (fun f vs Γ => Γ = [] ∧ ∃ k : Nat, vs = [.v true (.int .i64 k)] ∧ k + f = d.nx.length ∧ (∀ (j : Nat) (hj : j < d.ac.length), j < k → -1 ≤ d.ac[j]) ∧ ∀ (j : Nat) (hj : j < d.nx.length), j < k → ∀ t ∈ d.nx[j], -1 ≤ t ∧ t < d.nx.length) d.nx.length
    (Up.here ⟨rfl, 0, rfl, by omega, fun j _ h => by omega, fun j _ h => by omega⟩) ?_
  rintro f vs Γ ⟨rfl, k, rfl, hkf, hac, hto⟩
  simp -implicitDefEqProofs only [S115_3, go_sem, Nat.reduceBEq, Nat.reduceAdd, Nat.reduceSub, Nat.reduceMul, Nat.reduceLeDiff, reduceCtorEq, ↓reduceIte, Int.reduceLT, Int.reduceLE, Int.reduceEq, Int.reduceNe]
  refine ⟨fun hlt => ?_, fun hge => ?_⟩
  · have hk : k < d.nx.length := by omega
    have hka : k < d.ac.length := by omega
    obtain ⟨b2, o2, hB2, A2, c2, hr2, hc2⟩ := hB.list hk
    obtain ⟨b3, o3, hA3, hc3⟩ := hA.int hka
    refine s_idx hB2 (by omega) (by omega) ?_
    simp -implicitDefEqProofs only [go_sem, Nat.reduceBEq, Nat.reduceAdd, Nat.reduceSub, Nat.reduceMul, Nat.reduceLeDiff, reduceCtorEq, ↓reduceIte, Int.reduceLT, Int.reduceLE, Int.reduceEq, Int.reduceNe]
    refine s_ld0 (hc2 _ (lk_r _ _)) (by simp) (by simp) ?_
    simp -implicitDefEqProofs only [go_sem, Nat.reduceBEq, Nat.reduceAdd, Nat.reduceSub, Nat.reduceMul, Nat.reduceLeDiff, reduceCtorEq, ↓reduceIte, Int.reduceLT, Int.reduceLE, Int.reduceEq, Int.reduceNe]
    refine s_idx hA3 (by omega) (by omega) ?_
    simp -implicitDefEqProofs only [go_sem, Nat.reduceBEq, Nat.reduceAdd, Nat.reduceSub, Nat.reduceMul, Nat.reduceLeDiff, reduceCtorEq, ↓reduceIte, Int.reduceLT, Int.reduceLE, Int.reduceEq, Int.reduceNe]
    refine s_ld0 (hc3 _ (lk_r _ _)) (by simp) (by simp) ?_
    simp -implicitDefEqProofs only [go_sem, Nat.reduceBEq, Nat.reduceAdd, Nat.reduceSub, Nat.reduceMul, Nat.reduceLeDiff, reduceCtorEq, ↓reduceIte, Int.reduceLT, Int.reduceLE, Int.reduceEq, Int.reduceNe]
    refine ⟨fun h => Up.here ?_, fun h5 => ?_⟩
    · rw [if_pos (.inr (.inr (.inl ⟨_, List.getElem_mem hka, by omega⟩)))] at hR
      subst hR
      exact ⟨rfl, rfl⟩
    have hrk := hrow _ (List.getElem_mem hk)
    refine s_loop (fun f2 vs Γ => Γ = [] ∧ ∃ m : Nat, vs = [.v true (.int .i64 m)] ∧ m + f2 = d.nx[k].length ∧ ∀ (j : Nat) (hj : j < d.nx[k].length), j < m → -1 ≤ d.nx[k][j] ∧ d.nx[k][j] < d.nx.length) d.nx[k].length
      (Up.here ⟨rfl, 0, rfl, by omega, fun j _ h => by omega⟩) ?_
    rintro f2 vs Γ ⟨rfl, m, rfl, hmf, hm⟩
    simp -implicitDefEqProofs only [S115_2, go_sem, Nat.reduceBEq, Nat.reduceAdd, Nat.reduceSub, Nat.reduceMul, Nat.reduceLeDiff, reduceCtorEq, ↓reduceIte, Int.reduceLT, Int.reduceLE, Int.reduceEq, Int.reduceNe]
    refine ⟨fun hlt => ?_, fun hge => ?_⟩
    · have hml : m < d.nx[k].length := by omega
      obtain ⟨b4, o4, hA4, hc4⟩ := hr2.int hml
      refine s_idx hA4 (by omega) (by omega) ?_
      simp -implicitDefEqProofs only [go_sem, Nat.reduceBEq, Nat.reduceAdd, Nat.reduceSub, Nat.reduceMul, Nat.reduceLeDiff, reduceCtorEq, ↓reduceIte, Int.reduceLT, Int.reduceLE, Int.reduceEq, Int.reduceNe]
      refine s_ld0 (hc4 _ (lk_r _ _)) (by simp) (by simp) ?_
      simp -implicitDefEqProofs only [go_sem, Nat.reduceBEq, Nat.reduceAdd, Nat.reduceSub, Nat.reduceMul, Nat.reduceLeDiff, reduceCtorEq, ↓reduceIte, Int.reduceLT, Int.reduceLE, Int.reduceEq, Int.reduceNe]
      refine ⟨fun h => Up.here ?_, fun h => ?_⟩
      · rw [if_pos (.inr (.inr (.inr ⟨_, List.getElem_mem hk, _, List.getElem_mem hml, by omega⟩)))] at hR
        subst hR
        exact ⟨rfl, rfl⟩
      · simp (disch := omega) only [wrap_id]
        refine ⟨f2 - 1, by omega, Up.here ⟨rfl, m + 1, rfl, by omega, fun j hj h2 => ?_⟩⟩
        by_cases e : j = m
        · subst e; omega
        · exact hm j hj (by omega)
    · have hml : m = d.nx[k].length := by omega
      simp (disch := omega) only [wrap_id]
      refine ⟨f - 1, by omega, Up.here ⟨rfl, k + 1, rfl, by omega, fun j hj h2 => ?_, fun j hj h2 t ht => ?_⟩⟩
      · by_cases e : j = k
        · subst e; omega
        · exact hac j hj (by omega)
      · by_cases e : j = k
        · subst e
          obtain ⟨i, hi, rfl⟩ := List.getElem_of_mem ht
          exact hm i hi (by omega)
        · exact hto j hj (by omega) t ht
  · have hk : k = d.nx.length := by omega
    refine Up.here ?_
    rw [if_neg ?_] at hR
    · subst hR
      exact ⟨rfl, rfl⟩
    · rintro (h | h | ⟨x, hx, h⟩ | ⟨r, hr, t, ht, h⟩)
      · omega
      · omega
      · obtain ⟨j, hj, rfl⟩ := List.getElem_of_mem hx
        have := hac j hj (by omega)
        omega
      · obtain ⟨j, hj, rfl⟩ := List.getElem_of_mem hr
        have := hto j hj (by omega) t ht
        omega
theorem ref_dfa (hA : SlOk (lk Γr) A c d.ac) (hB : SlOk (lk Γr) B e d.nx) :
    Ret Try.prog 47 [.agg #[.int .i64 d.st, .slice A d.ac.length c, .slice B d.nx.length e]] Γr [] (fun v Γ => Γ = [] ∧ v = .int .i64 (dfF d)) := by
  generalize hR : (fun (v : Value) (Γ : Ctx) => Γ = [] ∧ v = Value.int .i64 (dfF d)) = R
  refine ret_of_vc tr47 (Nat.le_of_ble_eq_true rfl) ?_
  have hsB := hB.short
  have hsA := hA.short
  unfold dfF at hR
  simp -implicitDefEqProofs only [S47, S47_0, go_sem, Nat.reduceBEq, Nat.reduceAdd, Nat.reduceSub, Nat.reduceMul, Nat.reduceLeDiff, reduceCtorEq, ↓reduceIte, Int.reduceLT, Int.reduceLE, Int.reduceEq, Int.reduceNe]
  intro b
  refine ⟨fun h => Up.here ?_, fun h1 => ?_⟩
  · rw [if_pos (by omega)] at hR
    subst hR
    exact ⟨rfl, rfl⟩
  rw [if_neg (by omega)] at hR
  refine ⟨fun h => Up.here ?_, fun h2 => ?_⟩
  · rw [if_pos (by omega)] at hR
    subst hR
    exact ⟨rfl, rfl⟩
  rw [if_neg (by omega)] at hR
  have hpos : 0 < d.nx.length := by omega
  obtain ⟨b1, o1, hB1, A1, c1, hr1, hc1⟩ := hB.list hpos
  have hcol := cols_at hpos
  rw [hcol] at hc1
  have hc1' : ∀ Γ : Ctx, Mem.le (lk Γr) (lk Γ) → Cells Γ b1 o1 [.slice A1 (colsD d) c1] := fun Γ h => by simpa using hc1 Γ h
  refine s_idx hB1 (by omega) (by omega) ?_
  simp -implicitDefEqProofs only [go_sem, Nat.reduceBEq, Nat.reduceAdd, Nat.reduceSub, Nat.reduceMul, Nat.reduceLeDiff, reduceCtorEq, ↓reduceIte, Int.reduceLT, Int.reduceLE, Int.reduceEq, Int.reduceNe]
  refine s_ld0 (hc1' _ (lk_r _ _)) (by simp) (by simp) ?_
  simp -implicitDefEqProofs only [go_sem, Nat.reduceBEq, Nat.reduceAdd, Nat.reduceSub, Nat.reduceMul, Nat.reduceLeDiff, reduceCtorEq, ↓reduceIte, Int.reduceLT, Int.reduceLE, Int.reduceEq, Int.reduceNe]
  refine ⟨fun h => Up.here ?_, fun h3 => ?_⟩
  · rw [if_pos (by omega)] at hR
    subst hR
    exact ⟨rfl, rfl⟩
  rw [if_neg (by omega)] at hR
  let badA (k : Nat) : Prop := ∃ (j : Nat) (hj : j < d.ac.length), j < k ∧ d.ac[j] < -1
  let badT (k : Nat) : Prop := ∃ (j : Nat) (hj : j < d.nx.length), j < k ∧ ∃ t ∈ d.nx[j], t < -1 ∨ (d.nx.length : Int) ≤ t
  refine s_loop (fun f vs Γ => Γ = [] ∧ ∃ (k : Nat) (bd : Bool), vs = [.v true (.bool bd), .v true (.int .i64 k)] ∧ k + f = d.nx.length ∧ (∀ (j : Nat) (hj : j < d.nx.length), j < k → d.nx[j].length = colsD d ∧ colsD d ≠ 0) ∧ (bd = true ↔ (d.st < 0 ∨ (d.nx.length : Int) ≤ d.st) ∨ badA k ∨ badT k)) d.nx.length
    (Up.here ⟨rfl, 0, _, rfl, by omega, fun j _ h => by omega, ?_⟩) ?_
  · simp only [Bool.or_eq_true, decide_eq_true_eq]
    refine ⟨.inl, fun h => h.resolve_right ?_⟩
    rintro (⟨j, _, h, _⟩ | ⟨j, _, h, _⟩) <;> omega
  rintro f vs Γ ⟨rfl, k, bd, rfl, hkf, hok, hbd⟩
  simp -implicitDefEqProofs only [S47_2, go_sem, Nat.reduceBEq, Nat.reduceAdd, Nat.reduceSub, Nat.reduceMul, Nat.reduceLeDiff, reduceCtorEq, ↓reduceIte, Int.reduceLT, Int.reduceLE, Int.reduceEq, Int.reduceNe]
  refine ⟨fun hlt => ?_, fun hge => ?_⟩
  · have hk : k < d.nx.length := by omega
    have hka : k < d.ac.length := by omega
    obtain ⟨b2, o2, hB2, A2, c2, hr2, hc2⟩ := hB.list hk
    obtain ⟨b3, o3, hA3, hc3⟩ := hA.int hka
    refine s_idx hB2 (by omega) (by omega) ?_
    simp -implicitDefEqProofs only [go_sem, Nat.reduceBEq, Nat.reduceAdd, Nat.reduceSub, Nat.reduceMul, Nat.reduceLeDiff, reduceCtorEq, ↓reduceIte, Int.reduceLT, Int.reduceLE, Int.reduceEq, Int.reduceNe]
    refine s_ld0 (hc2 _ (lk_r _ _)) (by simp) (by simp) ?_
    simp -implicitDefEqProofs only [go_sem, Nat.reduceBEq, Nat.reduceAdd, Nat.reduceSub, Nat.reduceMul, Nat.reduceLeDiff, reduceCtorEq, ↓reduceIte, Int.reduceLT, Int.reduceLE, Int.reduceEq, Int.reduceNe]
    refine s_idx hB1 (by omega) (by omega) ?_
    simp -implicitDefEqProofs only [go_sem, Nat.reduceBEq, Nat.reduceAdd, Nat.reduceSub, Nat.reduceMul, Nat.reduceLeDiff, reduceCtorEq, ↓reduceIte, Int.reduceLT, Int.reduceLE, Int.reduceEq, Int.reduceNe]
    refine s_ld0 (hc1' _ (lk_r _ _)) (by simp) (by simp) ?_
    simp -implicitDefEqProofs only [go_sem, Nat.reduceBEq, Nat.reduceAdd, Nat.reduceSub, Nat.reduceMul, Nat.reduceLeDiff, reduceCtorEq, ↓reduceIte, Int.reduceLT, Int.reduceLE, Int.reduceEq, Int.reduceNe]
    refine ⟨fun h => Up.here ?_, fun h => ?_⟩
    · rw [if_pos ⟨_, List.getElem_mem hk, by omega⟩] at hR
      subst hR
      exact ⟨rfl, rfl⟩
    refine s_idxg (fun he => ⟨by first | exact he | rfl | simp_all, by first | exact he | rfl | simp_all, hA3, by omega, by omega⟩) ?_
    simp -implicitDefEqProofs only [go_sem, Nat.reduceBEq, Nat.reduceAdd, Nat.reduceSub, Nat.reduceMul, Nat.reduceLeDiff, reduceCtorEq, ↓reduceIte, Int.reduceLT, Int.reduceLE, Int.reduceEq, Int.reduceNe]
    refine s_ldg0 (fun he => by first | exact he | rfl | simp_all) (fun _ => hc3 _ (lk_r _ _)) (by simp) (by simp) ?_
    simp -implicitDefEqProofs only [go_sem, Nat.reduceBEq, Nat.reduceAdd, Nat.reduceSub, Nat.reduceMul, Nat.reduceLeDiff, reduceCtorEq, ↓reduceIte, Int.reduceLT, Int.reduceLE, Int.reduceEq, Int.reduceNe]
    refine s_loop (fun f2 vs Γ => Γ = [] ∧ ∃ (m : Nat) (bd : Bool), vs = [.v true (.bool bd), .v true (.int .i64 m)] ∧ m + f2 = d.nx[k].length ∧ (bd = true ↔ (d.st < 0 ∨ (d.nx.length : Int) ≤ d.st) ∨ badA (k + 1) ∨ badT k ∨ ∃ (j : Nat) (hj : j < d.nx[k].length), j < m ∧ (d.nx[k][j] < -1 ∨ (d.nx.length : Int) ≤ d.nx[k][j]))) d.nx[k].length
      (Up.here ⟨rfl, 0, _, rfl, by omega, ?_⟩) ?_
    · simp only [Bool.or_eq_true, decide_eq_true_eq, hbd]
      constructor
      · rintro ((h | ⟨j, hj, h1, h2⟩ | h) | h)
        · exact .inl h
        · exact .inr (.inl ⟨j, hj, by omega, h2⟩)
        · exact .inr (.inr (.inl h))
        · exact .inr (.inl ⟨k, hka, by omega, h⟩)
      · rintro (h | ⟨j, hj, h1, h2⟩ | h | ⟨j, _, h, _⟩)
        · exact .inl (.inl h)
        · by_cases e : j = k
          · subst e; exact .inr h2
          · exact .inl (.inr (.inl ⟨j, hj, by omega, h2⟩))
        · exact .inl (.inr (.inr h))
        · omega
    rintro f2 vs Γ ⟨rfl, m, bd2, rfl, hmf, hbd2⟩
    simp -implicitDefEqProofs only [S47_1, go_sem, Nat.reduceBEq, Nat.reduceAdd, Nat.reduceSub, Nat.reduceMul, Nat.reduceLeDiff, reduceCtorEq, ↓reduceIte, Int.reduceLT, Int.reduceLE, Int.reduceEq, Int.reduceNe]
    refine ⟨fun hlt => ?_, fun hge => ?_⟩
    · have hml : m < d.nx[k].length := by omega
      obtain ⟨b4, o4, hA4, hc4⟩ := hr2.int hml
      refine s_idx hA4 (by omega) (by omega) ?_
      simp -implicitDefEqProofs only [go_sem, Nat.reduceBEq, Nat.reduceAdd, Nat.reduceSub, Nat.reduceMul, Nat.reduceLeDiff, reduceCtorEq, ↓reduceIte, Int.reduceLT, Int.reduceLE, Int.reduceEq, Int.reduceNe]
      refine s_ld0 (hc4 _ (lk_r _ _)) (by simp) (by simp) ?_
      simp -implicitDefEqProofs only [go_sem, Nat.reduceBEq, Nat.reduceAdd, Nat.reduceSub, Nat.reduceMul, Nat.reduceLeDiff, reduceCtorEq, ↓reduceIte, Int.reduceLT, Int.reduceLE, Int.reduceEq, Int.reduceNe]
      simp (disch := omega) only [wrap_id]
      refine ⟨f2 - 1, by omega, Up.here ⟨rfl, m + 1, _, rfl, by omega, ?_⟩⟩
      simp only [Bool.or_eq_true, decide_eq_true_eq, hbd2]
      constructor
      · rintro (((h | h | h | ⟨j, hj, h1, h2⟩) | h) | h)
        · exact .inl h
        · exact .inr (.inl h)
        · exact .inr (.inr (.inl h))
        · exact .inr (.inr (.inr ⟨j, hj, by omega, h2⟩))
        · exact .inr (.inr (.inr ⟨m, hml, by omega, .inl h⟩))
        · exact .inr (.inr (.inr ⟨m, hml, by omega, .inr h⟩))
      · rintro (h | h | h | ⟨j, hj, h1, h2⟩)
        · exact .inl (.inl (.inl h))
        · exact .inl (.inl (.inr (.inl h)))
        · exact .inl (.inl (.inr (.inr (.inl h))))
        · by_cases e : j = m
          · subst e
            rcases h2 with h2 | h2
            · exact .inl (.inr h2)
            · exact .inr h2
          · exact .inl (.inl (.inr (.inr (.inr ⟨j, hj, by omega, h2⟩))))
    · have hml : m = d.nx[k].length := by omega
      simp (disch := omega) only [wrap_id]
      refine ⟨f - 1, by omega, Up.here ⟨rfl, k + 1, bd2, rfl, by omega, fun j hj h2 => ?_, ?_⟩⟩
      · by_cases e : j = k
        · subst e; omega
        · exact hok j hj (by omega)
      · rw [hbd2]
        refine or_congr_right (or_congr_right ⟨?_, ?_⟩)
        · rintro (⟨j, hj, h1, h2⟩ | ⟨j, hj, h1, h2⟩)
          · exact ⟨j, hj, by omega, h2⟩
          · exact ⟨k, hk, by omega, _, List.getElem_mem hj, h2⟩
        · rintro ⟨j, hj, h1, t, ht, h2⟩
          by_cases e : j = k
          · subst e
            obtain ⟨i, hi, rfl⟩ := List.getElem_of_mem ht
            exact .inr ⟨i, hi, by omega, h2⟩
          · exact .inl ⟨j, hj, by omega, t, ht, h2⟩
  · have hk : k = d.nx.length := by omega
    have hrow : ∀ r ∈ d.nx, r.length = colsD d ∧ colsD d ≠ 0 := fun r hr => by
      obtain ⟨j, hj, rfl⟩ := List.getElem_of_mem hr
      exact hok j hj (by omega)
    rw [if_neg (by rintro ⟨r, hr, h⟩; have := hrow r hr; omega)] at hR
    have hall : bd = true ↔ (d.st < 0 ∨ (d.nx.length : Int) ≤ d.st ∨ (∃ x ∈ d.ac, x < -1) ∨ (∃ r ∈ d.nx, ∃ t ∈ r, t < -1 ∨ (d.nx.length : Int) ≤ t)) := by
      rw [hbd, or_assoc]
      refine or_congr_right (or_congr_right (or_congr ⟨?_, ?_⟩ ⟨?_, ?_⟩))
      · rintro ⟨j, hj, _, h⟩; exact ⟨_, List.getElem_mem hj, h⟩
      · rintro ⟨x, hx, h⟩
        obtain ⟨j, hj, rfl⟩ := List.getElem_of_mem hx
        exact ⟨j, hj, by omega, h⟩
      · rintro ⟨j, hj, _, h⟩; exact ⟨_, List.getElem_mem hj, h⟩
      · rintro ⟨x, hx, h⟩
        obtain ⟨j, hj, rfl⟩ := List.getElem_of_mem hx
        exact ⟨j, hj, by omega, h⟩
    refine ⟨fun h => Up.here ?_, fun h => Up.here ?_⟩
    · rw [if_pos (hall.1 h)] at hR
      subst hR
      exact ⟨rfl, rfl⟩
    · rw [if_neg (fun q => by rw [hall.2 q] at h; cases h)] at hR
      subst hR
      exact ⟨rfl, rfl⟩
end
end Go.Proofs.Ytniobbepliknmaa.V
/- Automata: dfa.Run, parlref5.Ends, teach.step walked; no condition. -/
namespace Go.Proofs.Ytniobbepliknmaa.V
open Go
set_option linter.unusedVariables false
set_option linter.unusedSimpArgs false
attribute [local go_sem] e_seq e_region e_quiet e_join e_loop e_cond e_block e_exit e_ret e_skip e_fin e_kseq e_snrm e_sret e_sex e_bnrm e_bret e_bex e_rnrm e_rret e_res e_condC e_nil e_g e_mv g_mv e_pick g_pick pickC_eq e_ibin g_ibin ibinC_eq e_sbin g_sbin e_beq g_beq beqC_eq e_nilq g_nilq nilqC_sl nilqC_pt nilqC_mp e_un g_un unC_not unC_neg e_conv g_conv convC_eq e_fld g_fld fldC_ref fldC_ptr e_nilCheck g_nilCheck nilCheckC_ref nilCheckC_ptr nilCheckC_fun e_field g_field fieldC_eq e_len g_len lenC_sl lenC_str e_extract g_extract extractC_eq e_mkFunc e_build g_build e_idiv g_idiv idivC_eq e_ishift g_ishift ishiftC_eq e_idx g_idx e_idxA g_idxA e_load g_load e_loadB g_loadB atB_ref atB_v g_mkFunc loadC_ref loadC_ptr loadB_eq e_slc g_slc e_box boxC_loc boxC_esc e_alloc allocC_loc allocC_esc e_buildS e_store storeC_ref storeC_ptr storeB_eq e_append e_appz e_mk mkC_eq e_call callC_eq e_fn g_fn fnC_eq fnV_min' fnV_max' fnV_rune' e_q g_q e_a e_n g_call g_box g_alloc g_buildS g_store g_append g_mk g_a g_n g_dead e_dead e_callK e_drawn e_tree e_finJ e_tk e_tfin e_tno e_nbt_q e_nbt_qn e_nbt_a e_nbt_an e_nbt_fin e_drawnB e_bxb_nil e_bxb e_stB_none e_stB_some boxSt_store bs_mv bs_pick bs_ibin bs_idiv bs_ishift bs_sbin bs_beq bs_nilq bs_un bs_conv bs_box bs_alloc bs_build bs_buildS bs_load bs_fld bs_nilCheck bs_idx bs_idxA bs_field bs_slc bs_len bs_append bs_appz bs_mk bs_call bs_extract bs_mkFunc bs_fn bs_q bs_a bs_n bs_loadB bs_dead isBox_box e_early_nil e_early_t e_early_f e_nob_nil e_nob_none e_nob_some isBox_dead isBox_v isBox_ref e_dnil e_dk e_ek e_finB vcOps_vc1 e_dcons e_tq e_ekt e_tearly e_talt e_dearly look_nil look_c proj_nil proj_c looks_nil looks_c zip_nil zip_c val_tmp val_const val_func slv_v slv_box slv_ref slot_tmp slot_const slot_func slotL_v slotL_box slotL_ref put_some put_none updBox_c boxSet_box gd_eq slotVals_nil slotVals_c slotVals_b boxV_box boxOn_box slotsOn_nil slotsOn_c slotsOn_b resV_one resV_two vals_nil vals_c allOn_nil allOn_c partOn_nil partOn_c partVals_nil partVals_c fits_nil fits_c fillL_nil fillL_c mkv_one mkv_agg cellsV_agg cellsV_int cellsV_bool cellsV_slice cellsV_string cellsV_pointer cellsV_func cellsV_nilf cellsV_map one'_nil one'_c oc_int oc_bool oc_slice oc_string oc_pointer oc_func oc_nilf oc_map setC_eq iv_add iv_sub iv_mul iv_eql iv_neq iv_lss iv_leq iv_gtr iv_geq iok_add iok_sub iok_mul iok_eql iok_neq iok_lss iok_leq iok_gtr iok_geq pickV_bool args0_nil args0_c bnd_none bnd_some imp_bt imp_bf imp_ebt imp_ebf imp_eb1 imp_np imp_pp beq_tt beq_tf beq_ft beq_ff cond_or cond_and e_round e_meet Int.le_refl Int.toNat_zero decide_true decide_false Bool.or_false Bool.false_or Bool.true_or Bool.or_true Bool.and_false Bool.false_and Bool.bne_false Bool.bne_true beq_iff_eq Int.cast_ofNat_Int not_false_eq_true not_true_eq_false false_and and_false false_implies true_implies true_and and_true Bool.true_and Bool.and_true Bool.not_true Bool.not_false forall_const implies_true List.take_zero List.drop_zero List.take_succ_cons List.drop_succ_cons List.take_nil List.drop_nil List.length_cons List.length_nil List.nil_append List.append_nil List.cons_append Int.toNat_natCast decide_eq_true_eq decide_eq_false_iff_not cond_true cond_false and_self List.getElem?_cons_zero List.getElem?_cons_succ List.set_cons_zero List.set_cons_succ Option.some.injEq exists_eq_left' Nat.zero_add Nat.add_zero Nat.mul_one imp_self true_or or_true or_false false_or Bool.or_eq_true Bool.or_eq_false_iff Bool.and_eq_true Bool.and_eq_false_iff Bool.not_eq_true' Bool.not_eq_false'

def stepD (d : Da) (s x : Int) : Int := (d.nx.getD s.toNat []).getD x.toNat 0
def accD (d : Da) (s : Int) : Int := d.ac.getD s.toNat 0
def endsD (d : Da) : Int → List Int → Bool
  | s, [] => decide (0 ≤ s) && decide (0 ≤ accD d s)
  | s, x :: w => if s < 0 then false else endsD d (stepD d s x) w
theorem step_at {d : Da} {s x : Nat} (hs : s < d.nx.length) (hx : x < d.nx[s].length) : stepD d s x = d.nx[s][x] := by simp [stepD, hs, hx]
theorem VD.step {d : Da} (V : VD d) {s x : Int} (hs : 0 ≤ s ∧ s < d.nx.length) (hx : 0 ≤ x ∧ x < colsD d) : -1 ≤ stepD d s x ∧ stepD d s x < d.nx.length := by
  have h1 : s.toNat < d.nx.length := by omega
  have h2 := V.row _ (List.getElem_mem h1)
  have h3 : x.toNat < d.nx[s.toNat].length := by omega
  have e : stepD d s x = d.nx[s.toNat][x.toNat] := by simp [stepD, h1, h3]
  rw [e]
  exact V.to _ (List.getElem_mem h1) _ (List.getElem_mem h3)
/-- symbols of the automaton -/
def okW (d : Da) (w : List Int) : Prop := ∀ x ∈ w, 0 ≤ x ∧ x < colsD d
section
variable {Γr : Ctx} {d : Da} {A B : Option Addr} {c e : Nat}
theorem ref_ends (hA : SlOk (lk Γr) A c d.ac) (hB : SlOk (lk Γr) B e d.nx) (V : VD d) {w : List Int} {W : Option Addr} {cw : Nat} (hW : SlOk (lk Γr) W cw w) (hw : okW d w) :
    Ret Try.prog 50 [.agg #[.int .i64 d.st, .slice A d.ac.length c, .slice B d.nx.length e], .slice W w.length cw] Γr [] (fun v Γ => Γ = [] ∧ v = .bool (endsD d d.st w)) := by
  generalize hR : (fun (v : Value) (Γ : Ctx) => Γ = [] ∧ v = Value.bool _) = R
  refine ret_of_vc tr50 (Nat.le_of_ble_eq_true rfl) ?_
  have hsW := hW.short
  have hst := V.st
  simp -implicitDefEqProofs only [S50, S50_0, go_sem, Nat.reduceBEq, Nat.reduceAdd, Nat.reduceSub, Nat.reduceMul, Nat.reduceLeDiff, reduceCtorEq, ↓reduceIte, Int.reduceLT, Int.reduceLE, Int.reduceEq, Int.reduceNe]
  intro b
  refine s_loop (fun f vs Γ => Γ = [] ∧ ∃ (k : Nat) (s : Int), vs = [.v true (.int .i64 s), .v true (.int .i64 k)] ∧ k + f = w.length ∧ -1 ≤ s ∧ s < d.nx.length ∧ endsD d d.st w = endsD d s (w.drop k)) w.length
    (Up.here ⟨rfl, 0, d.st, rfl, by omega, by omega, by omega, by simp⟩) ?_
  rintro f vs Γ ⟨rfl, k, s, rfl, hkf, h0, h1, he⟩
  simp -implicitDefEqProofs only [S50_1, go_sem, Nat.reduceBEq, Nat.reduceAdd, Nat.reduceSub, Nat.reduceMul, Nat.reduceLeDiff, reduceCtorEq, ↓reduceIte, Int.reduceLT, Int.reduceLE, Int.reduceEq, Int.reduceNe]
  refine ⟨fun hlt => ?_, fun hge => ?_⟩
  · have hk : k < w.length := by omega
    obtain ⟨b1, o1, hA1, hc1⟩ := hW.int hk
    have hx := hw _ (List.getElem_mem hk)
    rw [List.drop_eq_getElem_cons hk] at he
    simp only [endsD] at he
    refine s_idx hA1 (by omega) (by omega) ?_
    simp -implicitDefEqProofs only [go_sem, Nat.reduceBEq, Nat.reduceAdd, Nat.reduceSub, Nat.reduceMul, Nat.reduceLeDiff, reduceCtorEq, ↓reduceIte, Int.reduceLT, Int.reduceLE, Int.reduceEq, Int.reduceNe]
    refine s_ld0 (hc1 _ (lk_r _ _)) (by simp) (by simp) ?_
    simp -implicitDefEqProofs only [go_sem, Nat.reduceBEq, Nat.reduceAdd, Nat.reduceSub, Nat.reduceMul, Nat.reduceLeDiff, reduceCtorEq, ↓reduceIte, Int.reduceLT, Int.reduceLE, Int.reduceEq, Int.reduceNe]
    generalize w[k] = x at *
    refine ⟨fun h => Up.here ?_, fun h => ?_⟩
    · rw [if_pos h] at he
      subst hR
      exact ⟨rfl, by rw [he]⟩
    rw [if_neg h] at he
    have hsp := V.step (s := s) (x := x) (by omega) hx
    obtain ⟨sn, rfl⟩ : ∃ n : Nat, s = n := ⟨s.toNat, by omega⟩
    obtain ⟨xn, rfl⟩ : ∃ n : Nat, x = n := ⟨x.toNat, by omega⟩
    have hsl : sn < d.nx.length := by omega
    have hrl := V.row _ (List.getElem_mem hsl)
    have hxl : xn < d.nx[sn].length := by omega
    rw [step_at hsl hxl] at he hsp
    obtain ⟨b2, o2, hB2, A2, c2, hr2, hc2⟩ := hB.list hsl
    obtain ⟨b3, o3, hA3, hc3⟩ := hr2.int hxl
    refine s_idx hB2 (by omega) (by omega) ?_
    simp -implicitDefEqProofs only [go_sem, Nat.reduceBEq, Nat.reduceAdd, Nat.reduceSub, Nat.reduceMul, Nat.reduceLeDiff, reduceCtorEq, ↓reduceIte, Int.reduceLT, Int.reduceLE, Int.reduceEq, Int.reduceNe]
    refine s_ld0 (hc2 _ (lk_r _ _)) (by simp) (by simp) ?_
    simp -implicitDefEqProofs only [go_sem, Nat.reduceBEq, Nat.reduceAdd, Nat.reduceSub, Nat.reduceMul, Nat.reduceLeDiff, reduceCtorEq, ↓reduceIte, Int.reduceLT, Int.reduceLE, Int.reduceEq, Int.reduceNe]
    refine s_idx hA3 (by omega) (by omega) ?_
    simp -implicitDefEqProofs only [go_sem, Nat.reduceBEq, Nat.reduceAdd, Nat.reduceSub, Nat.reduceMul, Nat.reduceLeDiff, reduceCtorEq, ↓reduceIte, Int.reduceLT, Int.reduceLE, Int.reduceEq, Int.reduceNe]
    refine s_ld0 (hc3 _ (lk_r _ _)) (by simp) (by simp) ?_
    simp -implicitDefEqProofs only [go_sem, Nat.reduceBEq, Nat.reduceAdd, Nat.reduceSub, Nat.reduceMul, Nat.reduceLeDiff, reduceCtorEq, ↓reduceIte, Int.reduceLT, Int.reduceLE, Int.reduceEq, Int.reduceNe]
    simp (disch := omega) only [wrap_id]
    exact ⟨f - 1, by omega, Up.here ⟨rfl, k + 1, _, rfl, by omega, hsp.1, hsp.2, he⟩⟩
  · have hk : k = w.length := by omega
    rw [hk, List.drop_length] at he
    simp only [endsD] at he
    by_cases h : 0 ≤ s
    · obtain ⟨sn, rfl⟩ : ∃ n : Nat, s = n := ⟨s.toNat, by omega⟩
      have hsl : sn < d.ac.length := by have := V.acc; omega
      have hac : accD d sn = d.ac[sn] := by simp [accD, hsl]
      obtain ⟨b3, o3, hA3, hc3⟩ := hA.int hsl
      have hd : decide ((0 : Int) ≤ (sn : Int)) = true := by simp
      simp only [hd]
      simp -implicitDefEqProofs only [go_sem, Nat.reduceBEq, Nat.reduceAdd, Nat.reduceSub, Nat.reduceMul, Nat.reduceLeDiff, reduceCtorEq, ↓reduceIte, Int.reduceLT, Int.reduceLE, Int.reduceEq, Int.reduceNe]
      refine s_idx hA3 (by omega) (by omega) ?_
      simp -implicitDefEqProofs only [go_sem, Nat.reduceBEq, Nat.reduceAdd, Nat.reduceSub, Nat.reduceMul, Nat.reduceLeDiff, reduceCtorEq, ↓reduceIte, Int.reduceLT, Int.reduceLE, Int.reduceEq, Int.reduceNe]
      refine s_ld0 (hc3 _ (lk_r _ _)) (by simp) (by simp) ?_
      simp -implicitDefEqProofs only [go_sem, Nat.reduceBEq, Nat.reduceAdd, Nat.reduceSub, Nat.reduceMul, Nat.reduceLeDiff, reduceCtorEq, ↓reduceIte, Int.reduceLT, Int.reduceLE, Int.reduceEq, Int.reduceNe]
      refine Up.here ?_
      subst hR
      rw [hac] at he
      exact ⟨rfl, by rw [he]; simp⟩
    · have hd : decide (0 ≤ s) = false := by simpa using h
      simp only [hd]
      simp -implicitDefEqProofs only [go_sem, Nat.reduceBEq, Nat.reduceAdd, Nat.reduceSub, Nat.reduceMul, Nat.reduceLeDiff, reduceCtorEq, ↓reduceIte, Int.reduceLT, Int.reduceLE, Int.reduceEq, Int.reduceNe]
      refine s_idxg (b := 0) (o := 0) (by simp) ?_
      simp -implicitDefEqProofs only [go_sem, Nat.reduceBEq, Nat.reduceAdd, Nat.reduceSub, Nat.reduceMul, Nat.reduceLeDiff, reduceCtorEq, ↓reduceIte, Int.reduceLT, Int.reduceLE, Int.reduceEq, Int.reduceNe]
      refine s_ldg0 (cs := [.int .i64 0]) (by simp) (by simp) (by simp) (by simp) ?_
      simp -implicitDefEqProofs only [go_sem, Nat.reduceBEq, Nat.reduceAdd, Nat.reduceSub, Nat.reduceMul, Nat.reduceLeDiff, reduceCtorEq, ↓reduceIte, Int.reduceLT, Int.reduceLE, Int.reduceEq, Int.reduceNe]
      refine Up.here ?_
      subst hR
      exact ⟨rfl, by rw [he, hd]; simp⟩
end
/-- the cells of a list of numbers that is not empty -/
theorem ints_at {L : Mem} {A : Option Addr} {c : Nat} {l : List Int} (hA : SlOk L A c l) (h0 : 0 < l.length) : ∃ b o, A = some ⟨b, o, none⟩ ∧ ∀ j : Nat, j < l.length → ∀ Γ : Ctx, Mem.le L (lk Γ) → Cells Γ b (o + j) [.int .i64 (l.getD j 0)] := by
  obtain ⟨b, o, he, _⟩ := hA.int h0
  refine ⟨b, o, he, fun j hj Γ hΓ => ?_⟩
  obtain ⟨b', o', he', hc⟩ := hA.int hj
  rw [he] at he'
  simp only [Option.some.injEq, Addr.mk.injEq, and_true] at he'
  obtain ⟨rfl, rfl⟩ := he'
  rw [show l.getD j 0 = l[j] by simp [hj]]
  exact hc Γ hΓ
end Go.Proofs.Ytniobbepliknmaa.V
/- Grids that are made: parlref5.grid walked; no condition. -/
namespace Go.Proofs.Ytniobbepliknmaa.V
open Go
set_option linter.unusedVariables false
set_option linter.unusedSimpArgs false
attribute [local go_sem] e_seq e_region e_quiet e_join e_loop e_cond e_block e_exit e_ret e_skip e_fin e_kseq e_snrm e_sret e_sex e_bnrm e_bret e_bex e_rnrm e_rret e_res e_condC e_nil e_g e_mv g_mv e_pick g_pick pickC_eq e_ibin g_ibin ibinC_eq e_sbin g_sbin e_beq g_beq beqC_eq e_nilq g_nilq nilqC_sl nilqC_pt nilqC_mp e_un g_un unC_not unC_neg e_conv g_conv convC_eq e_fld g_fld fldC_ref fldC_ptr e_nilCheck g_nilCheck nilCheckC_ref nilCheckC_ptr nilCheckC_fun e_field g_field fieldC_eq e_len g_len lenC_sl lenC_str e_extract g_extract extractC_eq e_mkFunc e_build g_build e_idiv g_idiv idivC_eq e_ishift g_ishift ishiftC_eq e_idx g_idx e_idxA g_idxA e_load g_load e_loadB g_loadB atB_ref atB_v g_mkFunc loadC_ref loadC_ptr loadB_eq e_slc g_slc e_box boxC_loc boxC_esc e_alloc allocC_loc allocC_esc e_buildS e_store storeC_ref storeC_ptr storeB_eq e_append e_appz e_mk mkC_eq e_call callC_eq e_fn g_fn fnC_eq fnV_min' fnV_max' fnV_rune' e_q g_q e_a e_n g_call g_box g_alloc g_buildS g_store g_append g_mk g_a g_n g_dead e_dead e_callK e_drawn e_tree e_finJ e_tk e_tfin e_tno e_nbt_q e_nbt_qn e_nbt_a e_nbt_an e_nbt_fin e_drawnB e_bxb_nil e_bxb e_stB_none e_stB_some boxSt_store bs_mv bs_pick bs_ibin bs_idiv bs_ishift bs_sbin bs_beq bs_nilq bs_un bs_conv bs_box bs_alloc bs_build bs_buildS bs_load bs_fld bs_nilCheck bs_idx bs_idxA bs_field bs_slc bs_len bs_append bs_appz bs_mk bs_call bs_extract bs_mkFunc bs_fn bs_q bs_a bs_n bs_loadB bs_dead isBox_box e_early_nil e_early_t e_early_f e_nob_nil e_nob_none e_nob_some isBox_dead isBox_v isBox_ref e_dnil e_dk e_ek e_finB vcOps_vc1 e_dcons e_tq e_ekt e_tearly e_talt e_dearly look_nil look_c proj_nil proj_c looks_nil looks_c zip_nil zip_c val_tmp val_const val_func slv_v slv_box slv_ref slot_tmp slot_const slot_func slotL_v slotL_box slotL_ref put_some put_none updBox_c boxSet_box gd_eq slotVals_nil slotVals_c slotVals_b boxV_box boxOn_box slotsOn_nil slotsOn_c slotsOn_b resV_one resV_two vals_nil vals_c allOn_nil allOn_c partOn_nil partOn_c partVals_nil partVals_c fits_nil fits_c fillL_nil fillL_c mkv_one mkv_agg cellsV_agg cellsV_int cellsV_bool cellsV_slice cellsV_string cellsV_pointer cellsV_func cellsV_nilf cellsV_map one'_nil one'_c oc_int oc_bool oc_slice oc_string oc_pointer oc_func oc_nilf oc_map setC_eq iv_add iv_sub iv_mul iv_eql iv_neq iv_lss iv_leq iv_gtr iv_geq iok_add iok_sub iok_mul iok_eql iok_neq iok_lss iok_leq iok_gtr iok_geq pickV_bool args0_nil args0_c bnd_none bnd_some imp_bt imp_bf imp_ebt imp_ebf imp_eb1 imp_np imp_pp beq_tt beq_tf beq_ft beq_ff cond_or cond_and e_round e_meet Int.le_refl Int.toNat_zero decide_true decide_false Bool.or_false Bool.false_or Bool.true_or Bool.or_true Bool.and_false Bool.false_and Bool.bne_false Bool.bne_true beq_iff_eq Int.cast_ofNat_Int not_false_eq_true not_true_eq_false false_and and_false false_implies true_implies true_and and_true Bool.true_and Bool.and_true Bool.not_true Bool.not_false forall_const implies_true List.take_zero List.drop_zero List.take_succ_cons List.drop_succ_cons List.take_nil List.drop_nil List.length_cons List.length_nil List.nil_append List.append_nil List.cons_append Int.toNat_natCast decide_eq_true_eq decide_eq_false_iff_not cond_true cond_false and_self List.getElem?_cons_zero List.getElem?_cons_succ List.set_cons_zero List.set_cons_succ Option.some.injEq exists_eq_left' Nat.zero_add Nat.add_zero Nat.mul_one imp_self true_or or_true or_false false_or Bool.or_eq_true Bool.or_eq_false_iff Bool.and_eq_true Bool.and_eq_false_iff Bool.not_eq_true' Bool.not_eq_false'

/-- m rows of n noughts, of which k are made -/
def part {α : Type} (z : α) (m n k : Nat) : List (List α) := List.replicate k (List.replicate n z) ++ List.replicate (m - k) []
theorem part_len {α : Type} (z : α) {m n k : Nat} (h : k ≤ m) : (part z m n k).length = m := by simp [part]; omega
theorem part_set {α : Type} (z : α) {m n k : Nat} (h : k < m) : (part z m n k).set k (List.replicate n z) = part z m n (k + 1) := by
  unfold part
  obtain ⟨d, hd⟩ : ∃ d, m - k = d + 1 := ⟨m - k - 1, by omega⟩
  rw [hd, show m - (k + 1) = d by omega, List.replicate_succ, List.set_append_right _ _ (by simp), List.replicate_succ']
  simp

end Go.Proofs.Ytniobbepliknmaa.V
/- Lengths of words: lens.sums walked; no condition. -/
namespace Go.Proofs.Ytniobbepliknmaa.V
open Go
set_option linter.unusedVariables false
set_option linter.unusedSimpArgs false
attribute [local go_sem] e_seq e_region e_quiet e_join e_loop e_cond e_block e_exit e_ret e_skip e_fin e_kseq e_snrm e_sret e_sex e_bnrm e_bret e_bex e_rnrm e_rret e_res e_condC e_nil e_g e_mv g_mv e_pick g_pick pickC_eq e_ibin g_ibin ibinC_eq e_sbin g_sbin e_beq g_beq beqC_eq e_nilq g_nilq nilqC_sl nilqC_pt nilqC_mp e_un g_un unC_not unC_neg e_conv g_conv convC_eq e_fld g_fld fldC_ref fldC_ptr e_nilCheck g_nilCheck nilCheckC_ref nilCheckC_ptr nilCheckC_fun e_field g_field fieldC_eq e_len g_len lenC_sl lenC_str e_extract g_extract extractC_eq e_mkFunc e_build g_build e_idiv g_idiv idivC_eq e_ishift g_ishift ishiftC_eq e_idx g_idx e_idxA g_idxA e_load g_load e_loadB g_loadB atB_ref atB_v g_mkFunc loadC_ref loadC_ptr loadB_eq e_slc g_slc e_box boxC_loc boxC_esc e_alloc allocC_loc allocC_esc e_buildS e_store storeC_ref storeC_ptr storeB_eq e_append e_appz e_mk mkC_eq e_call callC_eq e_fn g_fn fnC_eq fnV_min' fnV_max' fnV_rune' e_q g_q e_a e_n g_call g_box g_alloc g_buildS g_store g_append g_mk g_a g_n g_dead e_dead e_callK e_drawn e_tree e_finJ e_tk e_tfin e_tno e_nbt_q e_nbt_qn e_nbt_a e_nbt_an e_nbt_fin e_drawnB e_bxb_nil e_bxb e_stB_none e_stB_some boxSt_store bs_mv bs_pick bs_ibin bs_idiv bs_ishift bs_sbin bs_beq bs_nilq bs_un bs_conv bs_box bs_alloc bs_build bs_buildS bs_load bs_fld bs_nilCheck bs_idx bs_idxA bs_field bs_slc bs_len bs_append bs_appz bs_mk bs_call bs_extract bs_mkFunc bs_fn bs_q bs_a bs_n bs_loadB bs_dead isBox_box e_early_nil e_early_t e_early_f e_nob_nil e_nob_none e_nob_some isBox_dead isBox_v isBox_ref e_dnil e_dk e_ek e_finB vcOps_vc1 e_dcons e_tq e_ekt e_tearly e_talt e_dearly look_nil look_c proj_nil proj_c looks_nil looks_c zip_nil zip_c val_tmp val_const val_func slv_v slv_box slv_ref slot_tmp slot_const slot_func slotL_v slotL_box slotL_ref put_some put_none updBox_c boxSet_box gd_eq slotVals_nil slotVals_c slotVals_b boxV_box boxOn_box slotsOn_nil slotsOn_c slotsOn_b resV_one resV_two vals_nil vals_c allOn_nil allOn_c partOn_nil partOn_c partVals_nil partVals_c fits_nil fits_c fillL_nil fillL_c mkv_one mkv_agg cellsV_agg cellsV_int cellsV_bool cellsV_slice cellsV_string cellsV_pointer cellsV_func cellsV_nilf cellsV_map one'_nil one'_c oc_int oc_bool oc_slice oc_string oc_pointer oc_func oc_nilf oc_map setC_eq iv_add iv_sub iv_mul iv_eql iv_neq iv_lss iv_leq iv_gtr iv_geq iok_add iok_sub iok_mul iok_eql iok_neq iok_lss iok_leq iok_gtr iok_geq pickV_bool args0_nil args0_c bnd_none bnd_some imp_bt imp_bf imp_ebt imp_ebf imp_eb1 imp_np imp_pp beq_tt beq_tf beq_ft beq_ff cond_or cond_and e_round e_meet Int.le_refl Int.toNat_zero decide_true decide_false Bool.or_false Bool.false_or Bool.true_or Bool.or_true Bool.and_false Bool.false_and Bool.bne_false Bool.bne_true beq_iff_eq Int.cast_ofNat_Int not_false_eq_true not_true_eq_false false_and and_false false_implies true_implies true_and and_true Bool.true_and Bool.and_true Bool.not_true Bool.not_false forall_const implies_true List.take_zero List.drop_zero List.take_succ_cons List.drop_succ_cons List.take_nil List.drop_nil List.length_cons List.length_nil List.nil_append List.append_nil List.cons_append Int.toNat_natCast decide_eq_true_eq decide_eq_false_iff_not cond_true cond_false and_self List.getElem?_cons_zero List.getElem?_cons_succ List.set_cons_zero List.set_cons_succ Option.some.injEq exists_eq_left' Nat.zero_add Nat.add_zero Nat.mul_one imp_self true_or or_true or_false false_or Bool.or_eq_true Bool.or_eq_false_iff Bool.and_eq_true Bool.and_eq_false_iff Bool.not_eq_true' Bool.not_eq_false'

/-- a row that tells which -/
def Tells (n : Nat) (xs : List Bool) (p : Nat → Prop) : Prop := xs.length = n + 1 ∧ ∀ m (h : m < xs.length), xs[m] = true ↔ p m
theorem Tells.congr {n : Nat} {xs : List Bool} {p q : Nat → Prop} (h : Tells n xs p) (hq : ∀ m, m ≤ n → (p m ↔ q m)) : Tells n xs q := ⟨h.1, fun m hm => (h.2 m hm).trans (hq m (by have := h.1; omega))⟩
theorem Tells.set {n : Nat} {xs : List Bool} {p q : Nat → Prop} (h : Tells n xs p) {i : Nat} (hi : i < xs.length) {x : Bool} (hx : x = true ↔ q i) (hq : ∀ m, m ≠ i → (p m ↔ q m)) : Tells n (xs.set i x) q := by
  refine ⟨by simpa using h.1, fun m hm => ?_⟩
  rw [List.getElem_set]
  split
  · rename_i e; subst e; exact hx
  · rename_i e; exact (h.2 m (by simpa using hm)).trans (hq m fun q => e q.symm)

theorem Arr.mono {α : Type} [Sc α] {g g' : PH} {b : Nat} {T : TypeId} {xs : List α} (h : Arr g b T xs) (hl : Mem.le (lk [g]) (lk [g'])) : Arr g' b T xs := lk_one.1 (hl _ _ (lk_one.2 h))
theorem Arr.bool {g : PH} {b : Nat} {T : TypeId} {xs : List Bool} (h : Arr g b T xs) {i : Nat} (hi : i < xs.length) {Γ : Ctx} (hg : g ∈ Γ) : Cells Γ b i [.bool xs[i]] := h.cell hi hg
end Go.Proofs.Ytniobbepliknmaa.V
/- Lengths of words: the plain law; no condition. -/
namespace Go.Proofs.Ytniobbepliknmaa.V
open Go
set_option linter.unusedVariables false
set_option linter.unusedSimpArgs false

/-- a grammar that is accepted -/
structure VG (g : Gr) : Prop where
  ts : 1 ≤ g.ts ∧ g.ts ≤ 8
  ns : 1 ≤ g.ns ∧ g.ns ≤ 10
  st : 0 ≤ g.st ∧ g.st < g.ns
  len : g.rs.length ≤ 32
  left : ∀ r ∈ g.rs, 0 ≤ r.l ∧ r.l < g.ns
  right : ∀ r ∈ g.rs, r.r.length ≤ 4
  sym : ∀ r ∈ g.rs, ∀ s ∈ r.r, 0 ≤ s.n ∧ (s.t = true → s.n < g.ts) ∧ (s.t = false → s.n < g.ns)
end Go.Proofs.Ytniobbepliknmaa.V
/- Items that are added: parlref5.lengthsOf's inner function walked; no condition. -/
namespace Go.Proofs.Ytniobbepliknmaa.V
open Go
set_option linter.unusedVariables false
set_option linter.unusedSimpArgs false
attribute [local go_sem] e_seq e_region e_quiet e_join e_loop e_cond e_block e_exit e_ret e_skip e_fin e_kseq e_snrm e_sret e_sex e_bnrm e_bret e_bex e_rnrm e_rret e_res e_condC e_nil e_g e_mv g_mv e_pick g_pick pickC_eq e_ibin g_ibin ibinC_eq e_sbin g_sbin e_beq g_beq beqC_eq e_nilq g_nilq nilqC_sl nilqC_pt nilqC_mp e_un g_un unC_not unC_neg e_conv g_conv convC_eq e_fld g_fld fldC_ref fldC_ptr e_nilCheck g_nilCheck nilCheckC_ref nilCheckC_ptr nilCheckC_fun e_field g_field fieldC_eq e_len g_len lenC_sl lenC_str e_extract g_extract extractC_eq e_mkFunc e_build g_build e_idiv g_idiv idivC_eq e_ishift g_ishift ishiftC_eq e_idx g_idx e_idxA g_idxA e_load g_load e_loadB g_loadB atB_ref atB_v g_mkFunc loadC_ref loadC_ptr loadB_eq e_slc g_slc e_box boxC_loc boxC_esc e_alloc allocC_loc allocC_esc e_buildS e_store storeC_ref storeC_ptr storeB_eq e_append e_appz e_mk mkC_eq e_call callC_eq e_fn g_fn fnC_eq fnV_min' fnV_max' fnV_rune' e_q g_q e_a e_n g_call g_box g_alloc g_buildS g_store g_append g_mk g_a g_n g_dead e_dead e_callK e_drawn e_tree e_finJ e_tk e_tfin e_tno e_nbt_q e_nbt_qn e_nbt_a e_nbt_an e_nbt_fin e_drawnB e_bxb_nil e_bxb e_stB_none e_stB_some boxSt_store bs_mv bs_pick bs_ibin bs_idiv bs_ishift bs_sbin bs_beq bs_nilq bs_un bs_conv bs_box bs_alloc bs_build bs_buildS bs_load bs_fld bs_nilCheck bs_idx bs_idxA bs_field bs_slc bs_len bs_append bs_appz bs_mk bs_call bs_extract bs_mkFunc bs_fn bs_q bs_a bs_n bs_loadB bs_dead isBox_box e_early_nil e_early_t e_early_f e_nob_nil e_nob_none e_nob_some isBox_dead isBox_v isBox_ref e_dnil e_dk e_ek e_finB vcOps_vc1 e_dcons e_tq e_ekt e_tearly e_talt e_dearly look_nil look_c proj_nil proj_c looks_nil looks_c zip_nil zip_c val_tmp val_const val_func slv_v slv_box slv_ref slot_tmp slot_const slot_func slotL_v slotL_box slotL_ref put_some put_none updBox_c boxSet_box gd_eq slotVals_nil slotVals_c slotVals_b boxV_box boxOn_box slotsOn_nil slotsOn_c slotsOn_b resV_one resV_two vals_nil vals_c allOn_nil allOn_c partOn_nil partOn_c partVals_nil partVals_c fits_nil fits_c fillL_nil fillL_c mkv_one mkv_agg cellsV_agg cellsV_int cellsV_bool cellsV_slice cellsV_string cellsV_pointer cellsV_func cellsV_nilf cellsV_map one'_nil one'_c oc_int oc_bool oc_slice oc_string oc_pointer oc_func oc_nilf oc_map setC_eq iv_add iv_sub iv_mul iv_eql iv_neq iv_lss iv_leq iv_gtr iv_geq iok_add iok_sub iok_mul iok_eql iok_neq iok_lss iok_leq iok_gtr iok_geq pickV_bool args0_nil args0_c bnd_none bnd_some imp_bt imp_bf imp_ebt imp_ebf imp_eb1 imp_np imp_pp beq_tt beq_tf beq_ft beq_ff cond_or cond_and e_round e_meet Int.le_refl Int.toNat_zero decide_true decide_false Bool.or_false Bool.false_or Bool.true_or Bool.or_true Bool.and_false Bool.false_and Bool.bne_false Bool.bne_true beq_iff_eq Int.cast_ofNat_Int not_false_eq_true not_true_eq_false false_and and_false false_implies true_implies true_and and_true Bool.true_and Bool.and_true Bool.not_true Bool.not_false forall_const implies_true List.take_zero List.drop_zero List.take_succ_cons List.drop_succ_cons List.take_nil List.drop_nil List.length_cons List.length_nil List.nil_append List.append_nil List.cons_append Int.toNat_natCast decide_eq_true_eq decide_eq_false_iff_not cond_true cond_false and_self List.getElem?_cons_zero List.getElem?_cons_succ List.set_cons_zero List.set_cons_succ Option.some.injEq exists_eq_left' Nat.zero_add Nat.add_zero Nat.mul_one imp_self true_or or_true or_false false_or Bool.or_eq_true Bool.or_eq_false_iff Bool.and_eq_true Bool.and_eq_false_iff Bool.not_eq_true' Bool.not_eq_false'

theorem KT.comp {P : Program} {k : TypeId} {α γ : Type} {eK : α → Value} {good : α → Prop} (T : KT P k eK good) (f : γ → α) (hf : ∀ a b, f a = f b → a = b) : KT P k (fun x => eK (f x)) (fun x => good (f x)) where
  inj a b h := hf a b (T.inj _ _ h)
  check w em a h := T.check w em _ h
  find w a h es he := T.find w _ h es fun e hm => let ⟨b, q1, q2⟩ := he e hm; ⟨f b, q1, q2⟩
  stays w a h := T.stays w _ h
theorem cells_two {b : Nat} {T : TypeId} {cs : List Value} {g : PH} {Γ : Ctx} : Cells (g :: one b (.cells cs.toArray T) :: Γ) b 0 cs := cells_lk (lk_tail lk_head)
end Go.Proofs.Ytniobbepliknmaa.V
/- Lengths of words, item by item: the plain law; no condition. -/
namespace Go.Proofs.Ytniobbepliknmaa.V
open Go
set_option linter.unusedVariables false
set_option linter.unusedSimpArgs false

theorem nodup_bound : ∀ (M : Nat) (l : List Nat), l.Nodup → (∀ x ∈ l, x < M) → l.length ≤ M
  | 0, [], _, _ => Nat.le_refl _
  | 0, x :: l, _, h => by have := h x (by simp); omega
  | M + 1, l, hn, h => by
    have h1 := nodup_bound M (l.erase M) (hn.erase M) (fun x hx => by
      rw [hn.mem_erase_iff] at hx
      have := h x hx.2
      have := hx.1
      omega)
    rw [List.length_erase] at h1
    split at h1 <;> omega
end Go.Proofs.Ytniobbepliknmaa.V
/- Two automata side by side, the least word on which they differ: the plain law; no condition. -/
namespace Go.Proofs.Ytniobbepliknmaa.V
open Go
set_option linter.unusedVariables false
set_option linter.unusedSimpArgs false

/-! words, shorter ones first, then smaller ones -/
def lexLt : List Int → List Int → Prop
  | x :: v, y :: w => x < y ∨ (x = y ∧ lexLt v w)
  | _, _ => False
def LLt (v w : List Int) : Prop := v.length < w.length ∨ (v.length = w.length ∧ lexLt v w)
def LLe (v w : List Int) : Prop := v = w ∨ LLt v w
theorem lexLt_irr : ∀ v, ¬ lexLt v v
  | [] => id
  | x :: v => by simp only [lexLt, not_or, not_and]; exact ⟨by omega, fun _ => lexLt_irr v⟩
theorem lexLt_trans : ∀ {u v w : List Int}, lexLt u v → lexLt v w → lexLt u w
  | [], v, w, h, _ => by cases v <;> exact h.elim
  | x :: u, [], w, h, _ => h.elim
  | x :: u, y :: v, [], _, h => h.elim
  | x :: u, y :: v, z :: w, h1, h2 => by
    simp only [lexLt] at *
    rcases h1 with h1 | ⟨rfl, h1⟩
    · rcases h2 with h2 | ⟨rfl, h2⟩
      · exact .inl (by omega)
      · exact .inl h1
    · rcases h2 with h2 | ⟨rfl, h2⟩
      · exact .inl h2
      · exact .inr ⟨rfl, lexLt_trans h1 h2⟩
theorem lexLt_app : ∀ {v w : List Int} (a b : List Int), lexLt v w → v.length = w.length → lexLt (v ++ a) (w ++ b)
  | [], w, a, b, h, _ => by cases w <;> exact h.elim
  | x :: v, [], a, b, h, _ => h.elim
  | x :: v, y :: w, a, b, h, hl => by
    simp only [lexLt, List.cons_append] at *
    rcases h with h | ⟨rfl, h⟩
    · exact .inl h
    · exact .inr ⟨rfl, lexLt_app a b h (by simpa using hl)⟩
theorem lexLt_snoc : ∀ (v : List Int) {a b : Int}, a < b → lexLt (v ++ [a]) (v ++ [b])
  | [], a, b, h => by simp [lexLt, h]
  | x :: v, a, b, h => by simp only [lexLt, List.cons_append, true_and]; exact .inr (lexLt_snoc v h)
theorem LLt.trans {u v w : List Int} (h1 : LLt u v) (h2 : LLt v w) : LLt u w := by
  rcases h1 with h1 | ⟨h1, q1⟩
  · rcases h2 with h2 | ⟨h2, q2⟩
    · exact .inl (by omega)
    · exact .inl (by omega)
  · rcases h2 with h2 | ⟨h2, q2⟩
    · exact .inl (by omega)
    · exact .inr ⟨by omega, lexLt_trans q1 q2⟩
theorem LLe.trans {u v w : List Int} (h1 : LLe u v) (h2 : LLe v w) : LLe u w := by
  rcases h1 with rfl | h1
  · exact h2
  · rcases h2 with rfl | h2
    · exact .inr h1
    · exact .inr (h1.trans h2)
theorem LLt.irr {v : List Int} : ¬ LLt v v := by
  rintro (h | ⟨_, h⟩)
  · omega
  · exact lexLt_irr v h
theorem LLe.anti {v w : List Int} (h1 : LLe v w) (h2 : LLe w v) : v = w := by
  rcases h1 with h | h1
  · exact h
  · rcases h2 with h | h2
    · exact h.symm
    · exact absurd (h1.trans h2) LLt.irr
theorem LLe.pre (v u : List Int) : LLe v (v ++ u) := by
  cases u with
  | nil => exact .inl (by simp)
  | cons x u => exact .inr (.inl (by simp))
theorem LLt.snoc {v w : List Int} (h : LLt v w) (a b : Int) : LLt (v ++ [a]) (w ++ [b]) := by
  rcases h with h | ⟨h, q⟩
  · exact .inl (by simp; omega)
  · exact .inr ⟨by simp; omega, lexLt_app _ _ q h⟩
theorem LLt.last (v : List Int) {a b : Int} (h : a < b) : LLt (v ++ [a]) (v ++ [b]) := .inr ⟨by simp, lexLt_snoc v h⟩
theorem LLe.snoc {v w : List Int} (h : LLe v w) (a : Int) : LLe (v ++ [a]) (w ++ [a]) := by
  rcases h with rfl | h
  · exact .inl rfl
  · exact .inr (h.snoc a a)

/-! pairs of states -/
def nxt (d : Da) (s x : Int) : Int := if s < 0 then -1 else stepD d s x
def accP (d : Da) (s : Int) : Bool := decide (0 ≤ s) && decide (0 ≤ accD d s)
def goD (d : Da) (s : Int) (w : List Int) : Int := w.foldl (nxt d) s
theorem ends_go {d : Da} : ∀ {w : List Int} {s : Int}, endsD d s w = accP d (goD d s w)
  | [], s => rfl
  | x :: w, s => by
    simp only [endsD, goD, List.foldl_cons]
    split
    · rename_i h
      have e : nxt d s x = -1 := if_pos h
      rw [e]
      have : ∀ w : List Int, List.foldl (nxt d) (-1) w = -1 := fun w => by
        induction w with
        | nil => rfl
        | cons y w ih => rw [List.foldl_cons]; exact ih
      rw [this]
      simp [accP]
    · rename_i h
      have e : nxt d s x = stepD d s x := if_neg h
      rw [e]
      exact ends_go
theorem go_snoc (d : Da) (s : Int) (w : List Int) (x : Int) : goD d s (w ++ [x]) = nxt d (goD d s w) x := by simp [goD]
theorem go_cons (d : Da) (s : Int) (w : List Int) (x : Int) : goD d s (x :: w) = goD d (nxt d s x) w := rfl
theorem nxt_rng {d : Da} (V : VD d) {s x : Int} (hs : -1 ≤ s ∧ s < d.nx.length) (hx : 0 ≤ x ∧ x < colsD d) : -1 ≤ nxt d s x ∧ nxt d s x < d.nx.length := by
  unfold nxt
  split
  · omega
  · exact V.step (by omega) hx
theorem go_rng {d : Da} (V : VD d) : ∀ {w : List Int} {s : Int}, -1 ≤ s ∧ s < d.nx.length → okW d w → -1 ≤ goD d s w ∧ goD d s w < d.nx.length
  | [], s, h, _ => h
  | x :: w, s, h, hw => by
    rw [go_cons]
    exact go_rng V (nxt_rng V h (hw x (by simp))) fun y hy => hw y (by simp [hy])
/-- after this word just one of them accepts -/
def Dif (x y : Da) (w : List Int) : Prop := accP x (goD x x.st w) ≠ accP y (goD y y.st w)
def LeastW (x y : Da) (w : List Int) : Prop := okW x w ∧ Dif x y w ∧ ∀ v, okW x v → Dif x y v → LLe w v
def NoW (x y : Da) : Prop := ∀ v, okW x v → ¬ Dif x y v
theorem LeastW.same {x y : Da} {v w : List Int} (h : LeastW x y v) (h' : LeastW x y w) : v = w := (h.2.2 w h'.1 h'.2.1).anti (h'.2.2 v h.1 h.2.1)

/-! pair by pair -/
structure PR where
  a : Int
  b : Int
  f : Int
  c : Int
def PR.key (r : PR) : List Int := [r.a, r.b]
structure BFS (x y : Da) (R : List PR) (Ws : List (List Int)) (i c : Nat) : Prop where
  len : Ws.length = R.length
  zero : R[0]? = some ⟨x.st, y.st, -1, 0⟩ ∧ Ws[0]? = some []
  chain : ∀ (j : Nat) r, R[j]? = some r → 0 < j → ∃ m : Nat, r.f = m ∧ m < j ∧ ∃ u, Ws[m]? = some u ∧ Ws[j]? = some (u ++ [r.c])
  st : ∀ (j : Nat) r w, R[j]? = some r → Ws[j]? = some w → r.a = goD x x.st w ∧ r.b = goD y y.st w ∧ okW x w
  inc : ∀ (j k : Nat) v w, j < k → Ws[j]? = some v → Ws[k]? = some w → LLt v w
  nod : (R.map PR.key).Nodup
  cl : ∀ (j : Nat) r w, R[j]? = some r → Ws[j]? = some w → j < i → ∀ s : Nat, (s : Int) < colsD x → ∃ (m : Nat) (r' : PR) (w' : List Int), R[m]? = some r' ∧ Ws[m]? = some w' ∧ r'.a = nxt x r.a s ∧ r'.b = nxt y r.b s ∧ LLe w' (w ++ [(s : Int)])
  cli : ∀ r w, R[i]? = some r → Ws[i]? = some w → ∀ s : Nat, s < c → ∃ (m : Nat) (r' : PR) (w' : List Int), R[m]? = some r' ∧ Ws[m]? = some w' ∧ r'.a = nxt x r.a s ∧ r'.b = nxt y r.b s ∧ LLe w' (w ++ [(s : Int)])
  last : ∀ wi, Ws[i]? = some wi → ∀ w ∈ Ws, LLt w (wi ++ [(c : Int)])
  nd : ∀ (j : Nat) r, R[j]? = some r → j < i → accP x r.a = accP y r.b
theorem BFS.init (x y : Da) : BFS x y [⟨x.st, y.st, -1, 0⟩] [[]] 0 0 where
  len := rfl
  zero := ⟨rfl, rfl⟩
  chain j r h h0 := by
    cases j with
    | zero => omega
    | succ j => simp at h
  st j r w h h' := by
    cases j with
    | zero => simp at h h'; subst h h'; exact ⟨rfl, rfl, fun x hx => by cases hx⟩
    | succ j => simp at h
  inc j k v w hjk h h' := by
    cases k with
    | zero => omega
    | succ k => simp at h'
  nod := by simp
  cl j _ _ _ _ h := by omega
  cli r w _ _ s h := by omega
  last wi h w hw := by
    simp at h hw
    subst h hw
    exact .inl (by simp)
  nd j _ _ h := by omega
theorem BFS.at' {x y : Da} {R : List PR} {Ws : List (List Int)} {i c : Nat} (h : BFS x y R Ws i c) {j : Nat} (hj : j < R.length) : ∃ w, Ws[j]? = some w := ⟨Ws[j]'(by rw [h.len]; exact hj), List.getElem?_eq_getElem _⟩
/-- the entry is worked on: its next symbol -/
theorem BFS.seen {x y : Da} {R : List PR} {Ws : List (List Int)} {i c : Nat} (h : BFS x y R Ws i c) {r : PR} (hr : R[i]? = some r) (hs : [nxt x r.a c, nxt y r.b c] ∈ R.map PR.key) : BFS x y R Ws i (c + 1) := by
  obtain ⟨r', hr', hk⟩ := List.mem_map.1 hs
  obtain ⟨m, hm⟩ := List.getElem?_of_mem hr'
  obtain ⟨w', hw'⟩ := h.at' (List.getElem?_eq_some_iff.1 hm).1
  simp only [PR.key, List.cons.injEq, and_true] at hk
  refine { h with cli := fun r2 w hr2 hw s hsc => ?_, last := fun wi hwi w hw => ?_ }
  · by_cases e : s = c
    · subst e
      rw [hr] at hr2
      cases hr2
      exact ⟨m, r', w', hm, hw', hk.1, hk.2, .inr (h.last w hw w' (List.mem_of_getElem? hw'))⟩
    · exact h.cli r2 w hr2 hw s (by omega)
  · exact (h.last wi hwi w hw).trans (LLt.last wi (by omega))
theorem BFS.add {x y : Da} {R : List PR} {Ws : List (List Int)} {i c : Nat} (h : BFS x y R Ws i c) {r : PR} (hr : R[i]? = some r) (hc : (c : Int) < colsD x) (hs : [nxt x r.a c, nxt y r.b c] ∉ R.map PR.key) : ∃ w, BFS x y (R ++ [⟨nxt x r.a c, nxt y r.b c, i, c⟩]) (Ws ++ [w]) i (c + 1) := by
  have hil := (List.getElem?_eq_some_iff.1 hr).1
  obtain ⟨wi, hwi⟩ := h.at' hil
  have hl := h.len
  have hsti := h.st i r wi hr hwi
  have old : ∀ {α : Type} {l : List α} {z q : α} {j : Nat}, (l ++ [z])[j]? = some q → j < l.length → l[j]? = some q := fun h1 h2 => by rwa [List.getElem?_append_left h2] at h1
  have new : ∀ {α : Type} {l : List α} {z q : α} {j : Nat}, (l ++ [z])[j]? = some q → ¬ j < l.length → j = l.length ∧ q = z := fun h1 h2 => by
    rw [List.getElem?_append_right (by omega)] at h1
    rename_i l z q j
    have : j - l.length < 1 := by have := (List.getElem?_eq_some_iff.1 h1).1; simpa using this
    have e : j - l.length = 0 := by omega
    rw [e] at h1
    simp at h1
    exact ⟨by omega, h1.symm⟩
  have up : ∀ {α : Type} {l : List α} {z q : α} {j : Nat}, l[j]? = some q → (l ++ [z])[j]? = some q := fun h1 => by
    rw [List.getElem?_append_left (List.getElem?_eq_some_iff.1 h1).1]; exact h1
  refine ⟨wi ++ [(c : Int)], ?_⟩
  refine
    { len := by simp [hl]
      zero := ⟨up h.zero.1, up h.zero.2⟩
      chain := fun j q hq h0 => ?_
      st := fun j q w hq hw => ?_
      inc := fun j k v w hjk hv hw => ?_
      nod := ?_
      cl := fun j q w hq hw hji s hsc => ?_
      cli := fun q w hq hw s hsc => ?_
      last := fun w hw v hv => ?_
      nd := fun j q hq hji => h.nd j q (old hq (by omega)) hji }
  · by_cases hj : j < R.length
    · obtain ⟨m, h1, h2, u, h3, h4⟩ := h.chain j q (old hq hj) h0
      exact ⟨m, h1, h2, u, up h3, up h4⟩
    · obtain ⟨rfl, rfl⟩ := new hq hj
      exact ⟨i, rfl, hil, wi, up hwi, by rw [← hl]; simp⟩
  · by_cases hj : j < R.length
    · exact h.st j q w (old hq hj) (old hw (by omega))
    · obtain ⟨rfl, rfl⟩ := new hq hj
      obtain ⟨_, rfl⟩ := new hw (by omega)
      refine ⟨by rw [go_snoc, ← hsti.1], by rw [go_snoc, ← hsti.2.1], fun z hz => ?_⟩
      rcases List.mem_append.1 hz with hz | hz
      · exact hsti.2.2 z hz
      · simp at hz; subst hz; exact ⟨by omega, hc⟩
  · by_cases hk : k < R.length
    · exact h.inc j k v w hjk (old hv (by omega)) (old hw (by omega))
    · obtain ⟨_, rfl⟩ := new hw (by omega)
      exact h.last wi hwi v (List.mem_of_getElem? (old hv (by have := (List.getElem?_eq_some_iff.1 hw).1; simp at this; omega)))
  · rw [List.map_append, List.nodup_append]
    refine ⟨h.nod, by simp, ?_⟩
    rintro u hu v hv rfl
    simp only [List.map_cons, List.map_nil, List.mem_singleton] at hv
    subst hv
    exact hs hu
  · obtain ⟨m, r', w', h1, h2, h3⟩ := h.cl j q w (old hq (by omega)) (old hw (by omega)) hji s hsc
    exact ⟨m, r', w', up h1, up h2, h3⟩
  · have hq' := old hq hil
    have hw' := old hw (by omega)
    by_cases e : s = c
    · subst e
      rw [hr] at hq'
      cases hq'
      rw [hwi] at hw'
      cases hw'
      exact ⟨R.length, ⟨nxt x r.a s, nxt y r.b s, i, s⟩, wi ++ [(s : Int)], by simp, by rw [← hl]; simp, rfl, rfl, .inl rfl⟩
    · obtain ⟨m, r', w', h1, h2, h3⟩ := h.cli q w hq' hw' s (by omega)
      exact ⟨m, r', w', up h1, up h2, h3⟩
  · have hw' := old hw (by omega)
    rw [hwi] at hw'
    cases hw'
    rcases List.mem_append.1 hv with hv | hv
    · exact (h.last wi hwi v hv).trans (LLt.last wi (by omega))
    · simp at hv; subst hv; exact LLt.last wi (by omega)
theorem BFS.next {x y : Da} {R : List PR} {Ws : List (List Int)} {i : Nat} (h : BFS x y R Ws i (colsD x)) {r : PR} (hr : R[i]? = some r) (hnd : accP x r.a = accP y r.b) : BFS x y R Ws (i + 1) 0 := by
  have hil := (List.getElem?_eq_some_iff.1 hr).1
  obtain ⟨wi, hwi⟩ := h.at' hil
  refine { h with cl := fun j q w hq hw hji s hsc => ?_, cli := fun _ _ _ _ s h => by omega, last := fun w hw v hv => ?_, nd := fun j q hq hji => ?_ }
  · by_cases e : j = i
    · subst e; exact h.cli q w hq hw s (by omega)
    · exact h.cl j q w hq hw (by omega) s hsc
  · exact (h.last wi hwi v hv).trans ((h.inc i (i + 1) wi w (by omega) hwi hw).snoc _ _)
  · by_cases e : j = i
    · subst e; rw [hr] at hq; cases hq; exact hnd
    · exact h.nd j q hq (by omega)
/-- where each word leads -/
theorem BFS.reach {x y : Da} {R : List PR} {Ws : List (List Int)} {i : Nat} (h : BFS x y R Ws i 0) (v : List Int) : okW x v.reverse →
    (∃ (j : Nat) (r : PR) (w : List Int), j < i ∧ R[j]? = some r ∧ Ws[j]? = some w ∧ r.a = goD x x.st v.reverse ∧ r.b = goD y y.st v.reverse ∧ LLe w v.reverse) ∨
    (∃ (j : Nat) (w p u : List Int), i ≤ j ∧ Ws[j]? = some w ∧ v.reverse = p ++ u ∧ LLe w p) := by
  induction v with
  | nil =>
    intro _
    by_cases hi : 0 < i
    · exact .inl ⟨0, _, [], hi, h.zero.1, h.zero.2, rfl, rfl, .inl rfl⟩
    · exact .inr ⟨0, [], [], [], by omega, h.zero.2, rfl, .inl rfl⟩
  | cons c v ih =>
    intro hok
    rw [List.reverse_cons] at hok ⊢
    have hc := hok c (by simp)
    rcases ih (fun z hz => hok z (List.mem_append_left _ hz)) with ⟨j, r, w, hj, hr, hw, ha, hb, hle⟩ | ⟨j, w, p, u, hj, hw, he, hle⟩
    · obtain ⟨s, rfl⟩ : ∃ s : Nat, c = s := ⟨c.toNat, by omega⟩
      obtain ⟨m, r', w', h1, h2, h3, h4, h5⟩ := h.cl j r w hr hw hj s hc.2
      have hle2 : LLe w' (v.reverse ++ [(s : Int)]) := h5.trans (hle.snoc _)
      by_cases hm : m < i
      · exact .inl ⟨m, r', w', hm, h1, h2, by rw [go_snoc, ← ha, h3], by rw [go_snoc, ← hb, h4], hle2⟩
      · exact .inr ⟨m, w', _, [], by omega, h2, by simp, hle2⟩
    · exact .inr ⟨j, w, p, u ++ [c], hj, hw, by rw [he, List.append_assoc], hle⟩
theorem BFS.none {x y : Da} {R : List PR} {Ws : List (List Int)} {i : Nat} (h : BFS x y R Ws i 0) (hi : R.length ≤ i) : NoW x y := by
  intro v hv hdv
  have := h.reach v.reverse (by rwa [List.reverse_reverse])
  rw [List.reverse_reverse] at this
  rcases this with ⟨j, r', w', hj, h1, h2, h3, h4, h5⟩ | ⟨j, w', p, u, hj, h2, he, h5⟩
  · exact hdv (by have := h.nd j r' h1 hj; rw [h3, h4] at this; exact this)
  · have := (List.getElem?_eq_some_iff.1 h2).1
    rw [h.len] at this
    omega
/-- there are not many pairs -/
theorem BFS.bound {x y : Da} (Vx : VD x) (Vy : VD y) (hxy : colsD x = colsD y) {R : List PR} {Ws : List (List Int)} {i c : Nat} (h : BFS x y R Ws i c) : R.length ≤ 40401 := by
  have hx := Vx.len
  have hy := Vy.len
  have hb : ∀ r ∈ R, -1 ≤ r.a ∧ r.a < x.nx.length ∧ -1 ≤ r.b ∧ r.b < y.nx.length := by
    intro r hr
    obtain ⟨j, hj⟩ := List.getElem?_of_mem hr
    obtain ⟨w, hw⟩ := h.at' (List.getElem?_eq_some_iff.1 hj).1
    obtain ⟨h1, h2, h3⟩ := h.st j r w hj hw
    have q1 := go_rng Vx (s := x.st) (by have := Vx.st; omega) h3
    have q2 := go_rng Vy (s := y.st) (by have := Vy.st; omega) (w := w) fun z hz => by rw [← hxy]; exact h3 z hz
    rw [← h1] at q1
    rw [← h2] at q2
    exact ⟨q1.1, q1.2, q2.1, q2.2⟩
  have := nodup_bound 40401 (R.map fun r => ((r.a + 1) * 201 + (r.b + 1)).toNat) (by
    rw [List.Nodup, List.pairwise_map]
    have hn := h.nod
    rw [List.Nodup, List.pairwise_map] at hn
    refine List.Pairwise.imp_of_mem (fun {p q} hp hq hne e => hne ?_) hn
    have h1 := hb p hp
    have h2 := hb q hq
    have : p.a = q.a ∧ p.b = q.b := by omega
    simp [PR.key, this.1, this.2]) (fun z hz => by
    obtain ⟨r, hr, rfl⟩ := List.mem_map.1 hz
    have := hb r hr
    omega)
  simpa using this

/-! by how far they are from a difference -/
def stI (d : Da) (s : Nat) : Int := if s < d.nx.length then s else -1
def gI (d : Da) (s : Nat) (c : Int) : Nat := if s < d.nx.length ∧ 0 ≤ stepD d s c then (stepD d s c).toNat else d.nx.length
theorem stI_g {d : Da} (V : VD d) {s : Nat} {c : Int} (hc : 0 ≤ c ∧ c < colsD d) : stI d (gI d s c) = nxt d (stI d s) c ∧ gI d s c ≤ d.nx.length := by
  unfold gI
  split
  · rename_i h
    have hs := V.step (s := s) (x := c) (by omega) hc
    have e : stI d s = s := if_pos h.1
    rw [e]
    unfold stI nxt
    rw [if_pos (by omega), if_neg (by omega)]
    exact ⟨by omega, by omega⟩
  · rename_i h
    unfold stI nxt
    rw [if_neg (by omega)]
    refine ⟨?_, Nat.le_refl _⟩
    split
    · rename_i hs
      rw [if_neg (by omega)]
      have := V.step (s := s) (x := c) (by omega) hc
      have : ¬ 0 ≤ stepD d s c := fun q => h ⟨hs, q⟩
      omega
    · rw [if_pos (by omega)]
def DifI (x y : Da) (a b : Nat) (w : List Int) : Prop := accP x (goD x (stI x a) w) ≠ accP y (goD y (stI y b) w)
theorem difI_cons {x y : Da} (Vx : VD x) (Vy : VD y) (hxy : colsD x = colsD y) {a b : Nat} {c : Int} {w : List Int} (hc : 0 ≤ c ∧ c < colsD x) : DifI x y a b (c :: w) ↔ DifI x y (gI x a c) (gI y b c) w := by
  unfold DifI
  rw [go_cons, go_cons, (stI_g Vx hc).1, (stI_g Vy (by rw [← hxy]; exact hc)).1]
def fr (F : List (List Int)) (a b : Nat) : Int := (F.getD a []).getD b 0
structure FarS (x y : Da) (F : List (List Int)) : Prop where
  len : F.length = x.nx.length + 1
  row : ∀ r ∈ F, r.length = y.nx.length + 1
  lo : ∀ a b, a ≤ x.nx.length → b ≤ y.nx.length → 0 ≤ fr F a b ∧ fr F a b ≤ 1099511627776
  snd : ∀ a b, a ≤ x.nx.length → b ≤ y.nx.length → fr F a b < 1099511627776 → ∃ w, okW x w ∧ (w.length : Int) = fr F a b ∧ DifI x y a b w
  zero : ∀ a b, a ≤ x.nx.length → b ≤ y.nx.length → DifI x y a b [] → fr F a b = 0
def FarC (x y : Da) (F : List (List Int)) : Prop := ∀ a b, a ≤ x.nx.length → b ≤ y.nx.length → ∀ c : Nat, (c : Int) < colsD x → fr F a b ≤ fr F (gI x a c) (gI y b c) + 1
theorem far_le {x y : Da} (Vx : VD x) (Vy : VD y) (hxy : colsD x = colsD y) {F : List (List Int)} (hS : FarS x y F) (hC : FarC x y F) : ∀ {w : List Int} {a b : Nat}, a ≤ x.nx.length → b ≤ y.nx.length → okW x w → DifI x y a b w → fr F a b ≤ w.length
  | [], a, b, ha, hb, _, hd => by rw [hS.zero a b ha hb hd]; simp
  | c :: w, a, b, ha, hb, hw, hd => by
    have hc := hw c (by simp)
    rw [difI_cons Vx Vy hxy hc] at hd
    obtain ⟨cn, rfl⟩ : ∃ n : Nat, c = n := ⟨c.toNat, by omega⟩
    have h1 := far_le Vx Vy hxy hS hC (stI_g Vx hc).2 (stI_g Vy (by rw [← hxy]; exact hc)).2 (fun z hz => hw z (by simp [hz])) hd
    have h2 := hC a b ha hb cn hc.2
    simp
    omega
inductive GrW (x y : Da) (F : List (List Int)) : Nat → Nat → List Int → Prop
  | nil {a b : Nat} : fr F a b = 0 → GrW x y F a b []
  | cons {a b c : Nat} {w : List Int} : (c : Int) < colsD x → 0 < fr F a b → fr F (gI x a c) (gI y b c) = fr F a b - 1 → (∀ c' : Nat, c' < c → fr F (gI x a c') (gI y b c') ≠ fr F a b - 1) → GrW x y F (gI x a c) (gI y b c) w → GrW x y F a b ((c : Int) :: w)
theorem GrW.least {x y : Da} (Vx : VD x) (Vy : VD y) (hxy : colsD x = colsD y) {F : List (List Int)} (hS : FarS x y F) (hC : FarC x y F) {a b : Nat} {w : List Int} (h : GrW x y F a b w) : a ≤ x.nx.length → b ≤ y.nx.length →
    okW x w ∧ (w.length : Int) = fr F a b ∧ DifI x y a b w ∧ ∀ v, okW x v → DifI x y a b v → LLe w v := by
  induction h with
  | @nil a b h0 =>
    intro ha hb
    refine ⟨fun z hz => (by cases hz), (by rw [h0]; rfl), ?_, fun v _ _ => LLe.pre [] v⟩
    obtain ⟨w, h1, h2, h3⟩ := hS.snd a b ha hb (by omega)
    rw [h0] at h2
    have : w = [] := List.eq_nil_of_length_eq_zero (by omega)
    rwa [this] at h3
  | @cons a b c w hc h0 h1 hmin _ ih =>
    intro ha hb
    have hcc : 0 ≤ (c : Int) ∧ (c : Int) < colsD x := ⟨by omega, hc⟩
    obtain ⟨q1, q2, q3, q4⟩ := ih (stI_g Vx hcc).2 (stI_g Vy (by rw [← hxy]; exact hcc)).2
    refine ⟨fun z hz => ?_, by simp; omega, (difI_cons Vx Vy hxy hcc).2 q3, fun v hv hdv => ?_⟩
    · rcases List.mem_cons.1 hz with rfl | hz
      · exact hcc
      · exact q1 z hz
    have hle := far_le Vx Vy hxy hS hC ha hb hv hdv
    cases v with
    | nil => simp at hle; omega
    | cons c' v =>
      have hc' := hv c' (by simp)
      obtain ⟨cn, rfl⟩ : ∃ n : Nat, c' = n := ⟨c'.toNat, by omega⟩
      have hdv' := (difI_cons Vx Vy hxy hc').1 hdv
      have hok' : okW x v := fun z hz => hv z (by simp [hz])
      by_cases hl : w.length < v.length
      · exact .inr (.inl (by simp; exact hl))
      · simp at hle
        have hvl : v.length = w.length := by omega
        have h3 := far_le Vx Vy hxy hS hC (stI_g Vx hc').2 (stI_g Vy (by rw [← hxy]; exact hc')).2 hok' hdv'
        have h4 := hC a b ha hb cn hc'.2
        have h5 : ¬ cn < c := fun q => hmin cn q (by omega)
        by_cases e : cn = c
        · subst e
          rcases q4 v hok' hdv' with rfl | q
          · exact .inl rfl
          · rcases q with q | ⟨q, q'⟩
            · omega
            · exact .inr (.inr ⟨by simp; omega, .inr ⟨rfl, q'⟩⟩)
        · exact .inr (.inr ⟨by simp; omega, .inl (by omega)⟩)
/-- there is a symbol that leads nearer -/
theorem far_next {x y : Da} (Vx : VD x) (Vy : VD y) (hxy : colsD x = colsD y) {F : List (List Int)} (hS : FarS x y F) (hC : FarC x y F) {a b : Nat} (ha : a ≤ x.nx.length) (hb : b ≤ y.nx.length) (h0 : 0 < fr F a b) (h1 : fr F a b < 1099511627776) : ∃ c : Nat, (c : Int) < colsD x ∧ fr F (gI x a c) (gI y b c) = fr F a b - 1 := by
  obtain ⟨w, h2, h3, h4⟩ := hS.snd a b ha hb h1
  cases w with
  | nil => simp at h3; omega
  | cons c w =>
    have hc := h2 c (by simp)
    obtain ⟨cn, rfl⟩ : ∃ n : Nat, c = n := ⟨c.toNat, by omega⟩
    have h5 := far_le Vx Vy hxy hS hC (stI_g Vx hc).2 (stI_g Vy (by rw [← hxy]; exact hc)).2 (fun z hz => h2 z (by simp [hz])) ((difI_cons Vx Vy hxy hc).1 h4)
    have h6 := hC a b ha hb cn hc.2
    simp at h3
    exact ⟨cn, hc.2, by omega⟩
theorem stI_st {d : Da} (V : VD d) : stI d d.st.toNat = d.st := by
  have := V.st
  unfold stI
  rw [if_pos (by omega)]
  omega
theorem greedy_least {x y : Da} (Vx : VD x) (Vy : VD y) (hxy : colsD x = colsD y) {F : List (List Int)} (hS : FarS x y F) (hC : FarC x y F) {w : List Int} (h : GrW x y F x.st.toNat y.st.toNat w) : LeastW x y w := by
  have h1 := Vx.st
  have h2 := Vy.st
  obtain ⟨q1, _, q3, q4⟩ := h.least Vx Vy hxy hS hC (by omega) (by omega)
  unfold DifI at q3 q4
  rw [stI_st Vx, stI_st Vy] at q3 q4
  exact ⟨q1, q3, q4⟩
def ToldF (x y : Da) (w : List Int) (b : Bool) : Prop := (b = true ∧ LeastW x y w) ∨ (b = false ∧ w = [] ∧ ∀ v, okW x v → Dif x y v → 1099511627776 ≤ v.length)
theorem far_none {x y : Da} (Vx : VD x) (Vy : VD y) (hxy : colsD x = colsD y) {F : List (List Int)} (hS : FarS x y F) (hC : FarC x y F) (h : 1099511627776 ≤ fr F x.st.toNat y.st.toNat) : ToldF x y [] false := by
  refine .inr ⟨rfl, rfl, fun v hv hd => ?_⟩
  have h1 := Vx.st
  have h2 := Vy.st
  have := far_le Vx Vy hxy hS hC (a := x.st.toNat) (b := y.st.toNat) (by omega) (by omega) hv (by unfold DifI; rw [stI_st Vx, stI_st Vy]; exact hd)
  omega
theorem BFS.short {x y : Da} {R : List PR} {Ws : List (List Int)} {i c : Nat} (h : BFS x y R Ws i c) : ∀ (j : Nat) w, Ws[j]? = some w → w.length ≤ j := by
  intro j
  induction j using Nat.strongRecOn with
  | ind j ih =>
    intro w hw
    by_cases h0 : 0 < j
    · have hj : j < R.length := by rw [← h.len]; exact (List.getElem?_eq_some_iff.1 hw).1
      obtain ⟨m, _, hm, u, hu, hwu⟩ := h.chain j R[j] (List.getElem?_eq_getElem hj) h0
      rw [hw] at hwu
      cases hwu
      have := ih m hm u hu
      simp
      omega
    · have : j = 0 := by omega
      subst this
      rw [h.zero.2] at hw
      cases hw
      simp
end Go.Proofs.Ytniobbepliknmaa.V
/- Two automata side by side: teach.way, teach.Differ walked; no condition. -/
namespace Go.Proofs.Ytniobbepliknmaa.V
open Go
set_option linter.unusedVariables false
set_option linter.unusedSimpArgs false
attribute [local go_sem] e_seq e_region e_quiet e_join e_loop e_cond e_block e_exit e_ret e_skip e_fin e_kseq e_snrm e_sret e_sex e_bnrm e_bret e_bex e_rnrm e_rret e_res e_condC e_nil e_g e_mv g_mv e_pick g_pick pickC_eq e_ibin g_ibin ibinC_eq e_sbin g_sbin e_beq g_beq beqC_eq e_nilq g_nilq nilqC_sl nilqC_pt nilqC_mp e_un g_un unC_not unC_neg e_conv g_conv convC_eq e_fld g_fld fldC_ref fldC_ptr e_nilCheck g_nilCheck nilCheckC_ref nilCheckC_ptr nilCheckC_fun e_field g_field fieldC_eq e_len g_len lenC_sl lenC_str e_extract g_extract extractC_eq e_mkFunc e_build g_build e_idiv g_idiv idivC_eq e_ishift g_ishift ishiftC_eq e_idx g_idx e_idxA g_idxA e_load g_load e_loadB g_loadB atB_ref atB_v g_mkFunc loadC_ref loadC_ptr loadB_eq e_slc g_slc e_box boxC_loc boxC_esc e_alloc allocC_loc allocC_esc e_buildS e_store storeC_ref storeC_ptr storeB_eq e_append e_appz e_mk mkC_eq e_call callC_eq e_fn g_fn fnC_eq fnV_min' fnV_max' fnV_rune' e_q g_q e_a e_n g_call g_box g_alloc g_buildS g_store g_append g_mk g_a g_n g_dead e_dead e_callK e_drawn e_tree e_finJ e_tk e_tfin e_tno e_nbt_q e_nbt_qn e_nbt_a e_nbt_an e_nbt_fin e_drawnB e_bxb_nil e_bxb e_stB_none e_stB_some boxSt_store bs_mv bs_pick bs_ibin bs_idiv bs_ishift bs_sbin bs_beq bs_nilq bs_un bs_conv bs_box bs_alloc bs_build bs_buildS bs_load bs_fld bs_nilCheck bs_idx bs_idxA bs_field bs_slc bs_len bs_append bs_appz bs_mk bs_call bs_extract bs_mkFunc bs_fn bs_q bs_a bs_n bs_loadB bs_dead isBox_box e_early_nil e_early_t e_early_f e_nob_nil e_nob_none e_nob_some isBox_dead isBox_v isBox_ref e_dnil e_dk e_ek e_finB vcOps_vc1 e_dcons e_tq e_ekt e_tearly e_talt e_dearly look_nil look_c proj_nil proj_c looks_nil looks_c zip_nil zip_c val_tmp val_const val_func slv_v slv_box slv_ref slot_tmp slot_const slot_func slotL_v slotL_box slotL_ref put_some put_none updBox_c boxSet_box gd_eq slotVals_nil slotVals_c slotVals_b boxV_box boxOn_box slotsOn_nil slotsOn_c slotsOn_b resV_one resV_two vals_nil vals_c allOn_nil allOn_c partOn_nil partOn_c partVals_nil partVals_c fits_nil fits_c fillL_nil fillL_c mkv_one mkv_agg cellsV_agg cellsV_int cellsV_bool cellsV_slice cellsV_string cellsV_pointer cellsV_func cellsV_nilf cellsV_map one'_nil one'_c oc_int oc_bool oc_slice oc_string oc_pointer oc_func oc_nilf oc_map setC_eq iv_add iv_sub iv_mul iv_eql iv_neq iv_lss iv_leq iv_gtr iv_geq iok_add iok_sub iok_mul iok_eql iok_neq iok_lss iok_leq iok_gtr iok_geq pickV_bool args0_nil args0_c bnd_none bnd_some imp_bt imp_bf imp_ebt imp_ebf imp_eb1 imp_np imp_pp beq_tt beq_tf beq_ft beq_ff cond_or cond_and e_round e_meet Int.le_refl Int.toNat_zero decide_true decide_false Bool.or_false Bool.false_or Bool.true_or Bool.or_true Bool.and_false Bool.false_and Bool.bne_false Bool.bne_true beq_iff_eq Int.cast_ofNat_Int not_false_eq_true not_true_eq_false false_and and_false false_implies true_implies true_and and_true Bool.true_and Bool.and_true Bool.not_true Bool.not_false forall_const implies_true List.take_zero List.drop_zero List.take_succ_cons List.drop_succ_cons List.take_nil List.drop_nil List.length_cons List.length_nil List.nil_append List.append_nil List.cons_append Int.toNat_natCast decide_eq_true_eq decide_eq_false_iff_not cond_true cond_false and_self List.getElem?_cons_zero List.getElem?_cons_succ List.set_cons_zero List.set_cons_succ Option.some.injEq exists_eq_left' Nat.zero_add Nat.add_zero Nat.mul_one imp_self true_or or_true or_false false_or Bool.or_eq_true Bool.or_eq_false_iff Bool.and_eq_true Bool.and_eq_false_iff Bool.not_eq_true' Bool.not_eq_false'

instance : Rep PR where
  sz := 4
  ok _ x cs := cs = [.int .i64 x.a, .int .i64 x.b, .int .i64 x.f, .int .i64 x.c]
  len h := by subst h; rfl
  one h := by subst h; simp [one', Value.oneCell']
  mono h _ := h
theorem lit_bld1 {α : Type} [Rep α] {b : Nat} {T : TypeId} {cs : List Value} {L : Mem} (x : α) (hx : Rep.ok L x cs) : Bld (one b (.cells cs.toArray T)) L T (.slice (some ⟨b, 0, none⟩) 1 1) [x] := by
  have hl := Rep.len hx
  refine ⟨cs, ⟨by simp [hl], .inr ⟨b, 0, 0, _, rfl, by simp, by simp [maxLen], one_self _ _, by simp [hl], by simp [← hl]⟩⟩, fun i y hi => ?_⟩
  cases i with
  | zero => simp at hi; subst hi; exact ⟨cs, hx, fun j hj => by simp⟩
  | succ i => simp at hi
end Go.Proofs.Ytniobbepliknmaa.V
/- A teacher: teach.New, Symbols, Member, Equal, Asked walked; no condition. -/
namespace Go.Proofs.Ytniobbepliknmaa.V
open Go
set_option linter.unusedVariables false
set_option linter.unusedSimpArgs false
attribute [local go_sem] e_seq e_region e_quiet e_join e_loop e_cond e_block e_exit e_ret e_skip e_fin e_kseq e_snrm e_sret e_sex e_bnrm e_bret e_bex e_rnrm e_rret e_res e_condC e_nil e_g e_mv g_mv e_pick g_pick pickC_eq e_ibin g_ibin ibinC_eq e_sbin g_sbin e_beq g_beq beqC_eq e_nilq g_nilq nilqC_sl nilqC_pt nilqC_mp e_un g_un unC_not unC_neg e_conv g_conv convC_eq e_fld g_fld fldC_ref fldC_ptr e_nilCheck g_nilCheck nilCheckC_ref nilCheckC_ptr nilCheckC_fun e_field g_field fieldC_eq e_len g_len lenC_sl lenC_str e_extract g_extract extractC_eq e_mkFunc e_build g_build e_idiv g_idiv idivC_eq e_ishift g_ishift ishiftC_eq e_idx g_idx e_idxA g_idxA e_load g_load e_loadB g_loadB atB_ref atB_v g_mkFunc loadC_ref loadC_ptr loadB_eq e_slc g_slc e_box boxC_loc boxC_esc e_alloc allocC_loc allocC_esc e_buildS e_store storeC_ref storeC_ptr storeB_eq e_append e_appz e_mk mkC_eq e_call callC_eq e_fn g_fn fnC_eq fnV_min' fnV_max' fnV_rune' e_q g_q e_a e_n g_call g_box g_alloc g_buildS g_store g_append g_mk g_a g_n g_dead e_dead e_callK e_drawn e_tree e_finJ e_tk e_tfin e_tno e_nbt_q e_nbt_qn e_nbt_a e_nbt_an e_nbt_fin e_drawnB e_bxb_nil e_bxb e_stB_none e_stB_some boxSt_store bs_mv bs_pick bs_ibin bs_idiv bs_ishift bs_sbin bs_beq bs_nilq bs_un bs_conv bs_box bs_alloc bs_build bs_buildS bs_load bs_fld bs_nilCheck bs_idx bs_idxA bs_field bs_slc bs_len bs_append bs_appz bs_mk bs_call bs_extract bs_mkFunc bs_fn bs_q bs_a bs_n bs_loadB bs_dead isBox_box e_early_nil e_early_t e_early_f e_nob_nil e_nob_none e_nob_some isBox_dead isBox_v isBox_ref e_dnil e_dk e_ek e_finB vcOps_vc1 e_dcons e_tq e_ekt e_tearly e_talt e_dearly look_nil look_c proj_nil proj_c looks_nil looks_c zip_nil zip_c val_tmp val_const val_func slv_v slv_box slv_ref slot_tmp slot_const slot_func slotL_v slotL_box slotL_ref put_some put_none updBox_c boxSet_box gd_eq slotVals_nil slotVals_c slotVals_b boxV_box boxOn_box slotsOn_nil slotsOn_c slotsOn_b resV_one resV_two vals_nil vals_c allOn_nil allOn_c partOn_nil partOn_c partVals_nil partVals_c fits_nil fits_c fillL_nil fillL_c mkv_one mkv_agg cellsV_agg cellsV_int cellsV_bool cellsV_slice cellsV_string cellsV_pointer cellsV_func cellsV_nilf cellsV_map one'_nil one'_c oc_int oc_bool oc_slice oc_string oc_pointer oc_func oc_nilf oc_map setC_eq iv_add iv_sub iv_mul iv_eql iv_neq iv_lss iv_leq iv_gtr iv_geq iok_add iok_sub iok_mul iok_eql iok_neq iok_lss iok_leq iok_gtr iok_geq pickV_bool args0_nil args0_c bnd_none bnd_some imp_bt imp_bf imp_ebt imp_ebf imp_eb1 imp_np imp_pp beq_tt beq_tf beq_ft beq_ff cond_or cond_and e_round e_meet Int.le_refl Int.toNat_zero decide_true decide_false Bool.or_false Bool.false_or Bool.true_or Bool.or_true Bool.and_false Bool.false_and Bool.bne_false Bool.bne_true beq_iff_eq Int.cast_ofNat_Int not_false_eq_true not_true_eq_false false_and and_false false_implies true_implies true_and and_true Bool.true_and Bool.and_true Bool.not_true Bool.not_false forall_const implies_true List.take_zero List.drop_zero List.take_succ_cons List.drop_succ_cons List.take_nil List.drop_nil List.length_cons List.length_nil List.nil_append List.append_nil List.cons_append Int.toNat_natCast decide_eq_true_eq decide_eq_false_iff_not cond_true cond_false and_self List.getElem?_cons_zero List.getElem?_cons_succ List.set_cons_zero List.set_cons_succ Option.some.injEq exists_eq_left' Nat.zero_add Nat.add_zero Nat.mul_one imp_self true_or or_true or_false false_or Bool.or_eq_true Bool.or_eq_false_iff Bool.and_eq_true Bool.and_eq_false_iff Bool.not_eq_true' Bool.not_eq_false'

/-- one part of a struct is stored -/
theorem s_storeF {P : Program} {Γr : Ctx} {r : List SOper} {φ : Fr} {Γ : Ctx} {K : Fr → Ctx → Prop} {g : PH} {b ix n o : Nat} {T : TypeId} {cs : List Value} {x : Value} (hg : Γ[ix]? = some g) (h : g b = some (.cells cs.toArray T (0, 0))) (ho : o + n ≤ cs.length)
    (hk : vcOps P Γr r φ (Γ.set ix (upd g b (.cells (setC cs o n x).toArray T))) K) : storeP P Γr r φ Γ K n b o x :=
  ⟨ix, g, _, T, hg, h, by simpa using ho, by simpa using hk⟩
theorem Ent.emp (Γ : Ctx) : Ent Γ (V.emp :: Γ) := by
  refine ⟨fun h hh k o hk => ?_, fun ha => List.pairwise_cons.2 ⟨fun x _ k => .inl rfl, ha⟩⟩
  rcases List.mem_cons.1 hh with rfl | hh
  · cases hk
  · exact ⟨h, hh, hk⟩
theorem Up.emp {Γ : Ctx} {Φ : Ctx → Prop} (h : Up (V.emp :: Γ) Φ) : Up Γ Φ := fun ha => by
  obtain ⟨Γ', h1, h2⟩ := h ((Ent.emp Γ).apart ha)
  exact ⟨Γ', (Ent.emp Γ).trans h1, h2⟩
theorem kept_nil {v' : Value} {g g' : PH} (h : KeptBut (.slice none 0 0) v' g g') : Mem.le (lk [g]) (lk [g']) := fun b o q => by
  have q := lk_one.1 q
  exact lk_one.2 (by rw [h.1 b (by simp [rowBlk]) (by rw [q]; simp)]; exact q)
theorem mk_list {α : Type} [Rep α] {L : Mem} {A : Option Addr} {c : Nat} {xs : List α} (h : SlOk L A c xs) : Rep.ok L xs [.slice A xs.length c] := ⟨A, c, rfl, h⟩
section
variable {Γr : Ctx} {gp : PH} {p : Nat} {d : Da} {A B : Option Addr} {c e : Nat} {m q : Int}
end
end Go.Proofs.Ytniobbepliknmaa.V
/- A map is ranged over; how many keys it has; bytes that become a text; no condition. -/
namespace Go.Proofs.Ytniobbepliknmaa.V
open Go
set_option linter.unusedVariables false
set_option linter.unusedSimpArgs false
set_option linter.unusedSectionVars false
attribute [local go_sem] e_seq e_region e_quiet e_join e_loop e_cond e_block e_exit e_ret e_skip e_fin e_kseq e_snrm e_sret e_sex e_bnrm e_bret e_bex e_rnrm e_rret e_res e_condC e_nil e_g e_mv g_mv e_pick g_pick pickC_eq e_ibin g_ibin ibinC_eq e_sbin g_sbin e_beq g_beq beqC_eq e_nilq g_nilq nilqC_sl nilqC_pt nilqC_mp e_un g_un unC_not unC_neg e_conv g_conv convC_eq e_fld g_fld fldC_ref fldC_ptr e_nilCheck g_nilCheck nilCheckC_ref nilCheckC_ptr nilCheckC_fun e_field g_field fieldC_eq e_len g_len lenC_sl lenC_str e_extract g_extract extractC_eq e_mkFunc e_build g_build e_idiv g_idiv idivC_eq e_ishift g_ishift ishiftC_eq e_idx g_idx e_idxA g_idxA e_load g_load e_loadB g_loadB atB_ref atB_v g_mkFunc loadC_ref loadC_ptr loadB_eq e_slc g_slc e_box boxC_loc boxC_esc e_alloc allocC_loc allocC_esc e_buildS e_store storeC_ref storeC_ptr storeB_eq e_append e_appz e_mk mkC_eq e_call callC_eq e_fn g_fn fnC_eq fnV_min' fnV_max' fnV_rune' e_q g_q e_a e_n g_call g_box g_alloc g_buildS g_store g_append g_mk g_a g_n g_dead e_dead e_callK e_drawn e_tree e_finJ e_tk e_tfin e_tno e_nbt_q e_nbt_qn e_nbt_a e_nbt_an e_nbt_fin e_drawnB e_bxb_nil e_bxb e_stB_none e_stB_some boxSt_store bs_mv bs_pick bs_ibin bs_idiv bs_ishift bs_sbin bs_beq bs_nilq bs_un bs_conv bs_box bs_alloc bs_build bs_buildS bs_load bs_fld bs_nilCheck bs_idx bs_idxA bs_field bs_slc bs_len bs_append bs_appz bs_mk bs_call bs_extract bs_mkFunc bs_fn bs_q bs_a bs_n bs_loadB bs_dead isBox_box e_early_nil e_early_t e_early_f e_nob_nil e_nob_none e_nob_some isBox_dead isBox_v isBox_ref e_dnil e_dk e_ek e_finB vcOps_vc1 e_dcons e_tq e_ekt e_tearly e_talt e_dearly look_nil look_c proj_nil proj_c looks_nil looks_c zip_nil zip_c val_tmp val_const val_func slv_v slv_box slv_ref slot_tmp slot_const slot_func slotL_v slotL_box slotL_ref put_some put_none updBox_c boxSet_box gd_eq slotVals_nil slotVals_c slotVals_b boxV_box boxOn_box slotsOn_nil slotsOn_c slotsOn_b resV_one resV_two vals_nil vals_c allOn_nil allOn_c partOn_nil partOn_c partVals_nil partVals_c fits_nil fits_c fillL_nil fillL_c mkv_one mkv_agg cellsV_agg cellsV_int cellsV_bool cellsV_slice cellsV_string cellsV_pointer cellsV_func cellsV_nilf cellsV_map one'_nil one'_c oc_int oc_bool oc_slice oc_string oc_pointer oc_func oc_nilf oc_map setC_eq iv_add iv_sub iv_mul iv_eql iv_neq iv_lss iv_leq iv_gtr iv_geq iok_add iok_sub iok_mul iok_eql iok_neq iok_lss iok_leq iok_gtr iok_geq pickV_bool args0_nil args0_c bnd_none bnd_some imp_bt imp_bf imp_ebt imp_ebf imp_eb1 imp_np imp_pp beq_tt beq_tf beq_ft beq_ff cond_or cond_and e_round e_meet Int.le_refl Int.toNat_zero decide_true decide_false Bool.or_false Bool.false_or Bool.true_or Bool.or_true Bool.and_false Bool.false_and Bool.bne_false Bool.bne_true beq_iff_eq Int.cast_ofNat_Int not_false_eq_true not_true_eq_false false_and and_false false_implies true_implies true_and and_true Bool.true_and Bool.and_true Bool.not_true Bool.not_false forall_const implies_true List.take_zero List.drop_zero List.take_succ_cons List.drop_succ_cons List.take_nil List.drop_nil List.length_cons List.length_nil List.nil_append List.append_nil List.cons_append Int.toNat_natCast decide_eq_true_eq decide_eq_false_iff_not cond_true cond_false and_self List.getElem?_cons_zero List.getElem?_cons_succ List.set_cons_zero List.set_cons_succ Option.some.injEq exists_eq_left' Nat.zero_add Nat.add_zero Nat.mul_one imp_self true_or or_true or_false false_or Bool.or_eq_true Bool.or_eq_false_iff Bool.and_eq_true Bool.and_eq_false_iff Bool.not_eq_true' Bool.not_eq_false'

section
variable {α β : Type}
def kvs (es : List MapEntry) : List (Value × Value) := es.map fun e => (e.key, e.val)
def encs (eK : α → Value) (eV : β → Value) (l : List (α × β)) : List (Value × Value) := l.map fun p => (eK p.1, eV p.2)
/-- the iterator r over the map b: what is still to come -/
structure ItM (L : Mem) (g : PH) (r b : Nat) (eK : α → Value) (eV : β → Value) (left : List (α × β)) : Prop where
  at' : ∃ es clock seen, L b (.map es clock) ∧ Born es.toList clock ∧ g r = some (.mapIter (some b) clock seen clock) ∧ kvs (leftOf es seen).toList = encs eK eV left
theorem ItM.mono {L L' : Mem} {g g' : PH} {r b : Nat} {eK : α → Value} {eV : β → Value} {left : List (α × β)} (h : ItM L g r b eK eV left) (hl : Mem.le L L') (hg : Mem.le (lk [g]) (lk [g'])) : ItM L' g' r b eK eV left := by
  obtain ⟨es, c, s, h1, h2, h3, h4⟩ := h.at'
  exact ⟨es, c, s, hl _ _ h1, h2, lk_one.1 (hg _ _ (lk_one.2 h3)), h4⟩
end
section
variable {α β : Type}
variable {P : Program} {Γr : Ctx} {d : Option Nat} {rr : List SOper} {φ : Fr} {Γ : Ctx} {K : Fr → Ctx → Prop}
/-- len(m) -/
theorem qr_len {t kt et : TypeId} (ht : P.underlying t = some (.map kt et)) {b : Nat} {eK : α → Value} {eV : β → Value} {good : α → Prop} {l : List (α × β)} (hm : MapL (lk Γ) b eK eV good l) : QR P (.bi 4 [t]) [.map (some b)] Γ (.int .i64 l.length) := by
  intro w hw
  obtain ⟨es, clock, hb, he, hbo⟩ := hm.at'
  obtain ⟨h, hh, hb'⟩ := hb
  have hbw := hw h hh b _ hb'
  have hsz : es.size = l.length := by
    have := congrArg List.length he
    simpa using this
  simp [qsem, Builtin.len_, run_underlying ht, MapKept.run_getObj_map hbw, goInt, hsz]
end
/-! m[k], .. = v, ..: the entry is laid first, and then written -/
section
variable {α β : Type} [DecidableEq α]
variable {P : Program} {Γr : Ctx} {d : Option Nat} {rr : List SOper} {φ : Fr} {Γ : Ctx} {K : Fr → Ctx → Prop}
end
/-! bytes -/
structure By where
  n : UInt8
instance : Sc By := ⟨fun x => .int .u8 x.n.toNat, fun _ => rfl, fun _ => rfl⟩
theorem wrap_by {x : Int} (h0 : 0 ≤ x) (h1 : x < 256) : IntKind.u8.wrap x = ((UInt8.ofNat x.toNat).toNat : Int) := by
  rw [IntKind.wrap_u8]
  simp
  omega
theorem qr_bytes {P : Program} {Γ : Ctx} {s d e : TypeId} (hs : P.underlying s = some (.slice e)) (he : P.underlying e = some (.int .u8)) (hd : P.underlying d = some .string) {L : Mem} {A : Option Addr} {c : Nat} {xs : List By} (hx : SlOk L A c xs) (hL : Mem.le L (lk Γ)) :
    QR P (.cnv s d) [.slice A xs.length c] Γ (.string ⟨(xs.map (·.n)).toArray⟩) := by
  intro w hw
  simp only [qsem]
  have hstr : ∀ ys : List By, strOfNums (ys.map fun x => (x.n.toNat : Int)) = ⟨(ys.map (·.n)).toArray⟩ := fun ys => by
    unfold strOfNums
    congr 1
    simp
  cases A with
  | none =>
    have : xs = [] := hx.ofNone
    subst this
    rw [run_convert_bytes_nil w s e hs he _ _ d hd]
    rfl
  | some a =>
    rcases hx.at' with rfl | ⟨b, o, cells, T, fr, hA, hb, hc⟩
    · have := run_convert_bytes_string (P := P) w s d e (some a) 0 c hs he hd
      simp only [List.length_nil]
      rw [this, run_bytesToString w a 0 c [] (by
        have := run_loadCells_list (P := P) w a [] (by simp)
        simpa using this)]
      rfl
    · simp only [Option.some.injEq] at hA
      subst hA
      have := run_convert_bytes_arg (P := P) w s e hs he b o xs.length c (xs.map fun x => (x.n.toNat : Int)) (by simp) (fun i hi => by
        obtain ⟨cs, h1, h2⟩ := hc i xs[i] (List.getElem?_eq_getElem hi)
        have h1 := ok_sc h1
        subst h1
        have h3 := h2 0 (by simp [Rep.sz])
        obtain ⟨g, hg, hgb⟩ := hL _ _ hb
        have hwb := hw g hg b _ hgb
        simp only [World.cell?, hwb]
        simp [Rep.sz, Sc.enc] at h3
        simp [h3, List.getD, hi]) d hd
      rw [this, hstr]
end Go.Proofs.Ytniobbepliknmaa.V
/- Grammars are checked once more: parlref5.RuleFault walked; no condition. -/
namespace Go.Proofs.Ytniobbepliknmaa.V
open Go
set_option linter.unusedVariables false
set_option linter.unusedSimpArgs false
attribute [local go_sem] e_seq e_region e_quiet e_join e_loop e_cond e_block e_exit e_ret e_skip e_fin e_kseq e_snrm e_sret e_sex e_bnrm e_bret e_bex e_rnrm e_rret e_res e_condC e_nil e_g e_mv g_mv e_pick g_pick pickC_eq e_ibin g_ibin ibinC_eq e_sbin g_sbin e_beq g_beq beqC_eq e_nilq g_nilq nilqC_sl nilqC_pt nilqC_mp e_un g_un unC_not unC_neg e_conv g_conv convC_eq e_fld g_fld fldC_ref fldC_ptr e_nilCheck g_nilCheck nilCheckC_ref nilCheckC_ptr nilCheckC_fun e_field g_field fieldC_eq e_len g_len lenC_sl lenC_str e_extract g_extract extractC_eq e_mkFunc e_build g_build e_idiv g_idiv idivC_eq e_ishift g_ishift ishiftC_eq e_idx g_idx e_idxA g_idxA e_load g_load e_loadB g_loadB atB_ref atB_v g_mkFunc loadC_ref loadC_ptr loadB_eq e_slc g_slc e_box boxC_loc boxC_esc e_alloc allocC_loc allocC_esc e_buildS e_store storeC_ref storeC_ptr storeB_eq e_append e_appz e_mk mkC_eq e_call callC_eq e_fn g_fn fnC_eq fnV_min' fnV_max' fnV_rune' e_q g_q e_a e_n g_call g_box g_alloc g_buildS g_store g_append g_mk g_a g_n g_dead e_dead e_callK e_drawn e_tree e_finJ e_tk e_tfin e_tno e_nbt_q e_nbt_qn e_nbt_a e_nbt_an e_nbt_fin e_drawnB e_bxb_nil e_bxb e_stB_none e_stB_some boxSt_store bs_mv bs_pick bs_ibin bs_idiv bs_ishift bs_sbin bs_beq bs_nilq bs_un bs_conv bs_box bs_alloc bs_build bs_buildS bs_load bs_fld bs_nilCheck bs_idx bs_idxA bs_field bs_slc bs_len bs_append bs_appz bs_mk bs_call bs_extract bs_mkFunc bs_fn bs_q bs_a bs_n bs_loadB bs_dead isBox_box e_early_nil e_early_t e_early_f e_nob_nil e_nob_none e_nob_some isBox_dead isBox_v isBox_ref e_dnil e_dk e_ek e_finB vcOps_vc1 e_dcons e_tq e_ekt e_tearly e_talt e_dearly look_nil look_c proj_nil proj_c looks_nil looks_c zip_nil zip_c val_tmp val_const val_func slv_v slv_box slv_ref slot_tmp slot_const slot_func slotL_v slotL_box slotL_ref put_some put_none updBox_c boxSet_box gd_eq slotVals_nil slotVals_c slotVals_b boxV_box boxOn_box slotsOn_nil slotsOn_c slotsOn_b resV_one resV_two vals_nil vals_c allOn_nil allOn_c partOn_nil partOn_c partVals_nil partVals_c fits_nil fits_c fillL_nil fillL_c mkv_one mkv_agg cellsV_agg cellsV_int cellsV_bool cellsV_slice cellsV_string cellsV_pointer cellsV_func cellsV_nilf cellsV_map one'_nil one'_c oc_int oc_bool oc_slice oc_string oc_pointer oc_func oc_nilf oc_map setC_eq iv_add iv_sub iv_mul iv_eql iv_neq iv_lss iv_leq iv_gtr iv_geq iok_add iok_sub iok_mul iok_eql iok_neq iok_lss iok_leq iok_gtr iok_geq pickV_bool args0_nil args0_c bnd_none bnd_some imp_bt imp_bf imp_ebt imp_ebf imp_eb1 imp_np imp_pp beq_tt beq_tf beq_ft beq_ff cond_or cond_and e_round e_meet Int.le_refl Int.toNat_zero decide_true decide_false Bool.or_false Bool.false_or Bool.true_or Bool.or_true Bool.and_false Bool.false_and Bool.bne_false Bool.bne_true beq_iff_eq Int.cast_ofNat_Int not_false_eq_true not_true_eq_false false_and and_false false_implies true_implies true_and and_true Bool.true_and Bool.and_true Bool.not_true Bool.not_false forall_const implies_true List.take_zero List.drop_zero List.take_succ_cons List.drop_succ_cons List.take_nil List.drop_nil List.length_cons List.length_nil List.nil_append List.append_nil List.cons_append Int.toNat_natCast decide_eq_true_eq decide_eq_false_iff_not cond_true cond_false and_self List.getElem?_cons_zero List.getElem?_cons_succ List.set_cons_zero List.set_cons_succ Option.some.injEq exists_eq_left' Nat.zero_add Nat.add_zero Nat.mul_one imp_self true_or or_true or_false false_or Bool.or_eq_true Bool.or_eq_false_iff Bool.and_eq_true Bool.and_eq_false_iff Bool.not_eq_true' Bool.not_eq_false'

def strB (l : List UInt8) : Value := .string ⟨l.toArray⟩
theorem strB_inj (a b : List UInt8) (h : strB a = strB b) : a = b := by
  simp only [strB, Value.string.injEq, ByteArray.mk.injEq] at h
  simpa using congrArg Array.toList h
theorem kt_str {P : Program} {k : TypeId} (hk : P.underlying k = some .string) : KT P k strB (fun l => l.length ≤ 1000) :=
  KT.of (Maps.string_keyed hk) strB_inj fun a ha => ⟨Lit.string a, by simp [strB, keyOf, hk, mapKey, ByteArray.size]; unfold maxLen; omega⟩
end Go.Proofs.Ytniobbepliknmaa.V
/- Sets of texts, and rows of them; no condition. -/
namespace Go.Proofs.Ytniobbepliknmaa.V
open Go
set_option linter.unusedVariables false
set_option linter.unusedSimpArgs false
set_option linter.unusedSectionVars false
attribute [local go_sem] e_seq e_region e_quiet e_join e_loop e_cond e_block e_exit e_ret e_skip e_fin e_kseq e_snrm e_sret e_sex e_bnrm e_bret e_bex e_rnrm e_rret e_res e_condC e_nil e_g e_mv g_mv e_pick g_pick pickC_eq e_ibin g_ibin ibinC_eq e_sbin g_sbin e_beq g_beq beqC_eq e_nilq g_nilq nilqC_sl nilqC_pt nilqC_mp e_un g_un unC_not unC_neg e_conv g_conv convC_eq e_fld g_fld fldC_ref fldC_ptr e_nilCheck g_nilCheck nilCheckC_ref nilCheckC_ptr nilCheckC_fun e_field g_field fieldC_eq e_len g_len lenC_sl lenC_str e_extract g_extract extractC_eq e_mkFunc e_build g_build e_idiv g_idiv idivC_eq e_ishift g_ishift ishiftC_eq e_idx g_idx e_idxA g_idxA e_load g_load e_loadB g_loadB atB_ref atB_v g_mkFunc loadC_ref loadC_ptr loadB_eq e_slc g_slc e_box boxC_loc boxC_esc e_alloc allocC_loc allocC_esc e_buildS e_store storeC_ref storeC_ptr storeB_eq e_append e_appz e_mk mkC_eq e_call callC_eq e_fn g_fn fnC_eq fnV_min' fnV_max' fnV_rune' e_q g_q e_a e_n g_call g_box g_alloc g_buildS g_store g_append g_mk g_a g_n g_dead e_dead e_callK e_drawn e_tree e_finJ e_tk e_tfin e_tno e_nbt_q e_nbt_qn e_nbt_a e_nbt_an e_nbt_fin e_drawnB e_bxb_nil e_bxb e_stB_none e_stB_some boxSt_store bs_mv bs_pick bs_ibin bs_idiv bs_ishift bs_sbin bs_beq bs_nilq bs_un bs_conv bs_box bs_alloc bs_build bs_buildS bs_load bs_fld bs_nilCheck bs_idx bs_idxA bs_field bs_slc bs_len bs_append bs_appz bs_mk bs_call bs_extract bs_mkFunc bs_fn bs_q bs_a bs_n bs_loadB bs_dead isBox_box e_early_nil e_early_t e_early_f e_nob_nil e_nob_none e_nob_some isBox_dead isBox_v isBox_ref e_dnil e_dk e_ek e_finB vcOps_vc1 e_dcons e_tq e_ekt e_tearly e_talt e_dearly look_nil look_c proj_nil proj_c looks_nil looks_c zip_nil zip_c val_tmp val_const val_func slv_v slv_box slv_ref slot_tmp slot_const slot_func slotL_v slotL_box slotL_ref put_some put_none updBox_c boxSet_box gd_eq slotVals_nil slotVals_c slotVals_b boxV_box boxOn_box slotsOn_nil slotsOn_c slotsOn_b resV_one resV_two vals_nil vals_c allOn_nil allOn_c partOn_nil partOn_c partVals_nil partVals_c fits_nil fits_c fillL_nil fillL_c mkv_one mkv_agg cellsV_agg cellsV_int cellsV_bool cellsV_slice cellsV_string cellsV_pointer cellsV_func cellsV_nilf cellsV_map one'_nil one'_c oc_int oc_bool oc_slice oc_string oc_pointer oc_func oc_nilf oc_map setC_eq iv_add iv_sub iv_mul iv_eql iv_neq iv_lss iv_leq iv_gtr iv_geq iok_add iok_sub iok_mul iok_eql iok_neq iok_lss iok_leq iok_gtr iok_geq pickV_bool args0_nil args0_c bnd_none bnd_some imp_bt imp_bf imp_ebt imp_ebf imp_eb1 imp_np imp_pp beq_tt beq_tf beq_ft beq_ff cond_or cond_and e_round e_meet Int.le_refl Int.toNat_zero decide_true decide_false Bool.or_false Bool.false_or Bool.true_or Bool.or_true Bool.and_false Bool.false_and Bool.bne_false Bool.bne_true beq_iff_eq Int.cast_ofNat_Int not_false_eq_true not_true_eq_false false_and and_false false_implies true_implies true_and and_true Bool.true_and Bool.and_true Bool.not_true Bool.not_false forall_const implies_true List.take_zero List.drop_zero List.take_succ_cons List.drop_succ_cons List.take_nil List.drop_nil List.length_cons List.length_nil List.nil_append List.append_nil List.cons_append Int.toNat_natCast decide_eq_true_eq decide_eq_false_iff_not cond_true cond_false and_self List.getElem?_cons_zero List.getElem?_cons_succ List.set_cons_zero List.set_cons_succ Option.some.injEq exists_eq_left' Nat.zero_add Nat.add_zero Nat.mul_one imp_self true_or or_true or_false false_or Bool.or_eq_true Bool.or_eq_false_iff Bool.and_eq_true Bool.and_eq_false_iff Bool.not_eq_true' Bool.not_eq_false'

theorem Up.skip {g : PH} {Γ : Ctx} {Φ : Ctx → Prop} (h : Up Γ Φ) : Up (g :: Γ) Φ := fun ha => by
  obtain ⟨Γ', he, hp⟩ := h (List.pairwise_cons.1 ha).2
  exact ⟨Γ', (Ent.sub (List.sublist_cons_self _ _)).trans he, hp⟩
def good8 (l : List UInt8) : Prop := l.length ≤ 1000
/-- the map b is the set l of texts -/
def SetS (L : Mem) (b : Nat) (l : List (List UInt8)) : Prop := MapL L b strB Value.bool good8 (mset id l)
def StrM (g : PH) (b : Nat) (l : List (List UInt8)) : Prop := MapM g b strB Value.bool good8 (mset id l)
theorem StrM.l {g : PH} {Γ : Ctx} {b : Nat} {l : List (List UInt8)} (h : StrM g b l) (hg : g ∈ Γ) : SetS (lk Γ) b l := MapM.l h hg
theorem SetS.mono {L L' : Mem} {b : Nat} {l : List (List UInt8)} (h : SetS L b l) (hl : Mem.le L L') : SetS L' b l := MapL.mono h hl
theorem StrM.mono {g g' : PH} {b : Nat} {l : List (List UInt8)} (h : StrM g b l) (hg : Mem.le (lk [g]) (lk [g'])) : StrM g' b l := MapM.mono h hg
theorem SetS.nodup {L : Mem} {b : Nat} {l : List (List UInt8)} (h : SetS L b l) : l.Nodup := by
  have := MapL.nodup h
  rwa [mset_keys, List.map_id] at this
theorem SetS.good {L : Mem} {b : Nat} {l : List (List UInt8)} (h : SetS L b l) : ∀ x ∈ l, x.length ≤ 1000 := fun x hx => MapL.good h (x, true) (List.mem_map.2 ⟨x, hx, rfl⟩)
def addT (l : List (List UInt8)) (x : List UInt8) : List (List UInt8) := if x ∈ l then l else l ++ [x]
theorem addT_mem {l : List (List UInt8)} {x y : List UInt8} : y ∈ addT l x ↔ y ∈ l ∨ y = x := by
  unfold addT
  split
  · rename_i h
    exact ⟨.inl, fun q => q.elim id fun e => by rw [e]; exact h⟩
  · simp
theorem mset_dupT {l : List (List UInt8)} {x : List UInt8} (h : x ∈ l) : mput (mset id l) x true = mset id l := by
  rw [mput, mset_keys, List.map_id, if_pos h]
  unfold mset
  rw [List.map_map]
  apply List.map_congr_left
  intro y _
  simp only [Function.comp, id]
  split
  · rename_i e; rw [e]
  · rfl
theorem look_str {Γ : Ctx} {t kt : TypeId} {b : Nat} {l : List (List UInt8)} {x : List UInt8} (ht : Try.prog.underlying t = some (.map kt 4)) (hk : Try.prog.underlying kt = some .string) (h : SetS (lk Γ) b l) (hx : x.length ≤ 1000) : QR Try.prog (.look t false) [.map (some b), strB x] Γ (.bool (decide (x ∈ l))) := by
  have := qr_look (kt_str hk) (t := t) (et := 4) (z := .bool false) ht (zero_run (by kernel_rfl)) false h hx
  rw [mget_set, List.map_id] at this
  by_cases e : x ∈ l
  · rw [if_pos e] at this
    simpa [e] using this
  · rw [if_neg e] at this
    simpa [e] using this
theorem s_addT {Γr : Ctx} {d : Option Nat} {r : List SOper} {φ : Fr} {Γ : Ctx} {K : Fr → Ctx → Prop} {t kt : TypeId} {g : PH} {ix b : Nat} {l : List (List UInt8)} (ht : Try.prog.underlying t = some (.map kt 4)) (hkt : Try.prog.underlying kt = some .string) (hg : Γ[ix]? = some g) (hm : StrM g b l) {x : List UInt8} (hx : x.length ≤ 1000)
    (hk : ∀ g', StrM g' b (addT l x) → (∀ k, k ≠ b → g' k = g k) → vcOps Try.prog Γr r (put φ d (.v true undef)) (Γ.set ix g') K) : aC Try.prog Γr d r φ Γ K (.upd t) [.map (some b), strB x, .bool true] := by
  refine s_upd (kt_str hkt) (eV := Value.bool) ht hg hm true hx fun g' h ho => hk g' ?_ ho
  unfold addT
  split
  · rename_i h1
    rw [mset_dupT h1] at h
    exact h
  · rename_i h1
    have := mput_set id l x (by simpa using h1)
    simp only [id] at this
    rw [this] at h
    exact h
/-! a row of sets -/
structure RowS (g : PH) (bo : Nat) (T : TypeId) (maps : List (List (List UInt8))) (bs : List Nat) : Prop where
  len : bs.length = maps.length
  out : g bo = some (.cells (bs.map fun b => Value.map (some b)).toArray T (0, 0))
  nodup : bs.Nodup
  apart : bo ∉ bs
  map : ∀ (i b : Nat) l, bs[i]? = some b → maps[i]? = some l → StrM g b l
def GridS (g : PH) (bo : Nat) (T : TypeId) (maps : List (List (List UInt8))) : Prop := ∃ bs, RowS g bo T maps bs
theorem GridS.mono {g g' : PH} {bo : Nat} {T : TypeId} {maps : List (List (List UInt8))} (h : GridS g bo T maps) (hl : Mem.le (lk [g]) (lk [g'])) : GridS g' bo T maps := by
  obtain ⟨bs, h⟩ := h
  exact ⟨bs, h.len, lk_one.1 (hl _ _ (lk_one.2 h.out)), h.nodup, h.apart, fun i b l h1 h2 => (h.map i b l h1 h2).mono hl⟩
theorem nodup_inj {l : List Nat} (h : l.Nodup) {i j : Nat} (hi : i < l.length) (hj : j < l.length) (e : l[i] = l[j]) : i = j := by
  rcases Nat.lt_trichotomy i j with q | q | q
  · exact absurd e ((List.pairwise_iff_getElem.1 h) i j hi hj q)
  · exact q
  · exact absurd e.symm ((List.pairwise_iff_getElem.1 h) j i hj hi q)
/-- maps[i] -/
theorem GridS.at' {g : PH} {bo : Nat} {T : TypeId} {maps : List (List (List UInt8))} (h : GridS g bo T maps) {i : Nat} (hi : i < maps.length) :
    ∃ b, (∀ Γ : Ctx, g ∈ Γ → Cells Γ bo i [.map (some b)]) ∧ StrM g b maps[i] ∧ b ≠ bo ∧ ∀ g' l, StrM g' b l → (∀ k, k ≠ b → g' k = g k) → GridS g' bo T (maps.set i l) := by
  obtain ⟨bs, h⟩ := h
  have hib : i < bs.length := by rw [h.len]; exact hi
  refine ⟨bs[i], fun Γ hg => ⟨g, hg, _, T, _, h.out, fun j hj => ?_⟩, h.map i _ _ (List.getElem?_eq_getElem hib) (List.getElem?_eq_getElem hi), fun e => h.apart (e ▸ List.getElem_mem hib), fun g' l hl ho => ⟨bs, ?_, ?_, h.nodup, h.apart, fun j b l' h1 h2 => ?_⟩⟩
  · have : j = 0 := by simp at hj; exact hj
    subst this
    simp [hib]
  · rw [List.length_set]; exact h.len
  · rw [ho bo (fun e => h.apart (by rw [e]; exact List.getElem_mem hib))]; exact h.out
  · by_cases e : j = i
    · subst e
      rw [List.getElem?_eq_getElem hib] at h1
      rw [List.getElem?_set_self hi] at h2
      cases h1
      cases h2
      exact hl
    · rw [List.getElem?_set_ne (fun q => e q.symm)] at h2
      have hne : b ≠ bs[i] := fun q => by
        subst q
        obtain ⟨hj, h3⟩ := List.getElem?_eq_some_iff.1 h1
        exact e (nodup_inj h.nodup hj hib h3)
      have hm := h.map j b l' h1 h2
      obtain ⟨es, c, q1, q2⟩ := hm.at'
      exact ⟨MapL.nodup hm, MapL.good hm, es, c, by rw [ho b hne]; exact q1, q2⟩
/-- the sets that have been made so far -/
structure PartS (g : PH) (bo : Nat) (T : TypeId) (m : Nat) (bs : List Nat) : Prop where
  len : bs.length ≤ m
  out : g bo = some (.cells (bs.map (fun b => Value.map (some b)) ++ List.replicate (m - bs.length) (Value.map none)).toArray T (0, 0))
  nodup : bs.Nodup
  apart : bo ∉ bs
  map : ∀ b ∈ bs, StrM g b []
theorem PartS.made (bo : Nat) (T : TypeId) (m : Nat) : PartS (one bo (.cells (zerosL [Value.map none] m).toArray T)) bo T m [] := by
  refine ⟨by simp, ?_, by simp, by simp, by simp⟩
  rw [one_self]
  congr 3
  induction m with
  | zero => rfl
  | succ m ih => simp [zerosL, List.replicate_succ, ih]
end Go.Proofs.Ytniobbepliknmaa.V
/- Small numbers as sets of bits; no condition. -/
namespace Go.Proofs.Ytniobbepliknmaa.V
open Go
set_option linter.unusedVariables false
set_option linter.unusedSimpArgs false

def Uns (k : IntKind) : Prop := k = .u32 ∨ k = .u64
theorem wrapU {k : IntKind} (hk : Uns k) {n : Nat} (h : n < 4294967296) : k.wrap (n : Int) = (n : Int) := by
  rcases hk with rfl | rfl
  · rw [IntKind.wrap_u32]; omega
  · rw [IntKind.wrap_u64]; omega
theorem ofIntU {k : IntKind} (hk : Uns k) {n : Nat} (h : n < 4294967296) : (BitVec.ofInt k.bits (n : Int)).toNat = n := by
  rw [BitVec.ofInt_natCast, BitVec.toNat_ofNat]
  apply Nat.mod_eq_of_lt
  rcases hk with rfl | rfl <;> simp [IntKind.bits] <;> omega
theorem bit_and {k : IntKind} (hk : Uns k) {x y : Nat} (hx : x < 4294967296) (hy : y < 4294967296) : fnV (.bits .and) [.int k x, .int k y] = some (.int k ((x &&& y : Nat) : Int)) := by
  have hb : (k == k) = true := by cases k <;> rfl
  simp only [fnV, hb, cond_true]
  rw [BitVec.toNat_and, ofIntU hk hx, ofIntU hk hy, wrapU hk]
  exact Nat.lt_of_le_of_lt Nat.and_le_left hx
end Go.Proofs.Ytniobbepliknmaa.V
/- Natural numbers and headers of slices as data; copy; no condition. -/
namespace Go.Proofs.Ytniobbepliknmaa.V
open Go
set_option linter.unusedVariables false
set_option linter.unusedSimpArgs false
attribute [local go_sem] e_seq e_region e_quiet e_join e_loop e_cond e_block e_exit e_ret e_skip e_fin e_kseq e_snrm e_sret e_sex e_bnrm e_bret e_bex e_rnrm e_rret e_res e_condC e_nil e_g e_mv g_mv e_pick g_pick pickC_eq e_ibin g_ibin ibinC_eq e_sbin g_sbin e_beq g_beq beqC_eq e_nilq g_nilq nilqC_sl nilqC_pt nilqC_mp e_un g_un unC_not unC_neg e_conv g_conv convC_eq e_fld g_fld fldC_ref fldC_ptr e_nilCheck g_nilCheck nilCheckC_ref nilCheckC_ptr nilCheckC_fun e_field g_field fieldC_eq e_len g_len lenC_sl lenC_str e_extract g_extract extractC_eq e_mkFunc e_build g_build e_idiv g_idiv idivC_eq e_ishift g_ishift ishiftC_eq e_idx g_idx e_idxA g_idxA e_load g_load e_loadB g_loadB atB_ref atB_v g_mkFunc loadC_ref loadC_ptr loadB_eq e_slc g_slc e_box boxC_loc boxC_esc e_alloc allocC_loc allocC_esc e_buildS e_store storeC_ref storeC_ptr storeB_eq e_append e_appz e_mk mkC_eq e_call callC_eq e_fn g_fn fnC_eq fnV_min' fnV_max' fnV_rune' e_q g_q e_a e_n g_call g_box g_alloc g_buildS g_store g_append g_mk g_a g_n g_dead e_dead e_callK e_drawn e_tree e_finJ e_tk e_tfin e_tno e_nbt_q e_nbt_qn e_nbt_a e_nbt_an e_nbt_fin e_drawnB e_bxb_nil e_bxb e_stB_none e_stB_some boxSt_store bs_mv bs_pick bs_ibin bs_idiv bs_ishift bs_sbin bs_beq bs_nilq bs_un bs_conv bs_box bs_alloc bs_build bs_buildS bs_load bs_fld bs_nilCheck bs_idx bs_idxA bs_field bs_slc bs_len bs_append bs_appz bs_mk bs_call bs_extract bs_mkFunc bs_fn bs_q bs_a bs_n bs_loadB bs_dead isBox_box e_early_nil e_early_t e_early_f e_nob_nil e_nob_none e_nob_some isBox_dead isBox_v isBox_ref e_dnil e_dk e_ek e_finB vcOps_vc1 e_dcons e_tq e_ekt e_tearly e_talt e_dearly look_nil look_c proj_nil proj_c looks_nil looks_c zip_nil zip_c val_tmp val_const val_func slv_v slv_box slv_ref slot_tmp slot_const slot_func slotL_v slotL_box slotL_ref put_some put_none updBox_c boxSet_box gd_eq slotVals_nil slotVals_c slotVals_b boxV_box boxOn_box slotsOn_nil slotsOn_c slotsOn_b resV_one resV_two vals_nil vals_c allOn_nil allOn_c partOn_nil partOn_c partVals_nil partVals_c fits_nil fits_c fillL_nil fillL_c mkv_one mkv_agg cellsV_agg cellsV_int cellsV_bool cellsV_slice cellsV_string cellsV_pointer cellsV_func cellsV_nilf cellsV_map one'_nil one'_c oc_int oc_bool oc_slice oc_string oc_pointer oc_func oc_nilf oc_map setC_eq iv_add iv_sub iv_mul iv_eql iv_neq iv_lss iv_leq iv_gtr iv_geq iok_add iok_sub iok_mul iok_eql iok_neq iok_lss iok_leq iok_gtr iok_geq pickV_bool args0_nil args0_c bnd_none bnd_some imp_bt imp_bf imp_ebt imp_ebf imp_eb1 imp_np imp_pp beq_tt beq_tf beq_ft beq_ff cond_or cond_and e_round e_meet Int.le_refl Int.toNat_zero decide_true decide_false Bool.or_false Bool.false_or Bool.true_or Bool.or_true Bool.and_false Bool.false_and Bool.bne_false Bool.bne_true beq_iff_eq Int.cast_ofNat_Int not_false_eq_true not_true_eq_false false_and and_false false_implies true_implies true_and and_true Bool.true_and Bool.and_true Bool.not_true Bool.not_false forall_const implies_true List.take_zero List.drop_zero List.take_succ_cons List.drop_succ_cons List.take_nil List.drop_nil List.length_cons List.length_nil List.nil_append List.append_nil List.cons_append Int.toNat_natCast decide_eq_true_eq decide_eq_false_iff_not cond_true cond_false and_self List.getElem?_cons_zero List.getElem?_cons_succ List.set_cons_zero List.set_cons_succ Option.some.injEq exists_eq_left' Nat.zero_add Nat.add_zero Nat.mul_one imp_self true_or or_true or_false false_or Bool.or_eq_true Bool.or_eq_false_iff Bool.and_eq_true Bool.and_eq_false_iff Bool.not_eq_true' Bool.not_eq_false'

instance : Sc Nat := ⟨fun x => .int .i64 (x : Int), fun _ => rfl, fun _ => rfl⟩
/-- a slice's header -/
structure Hd where
  A : Option Addr
  n : Nat
  c : Nat
def Hd.v (h : Hd) : Value := .slice h.A h.n h.c
instance : Sc Hd := ⟨Hd.v, fun _ => rfl, fun _ => rfl⟩
theorem SlOk.nat {h : Mem} {A : Option Addr} {c : Nat} {xs : List Nat} (q : SlOk h A c xs) {i : Nat} (hi : i < xs.length) :
    ∃ b o, A = some ⟨b, o, none⟩ ∧ ∀ Γ : Ctx, Mem.le h (lk Γ) → Cells Γ b (o + i) [.int .i64 (xs[i] : Nat)] := by
  obtain ⟨b, o, hA, cs, h1, h2⟩ := q.get hi
  obtain rfl := ok_sc h1
  exact ⟨b, o, hA, fun Γ h => by simpa [Rep.sz, Sc.enc] using h2 Γ h⟩
theorem SlOk.hd {h : Mem} {A : Option Addr} {c : Nat} {xs : List Hd} (q : SlOk h A c xs) {i : Nat} (hi : i < xs.length) :
    ∃ b o, A = some ⟨b, o, none⟩ ∧ ∀ Γ : Ctx, Mem.le h (lk Γ) → Cells Γ b (o + i) [.slice xs[i].A xs[i].n xs[i].c] := by
  obtain ⟨b, o, hA, cs, h1, h2⟩ := q.get hi
  obtain rfl := ok_sc h1
  exact ⟨b, o, hA, fun Γ h => by simpa [Rep.sz, Sc.enc, Hd.v] using h2 Γ h⟩
/-- headers, each of which leads to its list -/
def HdsOk {α : Type} [Rep α] (L : Mem) (hs : List Hd) (xss : List (List α)) : Prop := hs.length = xss.length ∧ ∀ (i : Nat) (h : Hd) (xs : List α), hs[i]? = some h → xss[i]? = some xs → h.n = xs.length ∧ SlOk L h.A h.c xs
theorem HdsOk.mono {α : Type} [Rep α] {L L' : Mem} {hs : List Hd} {xss : List (List α)} (h : HdsOk L hs xss) (hL : Mem.le L L') : HdsOk L' hs xss :=
  ⟨h.1, fun i x xs h1 h2 => let ⟨q1, q2⟩ := h.2 i x xs h1 h2; ⟨q1, q2.mono hL⟩⟩
theorem HdsOk.slok {α : Type} [Rep α] {L L1 L2 : Mem} {A : Option Addr} {c : Nat} {hs : List Hd} {xss : List (List α)} (h : SlOk L1 A c hs) (hx : HdsOk L2 hs xss) (h1 : Mem.le L1 L) (h2 : Mem.le L2 L) : SlOk L A c xss := by
  have hl := hx.1
  refine ⟨by rw [← hl]; exact h.cap, h.max, by rw [← hl]; exact h.short, ?_⟩
  rcases h.at' with q | ⟨b, o, cells, T, fr, hA, hb, hq⟩
  · subst q
    exact .inl (List.eq_nil_of_length_eq_zero (by simpa using hl.symm))
  · refine .inr ⟨b, o, cells, T, fr, hA, h1 _ _ hb, fun i xs hi => ?_⟩
    have hil : i < hs.length := by rw [hl]; exact (List.getElem?_eq_some_iff.1 hi).1
    obtain ⟨cs, q1, q2⟩ := hq i _ (List.getElem?_eq_getElem hil)
    obtain rfl := ok_sc q1
    obtain ⟨r1, r2⟩ := hx.2 i _ xs (List.getElem?_eq_getElem hil) hi
    refine ⟨[.slice hs[i].A hs[i].n hs[i].c], ⟨hs[i].A, hs[i].c, by rw [r1], r2.mono h2⟩, q2⟩
theorem HdsOk.snoc {α : Type} [Rep α] {L L' : Mem} {hs : List Hd} {xss : List (List α)} {h : Hd} {xs : List α} (hx : HdsOk L hs xss) (hL : Mem.le L L') (hn : h.n = xs.length) (hh : SlOk L' h.A h.c xs) : HdsOk L' (hs ++ [h]) (xss ++ [xs]) := by
  refine ⟨by simp [hx.1], fun i y ys h1 h2 => ?_⟩
  have hl := hx.1
  rcases Nat.lt_trichotomy i hs.length with q | q | q
  · rw [List.getElem?_append_left q] at h1
    rw [List.getElem?_append_left (by omega)] at h2
    obtain ⟨r1, r2⟩ := hx.2 i y ys h1 h2
    exact ⟨r1, r2.mono hL⟩
  · subst q
    have h2' : (xss ++ [xs])[xss.length]? = some ys := by rw [← hl]; exact h2
    simp at h1 h2'
    subst h1 h2'
    exact ⟨hn, hh⟩
  · rw [List.getElem?_eq_none (by simp; omega)] at h1; cases h1
theorem HdsOk.set {α : Type} [Rep α] {L L' : Mem} {hs : List Hd} {xss : List (List α)} {h : Hd} {xs : List α} (i : Nat) (hx : HdsOk L hs xss) (hL : Mem.le L L') (hn : h.n = xs.length) (hh : SlOk L' h.A h.c xs) : HdsOk L' (hs.set i h) (xss.set i xs) := by
  refine ⟨by simp [hx.1], fun j y ys h1 h2 => ?_⟩
  by_cases e : j = i
  · subst e
    have hj : j < hs.length := by simpa using (List.getElem?_eq_some_iff.1 h1).1
    have hj2 : j < xss.length := by rw [← hx.1]; exact hj
    rw [List.getElem?_set_self hj] at h1
    rw [List.getElem?_set_self hj2] at h2
    cases h1; cases h2
    exact ⟨hn, hh⟩
  · rw [List.getElem?_set_ne (fun q => e q.symm)] at h1 h2
    obtain ⟨r1, r2⟩ := hx.2 j y ys h1 h2
    exact ⟨r1, r2.mono hL⟩
theorem HdsOk.made {α : Type} [Rep α] (L : Mem) (n : Nat) : HdsOk (α := α) L (List.replicate n ⟨none, 0, 0⟩) (List.replicate n []) := by
  refine ⟨by simp, fun i h xs h1 h2 => ?_⟩
  rw [List.getElem?_replicate] at h1 h2
  split at h1
  · rename_i q
    rw [if_pos q] at h2
    cases h1; cases h2
    exact ⟨rfl, SlOk.nil⟩
  · cases h1

/-! growing rows: each header's row is one of the heaps gs -/
def RowsG (gs : List PH) (hs : List Hd) (xss : List (List Nat)) : Prop := gs.length = xss.length ∧ hs.length = xss.length ∧ ∀ (i : Nat) (g : PH) (h : Hd) (xs : List Nat), gs[i]? = some g → hs[i]? = some h → xss[i]? = some xs → h.n = xs.length ∧ Bld g (lk []) 3 h.v xs
theorem RowsG.made (n : Nat) : RowsG (List.replicate n V.emp) (List.replicate n ⟨none, 0, 0⟩) (List.replicate n []) := by
  refine ⟨by simp, by simp, fun i g h xs h0 h1 h2 => ?_⟩
  rw [List.getElem?_replicate] at h0 h1 h2
  split at h1
  · rename_i q
    rw [if_pos q] at h0 h2
    cases h0; cases h1; cases h2
    exact ⟨rfl, Bld.nil _ _ _⟩
  · cases h1
theorem RowsG.put {gs : List PH} {hs : List Hd} {xss : List (List Nat)} (h : RowsG gs hs xss) {i : Nat} {g : PH} {y : Hd} {ys : List Nat} (hn : y.n = ys.length) (hb : Bld g (lk []) 3 y.v ys) : RowsG (gs.set i g) (hs.set i y) (xss.set i ys) := by
  refine ⟨by simp [h.1], by simp [h.2.1], fun j g' x xs h0 h1 h2 => ?_⟩
  by_cases e : j = i
  · subst e
    have hj : j < hs.length := by simpa using (List.getElem?_eq_some_iff.1 h1).1
    have h3 := h.1
    have h4 := h.2.1
    rw [List.getElem?_set_self (by omega)] at h0 h1 h2
    cases h0; cases h1; cases h2
    exact ⟨hn, hb⟩
  · rw [List.getElem?_set_ne (fun q => e q.symm)] at h0 h1 h2
    exact h.2.2 j g' x xs h0 h1 h2
theorem RowsG.at' {gs : List PH} {hs : List Hd} {xss : List (List Nat)} (h : RowsG gs hs xss) {i : Nat} (hi : i < xss.length) : ∃ g y, gs[i]? = some g ∧ hs[i]? = some y ∧ y.n = xss[i].length ∧ Bld g (lk []) 3 y.v xss[i] := by
  have h3 := h.1
  have h4 := h.2.1
  have h1 := h.2.2 i _ _ _ (List.getElem?_eq_getElem (by omega)) (List.getElem?_eq_getElem (by omega)) (List.getElem?_eq_getElem hi)
  exact ⟨_, _, List.getElem?_eq_getElem (by omega), List.getElem?_eq_getElem (by omega), h1.1, h1.2⟩
theorem RowsG.hds {gs : List PH} {hs : List Hd} {xss : List (List Nat)} {L : Mem} (h : RowsG gs hs xss) (hL : ∀ g ∈ gs, Mem.le (lk [g]) L) (hs' : ∀ xs ∈ xss, xs.length ≤ 140737488355328) : HdsOk L hs xss := by
  refine ⟨h.2.1, fun i y xs h1 h2 => ?_⟩
  have hi := (List.getElem?_eq_some_iff.1 h2).1
  have h3 := h.1
  obtain ⟨q1, q2⟩ := h.2.2 i _ y xs (List.getElem?_eq_getElem (by omega)) h1 h2
  obtain ⟨A, c, e, q3⟩ := q2.slok (hL _ (List.getElem_mem (by omega))) (fun b o ⟨x, hx, _⟩ => by cases hx) (hs' _ (List.mem_of_getElem? h2))
  obtain ⟨yA, yn, yc⟩ := y
  simp only [Hd.v, Value.slice.injEq] at e
  obtain ⟨rfl, rfl, rfl⟩ := e
  exact ⟨rfl, q3⟩

section
variable {P : Program} {Γr : Ctx} {d : Option Nat} {r : List SOper} {φ : Fr} {Γ : Ctx} {K : Fr → Ctx → Prop}
/-- copy(xs[o:], ys): what is copied lies somewhere -/
theorem s_copy {α : Type} [Sc α] {g : PH} {ix : Nat} {T t u e : TypeId} {b o n c m m' : Nat} {A' : Option Addr} {xs ys : List α} (ht : P.underlying t = some (.slice e)) (hz : szOf P e = some 1)
    (hg : Γ[ix]? = some g) (h : Arr g b T xs) (hn : o + n = xs.length) (hy : min m n = ys.length)
    (hc : 0 < ys.length → ∃ b' o', A' = some ⟨b', o', none⟩ ∧ Cells (Γ ++ Γr) b' o' (ys.map Sc.enc)) (hp : ys.length = 0 → A' = none ∨ ∃ b' o', A' = some ⟨b', o', none⟩)
    (hk : ∀ g', Arr g' b T (xs.take o ++ ys ++ xs.drop (o + ys.length)) → (∀ k, k ≠ b → g' k = g k) → vcOps P Γr r (put φ d (.v true (.int .i64 ys.length))) (Γ.set ix g') K) :
    aC P Γr d r φ Γ K (.bi 2 [t, u]) [.slice (some ⟨b, o, none⟩) n c, .slice A' m m'] := by
  intro w hw
  have hgΓ : g ∈ Γ := List.mem_of_getElem? hg
  have hb := hw g (by simp [hgΓ]) b _ h
  have hst := run_storeCells_at P b o T (ys.map Sc.enc) 0 (xs.map Sc.enc).toArray w hb (by simp; omega) (fun v hv => by obtain ⟨x, _, rfl⟩ := List.mem_map.1 hv; exact Sc.one x)
  simp only [Nat.add_zero] at hst
  obtain ⟨_, ti, hti, his⟩ := szOf_some hz
  have hsz : (sizeOf e).run P w = .ok 1 w := by simp [sizeOf, typeInfo, hti, his]
  have hfirst : (Builtin.firstCells 1 (min m n) (.slice A' m m')).run P w = .ok (ys.map Sc.enc).toArray w := by
    rcases Nat.eq_zero_or_pos ys.length with q | q
    · have : ys = [] := List.eq_nil_of_length_eq_zero q
      subst this
      rw [hy]
      rcases hp q with rfl | ⟨b', o', rfl⟩
      · simp [Builtin.firstCells]
      · simp [Builtin.firstCells, loadCells, loadCellsFrom]
    · obtain ⟨b', o', rfl, gg, hgg, cells, T', fr, hbb, hcs⟩ := hc q
      have hbw := hw gg hgg b' _ hbb
      have hl := run_loadCells_list (P := P) w ⟨b', o', none⟩ (ys.map Sc.enc) (fun j v hj => by
        have hj' := (List.getElem?_eq_some_iff.1 hj).1
        simp only [add_mk, World.cell?, hbw, hcs j hj', hj]
        rfl)
      rw [hy]
      simp only [Builtin.firstCells, Nat.mul_one]
      simpa using hl
  refine ⟨.int .i64 ys.length, _, 0, ?_, .inr ⟨ix, g, b, _, _, hg, h, (setRow_setBlk (cs := ((xs.map Sc.enc).toArray.toList.take o ++ ys.map Sc.enc ++ (xs.map Sc.enc).toArray.toList.drop (o + (ys.map Sc.enc).length)).toArray) hb), ?_⟩⟩
  · have hy' : Nat.min m n = ys.length := hy
    simp only [qsem]
    have hf2 := hfirst
    rw [hy] at hf2
    simp [Builtin.copy_, run_underlying ht, Builtin.lenOf, hsz, hy', hf2, hst, goInt, Result.andThen]
    rfl
  · refine hk _ ?_ (fun k hne => upd_other hne)
    unfold Arr
    rw [upd_self]
    congr 2
    simp
end
theorem Ent.emps (Γ : Ctx) : ∀ n, Ent Γ (List.replicate n V.emp ++ Γ)
  | 0 => Ent.refl Γ
  | n + 1 => (Ent.emps Γ n).trans (by rw [List.replicate_succ]; exact Ent.emp _)
/-- many heaps are one -/
theorem Up.gather {X Y : Ctx} {Φ : Ctx → Prop} (h : ∀ g, Mem.le (lk X) (lk [g]) → Up (g :: Y) Φ) : Up (X ++ Y) Φ := fun ha => by
  obtain ⟨h1, h2, h3⟩ := List.pairwise_append.1 ha
  have he : Ent (X ++ Y) (unis X :: Y) := by
    refine ⟨fun g hg k o hk => ?_, fun _ => List.pairwise_cons.2 ⟨fun y hy => ?_, h2⟩⟩
    · rcases List.mem_cons.1 hg with rfl | hg
      · obtain ⟨x, hx, q⟩ := unis_some hk
        exact ⟨x, by simp [hx], q⟩
      · exact ⟨g, by simp [hg], hk⟩
    · exact (disj_unis fun g hg => (h3 g hg y hy).symm).symm
  obtain ⟨Γ', q1, q2⟩ := h (unis X) (lk_unis h1) (he.apart ha)
  exact ⟨Γ', he.trans q1, q2⟩
theorem Up.perm {Γ Γ' : Ctx} {Φ : Ctx → Prop} (hp : Γ.Perm Γ') (h : Up Γ' Φ) : Up Γ Φ := fun ha => by
  obtain ⟨Γ2, q1, q2⟩ := h ((Ent.perm hp).apart ha)
  exact ⟨Γ2, (Ent.perm hp).trans q1, q2⟩
end Go.Proofs.Ytniobbepliknmaa.V
/- Partitions of states (Hopcroft) as plain law; no condition. -/
namespace Go.Proofs.Ytniobbepliknmaa.V
open Go
set_option linter.unusedVariables false
set_option linter.unusedSimpArgs false

/-- what a state of the complete automaton tells -/
def fA (d : Da) (s : Nat) : Int := (d.ac ++ [-1]).getD s (-1)
def goN (d : Da) (s : Nat) (w : List Int) : Nat := w.foldl (gI d) s
def tlN (d : Da) (s : Nat) (w : List Int) : Int := fA d (goN d s w)
theorem tlN_cons (d : Da) (s : Nat) (c : Int) (w : List Int) : tlN d s (c :: w) = tlN d (gI d s c) w := rfl
theorem gI_le {d : Da} (V : VD d) {s : Nat} {c : Nat} (hc : c < colsD d) : gI d s c ≤ d.nx.length := (stI_g V (s := s) (c := c) (by omega)).2

/-- a partition of N states: the number of each one's block, and the blocks -/
structure PrtN (N : Nat) (of : List Nat) (bl : List (List Nat)) : Prop where
  len : of.length = N
  lt : ∀ s, s < N → of.getD s 0 < bl.length
  mem : ∀ b, b < bl.length → ∀ s, s ∈ bl.getD b [] ↔ s < N ∧ of.getD s 0 = b
  nd : ∀ b, b < bl.length → (bl.getD b []).Nodup
  ne : ∀ b, b < bl.length → bl.getD b [] ≠ []
theorem PrtN.short {N : Nat} {of : List Nat} {bl : List (List Nat)} (h : PrtN N of bl) {b : Nat} (hb : b < bl.length) : (bl.getD b []).length ≤ N :=
  nodup_bound N _ (h.nd b hb) fun x hx => ((h.mem b hb x).1 hx).1
theorem PrtN.count {N : Nat} {of : List Nat} {bl : List (List Nat)} (h : PrtN N of bl) : bl.length ≤ N := by
  have hx : ∀ b, b < bl.length → (bl.getD b []).headD 0 ∈ bl.getD b [] := fun b hb => by
    have := h.ne b hb
    cases hq : bl.getD b [] with
    | nil => exact absurd hq this
    | cons x r => simp
  have := nodup_bound N ((List.range bl.length).map fun b => (bl.getD b []).headD 0) (by
    rw [List.Nodup, List.pairwise_map]
    refine List.Pairwise.imp_of_mem ?_ List.nodup_range
    intro a b ha hb hab e
    have ha := List.mem_range.1 ha
    have hb := List.mem_range.1 hb
    have h1 := ((h.mem a ha _).1 (hx a ha)).2
    have h2 := ((h.mem b hb _).1 (hx b hb)).2
    rw [e] at h1
    exact hab (h1.symm.trans h2)) (by
    intro x hq
    obtain ⟨b, hb, rfl⟩ := List.mem_map.1 hq
    have hb := List.mem_range.1 hb
    exact ((h.mem b hb _).1 (hx b hb)).1)
  simpa using this

theorem getD_append_l {α : Type} {l m : List α} {i : Nat} {z : α} (h : i < l.length) : (l ++ m).getD i z = l.getD i z := by
  simp [List.getD_eq_getElem?_getD, List.getElem?_append_left h]
theorem getD_append_at {α : Type} {l : List α} {x z : α} : (l ++ [x]).getD l.length z = x := by
  simp [List.getD_eq_getElem?_getD]
theorem getD_setL {α : Type} {l : List α} {i j : Nat} {x z : α} (h : i < l.length) : (l.set i x).getD j z = if j = i then x else l.getD j z := by
  by_cases e : j = i
  · subst e; simp [List.getD_eq_getElem?_getD, h]
  · rw [if_neg e]; simp [List.getD_eq_getElem?_getD, List.getElem?_set_ne (fun q => e q.symm)]
/-- a block is divided -/
theorem PrtN.split {N : Nat} {of of' : List Nat} {bl : List (List Nat)} (h : PrtN N of bl) {b : Nat} (hb : b < bl.length) {p : Nat → Bool} {yes no : List Nat}
    (hy : yes = (bl.getD b []).filter p) (hn : no = (bl.getD b []).filter (fun s => !p s)) (hyne : yes ≠ []) (hnne : no ≠ [])
    (hl : of'.length = N) (hof : ∀ s, s < N → of'.getD s 0 = if s ∈ no then bl.length else of.getD s 0) : PrtN N of' (bl.set b yes ++ [no]) := by
  have hlen : (bl.set b yes ++ [no]).length = bl.length + 1 := by simp
  have hget : ∀ c, c < bl.length → (bl.set b yes ++ [no]).getD c [] = if c = b then yes else bl.getD c [] := fun c hc => by
    rw [getD_append_l (by simpa using hc), getD_setL hb]
  have hgn : (bl.set b yes ++ [no]).getD bl.length [] = no := by
    have := getD_append_at (l := bl.set b yes) (x := no) (z := [])
    rwa [List.length_set] at this
  have hno : ∀ s, s ∈ no ↔ s < N ∧ of.getD s 0 = b ∧ p s = false := fun s => by
    rw [hn, List.mem_filter, h.mem b hb]; simp [and_assoc]
  have hyes : ∀ s, s ∈ yes ↔ s < N ∧ of.getD s 0 = b ∧ p s = true := fun s => by
    rw [hy, List.mem_filter, h.mem b hb]; simp [and_assoc]
  refine ⟨hl, fun s hs => ?_, fun c hc s => ?_, fun c hc => ?_, fun c hc => ?_⟩
  · rw [hof s hs, hlen]
    split
    · omega
    · have := h.lt s hs; omega
  · rw [hlen] at hc
    by_cases e : c = bl.length
    · subst e
      rw [hgn]
      constructor
      · intro q
        have := (hno s).1 q
        exact ⟨this.1, by rw [hof s this.1, if_pos q]⟩
      · rintro ⟨q1, q2⟩
        rw [hof s q1] at q2
        split at q2
        · assumption
        · have := h.lt s q1; omega
    · rw [hget c (by omega)]
      by_cases e2 : c = b
      · subst e2
        rw [if_pos rfl, hyes]
        constructor
        · rintro ⟨q1, q2, q3⟩
          refine ⟨q1, ?_⟩
          rw [hof s q1, if_neg, q2]
          intro q
          have := (hno s).1 q
          rw [q3] at this
          exact absurd this.2.2 (by simp)
        · rintro ⟨q1, q2⟩
          rw [hof s q1] at q2
          split at q2
          · omega
          · rename_i q3
            refine ⟨q1, q2, ?_⟩
            cases hp : p s
            · exact absurd ((hno s).2 ⟨q1, q2, hp⟩) q3
            · rfl
      · rw [if_neg e2, h.mem c (by omega)]
        constructor
        · rintro ⟨q1, q2⟩
          refine ⟨q1, ?_⟩
          rw [hof s q1, if_neg, q2]
          intro q
          have := (hno s).1 q
          omega
        · rintro ⟨q1, q2⟩
          rw [hof s q1] at q2
          split at q2
          · omega
          · exact ⟨q1, q2⟩
  · rw [hlen] at hc
    by_cases e : c = bl.length
    · subst e
      rw [hgn, hn]
      exact (h.nd b hb).filter _
    · rw [hget c (by omega)]
      split
      · rw [hy]; exact (h.nd b hb).filter _
      · exact h.nd c (by omega)
  · rw [hlen] at hc
    by_cases e : c = bl.length
    · subst e
      rw [hgn]
      exact hnne
    · rw [hget c (by omega)]
      split
      · exact hyne
      · exact h.ne c (by omega)

/-- blocks are divided by what is in l, as far as the blocks of T; out: which blocks are new, and of which they were part -/
structure Spl (N : Nat) (l : List Nat) (of0 : List Nat) (m0 : Nat) (T : List Nat) (of : List Nat) (bl : List (List Nat)) (out : List (Nat × Nat)) : Prop where
  prt : PrtN N of bl
  new : ∀ s, s < N → of0.getD s 0 ∈ T → s ∉ l → (of0.getD s 0, of.getD s 0) ∈ out
  old : ∀ s, s < N → ¬ (of0.getD s 0 ∈ T ∧ s ∉ l) → of.getD s 0 = of0.getD s 0
  rng : ∀ x ∈ out, x.1 ∈ T ∧ x.1 < m0 ∧ m0 ≤ x.2 ∧ x.2 < bl.length
  nd1 : (out.map (·.1)).Nodup
  nd2 : (out.map (·.2)).Nodup
  cnt : bl.length = m0 + out.length
theorem Spl.init {N : Nat} {l of : List Nat} {bl : List (List Nat)} (h : PrtN N of bl) : Spl N l of bl.length [] of bl [] :=
  ⟨h, by simp, fun _ _ _ => rfl, by simp, by simp, by simp, by simp⟩
theorem Spl.blk {N : Nat} {l of0 of : List Nat} {m0 : Nat} {T : List Nat} {bl : List (List Nat)} {out : List (Nat × Nat)} (h : Spl N l of0 m0 T of bl out) (h0 : ∀ s, s < N → of0.getD s 0 < m0) {b : Nat} (hb : b < m0) (hbT : b ∉ T) (s : Nat) : s ∈ bl.getD b [] ↔ s < N ∧ of0.getD s 0 = b := by
  have hc := h.cnt
  rw [h.prt.mem b (by omega)]
  constructor
  · rintro ⟨q1, q2⟩
    refine ⟨q1, ?_⟩
    by_cases hq : of0.getD s 0 ∈ T ∧ s ∉ l
    · have := h.rng _ (h.new s q1 hq.1 hq.2)
      simp only at this
      omega
    · rw [← h.old s q1 hq]; exact q2
  · rintro ⟨q1, q2⟩
    refine ⟨q1, ?_⟩
    rw [h.old s q1 (fun q => hbT (q2 ▸ q.1)), q2]
/-- nothing to divide -/
theorem Spl.same {N : Nat} {l of0 of : List Nat} {m0 : Nat} {T : List Nat} {bl : List (List Nat)} {out : List (Nat × Nat)} (h : Spl N l of0 m0 T of bl out) (h0 : ∀ s, s < N → of0.getD s 0 < m0) {b : Nat} (hb : b < m0) (hbT : b ∉ T)
    (hno : (bl.getD b []).filter (fun s => !decide (s ∈ l)) = []) : Spl N l of0 m0 (T ++ [b]) of bl out := by
  refine ⟨h.prt, fun s hs h1 h2 => ?_, fun s hs hq => ?_, fun x hx => ?_, h.nd1, h.nd2, h.cnt⟩
  · simp only [List.mem_append, List.mem_singleton] at h1
    rcases h1 with h1 | h1
    · exact h.new s hs h1 h2
    · have := (h.blk h0 hb hbT s).2 ⟨hs, h1⟩
      have : s ∈ (bl.getD b []).filter (fun s => !decide (s ∈ l)) := List.mem_filter.2 ⟨this, by simp [h2]⟩
      rw [hno] at this
      cases this
  · exact h.old s hs fun q => hq ⟨List.mem_append_left _ q.1, q.2⟩
  · have := h.rng x hx
    exact ⟨by simp [this.1], this.2⟩
theorem Spl.part {N : Nat} {l of0 of of' : List Nat} {m0 : Nat} {T : List Nat} {bl : List (List Nat)} {out : List (Nat × Nat)} (h : Spl N l of0 m0 T of bl out) (h0 : ∀ s, s < N → of0.getD s 0 < m0) {b : Nat} (hb : b < m0) (hbT : b ∉ T) {yes no : List Nat}
    (hy : yes = (bl.getD b []).filter (fun s => decide (s ∈ l))) (hn : no = (bl.getD b []).filter (fun s => !decide (s ∈ l))) (hyne : yes ≠ []) (hnne : no ≠ [])
    (hl : of'.length = N) (hof : ∀ s, s < N → of'.getD s 0 = if s ∈ no then bl.length else of.getD s 0) : Spl N l of0 m0 (T ++ [b]) of' (bl.set b yes ++ [no]) (out ++ [(b, bl.length)]) := by
  have hc := h.cnt
  have hmn : ∀ s, s < N → (s ∈ no ↔ of0.getD s 0 = b ∧ s ∉ l) := fun s hs => by
    rw [hn, List.mem_filter, h.blk h0 hb hbT]
    simp [hs]
  refine ⟨h.prt.split (by omega) hy hn hyne hnne hl hof, fun s hs h1 h2 => ?_, fun s hs hq => ?_, fun x hx => ?_, ?_, ?_, by simp; omega⟩
  · simp only [List.mem_append, List.mem_singleton] at h1 ⊢
    rcases h1 with h1 | h1
    · left
      rw [hof s hs, if_neg (fun q => hbT (((hmn s hs).1 q).1 ▸ h1))]
      exact h.new s hs h1 h2
    · right
      rw [hof s hs, if_pos ((hmn s hs).2 ⟨h1, h2⟩), h1]
  · have hq' : ¬ (of0.getD s 0 ∈ T ∧ s ∉ l) := fun q => hq ⟨List.mem_append_left _ q.1, q.2⟩
    rw [hof s hs, if_neg (fun q => hq ⟨by rw [((hmn s hs).1 q).1]; simp, ((hmn s hs).1 q).2⟩)]
    exact h.old s hs hq'
  · simp only [List.mem_append, List.mem_singleton, List.length_append, List.length_set, List.length_cons, List.length_nil] at hx ⊢
    rcases hx with hx | rfl
    · have := h.rng x hx
      exact ⟨.inl this.1, this.2.1, this.2.2.1, by omega⟩
    · exact ⟨.inr rfl, hb, by simp only; omega, by simp only; omega⟩
  · rw [List.map_append, List.nodup_append]
    refine ⟨h.nd1, by simp, ?_⟩
    rintro x hx y hy rfl
    simp at hy
    subst hy
    obtain ⟨p, hp, rfl⟩ := List.mem_map.1 hx
    exact hbT (h.rng p hp).1
  · rw [List.map_append, List.nodup_append]
    refine ⟨h.nd2, by simp, ?_⟩
    rintro x hx y hy rfl
    simp at hy
    subst hy
    obtain ⟨p, hp, e⟩ := List.mem_map.1 hx
    have := h.rng p hp
    omega
theorem pair_inj1 {out : List (Nat × Nat)} (hn : (out.map (·.1)).Nodup) {b x y : Nat} (h1 : (b, x) ∈ out) (h2 : (b, y) ∈ out) : x = y := by
  induction out with
  | nil => cases h1
  | cons p r ih =>
    simp only [List.map_cons, List.nodup_cons] at hn
    rcases List.mem_cons.1 h1 with rfl | h3
    · rcases List.mem_cons.1 h2 with h2 | h2
      · simp only [Prod.mk.injEq] at h2; exact h2.2.symm
      · exact absurd (List.mem_map.2 ⟨(b, y), h2, rfl⟩) hn.1
    · rcases List.mem_cons.1 h2 with rfl | h4
      · exact absurd (List.mem_map.2 ⟨(b, x), h3, rfl⟩) hn.1
      · exact ih hn.2 h3 h4
theorem pair_inj2 {out : List (Nat × Nat)} (hn : (out.map (·.2)).Nodup) {b x y : Nat} (h1 : (x, b) ∈ out) (h2 : (y, b) ∈ out) : x = y := by
  induction out with
  | nil => cases h1
  | cons p r ih =>
    simp only [List.map_cons, List.nodup_cons] at hn
    rcases List.mem_cons.1 h1 with rfl | h3
    · rcases List.mem_cons.1 h2 with h2 | h2
      · simp only [Prod.mk.injEq] at h2; exact h2.1.symm
      · exact absurd (List.mem_map.2 ⟨(y, b), h2, rfl⟩) hn.1
    · rcases List.mem_cons.1 h2 with rfl | h4
      · exact absurd (List.mem_map.2 ⟨(x, b), h3, rfl⟩) hn.1
      · exact ih hn.2 h3 h4
/-- all blocks that have a state of l are divided -/
theorem Spl.iff {N : Nat} {l of0 of : List Nat} {m0 : Nat} {T : List Nat} {bl : List (List Nat)} {out : List (Nat × Nat)} (h : Spl N l of0 m0 T of bl out) (h0 : ∀ s, s < N → of0.getD s 0 < m0) (hT : ∀ s, s < N → s ∈ l → of0.getD s 0 ∈ T)
    {s t : Nat} (hs : s < N) (ht : t < N) : of.getD s 0 = of.getD t 0 ↔ of0.getD s 0 = of0.getD t 0 ∧ (s ∈ l ↔ t ∈ l) := by
  by_cases qs : of0.getD s 0 ∈ T ∧ s ∉ l <;> by_cases qt : of0.getD t 0 ∈ T ∧ t ∉ l
  · have hs1 := h.new s hs qs.1 qs.2
    have ht1 := h.new t ht qt.1 qt.2
    constructor
    · intro e
      rw [e] at hs1
      exact ⟨pair_inj2 h.nd2 hs1 ht1, by simp [qs.2, qt.2]⟩
    · rintro ⟨e, _⟩
      rw [e] at hs1
      exact pair_inj1 h.nd1 hs1 ht1
  · have hs1 := h.rng _ (h.new s hs qs.1 qs.2)
    simp only at hs1
    have ht1 := h.old t ht qt
    have := h0 t ht
    constructor
    · intro e; omega
    · rintro ⟨e, e2⟩
      exact absurd ⟨e ▸ qs.1, fun q => qs.2 (e2.2 q)⟩ qt
  · have ht1 := h.rng _ (h.new t ht qt.1 qt.2)
    simp only at ht1
    have hs1 := h.old s hs qs
    have := h0 s hs
    constructor
    · intro e; omega
    · rintro ⟨e, e2⟩
      exact absurd ⟨e ▸ qt.1, fun q => qt.2 (e2.1 q)⟩ qs
  · rw [h.old s hs qs, h.old t ht qt]
    constructor
    · intro e
      refine ⟨e, ?_⟩
      have a1 : of0.getD s 0 ∈ T → s ∈ l := fun q => Classical.byContradiction fun n => qs ⟨q, n⟩
      have a2 : of0.getD t 0 ∈ T → t ∈ l := fun q => Classical.byContradiction fun n => qt ⟨q, n⟩
      exact ⟨fun q => a2 (e ▸ hT s hs q), fun q => a1 (e ▸ hT t ht q)⟩
    · exact fun e => e.1

/-- what is still to be looked at: if two states of a block lead to different blocks, one of these is -/
def HInv (d : Da) (of : List Nat) (todo : List (Nat × Nat)) : Prop :=
  ∀ s t c, s ≤ d.nx.length → t ≤ d.nx.length → c < colsD d → of.getD s 0 = of.getD t 0 → of.getD (gI d s c) 0 ≠ of.getD (gI d t c) 0 → (of.getD (gI d s c) 0, c) ∈ todo ∨ (of.getD (gI d t c) 0, c) ∈ todo
/-- states of different blocks tell different things -/
structure HSnd (d : Da) (of : List Nat) : Prop where
  acc : ∀ s t, s ≤ d.nx.length → t ≤ d.nx.length → of.getD s 0 = of.getD t 0 → fA d s = fA d t
  dif : ∀ s t, s ≤ d.nx.length → t ≤ d.nx.length → of.getD s 0 ≠ of.getD t 0 → ∃ w, okW d w ∧ tlN d s w ≠ tlN d t w
theorem HSnd.next {d : Da} (V : VD d) {of0 of : List Nat} (h : HSnd d of0) {l : List Nat} {D c : Nat} (hc : c < colsD d) (hl : ∀ s, s ≤ d.nx.length → (s ∈ l ↔ of0.getD (gI d s c) 0 = D))
    (hi : ∀ s t, s ≤ d.nx.length → t ≤ d.nx.length → (of.getD s 0 = of.getD t 0 ↔ of0.getD s 0 = of0.getD t 0 ∧ (s ∈ l ↔ t ∈ l))) : HSnd d of := by
  refine ⟨fun s t hs ht e => h.acc s t hs ht ((hi s t hs ht).1 e).1, fun s t hs ht e => ?_⟩
  by_cases e0 : of0.getD s 0 = of0.getD t 0
  · have e1 : ¬ (s ∈ l ↔ t ∈ l) := fun q => e ((hi s t hs ht).2 ⟨e0, q⟩)
    rw [hl s hs, hl t ht] at e1
    have e2 : of0.getD (gI d s c) 0 ≠ of0.getD (gI d t c) 0 := fun q => e1 (by rw [q])
    obtain ⟨w, hw, hd⟩ := h.dif _ _ (gI_le V hc) (gI_le V hc) e2
    refine ⟨(c : Int) :: w, fun x hx => ?_, hd⟩
    rcases List.mem_cons.1 hx with rfl | hx
    · omega
    · exact hw x hx
  · exact h.dif s t hs ht e0
theorem HInv.next {d : Da} (V : VD d) {of0 of : List Nat} {todo todo0 todo' : List (Nat × Nat)} {l : List Nat} {D c0 : Nat} (h : HInv d of0 todo) (hc0 : c0 < colsD d)
    (hl : ∀ s, s ≤ d.nx.length → (s ∈ l ↔ of0.getD (gI d s c0) 0 = D)) {m0 : Nat} {T : List Nat} {bl : List (List Nat)} {out : List (Nat × Nat)} (hS : Spl (d.nx.length + 1) l of0 m0 T of bl out)
    (h0 : ∀ s, s < d.nx.length + 1 → of0.getD s 0 < m0) (hT : ∀ s, s < d.nx.length + 1 → s ∈ l → of0.getD s 0 ∈ T)
    (ht0 : ∀ x ∈ todo, x = (D, c0) ∨ x ∈ todo0) (hsub : ∀ x ∈ todo0, x ∈ todo')
    (hp : ∀ x ∈ out, ∀ c, c < colsD d → ((x.1, c) ∈ todo' ∨ (x.2, c) ∈ todo') ∧ ((x.1, c) ∈ todo0 → (x.2, c) ∈ todo')) : HInv d of todo' := by
  intro s t c hs ht hc e hne
  have hi := fun s t (hs : s ≤ d.nx.length) (ht : t ≤ d.nx.length) => hS.iff h0 hT (s := s) (t := t) (by omega) (by omega)
  obtain ⟨e1, e2⟩ := (hi s t hs ht).1 e
  have hu : gI d s c ≤ d.nx.length := gI_le V hc
  have hv : gI d t c ≤ d.nx.length := gI_le V hc
  -- a block of the old ones in todo0: the new one is in todo'
  have key : ∀ u, u ≤ d.nx.length → (of0.getD u 0, c) ∈ todo0 → (of.getD u 0, c) ∈ todo' := fun u hu hq => by
    by_cases q : of0.getD u 0 ∈ T ∧ u ∉ l
    · exact (hp _ (hS.new u (by omega) q.1 q.2) c hc).2 hq
    · rw [hS.old u (by omega) q]; exact hsub _ hq
  by_cases q : of0.getD (gI d s c) 0 = of0.getD (gI d t c) 0
  · -- one block, divided
    generalize hvv : gI d t c = v at *
    generalize huu : gI d s c = u at *
    have hne' : ¬ (u ∈ l ↔ v ∈ l) := fun q' => hne ((hi u v hu hv).2 ⟨q, q'⟩)
    by_cases qu : u ∈ l
    · have qv : v ∉ l := fun q' => hne' (by simp [qu, q'])
      have hTv : of0.getD v 0 ∈ T := q ▸ hT u (by omega) qu
      have h1 := hp _ (hS.new v (by omega) hTv qv) c hc
      rw [hS.old u (by omega) (fun q' => q'.2 qu), q]
      exact h1.1
    · have qv : v ∈ l := Classical.byContradiction fun q' => hne' (by simp [qu, q'])
      have hTu : of0.getD u 0 ∈ T := q ▸ hT v (by omega) qv
      have h1 := hp _ (hS.new u (by omega) hTu qu) c hc
      rw [hS.old v (by omega) (fun q' => q'.2 qv), ← q]
      exact h1.1.symm
  · have hnot : ∀ a b, a ≤ d.nx.length → b ≤ d.nx.length → (a ∈ l ↔ b ∈ l) → of0.getD (gI d a c) 0 ≠ of0.getD (gI d b c) 0 → (of0.getD (gI d a c) 0, c) ≠ (D, c0) := fun a b ha hb hab hq he => by
      simp only [Prod.mk.injEq] at he
      obtain ⟨he, rfl⟩ := he
      have h1 := (hl a ha).2 he
      have h2 := (hl b hb).1 (hab.1 h1)
      exact hq (he.trans h2.symm)
    rcases h s t c hs ht hc e1 q with q' | q'
    · rcases ht0 _ q' with q2 | q2
      · exact absurd q2 (hnot s t hs ht e2 q)
      · exact .inl (key _ hu q2)
    · rcases ht0 _ q' with q2 | q2
      · exact absurd q2 (hnot t s ht hs e2.symm (fun e => q e.symm))
      · exact .inr (key _ hv q2)
theorem HInv.done {d : Da} (V : VD d) {of : List Nat} (h : HInv d of []) (hS : HSnd d of) {s t : Nat} (hs : s ≤ d.nx.length) (ht : t ≤ d.nx.length) : of.getD s 0 = of.getD t 0 ↔ ∀ w, okW d w → tlN d s w = tlN d t w := by
  constructor
  · intro e w
    induction w generalizing s t with
    | nil => exact fun _ => hS.acc s t hs ht e
    | cons c w ih =>
      intro hw
      have hc := hw c (by simp)
      obtain ⟨k, rfl⟩ : ∃ k : Nat, c = k := ⟨c.toNat, by omega⟩
      rw [tlN_cons, tlN_cons]
      refine ih (gI_le V (by omega)) (gI_le V (by omega)) ?_ (fun x hx => hw x (by simp [hx]))
      apply Classical.byContradiction
      intro hne
      rcases h s t k hs ht (by omega) e hne with q | q <;> cases q
  · intro hw
    apply Classical.byContradiction
    intro hne
    obtain ⟨w, h1, h2⟩ := hS.dif s t hs ht hne
    exact h2 (hw w h1)
end Go.Proofs.Ytniobbepliknmaa.V
/- Ways between numbers (Warshall's closure): the plain law; no condition. -/
namespace Go.Proofs.Ytniobbepliknmaa.V
open Go
set_option linter.unusedVariables false
set_option linter.unusedSimpArgs false

def mat (w : List (List Bool)) (b c : Nat) : Bool := (w.getD b []).getD c false
structure Sq (n : Nat) (w : List (List Bool)) : Prop where
  len : w.length = n
  row : ∀ r ∈ w, r.length = n
theorem Sq.at' {n : Nat} {w : List (List Bool)} (h : Sq n w) {b : Nat} (hb : b < w.length) : w[b].length = n := h.row _ (List.getElem_mem hb)
def mset2 (w : List (List Bool)) (b c : Nat) (v : Bool) : List (List Bool) := w.set b ((w.getD b []).set c v)
theorem Sq.set {n : Nat} {w : List (List Bool)} (h : Sq n w) (b c : Nat) (v : Bool) : Sq n (mset2 w b c v) := by
  refine ⟨by simp [mset2, h.len], fun r hr => ?_⟩
  unfold mset2 at hr
  rcases Nat.lt_or_ge b w.length with hb | hb
  · rcases List.mem_or_eq_of_mem_set hr with q | q
    · exact h.row r q
    · subst q
      simp [hb, h.at' hb]
  · rw [List.set_eq_of_length_le hb] at hr
    exact h.row r hr
inductive PathK (E : Nat → Nat → Prop) (k : Nat) : Nat → Nat → Prop
  | one {b c : Nat} : E b c → PathK E k b c
  | trans {b m c : Nat} : PathK E k b m → m < k → PathK E k m c → PathK E k b c
theorem PathK.split {E : Nat → Nat → Prop} {k b c : Nat} (h : PathK E (k + 1) b c) : PathK E k b c ∨ (PathK E k b k ∧ PathK E k k c) := by
  induction h with
  | one h => exact .inl (.one h)
  | @trans b m c _ hm _ ih1 ih2 =>
    by_cases e : m = k
    · subst e
      refine .inr ⟨?_, ?_⟩
      · rcases ih1 with q | q
        · exact q
        · exact q.1
      · rcases ih2 with q | q
        · exact q
        · exact q.2
    · have hm' : m < k := by omega
      rcases ih1 with q | q
      · rcases ih2 with q' | q'
        · exact .inl (.trans q hm' q')
        · exact .inr ⟨.trans q hm' q'.1, q'.2⟩
      · rcases ih2 with q' | q'
        · exact .inr ⟨q.1, .trans q.2 hm' q'⟩
        · exact .inr ⟨q.1, q'.2⟩
theorem PathK.zero {E : Nat → Nat → Prop} {b c : Nat} (h : PathK E 0 b c) : E b c := by
  induction h with
  | one h => exact h
  | trans _ hm _ _ _ => omega
theorem mat_lt {n : Nat} {w : List (List Bool)} (h : Sq n w) {b c : Nat} (hm : mat w b c = true) : b < n ∧ c < n := by
  have hl := h.len
  rcases Nat.lt_or_ge b w.length with hb | hb
  · refine ⟨by omega, ?_⟩
    have hr := h.at' hb
    rcases Nat.lt_or_ge c w[b].length with hc | hc
    · omega
    · simp [mat, hb, List.getD_eq_getElem?_getD, List.getElem?_eq_none hc] at hm
  · simp [mat, List.getD_eq_getElem?_getD, List.getElem?_eq_none hb] at hm
theorem PathK.lt {n : Nat} {w : List (List Bool)} (h : Sq n w) {k b c : Nat} (hp : PathK (fun b c => mat w b c = true) k b c) : b < n ∧ c < n := by
  induction hp with
  | one h' => exact mat_lt h h'
  | trans _ _ _ ih1 ih2 => exact ⟨ih1.1, ih2.2⟩
end Go.Proofs.Ytniobbepliknmaa.V
/- Components of a grammar: the plain law; no condition. -/
namespace Go.Proofs.Ytniobbepliknmaa.V
open Go
set_option linter.unusedVariables false
set_option linter.unusedSimpArgs false

/-- one nonterminal stands on a right side of another one -/
def Edg (g : Gr) (x y : Nat) : Prop := ∃ r ∈ g.rs, r.l = (x : Int) ∧ ∃ s ∈ r.r, s.t = false ∧ s.n = (y : Int)
inductive RT (E : Nat → Nat → Prop) : Nat → Nat → Prop
  | refl (a : Nat) : RT E a a
  | step {a b c : Nat} : RT E a b → E b c → RT E a c
theorem RT.trans {E : Nat → Nat → Prop} {a b c : Nat} (h : RT E a b) (h' : RT E b c) : RT E a c := by
  induction h' with
  | refl => exact h
  | step _ e ih => exact .step ih e
theorem Edg.lt {g : Gr} (V : VG g) {x y : Nat} (h : Edg g x y) : (x : Int) < g.ns ∧ (y : Int) < g.ns := by
  obtain ⟨r, hr, h1, s, hs, h2, h3⟩ := h
  have a1 := V.left r hr
  have a2 := (V.sym r hr s hs).2.2 h2
  omega
def Mut (g : Gr) (a b : Nat) : Prop := RT (Edg g) a b ∧ RT (Edg g) b a
theorem Mut.refl (g : Gr) (a : Nat) : Mut g a a := ⟨.refl a, .refl a⟩
theorem Mut.symm {g : Gr} {a b : Nat} (h : Mut g a b) : Mut g b a := ⟨h.2, h.1⟩
theorem Mut.trans {g : Gr} {a b c : Nat} (h : Mut g a b) (h' : Mut g b c) : Mut g a c := ⟨h.1.trans h'.1, h'.2.trans h.2⟩
theorem nodup_sub : ∀ {l l' : List Int}, l.Nodup → (∀ x ∈ l, x ∈ l') → l.length ≤ l'.length
  | [], l', _, _ => by simp
  | x :: l, l', hn, hs => by
    have hx : x ∈ l' := hs x (by simp)
    have h2 := List.nodup_cons.1 hn
    have := nodup_sub (l := l) (l' := l'.erase x) h2.2 fun y hy => by
      have : y ≠ x := fun e => by subst e; exact h2.1 hy
      exact (List.mem_erase_of_ne this).2 (hs y (by simp [hy]))
    rw [List.length_erase_of_mem hx] at this
    have := List.length_pos_of_mem hx
    simp only [List.length_cons]
    omega
/-! the kind of a component -/
/-! all components -/
/-! what lies under a nonterminal, round by round -/
def Und (g : Gr) (a : Nat) (m : List Int) : Prop := m.Nodup ∧ (a : Int) ∈ m ∧ ∀ x ∈ m, ∃ b : Nat, x = b ∧ RT (Edg g) a b
end Go.Proofs.Ytniobbepliknmaa.V
/- The text of slices.Clone[[]int,int] as a statement (slots: 0 s, 1 s); no condition. -/
namespace Go.Proofs.Ytniobbepliknmaa.V
open Go
def S111_0 : Stmt :=
  Stmt.seq (Stmt.region [SOper.mk (some 2) none (SOp.mv (Operand.const (Value.slice none 0 0)))] [0])
  (Stmt.seq
    (Stmt.seq
      (Stmt.region
        [SOper.mk (some 3) none (SOp.mv (Operand.tmp 0)),
          SOper.mk (some 4) none (SOp.nilq 0 false (Operand.tmp 3) (Operand.const (Value.slice none 0 0)))]
        [0, 4])
      (Stmt.cond (Operand.tmp 4)
        (Stmt.seq (Stmt.region [SOper.mk (some 2) none (SOp.mv (Operand.const (Value.slice none 0 0)))] [2]) Stmt.ret)
        Stmt.skip))
    (Stmt.seq
      (Stmt.region
        [SOper.mk (some 5) none (SOp.buildS 3 0 [] []), SOper.mk (some 6) none (SOp.mv (Operand.tmp 0)),
          SOper.mk (some 7) none (SOp.append 29 3 1 8 (Value.int IntKind.i64 0) (Operand.tmp 5) (Operand.tmp 6)),
          SOper.mk (some 2) none (SOp.mv (Operand.tmp 7))]
        [2])
      Stmt.ret))
def S111 : FnS := ⟨8, [(2, none)], S111_0⟩
theorem tr111 : trFn Try.prog 111 [] [[0], [0, 4], [2], [2]] = some S111 := by kernel_rfl
end Go.Proofs.Ytniobbepliknmaa.V
/- The text of slices.Index[[]int,int] as a statement (slots: 0 s, 1 v, 2 s, 3 v, 5 i); no condition. -/
namespace Go.Proofs.Ytniobbepliknmaa.V
open Go
def S107_1 : Stmt :=
  Stmt.seq (Stmt.region [SOper.mk (some 9) none (SOp.ibin BinOp.lss (Operand.tmp 8) (Operand.tmp 7))] [0, 1, 7, 8, 9])
  (Stmt.seq (Stmt.cond (Operand.tmp 9) Stmt.skip (Stmt.exit 0))
    (Stmt.seq
      (Stmt.block 1
        (Stmt.seq
          (Stmt.region
            [SOper.mk (some 10) none (SOp.mv (Operand.tmp 8)), SOper.mk (some 5) none (SOp.mv (Operand.tmp 10))]
            [0, 1, 5, 7, 8])
          (Stmt.seq
            (Stmt.region
              [SOper.mk (some 11) none (SOp.mv (Operand.tmp 1)), SOper.mk (some 12) none (SOp.mv (Operand.tmp 0)),
                SOper.mk (some 13) none (SOp.mv (Operand.tmp 5)),
                SOper.mk (some 14) none (SOp.idx 1 (Operand.tmp 12) (Operand.tmp 13)),
                SOper.mk (some 15) none (SOp.load false 1 (Operand.tmp 14)),
                SOper.mk (some 16) none (SOp.ibin BinOp.eql (Operand.tmp 11) (Operand.tmp 15))]
              [0, 1, 5, 7, 8, 16])
            (Stmt.cond (Operand.tmp 16)
              (Stmt.seq
                (Stmt.region
                  [SOper.mk (some 17) none (SOp.mv (Operand.tmp 5)), SOper.mk (some 4) none (SOp.mv (Operand.tmp 17))]
                  [4])
                Stmt.ret)
              Stmt.skip))))
      (Stmt.region
        [SOper.mk (some 18) none (SOp.ibin BinOp.add (Operand.tmp 8) (Operand.const (Value.int IntKind.i64 1))),
          SOper.mk (some 8) none (SOp.mv (Operand.tmp 18))]
        [0, 1, 7, 8])))
def S107_0 : Stmt :=
  Stmt.seq (Stmt.region [SOper.mk (some 4) none (SOp.mv (Operand.const (Value.int IntKind.i64 0)))] [0, 1])
  (Stmt.seq
    (Stmt.seq
      (Stmt.region
        [SOper.mk (some 6) none (SOp.mv (Operand.tmp 0)), SOper.mk (some 7) none (SOp.len false (Operand.tmp 6)),
          SOper.mk (some 8) none (SOp.mv (Operand.const (Value.int IntKind.i64 0)))]
        [0, 1, 7, 8])
      (Stmt.block 0 (Stmt.loop S107_1 [8] [0, 1, 7])))
    (Stmt.seq (Stmt.region [SOper.mk (some 4) none (SOp.mv (Operand.const (Value.int IntKind.i64 (-1))))] [4])
      Stmt.ret))
def S107 : FnS := ⟨19, [(4, none)], S107_0⟩
theorem tr107 : trFn Try.prog 107 [] [[0, 1], [0, 1, 7, 8], [8], [0, 1, 7], [0, 1, 7, 8, 9], [0, 1, 5, 7, 8], [0, 1, 5, 7, 8, 16], [4], [0, 1, 7, 8], [4]] = some S107 := by kernel_rfl
end Go.Proofs.Ytniobbepliknmaa.V
/- The text of slices.Contains[[]int,int] as a statement (slots: 0 s, 1 v, 2 s, 3 v); no condition. -/
namespace Go.Proofs.Ytniobbepliknmaa.V
open Go
def S32_0 : Stmt :=
  Stmt.seq (Stmt.region [SOper.mk (some 4) none (SOp.mv (Operand.const (Value.bool false)))] [0, 1])
  (Stmt.seq
    (Stmt.region
      [SOper.mk (some 5) none (SOp.mv (Operand.tmp 0)), SOper.mk (some 6) none (SOp.mv (Operand.tmp 1)),
        SOper.mk (some 7) none (SOp.call (Operand.func 107) [Operand.tmp 5, Operand.tmp 6]),
        SOper.mk (some 8) none (SOp.ibin BinOp.geq (Operand.tmp 7) (Operand.const (Value.int IntKind.i64 0))),
        SOper.mk (some 4) none (SOp.mv (Operand.tmp 8))]
      [4])
    Stmt.ret)
def S32 : FnS := ⟨9, [(4, none)], S32_0⟩
theorem tr32 : trFn Try.prog 32 [] [[0, 1], [4]] = some S32 := by kernel_rfl
end Go.Proofs.Ytniobbepliknmaa.V
