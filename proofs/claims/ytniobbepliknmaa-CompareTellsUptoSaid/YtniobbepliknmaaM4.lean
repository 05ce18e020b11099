/- Texts put together, in the order in which they build; each says what it proves; no condition. -/
import Derived.Test.YtniobbepliknmaaM3
import Derived.Maps.Keyed
import Derived.Maps.RangeRun
import Derived.Laws.BytesArg
import Derived.Test.YtniobbepliknmaaM2
import Derived.Test.YtniobbepliknmaaProg
/- Maps: a map as the list of its keys and values; no condition. -/
namespace Go.Proofs.Ytniobbepliknmaa.V
open Go
set_option linter.unusedVariables false
set_option linter.unusedSimpArgs false
set_option linter.unusedSectionVars false
attribute [local go_sem] e_seq e_region e_quiet e_join e_loop e_cond e_block e_exit e_ret e_skip e_fin e_kseq e_snrm e_sret e_sex e_bnrm e_bret e_bex e_rnrm e_rret e_res e_condC e_nil e_g e_mv g_mv e_pick g_pick pickC_eq e_ibin g_ibin ibinC_eq e_sbin g_sbin e_beq g_beq beqC_eq e_nilq g_nilq nilqC_sl nilqC_pt nilqC_mp e_un g_un unC_not unC_neg e_conv g_conv convC_eq e_fld g_fld fldC_ref fldC_ptr e_nilCheck g_nilCheck nilCheckC_ref nilCheckC_ptr nilCheckC_fun e_field g_field fieldC_eq e_len g_len lenC_sl lenC_str e_extract g_extract extractC_eq e_mkFunc e_build g_build e_idiv g_idiv idivC_eq e_ishift g_ishift ishiftC_eq e_idx g_idx e_idxA g_idxA e_load g_load loadC_ref loadC_ptr loadB_eq e_slc g_slc e_box boxC_loc boxC_esc e_alloc allocC_loc allocC_esc e_buildS e_store storeC_ref storeC_ptr storeB_eq e_append e_appz e_mk mkC_eq e_call callC_eq e_fn g_fn fnC_eq fnV_min' fnV_max' fnV_rune' e_q g_q e_a e_n g_call g_box g_alloc g_buildS g_store g_append g_mk g_a g_n g_dead e_dead e_callK e_drawn e_tree e_finJ e_tk e_tfin e_tno e_nbt_q e_nbt_qn e_nbt_a e_nbt_an e_nbt_fin e_early_nil e_early_t e_early_f e_nob_nil e_nob_none e_nob_some isBox_dead isBox_v isBox_ref e_dnil e_dk e_ek e_finB vcOps_vc1 e_dcons e_tq e_ekt e_tearly e_talt e_dearly look_nil look_c proj_nil proj_c looks_nil looks_c zip_nil zip_c val_tmp val_const val_func slv_v slv_box slv_ref slot_tmp slot_const slot_func slotL_v slotL_box slotL_ref put_some put_none updBox_c boxSet_box gd_eq slotVals_nil slotVals_c slotVals_b boxV_box boxOn_box slotsOn_nil slotsOn_c slotsOn_b resV_one resV_two vals_nil vals_c allOn_nil allOn_c partOn_nil partOn_c partVals_nil partVals_c fits_nil fits_c fillL_nil fillL_c mkv_one mkv_agg cellsV_agg cellsV_int cellsV_bool cellsV_slice cellsV_string cellsV_pointer cellsV_func cellsV_nilf cellsV_map one'_nil one'_c oc_int oc_bool oc_slice oc_string oc_pointer oc_func oc_nilf oc_map setC_eq iv_add iv_sub iv_mul iv_eql iv_neq iv_lss iv_leq iv_gtr iv_geq iok_add iok_sub iok_mul iok_eql iok_neq iok_lss iok_leq iok_gtr iok_geq pickV_bool args0_nil args0_c bnd_none bnd_some imp_bt imp_bf imp_ebt imp_ebf imp_eb1 imp_np imp_pp beq_tt beq_tf beq_ft beq_ff cond_or cond_and e_round e_meet Int.le_refl Int.toNat_zero decide_true decide_false Bool.or_false Bool.false_or Bool.true_or Bool.or_true Bool.and_false Bool.false_and Bool.bne_false Bool.bne_true beq_iff_eq Int.cast_ofNat_Int not_false_eq_true not_true_eq_false false_and and_false false_implies true_implies true_and and_true Bool.true_and Bool.and_true Bool.not_true Bool.not_false forall_const implies_true List.take_zero List.drop_zero List.take_succ_cons List.drop_succ_cons List.take_nil List.drop_nil List.length_cons List.length_nil List.nil_append List.append_nil List.cons_append Int.toNat_natCast decide_eq_true_eq decide_eq_false_iff_not cond_true cond_false and_self List.getElem?_cons_zero List.getElem?_cons_succ List.set_cons_zero List.set_cons_succ Option.some.injEq exists_eq_left' Nat.zero_add Nat.add_zero Nat.mul_one imp_self true_or or_true or_false false_or Bool.or_eq_true Bool.or_eq_false_iff Bool.and_eq_true Bool.and_eq_false_iff Bool.not_eq_true' Bool.not_eq_false'

theorem zero_run {P : Program} {e : TypeId} {z : Value} (h : (P.info? e).bind (·.zero) = some z) (w : World) : (zeroValue e).run P w = .ok z w := by
  obtain ⟨i, hi, hz⟩ := Option.bind_eq_some_iff.1 h
  simp [zeroValue, typeInfo, hi, hz]
/-- what a map's operations need of the keys -/
structure KT (P : Program) (k : TypeId) {α : Type} (eK : α → Value) (good : α → Prop) : Prop where
  inj : ∀ a b, eK a = eK b → a = b
  check : ∀ (w : World) (em : Bool) a, good a → (Instr.checkKey em 10000 k (eK a)).run P w = .ok () w
  find : ∀ (w : World) a, good a → ∀ es : List MapEntry, (∀ e ∈ es, ∃ b, good b ∧ e.key = eK b) →
    ((Instr.findKey k (eK a) es).run P w = .ok none w ∧ ∀ e ∈ es, e.key ≠ eK a) ∨ ∃ j e, (Instr.findKey k (eK a) es).run P w = .ok (some (j, e.val)) w ∧ es[j]? = some e ∧ e.key = eK a
  stays : ∀ (w : World) a, good a → (Instr.keyThatStays (eK a) (eK a)).run P w = .ok (eK a) w
theorem KT.of {P : Program} {k : TypeId} {α : Type} {eK : α → Value} {good : α → Prop} (K : Maps.Keyed P k) (hi : ∀ a b, eK a = eK b → a = b) (h : ∀ a, good a → ∃ l, keyOf P k (eK a) = some l) : KT P k eK good where
  inj := hi
  check w em a ha := by obtain ⟨l, hl⟩ := h a ha; exact K.check w em hl
  find w a ha es he := by
    obtain ⟨l, hl⟩ := h a ha
    exact K.find w hl es fun e hm => by obtain ⟨b, hb, q⟩ := he e hm; rw [q]; exact h b hb
  stays w a ha := by obtain ⟨l, hl⟩ := h a ha; exact K.stays w hl

section
variable {α β : Type}
/-- each entry has its own time of birth, which is past -/
def Born (es : List MapEntry) (clock : Nat) : Prop := (∀ e ∈ es, e.born < clock) ∧ (es.map (·.born)).Nodup
/-- the map b lies in memory -/
structure MapL (L : Mem) (b : Nat) (eK : α → Value) (eV : β → Value) (good : α → Prop) (l : List (α × β)) : Prop where
  nodup : (l.map (·.1)).Nodup
  good : ∀ p ∈ l, good p.1
  at' : ∃ es clock, L b (.map es clock) ∧ es.toList.map (fun e => (e.key, e.val)) = l.map (fun p => (eK p.1, eV p.2)) ∧ Born es.toList clock
theorem MapL.mono {L L' : Mem} {b : Nat} {eK : α → Value} {eV : β → Value} {good : α → Prop} {l : List (α × β)} (h : MapL L b eK eV good l) (hl : Mem.le L L') : MapL L' b eK eV good l :=
  ⟨h.nodup, h.good, let ⟨es, c, q1, q2⟩ := h.at'; ⟨es, c, hl _ _ q1, q2⟩⟩
/-- the map b is a heap's -/
def MapM (g : PH) (b : Nat) (eK : α → Value) (eV : β → Value) (good : α → Prop) (l : List (α × β)) : Prop := MapL (fun b o => g b = some o) b eK eV good l
theorem MapM.l {g : PH} {Γ : Ctx} {b : Nat} {eK : α → Value} {eV : β → Value} {good : α → Prop} {l : List (α × β)} (h : MapM g b eK eV good l) (hg : g ∈ Γ) : MapL (lk Γ) b eK eV good l :=
  MapL.mono h fun _ _ q => ⟨g, hg, q⟩
theorem MapM.mono {g g' : PH} {b : Nat} {eK : α → Value} {eV : β → Value} {good : α → Prop} {l : List (α × β)} (h : MapM g b eK eV good l) (hg : Mem.le (lk [g]) (lk [g'])) : MapM g' b eK eV good l :=
  MapL.mono h fun b o q => by obtain ⟨x, hx, q'⟩ := hg b o ⟨g, by simp, q⟩; simp at hx; subst hx; exact q'
theorem MapM.new (b : Nat) (eK : α → Value) (eV : β → Value) (good : α → Prop) : MapM (one b (.map #[] 0)) b eK eV good ([] : List (α × β)) := ⟨by simp, by simp, #[], 0, one_self _ _, rfl, by simp [Born]⟩

theorem entry_of {es : Array MapEntry} {eK : α → Value} {eV : β → Value} {l : List (α × β)} (h : es.toList.map (fun e => (e.key, e.val)) = l.map (fun p => (eK p.1, eV p.2))) {j : Nat} {e : MapEntry} (hj : es.toList[j]? = some e) : ∃ p, l[j]? = some p ∧ e.key = eK p.1 ∧ e.val = eV p.2 := by
  have h1 := congrArg (·[j]?) h
  simp only [List.getElem?_map, hj, Option.map_some] at h1
  cases hp : l[j]? with
  | none => rw [hp] at h1; simp at h1
  | some p => rw [hp] at h1; simp at h1; exact ⟨p, rfl, h1.1, h1.2⟩
theorem entry_good {L : Mem} {b : Nat} {eK : α → Value} {eV : β → Value} {good : α → Prop} {l : List (α × β)} (hm : MapL L b eK eV good l) {es : Array MapEntry} (h : es.toList.map (fun e => (e.key, e.val)) = l.map (fun p => (eK p.1, eV p.2))) : ∀ e ∈ es.toList, ∃ b, good b ∧ e.key = eK b := by
  intro e he
  obtain ⟨j, hj⟩ := List.getElem?_of_mem he
  obtain ⟨p, hp, hk, _⟩ := entry_of h hj
  exact ⟨p.1, hm.good p (List.mem_of_getElem? hp), hk⟩
theorem entry_none {es : Array MapEntry} {eK : α → Value} {eV : β → Value} {l : List (α × β)} (h : es.toList.map (fun e => (e.key, e.val)) = l.map (fun p => (eK p.1, eV p.2))) {a : α} (hn : ∀ e ∈ es.toList, e.key ≠ eK a) : a ∉ l.map (·.1) := by
  intro ha
  obtain ⟨p, hp, rfl⟩ := List.mem_map.1 ha
  have : (eK p.1, eV p.2) ∈ es.toList.map (fun e => (e.key, e.val)) := by rw [h]; exact List.mem_map.2 ⟨p, hp, rfl⟩
  obtain ⟨e, he, q⟩ := List.mem_map.1 this
  simp at q
  exact hn e he q.1

end
section
variable {α β : Type} [DecidableEq α]
def mget (l : List (α × β)) (a : α) : Option β := (l.find? (fun p => decide (p.1 = a))).map (·.2)
def mput (l : List (α × β)) (a : α) (v : β) : List (α × β) := if a ∈ l.map (·.1) then l.map (fun p => if p.1 = a then (a, v) else p) else l ++ [(a, v)]
theorem mget_none {l : List (α × β)} {a : α} : mget l a = none ↔ a ∉ l.map (·.1) := by
  simp only [mget, Option.map_eq_none_iff, List.find?_eq_none, decide_eq_true_eq, List.mem_map, not_exists, not_and]
theorem mget_at {l : List (α × β)} (hn : (l.map (·.1)).Nodup) {j : Nat} {p : α × β} (h : l[j]? = some p) : mget l p.1 = some p.2 := by
  obtain ⟨hj, rfl⟩ := List.getElem?_eq_some_iff.1 h
  have : l.find? (fun q => decide (q.1 = l[j].1)) = some l[j] := by
    rw [List.find?_eq_some_iff_getElem]
    refine ⟨by simp, j, hj, rfl, fun i hi => ?_⟩
    simp only [Bool.not_eq_eq_eq_not, Bool.not_true, decide_eq_false_iff_not]
    intro e
    have := (List.pairwise_iff_getElem.1 hn) i j (by simp; omega) (by simpa using hj) hi
    simp at this
    exact this e
  rw [mget, this]
  rfl
theorem mput_keys (l : List (α × β)) (a : α) (v : β) : (mput l a v).map (·.1) = if a ∈ l.map (·.1) then l.map (·.1) else l.map (·.1) ++ [a] := by
  unfold mput
  split
  · rw [List.map_map]
    apply List.map_congr_left
    intro p _
    simp only [Function.comp]
    split
    · rename_i h; exact h.symm
    · rfl
  · simp
theorem mput_nodup {l : List (α × β)} (hn : (l.map (·.1)).Nodup) (a : α) (v : β) : ((mput l a v).map (·.1)).Nodup := by
  rw [mput_keys]
  split
  · exact hn
  · rw [List.nodup_append]
    refine ⟨hn, by simp, ?_⟩
    rintro x hx y hy rfl
    simp at hy
    subst hy
    contradiction
theorem mget_put {l : List (α × β)} (a x : α) (v : β) : mget (mput l a v) x = if x = a then some v else mget l x := by
  unfold mput mget
  split
  · rename_i hin
    rw [List.find?_map]
    by_cases e : x = a
    · subst e
      rw [if_pos rfl]
      have : (fun p : α × β => decide (p.1 = x)) ∘ (fun p : α × β => if p.1 = x then (x, v) else p) = fun p => decide (p.1 = x) := by
        funext p; simp only [Function.comp]; split <;> simp_all
      rw [this]
      cases hf : l.find? (fun p => decide (p.1 = x)) with
      | none =>
        rw [List.find?_eq_none] at hf
        simp only [List.mem_map] at hin
        obtain ⟨p, hp, rfl⟩ := hin
        exact absurd (hf p hp) (by simp)
      | some p =>
        have := List.find?_some hf
        simp only [decide_eq_true_eq] at this
        simp [this]
    · rw [if_neg e]
      have : (fun p : α × β => decide (p.1 = x)) ∘ (fun p : α × β => if p.1 = a then (a, v) else p) = fun p => decide (p.1 = x) := by
        funext p
        simp only [Function.comp]
        split
        · rename_i h; simp [h, fun q : a = x => e q.symm]
        · rfl
      rw [this]
      cases hf : l.find? (fun p => decide (p.1 = x)) with
      | none => rfl
      | some p =>
        have := List.find?_some hf
        simp only [decide_eq_true_eq] at this
        simp [this, e]
  · rename_i hin
    rw [List.find?_append]
    by_cases e : x = a
    · subst e
      rw [if_pos rfl]
      have : l.find? (fun p => decide (p.1 = x)) = none := by
        rw [List.find?_eq_none]
        intro p hp h
        simp only [decide_eq_true_eq] at h
        exact hin (List.mem_map.2 ⟨p, hp, h⟩)
      simp [this]
    · rw [if_neg e]
      have e' : ¬ a = x := fun q => e q.symm
      simp [e']

/-- a set -/
def mset {γ : Type} (f : γ → α) (l : List γ) : List (α × Bool) := l.map fun x => (f x, true)
theorem mset_keys {γ : Type} (f : γ → α) (l : List γ) : (mset f l).map (·.1) = l.map f := by simp [mset]
theorem mget_set {γ : Type} (f : γ → α) (l : List γ) (a : α) : mget (mset f l) a = if a ∈ l.map f then some true else none := by
  split
  · rename_i h
    have hne : mget (mset f l) a ≠ none := by rw [Ne, mget_none, mset_keys]; simpa using h
    cases hg : mget (mset f l) a with
    | none => exact absurd hg hne
    | some v =>
      simp only [mget, Option.map_eq_some_iff] at hg
      obtain ⟨p, hp, rfl⟩ := hg
      have := List.mem_of_find?_eq_some hp
      simp only [mset, List.mem_map] at this
      obtain ⟨x, _, rfl⟩ := this
      rfl
  · rename_i h
    rw [mget_none, mset_keys]
    exact h
theorem mput_set {γ : Type} (f : γ → α) (l : List γ) (x : γ) (h : f x ∉ l.map f) : mput (mset f l) (f x) true = mset f (l ++ [x]) := by
  rw [mput, mset_keys, if_neg h]
  simp [mset]
theorem qr_look {P : Program} {Γ : Ctx} {t kt et : TypeId} {eK : α → Value} {eV : β → Value} {good : α → Prop} {z : Value} (T : KT P kt eK good) (ht : P.underlying t = some (.map kt et)) (hz : ∀ w, (zeroValue et).run P w = .ok z w) (ok : Bool)
    {b : Nat} {l : List (α × β)} (hm : MapL (lk Γ) b eK eV good l) {a : α} (ha : good a) :
    QR P (.look t ok) [.map (some b), eK a] Γ (if ok then .tuple #[(mget l a).elim z eV, .bool (mget l a).isSome] else (mget l a).elim z eV) := by
  intro w hw
  obtain ⟨es, clock, hb, he, _⟩ := hm.at'
  obtain ⟨h, hh, hb⟩ := hb
  have hb := hw h hh b _ hb
  simp only [qsem]
  rcases T.find w a ha es.toList (entry_good hm he) with ⟨h1, h2⟩ | ⟨j, e, h1, h2, h3⟩
  · have hg : mget l a = none := mget_none.2 (entry_none he h2)
    cases ok <;> simp [Instr.lookup, run_underlying ht, MapKept.run_getObj_map hb, T.check w _ a ha, h1, hz w, hg, Result.andThen]
  · obtain ⟨p, hp, hk, hv⟩ := entry_of he h2
    have : p.1 = a := T.inj _ _ (by rw [← hk, h3])
    subst this
    have hg := mget_at hm.nodup hp
    cases ok <;> simp [Instr.lookup, run_underlying ht, MapKept.run_getObj_map hb, T.check w _ _ ha, h1, hg, hv, Result.andThen]

section
variable {P : Program} {Γr : Ctx} {d : Option Nat} {r : List SOper} {φ : Fr} {Γ : Ctx} {K : Fr → Ctx → Prop}
theorem s_mkmap {t : TypeId} (hk : ∀ b, vcOps P Γr r (put φ d (.v true (.map (some b)))) (one b (.map #[] 0) :: Γ) K) : nC P Γr d r φ Γ K (.mkmap t) [] := by
  intro w _
  exact ⟨_, _, by simp only [qsem, List.head?_nil]; rfl, hk _⟩
theorem entry_put {es : Array MapEntry} {eK : α → Value} {eV : β → Value} {l : List (α × β)} {i : Nat} {a : α} {v : β} (hn : (l.map (·.1)).Nodup) (h : es.toList.map (fun e => (e.key, e.val)) = l.map (fun p => (eK p.1, eV p.2))) {p : α × β} (hp : l[i]? = some p) (ha : p.1 = a) :
    (es.modify i fun e => { e with key := eK a, val := eV v }).toList.map (fun e => (e.key, e.val)) = (mput l a v).map (fun p => (eK p.1, eV p.2)) := by
  have hin : a ∈ l.map (·.1) := List.mem_map.2 ⟨p, List.mem_of_getElem? hp, ha⟩
  rw [mput, if_pos hin]
  apply List.ext_getElem?
  intro j
  have hj := congrArg (·[j]?) h
  simp only [List.getElem?_map, Array.getElem?_toList] at hj ⊢
  rw [Array.getElem?_modify]
  obtain ⟨hi, rfl⟩ := List.getElem?_eq_some_iff.1 hp
  by_cases e : i = j
  · subst e
    rw [hp] at hj ⊢
    simp only [if_true, Option.map_some, ha] at hj ⊢
    cases hq : es[i]? with
    | none => rw [hq] at hj; simp at hj
    | some q => simp
  · rw [if_neg e, hj]
    cases hq : l[j]? with
    | none => rfl
    | some q =>
      obtain ⟨hj', rfl⟩ := List.getElem?_eq_some_iff.1 hq
      have : ¬ l[j].1 = a := fun q => by
        rw [← q] at ha
        have hpw := List.pairwise_iff_getElem.1 hn
        rcases Nat.lt_or_ge i j with q1 | q1
        · have := hpw i j (by simpa using hi) (by simpa using hj') q1
          simp at this
          exact this ha
        · have := hpw j i (by simpa using hj') (by simpa using hi) (by omega)
          simp at this
          exact this ha.symm
      simp [this]
theorem born_put {es : Array MapEntry} {c : Nat} (h : Born es.toList c) {j : Nat} {x y : Value} : Born (es.modify j fun e => { e with key := x, val := y }).toList c := by
  have hm : (es.modify j fun e => { e with key := x, val := y }).toList.map (·.born) = es.toList.map (·.born) := by
    apply List.ext_getElem?
    intro i
    simp only [List.getElem?_map, Array.getElem?_toList, Array.getElem?_modify]
    split
    · cases es[i]? <;> rfl
    · rfl
  refine ⟨fun e he => ?_, by rw [hm]; exact h.2⟩
  have : e.born ∈ es.toList.map (·.born) := by rw [← hm]; exact List.mem_map.2 ⟨e, he, rfl⟩
  obtain ⟨e', h1, h2⟩ := List.mem_map.1 this
  rw [← h2]
  exact h.1 e' h1
theorem s_upd {t kt et : TypeId} {eK : α → Value} {eV : β → Value} {good : α → Prop} (T : KT P kt eK good) (ht : P.underlying t = some (.map kt et)) {g : PH} {ix b : Nat} {l : List (α × β)} (hg : Γ[ix]? = some g) (hm : MapM g b eK eV good l) {a : α} (v : β) (ha : good a)
    (hk : ∀ g', MapM g' b eK eV good (mput l a v) → (∀ k, k ≠ b → g' k = g k) → vcOps P Γr r (put φ d (.v true undef)) (Γ.set ix g') K) : aC P Γr d r φ Γ K (.upd t) [.map (some b), eK a, eV v] := by
  intro w hw
  obtain ⟨es, clock, hb0, he, hbo⟩ := hm.at'
  have hgΓ : g ∈ Γ := List.mem_of_getElem? hg
  have hb := hw g (by simp [hgΓ]) b _ hb0
  have hgood : ∀ p ∈ mput l a v, good p.1 := fun p hp => by
    have : p.1 ∈ (mput l a v).map (·.1) := List.mem_map.2 ⟨p, hp, rfl⟩
    rw [mput_keys] at this
    split at this
    · obtain ⟨q, hq, e⟩ := List.mem_map.1 this
      rw [← e]; exact hm.good q hq
    · simp only [List.mem_append, List.mem_singleton] at this
      rcases this with q | q
      · obtain ⟨q, hq, e⟩ := List.mem_map.1 q
        rw [← e]; exact hm.good q hq
      · rw [q]; exact ha
  have hc := T.check w false a ha
  rcases T.find w a ha es.toList (entry_good hm he) with ⟨h1, h2⟩ | ⟨j, e, h1, h2, h3⟩
  · have hno := entry_none he h2
    refine ⟨undef, setBlk w b (.map (es.push { key := eK a, val := eV v, born := clock }) (clock + 1)), 0, ?_, .inr ⟨ix, g, b, _, _, hg, hb0, rfl, hk _ ⟨mput_nodup hm.nodup a v, hgood, _, _, upd_self _ _ _, ?_, ?_⟩ fun k hne => upd_other hne⟩⟩
    · simp [qsem, Instr.mapUpdate, run_underlying ht, MapKept.run_getObj_map hb, hc, h1, MapKept.run_setObj_map _ hb, Result.andThen, setBlk]
    · rw [mput, if_neg hno, Array.toList_push, List.map_append, he, List.map_append]
      rfl
    · rw [Array.toList_push]
      refine ⟨fun e he => ?_, ?_⟩
      · rcases List.mem_append.1 he with he | he
        · have := hbo.1 e he; omega
        · simp at he; subst he; simp
      · rw [List.map_append, List.nodup_append]
        refine ⟨hbo.2, by simp, ?_⟩
        rintro x hx y hy rfl
        simp at hy
        obtain ⟨e, he, rfl⟩ := List.mem_map.1 hx
        have := hbo.1 e he
        omega
  · obtain ⟨p, hp, hk', hv⟩ := entry_of he h2
    have hpa : p.1 = a := T.inj _ _ (by rw [← hk', h3])
    have hj : es[j]? = some e := by simpa using h2
    refine ⟨undef, setBlk w b (.map (es.modify j fun e => { e with key := eK a, val := eV v }) clock), 0, ?_, .inr ⟨ix, g, b, _, _, hg, hb0, rfl, hk _ ⟨mput_nodup hm.nodup a v, hgood, _, _, upd_self _ _ _, entry_put hm.nodup he hp hpa, born_put hbo⟩ fun k hne => upd_other hne⟩⟩
    simp [qsem, Instr.mapUpdate, run_underlying ht, MapKept.run_getObj_map hb, hc, h1, hj, h3, T.stays w a ha, MapKept.run_setObj_map _ hb, Result.andThen, setBlk]
end
end
end Go.Proofs.Ytniobbepliknmaa.V
/- A map is ranged over; how many keys it has; bytes that become a text; no condition. -/
namespace Go.Proofs.Ytniobbepliknmaa.V
open Go
set_option linter.unusedVariables false
set_option linter.unusedSimpArgs false
set_option linter.unusedSectionVars false
attribute [local go_sem] e_seq e_region e_quiet e_join e_loop e_cond e_block e_exit e_ret e_skip e_fin e_kseq e_snrm e_sret e_sex e_bnrm e_bret e_bex e_rnrm e_rret e_res e_condC e_nil e_g e_mv g_mv e_pick g_pick pickC_eq e_ibin g_ibin ibinC_eq e_sbin g_sbin e_beq g_beq beqC_eq e_nilq g_nilq nilqC_sl nilqC_pt nilqC_mp e_un g_un unC_not unC_neg e_conv g_conv convC_eq e_fld g_fld fldC_ref fldC_ptr e_nilCheck g_nilCheck nilCheckC_ref nilCheckC_ptr nilCheckC_fun e_field g_field fieldC_eq e_len g_len lenC_sl lenC_str e_extract g_extract extractC_eq e_mkFunc e_build g_build e_idiv g_idiv idivC_eq e_ishift g_ishift ishiftC_eq e_idx g_idx e_idxA g_idxA e_load g_load loadC_ref loadC_ptr loadB_eq e_slc g_slc e_box boxC_loc boxC_esc e_alloc allocC_loc allocC_esc e_buildS e_store storeC_ref storeC_ptr storeB_eq e_append e_appz e_mk mkC_eq e_call callC_eq e_fn g_fn fnC_eq fnV_min' fnV_max' fnV_rune' e_q g_q e_a e_n g_call g_box g_alloc g_buildS g_store g_append g_mk g_a g_n g_dead e_dead e_callK e_drawn e_tree e_finJ e_tk e_tfin e_tno e_nbt_q e_nbt_qn e_nbt_a e_nbt_an e_nbt_fin e_early_nil e_early_t e_early_f e_nob_nil e_nob_none e_nob_some isBox_dead isBox_v isBox_ref e_dnil e_dk e_ek e_finB vcOps_vc1 e_dcons e_tq e_ekt e_tearly e_talt e_dearly look_nil look_c proj_nil proj_c looks_nil looks_c zip_nil zip_c val_tmp val_const val_func slv_v slv_box slv_ref slot_tmp slot_const slot_func slotL_v slotL_box slotL_ref put_some put_none updBox_c boxSet_box gd_eq slotVals_nil slotVals_c slotVals_b boxV_box boxOn_box slotsOn_nil slotsOn_c slotsOn_b resV_one resV_two vals_nil vals_c allOn_nil allOn_c partOn_nil partOn_c partVals_nil partVals_c fits_nil fits_c fillL_nil fillL_c mkv_one mkv_agg cellsV_agg cellsV_int cellsV_bool cellsV_slice cellsV_string cellsV_pointer cellsV_func cellsV_nilf cellsV_map one'_nil one'_c oc_int oc_bool oc_slice oc_string oc_pointer oc_func oc_nilf oc_map setC_eq iv_add iv_sub iv_mul iv_eql iv_neq iv_lss iv_leq iv_gtr iv_geq iok_add iok_sub iok_mul iok_eql iok_neq iok_lss iok_leq iok_gtr iok_geq pickV_bool args0_nil args0_c bnd_none bnd_some imp_bt imp_bf imp_ebt imp_ebf imp_eb1 imp_np imp_pp beq_tt beq_tf beq_ft beq_ff cond_or cond_and e_round e_meet Int.le_refl Int.toNat_zero decide_true decide_false Bool.or_false Bool.false_or Bool.true_or Bool.or_true Bool.and_false Bool.false_and Bool.bne_false Bool.bne_true beq_iff_eq Int.cast_ofNat_Int not_false_eq_true not_true_eq_false false_and and_false false_implies true_implies true_and and_true Bool.true_and Bool.and_true Bool.not_true Bool.not_false forall_const implies_true List.take_zero List.drop_zero List.take_succ_cons List.drop_succ_cons List.take_nil List.drop_nil List.length_cons List.length_nil List.nil_append List.append_nil List.cons_append Int.toNat_natCast decide_eq_true_eq decide_eq_false_iff_not cond_true cond_false and_self List.getElem?_cons_zero List.getElem?_cons_succ List.set_cons_zero List.set_cons_succ Option.some.injEq exists_eq_left' Nat.zero_add Nat.add_zero Nat.mul_one imp_self true_or or_true or_false false_or Bool.or_eq_true Bool.or_eq_false_iff Bool.and_eq_true Bool.and_eq_false_iff Bool.not_eq_true' Bool.not_eq_false'

section
variable {α β : Type}
def kvs (es : List MapEntry) : List (Value × Value) := es.map fun e => (e.key, e.val)
def encs (eK : α → Value) (eV : β → Value) (l : List (α × β)) : List (Value × Value) := l.map fun p => (eK p.1, eV p.2)
/-- the iterator r over the map b: what is still to come -/
structure ItM (L : Mem) (g : PH) (r b : Nat) (eK : α → Value) (eV : β → Value) (left : List (α × β)) : Prop where
  at' : ∃ es clock seen, L b (.map es clock) ∧ Born es.toList clock ∧ g r = some (.mapIter (some b) clock seen clock) ∧ kvs (leftOf es seen).toList = encs eK eV left
/-- the entry that the iterator r came to -/
def CurM (L : Mem) (g : PH) (r b : Nat) (k v : Value) : Prop := ∃ (es : Array MapEntry) (clock : Nat) (seen : Array Nat) (e : MapEntry), L b (.map es clock) ∧ Born es.toList clock ∧ g r = some (.mapIter (some b) clock (seen.push e.born) clock) ∧ e ∈ es.toList ∧ e.key = k ∧ e.val = v
theorem ItM.mono {L L' : Mem} {g g' : PH} {r b : Nat} {eK : α → Value} {eV : β → Value} {left : List (α × β)} (h : ItM L g r b eK eV left) (hl : Mem.le L L') (hg : Mem.le (lk [g]) (lk [g'])) : ItM L' g' r b eK eV left := by
  obtain ⟨es, c, s, h1, h2, h3, h4⟩ := h.at'
  exact ⟨es, c, s, hl _ _ h1, h2, lk_one.1 (hg _ _ (lk_one.2 h3)), h4⟩
theorem filter_erase {es : List MapEntry} : ∀ {j : Nat} {e : MapEntry}, (es.map (·.born)).Nodup → es[j]? = some e → es.filter (fun x => x.born != e.born) = es.eraseIdx j := by
  induction es with
  | nil => intro j e _ h; simp at h
  | cons x es ih =>
    intro j e hn hj
    obtain ⟨h1, h2⟩ := List.nodup_cons.1 hn
    cases j with
    | zero =>
      simp only [List.getElem?_cons_zero, Option.some.injEq] at hj
      subst hj
      simp only [List.filter_cons, bne_self_eq_false, Bool.false_eq_true, if_false, List.eraseIdx_cons_zero]
      rw [List.filter_eq_self]
      intro y hy
      simp only [bne_iff_ne, ne_eq]
      exact fun q => h1 (List.mem_map.2 ⟨y, hy, q⟩)
    | succ j =>
      simp only [List.getElem?_cons_succ] at hj
      have hne : x.born ≠ e.born := fun q => h1 (List.mem_map.2 ⟨e, List.mem_of_getElem? hj, q.symm⟩)
      simp only [List.filter_cons, List.eraseIdx_cons_succ, bne_iff_ne, ne_eq, hne, not_false_eq_true, if_true]
      rw [ih h2 hj]
theorem left_push {es : Array MapEntry} {seen : Array Nat} {c : Nat} (hb : Born es.toList c) {j : Nat} {e : MapEntry} (hj : (leftOf es seen).toList[j]? = some e) : (leftOf es (seen.push e.born)).toList = (leftOf es seen).toList.eraseIdx j := by
  have hn : ((leftOf es seen).toList.map (·.born)).Nodup := by
    unfold leftOf
    rw [Array.toList_filter]
    exact hb.2.sublist (List.filter_sublist.map _)
  rw [← filter_erase hn hj]
  unfold leftOf
  rw [Array.toList_filter, Array.toList_filter, List.filter_filter]
  apply List.filter_congr
  intro x _
  simp only [Array.contains_push, Bool.not_or]
  rw [Bool.and_comm]
  rfl
theorem map_erase {γ δ : Type} (f : γ → δ) : ∀ (l : List γ) (j : Nat), (l.eraseIdx j).map f = (l.map f).eraseIdx j
  | [], _ => by simp
  | x :: l, 0 => rfl
  | x :: l, j + 1 => by simp [map_erase f l j]
theorem mem_erase {γ : Type} : ∀ {l : List γ} {j : Nat} {p : γ}, l[j]? = some p → ∀ x, x ∈ l ↔ x = p ∨ x ∈ l.eraseIdx j
  | [], _, _, h, _ => by simp at h
  | y :: l, 0, p, h, x => by
    simp only [List.getElem?_cons_zero, Option.some.injEq] at h
    subst h
    simp
  | y :: l, j + 1, p, h, x => by
    simp only [List.getElem?_cons_succ] at h
    have := mem_erase h x
    simp only [List.mem_cons, List.eraseIdx_cons_succ, this]
    constructor
    · rintro (q | q | q) <;> simp [q]
    · rintro (q | q | q) <;> simp [q]
end
section
variable {α β : Type}
variable {P : Program} {Γr : Ctx} {d : Option Nat} {rr : List SOper} {φ : Fr} {Γ : Ctx} {K : Fr → Ctx → Prop}
/-- for k, v := range m -/
theorem s_rng {L : Mem} {t kt et : TypeId} (ht : P.underlying t = some (.map kt et)) {b : Nat} {eK : α → Value} {eV : β → Value} {good : α → Prop} {l : List (α × β)} (hm : MapL L b eK eV good l) (hL : Mem.le L (lk (Γ ++ Γr)))
    (hk : ∀ r g, ItM L g r b eK eV l → vcOps P Γr rr (put φ d (.v true (.pointer (some ⟨r, 0, none⟩)))) (g :: Γ) K) : nC P Γr d rr φ Γ K (.rng t) [.map (some b)] := by
  intro w hw
  obtain ⟨es, clock, hb, he, hbo⟩ := hm.at'
  obtain ⟨h, hh, hb'⟩ := hL _ _ hb
  have hbw := hw h hh b _ hb'
  refine ⟨_, _, by simp only [qsem]; exact run_range_map w t kt et b es clock ht hbw, hk _ _ ⟨es, clock, #[], hb, hbo, one_self _ _, ?_⟩⟩
  have : leftOf es #[] = es := by
    unfold leftOf
    rw [Array.filter_eq_self]
    simp
  rw [this]
  exact he
theorem s_next {L : Mem} {g : PH} {ix r b : Nat} {eK : α → Value} {eV : β → Value} {left : List (α × β)} (hg : Γ[ix]? = some g) (hI : ItM L g r b eK eV left) (hL : Mem.le L (lk (Γ ++ Γr)))
    (hend : left = [] → vcOps P Γr rr (put φ d (.v true (.tuple #[.bool false]))) Γ K)
    (hk : ∀ g' p left', (∀ x, x ∈ left ↔ x = p ∨ x ∈ left') → left'.length + 1 = left.length → ItM L g' r b eK eV left' → CurM L g' r b (eK p.1) (eV p.2) → vcOps P Γr rr (put φ d (.v true (.tuple #[.bool true, eK p.1, eV p.2]))) (Γ.set ix g') K) :
    aC P Γr d rr φ Γ K (.next false) [.pointer (some ⟨r, 0, none⟩)] := by
  intro w hw
  obtain ⟨es, clock, seen, hb, hbo, hr, he⟩ := hI.at'
  obtain ⟨h, hh, hb'⟩ := hL _ _ hb
  have hbw := hw h hh b _ hb'
  have hgΓ : g ∈ Γ := List.mem_of_getElem? hg
  have hrw := hw g (by simp [hgΓ]) r _ hr
  have hold : ∀ x ∈ es.toList, x.born < clock := hbo.1
  rcases run_next_at (P := P) w 0 r b clock clock seen es clock hrw hbw hold (Nat.le_refl _) with ⟨h0, h1⟩ | ⟨e, hel, w1, hw1, h1⟩
  · refine ⟨_, w, 0, by simp only [qsem]; exact h1, .inl ⟨rfl, hend ?_⟩⟩
    have hl0 : (kvs (leftOf es seen).toList).length = 0 := by simp [kvs, h0]
    rw [he] at hl0
    exact List.eq_nil_of_length_eq_zero (by simpa [encs] using hl0)
  · obtain ⟨j, hj⟩ := List.getElem?_of_mem hel
    obtain ⟨p, hp, hk1, hv1⟩ : ∃ p, left[j]? = some p ∧ e.key = eK p.1 ∧ e.val = eV p.2 := by
      have h2 := congrArg (·[j]?) he
      simp only [kvs, encs, List.getElem?_map, hj, Option.map_some] at h2
      cases hq : left[j]? with
      | none => rw [hq] at h2; simp at h2
      | some p => rw [hq] at h2; simp at h2; exact ⟨p, rfl, h2.1, h2.2⟩
    have hes : e ∈ es.toList := by
      unfold leftOf at hel
      rw [Array.toList_filter] at hel
      exact (List.mem_filter.1 hel).1
    have hjl := (List.getElem?_eq_some_iff.1 hp).1
    have fin := hk (upd g r (.mapIter (some b) clock (seen.push e.born) clock)) p (left.eraseIdx j) (mem_erase hp) (by rw [List.length_eraseIdx_of_lt hjl]; omega)
      ⟨es, clock, _, hb, hbo, upd_self _ _ _, by
        rw [left_push hbo hj]
        have : kvs ((leftOf es seen).toList.eraseIdx j) = (kvs (leftOf es seen).toList).eraseIdx j := map_erase _ _ _
        rw [this, he]
        exact (map_erase _ _ _).symm⟩ ⟨es, clock, seen, e, hb, hbo, upd_self _ _ _, hes, hk1, hv1⟩
    rw [hk1, hv1] at h1
    rcases hw1 with rfl | rfl
    · exact ⟨_, _, 0, by simp only [qsem]; exact h1, .inr ⟨ix, g, r, _, _, hg, hr, rfl, fin⟩⟩
    · exact ⟨_, _, 1, by simp only [qsem]; exact h1, .inr ⟨ix, g, r, _, _, hg, hr, rfl, fin⟩⟩
theorem qr_entry {L : Mem} {g : PH} {r b : Nat} {k v : Value} (h : CurM L g r b k v) (hL : Mem.le L (lk Γ)) (hg : g ∈ Γ) : QR P .entry [.pointer (some ⟨r, 0, none⟩)] Γ (.tuple #[k, v]) := by
  intro w hw
  obtain ⟨es, clock, seen, e, hb, hbo, hr, hm, rfl, rfl⟩ := h
  obtain ⟨x, hx, hb'⟩ := hL _ _ hb
  simp only [qsem]
  have hr' := hw g hg r _ hr
  have hb2 := hw x hx b _ hb'
  have hf : es.find? (·.born == e.born) = some e := by rw [← Array.find?_toList]; exact find_born e es.toList hbo.2 hm
  simp only [Instr.entry, getObj, Sem.run_bind, Sem.run, hr', hb2, Result.andThen, Array.back?_push, bne_self_eq_false, Bool.false_eq_true, if_false, hf]
  rfl
/-- len(m) -/
theorem qr_len {t kt et : TypeId} (ht : P.underlying t = some (.map kt et)) {b : Nat} {eK : α → Value} {eV : β → Value} {good : α → Prop} {l : List (α × β)} (hm : MapL (lk Γ) b eK eV good l) : QR P (.bi 4 [t]) [.map (some b)] Γ (.int .i64 l.length) := by
  intro w hw
  obtain ⟨es, clock, hb, he, hbo⟩ := hm.at'
  obtain ⟨h, hh, hb'⟩ := hb
  have hbw := hw h hh b _ hb'
  have hsz : es.size = l.length := by
    have := congrArg List.length he
    simpa using this
  simp [qsem, Builtin.len_, run_underlying ht, MapKept.run_getObj_map hbw, goInt, hsz]
end
/-! m[k], .. = v, ..: the entry is laid first, and then written -/
section
variable {α β : Type} [DecidableEq α]
variable {P : Program} {Γr : Ctx} {d : Option Nat} {rr : List SOper} {φ : Fr} {Γ : Ctx} {K : Fr → Ctx → Prop}
/-- the map b reads as l, but for a new last entry at a -/
structure MentM (g : PH) (b : Nat) (eK : α → Value) (eV : β → Value) (good : α → Prop) (l : List (α × β)) (a : α) (stamp : Nat) : Prop where
  nodup : (l.map (·.1)).Nodup
  okA : good a
  okL : ∀ p ∈ l, good p.1
  new : a ∉ l.map (·.1)
  at' : ∃ (es : Array MapEntry) (v0 : Value), g b = some (.map (es.push { key := eK a, val := v0, born := stamp }) (stamp + 1)) ∧ es.toList.map (fun e => (e.key, e.val)) = l.map (fun p => (eK p.1, eV p.2)) ∧ Born es.toList stamp
theorem s_ment {t kt et : TypeId} {eK : α → Value} {eV : β → Value} {good : α → Prop} {z : Value} (T : KT P kt eK good) (ht : P.underlying t = some (.map kt et)) (hz : ∀ w, (zeroValue et).run P w = .ok z w) {g : PH} {ix b : Nat} {l : List (α × β)} (hg : Γ[ix]? = some g) (hm : MapM g b eK eV good l) {a : α} (ha : good a) (hno : a ∉ l.map (·.1))
    (hk : ∀ g' stamp, MentM g' b eK eV good l a stamp → (∀ k, k ≠ b → g' k = g k) → vcOps P Γr rr (put φ d (.v true (.tuple #[z, .int .i64 (stamp : Nat)]))) (Γ.set ix g') K) : aC P Γr d rr φ Γ K (.ment t) [.map (some b), eK a] := by
  intro w hw
  obtain ⟨es, clock, hb0, he, hbo⟩ := hm.at'
  have hgΓ : g ∈ Γ := List.mem_of_getElem? hg
  have hb := hw g (by simp [hgΓ]) b _ hb0
  have hc := T.check w false a ha
  rcases T.find w a ha es.toList (entry_good hm he) with ⟨h1, h2⟩ | ⟨j, e, h1, h2, h3⟩
  · refine ⟨_, setBlk w b (.map (es.push { key := eK a, val := z, born := clock }) (clock + 1)), 0, ?_, .inr ⟨ix, g, b, _, _, hg, hb0, rfl, hk _ clock ⟨hm.nodup, ha, hm.good, hno, es, z, upd_self _ _ _, he, hbo⟩ fun k hne => upd_other hne⟩⟩
    simp [qsem, Instr.mapEntry, run_underlying ht, MapKept.run_getObj_map hb, hc, h1, hz w, MapKept.run_setObj_map _ hb, Result.andThen, setBlk, goInt]
  · exfalso
    obtain ⟨p, hp, hk', hv⟩ := entry_of he h2
    have hpa : p.1 = a := T.inj _ _ (by rw [← hk', h3])
    exact hno (List.mem_map.2 ⟨p, List.mem_of_getElem? hp, hpa⟩)
theorem s_estore {t : TypeId} {eK : α → Value} {eV : β → Value} {good : α → Prop} {g : PH} {ix b : Nat} {l : List (α × β)} {a : α} {stamp : Nat} (hg : Γ[ix]? = some g) (hm : MentM g b eK eV good l a stamp) (v : β)
    (hk : ∀ g', MapM g' b eK eV good (l ++ [(a, v)]) → (∀ k, k ≠ b → g' k = g k) → vcOps P Γr rr (put φ d (.v true undef)) (Γ.set ix g') K) : aC P Γr d rr φ Γ K (.estore t) [.map (some b), .int .i64 (stamp : Nat), eV v] := by
  intro w hw
  obtain ⟨es, v0, hb0, he, hbo⟩ := hm.at'
  have hgΓ : g ∈ Γ := List.mem_of_getElem? hg
  have hb := hw g (by simp [hgΓ]) b _ hb0
  have hfind : (es.push { key := eK a, val := v0, born := stamp }).findIdx? (fun e => (e.born : Int) == (stamp : Int)) = some es.size := by
    have hn : es.findIdx? (fun e => (e.born : Int) == (stamp : Int)) = none := by
      rw [Array.findIdx?_eq_none_iff]
      intro x hx
      have := hbo.1 x (by simpa using hx)
      simp
      omega
    rw [Array.findIdx?_push, hn]
    simp
  have hmod : (es.push { key := eK a, val := v0, born := stamp }).modify es.size (fun e => { e with val := eV v }) = es.push { key := eK a, val := eV v, born := stamp } := by
    apply Array.ext
    · simp
    · intro i h1 h2
      rw [Array.getElem_modify]
      simp only [Array.getElem_push]
      split
      · rename_i e
        subst e
        simp
      · rename_i e
        have : i < es.size := by simp at h1; omega
        simp [this]
  refine ⟨undef, setBlk w b (.map (es.push { key := eK a, val := eV v, born := stamp }) (stamp + 1)), 0, ?_, .inr ⟨ix, g, b, _, _, hg, hb0, rfl, hk _ ⟨?_, ?_, _, _, upd_self _ _ _, ?_, ?_⟩ fun k hne => upd_other hne⟩⟩
  · simp only [qsem, Instr.entryStore, Sem.run_bind, MapKept.run_getObj_map hb, Result.andThen, asInt, asIntOf, Sem.run_pure, hfind, hmod, MapKept.run_setObj_map _ hb]
    rfl
  · rw [List.map_append, List.nodup_append]
    refine ⟨hm.nodup, by simp, ?_⟩
    rintro x hx y hy rfl
    simp at hy
    subst hy
    exact hm.new hx
  · intro p hp
    rcases List.mem_append.1 hp with hp | hp
    · exact hm.okL p hp
    · simp at hp
      subst hp
      exact hm.okA
  · rw [Array.toList_push, List.map_append, he, List.map_append]
    rfl
  · rw [Array.toList_push]
    refine ⟨fun e he => ?_, ?_⟩
    · rcases List.mem_append.1 he with he | he
      · have := hbo.1 e he; omega
      · simp at he; subst he; simp
    · rw [List.map_append, List.nodup_append]
      refine ⟨hbo.2, by simp, ?_⟩
      rintro x hx y hy rfl
      simp at hy
      obtain ⟨e, he, rfl⟩ := List.mem_map.1 hx
      have := hbo.1 e he
      omega
end
/-! bytes -/
structure By where
  n : UInt8
instance : Sc By := ⟨fun x => .int .u8 x.n.toNat, fun _ => rfl, fun _ => rfl⟩
theorem wrap_by {x : Int} (h0 : 0 ≤ x) (h1 : x < 256) : IntKind.u8.wrap x = ((UInt8.ofNat x.toNat).toNat : Int) := by
  rw [IntKind.wrap_u8]
  simp
  omega
theorem qr_bytes {P : Program} {Γ : Ctx} {s d e : TypeId} (hs : P.underlying s = some (.slice e)) (he : P.underlying e = some (.int .u8)) (hd : P.underlying d = some .string) {L : Mem} {A : Option Addr} {c : Nat} {xs : List By} (hx : SlOk L A c xs) (hL : Mem.le L (lk Γ)) :
    QR P (.cnv s d) [.slice A xs.length c] Γ (.string ⟨(xs.map (·.n)).toArray⟩) := by
  intro w hw
  simp only [qsem]
  have hstr : ∀ ys : List By, strOfNums (ys.map fun x => (x.n.toNat : Int)) = ⟨(ys.map (·.n)).toArray⟩ := fun ys => by
    unfold strOfNums
    congr 1
    simp
  cases A with
  | none =>
    have : xs = [] := hx.ofNone
    subst this
    rw [run_convert_bytes_nil w s e hs he _ _ d hd]
    rfl
  | some a =>
    rcases hx.at' with rfl | ⟨b, o, cells, T, fr, hA, hb, hc⟩
    · have := run_convert_bytes_string (P := P) w s d e (some a) 0 c hs he hd
      simp only [List.length_nil]
      rw [this, run_bytesToString w a 0 c [] (by
        have := run_loadCells_list (P := P) w a [] (by simp)
        simpa using this)]
      rfl
    · simp only [Option.some.injEq] at hA
      subst hA
      have := run_convert_bytes_arg (P := P) w s e hs he b o xs.length c (xs.map fun x => (x.n.toNat : Int)) (by simp) (fun i hi => by
        obtain ⟨cs, h1, h2⟩ := hc i xs[i] (List.getElem?_eq_getElem hi)
        have h1 := ok_sc h1
        subst h1
        have h3 := h2 0 (by simp [Rep.sz])
        obtain ⟨g, hg, hgb⟩ := hL _ _ hb
        have hwb := hw g hg b _ hgb
        simp only [World.cell?, hwb]
        simp [Rep.sz, Sc.enc] at h3
        simp [h3, List.getD, hi]) d hd
      rw [this, hstr]
end Go.Proofs.Ytniobbepliknmaa.V
/- The text of cmp.Compare[int] as a statement (slots: 0 x, 1 y, 2 x, 3 y, 5 xNaN, 6 yNaN); no condition. -/
namespace Go.Proofs.Ytniobbepliknmaa.V
open Go
def S105_0 : Stmt :=
  Stmt.seq (Stmt.region [SOper.mk (some 4) none (SOp.mv (Operand.const (Value.int IntKind.i64 0)))] [0, 1])
  (Stmt.seq
    (Stmt.region
      [SOper.mk (some 7) none (SOp.mv (Operand.tmp 0)),
        SOper.mk (some 8) none (SOp.call (Operand.func 170) [Operand.tmp 7]),
        SOper.mk (some 5) none (SOp.mv (Operand.tmp 8))]
      [0, 1, 5])
    (Stmt.seq
      (Stmt.region
        [SOper.mk (some 9) none (SOp.mv (Operand.tmp 1)),
          SOper.mk (some 10) none (SOp.call (Operand.func 170) [Operand.tmp 9]),
          SOper.mk (some 6) none (SOp.mv (Operand.tmp 10))]
        [0, 1, 5, 6])
      (Stmt.seq
        (Stmt.seq (Stmt.region [SOper.mk (some 11) none (SOp.mv (Operand.tmp 5))] [0, 1, 6, 11])
          (Stmt.cond (Operand.tmp 11)
            (Stmt.seq
              (Stmt.seq (Stmt.region [SOper.mk (some 12) none (SOp.mv (Operand.tmp 6))] [12])
                (Stmt.cond (Operand.tmp 12)
                  (Stmt.seq
                    (Stmt.region [SOper.mk (some 4) none (SOp.mv (Operand.const (Value.int IntKind.i64 0)))] [4])
                    Stmt.ret)
                  Stmt.skip))
              (Stmt.seq (Stmt.region [SOper.mk (some 4) none (SOp.mv (Operand.const (Value.int IntKind.i64 (-1))))] [4])
                Stmt.ret))
            Stmt.skip))
        (Stmt.seq
          (Stmt.seq (Stmt.region [SOper.mk (some 13) none (SOp.mv (Operand.tmp 6))] [0, 1, 13])
            (Stmt.cond (Operand.tmp 13)
              (Stmt.seq (Stmt.region [SOper.mk (some 4) none (SOp.mv (Operand.const (Value.int IntKind.i64 1)))] [4])
                Stmt.ret)
              Stmt.skip))
          (Stmt.seq
            (Stmt.seq
              (Stmt.region
                [SOper.mk (some 14) none (SOp.mv (Operand.tmp 0)), SOper.mk (some 15) none (SOp.mv (Operand.tmp 1)),
                  SOper.mk (some 16) none (SOp.ibin BinOp.lss (Operand.tmp 14) (Operand.tmp 15))]
                [0, 1, 16])
              (Stmt.cond (Operand.tmp 16)
                (Stmt.seq
                  (Stmt.region [SOper.mk (some 4) none (SOp.mv (Operand.const (Value.int IntKind.i64 (-1))))] [4])
                  Stmt.ret)
                Stmt.skip))
            (Stmt.seq
              (Stmt.seq
                (Stmt.region
                  [SOper.mk (some 17) none (SOp.mv (Operand.tmp 0)), SOper.mk (some 18) none (SOp.mv (Operand.tmp 1)),
                    SOper.mk (some 19) none (SOp.ibin BinOp.gtr (Operand.tmp 17) (Operand.tmp 18))]
                  [19])
                (Stmt.cond (Operand.tmp 19)
                  (Stmt.seq
                    (Stmt.region [SOper.mk (some 4) none (SOp.mv (Operand.const (Value.int IntKind.i64 1)))] [4])
                    Stmt.ret)
                  Stmt.skip))
              (Stmt.seq (Stmt.region [SOper.mk (some 4) none (SOp.mv (Operand.const (Value.int IntKind.i64 0)))] [4])
                Stmt.ret)))))))
def S105 : FnS := ⟨20, [(4, none)], S105_0⟩
theorem tr105 : trFn Try.prog 105 [] [[0, 1], [0, 1, 5], [0, 1, 5, 6], [0, 1, 6, 11], [12], [4], [4], [0, 1, 13], [4], [0, 1, 16], [4], [19], [4], [4]] = some S105 := by kernel_rfl
end Go.Proofs.Ytniobbepliknmaa.V
/- The text of slices.Compare[[]int,int] as a statement (slots: 0 s1, 1 s2, 2 s1, 3 s2, 5 i, 6 v1, 7 v2, 8 c); no condition. -/
namespace Go.Proofs.Ytniobbepliknmaa.V
open Go
def S26_1 : Stmt :=
  Stmt.seq
  (Stmt.region [SOper.mk (some 12) none (SOp.ibin BinOp.lss (Operand.tmp 11) (Operand.tmp 10))] [0, 1, 9, 10, 11, 12])
  (Stmt.seq (Stmt.cond (Operand.tmp 12) Stmt.skip (Stmt.exit 0))
    (Stmt.seq
      (Stmt.block 1
        (Stmt.seq
          (Stmt.region
            [SOper.mk (some 13) none (SOp.mv (Operand.tmp 11)),
              SOper.mk (some 14) none (SOp.idx 1 (Operand.tmp 9) (Operand.tmp 11)),
              SOper.mk (some 15) none (SOp.load false 1 (Operand.tmp 14)),
              SOper.mk (some 5) none (SOp.mv (Operand.tmp 13)), SOper.mk (some 6) none (SOp.mv (Operand.tmp 15))]
            [0, 1, 5, 6, 9, 10, 11])
          (Stmt.seq
            (Stmt.seq
              (Stmt.region
                [SOper.mk (some 16) none (SOp.mv (Operand.tmp 5)), SOper.mk (some 17) none (SOp.mv (Operand.tmp 1)),
                  SOper.mk (some 18) none (SOp.len false (Operand.tmp 17)),
                  SOper.mk (some 19) none (SOp.ibin BinOp.geq (Operand.tmp 16) (Operand.tmp 18))]
                [0, 1, 5, 6, 9, 10, 11, 19])
              (Stmt.cond (Operand.tmp 19)
                (Stmt.seq (Stmt.region [SOper.mk (some 4) none (SOp.mv (Operand.const (Value.int IntKind.i64 1)))] [4])
                  Stmt.ret)
                Stmt.skip))
            (Stmt.seq
              (Stmt.region
                [SOper.mk (some 20) none (SOp.mv (Operand.tmp 1)), SOper.mk (some 21) none (SOp.mv (Operand.tmp 5)),
                  SOper.mk (some 22) none (SOp.idx 1 (Operand.tmp 20) (Operand.tmp 21)),
                  SOper.mk (some 23) none (SOp.load false 1 (Operand.tmp 22)),
                  SOper.mk (some 7) none (SOp.mv (Operand.tmp 23))]
                [0, 1, 6, 7, 9, 10, 11])
              (Stmt.seq
                (Stmt.region
                  [SOper.mk (some 24) none (SOp.mv (Operand.tmp 6)), SOper.mk (some 25) none (SOp.mv (Operand.tmp 7)),
                    SOper.mk (some 26) none (SOp.call (Operand.func 105) [Operand.tmp 24, Operand.tmp 25]),
                    SOper.mk (some 8) none (SOp.mv (Operand.tmp 26))]
                  [0, 1, 8, 9, 10, 11])
                (Stmt.seq
                  (Stmt.region
                    [SOper.mk (some 27) none (SOp.mv (Operand.tmp 8)),
                      SOper.mk (some 28) none
                        (SOp.ibin BinOp.neq (Operand.tmp 27) (Operand.const (Value.int IntKind.i64 0)))]
                    [0, 1, 8, 9, 10, 11, 28])
                  (Stmt.cond (Operand.tmp 28)
                    (Stmt.seq
                      (Stmt.region
                        [SOper.mk (some 29) none (SOp.mv (Operand.tmp 8)),
                          SOper.mk (some 4) none (SOp.mv (Operand.tmp 29))]
                        [4])
                      Stmt.ret)
                    Stmt.skip)))))))
      (Stmt.region
        [SOper.mk (some 30) none (SOp.ibin BinOp.add (Operand.tmp 11) (Operand.const (Value.int IntKind.i64 1))),
          SOper.mk (some 11) none (SOp.mv (Operand.tmp 30))]
        [0, 1, 9, 10, 11])))
def S26_0 : Stmt :=
  Stmt.seq (Stmt.region [SOper.mk (some 4) none (SOp.mv (Operand.const (Value.int IntKind.i64 0)))] [0, 1])
  (Stmt.seq
    (Stmt.seq
      (Stmt.region
        [SOper.mk (some 9) none (SOp.mv (Operand.tmp 0)), SOper.mk (some 10) none (SOp.len false (Operand.tmp 9)),
          SOper.mk (some 11) none (SOp.mv (Operand.const (Value.int IntKind.i64 0)))]
        [0, 1, 9, 10, 11])
      (Stmt.block 0 (Stmt.loop S26_1 [11] [0, 1, 9, 10])))
    (Stmt.seq
      (Stmt.seq
        (Stmt.region
          [SOper.mk (some 31) none (SOp.mv (Operand.tmp 0)), SOper.mk (some 32) none (SOp.len false (Operand.tmp 31)),
            SOper.mk (some 33) none (SOp.mv (Operand.tmp 1)), SOper.mk (some 34) none (SOp.len false (Operand.tmp 33)),
            SOper.mk (some 35) none (SOp.ibin BinOp.lss (Operand.tmp 32) (Operand.tmp 34))]
          [35])
        (Stmt.cond (Operand.tmp 35)
          (Stmt.seq (Stmt.region [SOper.mk (some 4) none (SOp.mv (Operand.const (Value.int IntKind.i64 (-1))))] [4])
            Stmt.ret)
          Stmt.skip))
      (Stmt.seq (Stmt.region [SOper.mk (some 4) none (SOp.mv (Operand.const (Value.int IntKind.i64 0)))] [4])
        Stmt.ret)))
def S26 : FnS := ⟨36, [(4, none)], S26_0⟩
theorem tr26 : trFn Try.prog 26 [] [[0, 1], [0, 1, 9, 10, 11], [11], [0, 1, 9, 10], [0, 1, 9, 10, 11, 12], [0, 1, 5, 6, 9, 10, 11], [0, 1, 5, 6, 9, 10, 11, 19], [4], [0, 1, 6, 7, 9, 10, 11], [0, 1, 8, 9, 10, 11], [0, 1, 8, 9, 10, 11, 28], [4], [0, 1, 9, 10, 11], [35], [4], [4]] = some S26 := by kernel_rfl
end Go.Proofs.Ytniobbepliknmaa.V
/- The text of cmp.isNaN[int] as a statement (slots: 0 x, 1 x); no condition. -/
namespace Go.Proofs.Ytniobbepliknmaa.V
open Go
def S170_0 : Stmt :=
  Stmt.seq (Stmt.region [SOper.mk (some 2) none (SOp.mv (Operand.const (Value.bool false)))] [0])
  (Stmt.seq
    (Stmt.region
      [SOper.mk (some 3) none (SOp.mv (Operand.tmp 0)), SOper.mk (some 4) none (SOp.mv (Operand.tmp 0)),
        SOper.mk (some 5) none (SOp.ibin BinOp.neq (Operand.tmp 3) (Operand.tmp 4)),
        SOper.mk (some 2) none (SOp.mv (Operand.tmp 5))]
      [2])
    Stmt.ret)
def S170 : FnS := ⟨6, [(2, none)], S170_0⟩
theorem tr170 : trFn Try.prog 170 [] [[0], [2]] = some S170 := by kernel_rfl
end Go.Proofs.Ytniobbepliknmaa.V
/- cmp.Compare and slices.Compare of whole numbers walked; no condition. -/
namespace Go.Proofs.Ytniobbepliknmaa.V
open Go
set_option linter.unusedVariables false
set_option linter.unusedSimpArgs false
attribute [local go_sem] e_seq e_region e_quiet e_join e_loop e_cond e_block e_exit e_ret e_skip e_fin e_kseq e_snrm e_sret e_sex e_bnrm e_bret e_bex e_rnrm e_rret e_res e_condC e_nil e_g e_mv g_mv e_pick g_pick pickC_eq e_ibin g_ibin ibinC_eq e_sbin g_sbin e_beq g_beq beqC_eq e_nilq g_nilq nilqC_sl nilqC_pt nilqC_mp e_un g_un unC_not unC_neg e_conv g_conv convC_eq e_fld g_fld fldC_ref fldC_ptr e_nilCheck g_nilCheck nilCheckC_ref nilCheckC_ptr nilCheckC_fun e_field g_field fieldC_eq e_len g_len lenC_sl lenC_str e_extract g_extract extractC_eq e_mkFunc e_build g_build e_idiv g_idiv idivC_eq e_ishift g_ishift ishiftC_eq e_idx g_idx e_idxA g_idxA e_load g_load loadC_ref loadC_ptr loadB_eq e_slc g_slc e_box boxC_loc boxC_esc e_alloc allocC_loc allocC_esc e_buildS e_store storeC_ref storeC_ptr storeB_eq e_append e_appz e_mk mkC_eq e_call callC_eq e_fn g_fn fnC_eq fnV_min' fnV_max' fnV_rune' e_q g_q e_a e_n g_call g_box g_alloc g_buildS g_store g_append g_mk g_a g_n g_dead e_dead e_callK e_drawn e_tree e_finJ e_tk e_tfin e_tno e_nbt_q e_nbt_qn e_nbt_a e_nbt_an e_nbt_fin e_early_nil e_early_t e_early_f e_nob_nil e_nob_none e_nob_some isBox_dead isBox_v isBox_ref e_dnil e_dk e_ek e_finB vcOps_vc1 e_dcons e_tq e_ekt e_tearly e_talt e_dearly look_nil look_c proj_nil proj_c looks_nil looks_c zip_nil zip_c val_tmp val_const val_func slv_v slv_box slv_ref slot_tmp slot_const slot_func slotL_v slotL_box slotL_ref put_some put_none updBox_c boxSet_box gd_eq slotVals_nil slotVals_c slotVals_b boxV_box boxOn_box slotsOn_nil slotsOn_c slotsOn_b resV_one resV_two vals_nil vals_c allOn_nil allOn_c partOn_nil partOn_c partVals_nil partVals_c fits_nil fits_c fillL_nil fillL_c mkv_one mkv_agg cellsV_agg cellsV_int cellsV_bool cellsV_slice cellsV_string cellsV_pointer cellsV_func cellsV_nilf cellsV_map one'_nil one'_c oc_int oc_bool oc_slice oc_string oc_pointer oc_func oc_nilf oc_map setC_eq iv_add iv_sub iv_mul iv_eql iv_neq iv_lss iv_leq iv_gtr iv_geq iok_add iok_sub iok_mul iok_eql iok_neq iok_lss iok_leq iok_gtr iok_geq pickV_bool args0_nil args0_c bnd_none bnd_some imp_bt imp_bf imp_ebt imp_ebf imp_eb1 imp_np imp_pp beq_tt beq_tf beq_ft beq_ff cond_or cond_and e_round e_meet Int.le_refl Int.toNat_zero decide_true decide_false Bool.or_false Bool.false_or Bool.true_or Bool.or_true Bool.and_false Bool.false_and Bool.bne_false Bool.bne_true beq_iff_eq Int.cast_ofNat_Int not_false_eq_true not_true_eq_false false_and and_false false_implies true_implies true_and and_true Bool.true_and Bool.and_true Bool.not_true Bool.not_false forall_const implies_true List.take_zero List.drop_zero List.take_succ_cons List.drop_succ_cons List.take_nil List.drop_nil List.length_cons List.length_nil List.nil_append List.append_nil List.cons_append Int.toNat_natCast decide_eq_true_eq decide_eq_false_iff_not cond_true cond_false and_self List.getElem?_cons_zero List.getElem?_cons_succ List.set_cons_zero List.set_cons_succ Option.some.injEq exists_eq_left' Nat.zero_add Nat.add_zero Nat.mul_one imp_self true_or or_true or_false false_or Bool.or_eq_true Bool.or_eq_false_iff Bool.and_eq_true Bool.and_eq_false_iff Bool.not_eq_true' Bool.not_eq_false'

def cmpI (a b : Int) : Int := if a < b then -1 else if b < a then 1 else 0
def cmpL : List Int → List Int → Int
  | [], [] => 0
  | [], _ :: _ => -1
  | _ :: _, [] => 1
  | a :: r, b :: s => if cmpI a b = 0 then cmpL r s else cmpI a b

theorem is_nan {Γr : Ctx} (a : Int) : Ret Try.prog 170 [.int .i64 a] Γr [] (fun v Γ => Γ = [] ∧ v = .bool false) := by
  generalize hR : (fun (v : Value) (Γ : Ctx) => Γ = [] ∧ _) = R
  refine ret_of_vc tr170 (Nat.le_of_ble_eq_true rfl) ?_
  simp only [S170, S170_0, go_sem, Nat.reduceBEq, Nat.reduceAdd, Nat.reduceSub, Nat.reduceMul, Nat.reduceLeDiff, reduceCtorEq, ↓reduceIte, Int.reduceLT, Int.reduceLE, Int.reduceEq, Int.reduceNe]
  refine Up.here ?_
  subst hR
  exact ⟨rfl, by simp⟩
theorem cmp_compare {Γr : Ctx} (a b : Int) : Ret Try.prog 105 [.int .i64 a, .int .i64 b] Γr [] (fun v Γ => Γ = [] ∧ v = .int .i64 (cmpI a b)) := by
  generalize hR : (fun (v : Value) (Γ : Ctx) => Γ = [] ∧ _) = R
  refine ret_of_vc tr105 (Nat.le_of_ble_eq_true rfl) ?_
  simp only [S105, S105_0, go_sem, Nat.reduceBEq, Nat.reduceAdd, Nat.reduceSub, Nat.reduceMul, Nat.reduceLeDiff, reduceCtorEq, ↓reduceIte, Int.reduceLT, Int.reduceLE, Int.reduceEq, Int.reduceNe]
  refine CallVC.read (is_nan a) ?_
  rintro v Γ' ⟨rfl, rfl⟩
  simp only [go_sem, Nat.reduceBEq, Nat.reduceAdd, Nat.reduceSub, Nat.reduceMul, Nat.reduceLeDiff, reduceCtorEq, ↓reduceIte, Int.reduceLT, Int.reduceLE, Int.reduceEq, Int.reduceNe]
  refine CallVC.read (is_nan b) ?_
  rintro v Γ' ⟨rfl, rfl⟩
  simp only [go_sem, Nat.reduceBEq, Nat.reduceAdd, Nat.reduceSub, Nat.reduceMul, Nat.reduceLeDiff, reduceCtorEq, ↓reduceIte, Int.reduceLT, Int.reduceLE, Int.reduceEq, Int.reduceNe]
  subst hR
  refine ⟨fun h => Up.here ⟨rfl, ?_⟩, fun h => ⟨fun h' => Up.here ⟨rfl, ?_⟩, fun h' => Up.here ⟨rfl, ?_⟩⟩⟩
  · simp [cmpI, h]
  · simp [cmpI, h, h']
  · simp [cmpI, h, h']

theorem slices_compare {Γr : Ctx} {A B : Option Addr} {c d : Nat} {xs ys : List Int} (hx : SlOk (lk Γr) A c xs) (hy : SlOk (lk Γr) B d ys) :
    Ret Try.prog 26 [.slice A xs.length c, .slice B ys.length d] Γr [] (fun v Γ => Γ = [] ∧ v = .int .i64 (cmpL xs ys)) := by
  generalize hR : (fun (v : Value) (Γ : Ctx) => Γ = [] ∧ _) = R
  refine ret_of_vc tr26 (Nat.le_of_ble_eq_true rfl) ?_
  have h1 := hx.short
  have h2 := hy.short
  simp only [S26, S26_0, go_sem, Nat.reduceBEq, Nat.reduceAdd, Nat.reduceSub, Nat.reduceMul, Nat.reduceLeDiff, reduceCtorEq, ↓reduceIte, Int.reduceLT, Int.reduceLE, Int.reduceEq, Int.reduceNe]
  refine s_loop (fun f vs Γ => Γ = [] ∧ ∃ k : Nat, vs = [.v true (.int .i64 k)] ∧ k + f = xs.length ∧ k ≤ ys.length ∧ cmpL xs ys = cmpL (xs.drop k) (ys.drop k)) xs.length (Up.here ⟨rfl, 0, rfl, by omega, by omega, by simp⟩) ?_
  rintro f vs Γ ⟨rfl, k, rfl, hkf, hky, he⟩
  simp only [S26_1, go_sem, Nat.reduceBEq, Nat.reduceAdd, Nat.reduceSub, Nat.reduceMul, Nat.reduceLeDiff, reduceCtorEq, ↓reduceIte, Int.reduceLT, Int.reduceLE, Int.reduceEq, Int.reduceNe]
  refine ⟨fun hlt => ?_, fun hge => ?_⟩
  · have hk : k < xs.length := by omega
    obtain ⟨b, o, hA, hc1⟩ := hx.int hk
    refine s_idx hA (by omega) (by omega) ?_
    simp only [go_sem, Nat.reduceBEq, Nat.reduceAdd, Nat.reduceSub, Nat.reduceMul, Nat.reduceLeDiff, reduceCtorEq, ↓reduceIte, Int.reduceLT, Int.reduceLE, Int.reduceEq, Int.reduceNe]
    refine s_ld0 (hc1 _ (Mem.le.refl _)) (by simp) (by simp) ?_
    simp only [go_sem, Nat.reduceBEq, Nat.reduceAdd, Nat.reduceSub, Nat.reduceMul, Nat.reduceLeDiff, reduceCtorEq, ↓reduceIte, Int.reduceLT, Int.reduceLE, Int.reduceEq, Int.reduceNe]
    rw [List.drop_eq_getElem_cons hk] at he
    refine ⟨fun hle => Up.here ?_, fun hlt2 => ?_⟩
    · have : ys.drop k = [] := List.drop_eq_nil_of_le (by omega)
      subst hR
      refine ⟨rfl, ?_⟩
      rw [he, this]
      rfl
    · have hk' : k < ys.length := by omega
      obtain ⟨b', o', hB, hc2⟩ := hy.int hk'
      refine s_idx hB (by omega) (by omega) ?_
      simp only [go_sem, Nat.reduceBEq, Nat.reduceAdd, Nat.reduceSub, Nat.reduceMul, Nat.reduceLeDiff, reduceCtorEq, ↓reduceIte, Int.reduceLT, Int.reduceLE, Int.reduceEq, Int.reduceNe]
      refine s_ld0 (hc2 _ (Mem.le.refl _)) (by simp) (by simp) ?_
      simp only [go_sem, Nat.reduceBEq, Nat.reduceAdd, Nat.reduceSub, Nat.reduceMul, Nat.reduceLeDiff, reduceCtorEq, ↓reduceIte, Int.reduceLT, Int.reduceLE, Int.reduceEq, Int.reduceNe]
      refine CallVC.read (cmp_compare _ _) ?_
      rintro v Γ' ⟨rfl, rfl⟩
      rw [List.drop_eq_getElem_cons hk', cmpL] at he
      simp only [go_sem, Nat.reduceBEq, Nat.reduceAdd, Nat.reduceSub, Nat.reduceMul, Nat.reduceLeDiff, reduceCtorEq, ↓reduceIte, Int.reduceLT, Int.reduceLE, Int.reduceEq, Int.reduceNe]
      refine ⟨fun hne => Up.here ?_, fun heq => ?_⟩
      · rw [if_neg hne] at he
        subst hR
        exact ⟨rfl, by rw [he]⟩
      · rw [if_pos heq] at he
        simp (disch := omega) only [wrap_id]
        exact ⟨f - 1, by omega, Up.here ⟨rfl, k + 1, rfl, by omega, by omega, he⟩⟩
  · have hk : k = xs.length := by omega
    rw [hk, List.drop_length] at he
    subst hR
    refine ⟨fun h => Up.here ⟨rfl, ?_⟩, fun h => Up.here ⟨rfl, ?_⟩⟩
    · rw [he, List.drop_eq_getElem_cons (by omega)]
      rfl
    · rw [he, List.drop_eq_nil_of_le (by omega)]
      rfl
end Go.Proofs.Ytniobbepliknmaa.V
/- The text of parlance/gram.Order as a statement (slots: 0 a, 1 b, 2 a, 3 b); no condition. -/
namespace Go.Proofs.Ytniobbepliknmaa.V
open Go
def S203_0 : Stmt :=
  Stmt.seq
  (Stmt.region
    [SOper.mk (some 2) none (SOp.box true 39 (Operand.tmp 0)), SOper.mk (some 3) none (SOp.box true 39 (Operand.tmp 1)),
      SOper.mk (some 4) none (SOp.mv (Operand.const (Value.int IntKind.i64 0)))]
    [2, 3])
  (Stmt.seq
    (Stmt.block 0
      (Stmt.seq
        (Stmt.region
          [SOper.mk (some 6) none (SOp.fld 0 (Operand.tmp 2)),
            SOper.mk (some 7) none (SOp.load false 1 (Operand.tmp 6)), SOper.mk (some 8) none (SOp.mv (Operand.tmp 7)),
            SOper.mk (some 9) (some (8, true)) (SOp.fld 0 (Operand.tmp 3)),
            SOper.mk (some 10) (some (8, true)) (SOp.load false 1 (Operand.tmp 9)),
            SOper.mk (some 11) (some (8, true)) (SOp.un UnOp.not (Operand.tmp 10)),
            SOper.mk (some 12) none (SOp.pick (Operand.tmp 8) (Operand.tmp 11) (Operand.const (Value.bool false))),
            SOper.mk (some 5) none (SOp.mv (Operand.tmp 12))]
          [2, 3, 5])
        (Stmt.cond (Operand.tmp 5)
          (Stmt.seq (Stmt.region [SOper.mk (some 4) none (SOp.mv (Operand.const (Value.int IntKind.i64 (-1))))] [4])
            Stmt.ret)
          (Stmt.seq
            (Stmt.region
              [SOper.mk (some 14) none (SOp.fld 0 (Operand.tmp 2)),
                SOper.mk (some 15) none (SOp.load false 1 (Operand.tmp 14)),
                SOper.mk (some 16) none (SOp.un UnOp.not (Operand.tmp 15)),
                SOper.mk (some 17) none (SOp.mv (Operand.tmp 16)),
                SOper.mk (some 18) (some (17, true)) (SOp.fld 0 (Operand.tmp 3)),
                SOper.mk (some 19) (some (17, true)) (SOp.load false 1 (Operand.tmp 18)),
                SOper.mk (some 20) none (SOp.pick (Operand.tmp 17) (Operand.tmp 19) (Operand.const (Value.bool false))),
                SOper.mk (some 13) none (SOp.mv (Operand.tmp 20))]
              [2, 3, 13])
            (Stmt.cond (Operand.tmp 13)
              (Stmt.seq (Stmt.region [SOper.mk (some 4) none (SOp.mv (Operand.const (Value.int IntKind.i64 1)))] [4])
                Stmt.ret)
              Stmt.skip)))))
    (Stmt.seq
      (Stmt.region
        [SOper.mk (some 21) none (SOp.fld 1 (Operand.tmp 2)),
          SOper.mk (some 22) none (SOp.load false 1 (Operand.tmp 21)),
          SOper.mk (some 23) none (SOp.fld 1 (Operand.tmp 3)),
          SOper.mk (some 24) none (SOp.load false 1 (Operand.tmp 23)),
          SOper.mk (some 25) none (SOp.call (Operand.func 105) [Operand.tmp 22, Operand.tmp 24]),
          SOper.mk (some 4) none (SOp.mv (Operand.tmp 25))]
        [4])
      Stmt.ret))
def S203 : FnS := ⟨26, [(4, none)], S203_0⟩
theorem tr203 : trFn Try.prog 203 [2, 3] [[2, 3], [2, 3, 5], [4], [2, 3, 13], [4], [4]] = some S203 := by kernel_rfl
end Go.Proofs.Ytniobbepliknmaa.V
/- The text of slices.CompareFunc[[]parlance/api.Sym,[]parlance/api.Sym,parlance/api.Sym,parlance/api.Sym] as a statement (slots: 0 s1, 1 s2, 2 cmp, 3 s1, 4 s2, 5 cmp, 7 i, 8 v1, 9 v2, 10 c); no condition. -/
namespace Go.Proofs.Ytniobbepliknmaa.V
open Go
def S202_1 : Stmt :=
  Stmt.seq
  (Stmt.region [SOper.mk (some 14) none (SOp.ibin BinOp.lss (Operand.tmp 13) (Operand.tmp 12))]
    [0, 1, 2, 11, 12, 13, 14])
  (Stmt.seq (Stmt.cond (Operand.tmp 14) Stmt.skip (Stmt.exit 0))
    (Stmt.seq
      (Stmt.block 1
        (Stmt.seq
          (Stmt.region
            [SOper.mk (some 15) none (SOp.mv (Operand.tmp 13)),
              SOper.mk (some 16) none (SOp.idx 2 (Operand.tmp 11) (Operand.tmp 13)),
              SOper.mk (some 17) none (SOp.load true 2 (Operand.tmp 16)),
              SOper.mk (some 8) none
                (SOp.alloc true 39 (Value.agg (Array.mk [Value.bool false, Value.int IntKind.i64 0]))),
              SOper.mk (some 7) none (SOp.mv (Operand.tmp 15)),
              SOper.mk none none (SOp.store 2 (Operand.tmp 8) (Operand.tmp 17))]
            [0, 1, 2, 7, 8, 11, 12, 13])
          (Stmt.seq
            (Stmt.seq
              (Stmt.region
                [SOper.mk (some 18) none (SOp.mv (Operand.tmp 7)), SOper.mk (some 19) none (SOp.mv (Operand.tmp 1)),
                  SOper.mk (some 20) none (SOp.len false (Operand.tmp 19)),
                  SOper.mk (some 21) none (SOp.ibin BinOp.geq (Operand.tmp 18) (Operand.tmp 20))]
                [0, 1, 2, 7, 8, 11, 12, 13, 21])
              (Stmt.cond (Operand.tmp 21)
                (Stmt.seq (Stmt.region [SOper.mk (some 6) none (SOp.mv (Operand.const (Value.int IntKind.i64 1)))] [6])
                  Stmt.ret)
                Stmt.skip))
            (Stmt.seq
              (Stmt.region
                [SOper.mk (some 22) none (SOp.mv (Operand.tmp 1)), SOper.mk (some 23) none (SOp.mv (Operand.tmp 7)),
                  SOper.mk (some 24) none (SOp.idx 2 (Operand.tmp 22) (Operand.tmp 23)),
                  SOper.mk (some 25) none (SOp.load true 2 (Operand.tmp 24)),
                  SOper.mk (some 9) none
                    (SOp.alloc true 39 (Value.agg (Array.mk [Value.bool false, Value.int IntKind.i64 0]))),
                  SOper.mk none none (SOp.store 2 (Operand.tmp 9) (Operand.tmp 25))]
                [0, 1, 2, 8, 9, 11, 12, 13])
              (Stmt.seq
                (Stmt.region
                  [SOper.mk (some 26) none (SOp.mv (Operand.tmp 2)),
                    SOper.mk (some 27) none (SOp.load true 2 (Operand.tmp 8)),
                    SOper.mk (some 28) none (SOp.load true 2 (Operand.tmp 9)),
                    SOper.mk (some 29) none (SOp.call (Operand.tmp 26) [Operand.tmp 27, Operand.tmp 28]),
                    SOper.mk (some 10) none (SOp.mv (Operand.tmp 29))]
                  [0, 1, 2, 10, 11, 12, 13])
                (Stmt.seq
                  (Stmt.region
                    [SOper.mk (some 30) none (SOp.mv (Operand.tmp 10)),
                      SOper.mk (some 31) none
                        (SOp.ibin BinOp.neq (Operand.tmp 30) (Operand.const (Value.int IntKind.i64 0)))]
                    [0, 1, 2, 10, 11, 12, 13, 31])
                  (Stmt.cond (Operand.tmp 31)
                    (Stmt.seq
                      (Stmt.region
                        [SOper.mk (some 32) none (SOp.mv (Operand.tmp 10)),
                          SOper.mk (some 6) none (SOp.mv (Operand.tmp 32))]
                        [6])
                      Stmt.ret)
                    Stmt.skip)))))))
      (Stmt.region
        [SOper.mk (some 33) none (SOp.ibin BinOp.add (Operand.tmp 13) (Operand.const (Value.int IntKind.i64 1))),
          SOper.mk (some 13) none (SOp.mv (Operand.tmp 33))]
        [0, 1, 2, 11, 12, 13])))
def S202_0 : Stmt :=
  Stmt.seq (Stmt.region [SOper.mk (some 6) none (SOp.mv (Operand.const (Value.int IntKind.i64 0)))] [0, 1, 2])
  (Stmt.seq
    (Stmt.seq
      (Stmt.region
        [SOper.mk (some 11) none (SOp.mv (Operand.tmp 0)), SOper.mk (some 12) none (SOp.len false (Operand.tmp 11)),
          SOper.mk (some 13) none (SOp.mv (Operand.const (Value.int IntKind.i64 0)))]
        [0, 1, 2, 11, 12, 13])
      (Stmt.block 0 (Stmt.loop S202_1 [13] [0, 1, 2, 11, 12])))
    (Stmt.seq
      (Stmt.seq
        (Stmt.region
          [SOper.mk (some 34) none (SOp.mv (Operand.tmp 0)), SOper.mk (some 35) none (SOp.len false (Operand.tmp 34)),
            SOper.mk (some 36) none (SOp.mv (Operand.tmp 1)), SOper.mk (some 37) none (SOp.len false (Operand.tmp 36)),
            SOper.mk (some 38) none (SOp.ibin BinOp.lss (Operand.tmp 35) (Operand.tmp 37))]
          [38])
        (Stmt.cond (Operand.tmp 38)
          (Stmt.seq (Stmt.region [SOper.mk (some 6) none (SOp.mv (Operand.const (Value.int IntKind.i64 (-1))))] [6])
            Stmt.ret)
          Stmt.skip))
      (Stmt.seq (Stmt.region [SOper.mk (some 6) none (SOp.mv (Operand.const (Value.int IntKind.i64 0)))] [6])
        Stmt.ret)))
def S202 : FnS := ⟨39, [(6, none)], S202_0⟩
theorem tr202 : trFn Try.prog 202 [8, 9] [[0, 1, 2], [0, 1, 2, 11, 12, 13], [13], [0, 1, 2, 11, 12], [0, 1, 2, 11, 12, 13, 14], [0, 1, 2, 7, 8, 11, 12, 13], [0, 1, 2, 7, 8, 11, 12, 13, 21], [6], [0, 1, 2, 8, 9, 11, 12, 13], [0, 1, 2, 10, 11, 12, 13], [0, 1, 2, 10, 11, 12, 13, 31], [6], [0, 1, 2, 11, 12, 13], [38], [6], [6]] = some S202 := by kernel_rfl
end Go.Proofs.Ytniobbepliknmaa.V
/- The text of parlance/gram.Compare as a statement (slots: 0 a, 1 b, 2 a, 3 b, 5 c); no condition. -/
namespace Go.Proofs.Ytniobbepliknmaa.V
open Go
def S172_0 : Stmt :=
  Stmt.seq
  (Stmt.region
    [SOper.mk (some 2) none (SOp.box true 37 (Operand.tmp 0)), SOper.mk (some 3) none (SOp.box true 37 (Operand.tmp 1)),
      SOper.mk (some 4) none (SOp.mv (Operand.const (Value.int IntKind.i64 0)))]
    [2, 3])
  (Stmt.seq
    (Stmt.seq
      (Stmt.region
        [SOper.mk (some 6) none (SOp.fld 0 (Operand.tmp 2)), SOper.mk (some 7) none (SOp.load false 1 (Operand.tmp 6)),
          SOper.mk (some 8) none (SOp.fld 0 (Operand.tmp 3)), SOper.mk (some 9) none (SOp.load false 1 (Operand.tmp 8)),
          SOper.mk (some 10) none (SOp.call (Operand.func 105) [Operand.tmp 7, Operand.tmp 9]),
          SOper.mk (some 5) none (SOp.mv (Operand.tmp 10))]
        [2, 3, 5])
      (Stmt.seq
        (Stmt.region
          [SOper.mk (some 11) none (SOp.mv (Operand.tmp 5)),
            SOper.mk (some 12) none (SOp.ibin BinOp.neq (Operand.tmp 11) (Operand.const (Value.int IntKind.i64 0)))]
          [2, 3, 5, 12])
        (Stmt.cond (Operand.tmp 12)
          (Stmt.seq
            (Stmt.region
              [SOper.mk (some 13) none (SOp.mv (Operand.tmp 5)), SOper.mk (some 4) none (SOp.mv (Operand.tmp 13))] [4])
            Stmt.ret)
          Stmt.skip)))
    (Stmt.seq
      (Stmt.region
        [SOper.mk (some 14) none (SOp.fld 1 (Operand.tmp 2)),
          SOper.mk (some 15) none (SOp.load false 1 (Operand.tmp 14)),
          SOper.mk (some 16) none (SOp.fld 1 (Operand.tmp 3)),
          SOper.mk (some 17) none (SOp.load false 1 (Operand.tmp 16)),
          SOper.mk (some 18) none (SOp.call (Operand.func 202) [Operand.tmp 15, Operand.tmp 17, Operand.func 203]),
          SOper.mk (some 4) none (SOp.mv (Operand.tmp 18))]
        [4])
      Stmt.ret))
def S172 : FnS := ⟨19, [(4, none)], S172_0⟩
theorem tr172 : trFn Try.prog 172 [2, 3] [[2, 3], [2, 3, 5], [2, 3, 5, 12], [4], [4]] = some S172 := by kernel_rfl
end Go.Proofs.Ytniobbepliknmaa.V
/- The text of parlance/gram.Check as a statement (slots: 0 g, 1 g, 3 i, 4 r, 5 _, 6 s, 7 _, 8 q); no condition. -/
namespace Go.Proofs.Ytniobbepliknmaa.V
open Go
def S112_1 : Stmt :=
  Stmt.seq
  (Stmt.region [SOper.mk (some 69) none (SOp.ibin BinOp.lss (Operand.tmp 68) (Operand.tmp 67))]
    [1, 3, 4, 44, 45, 46, 66, 67, 68, 69])
  (Stmt.seq (Stmt.cond (Operand.tmp 69) Stmt.skip (Stmt.exit 2))
    (Stmt.seq
      (Stmt.block 3
        (Stmt.seq
          (Stmt.region
            [SOper.mk (some 70) none (SOp.idx 2 (Operand.tmp 66) (Operand.tmp 68)),
              SOper.mk (some 71) none (SOp.load true 2 (Operand.tmp 70)),
              SOper.mk (some 6) none
                (SOp.alloc true 39 (Value.agg (Array.mk [Value.bool false, Value.int IntKind.i64 0]))),
              SOper.mk none none (SOp.store 2 (Operand.tmp 6) (Operand.tmp 71))]
            [1, 3, 4, 6, 44, 45, 46, 66, 67, 68])
          (Stmt.seq
            (Stmt.region
              [SOper.mk (some 72) none (SOp.fld 1 (Operand.tmp 6)),
                SOper.mk (some 73) none (SOp.load false 1 (Operand.tmp 72)),
                SOper.mk (some 74) none (SOp.ibin BinOp.lss (Operand.tmp 73) (Operand.const (Value.int IntKind.i64 0))),
                SOper.mk (some 75) none (SOp.mv (Operand.tmp 74)),
                SOper.mk (some 76) (some (75, false)) (SOp.fld 0 (Operand.tmp 6)),
                SOper.mk (some 77) (some (75, false)) (SOp.load false 1 (Operand.tmp 76)),
                SOper.mk (some 78) (some (75, false)) (SOp.mv (Operand.tmp 77)),
                SOper.mk (some 79) (some (78, true)) (SOp.fld 1 (Operand.tmp 6)),
                SOper.mk (some 80) (some (78, true)) (SOp.load false 1 (Operand.tmp 79)),
                SOper.mk (some 81) (some (78, true)) (SOp.fld 0 (Operand.tmp 1)),
                SOper.mk (some 82) (some (78, true)) (SOp.load false 1 (Operand.tmp 81)),
                SOper.mk (some 83) (some (78, true)) (SOp.ibin BinOp.geq (Operand.tmp 80) (Operand.tmp 82)),
                SOper.mk (some 84) (some (75, false))
                  (SOp.pick (Operand.tmp 78) (Operand.tmp 83) (Operand.const (Value.bool false))),
                SOper.mk (some 85) none (SOp.pick (Operand.tmp 75) (Operand.const (Value.bool true)) (Operand.tmp 84)),
                SOper.mk (some 86) none (SOp.mv (Operand.tmp 85)),
                SOper.mk (some 87) (some (86, false)) (SOp.fld 0 (Operand.tmp 6)),
                SOper.mk (some 88) (some (86, false)) (SOp.load false 1 (Operand.tmp 87)),
                SOper.mk (some 89) (some (86, false)) (SOp.un UnOp.not (Operand.tmp 88)),
                SOper.mk (some 90) (some (86, false)) (SOp.mv (Operand.tmp 89)),
                SOper.mk (some 91) (some (90, true)) (SOp.fld 1 (Operand.tmp 6)),
                SOper.mk (some 92) (some (90, true)) (SOp.load false 1 (Operand.tmp 91)),
                SOper.mk (some 93) (some (90, true)) (SOp.fld 1 (Operand.tmp 1)),
                SOper.mk (some 94) (some (90, true)) (SOp.load false 1 (Operand.tmp 93)),
                SOper.mk (some 95) (some (90, true)) (SOp.ibin BinOp.geq (Operand.tmp 92) (Operand.tmp 94)),
                SOper.mk (some 96) (some (86, false))
                  (SOp.pick (Operand.tmp 90) (Operand.tmp 95) (Operand.const (Value.bool false))),
                SOper.mk (some 97) none (SOp.pick (Operand.tmp 86) (Operand.const (Value.bool true)) (Operand.tmp 96))]
              [1, 3, 4, 44, 45, 46, 66, 67, 68, 97])
            (Stmt.cond (Operand.tmp 97)
              (Stmt.seq (Stmt.region [SOper.mk (some 2) none (SOp.mv (Operand.const (Value.int IntKind.i64 3)))] [2])
                Stmt.ret)
              Stmt.skip))))
      (Stmt.region
        [SOper.mk (some 98) none (SOp.ibin BinOp.add (Operand.tmp 68) (Operand.const (Value.int IntKind.i64 1))),
          SOper.mk (some 68) none (SOp.mv (Operand.tmp 98))]
        [1, 3, 4, 44, 45, 46, 66, 67, 68])))
def S112_2 : Stmt :=
  Stmt.seq
  (Stmt.region [SOper.mk (some 105) none (SOp.ibin BinOp.lss (Operand.tmp 104) (Operand.tmp 103))]
    [1, 4, 44, 45, 46, 102, 103, 104, 105])
  (Stmt.seq (Stmt.cond (Operand.tmp 105) Stmt.skip (Stmt.exit 4))
    (Stmt.seq
      (Stmt.block 5
        (Stmt.seq
          (Stmt.region
            [SOper.mk (some 106) none (SOp.idx 2 (Operand.tmp 102) (Operand.tmp 104)),
              SOper.mk (some 107) none (SOp.load true 2 (Operand.tmp 106)),
              SOper.mk (some 8) none
                (SOp.alloc true 37 (Value.agg (Array.mk [Value.int IntKind.i64 0, Value.slice none 0 0]))),
              SOper.mk none none (SOp.store 2 (Operand.tmp 8) (Operand.tmp 107))]
            [1, 4, 8, 44, 45, 46, 102, 103, 104])
          (Stmt.seq
            (Stmt.region
              [SOper.mk (some 108) none (SOp.load true 2 (Operand.tmp 8)),
                SOper.mk (some 109) none (SOp.load true 2 (Operand.tmp 4)),
                SOper.mk (some 110) none (SOp.call (Operand.func 172) [Operand.tmp 108, Operand.tmp 109]),
                SOper.mk (some 111) none
                  (SOp.ibin BinOp.eql (Operand.tmp 110) (Operand.const (Value.int IntKind.i64 0)))]
              [1, 4, 44, 45, 46, 102, 103, 104, 111])
            (Stmt.cond (Operand.tmp 111)
              (Stmt.seq (Stmt.region [SOper.mk (some 2) none (SOp.mv (Operand.const (Value.int IntKind.i64 6)))] [2])
                Stmt.ret)
              Stmt.skip))))
      (Stmt.region
        [SOper.mk (some 112) none (SOp.ibin BinOp.add (Operand.tmp 104) (Operand.const (Value.int IntKind.i64 1))),
          SOper.mk (some 104) none (SOp.mv (Operand.tmp 112))]
        [1, 4, 44, 45, 46, 102, 103, 104])))
def S112_3 : Stmt :=
  Stmt.seq
  (Stmt.region [SOper.mk (some 47) none (SOp.ibin BinOp.lss (Operand.tmp 46) (Operand.tmp 45))] [1, 44, 45, 46, 47])
  (Stmt.seq (Stmt.cond (Operand.tmp 47) Stmt.skip (Stmt.exit 0))
    (Stmt.seq
      (Stmt.block 1
        (Stmt.seq
          (Stmt.region
            [SOper.mk (some 48) none (SOp.mv (Operand.tmp 46)),
              SOper.mk (some 49) none (SOp.idx 2 (Operand.tmp 44) (Operand.tmp 46)),
              SOper.mk (some 50) none (SOp.load true 2 (Operand.tmp 49)),
              SOper.mk (some 4) none
                (SOp.alloc true 37 (Value.agg (Array.mk [Value.int IntKind.i64 0, Value.slice none 0 0]))),
              SOper.mk (some 3) none (SOp.mv (Operand.tmp 48)),
              SOper.mk none none (SOp.store 2 (Operand.tmp 4) (Operand.tmp 50))]
            [1, 3, 4, 44, 45, 46])
          (Stmt.seq
            (Stmt.seq
              (Stmt.region
                [SOper.mk (some 51) none (SOp.fld 0 (Operand.tmp 4)),
                  SOper.mk (some 52) none (SOp.load false 1 (Operand.tmp 51)),
                  SOper.mk (some 53) none
                    (SOp.ibin BinOp.lss (Operand.tmp 52) (Operand.const (Value.int IntKind.i64 0))),
                  SOper.mk (some 54) none (SOp.mv (Operand.tmp 53)),
                  SOper.mk (some 55) (some (54, false)) (SOp.fld 0 (Operand.tmp 4)),
                  SOper.mk (some 56) (some (54, false)) (SOp.load false 1 (Operand.tmp 55)),
                  SOper.mk (some 57) (some (54, false)) (SOp.fld 1 (Operand.tmp 1)),
                  SOper.mk (some 58) (some (54, false)) (SOp.load false 1 (Operand.tmp 57)),
                  SOper.mk (some 59) (some (54, false)) (SOp.ibin BinOp.geq (Operand.tmp 56) (Operand.tmp 58)),
                  SOper.mk (some 60) none
                    (SOp.pick (Operand.tmp 54) (Operand.const (Value.bool true)) (Operand.tmp 59))]
                [1, 3, 4, 44, 45, 46, 60])
              (Stmt.cond (Operand.tmp 60)
                (Stmt.seq (Stmt.region [SOper.mk (some 2) none (SOp.mv (Operand.const (Value.int IntKind.i64 3)))] [2])
                  Stmt.ret)
                Stmt.skip))
            (Stmt.seq
              (Stmt.seq
                (Stmt.region
                  [SOper.mk (some 61) none (SOp.fld 1 (Operand.tmp 4)),
                    SOper.mk (some 62) none (SOp.load false 1 (Operand.tmp 61)),
                    SOper.mk (some 63) none (SOp.len false (Operand.tmp 62)),
                    SOper.mk (some 64) none
                      (SOp.ibin BinOp.gtr (Operand.tmp 63) (Operand.const (Value.int IntKind.i64 4)))]
                  [1, 3, 4, 44, 45, 46, 64])
                (Stmt.cond (Operand.tmp 64)
                  (Stmt.seq
                    (Stmt.region [SOper.mk (some 2) none (SOp.mv (Operand.const (Value.int IntKind.i64 2)))] [2])
                    Stmt.ret)
                  Stmt.skip))
              (Stmt.seq
                (Stmt.seq
                  (Stmt.region
                    [SOper.mk (some 65) none (SOp.fld 1 (Operand.tmp 4)),
                      SOper.mk (some 66) none (SOp.load false 1 (Operand.tmp 65)),
                      SOper.mk (some 67) none (SOp.len false (Operand.tmp 66)),
                      SOper.mk (some 68) none (SOp.mv (Operand.const (Value.int IntKind.i64 0)))]
                    [1, 3, 4, 44, 45, 46, 66, 67, 68])
                  (Stmt.block 2 (Stmt.loop S112_1 [68] [1, 3, 4, 44, 45, 46, 66, 67])))
                (Stmt.seq
                  (Stmt.region
                    [SOper.mk (some 99) none (SOp.fld 3 (Operand.tmp 1)),
                      SOper.mk (some 100) none (SOp.load false 1 (Operand.tmp 99)),
                      SOper.mk (some 101) none (SOp.mv (Operand.tmp 3)),
                      SOper.mk (some 102) none (SOp.slc 2 (Operand.tmp 100) none (some (Operand.tmp 101)) none),
                      SOper.mk (some 103) none (SOp.len false (Operand.tmp 102)),
                      SOper.mk (some 104) none (SOp.mv (Operand.const (Value.int IntKind.i64 0)))]
                    [1, 4, 44, 45, 46, 102, 103, 104])
                  (Stmt.block 4 (Stmt.loop S112_2 [104] [1, 4, 44, 45, 46, 102, 103]))))))))
      (Stmt.region
        [SOper.mk (some 113) none (SOp.ibin BinOp.add (Operand.tmp 46) (Operand.const (Value.int IntKind.i64 1))),
          SOper.mk (some 46) none (SOp.mv (Operand.tmp 113))]
        [1, 44, 45, 46])))
def S112_0 : Stmt :=
  Stmt.seq
  (Stmt.region
    [SOper.mk (some 1) none (SOp.box true 57 (Operand.tmp 0)),
      SOper.mk (some 2) none (SOp.mv (Operand.const (Value.int IntKind.i64 0)))]
    [1])
  (Stmt.seq
    (Stmt.seq
      (Stmt.region
        [SOper.mk (some 9) none (SOp.fld 0 (Operand.tmp 1)), SOper.mk (some 10) none (SOp.load false 1 (Operand.tmp 9)),
          SOper.mk (some 11) none (SOp.ibin BinOp.lss (Operand.tmp 10) (Operand.const (Value.int IntKind.i64 1))),
          SOper.mk (some 12) none (SOp.mv (Operand.tmp 11)),
          SOper.mk (some 13) (some (12, false)) (SOp.fld 0 (Operand.tmp 1)),
          SOper.mk (some 14) (some (12, false)) (SOp.load false 1 (Operand.tmp 13)),
          SOper.mk (some 15) (some (12, false))
            (SOp.ibin BinOp.gtr (Operand.tmp 14) (Operand.const (Value.int IntKind.i64 8))),
          SOper.mk (some 16) none (SOp.pick (Operand.tmp 12) (Operand.const (Value.bool true)) (Operand.tmp 15)),
          SOper.mk (some 17) none (SOp.mv (Operand.tmp 16)),
          SOper.mk (some 18) (some (17, false)) (SOp.fld 1 (Operand.tmp 1)),
          SOper.mk (some 19) (some (17, false)) (SOp.load false 1 (Operand.tmp 18)),
          SOper.mk (some 20) (some (17, false))
            (SOp.ibin BinOp.lss (Operand.tmp 19) (Operand.const (Value.int IntKind.i64 1))),
          SOper.mk (some 21) none (SOp.pick (Operand.tmp 17) (Operand.const (Value.bool true)) (Operand.tmp 20)),
          SOper.mk (some 22) none (SOp.mv (Operand.tmp 21)),
          SOper.mk (some 23) (some (22, false)) (SOp.fld 1 (Operand.tmp 1)),
          SOper.mk (some 24) (some (22, false)) (SOp.load false 1 (Operand.tmp 23)),
          SOper.mk (some 25) (some (22, false))
            (SOp.ibin BinOp.gtr (Operand.tmp 24) (Operand.const (Value.int IntKind.i64 10))),
          SOper.mk (some 26) none (SOp.pick (Operand.tmp 22) (Operand.const (Value.bool true)) (Operand.tmp 25)),
          SOper.mk (some 27) none (SOp.mv (Operand.tmp 26)),
          SOper.mk (some 28) (some (27, false)) (SOp.fld 2 (Operand.tmp 1)),
          SOper.mk (some 29) (some (27, false)) (SOp.load false 1 (Operand.tmp 28)),
          SOper.mk (some 30) (some (27, false))
            (SOp.ibin BinOp.lss (Operand.tmp 29) (Operand.const (Value.int IntKind.i64 0))),
          SOper.mk (some 31) none (SOp.pick (Operand.tmp 27) (Operand.const (Value.bool true)) (Operand.tmp 30)),
          SOper.mk (some 32) none (SOp.mv (Operand.tmp 31)),
          SOper.mk (some 33) (some (32, false)) (SOp.fld 2 (Operand.tmp 1)),
          SOper.mk (some 34) (some (32, false)) (SOp.load false 1 (Operand.tmp 33)),
          SOper.mk (some 35) (some (32, false)) (SOp.fld 1 (Operand.tmp 1)),
          SOper.mk (some 36) (some (32, false)) (SOp.load false 1 (Operand.tmp 35)),
          SOper.mk (some 37) (some (32, false)) (SOp.ibin BinOp.geq (Operand.tmp 34) (Operand.tmp 36)),
          SOper.mk (some 38) none (SOp.pick (Operand.tmp 32) (Operand.const (Value.bool true)) (Operand.tmp 37))]
        [1, 38])
      (Stmt.cond (Operand.tmp 38)
        (Stmt.seq (Stmt.region [SOper.mk (some 2) none (SOp.mv (Operand.const (Value.int IntKind.i64 1)))] [2])
          Stmt.ret)
        Stmt.skip))
    (Stmt.seq
      (Stmt.seq
        (Stmt.region
          [SOper.mk (some 39) none (SOp.fld 3 (Operand.tmp 1)),
            SOper.mk (some 40) none (SOp.load false 1 (Operand.tmp 39)),
            SOper.mk (some 41) none (SOp.len false (Operand.tmp 40)),
            SOper.mk (some 42) none (SOp.ibin BinOp.gtr (Operand.tmp 41) (Operand.const (Value.int IntKind.i64 32)))]
          [1, 42])
        (Stmt.cond (Operand.tmp 42)
          (Stmt.seq (Stmt.region [SOper.mk (some 2) none (SOp.mv (Operand.const (Value.int IntKind.i64 2)))] [2])
            Stmt.ret)
          Stmt.skip))
      (Stmt.seq
        (Stmt.seq
          (Stmt.region
            [SOper.mk (some 43) none (SOp.fld 3 (Operand.tmp 1)),
              SOper.mk (some 44) none (SOp.load false 1 (Operand.tmp 43)),
              SOper.mk (some 45) none (SOp.len false (Operand.tmp 44)),
              SOper.mk (some 46) none (SOp.mv (Operand.const (Value.int IntKind.i64 0)))]
            [1, 44, 45, 46])
          (Stmt.block 0 (Stmt.loop S112_3 [46] [1, 44, 45])))
        (Stmt.seq (Stmt.region [SOper.mk (some 2) none (SOp.mv (Operand.const (Value.int IntKind.i64 0)))] [2])
          Stmt.ret))))
def S112 : FnS := ⟨114, [(2, none)], S112_0⟩
theorem tr112 : trFn Try.prog 112 [1, 4, 6, 8] [[1], [1, 38], [2], [1, 42], [2], [1, 44, 45, 46], [46], [1, 44, 45], [1, 44, 45, 46, 47], [1, 3, 4, 44, 45, 46], [1, 3, 4, 44, 45, 46, 60], [2], [1, 3, 4, 44, 45, 46, 64], [2], [1, 3, 4, 44, 45, 46, 66, 67, 68], [68], [1, 3, 4, 44, 45, 46, 66, 67], [1, 3, 4, 44, 45, 46, 66, 67, 68, 69], [1, 3, 4, 6, 44, 45, 46, 66, 67, 68], [1, 3, 4, 44, 45, 46, 66, 67, 68, 97], [2], [1, 3, 4, 44, 45, 46, 66, 67, 68], [1, 4, 44, 45, 46, 102, 103, 104], [104], [1, 4, 44, 45, 46, 102, 103], [1, 4, 44, 45, 46, 102, 103, 104, 105], [1, 4, 8, 44, 45, 46, 102, 103, 104], [1, 4, 44, 45, 46, 102, 103, 104, 111], [2], [1, 4, 44, 45, 46, 102, 103, 104], [1, 44, 45, 46], [2]] = some S112 := by kernel_rfl
end Go.Proofs.Ytniobbepliknmaa.V
/- Grammars are checked: gram.Order, gram.Compare and gram.Check walked; no condition. -/
namespace Go.Proofs.Ytniobbepliknmaa.V
open Go
set_option linter.unusedVariables false
set_option linter.unusedSimpArgs false
attribute [local go_sem] e_seq e_region e_quiet e_join e_loop e_cond e_block e_exit e_ret e_skip e_fin e_kseq e_snrm e_sret e_sex e_bnrm e_bret e_bex e_rnrm e_rret e_res e_condC e_nil e_g e_mv g_mv e_pick g_pick pickC_eq e_ibin g_ibin ibinC_eq e_sbin g_sbin e_beq g_beq beqC_eq e_nilq g_nilq nilqC_sl nilqC_pt nilqC_mp e_un g_un unC_not unC_neg e_conv g_conv convC_eq e_fld g_fld fldC_ref fldC_ptr e_nilCheck g_nilCheck nilCheckC_ref nilCheckC_ptr nilCheckC_fun e_field g_field fieldC_eq e_len g_len lenC_sl lenC_str e_extract g_extract extractC_eq e_mkFunc e_build g_build e_idiv g_idiv idivC_eq e_ishift g_ishift ishiftC_eq e_idx g_idx e_idxA g_idxA e_load g_load loadC_ref loadC_ptr loadB_eq e_slc g_slc e_box boxC_loc boxC_esc e_alloc allocC_loc allocC_esc e_buildS e_store storeC_ref storeC_ptr storeB_eq e_append e_appz e_mk mkC_eq e_call callC_eq e_fn g_fn fnC_eq fnV_min' fnV_max' fnV_rune' e_q g_q e_a e_n g_call g_box g_alloc g_buildS g_store g_append g_mk g_a g_n g_dead e_dead e_callK e_drawn e_tree e_finJ e_tk e_tfin e_tno e_nbt_q e_nbt_qn e_nbt_a e_nbt_an e_nbt_fin e_early_nil e_early_t e_early_f e_nob_nil e_nob_none e_nob_some isBox_dead isBox_v isBox_ref e_dnil e_dk e_ek e_finB vcOps_vc1 e_dcons e_tq e_ekt e_tearly e_talt e_dearly look_nil look_c proj_nil proj_c looks_nil looks_c zip_nil zip_c val_tmp val_const val_func slv_v slv_box slv_ref slot_tmp slot_const slot_func slotL_v slotL_box slotL_ref put_some put_none updBox_c boxSet_box gd_eq slotVals_nil slotVals_c slotVals_b boxV_box boxOn_box slotsOn_nil slotsOn_c slotsOn_b resV_one resV_two vals_nil vals_c allOn_nil allOn_c partOn_nil partOn_c partVals_nil partVals_c fits_nil fits_c fillL_nil fillL_c mkv_one mkv_agg cellsV_agg cellsV_int cellsV_bool cellsV_slice cellsV_string cellsV_pointer cellsV_func cellsV_nilf cellsV_map one'_nil one'_c oc_int oc_bool oc_slice oc_string oc_pointer oc_func oc_nilf oc_map setC_eq iv_add iv_sub iv_mul iv_eql iv_neq iv_lss iv_leq iv_gtr iv_geq iok_add iok_sub iok_mul iok_eql iok_neq iok_lss iok_leq iok_gtr iok_geq pickV_bool args0_nil args0_c bnd_none bnd_some imp_bt imp_bf imp_ebt imp_ebf imp_eb1 imp_np imp_pp beq_tt beq_tf beq_ft beq_ff cond_or cond_and e_round e_meet Int.le_refl Int.toNat_zero decide_true decide_false Bool.or_false Bool.false_or Bool.true_or Bool.or_true Bool.and_false Bool.false_and Bool.bne_false Bool.bne_true beq_iff_eq Int.cast_ofNat_Int not_false_eq_true not_true_eq_false false_and and_false false_implies true_implies true_and and_true Bool.true_and Bool.and_true Bool.not_true Bool.not_false forall_const implies_true List.take_zero List.drop_zero List.take_succ_cons List.drop_succ_cons List.take_nil List.drop_nil List.length_cons List.length_nil List.nil_append List.append_nil List.cons_append Int.toNat_natCast decide_eq_true_eq decide_eq_false_iff_not cond_true cond_false and_self List.getElem?_cons_zero List.getElem?_cons_succ List.set_cons_zero List.set_cons_succ Option.some.injEq exists_eq_left' Nat.zero_add Nat.add_zero Nat.mul_one imp_self true_or or_true or_false false_or Bool.or_eq_true Bool.or_eq_false_iff Bool.and_eq_true Bool.and_eq_false_iff Bool.not_eq_true' Bool.not_eq_false'

def symC (a b : Sy) : Int := if a.t = true ∧ b.t = false then -1 else if a.t = false ∧ b.t = true then 1 else cmpI a.n b.n
def symsC : List Sy → List Sy → Int
  | [], [] => 0
  | [], _ :: _ => -1
  | _ :: _, [] => 1
  | a :: r, b :: s => if symC a b = 0 then symsC r s else symC a b
def ruleC (a b : Ru) : Int := if cmpI a.l b.l = 0 then symsC a.r b.r else cmpI a.l b.l
theorem cmpI_zero {a b : Int} : cmpI a b = 0 ↔ a = b := by
  unfold cmpI
  constructor
  · intro h
    split at h
    · omega
    · split at h <;> omega
  · rintro rfl
    simp
theorem symC_zero {a b : Sy} : symC a b = 0 ↔ a = b := by
  obtain ⟨t, n⟩ := a
  obtain ⟨t', n'⟩ := b
  unfold symC
  cases t <;> cases t' <;> simp [cmpI_zero]
theorem symsC_zero : ∀ {a b : List Sy}, symsC a b = 0 ↔ a = b
  | [], [] => by simp [symsC]
  | [], _ :: _ => by simp [symsC]
  | _ :: _, [] => by simp [symsC]
  | a :: r, b :: s => by
    simp only [symsC, List.cons.injEq]
    by_cases h : symC a b = 0
    · rw [if_pos h, symsC_zero (a := r), symC_zero] at *
      exact ⟨fun q => ⟨h, q⟩, fun q => q.2⟩
    · rw [if_neg h]
      exact ⟨fun q => absurd q h, fun q => absurd (symC_zero.2 q.1) h⟩
theorem ruleC_zero {a b : Ru} : ruleC a b = 0 ↔ a = b := by
  obtain ⟨l, r⟩ := a
  obtain ⟨l', r'⟩ := b
  unfold ruleC
  by_cases h : cmpI l l' = 0
  · rw [if_pos h, symsC_zero]
    simp only [Ru.mk.injEq, cmpI_zero.1 h, true_and]
  · simp only [if_neg h, Ru.mk.injEq]
    exact ⟨fun q => absurd q h, fun q => absurd (cmpI_zero.2 q.1) h⟩

theorem gram_order {Γr : Ctx} (a b : Sy) : Ret Try.prog 203 [.agg #[.bool a.t, .int .i64 a.n], .agg #[.bool b.t, .int .i64 b.n]] Γr [] (fun v Γ => Γ = [] ∧ v = .int .i64 (symC a b)) := by
  generalize hR : (fun (v : Value) (Γ : Ctx) => Γ = [] ∧ _) = R
  refine ret_of_vc tr203 (Nat.le_of_ble_eq_true rfl) ?_
  obtain ⟨t, n⟩ := a
  obtain ⟨t', n'⟩ := b
  cases t <;> cases t'
  all_goals
    simp -implicitDefEqProofs only [S203, S203_0, go_sem, Nat.reduceBEq, Nat.reduceAdd, Nat.reduceSub, Nat.reduceMul, Nat.reduceLeDiff, reduceCtorEq, ↓reduceIte, Int.reduceLT, Int.reduceLE, Int.reduceEq, Int.reduceNe]
  · intro b b'
    refine CallVC.read (cmp_compare _ _) ?_
    rintro v Γ' ⟨rfl, rfl⟩
    simp -implicitDefEqProofs only [go_sem, Nat.reduceBEq, Nat.reduceAdd, Nat.reduceSub, Nat.reduceMul, Nat.reduceLeDiff, reduceCtorEq, ↓reduceIte, Int.reduceLT, Int.reduceLE, Int.reduceEq, Int.reduceNe]
    refine Up.here ?_
    subst hR
    exact ⟨rfl, rfl⟩
  · refine Up.here ?_
    subst hR
    exact ⟨rfl, rfl⟩
  · refine Up.here ?_
    subst hR
    exact ⟨rfl, rfl⟩
  · intro b b'
    refine CallVC.read (cmp_compare _ _) ?_
    rintro v Γ' ⟨rfl, rfl⟩
    simp -implicitDefEqProofs only [go_sem, Nat.reduceBEq, Nat.reduceAdd, Nat.reduceSub, Nat.reduceMul, Nat.reduceLeDiff, reduceCtorEq, ↓reduceIte, Int.reduceLT, Int.reduceLE, Int.reduceEq, Int.reduceNe]
    refine Up.here ?_
    subst hR
    exact ⟨rfl, rfl⟩

theorem compare_syms {Γr : Ctx} {A B : Option Addr} {c d : Nat} {xs ys : List Sy} (hx : SlOk (lk Γr) A c xs) (hy : SlOk (lk Γr) B d ys) :
    Ret Try.prog 202 [.slice A xs.length c, .slice B ys.length d, .func (.func 203) #[] #[]] Γr [] (fun v Γ => Γ = [] ∧ v = .int .i64 (symsC xs ys)) := by
  generalize hR : (fun (v : Value) (Γ : Ctx) => Γ = [] ∧ _) = R
  refine ret_of_vc tr202 (Nat.le_of_ble_eq_true rfl) ?_
  have h1 := hx.short
  have h2 := hy.short
  simp -implicitDefEqProofs only [S202, S202_0, go_sem, Nat.reduceBEq, Nat.reduceAdd, Nat.reduceSub, Nat.reduceMul, Nat.reduceLeDiff, reduceCtorEq, ↓reduceIte, Int.reduceLT, Int.reduceLE, Int.reduceEq, Int.reduceNe]
  refine s_loop (fun f vs Γ => Γ = [] ∧ ∃ k : Nat, vs = [.v true (.int .i64 k)] ∧ k + f = xs.length ∧ k ≤ ys.length ∧ symsC xs ys = symsC (xs.drop k) (ys.drop k)) xs.length (Up.here ⟨rfl, 0, rfl, by omega, by omega, by simp⟩) ?_
  rintro f vs Γ ⟨rfl, k, rfl, hkf, hky, he⟩
  simp -implicitDefEqProofs only [S202_1, go_sem, Nat.reduceBEq, Nat.reduceAdd, Nat.reduceSub, Nat.reduceMul, Nat.reduceLeDiff, reduceCtorEq, ↓reduceIte, Int.reduceLT, Int.reduceLE, Int.reduceEq, Int.reduceNe]
  refine ⟨fun hlt => ?_, fun hge => ?_⟩
  · have hk : k < xs.length := by omega
    obtain ⟨b, o, hA, hc1⟩ := hx.sy hk
    refine s_idx hA (by omega) (by omega) ?_
    simp -implicitDefEqProofs only [go_sem, Nat.reduceBEq, Nat.reduceAdd, Nat.reduceSub, Nat.reduceMul, Nat.reduceLeDiff, reduceCtorEq, ↓reduceIte, Int.reduceLT, Int.reduceLE, Int.reduceEq, Int.reduceNe]
    refine s_ld0 (hc1 _ (Mem.le.refl _)) (by simp) (by simp) ?_
    simp -implicitDefEqProofs only [go_sem, Nat.reduceBEq, Nat.reduceAdd, Nat.reduceSub, Nat.reduceMul, Nat.reduceLeDiff, reduceCtorEq, ↓reduceIte, Int.reduceLT, Int.reduceLE, Int.reduceEq, Int.reduceNe]
    rw [List.drop_eq_getElem_cons hk] at he
    intro b1
    refine ⟨fun hle => Up.here ?_, fun hlt2 => ?_⟩
    · have : ys.drop k = [] := List.drop_eq_nil_of_le (by omega)
      subst hR
      refine ⟨rfl, ?_⟩
      rw [he, this]
      rfl
    · have hk' : k < ys.length := by omega
      obtain ⟨b', o', hB, hc2⟩ := hy.sy hk'
      refine s_idx hB (by omega) (by omega) ?_
      simp -implicitDefEqProofs only [go_sem, Nat.reduceBEq, Nat.reduceAdd, Nat.reduceSub, Nat.reduceMul, Nat.reduceLeDiff, reduceCtorEq, ↓reduceIte, Int.reduceLT, Int.reduceLE, Int.reduceEq, Int.reduceNe]
      refine s_ld0 (hc2 _ (Mem.le.refl _)) (by simp) (by simp) ?_
      simp -implicitDefEqProofs only [go_sem, Nat.reduceBEq, Nat.reduceAdd, Nat.reduceSub, Nat.reduceMul, Nat.reduceLeDiff, reduceCtorEq, ↓reduceIte, Int.reduceLT, Int.reduceLE, Int.reduceEq, Int.reduceNe]
      intro b2
      refine CallVC.read (gram_order _ _) ?_
      rintro v Γ' ⟨rfl, rfl⟩
      rw [List.drop_eq_getElem_cons hk', symsC] at he
      simp -implicitDefEqProofs only [go_sem, Nat.reduceBEq, Nat.reduceAdd, Nat.reduceSub, Nat.reduceMul, Nat.reduceLeDiff, reduceCtorEq, ↓reduceIte, Int.reduceLT, Int.reduceLE, Int.reduceEq, Int.reduceNe]
      refine ⟨fun hne => Up.here ?_, fun heq => ?_⟩
      · rw [if_neg hne] at he
        subst hR
        exact ⟨rfl, by rw [he]⟩
      · rw [if_pos heq] at he
        simp (disch := omega) only [wrap_id]
        exact ⟨f - 1, by omega, Up.here ⟨rfl, k + 1, rfl, by omega, by omega, he⟩⟩
  · have hk : k = xs.length := by omega
    rw [hk, List.drop_length] at he
    subst hR
    refine ⟨fun h => Up.here ⟨rfl, ?_⟩, fun h => Up.here ⟨rfl, ?_⟩⟩
    · rw [he, List.drop_eq_getElem_cons (by omega)]
      rfl
    · rw [he, List.drop_eq_nil_of_le (by omega)]
      rfl

theorem gram_compare {Γr : Ctx} {a b : Ru} {A B : Option Addr} {c d : Nat} (hx : SlOk (lk Γr) A c a.r) (hy : SlOk (lk Γr) B d b.r) :
    Ret Try.prog 172 [.agg #[.int .i64 a.l, .slice A a.r.length c], .agg #[.int .i64 b.l, .slice B b.r.length d]] Γr [] (fun v Γ => Γ = [] ∧ v = .int .i64 (ruleC a b)) := by
  generalize hR : (fun (v : Value) (Γ : Ctx) => Γ = [] ∧ _) = R
  refine ret_of_vc tr172 (Nat.le_of_ble_eq_true rfl) ?_
  simp -implicitDefEqProofs only [S172, S172_0, go_sem, Nat.reduceBEq, Nat.reduceAdd, Nat.reduceSub, Nat.reduceMul, Nat.reduceLeDiff, reduceCtorEq, ↓reduceIte, Int.reduceLT, Int.reduceLE, Int.reduceEq, Int.reduceNe]
  intro b1 b2
  refine CallVC.read (cmp_compare _ _) ?_
  rintro v Γ' ⟨rfl, rfl⟩
  simp -implicitDefEqProofs only [go_sem, Nat.reduceBEq, Nat.reduceAdd, Nat.reduceSub, Nat.reduceMul, Nat.reduceLeDiff, reduceCtorEq, ↓reduceIte, Int.reduceLT, Int.reduceLE, Int.reduceEq, Int.reduceNe]
  refine ⟨fun hne => Up.here ?_, fun heq => ?_⟩
  · subst hR
    exact ⟨rfl, by rw [ruleC, if_neg hne]⟩
  · refine CallVC.read (compare_syms hx hy) ?_
    rintro v Γ' ⟨rfl, rfl⟩
    simp -implicitDefEqProofs only [go_sem, Nat.reduceBEq, Nat.reduceAdd, Nat.reduceSub, Nat.reduceMul, Nat.reduceLeDiff, reduceCtorEq, ↓reduceIte, Int.reduceLT, Int.reduceLE, Int.reduceEq, Int.reduceNe]
    refine Up.here ?_
    subst hR
    exact ⟨rfl, by rw [ruleC, if_pos heq]⟩

/-- a symbol that is none of the grammar -/
def badSy (ts ns : Int) (s : Sy) : Bool := decide (s.n < 0) || (s.t && decide (ts ≤ s.n)) || (!s.t && decide (ns ≤ s.n))
/-- the fault of rule k: the errors 3, 2, 3, 6, or none -/
def faultAt (g : Gr) (k : Nat) (r : Ru) : Int :=
  if r.l < 0 ∨ g.ns ≤ r.l then 3 else if 4 < r.r.length then 2 else if r.r.any (badSy g.ts g.ns) = true then 3 else if r ∈ g.rs.take k then 6 else 0
def ckR (g : Gr) : Nat → Int
  | 0 => 0
  | k + 1 => if ckR g k ≠ 0 then ckR g k else match g.rs[k]? with | some r => faultAt g k r | none => 0
def badHead (g : Gr) : Prop := g.ts < 1 ∨ 8 < g.ts ∨ g.ns < 1 ∨ 10 < g.ns ∨ g.st < 0 ∨ g.ns ≤ g.st
instance (g : Gr) : Decidable (badHead g) := by unfold badHead; infer_instance
def ckF (g : Gr) : Int := if badHead g then 1 else if 32 < g.rs.length then 2 else ckR g g.rs.length
theorem ckR_stays {g : Gr} {k : Nat} (h : ckR g k ≠ 0) : ∀ {m : Nat}, k ≤ m → ckR g m = ckR g k
  | m, hm => by
    induction m with
    | zero => have : k = 0 := by omega
              subst this; rfl
    | succ m ih =>
      by_cases e : k = m + 1
      · subst e; rfl
      · have := ih (by omega)
        rw [ckR, if_pos (by rw [this]; exact h), this]
theorem ckR_step {g : Gr} {k : Nat} (hk : k < g.rs.length) (h : ckR g k = 0) : ckR g (k + 1) = faultAt g k g.rs[k] := by
  rw [ckR, if_neg (by simp [h]), List.getElem?_eq_getElem hk]
theorem ckR_fault {g : Gr} {k : Nat} (hk : k < g.rs.length) (h : ckR g k = 0) (hf : faultAt g k g.rs[k] ≠ 0) : ckR g g.rs.length = faultAt g k g.rs[k] := by
  have := ckR_step hk h
  rw [← this] at hf ⊢
  exact ckR_stays hf (by omega)

theorem gram_check {Γr : Ctx} {g : Gr} {A : Option Addr} {c : Nat} (hx : SlOk (lk Γr) A c g.rs) :
    Ret Try.prog 112 [.agg #[.int .i64 g.ts, .int .i64 g.ns, .int .i64 g.st, .slice A g.rs.length c]] Γr [] (fun v Γ => Γ = [] ∧ v = .int .i64 (ckF g)) := by
  generalize hR : (fun (v : Value) (Γ : Ctx) => Γ = [] ∧ _) = R
  refine ret_of_vc tr112 (Nat.le_of_ble_eq_true rfl) ?_
  simp -implicitDefEqProofs only [S112, S112_0, go_sem, Nat.reduceBEq, Nat.reduceAdd, Nat.reduceSub, Nat.reduceMul, Nat.reduceLeDiff, reduceCtorEq, ↓reduceIte, Int.reduceLT, Int.reduceLE, Int.reduceEq, Int.reduceNe]
  intro b
  refine ⟨fun h => Up.here ?_, fun hok => ⟨fun h => Up.here ?_, fun h32 => ?_⟩⟩
  · subst hR
    exact ⟨rfl, by rw [ckF, if_pos (by unfold badHead; omega)]⟩
  · subst hR
    exact ⟨rfl, by rw [ckF, if_neg (by unfold badHead; omega), if_pos (by omega)]⟩
  have hck : ckF g = ckR g g.rs.length := by rw [ckF, if_neg (by unfold badHead; omega), if_neg (by omega)]
  refine s_loop (fun f vs Γ => Γ = [] ∧ ∃ k : Nat, vs = [.v true (.int .i64 k)] ∧ k + f = g.rs.length ∧ ckR g k = 0) g.rs.length (Up.here ⟨rfl, 0, rfl, by omega, rfl⟩) ?_
  rintro f vs Γ ⟨rfl, k, rfl, hkf, hck0⟩
  simp -implicitDefEqProofs only [S112_3, go_sem, Nat.reduceBEq, Nat.reduceAdd, Nat.reduceSub, Nat.reduceMul, Nat.reduceLeDiff, reduceCtorEq, ↓reduceIte, Int.reduceLT, Int.reduceLE, Int.reduceEq, Int.reduceNe]
  refine ⟨fun hlt => ?_, fun hge => ?_⟩
  · have hk : k < g.rs.length := by omega
    have hgen : ∀ x, faultAt g k g.rs[k] = x → x ≠ 0 → ckF g = x := fun x h1 h2 => by rw [hck, ckR_fault hk hck0 (by rw [h1]; exact h2), h1]
    have hzero : faultAt g k g.rs[k] = 0 → ckR g (k + 1) = 0 := fun h => by rw [ckR_step hk hck0, h]
    obtain ⟨b1, o1, hA, A', c', hr, hc1⟩ := hx.ru hk
    have hrl := hr.short
    refine s_idx hA (by omega) (by omega) ?_
    simp -implicitDefEqProofs only [go_sem, Nat.reduceBEq, Nat.reduceAdd, Nat.reduceSub, Nat.reduceMul, Nat.reduceLeDiff, reduceCtorEq, ↓reduceIte, Int.reduceLT, Int.reduceLE, Int.reduceEq, Int.reduceNe]
    refine s_ld0 (hc1 _ (Mem.le.refl _)) (by simp) (by simp) ?_
    simp -implicitDefEqProofs only [go_sem, Nat.reduceBEq, Nat.reduceAdd, Nat.reduceSub, Nat.reduceMul, Nat.reduceLeDiff, reduceCtorEq, ↓reduceIte, Int.reduceLT, Int.reduceLE, Int.reduceEq, Int.reduceNe]
    intro b2
    refine ⟨fun h => Up.here ?_, fun hl => ⟨fun h => Up.here ?_, fun h4 => ?_⟩⟩
    · subst hR
      exact ⟨rfl, by rw [hgen 3 (by rw [faultAt, if_pos h]) (by decide)]⟩
    · subst hR
      exact ⟨rfl, by rw [hgen 2 (by rw [faultAt, if_neg (by omega), if_pos (by omega)]) (by decide)]⟩
    have hf1 : faultAt g k g.rs[k] = if g.rs[k].r.any (badSy g.ts g.ns) = true then 3 else if g.rs[k] ∈ g.rs.take k then 6 else 0 := by
      rw [faultAt, if_neg (by omega), if_neg (by omega)]
    refine s_loop (fun f' vs Γ => Γ = [] ∧ ∃ j : Nat, vs = [.v true (.int .i64 j)] ∧ j + f' = g.rs[k].r.length ∧ ∀ (i : Nat) (h : i < g.rs[k].r.length), i < j → badSy g.ts g.ns g.rs[k].r[i] = false) g.rs[k].r.length (Up.here ⟨rfl, 0, rfl, by omega, by intro i _ h; omega⟩) ?_
    rintro f' vs Γ ⟨rfl, j, rfl, hjf, hno⟩
    simp -implicitDefEqProofs only [S112_1, go_sem, Nat.reduceBEq, Nat.reduceAdd, Nat.reduceSub, Nat.reduceMul, Nat.reduceLeDiff, reduceCtorEq, ↓reduceIte, Int.reduceLT, Int.reduceLE, Int.reduceEq, Int.reduceNe]
    refine ⟨fun hlt => ?_, fun hge => ?_⟩
    · have hj : j < g.rs[k].r.length := by omega
      obtain ⟨b3, o3, hA3, hc3⟩ := hr.sy hj
      refine s_idx hA3 (by omega) (by omega) ?_
      simp -implicitDefEqProofs only [go_sem, Nat.reduceBEq, Nat.reduceAdd, Nat.reduceSub, Nat.reduceMul, Nat.reduceLeDiff, reduceCtorEq, ↓reduceIte, Int.reduceLT, Int.reduceLE, Int.reduceEq, Int.reduceNe]
      refine s_ld0 (hc3 _ (Mem.le.refl _)) (by simp) (by simp) ?_
      simp -implicitDefEqProofs only [go_sem, Nat.reduceBEq, Nat.reduceAdd, Nat.reduceSub, Nat.reduceMul, Nat.reduceLeDiff, reduceCtorEq, ↓reduceIte, Int.reduceLT, Int.reduceLE, Int.reduceEq, Int.reduceNe]
      simp (disch := omega) only [wrap_id]
      refine ⟨fun h1 h2 => ⟨h1, h2⟩, fun h1 h2 => ⟨h1, h2⟩, fun h => Up.here ?_, fun h => ?_⟩
      · have hb : g.rs[k].r.any (badSy g.ts g.ns) = true := List.any_eq_true.2 ⟨g.rs[k].r[j], List.getElem_mem hj, by
          simp only [badSy, Bool.or_eq_true, Bool.and_eq_true, decide_eq_true_eq, Bool.not_eq_true']; exact h⟩
        subst hR
        exact ⟨rfl, by rw [hgen 3 (by rw [hf1, if_pos hb]) (by decide)]⟩
      · exact ⟨f' - 1, by omega, Up.here ⟨rfl, j + 1, rfl, by omega, fun i hi hij => by
          by_cases e : i = j
          · subst e
            simp only [badSy, Bool.or_eq_false_iff, Bool.and_eq_false_iff, decide_eq_false_iff_not, Bool.not_eq_false']; exact h
          · exact hno i hi (by omega)⟩⟩
    have hnb : ¬ (g.rs[k].r.any (badSy g.ts g.ns) = true) := by
      intro h
      obtain ⟨x, hx, hb⟩ := List.any_eq_true.1 h
      obtain ⟨i, hi, rfl⟩ := List.getElem_of_mem hx
      rw [hno i hi (by omega)] at hb
      cases hb
    have hf2 : faultAt g k g.rs[k] = if g.rs[k] ∈ g.rs.take k then 6 else 0 := by rw [hf1, if_neg hnb]
    refine s_hi k (by simp -implicitDefEqProofs only [go_sem, Nat.reduceBEq, Nat.reduceAdd, Nat.reduceSub, Nat.reduceMul, Nat.reduceLeDiff, reduceCtorEq, ↓reduceIte, Int.reduceLT, Int.reduceLE, Int.reduceEq, Int.reduceNe]; exact ⟨_, rfl⟩) (by have := hx.cap; omega) ?_
    simp -implicitDefEqProofs only [go_sem, Nat.reduceBEq, Nat.reduceAdd, Nat.reduceSub, Nat.reduceMul, Nat.reduceLeDiff, reduceCtorEq, ↓reduceIte, Int.reduceLT, Int.reduceLE, Int.reduceEq, Int.reduceNe]
    refine s_loop (fun f' vs Γ => Γ = [] ∧ ∃ j : Nat, vs = [.v true (.int .i64 j)] ∧ j + f' = k ∧ ∀ (i : Nat) (h : i < g.rs.length), i < j → g.rs[i] ≠ g.rs[k]) k (Up.here ⟨rfl, 0, rfl, by omega, by intro i _ h; omega⟩) ?_
    rintro f' vs Γ ⟨rfl, j, rfl, hjf, hne⟩
    simp -implicitDefEqProofs only [S112_2, go_sem, Nat.reduceBEq, Nat.reduceAdd, Nat.reduceSub, Nat.reduceMul, Nat.reduceLeDiff, reduceCtorEq, ↓reduceIte, Int.reduceLT, Int.reduceLE, Int.reduceEq, Int.reduceNe]
    refine ⟨fun hlt => ?_, fun hge => ?_⟩
    · have hj : j < g.rs.length := by omega
      obtain ⟨b3, o3, hA3, A4, c4, hr4, hc3⟩ := hx.ru hj
      refine s_idx hA3 (by omega) (by omega) ?_
      simp -implicitDefEqProofs only [go_sem, Nat.reduceBEq, Nat.reduceAdd, Nat.reduceSub, Nat.reduceMul, Nat.reduceLeDiff, reduceCtorEq, ↓reduceIte, Int.reduceLT, Int.reduceLE, Int.reduceEq, Int.reduceNe]
      refine s_ld0 (hc3 _ (Mem.le.refl _)) (by simp) (by simp) ?_
      simp -implicitDefEqProofs only [go_sem, Nat.reduceBEq, Nat.reduceAdd, Nat.reduceSub, Nat.reduceMul, Nat.reduceLeDiff, reduceCtorEq, ↓reduceIte, Int.reduceLT, Int.reduceLE, Int.reduceEq, Int.reduceNe]
      intro b5
      refine CallVC.read (gram_compare hr4 hr) ?_
      rintro v Γ' ⟨rfl, rfl⟩
      simp -implicitDefEqProofs only [go_sem, Nat.reduceBEq, Nat.reduceAdd, Nat.reduceSub, Nat.reduceMul, Nat.reduceLeDiff, reduceCtorEq, ↓reduceIte, Int.reduceLT, Int.reduceLE, Int.reduceEq, Int.reduceNe]
      refine ⟨fun h => Up.here ?_, fun h => ?_⟩
      · have hin : g.rs[k] ∈ g.rs.take k := by
          rw [← ruleC_zero.1 h, List.mem_take_iff_getElem]
          exact ⟨j, by omega, rfl⟩
        subst hR
        exact ⟨rfl, by rw [hgen 6 (by rw [hf2, if_pos hin]) (by decide)]⟩
      · simp (disch := omega) only [wrap_id]
        exact ⟨f' - 1, by omega, Up.here ⟨rfl, j + 1, rfl, by omega, fun i hi hij => by
          by_cases e : i = j
          · subst e; exact fun q => h (ruleC_zero.2 q)
          · exact hne i hi (by omega)⟩⟩
    · have hin : ¬ g.rs[k] ∈ g.rs.take k := by
        rw [List.mem_take_iff_getElem]
        rintro ⟨i, hi, e⟩
        exact hne i (by omega) (by omega) e
      simp (disch := omega) only [wrap_id]
      exact ⟨f - 1, by omega, Up.here ⟨rfl, k + 1, rfl, by omega, hzero (by rw [hf2, if_neg hin])⟩⟩
  · have hk : k = g.rs.length := by omega
    subst hk
    refine Up.here ?_
    subst hR
    exact ⟨rfl, by rw [hck, hck0]⟩
end Go.Proofs.Ytniobbepliknmaa.V
/- The text of parlance/parlref5.RuleFault as a statement (slots: 0 g, 1 g, 3 seen, 4 _, 5 r, 6 key, 7 _, 8 s, 9 most); no condition. -/
namespace Go.Proofs.Ytniobbepliknmaa.V
open Go
def S42_1 : Stmt :=
  Stmt.seq
  (Stmt.region
    [SOper.mk (some 79) none (SOp.fld 0 (Operand.tmp 8)), SOper.mk (some 80) none (SOp.load false 1 (Operand.tmp 79))]
    [1, 3, 6, 8, 9, 46, 47, 48, 71, 72, 73, 80])
  (Stmt.cond (Operand.tmp 80)
    (Stmt.seq
      (Stmt.region
        [SOper.mk (some 81) none (SOp.fld 0 (Operand.tmp 1)),
          SOper.mk (some 82) none (SOp.load false 1 (Operand.tmp 81)), SOper.mk (some 9) none (SOp.mv (Operand.tmp 82))]
        [1, 3, 6, 8, 9, 46, 47, 48, 71, 72, 73])
      (Stmt.region
        [SOper.mk (some 83) none (SOp.mv (Operand.tmp 6)),
          SOper.mk (some 84) none
            (SOp.fn Fk.cat [Operand.tmp 83, Operand.const (Value.string (ByteArray.mk (Array.mk [UInt8.ofNat 116])))]),
          SOper.mk (some 6) none (SOp.mv (Operand.tmp 84))]
        [1, 3, 6, 8, 9, 46, 47, 48, 71, 72, 73]))
    (Stmt.region
      [SOper.mk (some 85) none (SOp.mv (Operand.tmp 6)),
        SOper.mk (some 86) none
          (SOp.fn Fk.cat [Operand.tmp 85, Operand.const (Value.string (ByteArray.mk (Array.mk [UInt8.ofNat 110])))]),
        SOper.mk (some 6) none (SOp.mv (Operand.tmp 86))]
      [1, 3, 6, 8, 9, 46, 47, 48, 71, 72, 73]))
def S42_2 : Stmt :=
  Stmt.seq
  (Stmt.seq
    (Stmt.region
      [SOper.mk (some 87) none (SOp.fld 1 (Operand.tmp 8)), SOper.mk (some 88) none (SOp.load false 1 (Operand.tmp 87)),
        SOper.mk (some 89) none (SOp.ibin BinOp.lss (Operand.tmp 88) (Operand.const (Value.int IntKind.i64 0))),
        SOper.mk (some 90) none (SOp.mv (Operand.tmp 89)),
        SOper.mk (some 91) (some (90, false)) (SOp.fld 1 (Operand.tmp 8)),
        SOper.mk (some 92) (some (90, false)) (SOp.load false 1 (Operand.tmp 91)),
        SOper.mk (some 93) (some (90, false)) (SOp.mv (Operand.tmp 9)),
        SOper.mk (some 94) (some (90, false)) (SOp.ibin BinOp.geq (Operand.tmp 92) (Operand.tmp 93)),
        SOper.mk (some 95) none (SOp.pick (Operand.tmp 90) (Operand.const (Value.bool true)) (Operand.tmp 94))]
      [1, 3, 6, 8, 46, 47, 48, 71, 72, 73, 95])
    (Stmt.cond (Operand.tmp 95)
      (Stmt.seq (Stmt.region [SOper.mk (some 2) none (SOp.mv (Operand.const (Value.int IntKind.i64 3)))] [2]) Stmt.ret)
      Stmt.skip))
  (Stmt.region
    [SOper.mk (some 96) none (SOp.mv (Operand.tmp 6)), SOper.mk (some 97) none (SOp.fld 1 (Operand.tmp 8)),
      SOper.mk (some 98) none (SOp.load false 1 (Operand.tmp 97)),
      SOper.mk (some 99) none (SOp.conv IntKind.i32 (Operand.tmp 98)),
      SOper.mk (some 100) none (SOp.fn Fk.rune [Operand.tmp 99]),
      SOper.mk (some 101) none (SOp.fn Fk.cat [Operand.tmp 96, Operand.tmp 100]),
      SOper.mk (some 6) none (SOp.mv (Operand.tmp 101))]
    [1, 3, 6, 46, 47, 48, 71, 72, 73])
def S42_3 : Stmt :=
  Stmt.block 3
  (Stmt.seq
    (Stmt.region
      [SOper.mk (some 75) none (SOp.idx 2 (Operand.tmp 71) (Operand.tmp 73)),
        SOper.mk (some 76) none (SOp.load true 2 (Operand.tmp 75)),
        SOper.mk (some 8) none (SOp.alloc true 39 (Value.agg (Array.mk [Value.bool false, Value.int IntKind.i64 0]))),
        SOper.mk none none (SOp.store 2 (Operand.tmp 8) (Operand.tmp 76))]
      [1, 3, 6, 8, 46, 47, 48, 71, 72, 73])
    (Stmt.seq
      (Stmt.region
        [SOper.mk (some 77) none (SOp.fld 1 (Operand.tmp 1)),
          SOper.mk (some 78) none (SOp.load false 1 (Operand.tmp 77)), SOper.mk (some 9) none (SOp.mv (Operand.tmp 78))]
        [1, 3, 6, 8, 9, 46, 47, 48, 71, 72, 73])
      (Stmt.join S42_1 S42_2 [6, 9] [1, 3, 8, 46, 47, 48, 71, 72, 73])))
def S42_4 : Stmt :=
  Stmt.region
  [SOper.mk (some 102) none (SOp.ibin BinOp.add (Operand.tmp 73) (Operand.const (Value.int IntKind.i64 1))),
    SOper.mk (some 73) none (SOp.mv (Operand.tmp 102))]
  [1, 3, 6, 46, 47, 48, 71, 72, 73]
def S42_5 : Stmt :=
  Stmt.seq
  (Stmt.region [SOper.mk (some 74) none (SOp.ibin BinOp.lss (Operand.tmp 73) (Operand.tmp 72))]
    [1, 3, 6, 46, 47, 48, 71, 72, 73, 74])
  (Stmt.seq (Stmt.cond (Operand.tmp 74) Stmt.skip (Stmt.exit 2))
    (Stmt.join S42_3 S42_4 [6] [1, 3, 46, 47, 48, 71, 72, 73]))
def S42_6 : Stmt :=
  Stmt.seq
  (Stmt.region [SOper.mk (some 49) none (SOp.ibin BinOp.lss (Operand.tmp 48) (Operand.tmp 47))] [1, 3, 46, 47, 48, 49])
  (Stmt.seq (Stmt.cond (Operand.tmp 49) Stmt.skip (Stmt.exit 0))
    (Stmt.seq
      (Stmt.block 1
        (Stmt.seq
          (Stmt.region
            [SOper.mk (some 50) none (SOp.idx 2 (Operand.tmp 46) (Operand.tmp 48)),
              SOper.mk (some 51) none (SOp.load true 2 (Operand.tmp 50)),
              SOper.mk (some 5) none
                (SOp.alloc true 37 (Value.agg (Array.mk [Value.int IntKind.i64 0, Value.slice none 0 0]))),
              SOper.mk none none (SOp.store 2 (Operand.tmp 5) (Operand.tmp 51))]
            [1, 3, 5, 46, 47, 48])
          (Stmt.seq
            (Stmt.seq
              (Stmt.region
                [SOper.mk (some 52) none (SOp.fld 0 (Operand.tmp 5)),
                  SOper.mk (some 53) none (SOp.load false 1 (Operand.tmp 52)),
                  SOper.mk (some 54) none
                    (SOp.ibin BinOp.lss (Operand.tmp 53) (Operand.const (Value.int IntKind.i64 0))),
                  SOper.mk (some 55) none (SOp.mv (Operand.tmp 54)),
                  SOper.mk (some 56) (some (55, false)) (SOp.fld 0 (Operand.tmp 5)),
                  SOper.mk (some 57) (some (55, false)) (SOp.load false 1 (Operand.tmp 56)),
                  SOper.mk (some 58) (some (55, false)) (SOp.fld 1 (Operand.tmp 1)),
                  SOper.mk (some 59) (some (55, false)) (SOp.load false 1 (Operand.tmp 58)),
                  SOper.mk (some 60) (some (55, false)) (SOp.ibin BinOp.geq (Operand.tmp 57) (Operand.tmp 59)),
                  SOper.mk (some 61) none
                    (SOp.pick (Operand.tmp 55) (Operand.const (Value.bool true)) (Operand.tmp 60))]
                [1, 3, 5, 46, 47, 48, 61])
              (Stmt.cond (Operand.tmp 61)
                (Stmt.seq (Stmt.region [SOper.mk (some 2) none (SOp.mv (Operand.const (Value.int IntKind.i64 3)))] [2])
                  Stmt.ret)
                Stmt.skip))
            (Stmt.seq
              (Stmt.seq
                (Stmt.region
                  [SOper.mk (some 62) none (SOp.fld 1 (Operand.tmp 5)),
                    SOper.mk (some 63) none (SOp.load false 1 (Operand.tmp 62)),
                    SOper.mk (some 64) none (SOp.len false (Operand.tmp 63)),
                    SOper.mk (some 65) none
                      (SOp.ibin BinOp.gtr (Operand.tmp 64) (Operand.const (Value.int IntKind.i64 4)))]
                  [1, 3, 5, 46, 47, 48, 65])
                (Stmt.cond (Operand.tmp 65)
                  (Stmt.seq
                    (Stmt.region [SOper.mk (some 2) none (SOp.mv (Operand.const (Value.int IntKind.i64 2)))] [2])
                    Stmt.ret)
                  Stmt.skip))
              (Stmt.seq
                (Stmt.region
                  [SOper.mk (some 66) none (SOp.fld 0 (Operand.tmp 5)),
                    SOper.mk (some 67) none (SOp.load false 1 (Operand.tmp 66)),
                    SOper.mk (some 68) none (SOp.conv IntKind.i32 (Operand.tmp 67)),
                    SOper.mk (some 69) none (SOp.fn Fk.rune [Operand.tmp 68]),
                    SOper.mk (some 6) none (SOp.mv (Operand.tmp 69))]
                  [1, 3, 5, 6, 46, 47, 48])
                (Stmt.seq
                  (Stmt.seq
                    (Stmt.region
                      [SOper.mk (some 70) none (SOp.fld 1 (Operand.tmp 5)),
                        SOper.mk (some 71) none (SOp.load false 1 (Operand.tmp 70)),
                        SOper.mk (some 72) none (SOp.len false (Operand.tmp 71)),
                        SOper.mk (some 73) none (SOp.mv (Operand.const (Value.int IntKind.i64 0)))]
                      [1, 3, 6, 46, 47, 48, 71, 72, 73])
                    (Stmt.block 2 (Stmt.loop S42_5 [6, 73] [1, 3, 46, 47, 48, 71, 72])))
                  (Stmt.seq
                    (Stmt.seq
                      (Stmt.region
                        [SOper.mk (some 103) none (SOp.mv (Operand.tmp 3)),
                          SOper.mk (some 104) none (SOp.mv (Operand.tmp 6)),
                          SOper.mk (some 105) none (SOp.q (Qk.look 118 false) [Operand.tmp 103, Operand.tmp 104])]
                        [1, 3, 6, 46, 47, 48, 105])
                      (Stmt.cond (Operand.tmp 105)
                        (Stmt.seq
                          (Stmt.region [SOper.mk (some 2) none (SOp.mv (Operand.const (Value.int IntKind.i64 6)))] [2])
                          Stmt.ret)
                        Stmt.skip))
                    (Stmt.region
                      [SOper.mk (some 106) none (SOp.mv (Operand.tmp 3)),
                        SOper.mk (some 107) none (SOp.mv (Operand.tmp 6)),
                        SOper.mk none none
                          (SOp.a (Qk.upd 118) [Operand.tmp 106, Operand.tmp 107, Operand.const (Value.bool true)])]
                      [1, 3, 46, 47, 48]))))))))
      (Stmt.region
        [SOper.mk (some 108) none (SOp.ibin BinOp.add (Operand.tmp 48) (Operand.const (Value.int IntKind.i64 1))),
          SOper.mk (some 48) none (SOp.mv (Operand.tmp 108))]
        [1, 3, 46, 47, 48])))
def S42_0 : Stmt :=
  Stmt.seq
  (Stmt.region
    [SOper.mk (some 1) none (SOp.box true 57 (Operand.tmp 0)),
      SOper.mk (some 2) none (SOp.mv (Operand.const (Value.int IntKind.i64 0)))]
    [1])
  (Stmt.seq
    (Stmt.seq
      (Stmt.region
        [SOper.mk (some 10) none (SOp.fld 0 (Operand.tmp 1)),
          SOper.mk (some 11) none (SOp.load false 1 (Operand.tmp 10)),
          SOper.mk (some 12) none (SOp.ibin BinOp.lss (Operand.tmp 11) (Operand.const (Value.int IntKind.i64 1))),
          SOper.mk (some 13) none (SOp.mv (Operand.tmp 12)),
          SOper.mk (some 14) (some (13, false)) (SOp.fld 0 (Operand.tmp 1)),
          SOper.mk (some 15) (some (13, false)) (SOp.load false 1 (Operand.tmp 14)),
          SOper.mk (some 16) (some (13, false))
            (SOp.ibin BinOp.gtr (Operand.tmp 15) (Operand.const (Value.int IntKind.i64 8))),
          SOper.mk (some 17) none (SOp.pick (Operand.tmp 13) (Operand.const (Value.bool true)) (Operand.tmp 16)),
          SOper.mk (some 18) none (SOp.mv (Operand.tmp 17)),
          SOper.mk (some 19) (some (18, false)) (SOp.fld 1 (Operand.tmp 1)),
          SOper.mk (some 20) (some (18, false)) (SOp.load false 1 (Operand.tmp 19)),
          SOper.mk (some 21) (some (18, false))
            (SOp.ibin BinOp.lss (Operand.tmp 20) (Operand.const (Value.int IntKind.i64 1))),
          SOper.mk (some 22) none (SOp.pick (Operand.tmp 18) (Operand.const (Value.bool true)) (Operand.tmp 21)),
          SOper.mk (some 23) none (SOp.mv (Operand.tmp 22)),
          SOper.mk (some 24) (some (23, false)) (SOp.fld 1 (Operand.tmp 1)),
          SOper.mk (some 25) (some (23, false)) (SOp.load false 1 (Operand.tmp 24)),
          SOper.mk (some 26) (some (23, false))
            (SOp.ibin BinOp.gtr (Operand.tmp 25) (Operand.const (Value.int IntKind.i64 10))),
          SOper.mk (some 27) none (SOp.pick (Operand.tmp 23) (Operand.const (Value.bool true)) (Operand.tmp 26)),
          SOper.mk (some 28) none (SOp.mv (Operand.tmp 27)),
          SOper.mk (some 29) (some (28, false)) (SOp.fld 2 (Operand.tmp 1)),
          SOper.mk (some 30) (some (28, false)) (SOp.load false 1 (Operand.tmp 29)),
          SOper.mk (some 31) (some (28, false))
            (SOp.ibin BinOp.lss (Operand.tmp 30) (Operand.const (Value.int IntKind.i64 0))),
          SOper.mk (some 32) none (SOp.pick (Operand.tmp 28) (Operand.const (Value.bool true)) (Operand.tmp 31)),
          SOper.mk (some 33) none (SOp.mv (Operand.tmp 32)),
          SOper.mk (some 34) (some (33, false)) (SOp.fld 2 (Operand.tmp 1)),
          SOper.mk (some 35) (some (33, false)) (SOp.load false 1 (Operand.tmp 34)),
          SOper.mk (some 36) (some (33, false)) (SOp.fld 1 (Operand.tmp 1)),
          SOper.mk (some 37) (some (33, false)) (SOp.load false 1 (Operand.tmp 36)),
          SOper.mk (some 38) (some (33, false)) (SOp.ibin BinOp.geq (Operand.tmp 35) (Operand.tmp 37)),
          SOper.mk (some 39) none (SOp.pick (Operand.tmp 33) (Operand.const (Value.bool true)) (Operand.tmp 38))]
        [1, 39])
      (Stmt.cond (Operand.tmp 39)
        (Stmt.seq (Stmt.region [SOper.mk (some 2) none (SOp.mv (Operand.const (Value.int IntKind.i64 1)))] [2])
          Stmt.ret)
        Stmt.skip))
    (Stmt.seq
      (Stmt.seq
        (Stmt.region
          [SOper.mk (some 40) none (SOp.fld 3 (Operand.tmp 1)),
            SOper.mk (some 41) none (SOp.load false 1 (Operand.tmp 40)),
            SOper.mk (some 42) none (SOp.len false (Operand.tmp 41)),
            SOper.mk (some 43) none (SOp.ibin BinOp.gtr (Operand.tmp 42) (Operand.const (Value.int IntKind.i64 32)))]
          [1, 43])
        (Stmt.cond (Operand.tmp 43)
          (Stmt.seq (Stmt.region [SOper.mk (some 2) none (SOp.mv (Operand.const (Value.int IntKind.i64 2)))] [2])
            Stmt.ret)
          Stmt.skip))
      (Stmt.seq
        (Stmt.region
          [SOper.mk (some 44) none (SOp.n (Qk.mkmap 118) []), SOper.mk (some 3) none (SOp.mv (Operand.tmp 44))] [1, 3])
        (Stmt.seq
          (Stmt.seq
            (Stmt.region
              [SOper.mk (some 45) none (SOp.fld 3 (Operand.tmp 1)),
                SOper.mk (some 46) none (SOp.load false 1 (Operand.tmp 45)),
                SOper.mk (some 47) none (SOp.len false (Operand.tmp 46)),
                SOper.mk (some 48) none (SOp.mv (Operand.const (Value.int IntKind.i64 0)))]
              [1, 3, 46, 47, 48])
            (Stmt.block 0 (Stmt.loop S42_6 [48] [1, 3, 46, 47])))
          (Stmt.seq (Stmt.region [SOper.mk (some 2) none (SOp.mv (Operand.const (Value.int IntKind.i64 0)))] [2])
            Stmt.ret)))))
def S42 : FnS := ⟨109, [(2, none)], S42_0⟩
theorem tr42 : trFn Try.prog 42 [1, 5, 8] [[1], [1, 39], [2], [1, 43], [2], [1, 3], [1, 3, 46, 47, 48], [48], [1, 3, 46, 47], [1, 3, 46, 47, 48, 49], [1, 3, 5, 46, 47, 48], [1, 3, 5, 46, 47, 48, 61], [2], [1, 3, 5, 46, 47, 48, 65], [2], [1, 3, 5, 6, 46, 47, 48], [1, 3, 6, 46, 47, 48, 71, 72, 73], [6, 73], [1, 3, 46, 47, 48, 71, 72], [1, 3, 6, 46, 47, 48, 71, 72, 73, 74], [6], [1, 3, 46, 47, 48, 71, 72, 73], [1, 3, 6, 8, 46, 47, 48, 71, 72, 73], [1, 3, 6, 8, 9, 46, 47, 48, 71, 72, 73], [6, 9], [1, 3, 8, 46, 47, 48, 71, 72, 73], [1, 3, 6, 8, 9, 46, 47, 48, 71, 72, 73, 80], [1, 3, 6, 8, 9, 46, 47, 48, 71, 72, 73], [1, 3, 6, 8, 9, 46, 47, 48, 71, 72, 73], [1, 3, 6, 8, 9, 46, 47, 48, 71, 72, 73], [1, 3, 6, 8, 46, 47, 48, 71, 72, 73, 95], [2], [1, 3, 6, 46, 47, 48, 71, 72, 73], [1, 3, 6, 46, 47, 48, 71, 72, 73], [1, 3, 6, 46, 47, 48, 105], [2], [1, 3, 46, 47, 48], [1, 3, 46, 47, 48], [2]] = some S42 := by kernel_rfl
end Go.Proofs.Ytniobbepliknmaa.V
/- Grammars are checked once more: parlref5.RuleFault walked; no condition. -/
namespace Go.Proofs.Ytniobbepliknmaa.V
open Go
set_option linter.unusedVariables false
set_option linter.unusedSimpArgs false
attribute [local go_sem] e_seq e_region e_quiet e_join e_loop e_cond e_block e_exit e_ret e_skip e_fin e_kseq e_snrm e_sret e_sex e_bnrm e_bret e_bex e_rnrm e_rret e_res e_condC e_nil e_g e_mv g_mv e_pick g_pick pickC_eq e_ibin g_ibin ibinC_eq e_sbin g_sbin e_beq g_beq beqC_eq e_nilq g_nilq nilqC_sl nilqC_pt nilqC_mp e_un g_un unC_not unC_neg e_conv g_conv convC_eq e_fld g_fld fldC_ref fldC_ptr e_nilCheck g_nilCheck nilCheckC_ref nilCheckC_ptr nilCheckC_fun e_field g_field fieldC_eq e_len g_len lenC_sl lenC_str e_extract g_extract extractC_eq e_mkFunc e_build g_build e_idiv g_idiv idivC_eq e_ishift g_ishift ishiftC_eq e_idx g_idx e_idxA g_idxA e_load g_load loadC_ref loadC_ptr loadB_eq e_slc g_slc e_box boxC_loc boxC_esc e_alloc allocC_loc allocC_esc e_buildS e_store storeC_ref storeC_ptr storeB_eq e_append e_appz e_mk mkC_eq e_call callC_eq e_fn g_fn fnC_eq fnV_min' fnV_max' fnV_rune' e_q g_q e_a e_n g_call g_box g_alloc g_buildS g_store g_append g_mk g_a g_n g_dead e_dead e_callK e_drawn e_tree e_finJ e_tk e_tfin e_tno e_nbt_q e_nbt_qn e_nbt_a e_nbt_an e_nbt_fin e_early_nil e_early_t e_early_f e_nob_nil e_nob_none e_nob_some isBox_dead isBox_v isBox_ref e_dnil e_dk e_ek e_finB vcOps_vc1 e_dcons e_tq e_ekt e_tearly e_talt e_dearly look_nil look_c proj_nil proj_c looks_nil looks_c zip_nil zip_c val_tmp val_const val_func slv_v slv_box slv_ref slot_tmp slot_const slot_func slotL_v slotL_box slotL_ref put_some put_none updBox_c boxSet_box gd_eq slotVals_nil slotVals_c slotVals_b boxV_box boxOn_box slotsOn_nil slotsOn_c slotsOn_b resV_one resV_two vals_nil vals_c allOn_nil allOn_c partOn_nil partOn_c partVals_nil partVals_c fits_nil fits_c fillL_nil fillL_c mkv_one mkv_agg cellsV_agg cellsV_int cellsV_bool cellsV_slice cellsV_string cellsV_pointer cellsV_func cellsV_nilf cellsV_map one'_nil one'_c oc_int oc_bool oc_slice oc_string oc_pointer oc_func oc_nilf oc_map setC_eq iv_add iv_sub iv_mul iv_eql iv_neq iv_lss iv_leq iv_gtr iv_geq iok_add iok_sub iok_mul iok_eql iok_neq iok_lss iok_leq iok_gtr iok_geq pickV_bool args0_nil args0_c bnd_none bnd_some imp_bt imp_bf imp_ebt imp_ebf imp_eb1 imp_np imp_pp beq_tt beq_tf beq_ft beq_ff cond_or cond_and e_round e_meet Int.le_refl Int.toNat_zero decide_true decide_false Bool.or_false Bool.false_or Bool.true_or Bool.or_true Bool.and_false Bool.false_and Bool.bne_false Bool.bne_true beq_iff_eq Int.cast_ofNat_Int not_false_eq_true not_true_eq_false false_and and_false false_implies true_implies true_and and_true Bool.true_and Bool.and_true Bool.not_true Bool.not_false forall_const implies_true List.take_zero List.drop_zero List.take_succ_cons List.drop_succ_cons List.take_nil List.drop_nil List.length_cons List.length_nil List.nil_append List.append_nil List.cons_append Int.toNat_natCast decide_eq_true_eq decide_eq_false_iff_not cond_true cond_false and_self List.getElem?_cons_zero List.getElem?_cons_succ List.set_cons_zero List.set_cons_succ Option.some.injEq exists_eq_left' Nat.zero_add Nat.add_zero Nat.mul_one imp_self true_or or_true or_false false_or Bool.or_eq_true Bool.or_eq_false_iff Bool.and_eq_true Bool.and_eq_false_iff Bool.not_eq_true' Bool.not_eq_false'

def strB (l : List UInt8) : Value := .string ⟨l.toArray⟩
theorem strB_inj (a b : List UInt8) (h : strB a = strB b) : a = b := by
  simp only [strB, Value.string.injEq, ByteArray.mk.injEq] at h
  simpa using congrArg Array.toList h
theorem kt_str {P : Program} {k : TypeId} (hk : P.underlying k = some .string) : KT P k strB (fun l => l.length ≤ 1000) :=
  KT.of (Maps.string_keyed hk) strB_inj fun a ha => ⟨Lit.string a, by simp [strB, keyOf, hk, mapKey, ByteArray.size]; unfold maxLen; omega⟩
theorem rune_str {n : Int} (h0 : 0 ≤ n) (h1 : n < 10) : Value.string (Utf8.encode (IntKind.i32.wrap n)) = strB [UInt8.ofNat n.toNat] := by
  obtain ⟨m, rfl⟩ : ∃ m : Nat, n = m := ⟨n.toNat, by omega⟩
  have : m = 0 ∨ m = 1 ∨ m = 2 ∨ m = 3 ∨ m = 4 ∨ m = 5 ∨ m = 6 ∨ m = 7 ∨ m = 8 ∨ m = 9 := by omega
  rcases this with rfl | rfl | rfl | rfl | rfl | rfl | rfl | rfl | rfl | rfl <;> rfl
theorem fn_cat {a b : List UInt8} (h : a.length + b.length ≤ 1000000) : fnV .cat [strB a, strB b] = some (strB (a ++ b)) := by
  have : (ByteArray.mk a.toArray).size + (ByteArray.mk b.toArray).size ≤ 9223372036854775807 := by simp only [ByteArray.size, List.size_toArray]; omega
  simp only [fnV, strB, if_pos this]
  refine congrArg (fun x => some (Value.string x)) (ByteArray.ext ?_)
  simp

def symK (s : Sy) : List UInt8 := [if s.t then 116 else 110, UInt8.ofNat s.n.toNat]
def symsK (l : List Sy) : List UInt8 := l.flatMap symK
def keyK (r : Ru) : List UInt8 := UInt8.ofNat r.l.toNat :: symsK r.r
def okSy (s : Sy) : Prop := 0 ≤ s.n ∧ s.n < 10
theorem byte_inj {a b : Int} (h0 : 0 ≤ a) (h1 : a < 10) (h2 : 0 ≤ b) (h3 : b < 10) (h : UInt8.ofNat a.toNat = UInt8.ofNat b.toNat) : a = b := by
  have := congrArg UInt8.toNat h
  simp only [UInt8.toNat_ofNat'] at this
  omega
theorem symK_inj {s t : Sy} (hs : okSy s) (ht : okSy t) (h : symK s = symK t) : s = t := by
  obtain ⟨a, m⟩ := s
  obtain ⟨b, n⟩ := t
  simp only [symK, List.cons.injEq, and_true] at h
  have := byte_inj hs.1 hs.2 ht.1 ht.2 h.2
  simp only at this
  subst this
  cases a <;> cases b <;> simp at h ⊢
theorem symsK_inj : ∀ {l k : List Sy}, (∀ s ∈ l, okSy s) → (∀ s ∈ k, okSy s) → symsK l = symsK k → l = k
  | [], [], _, _, _ => rfl
  | [], t :: k, _, _, h => by simp [symsK, symK] at h
  | s :: l, [], _, _, h => by simp [symsK, symK] at h
  | s :: l, t :: k, hl, hk, h => by
    have e : symsK (s :: l) = symK s ++ symsK l := rfl
    have e' : symsK (t :: k) = symK t ++ symsK k := rfl
    rw [e, e'] at h
    have h1 := List.append_inj h rfl
    rw [symK_inj (hl s (by simp)) (hk t (by simp)) h1.1, symsK_inj (fun x hx => hl x (by simp [hx])) (fun x hx => hk x (by simp [hx])) h1.2]
theorem symsK_len (l : List Sy) : (symsK l).length = 2 * l.length := by
  induction l with
  | nil => rfl
  | cons s l ih => rw [show symsK (s :: l) = symK s ++ symsK l from rfl, List.length_append, ih]; simp [symK]; omega

theorem rule_fault {Γr : Ctx} {g : Gr} {A : Option Addr} {c : Nat} (hx : SlOk (lk Γr) A c g.rs) :
    Ret Try.prog 42 [.agg #[.int .i64 g.ts, .int .i64 g.ns, .int .i64 g.st, .slice A g.rs.length c]] Γr [] (fun v Γ => Γ = [] ∧ v = .int .i64 (ckF g)) := by
  generalize hR : (fun (v : Value) (Γ : Ctx) => Γ = [] ∧ _) = R
  refine ret_of_vc tr42 (Nat.le_of_ble_eq_true rfl) ?_
  simp -implicitDefEqProofs only [S42, S42_0, go_sem, Nat.reduceBEq, Nat.reduceAdd, Nat.reduceSub, Nat.reduceMul, Nat.reduceLeDiff, reduceCtorEq, ↓reduceIte, Int.reduceLT, Int.reduceLE, Int.reduceEq, Int.reduceNe]
  intro b
  refine ⟨fun h => Up.here ?_, fun hok => ⟨fun h => Up.here ?_, fun h32 => ?_⟩⟩
  · subst hR
    exact ⟨rfl, by rw [ckF, if_pos (by unfold badHead; omega)]⟩
  · subst hR
    exact ⟨rfl, by rw [ckF, if_neg (by unfold badHead; omega), if_pos (by omega)]⟩
  have hck : ckF g = ckR g g.rs.length := by rw [ckF, if_neg (by unfold badHead; omega), if_neg (by omega)]
  refine s_mkmap fun bm => ?_
  simp -implicitDefEqProofs only [go_sem, Nat.reduceBEq, Nat.reduceAdd, Nat.reduceSub, Nat.reduceMul, Nat.reduceLeDiff, reduceCtorEq, ↓reduceIte, Int.reduceLT, Int.reduceLE, Int.reduceEq, Int.reduceNe]
  have hkt : KT Try.prog 9 strB (fun l => l.length ≤ 1000) := kt_str (by kernel_rfl)
  refine s_loop (fun f vs Γ => ∃ gm, Γ = [gm] ∧ ∃ (k : Nat), vs = [.v true (.int .i64 k)] ∧ k + f = g.rs.length ∧ ckR g k = 0 ∧ (∀ r ∈ g.rs.take k, (0 ≤ r.l ∧ r.l < 10) ∧ r.r.length ≤ 4 ∧ ∀ s ∈ r.r, okSy s) ∧ MapM gm bm strB Value.bool (fun l => l.length ≤ 1000) (mset keyK (g.rs.take k))) g.rs.length
    (Up.here ⟨_, rfl, 0, rfl, by omega, rfl, by simp, MapM.new _ _ _ _⟩) ?_
  rintro f vs Γ ⟨gm, rfl, k, rfl, hkf, hck0, hall, hM⟩
  simp -implicitDefEqProofs only [S42_6, go_sem, Nat.reduceBEq, Nat.reduceAdd, Nat.reduceSub, Nat.reduceMul, Nat.reduceLeDiff, reduceCtorEq, ↓reduceIte, Int.reduceLT, Int.reduceLE, Int.reduceEq, Int.reduceNe]
  refine ⟨fun hlt => ?_, fun hge => ?_⟩
  · have hk : k < g.rs.length := by omega
    have hgen : ∀ x, faultAt g k g.rs[k] = x → x ≠ 0 → ckF g = x := fun x h1 h2 => by rw [hck, ckR_fault hk hck0 (by rw [h1]; exact h2), h1]
    have hzero : faultAt g k g.rs[k] = 0 → ckR g (k + 1) = 0 := fun h => by rw [ckR_step hk hck0, h]
    obtain ⟨b1, o1, hA, A', c', hr, hc1⟩ := hx.ru hk
    have hrl := hr.short
    refine s_idx hA (by omega) (by omega) ?_
    simp -implicitDefEqProofs only [go_sem, Nat.reduceBEq, Nat.reduceAdd, Nat.reduceSub, Nat.reduceMul, Nat.reduceLeDiff, reduceCtorEq, ↓reduceIte, Int.reduceLT, Int.reduceLE, Int.reduceEq, Int.reduceNe]
    refine s_ld0 (hc1 _ (lk_r _ _)) (by simp) (by simp) ?_
    simp -implicitDefEqProofs only [go_sem, Nat.reduceBEq, Nat.reduceAdd, Nat.reduceSub, Nat.reduceMul, Nat.reduceLeDiff, reduceCtorEq, ↓reduceIte, Int.reduceLT, Int.reduceLE, Int.reduceEq, Int.reduceNe]
    refine ⟨fun h => Up.to [] (Ent.nil _) ?_, fun hl => ⟨fun h => Up.to [] (Ent.nil _) ?_, fun h4 => ?_⟩⟩
    · subst hR
      exact ⟨rfl, by rw [hgen 3 (by rw [faultAt, if_pos h]) (by decide)]⟩
    · subst hR
      exact ⟨rfl, by rw [hgen 2 (by rw [faultAt, if_neg (by omega), if_pos (by omega)]) (by decide)]⟩
    have hf1 : faultAt g k g.rs[k] = if g.rs[k].r.any (badSy g.ts g.ns) = true then 3 else if g.rs[k] ∈ g.rs.take k then 6 else 0 := by
      rw [faultAt, if_neg (by omega), if_neg (by omega)]
    rw [rune_str (by omega) (by omega)]
    refine s_loop (fun f' vs Γ => ∃ gm, Γ = [gm] ∧ MapM gm bm strB Value.bool (fun l => l.length ≤ 1000) (mset keyK (g.rs.take k)) ∧ ∃ j : Nat, vs = [.v true (strB (UInt8.ofNat g.rs[k].l.toNat :: symsK (g.rs[k].r.take j))), .v true (.int .i64 j)] ∧ j + f' = g.rs[k].r.length ∧ ∀ (i : Nat) (h : i < g.rs[k].r.length), i < j → badSy g.ts g.ns g.rs[k].r[i] = false ∧ okSy g.rs[k].r[i]) g.rs[k].r.length
      (Up.here ⟨_, rfl, hM, 0, rfl, by omega, by intro i _ h; omega⟩) ?_
    rintro f' vs Γ ⟨gm, rfl, hM, j, rfl, hjf, hno⟩
    simp -implicitDefEqProofs only [S42_5, go_sem, Nat.reduceBEq, Nat.reduceAdd, Nat.reduceSub, Nat.reduceMul, Nat.reduceLeDiff, reduceCtorEq, ↓reduceIte, Int.reduceLT, Int.reduceLE, Int.reduceEq, Int.reduceNe]
    refine ⟨fun hlt => ?_, fun hge => ?_⟩
    · have hj : j < g.rs[k].r.length := by omega
      refine s_split ?_
      simp -implicitDefEqProofs only [S42_3, S42_4, go_sem, Nat.reduceBEq, Nat.reduceAdd, Nat.reduceSub, Nat.reduceMul, Nat.reduceLeDiff, reduceCtorEq, ↓reduceIte, Int.reduceLT, Int.reduceLE, Int.reduceEq, Int.reduceNe]
      obtain ⟨b3, o3, hA3, hc3⟩ := hr.sy hj
      refine s_idx hA3 (by omega) (by omega) ?_
      simp -implicitDefEqProofs only [go_sem, Nat.reduceBEq, Nat.reduceAdd, Nat.reduceSub, Nat.reduceMul, Nat.reduceLeDiff, reduceCtorEq, ↓reduceIte, Int.reduceLT, Int.reduceLE, Int.reduceEq, Int.reduceNe]
      refine s_ld0 (hc3 _ (lk_r _ _)) (by simp) (by simp) ?_
      simp -implicitDefEqProofs only [go_sem, Nat.reduceBEq, Nat.reduceAdd, Nat.reduceSub, Nat.reduceMul, Nat.reduceLeDiff, reduceCtorEq, ↓reduceIte, Int.reduceLT, Int.reduceLE, Int.reduceEq, Int.reduceNe]
      intro b4
      have hlen1 : (symsK (g.rs[k].r.take j)).length ≤ 8 := by rw [symsK_len, List.length_take]; omega
      refine s_join (fun vs Γ' => Γ' = [gm] ∧ vs = [.v true (strB (UInt8.ofNat g.rs[k].l.toNat :: symsK (g.rs[k].r.take j) ++ [if g.rs[k].r[j].t then 116 else 110])), .v true (.int .i64 (if g.rs[k].r[j].t then g.ts else g.ns))]) ?_ ?_
      · simp -implicitDefEqProofs only [S42_1, go_sem, Nat.reduceBEq, Nat.reduceAdd, Nat.reduceSub, Nat.reduceMul, Nat.reduceLeDiff, reduceCtorEq, ↓reduceIte, Int.reduceLT, Int.reduceLE, Int.reduceEq, Int.reduceNe]
        refine ⟨fun ht => ?_, fun ht => ?_⟩
        · rw [show Value.string (ByteArray.mk (Array.mk [UInt8.ofNat 116])) = strB [116] from rfl, fn_cat (by simp only [List.length_cons, List.length_nil]; omega)]
          simp -implicitDefEqProofs only [go_sem, Nat.reduceBEq, Nat.reduceAdd, Nat.reduceSub, Nat.reduceMul, Nat.reduceLeDiff, reduceCtorEq, ↓reduceIte, Int.reduceLT, Int.reduceLE, Int.reduceEq, Int.reduceNe]
          exact Up.here ⟨rfl, by rw [ht]; rfl⟩
        · rw [show Value.string (ByteArray.mk (Array.mk [UInt8.ofNat 110])) = strB [110] from rfl, fn_cat (by simp only [List.length_cons, List.length_nil]; omega)]
          simp -implicitDefEqProofs only [go_sem, Nat.reduceBEq, Nat.reduceAdd, Nat.reduceSub, Nat.reduceMul, Nat.reduceLeDiff, reduceCtorEq, ↓reduceIte, Int.reduceLT, Int.reduceLE, Int.reduceEq, Int.reduceNe]
          exact Up.here ⟨rfl, by rw [ht]; rfl⟩
      · rintro vs Γ' ⟨rfl, rfl⟩
        simp -implicitDefEqProofs only [S42_2, go_sem, Nat.reduceBEq, Nat.reduceAdd, Nat.reduceSub, Nat.reduceMul, Nat.reduceLeDiff, reduceCtorEq, ↓reduceIte, Int.reduceLT, Int.reduceLE, Int.reduceEq, Int.reduceNe]
        refine ⟨fun h => Up.to [] (Ent.nil _) ?_, fun h => ?_⟩
        · have hb : g.rs[k].r.any (badSy g.ts g.ns) = true := List.any_eq_true.2 ⟨g.rs[k].r[j], List.getElem_mem hj, by
            unfold badSy
            cases ht : g.rs[k].r[j].t <;> simp only [ht, if_true, if_false, Bool.false_eq_true] at h <;> simp <;> omega⟩
          subst hR
          exact ⟨rfl, by rw [hgen 3 (by rw [hf1, if_pos hb]) (by decide)]⟩
        · have hok2 : okSy g.rs[k].r[j] := by
            unfold okSy
            cases ht : g.rs[k].r[j].t <;> simp only [ht, if_true, if_false, Bool.false_eq_true] at h <;> omega
          have hnb : badSy g.ts g.ns g.rs[k].r[j] = false := by
            unfold badSy
            cases ht : g.rs[k].r[j].t <;> simp only [ht, if_true, if_false, Bool.false_eq_true] at h <;> simp <;> omega
          rw [rune_str hok2.1 hok2.2, fn_cat (by simp only [List.length_cons, List.length_append, List.length_nil]; omega)]
          simp -implicitDefEqProofs only [go_sem, Nat.reduceBEq, Nat.reduceAdd, Nat.reduceSub, Nat.reduceMul, Nat.reduceLeDiff, reduceCtorEq, ↓reduceIte, Int.reduceLT, Int.reduceLE, Int.reduceEq, Int.reduceNe]
          simp (disch := omega) only [wrap_id]
          refine Up.here ⟨f' - 1, by omega, Up.here ⟨_, rfl, hM, j + 1, ?_, by omega, fun i hi hij => ?_⟩⟩
          · have e : symsK (g.rs[k].r.take (j + 1)) = symsK (g.rs[k].r.take j) ++ symK g.rs[k].r[j] := by
              rw [List.take_succ_eq_append_getElem hj]
              simp only [symsK, List.flatMap_append, List.flatMap_cons, List.flatMap_nil, List.append_nil]
            rw [e]
            simp [symK]
          · by_cases e : i = j
            · subst e; exact ⟨hnb, hok2⟩
            · exact hno i hi (by omega)
    have hj : j = g.rs[k].r.length := by omega
    rw [hj, List.take_length]
    have hnb : ¬ (g.rs[k].r.any (badSy g.ts g.ns) = true) := by
      intro h
      obtain ⟨x, hx, hb⟩ := List.any_eq_true.1 h
      obtain ⟨i, hi, rfl⟩ := List.getElem_of_mem hx
      rw [(hno i hi (by omega)).1] at hb
      cases hb
    have hf2 : faultAt g k g.rs[k] = if g.rs[k] ∈ g.rs.take k then 6 else 0 := by rw [hf1, if_neg hnb]
    have hokr : (0 ≤ g.rs[k].l ∧ g.rs[k].l < 10) ∧ g.rs[k].r.length ≤ 4 ∧ ∀ s ∈ g.rs[k].r, okSy s := by
      refine ⟨by omega, by omega, fun s hs => ?_⟩
      obtain ⟨i, hi, rfl⟩ := List.getElem_of_mem hs
      exact (hno i hi (by omega)).2
    rw [show UInt8.ofNat g.rs[k].l.toNat :: symsK g.rs[k].r = keyK g.rs[k] from rfl]
    have hkl : (keyK g.rs[k]).length ≤ 1000 := by simp only [keyK, List.length_cons, symsK_len]; omega
    have hkinj : ∀ r ∈ g.rs.take k, keyK r = keyK g.rs[k] → r = g.rs[k] := by
      intro r hr he
      have h1 := hall r hr
      simp only [keyK, List.cons.injEq] at he
      have e1 := byte_inj h1.1.1 h1.1.2 hokr.1.1 hokr.1.2 he.1
      have e2 := symsK_inj h1.2.2 hokr.2.2 he.2
      cases r
      simp only at e1 e2
      rw [e1, e2]
    refine s_q trivial (qr_look hkt (et := 4) (z := .bool false) (by kernel_rfl) (zero_run (by kernel_rfl)) false (hM.l (by simp)) hkl) ?_
    simp -implicitDefEqProofs only [go_sem, Nat.reduceBEq, Nat.reduceAdd, Nat.reduceSub, Nat.reduceMul, Nat.reduceLeDiff, reduceCtorEq, ↓reduceIte, Int.reduceLT, Int.reduceLE, Int.reduceEq, Int.reduceNe]
    rw [mget_set]
    by_cases hin : g.rs[k] ∈ g.rs.take k
    · rw [if_pos (List.mem_map.2 ⟨_, hin, rfl⟩)]
      simp only [Option.elim_some]
      simp -implicitDefEqProofs only [go_sem, Nat.reduceBEq, Nat.reduceAdd, Nat.reduceSub, Nat.reduceMul, Nat.reduceLeDiff, reduceCtorEq, ↓reduceIte, Int.reduceLT, Int.reduceLE, Int.reduceEq, Int.reduceNe]
      refine Up.to [] (Ent.nil _) ?_
      subst hR
      exact ⟨rfl, by rw [hgen 6 (by rw [hf2, if_pos hin]) (by decide)]⟩
    · have hnk : keyK g.rs[k] ∉ (g.rs.take k).map keyK := by
        intro h
        obtain ⟨r, hr, he⟩ := List.mem_map.1 h
        exact hin (hkinj r hr he ▸ hr)
      rw [if_neg hnk]
      simp only [Option.elim_none]
      simp -implicitDefEqProofs only [go_sem, Nat.reduceBEq, Nat.reduceAdd, Nat.reduceSub, Nat.reduceMul, Nat.reduceLeDiff, reduceCtorEq, ↓reduceIte, Int.reduceLT, Int.reduceLE, Int.reduceEq, Int.reduceNe]
      refine s_upd hkt (et := 4) (ix := 0) (eV := Value.bool) (by kernel_rfl) rfl hM true hkl ?_
      intro g' hM' _
      rw [mput_set _ _ _ hnk, ← List.take_succ_eq_append_getElem hk] at hM'
      simp -implicitDefEqProofs only [go_sem, Nat.reduceBEq, Nat.reduceAdd, Nat.reduceSub, Nat.reduceMul, Nat.reduceLeDiff, reduceCtorEq, ↓reduceIte, Int.reduceLT, Int.reduceLE, Int.reduceEq, Int.reduceNe]
      simp (disch := omega) only [wrap_id]
      refine ⟨f - 1, by omega, Up.here ⟨_, rfl, k + 1, rfl, by omega, hzero (by rw [hf2, if_neg hin]), fun r hr => ?_, hM'⟩⟩
      rw [List.take_succ_eq_append_getElem hk, List.mem_append, List.mem_singleton] at hr
      rcases hr with hr | rfl
      · exact hall r hr
      · exact hokr
  · have hk : k = g.rs.length := by omega
    subst hk
    refine Up.to [] (Ent.nil _) ?_
    subst hR
    exact ⟨rfl, by rw [hck, hck0]⟩
end Go.Proofs.Ytniobbepliknmaa.V
/- Sets of texts, and rows of them; no condition. -/
namespace Go.Proofs.Ytniobbepliknmaa.V
open Go
set_option linter.unusedVariables false
set_option linter.unusedSimpArgs false
set_option linter.unusedSectionVars false
attribute [local go_sem] e_seq e_region e_quiet e_join e_loop e_cond e_block e_exit e_ret e_skip e_fin e_kseq e_snrm e_sret e_sex e_bnrm e_bret e_bex e_rnrm e_rret e_res e_condC e_nil e_g e_mv g_mv e_pick g_pick pickC_eq e_ibin g_ibin ibinC_eq e_sbin g_sbin e_beq g_beq beqC_eq e_nilq g_nilq nilqC_sl nilqC_pt nilqC_mp e_un g_un unC_not unC_neg e_conv g_conv convC_eq e_fld g_fld fldC_ref fldC_ptr e_nilCheck g_nilCheck nilCheckC_ref nilCheckC_ptr nilCheckC_fun e_field g_field fieldC_eq e_len g_len lenC_sl lenC_str e_extract g_extract extractC_eq e_mkFunc e_build g_build e_idiv g_idiv idivC_eq e_ishift g_ishift ishiftC_eq e_idx g_idx e_idxA g_idxA e_load g_load loadC_ref loadC_ptr loadB_eq e_slc g_slc e_box boxC_loc boxC_esc e_alloc allocC_loc allocC_esc e_buildS e_store storeC_ref storeC_ptr storeB_eq e_append e_appz e_mk mkC_eq e_call callC_eq e_fn g_fn fnC_eq fnV_min' fnV_max' fnV_rune' e_q g_q e_a e_n g_call g_box g_alloc g_buildS g_store g_append g_mk g_a g_n g_dead e_dead e_callK e_drawn e_tree e_finJ e_tk e_tfin e_tno e_nbt_q e_nbt_qn e_nbt_a e_nbt_an e_nbt_fin e_early_nil e_early_t e_early_f e_nob_nil e_nob_none e_nob_some isBox_dead isBox_v isBox_ref e_dnil e_dk e_ek e_finB vcOps_vc1 e_dcons e_tq e_ekt e_tearly e_talt e_dearly look_nil look_c proj_nil proj_c looks_nil looks_c zip_nil zip_c val_tmp val_const val_func slv_v slv_box slv_ref slot_tmp slot_const slot_func slotL_v slotL_box slotL_ref put_some put_none updBox_c boxSet_box gd_eq slotVals_nil slotVals_c slotVals_b boxV_box boxOn_box slotsOn_nil slotsOn_c slotsOn_b resV_one resV_two vals_nil vals_c allOn_nil allOn_c partOn_nil partOn_c partVals_nil partVals_c fits_nil fits_c fillL_nil fillL_c mkv_one mkv_agg cellsV_agg cellsV_int cellsV_bool cellsV_slice cellsV_string cellsV_pointer cellsV_func cellsV_nilf cellsV_map one'_nil one'_c oc_int oc_bool oc_slice oc_string oc_pointer oc_func oc_nilf oc_map setC_eq iv_add iv_sub iv_mul iv_eql iv_neq iv_lss iv_leq iv_gtr iv_geq iok_add iok_sub iok_mul iok_eql iok_neq iok_lss iok_leq iok_gtr iok_geq pickV_bool args0_nil args0_c bnd_none bnd_some imp_bt imp_bf imp_ebt imp_ebf imp_eb1 imp_np imp_pp beq_tt beq_tf beq_ft beq_ff cond_or cond_and e_round e_meet Int.le_refl Int.toNat_zero decide_true decide_false Bool.or_false Bool.false_or Bool.true_or Bool.or_true Bool.and_false Bool.false_and Bool.bne_false Bool.bne_true beq_iff_eq Int.cast_ofNat_Int not_false_eq_true not_true_eq_false false_and and_false false_implies true_implies true_and and_true Bool.true_and Bool.and_true Bool.not_true Bool.not_false forall_const implies_true List.take_zero List.drop_zero List.take_succ_cons List.drop_succ_cons List.take_nil List.drop_nil List.length_cons List.length_nil List.nil_append List.append_nil List.cons_append Int.toNat_natCast decide_eq_true_eq decide_eq_false_iff_not cond_true cond_false and_self List.getElem?_cons_zero List.getElem?_cons_succ List.set_cons_zero List.set_cons_succ Option.some.injEq exists_eq_left' Nat.zero_add Nat.add_zero Nat.mul_one imp_self true_or or_true or_false false_or Bool.or_eq_true Bool.or_eq_false_iff Bool.and_eq_true Bool.and_eq_false_iff Bool.not_eq_true' Bool.not_eq_false'

theorem Up.skip {g : PH} {Γ : Ctx} {Φ : Ctx → Prop} (h : Up Γ Φ) : Up (g :: Γ) Φ := fun ha => by
  obtain ⟨Γ', he, hp⟩ := h (List.pairwise_cons.1 ha).2
  exact ⟨Γ', (Ent.sub (List.sublist_cons_self _ _)).trans he, hp⟩
theorem lenV_strB (u : List UInt8) : lenV true (strB u) = some (u.length : Int) := by simp [lenV, strB, ByteArray.size]
def good8 (l : List UInt8) : Prop := l.length ≤ 1000
/-- the map b is the set l of texts -/
def SetS (L : Mem) (b : Nat) (l : List (List UInt8)) : Prop := MapL L b strB Value.bool good8 (mset id l)
def StrM (g : PH) (b : Nat) (l : List (List UInt8)) : Prop := MapM g b strB Value.bool good8 (mset id l)
theorem StrM.l {g : PH} {Γ : Ctx} {b : Nat} {l : List (List UInt8)} (h : StrM g b l) (hg : g ∈ Γ) : SetS (lk Γ) b l := MapM.l h hg
theorem SetS.mono {L L' : Mem} {b : Nat} {l : List (List UInt8)} (h : SetS L b l) (hl : Mem.le L L') : SetS L' b l := MapL.mono h hl
theorem StrM.mono {g g' : PH} {b : Nat} {l : List (List UInt8)} (h : StrM g b l) (hg : Mem.le (lk [g]) (lk [g'])) : StrM g' b l := MapM.mono h hg
theorem SetS.nodup {L : Mem} {b : Nat} {l : List (List UInt8)} (h : SetS L b l) : l.Nodup := by
  have := MapL.nodup h
  rwa [mset_keys, List.map_id] at this
theorem SetS.good {L : Mem} {b : Nat} {l : List (List UInt8)} (h : SetS L b l) : ∀ x ∈ l, x.length ≤ 1000 := fun x hx => MapL.good h (x, true) (List.mem_map.2 ⟨x, hx, rfl⟩)
theorem mset_mem {l : List (List UInt8)} {p : List UInt8 × Bool} : p ∈ mset id l ↔ p.1 ∈ l ∧ p.2 = true := by
  obtain ⟨x, c⟩ := p
  simp only [mset, List.mem_map, id, Prod.mk.injEq]
  constructor
  · rintro ⟨y, h, rfl, rfl⟩; exact ⟨h, rfl⟩
  · rintro ⟨h, rfl⟩; exact ⟨x, h, rfl, rfl⟩
def addT (l : List (List UInt8)) (x : List UInt8) : List (List UInt8) := if x ∈ l then l else l ++ [x]
theorem addT_mem {l : List (List UInt8)} {x y : List UInt8} : y ∈ addT l x ↔ y ∈ l ∨ y = x := by
  unfold addT
  split
  · rename_i h
    exact ⟨.inl, fun q => q.elim id fun e => by rw [e]; exact h⟩
  · simp
theorem mset_dupT {l : List (List UInt8)} {x : List UInt8} (h : x ∈ l) : mput (mset id l) x true = mset id l := by
  rw [mput, mset_keys, List.map_id, if_pos h]
  unfold mset
  rw [List.map_map]
  apply List.map_congr_left
  intro y _
  simp only [Function.comp, id]
  split
  · rename_i e; rw [e]
  · rfl
theorem look_str {Γ : Ctx} {t kt : TypeId} {b : Nat} {l : List (List UInt8)} {x : List UInt8} (ht : Try.prog.underlying t = some (.map kt 4)) (hk : Try.prog.underlying kt = some .string) (h : SetS (lk Γ) b l) (hx : x.length ≤ 1000) : QR Try.prog (.look t false) [.map (some b), strB x] Γ (.bool (decide (x ∈ l))) := by
  have := qr_look (kt_str hk) (t := t) (et := 4) (z := .bool false) ht (zero_run (by kernel_rfl)) false h hx
  rw [mget_set, List.map_id] at this
  by_cases e : x ∈ l
  · rw [if_pos e] at this
    simpa [e] using this
  · rw [if_neg e] at this
    simpa [e] using this
theorem s_addT {Γr : Ctx} {d : Option Nat} {r : List SOper} {φ : Fr} {Γ : Ctx} {K : Fr → Ctx → Prop} {t kt : TypeId} {g : PH} {ix b : Nat} {l : List (List UInt8)} (ht : Try.prog.underlying t = some (.map kt 4)) (hkt : Try.prog.underlying kt = some .string) (hg : Γ[ix]? = some g) (hm : StrM g b l) {x : List UInt8} (hx : x.length ≤ 1000)
    (hk : ∀ g', StrM g' b (addT l x) → (∀ k, k ≠ b → g' k = g k) → vcOps Try.prog Γr r (put φ d (.v true undef)) (Γ.set ix g') K) : aC Try.prog Γr d r φ Γ K (.upd t) [.map (some b), strB x, .bool true] := by
  refine s_upd (kt_str hkt) (eV := Value.bool) ht hg hm true hx fun g' h ho => hk g' ?_ ho
  unfold addT
  split
  · rename_i h1
    rw [mset_dupT h1] at h
    exact h
  · rename_i h1
    have := mput_set id l x (by simpa using h1)
    simp only [id] at this
    rw [this] at h
    exact h
/-! a row of sets -/
structure RowS (g : PH) (bo : Nat) (T : TypeId) (maps : List (List (List UInt8))) (bs : List Nat) : Prop where
  len : bs.length = maps.length
  out : g bo = some (.cells (bs.map fun b => Value.map (some b)).toArray T (0, 0))
  nodup : bs.Nodup
  apart : bo ∉ bs
  map : ∀ (i b : Nat) l, bs[i]? = some b → maps[i]? = some l → StrM g b l
def GridS (g : PH) (bo : Nat) (T : TypeId) (maps : List (List (List UInt8))) : Prop := ∃ bs, RowS g bo T maps bs
theorem GridS.mono {g g' : PH} {bo : Nat} {T : TypeId} {maps : List (List (List UInt8))} (h : GridS g bo T maps) (hl : Mem.le (lk [g]) (lk [g'])) : GridS g' bo T maps := by
  obtain ⟨bs, h⟩ := h
  exact ⟨bs, h.len, lk_one.1 (hl _ _ (lk_one.2 h.out)), h.nodup, h.apart, fun i b l h1 h2 => (h.map i b l h1 h2).mono hl⟩
theorem nodup_inj {l : List Nat} (h : l.Nodup) {i j : Nat} (hi : i < l.length) (hj : j < l.length) (e : l[i] = l[j]) : i = j := by
  rcases Nat.lt_trichotomy i j with q | q | q
  · exact absurd e ((List.pairwise_iff_getElem.1 h) i j hi hj q)
  · exact q
  · exact absurd e.symm ((List.pairwise_iff_getElem.1 h) j i hj hi q)
/-- maps[i] -/
theorem GridS.at' {g : PH} {bo : Nat} {T : TypeId} {maps : List (List (List UInt8))} (h : GridS g bo T maps) {i : Nat} (hi : i < maps.length) :
    ∃ b, (∀ Γ : Ctx, g ∈ Γ → Cells Γ bo i [.map (some b)]) ∧ StrM g b maps[i] ∧ b ≠ bo ∧ ∀ g' l, StrM g' b l → (∀ k, k ≠ b → g' k = g k) → GridS g' bo T (maps.set i l) := by
  obtain ⟨bs, h⟩ := h
  have hib : i < bs.length := by rw [h.len]; exact hi
  refine ⟨bs[i], fun Γ hg => ⟨g, hg, _, T, _, h.out, fun j hj => ?_⟩, h.map i _ _ (List.getElem?_eq_getElem hib) (List.getElem?_eq_getElem hi), fun e => h.apart (e ▸ List.getElem_mem hib), fun g' l hl ho => ⟨bs, ?_, ?_, h.nodup, h.apart, fun j b l' h1 h2 => ?_⟩⟩
  · have : j = 0 := by simp at hj; exact hj
    subst this
    simp [hib]
  · rw [List.length_set]; exact h.len
  · rw [ho bo (fun e => h.apart (by rw [e]; exact List.getElem_mem hib))]; exact h.out
  · by_cases e : j = i
    · subst e
      rw [List.getElem?_eq_getElem hib] at h1
      rw [List.getElem?_set_self hi] at h2
      cases h1
      cases h2
      exact hl
    · rw [List.getElem?_set_ne (fun q => e q.symm)] at h2
      have hne : b ≠ bs[i] := fun q => by
        subst q
        obtain ⟨hj, h3⟩ := List.getElem?_eq_some_iff.1 h1
        exact e (nodup_inj h.nodup hj hib h3)
      have hm := h.map j b l' h1 h2
      obtain ⟨es, c, q1, q2⟩ := hm.at'
      exact ⟨MapL.nodup hm, MapL.good hm, es, c, by rw [ho b hne]; exact q1, q2⟩
/-- the sets that have been made so far -/
structure PartS (g : PH) (bo : Nat) (T : TypeId) (m : Nat) (bs : List Nat) : Prop where
  len : bs.length ≤ m
  out : g bo = some (.cells (bs.map (fun b => Value.map (some b)) ++ List.replicate (m - bs.length) (Value.map none)).toArray T (0, 0))
  nodup : bs.Nodup
  apart : bo ∉ bs
  map : ∀ b ∈ bs, StrM g b []
theorem PartS.made (bo : Nat) (T : TypeId) (m : Nat) : PartS (one bo (.cells (zerosL [Value.map none] m).toArray T)) bo T m [] := by
  refine ⟨by simp, ?_, by simp, by simp, by simp⟩
  rw [one_self]
  congr 3
  induction m with
  | zero => rfl
  | succ m ih => simp [zerosL, List.replicate_succ, ih]
theorem PartS.full {g : PH} {bo : Nat} {T : TypeId} {m : Nat} {bs : List Nat} (h : PartS g bo T m bs) (hl : bs.length = m) : GridS g bo T (List.replicate m []) := by
  refine ⟨bs, by simpa using hl, ?_, h.nodup, h.apart, fun i b l h1 h2 => ?_⟩
  · rw [h.out, hl]; simp
  · rw [List.getElem?_replicate] at h2
    split at h2
    · cases h2
      exact h.map b (List.mem_of_getElem? h1)
    · cases h2
/-- out[i] = texts{} -/
theorem s_storeS {P : Program} {Γr : Ctx} {r : List SOper} {φ : Fr} {Γ : Ctx} {K : Fr → Ctx → Prop} {g : PH} {ix bo i k : Nat} {T : TypeId} {m : Nat} {bs : List Nat} (hg : Γ[ix]? = some g) (h : PartS g bo T m bs) (hi : i = bs.length) (him : i < m)
    (hk : ∀ g', (∀ x2 G, StrM x2 k [] → Disj x2 g' → Mem.le (lk [x2, g']) (lk [G]) → PartS G bo T m (bs ++ [k])) → vcOps P Γr r φ (Γ.set ix g') K) : storeP P Γr r φ Γ K 1 bo i (.map (some k)) := by
  subst hi
  refine ⟨ix, g, _, T, hg, h.out, by simp; omega, ?_⟩
  refine hk _ fun x2 G h1 hd hG => ?_
  obtain ⟨es, c, q1, q2⟩ := h1.at'
  have up1 : ∀ j o, x2 j = some o → G j = some o := fun j o q => lk_one.1 (hG _ _ ⟨x2, by simp, q⟩)
  have hk1 : ∀ j, upd g bo (.cells (setC ((bs.map (fun b => Value.map (some b)) ++ List.replicate (m - bs.length) (Value.map none)).toArray).toList bs.length 1 (Value.map (some k))).toArray T) j ≠ none → j ≠ k := fun j hj q => by
    subst q
    rcases hd j with q | q
    · rw [q1] at q; cases q
    · exact hj q
  have hbk : bo ≠ k := hk1 bo (by rw [upd_self]; simp)
  have up2 : ∀ j o, upd g bo (.cells (setC ((bs.map (fun b => Value.map (some b)) ++ List.replicate (m - bs.length) (Value.map none)).toArray).toList bs.length 1 (Value.map (some k))).toArray T) j = some o → G j = some o := fun j o q => lk_one.1 (hG _ _ ⟨_, by simp, q⟩)
  have hbs : ∀ b ∈ bs, b ≠ bo := fun b hb q => h.apart (q ▸ hb)
  have hmap : ∀ b ∈ bs, ∃ es c, g b = some (.map es c) := fun b hb => let ⟨es, c, q1, _⟩ := (h.map b hb).at'; ⟨es, c, q1⟩
  refine ⟨by simp; omega, ?_, ?_, ?_, fun b hb => ?_⟩
  · rw [up2 bo _ (upd_self _ _ _)]
    congr 3
    obtain ⟨d, hd⟩ : ∃ d, m - bs.length = d + 1 := ⟨m - bs.length - 1, by omega⟩
    have hd2 : m - (bs ++ [k]).length = d := by simp; omega
    rw [hd, hd2]
    have hlm : bs.length = (bs.map (fun b => Value.map (some b))).length := by simp
    simp only [List.toList_toArray, setC]
    rw [hlm, List.take_left, List.replicate_succ, List.map_append]
    simp only [cellsV, List.map_cons, List.map_nil]
    rw [List.drop_append, List.drop_eq_nil_of_le (by simp)]
    simp
  · rw [List.nodup_append]
    refine ⟨h.nodup, by simp, ?_⟩
    rintro x hx y hy rfl
    simp at hy
    subst hy
    obtain ⟨es', c', q⟩ := hmap x hx
    exact hk1 x (by rw [upd_other (hbs x hx), q]; simp) rfl
  · simp only [List.mem_append, List.mem_singleton, not_or]
    exact ⟨h.apart, hbk⟩
  · rcases List.mem_append.1 hb with hb | hb
    · have hm := h.map b hb
      obtain ⟨es', c', q3, q4⟩ := hm.at'
      exact ⟨MapL.nodup hm, MapL.good hm, es', c', up2 b _ (by rw [upd_other (hbs b hb)]; exact q3), q4⟩
    · simp at hb
      subst hb
      exact ⟨MapL.nodup h1, MapL.good h1, es, c, up1 _ _ q1, q2⟩
end Go.Proofs.Ytniobbepliknmaa.V
/- Derivations of words, and what fixpoints over them are: the plain law; no condition. -/
namespace Go.Proofs.Ytniobbepliknmaa.V
open Go
set_option linter.unusedVariables false
set_option linter.unusedSimpArgs false

/-- a list of symbols derives a word; a terminal n stands as f n -/
inductive DerF {α : Type} (f : Int → α) (rs : List Ru) : List Sy → List α → Prop
  | nil : DerF f rs [] []
  | term {l : List Sy} {w : List α} (n : Int) (h : DerF f rs l w) : DerF f rs (⟨true, n⟩ :: l) (f n :: w)
  | non {l : List Sy} {u w : List α} (r : Ru) (hr : r ∈ rs) (hu : DerF f rs r.r u) (hw : DerF f rs l w) : DerF f rs (⟨false, r.l⟩ :: l) (u ++ w)
/-- a nonterminal derives a word -/
def DerN {α : Type} (f : Int → α) (rs : List Ru) (a : Int) (w : List α) : Prop := ∃ r ∈ rs, r.l = a ∧ DerF f rs r.r w
theorem DerF.map {α : Type} (f : Int → α) {rs : List Ru} {l : List Sy} {w : List Int} (h : DerF id rs l w) : DerF f rs l (w.map f) := by
  induction h with
  | nil => exact .nil
  | term n _ ih => exact .term n ih
  | non r hr _ _ ih1 ih2 => rw [List.map_append]; exact .non r hr ih1 ih2
theorem DerF.back {α : Type} {f : Int → α} {rs : List Ru} {l : List Sy} {w : List α} (h : DerF f rs l w) : ∃ v, w = v.map f ∧ DerF id rs l v := by
  induction h with
  | nil => exact ⟨[], rfl, .nil⟩
  | term n _ ih => obtain ⟨v, rfl, h⟩ := ih; exact ⟨n :: v, rfl, .term n h⟩
  | non r hr _ _ ih1 ih2 => obtain ⟨v1, rfl, h1⟩ := ih1; obtain ⟨v2, rfl, h2⟩ := ih2; exact ⟨v1 ++ v2, by simp, .non r hr h1 h2⟩
theorem DerF.all {rs : List Ru} {p : Int → Prop} (hp : ∀ r ∈ rs, ∀ s ∈ r.r, s.t = true → p s.n) {l : List Sy} (hl : ∀ s ∈ l, s.t = true → p s.n) {w : List Int} (h : DerF id rs l w) : ∀ x ∈ w, p x := by
  induction h with
  | nil => simp
  | term n _ ih =>
    intro x hx
    rcases List.mem_cons.1 hx with hx | hx
    · rw [hx]; exact hl ⟨true, n⟩ (by simp) rfl
    · exact ih (fun s hs => hl s (by simp [hs])) x hx
  | non r hr _ _ ih1 ih2 =>
    intro x hx
    rcases List.mem_append.1 hx with hx | hx
    · exact ih1 (hp r hr) x hx
    · exact ih2 (fun s hs => hl s (by simp [hs])) x hx
theorem map_inj_on {α : Type} {f : Int → α} {p : Int → Prop} (hf : ∀ x y, p x → p y → f x = f y → x = y) : ∀ {u v : List Int}, (∀ x ∈ u, p x) → (∀ x ∈ v, p x) → u.map f = v.map f → u = v
  | [], [], _, _, _ => rfl
  | [], _ :: _, _, _, h => by simp at h
  | _ :: _, [], _, _, h => by simp at h
  | x :: u, y :: v, hu, hv, h => by
    simp only [List.map_cons, List.cons.injEq] at h
    rw [hf x y (hu x (by simp)) (hv y (by simp)) h.1, map_inj_on hf (fun z hz => hu z (by simp [hz])) (fun z hz => hv z (by simp [hz])) h.2]
theorem derN_map {α : Type} {f : Int → α} {p : Int → Prop} (hf : ∀ x y, p x → p y → f x = f y → x = y) {rs : List Ru} (hp : ∀ r ∈ rs, ∀ s ∈ r.r, s.t = true → p s.n) {a : Int} {w : List Int} (hw : ∀ x ∈ w, p x) : DerN f rs a (w.map f) ↔ DerN id rs a w := by
  constructor
  · rintro ⟨r, hr, h1, h2⟩
    obtain ⟨v, hv, hd⟩ := h2.back
    have := map_inj_on hf hw (hd.all hp (hp r hr)) hv
    subst this
    exact ⟨r, hr, h1, hd⟩
  · rintro ⟨r, hr, h1, h2⟩
    exact ⟨r, hr, h1, h2.map f⟩

/-! words put together out of sets of words -/
def SyC {α : Type} (f : Int → α) (E : Int → List α → Prop) (s : Sy) (w : List α) : Prop := if s.t = true then w = [f s.n] else E s.n w
def Cmb {α : Type} (f : Int → α) (E : Int → List α → Prop) : List Sy → List α → Prop
  | [], w => w = []
  | s :: l, w => ∃ u v, w = u ++ v ∧ SyC f E s u ∧ Cmb f E l v
theorem cmb_snoc {α : Type} {f : Int → α} {E : Int → List α → Prop} {s : Sy} : ∀ {l : List Sy} {w : List α}, Cmb f E (l ++ [s]) w ↔ ∃ u v, w = u ++ v ∧ Cmb f E l u ∧ SyC f E s v
  | [], w => by
    constructor
    · rintro ⟨u, v, rfl, h1, h2⟩
      have h2 : v = [] := h2
      subst h2
      exact ⟨[], u, by simp, rfl, h1⟩
    · rintro ⟨u, v, rfl, h1, h2⟩
      have h1 : u = [] := h1
      subst h1
      exact ⟨v, [], by simp, h2, rfl⟩
  | t :: l, w => by
    constructor
    · rintro ⟨u, v, rfl, h1, h2⟩
      obtain ⟨v1, v2, rfl, h3, h4⟩ := cmb_snoc.1 h2
      exact ⟨u ++ v1, v2, by simp, ⟨u, v1, rfl, h1, h3⟩, h4⟩
    · rintro ⟨u, v, rfl, ⟨u1, u2, rfl, h1, h2⟩, h3⟩
      exact ⟨u1, u2 ++ v, by simp, h1, cmb_snoc.2 ⟨u2, v, rfl, h2, h3⟩⟩
theorem cmb_sound {α : Type} {f : Int → α} {rs : List Ru} {E : Int → List α → Prop} (hE : ∀ a w, E a w → DerN f rs a w) : ∀ {l : List Sy} {w : List α}, Cmb f E l w → DerF f rs l w
  | [], w, h => by
    have h : w = [] := h
    subst h
    exact .nil
  | ⟨true, n⟩ :: l, w, h => by
    obtain ⟨u, v, rfl, h1, h2⟩ := h
    have h1 : u = [f n] := h1
    subst h1
    exact .term n (cmb_sound hE h2)
  | ⟨false, a⟩ :: l, w, h => by
    obtain ⟨u, v, rfl, h1, h2⟩ := h
    have h1 : E a u := by simpa [SyC] using h1
    obtain ⟨r, hr, rfl, hd⟩ := hE _ _ h1
    exact .non r hr hd (cmb_sound hE h2)
theorem cmb_all {α : Type} {f : Int → α} {rs : List Ru} {E : Int → List α → Prop} {n : Nat} (hE : ∀ r ∈ rs, ∀ w, Cmb f E r.r w → w.length ≤ n → E r.l w) {l : List Sy} {w : List α} (h : DerF f rs l w) : w.length ≤ n → Cmb f E l w := by
  induction h with
  | nil => exact fun _ => rfl
  | term m _ ih =>
    intro hn
    simp only [List.length_cons] at hn
    exact ⟨[f m], _, rfl, rfl, ih (by omega)⟩
  | non r hr _ _ ih1 ih2 =>
    intro hn
    rw [List.length_append] at hn
    refine ⟨_, _, rfl, ?_, ih2 (by omega)⟩
    simp only [SyC]
    exact hE r hr _ (ih1 (by omega)) (by omega)
theorem SyC.mono {α : Type} {f : Int → α} {E E' : Int → List α → Prop} (h : ∀ a w, E a w → E' a w) {s : Sy} {w : List α} (q : SyC f E s w) : SyC f E' s w := by
  unfold SyC at *
  split
  · rename_i e; rw [if_pos e] at q; exact q
  · rename_i e; rw [if_neg e] at q; exact h _ _ q

/-! places in a word -/
def Stp (E : Int → Nat → Nat → Prop) (w : List Int) (s : Sy) (i k : Nat) : Prop := if s.t = true then w[i]? = some s.n ∧ k = i + 1 else E s.n i k
def Rch (E : Int → Nat → Nat → Prop) (w : List Int) : List Sy → Nat → Nat → Prop
  | [], i, j => j = i
  | s :: l, i, j => ∃ k, Stp E w s i k ∧ Rch E w l k j
theorem rch_snoc {E : Int → Nat → Nat → Prop} {w : List Int} {s : Sy} : ∀ {l : List Sy} {i j : Nat}, Rch E w (l ++ [s]) i j ↔ ∃ k, Rch E w l i k ∧ Stp E w s k j
  | [], i, j => by
    constructor
    · rintro ⟨k, h1, h2⟩
      have h2 : j = k := h2
      subst h2
      exact ⟨i, rfl, h1⟩
    · rintro ⟨k, h1, h2⟩
      have h1 : k = i := h1
      subst h1
      exact ⟨j, h2, rfl⟩
  | t :: l, i, j => by
    constructor
    · rintro ⟨k, h1, h2⟩
      obtain ⟨m, h3, h4⟩ := rch_snoc.1 h2
      exact ⟨m, ⟨k, h1, h3⟩, h4⟩
    · rintro ⟨k, ⟨m, h1, h2⟩, h3⟩
      exact ⟨m, h1, rch_snoc.2 ⟨k, h2, h3⟩⟩
/-- a nonterminal derives a part that begins at i and ends at j -/
def Prt (rs : List Ru) (w : List Int) (a : Int) (i j : Nat) : Prop := ∃ u, DerN id rs a u ∧ u <+: w.drop i ∧ j = i + u.length
def PrtL (rs : List Ru) (w : List Int) (l : List Sy) (i j : Nat) : Prop := ∃ u, DerF id rs l u ∧ u <+: w.drop i ∧ j = i + u.length
theorem pre_app {w u v : List Int} {i : Nat} : u ++ v <+: w.drop i ↔ u <+: w.drop i ∧ v <+: w.drop (i + u.length) := by
  constructor
  · rintro ⟨t, h⟩
    refine ⟨⟨v ++ t, by rw [← h]; simp⟩, ⟨t, ?_⟩⟩
    have := congrArg (List.drop u.length) h
    rw [List.append_assoc, List.drop_left, List.drop_drop] at this
    exact this
  · rintro ⟨⟨t, h1⟩, ⟨t', h2⟩⟩
    refine ⟨t', ?_⟩
    rw [← List.drop_drop, ← h1, List.drop_left] at h2
    rw [List.append_assoc, h2, h1]
theorem pre_one {w : List Int} {i : Nat} {x : Int} : [x] <+: w.drop i ↔ w[i]? = some x := by
  constructor
  · rintro ⟨t, h⟩
    have := congrArg (·[0]?) h
    simpa using this.symm
  · intro h
    obtain ⟨hl, he⟩ := List.getElem?_eq_some_iff.1 h
    exact ⟨w.drop (i + 1), by rw [List.drop_eq_getElem_cons hl, he]; rfl⟩
theorem rch_sound {rs : List Ru} {w : List Int} {E : Int → Nat → Nat → Prop} (hE : ∀ a i j, E a i j → Prt rs w a i j) : ∀ {l : List Sy} {i j : Nat}, Rch E w l i j → PrtL rs w l i j
  | [], i, j, h => by
    have h : j = i := h
    subst h
    exact ⟨[], .nil, ⟨_, rfl⟩, rfl⟩
  | ⟨true, n⟩ :: l, i, j, h => by
    obtain ⟨k, h1, h2⟩ := h
    have h9 : w[i]? = some n ∧ k = i + 1 := by simpa [Stp] using h1
    obtain ⟨h9, rfl⟩ := h9
    obtain ⟨u, h3, h4, rfl⟩ := rch_sound hE h2
    exact ⟨n :: u, .term n h3, (pre_app (u := [n])).2 ⟨pre_one.2 h9, h4⟩, by simp; omega⟩
  | ⟨false, a⟩ :: l, i, j, h => by
    obtain ⟨k, h1, h2⟩ := h
    have h1 : E a i k := by simpa [Stp] using h1
    obtain ⟨u, ⟨r, hr, rfl, hd⟩, h4, rfl⟩ := hE _ _ _ h1
    obtain ⟨v, h5, h6, rfl⟩ := rch_sound hE h2
    exact ⟨u ++ v, .non r hr hd h5, pre_app.2 ⟨h4, h6⟩, by simp; omega⟩
theorem rch_all {rs : List Ru} {w : List Int} {E : Int → Nat → Nat → Prop} (hE : ∀ r ∈ rs, ∀ i j, i ≤ w.length → Rch E w r.r i j → E r.l i j) {l : List Sy} {u : List Int} (h : DerF id rs l u) : ∀ i, i ≤ w.length → u <+: w.drop i → Rch E w l i (i + u.length) := by
  induction h with
  | nil => exact fun _ _ _ => rfl
  | term m _ ih =>
    intro i hi hp
    obtain ⟨h1, h2⟩ := (pre_app (u := [m])).1 hp
    have h1 := pre_one.1 h1
    have hi' := (List.getElem?_eq_some_iff.1 h1).1
    refine ⟨i + 1, by simp [Stp, h1], ?_⟩
    have := ih (i + 1) (by omega) h2
    simpa [Nat.add_assoc, Nat.add_comm 1] using this
  | @non l u v r hr _ _ ih1 ih2 =>
    intro i hi hp
    obtain ⟨h1, h2⟩ := pre_app.1 hp
    have hl : i + u.length ≤ w.length := by
      have := h1.length_le
      rw [List.length_drop] at this
      omega
    refine ⟨i + u.length, by simpa [Stp] using hE r hr i _ hi (ih1 i hi h1), ?_⟩
    have := ih2 (i + u.length) hl h2
    simpa [Nat.add_assoc] using this
theorem prt_iff {rs : List Ru} {w : List Int} {E : Int → Nat → Nat → Prop} (hs : ∀ a i j, E a i j → Prt rs w a i j) (hE : ∀ r ∈ rs, ∀ i j, i ≤ w.length → Rch E w r.r i j → E r.l i j) (a : Int) (i j : Nat) (hi : i ≤ w.length) : E a i j ↔ Prt rs w a i j := by
  refine ⟨hs a i j, ?_⟩
  rintro ⟨u, ⟨r, hr, rfl, hd⟩, h1, rfl⟩
  exact hE r hr _ _ hi (rch_all hE hd i hi h1)
theorem prt_whole {rs : List Ru} {w : List Int} {a : Int} : Prt rs w a 0 w.length ↔ DerN id rs a w := by
  constructor
  · rintro ⟨u, h1, h2, h3⟩
    rw [List.drop_zero] at h2
    have : u = w := h2.eq_of_length (by omega)
    subst this
    exact h1
  · exact fun h => ⟨w, h, by simp, by omega⟩
theorem prt_le {rs : List Ru} {w : List Int} {a : Int} {i j : Nat} (hi : i ≤ w.length) (h : Prt rs w a i j) : i ≤ j ∧ j ≤ w.length := by
  obtain ⟨u, _, h2, rfl⟩ := h
  have := h2.length_le
  rw [List.length_drop] at this
  omega
theorem prtL_le {rs : List Ru} {w : List Int} {l : List Sy} {i j : Nat} (hi : i ≤ w.length) (h : PrtL rs w l i j) : i ≤ j ∧ j ≤ w.length := by
  obtain ⟨u, _, h2, rfl⟩ := h
  have := h2.length_le
  rw [List.length_drop] at this
  omega
theorem Stp.mono {E E' : Int → Nat → Nat → Prop} (h : ∀ a i j, E a i j → E' a i j) {w : List Int} {s : Sy} {i j : Nat} (q : Stp E w s i j) : Stp E' w s i j := by
  unfold Stp at *
  split
  · rename_i e; rw [if_pos e] at q; exact q
  · rename_i e; rw [if_neg e] at q; exact h _ _ _ q
theorem Rch.mono {E E' : Int → Nat → Nat → Prop} (h : ∀ a i j, E a i j → E' a i j) {w : List Int} : ∀ {l : List Sy} {i j : Nat}, Rch E w l i j → Rch E' w l i j
  | [], _, _, q => q
  | _ :: _, _, _, ⟨k, h1, h2⟩ => ⟨k, h1.mono h, Rch.mono h h2⟩
end Go.Proofs.Ytniobbepliknmaa.V
/- The text of parlance/parlref5.WordsOf as a statement (slots: 0 g, 1 n, 2 most, 3 g, 4 n, 5 most, 8 out, 9 i, 10 again, 11 _, 12 r, 13 at, 14 _, 15 s, 16 next, 17 x, 18 y, 19 x); no condition. -/
namespace Go.Proofs.Ytniobbepliknmaa.V
open Go
def S134_1 : Stmt :=
  Stmt.seq
  (Stmt.region [SOper.mk (some 26) none (SOp.ibin BinOp.lss (Operand.tmp 25) (Operand.tmp 24))]
    [1, 2, 3, 8, 24, 25, 26])
  (Stmt.seq (Stmt.cond (Operand.tmp 26) Stmt.skip (Stmt.exit 0))
    (Stmt.seq
      (Stmt.block 1
        (Stmt.seq
          (Stmt.region
            [SOper.mk (some 27) none (SOp.mv (Operand.tmp 25)), SOper.mk (some 9) none (SOp.mv (Operand.tmp 27))]
            [1, 2, 3, 8, 9, 24, 25])
          (Stmt.region
            [SOper.mk (some 28) none (SOp.mv (Operand.tmp 8)), SOper.mk (some 29) none (SOp.mv (Operand.tmp 9)),
              SOper.mk (some 30) none (SOp.n (Qk.mkmap 232) []),
              SOper.mk (some 31) none (SOp.idx 1 (Operand.tmp 28) (Operand.tmp 29)),
              SOper.mk none none (SOp.store 1 (Operand.tmp 31) (Operand.tmp 30))]
            [1, 2, 3, 8, 24, 25])))
      (Stmt.region
        [SOper.mk (some 32) none (SOp.ibin BinOp.add (Operand.tmp 25) (Operand.const (Value.int IntKind.i64 1))),
          SOper.mk (some 25) none (SOp.mv (Operand.tmp 32))]
        [1, 2, 3, 8, 24, 25])))
def S134_2 : Stmt :=
  Stmt.seq
  (Stmt.region
    [SOper.mk (some 59) none (SOp.mv (Operand.tmp 17)), SOper.mk (some 60) none (SOp.len true (Operand.tmp 59)),
      SOper.mk (some 61) none (SOp.mv (Operand.tmp 1)),
      SOper.mk (some 62) none (SOp.ibin BinOp.lss (Operand.tmp 60) (Operand.tmp 61))]
    [1, 2, 3, 8, 10, 12, 15, 16, 17, 35, 36, 37, 44, 45, 46, 52, 62])
  (Stmt.cond (Operand.tmp 62)
    (Stmt.region
      [SOper.mk (some 63) none (SOp.mv (Operand.tmp 16)), SOper.mk (some 64) none (SOp.mv (Operand.tmp 17)),
        SOper.mk (some 65) none (SOp.fld 1 (Operand.tmp 15)),
        SOper.mk (some 66) none (SOp.load false 1 (Operand.tmp 65)),
        SOper.mk (some 67) none (SOp.conv IntKind.u8 (Operand.tmp 66)),
        SOper.mk (some 68) none (SOp.buildS 5 1 [Value.int IntKind.u8 0] [(0, 1, Operand.tmp 67)]),
        SOper.mk (some 69) none (SOp.q (Qk.cnv 233 9) [Operand.tmp 68]),
        SOper.mk (some 70) none (SOp.fn Fk.cat [Operand.tmp 64, Operand.tmp 69]),
        SOper.mk none none (SOp.a (Qk.upd 232) [Operand.tmp 63, Operand.tmp 70, Operand.const (Value.bool true)])]
      [1, 2, 3, 8, 10, 12, 15, 16, 35, 36, 37, 44, 45, 46, 52])
    Stmt.skip)
def S134_3 : Stmt :=
  Stmt.exit 9
def S134_4 : Stmt :=
  Stmt.seq
  (Stmt.region
    [SOper.mk (some 77) none (SOp.a (Qk.next false) [Operand.tmp 76]),
      SOper.mk (some 78) none (SOp.extract 0 (Operand.tmp 77))]
    [1, 2, 3, 8, 10, 12, 15, 16, 17, 35, 36, 37, 44, 45, 46, 52, 76, 78])
  (Stmt.seq (Stmt.cond (Operand.tmp 78) Stmt.skip (Stmt.exit 10))
    (Stmt.block 11
      (Stmt.seq
        (Stmt.region
          [SOper.mk (some 79) none (SOp.q Qk.entry [Operand.tmp 76]),
            SOper.mk (some 80) none (SOp.extract 0 (Operand.tmp 79)), SOper.mk (some 18) none (SOp.mv (Operand.tmp 80))]
          [1, 2, 3, 8, 10, 12, 15, 16, 17, 18, 35, 36, 37, 44, 45, 46, 52, 76])
        (Stmt.seq
          (Stmt.region
            [SOper.mk (some 81) none (SOp.mv (Operand.tmp 17)), SOper.mk (some 82) none (SOp.len true (Operand.tmp 81)),
              SOper.mk (some 83) none (SOp.mv (Operand.tmp 18)),
              SOper.mk (some 84) none (SOp.len true (Operand.tmp 83)),
              SOper.mk (some 85) none (SOp.ibin BinOp.add (Operand.tmp 82) (Operand.tmp 84)),
              SOper.mk (some 86) none (SOp.mv (Operand.tmp 1)),
              SOper.mk (some 87) none (SOp.ibin BinOp.leq (Operand.tmp 85) (Operand.tmp 86))]
            [1, 2, 3, 8, 10, 12, 15, 16, 17, 18, 35, 36, 37, 44, 45, 46, 52, 76, 87])
          (Stmt.cond (Operand.tmp 87)
            (Stmt.region
              [SOper.mk (some 88) none (SOp.mv (Operand.tmp 16)), SOper.mk (some 89) none (SOp.mv (Operand.tmp 17)),
                SOper.mk (some 90) none (SOp.mv (Operand.tmp 18)),
                SOper.mk (some 91) none (SOp.fn Fk.cat [Operand.tmp 89, Operand.tmp 90]),
                SOper.mk none none
                  (SOp.a (Qk.upd 232) [Operand.tmp 88, Operand.tmp 91, Operand.const (Value.bool true)])]
              [1, 2, 3, 8, 10, 12, 15, 16, 17, 35, 36, 37, 44, 45, 46, 52, 76])
            Stmt.skip)))))
def S134_5 : Stmt :=
  Stmt.seq
  (Stmt.region
    [SOper.mk (some 53) none (SOp.a (Qk.next false) [Operand.tmp 52]),
      SOper.mk (some 54) none (SOp.extract 0 (Operand.tmp 53))]
    [1, 2, 3, 8, 10, 12, 15, 16, 35, 36, 37, 44, 45, 46, 52, 54])
  (Stmt.seq (Stmt.cond (Operand.tmp 54) Stmt.skip (Stmt.exit 8))
    (Stmt.block 9
      (Stmt.seq
        (Stmt.region
          [SOper.mk (some 55) none (SOp.q Qk.entry [Operand.tmp 52]),
            SOper.mk (some 56) none (SOp.extract 0 (Operand.tmp 55)), SOper.mk (some 17) none (SOp.mv (Operand.tmp 56))]
          [1, 2, 3, 8, 10, 12, 15, 16, 17, 35, 36, 37, 44, 45, 46, 52])
        (Stmt.seq
          (Stmt.seq
            (Stmt.region
              [SOper.mk (some 57) none (SOp.fld 0 (Operand.tmp 15)),
                SOper.mk (some 58) none (SOp.load false 1 (Operand.tmp 57))]
              [1, 2, 3, 8, 10, 12, 15, 16, 17, 35, 36, 37, 44, 45, 46, 52, 58])
            (Stmt.cond (Operand.tmp 58)
              (Stmt.join S134_2 S134_3 [] [1, 2, 3, 8, 10, 12, 15, 16, 35, 36, 37, 44, 45, 46, 52]) Stmt.skip))
          (Stmt.seq
            (Stmt.region
              [SOper.mk (some 71) none (SOp.mv (Operand.tmp 8)), SOper.mk (some 72) none (SOp.fld 1 (Operand.tmp 15)),
                SOper.mk (some 73) none (SOp.load false 1 (Operand.tmp 72)),
                SOper.mk (some 74) none (SOp.idx 1 (Operand.tmp 71) (Operand.tmp 73)),
                SOper.mk (some 75) none (SOp.load false 1 (Operand.tmp 74)),
                SOper.mk (some 76) none (SOp.n (Qk.rng 118) [Operand.tmp 75])]
              [1, 2, 3, 8, 10, 12, 15, 16, 17, 35, 36, 37, 44, 45, 46, 52, 76])
            (Stmt.block 10 (Stmt.loop S134_4 [] [1, 2, 3, 8, 10, 12, 15, 16, 17, 35, 36, 37, 44, 45, 46, 52, 76])))))))
def S134_6 : Stmt :=
  Stmt.seq
  (Stmt.region [SOper.mk (some 47) none (SOp.ibin BinOp.lss (Operand.tmp 46) (Operand.tmp 45))]
    [1, 2, 3, 8, 10, 12, 13, 35, 36, 37, 44, 45, 46, 47])
  (Stmt.seq (Stmt.cond (Operand.tmp 47) Stmt.skip (Stmt.exit 6))
    (Stmt.seq
      (Stmt.block 7
        (Stmt.seq
          (Stmt.region
            [SOper.mk (some 48) none (SOp.idx 2 (Operand.tmp 44) (Operand.tmp 46)),
              SOper.mk (some 49) none (SOp.load true 2 (Operand.tmp 48)),
              SOper.mk (some 15) none
                (SOp.alloc true 39 (Value.agg (Array.mk [Value.bool false, Value.int IntKind.i64 0]))),
              SOper.mk none none (SOp.store 2 (Operand.tmp 15) (Operand.tmp 49))]
            [1, 2, 3, 8, 10, 12, 13, 15, 35, 36, 37, 44, 45, 46])
          (Stmt.seq
            (Stmt.region
              [SOper.mk (some 50) none (SOp.n (Qk.mkmap 232) []), SOper.mk (some 16) none (SOp.mv (Operand.tmp 50))]
              [1, 2, 3, 8, 10, 12, 13, 15, 16, 35, 36, 37, 44, 45, 46])
            (Stmt.seq
              (Stmt.seq
                (Stmt.region
                  [SOper.mk (some 51) none (SOp.mv (Operand.tmp 13)),
                    SOper.mk (some 52) none (SOp.n (Qk.rng 232) [Operand.tmp 51])]
                  [1, 2, 3, 8, 10, 12, 15, 16, 35, 36, 37, 44, 45, 46, 52])
                (Stmt.block 8 (Stmt.loop S134_5 [] [1, 2, 3, 8, 10, 12, 15, 16, 35, 36, 37, 44, 45, 46, 52])))
              (Stmt.region
                [SOper.mk (some 92) none (SOp.mv (Operand.tmp 16)), SOper.mk (some 13) none (SOp.mv (Operand.tmp 92))]
                [1, 2, 3, 8, 10, 12, 13, 35, 36, 37, 44, 45, 46])))))
      (Stmt.region
        [SOper.mk (some 93) none (SOp.ibin BinOp.add (Operand.tmp 46) (Operand.const (Value.int IntKind.i64 1))),
          SOper.mk (some 46) none (SOp.mv (Operand.tmp 93))]
        [1, 2, 3, 8, 10, 12, 13, 35, 36, 37, 44, 45, 46])))
def S134_7 : Stmt :=
  Stmt.seq
  (Stmt.region
    [SOper.mk (some 96) none (SOp.a (Qk.next false) [Operand.tmp 95]),
      SOper.mk (some 97) none (SOp.extract 0 (Operand.tmp 96))]
    [1, 2, 3, 8, 10, 12, 35, 36, 37, 95, 97])
  (Stmt.seq (Stmt.cond (Operand.tmp 97) Stmt.skip (Stmt.exit 12))
    (Stmt.block 13
      (Stmt.seq
        (Stmt.region
          [SOper.mk (some 98) none (SOp.q Qk.entry [Operand.tmp 95]),
            SOper.mk (some 99) none (SOp.extract 0 (Operand.tmp 98)), SOper.mk (some 19) none (SOp.mv (Operand.tmp 99))]
          [1, 2, 3, 8, 10, 12, 19, 35, 36, 37, 95])
        (Stmt.seq
          (Stmt.region
            [SOper.mk (some 100) none (SOp.mv (Operand.tmp 8)), SOper.mk (some 101) none (SOp.fld 0 (Operand.tmp 12)),
              SOper.mk (some 102) none (SOp.load false 1 (Operand.tmp 101)),
              SOper.mk (some 103) none (SOp.idx 1 (Operand.tmp 100) (Operand.tmp 102)),
              SOper.mk (some 104) none (SOp.load false 1 (Operand.tmp 103)),
              SOper.mk (some 105) none (SOp.mv (Operand.tmp 19)),
              SOper.mk (some 106) none (SOp.q (Qk.look 118 false) [Operand.tmp 104, Operand.tmp 105]),
              SOper.mk (some 107) none (SOp.un UnOp.not (Operand.tmp 106))]
            [1, 2, 3, 8, 10, 12, 19, 35, 36, 37, 95, 107])
          (Stmt.cond (Operand.tmp 107)
            (Stmt.region
              [SOper.mk (some 108) none (SOp.mv (Operand.tmp 8)), SOper.mk (some 109) none (SOp.fld 0 (Operand.tmp 12)),
                SOper.mk (some 110) none (SOp.load false 1 (Operand.tmp 109)),
                SOper.mk (some 111) none (SOp.idx 1 (Operand.tmp 108) (Operand.tmp 110)),
                SOper.mk (some 112) none (SOp.load false 1 (Operand.tmp 111)),
                SOper.mk (some 113) none (SOp.mv (Operand.tmp 19)),
                SOper.mk (some 114) none (SOp.a (Qk.ment 118) [Operand.tmp 112, Operand.tmp 113]),
                SOper.mk (some 115) none (SOp.extract 1 (Operand.tmp 114)),
                SOper.mk none none
                  (SOp.a (Qk.estore 118) [Operand.tmp 112, Operand.tmp 115, Operand.const (Value.bool true)]),
                SOper.mk (some 10) none (SOp.mv (Operand.const (Value.bool true)))]
              [1, 2, 3, 8, 10, 12, 35, 36, 37, 95])
            Stmt.skip)))))
def S134_8 : Stmt :=
  Stmt.seq
  (Stmt.region [SOper.mk (some 38) none (SOp.ibin BinOp.lss (Operand.tmp 37) (Operand.tmp 36))]
    [1, 2, 3, 8, 10, 35, 36, 37, 38])
  (Stmt.seq (Stmt.cond (Operand.tmp 38) Stmt.skip (Stmt.exit 4))
    (Stmt.seq
      (Stmt.block 5
        (Stmt.seq
          (Stmt.region
            [SOper.mk (some 39) none (SOp.idx 2 (Operand.tmp 35) (Operand.tmp 37)),
              SOper.mk (some 40) none (SOp.load true 2 (Operand.tmp 39)),
              SOper.mk (some 12) none
                (SOp.alloc true 37 (Value.agg (Array.mk [Value.int IntKind.i64 0, Value.slice none 0 0]))),
              SOper.mk none none (SOp.store 2 (Operand.tmp 12) (Operand.tmp 40))]
            [1, 2, 3, 8, 10, 12, 35, 36, 37])
          (Stmt.seq
            (Stmt.region
              [SOper.mk (some 41) none (SOp.n (Qk.mkmap 232) []),
                SOper.mk none none
                  (SOp.a (Qk.upd 232)
                    [Operand.tmp 41, Operand.const (Value.string (ByteArray.mk (Array.mk []))),
                      Operand.const (Value.bool true)]),
                SOper.mk (some 42) none (SOp.mv (Operand.tmp 41)), SOper.mk (some 13) none (SOp.mv (Operand.tmp 42))]
              [1, 2, 3, 8, 10, 12, 13, 35, 36, 37])
            (Stmt.seq
              (Stmt.seq
                (Stmt.region
                  [SOper.mk (some 43) none (SOp.fld 1 (Operand.tmp 12)),
                    SOper.mk (some 44) none (SOp.load false 1 (Operand.tmp 43)),
                    SOper.mk (some 45) none (SOp.len false (Operand.tmp 44)),
                    SOper.mk (some 46) none (SOp.mv (Operand.const (Value.int IntKind.i64 0)))]
                  [1, 2, 3, 8, 10, 12, 13, 35, 36, 37, 44, 45, 46])
                (Stmt.block 6 (Stmt.loop S134_6 [13, 46] [1, 2, 3, 8, 10, 12, 35, 36, 37, 44, 45])))
              (Stmt.seq
                (Stmt.seq
                  (Stmt.region
                    [SOper.mk (some 94) none (SOp.mv (Operand.tmp 13)),
                      SOper.mk (some 95) none (SOp.n (Qk.rng 232) [Operand.tmp 94])]
                    [1, 2, 3, 8, 10, 12, 35, 36, 37, 95])
                  (Stmt.block 12 (Stmt.loop S134_7 [10] [1, 2, 3, 8, 12, 35, 36, 37, 95])))
                (Stmt.seq
                  (Stmt.region
                    [SOper.mk (some 116) none (SOp.mv (Operand.tmp 8)),
                      SOper.mk (some 117) none (SOp.fld 0 (Operand.tmp 12)),
                      SOper.mk (some 118) none (SOp.load false 1 (Operand.tmp 117)),
                      SOper.mk (some 119) none (SOp.idx 1 (Operand.tmp 116) (Operand.tmp 118)),
                      SOper.mk (some 120) none (SOp.load false 1 (Operand.tmp 119)),
                      SOper.mk (some 121) none (SOp.q (Qk.bi 4 [118]) [Operand.tmp 120]),
                      SOper.mk (some 122) none (SOp.mv (Operand.tmp 2)),
                      SOper.mk (some 123) none (SOp.ibin BinOp.gtr (Operand.tmp 121) (Operand.tmp 122))]
                    [1, 2, 3, 8, 10, 35, 36, 37, 123])
                  (Stmt.cond (Operand.tmp 123)
                    (Stmt.seq
                      (Stmt.region
                        [SOper.mk (some 6) none (SOp.mv (Operand.const (Value.slice none 0 0))),
                          SOper.mk (some 7) none (SOp.mv (Operand.const (Value.bool false)))]
                        [6, 7])
                      Stmt.ret)
                    Stmt.skip)))))))
      (Stmt.region
        [SOper.mk (some 124) none (SOp.ibin BinOp.add (Operand.tmp 37) (Operand.const (Value.int IntKind.i64 1))),
          SOper.mk (some 37) none (SOp.mv (Operand.tmp 124))]
        [1, 2, 3, 8, 10, 35, 36, 37])))
def S134_9 : Stmt :=
  Stmt.seq
  (Stmt.seq (Stmt.region [SOper.mk (some 33) none (SOp.mv (Operand.tmp 10))] [1, 2, 3, 8, 33])
    (Stmt.cond (Operand.tmp 33) Stmt.skip (Stmt.exit 2)))
  (Stmt.block 3
    (Stmt.seq (Stmt.region [SOper.mk (some 10) none (SOp.mv (Operand.const (Value.bool false)))] [1, 2, 3, 8, 10])
      (Stmt.seq
        (Stmt.region
          [SOper.mk (some 34) none (SOp.fld 1 (Operand.tmp 3)),
            SOper.mk (some 35) none (SOp.load false 1 (Operand.tmp 34)),
            SOper.mk (some 36) none (SOp.len false (Operand.tmp 35)),
            SOper.mk (some 37) none (SOp.mv (Operand.const (Value.int IntKind.i64 0)))]
          [1, 2, 3, 8, 10, 35, 36, 37])
        (Stmt.block 4 (Stmt.loop S134_8 [10, 37] [1, 2, 3, 8, 35, 36])))))
def S134_0 : Stmt :=
  Stmt.seq
  (Stmt.region
    [SOper.mk (some 3) none (SOp.box true 177 (Operand.tmp 0)),
      SOper.mk (some 6) none (SOp.mv (Operand.const (Value.slice none 0 0))),
      SOper.mk (some 7) none (SOp.mv (Operand.const (Value.bool false)))]
    [1, 2, 3])
  (Stmt.seq
    (Stmt.region
      [SOper.mk (some 20) none (SOp.fld 0 (Operand.tmp 3)), SOper.mk (some 21) none (SOp.load false 1 (Operand.tmp 20)),
        SOper.mk (some 22) none (SOp.mk 118 1 8 (Value.map none) (Operand.tmp 21) (Operand.tmp 21)),
        SOper.mk (some 8) none (SOp.mv (Operand.tmp 22))]
      [1, 2, 3, 8])
    (Stmt.seq
      (Stmt.seq
        (Stmt.region
          [SOper.mk (some 23) none (SOp.mv (Operand.tmp 8)), SOper.mk (some 24) none (SOp.len false (Operand.tmp 23)),
            SOper.mk (some 25) none (SOp.mv (Operand.const (Value.int IntKind.i64 0)))]
          [1, 2, 3, 8, 24, 25])
        (Stmt.block 0 (Stmt.loop S134_1 [25] [1, 2, 3, 8, 24])))
      (Stmt.seq
        (Stmt.seq (Stmt.region [SOper.mk (some 10) none (SOp.mv (Operand.const (Value.bool true)))] [1, 2, 3, 8, 10])
          (Stmt.block 2 (Stmt.loop S134_9 [10] [1, 2, 3, 8])))
        (Stmt.seq
          (Stmt.region
            [SOper.mk (some 125) none (SOp.mv (Operand.tmp 8)), SOper.mk (some 6) none (SOp.mv (Operand.tmp 125)),
              SOper.mk (some 7) none (SOp.mv (Operand.const (Value.bool true)))]
            [6, 7])
          Stmt.ret))))
def S134 : FnS := ⟨126, [(6, none), (7, none)], S134_0⟩
theorem tr134 : trFn Try.prog 134 [3, 12, 15] [[1, 2, 3], [1, 2, 3, 8], [1, 2, 3, 8, 24, 25], [25], [1, 2, 3, 8, 24], [1, 2, 3, 8, 24, 25, 26], [1, 2, 3, 8, 9, 24, 25], [1, 2, 3, 8, 24, 25], [1, 2, 3, 8, 24, 25], [1, 2, 3, 8, 10], [10], [1, 2, 3, 8], [1, 2, 3, 8, 33], [1, 2, 3, 8, 10], [1, 2, 3, 8, 10, 35, 36, 37], [10, 37], [1, 2, 3, 8, 35, 36], [1, 2, 3, 8, 10, 35, 36, 37, 38], [1, 2, 3, 8, 10, 12, 35, 36, 37], [1, 2, 3, 8, 10, 12, 13, 35, 36, 37], [1, 2, 3, 8, 10, 12, 13, 35, 36, 37, 44, 45, 46], [13, 46], [1, 2, 3, 8, 10, 12, 35, 36, 37, 44, 45], [1, 2, 3, 8, 10, 12, 13, 35, 36, 37, 44, 45, 46, 47], [1, 2, 3, 8, 10, 12, 13, 15, 35, 36, 37, 44, 45, 46], [1, 2, 3, 8, 10, 12, 13, 15, 16, 35, 36, 37, 44, 45, 46], [1, 2, 3, 8, 10, 12, 15, 16, 35, 36, 37, 44, 45, 46, 52], [], [1, 2, 3, 8, 10, 12, 15, 16, 35, 36, 37, 44, 45, 46, 52], [1, 2, 3, 8, 10, 12, 15, 16, 35, 36, 37, 44, 45, 46, 52, 54], [1, 2, 3, 8, 10, 12, 15, 16, 17, 35, 36, 37, 44, 45, 46, 52], [1, 2, 3, 8, 10, 12, 15, 16, 17, 35, 36, 37, 44, 45, 46, 52, 58], [], [1, 2, 3, 8, 10, 12, 15, 16, 35, 36, 37, 44, 45, 46, 52], [1, 2, 3, 8, 10, 12, 15, 16, 17, 35, 36, 37, 44, 45, 46, 52, 62], [1, 2, 3, 8, 10, 12, 15, 16, 35, 36, 37, 44, 45, 46, 52], [1, 2, 3, 8, 10, 12, 15, 16, 17, 35, 36, 37, 44, 45, 46, 52, 76], [], [1, 2, 3, 8, 10, 12, 15, 16, 17, 35, 36, 37, 44, 45, 46, 52, 76], [1, 2, 3, 8, 10, 12, 15, 16, 17, 35, 36, 37, 44, 45, 46, 52, 76, 78], [1, 2, 3, 8, 10, 12, 15, 16, 17, 18, 35, 36, 37, 44, 45, 46, 52, 76], [1, 2, 3, 8, 10, 12, 15, 16, 17, 18, 35, 36, 37, 44, 45, 46, 52, 76, 87], [1, 2, 3, 8, 10, 12, 15, 16, 17, 35, 36, 37, 44, 45, 46, 52, 76], [1, 2, 3, 8, 10, 12, 13, 35, 36, 37, 44, 45, 46], [1, 2, 3, 8, 10, 12, 13, 35, 36, 37, 44, 45, 46], [1, 2, 3, 8, 10, 12, 35, 36, 37, 95], [10], [1, 2, 3, 8, 12, 35, 36, 37, 95], [1, 2, 3, 8, 10, 12, 35, 36, 37, 95, 97], [1, 2, 3, 8, 10, 12, 19, 35, 36, 37, 95], [1, 2, 3, 8, 10, 12, 19, 35, 36, 37, 95, 107], [1, 2, 3, 8, 10, 12, 35, 36, 37, 95], [1, 2, 3, 8, 10, 35, 36, 37, 123], [6, 7], [1, 2, 3, 8, 10, 35, 36, 37], [6, 7]] = some S134 := by kernel_rfl
end Go.Proofs.Ytniobbepliknmaa.V
/- The words of a grammar by sets of texts: parlref5.WordsOf; no condition. -/
namespace Go.Proofs.Ytniobbepliknmaa.V
open Go
set_option linter.unusedVariables false
set_option linter.unusedSimpArgs false
attribute [local go_sem] e_seq e_region e_quiet e_join e_loop e_cond e_block e_exit e_ret e_skip e_fin e_kseq e_snrm e_sret e_sex e_bnrm e_bret e_bex e_rnrm e_rret e_res e_condC e_nil e_g e_mv g_mv e_pick g_pick pickC_eq e_ibin g_ibin ibinC_eq e_sbin g_sbin e_beq g_beq beqC_eq e_nilq g_nilq nilqC_sl nilqC_pt nilqC_mp e_un g_un unC_not unC_neg e_conv g_conv convC_eq e_fld g_fld fldC_ref fldC_ptr e_nilCheck g_nilCheck nilCheckC_ref nilCheckC_ptr nilCheckC_fun e_field g_field fieldC_eq e_len g_len lenC_sl lenC_str e_extract g_extract extractC_eq e_mkFunc e_build g_build e_idiv g_idiv idivC_eq e_ishift g_ishift ishiftC_eq e_idx g_idx e_idxA g_idxA e_load g_load loadC_ref loadC_ptr loadB_eq e_slc g_slc e_box boxC_loc boxC_esc e_alloc allocC_loc allocC_esc e_buildS e_store storeC_ref storeC_ptr storeB_eq e_append e_appz e_mk mkC_eq e_call callC_eq e_fn g_fn fnC_eq fnV_min' fnV_max' fnV_rune' e_q g_q e_a e_n g_call g_box g_alloc g_buildS g_store g_append g_mk g_a g_n g_dead e_dead e_callK e_drawn e_tree e_finJ e_tk e_tfin e_tno e_nbt_q e_nbt_qn e_nbt_a e_nbt_an e_nbt_fin e_early_nil e_early_t e_early_f e_nob_nil e_nob_none e_nob_some isBox_dead isBox_v isBox_ref e_dnil e_dk e_ek e_finB vcOps_vc1 e_dcons e_tq e_ekt e_tearly e_talt e_dearly look_nil look_c proj_nil proj_c looks_nil looks_c zip_nil zip_c val_tmp val_const val_func slv_v slv_box slv_ref slot_tmp slot_const slot_func slotL_v slotL_box slotL_ref put_some put_none updBox_c boxSet_box gd_eq slotVals_nil slotVals_c slotVals_b boxV_box boxOn_box slotsOn_nil slotsOn_c slotsOn_b resV_one resV_two vals_nil vals_c allOn_nil allOn_c partOn_nil partOn_c partVals_nil partVals_c fits_nil fits_c fillL_nil fillL_c mkv_one mkv_agg cellsV_agg cellsV_int cellsV_bool cellsV_slice cellsV_string cellsV_pointer cellsV_func cellsV_nilf cellsV_map one'_nil one'_c oc_int oc_bool oc_slice oc_string oc_pointer oc_func oc_nilf oc_map setC_eq iv_add iv_sub iv_mul iv_eql iv_neq iv_lss iv_leq iv_gtr iv_geq iok_add iok_sub iok_mul iok_eql iok_neq iok_lss iok_leq iok_gtr iok_geq pickV_bool args0_nil args0_c bnd_none bnd_some imp_bt imp_bf imp_ebt imp_ebf imp_eb1 imp_np imp_pp beq_tt beq_tf beq_ft beq_ff cond_or cond_and e_round e_meet Int.le_refl Int.toNat_zero decide_true decide_false Bool.or_false Bool.false_or Bool.true_or Bool.or_true Bool.and_false Bool.false_and Bool.bne_false Bool.bne_true beq_iff_eq Int.cast_ofNat_Int not_false_eq_true not_true_eq_false false_and and_false false_implies true_implies true_and and_true Bool.true_and Bool.and_true Bool.not_true Bool.not_false forall_const implies_true List.take_zero List.drop_zero List.take_succ_cons List.drop_succ_cons List.take_nil List.drop_nil List.length_cons List.length_nil List.nil_append List.append_nil List.cons_append Int.toNat_natCast decide_eq_true_eq decide_eq_false_iff_not cond_true cond_false and_self List.getElem?_cons_zero List.getElem?_cons_succ List.set_cons_zero List.set_cons_succ Option.some.injEq exists_eq_left' Nat.zero_add Nat.add_zero Nat.mul_one imp_self true_or or_true or_false false_or Bool.or_eq_true Bool.or_eq_false_iff Bool.and_eq_true Bool.and_eq_false_iff Bool.not_eq_true' Bool.not_eq_false'

def u8 (x : Int) : UInt8 := UInt8.ofNat x.toNat
def Em (maps : List (List (List UInt8))) (a : Int) (x : List UInt8) : Prop := 0 ≤ a ∧ ∃ l, maps[a.toNat]? = some l ∧ x ∈ l
def tot (maps : List (List (List UInt8))) : Nat := (maps.map List.length).sum
theorem tot_le {maps : List (List (List UInt8))} {m : Nat} (h : ∀ l ∈ maps, l.length ≤ m) : tot maps ≤ maps.length * m := by
  induction maps with
  | nil => simp [tot]
  | cons l maps ih =>
    have h1 := h l (by simp)
    have h2 := ih fun x hx => h x (by simp [hx])
    simp only [tot, List.map_cons, List.sum_cons, List.length_cons, Nat.add_mul, Nat.one_mul] at *
    omega
theorem tot_set : ∀ {maps : List (List (List UInt8))} {i : Nat} (hi : i < maps.length) (l : List (List UInt8)), tot (maps.set i l) + maps[i].length = tot maps + l.length
  | [], i, hi, _ => by simp at hi
  | m :: maps, 0, _, l => by simp [tot]; omega
  | m :: maps, i + 1, hi, l => by
    have := tot_set (maps := maps) (i := i) (by simpa using hi) l
    simp only [tot, List.set_cons_succ, List.map_cons, List.sum_cons, List.getElem_cons_succ] at *
    omega
theorem em_set {maps : List (List (List UInt8))} {i : Nat} (hi : i < maps.length) {l : List (List UInt8)} {a : Int} {x : List UInt8} : Em (maps.set i l) a x ↔ (a = i ∧ x ∈ l) ∨ (a ≠ i ∧ Em maps a x) := by
  unfold Em
  constructor
  · rintro ⟨h0, l', h1, h2⟩
    by_cases e : a = i
    · left
      have : a.toNat = i := by omega
      rw [this, List.getElem?_set_self hi] at h1
      cases h1
      exact ⟨e, h2⟩
    · right
      rw [List.getElem?_set_ne (by omega)] at h1
      exact ⟨e, h0, l', h1, h2⟩
  · rintro (⟨rfl, h⟩ | ⟨e, h0, l', h1, h2⟩)
    · exact ⟨by omega, l, by simp [hi], h⟩
    · exact ⟨h0, l', by rw [List.getElem?_set_ne (by omega)]; exact h1, h2⟩
theorem em_at {maps : List (List (List UInt8))} {i : Nat} (hi : i < maps.length) {x : List UInt8} : Em maps i x ↔ x ∈ maps[i] := by
  unfold Em
  simp [List.getElem?_eq_getElem hi]
theorem em_none {N : Nat} {a : Int} {x : List UInt8} : ¬ Em (List.replicate N []) a x := by
  rintro ⟨_, l, h1, h2⟩
  rw [List.getElem?_replicate] at h1
  split at h1
  · cases h1; simp at h2
  · cases h1
theorem em_at' {maps : List (List (List UInt8))} {a : Int} (h0 : 0 ≤ a) (hi : a.toNat < maps.length) {x : List UInt8} : Em maps a x ↔ x ∈ maps[a.toNat] := by
  unfold Em
  simp [List.getElem?_eq_getElem hi, h0]
structure RsOk (rs : List Ru) (N : Nat) : Prop where
  len : rs.length ≤ 100000
  left : ∀ r ∈ rs, 0 ≤ r.l ∧ r.l < N
  right : ∀ r ∈ rs, r.r.length ≤ 1000
  sym : ∀ r ∈ rs, ∀ s ∈ r.r, 0 ≤ s.n ∧ (s.t = true → s.n < 256) ∧ (s.t = false → s.n < N)
def WClosed (E : Int → List UInt8 → Prop) (n : Nat) (rs : List Ru) : Prop := ∀ r ∈ rs, ∀ x, Cmb u8 E r.r x → x.length ≤ n → E r.l x
/-- what the words of all nonterminals are -/
def WordsS (rs : List Ru) (N n : Nat) (maps : List (List (List UInt8))) : Prop := maps.length = N ∧ ∀ (a : Nat) x, a < N → (Em maps a x ↔ DerN u8 rs a x ∧ x.length ≤ n)
def ManyW (rs : List Ru) (n most : Nat) : Prop := ∃ a l, List.Nodup l ∧ most < l.length ∧ ∀ x ∈ l, DerN u8 rs a x ∧ x.length ≤ n
/-- every word of next is an old one with a word of y behind it -/
def NxOk (maps : List (List (List UInt8))) (y : Sy) (n : Nat) (la ln : List (List UInt8)) : Prop := ∀ x ∈ ln, ∃ u v, u ∈ la ∧ x = u ++ v ∧ SyC u8 (Em maps) y v ∧ x.length ≤ n
def XI (maps : List (List (List UInt8))) (y : Sy) (n : Nat) (la : List (List UInt8)) (it ba bn : Nat) (ga g : PH) (f : Nat) (vs : List Sl) (Γ : Ctx) : Prop :=
  vs = [] ∧ ∃ (gi gn : PH) (left : List (List UInt8 × Bool)) (ln : List (List UInt8)), Γ = [gi, gn, ga, g] ∧ f = left.length + 1 ∧ ItM (lk [ga]) gi it ba strB Value.bool left ∧ (∀ p ∈ left, p.1 ∈ la ∧ p.2 = true) ∧ StrM gn bn ln ∧
    NxOk maps y n la ln ∧ (∀ u ∈ la, (u, true) ∉ left → ∀ v, SyC u8 (Em maps) y v → (u ++ v).length ≤ n → u ++ v ∈ ln)
def YI (maps : List (List (List UInt8))) (y : Sy) (n : Nat) (la ln lm : List (List UInt8)) (u : List UInt8) (jt bm bn : Nat) (gi ga g : PH) (f : Nat) (vs : List Sl) (Γ : Ctx) : Prop :=
  vs = [] ∧ ∃ (gj gn : PH) (left : List (List UInt8 × Bool)) (ln2 : List (List UInt8)), Γ = [gj, gi, gn, ga, g] ∧ f = left.length + 1 ∧ ItM (lk [g]) gj jt bm strB Value.bool left ∧ (∀ p ∈ left, p.1 ∈ lm ∧ p.2 = true) ∧ StrM gn bn ln2 ∧
    NxOk maps y n la ln2 ∧ (∀ x ∈ ln, x ∈ ln2) ∧ (∀ v ∈ lm, (v, true) ∉ left → (u ++ v).length ≤ n → u ++ v ∈ ln2)
/-- what is found is put in -/
def ZI (maps : List (List (List UInt8))) (rl : Nat) (la l0 : List (List UInt8)) (again : Bool) (it ba bo : Nat) (ga : PH) (f : Nat) (vs : List Sl) (Γ : Ctx) : Prop :=
  ∃ (again3 : Bool) (gi g3 : PH) (left : List (List UInt8 × Bool)) (l3 : List (List UInt8)), vs = [.v true (.bool again3)] ∧ Γ = [gi, ga, g3] ∧ f = left.length + 1 ∧ ItM (lk [ga]) gi it ba strB Value.bool left ∧ (∀ p ∈ left, p.1 ∈ la ∧ p.2 = true) ∧ GridS g3 bo 118 (maps.set rl l3) ∧
    (∀ x ∈ l0, x ∈ l3) ∧ (∀ x ∈ l3, x ∈ l0 ∨ x ∈ la) ∧ l0.length ≤ l3.length ∧ (again3 = true → again = true ∨ l0.length < l3.length) ∧ (again3 = false → again = false ∧ l3 = l0) ∧ (∀ x ∈ la, (x, true) ∉ left → x ∈ l3)
set_option maxHeartbeats 8000000 in
theorem ref_wordsOf {Γr : Ctx} {A : Option Addr} {c : Nat} {rs : List Ru} (hx : SlOk (lk Γr) A c rs) {N n most : Nat} (V : RsOk rs N) (hN : N ≤ 1000) (hn : n ≤ 900) (hm : most ≤ 100000) :
    Ret Try.prog 134 [.agg #[.int .i64 N, .slice A rs.length c], .int .i64 n, .int .i64 most] Γr [] (fun v Γ =>
      (Γ = [] ∧ v = .tuple #[.slice none 0 0, .bool false] ∧ ManyW rs n most) ∨ (∃ g bo maps, Γ = [g] ∧ v = .tuple #[.slice (some ⟨bo, 0, none⟩) N N, .bool true] ∧ GridS g bo 118 maps ∧ WordsS rs N n maps)) := by
  generalize hR : (fun (v : Value) (Γ : Ctx) => _ ∨ _) = R
  refine ret_of_vc tr134 (Nat.le_of_ble_eq_true rfl) ?_
  have hvl := V.len
  simp -implicitDefEqProofs only [S134, S134_0, go_sem, Nat.reduceBEq, Nat.reduceAdd, Nat.reduceSub, Nat.reduceMul, Nat.reduceLeDiff, reduceCtorEq, ↓reduceIte, Int.reduceLT, Int.reduceLE, Int.reduceEq, Int.reduceNe]
  intro b0
  refine ⟨by omega, by omega, fun bo => ?_⟩
  refine s_loop (fun f vs Γ => ∃ g, Γ = [g] ∧ ∃ (k : Nat) (bs : List Nat), vs = [.v true (.int .i64 k)] ∧ k + f = N ∧ bs.length = k ∧ PartS g bo 118 N bs) N
    (Up.here ⟨_, rfl, 0, [], rfl, by omega, rfl, PartS.made bo 118 N⟩) ?_
  rintro f vs Γ ⟨g, rfl, k, bs, rfl, hkf, hbl, hP⟩
  simp -implicitDefEqProofs only [S134_1, go_sem, Nat.reduceBEq, Nat.reduceAdd, Nat.reduceSub, Nat.reduceMul, Nat.reduceLeDiff, reduceCtorEq, ↓reduceIte, Int.reduceLT, Int.reduceLE, Int.reduceEq, Int.reduceNe]
  refine ⟨fun hlt => ?_, fun hge => ?_⟩
  · have hk : k < N := by omega
    refine s_mkmap fun bm => ?_
    simp -implicitDefEqProofs only [go_sem, Nat.reduceBEq, Nat.reduceAdd, Nat.reduceSub, Nat.reduceMul, Nat.reduceLeDiff, reduceCtorEq, ↓reduceIte, Int.reduceLT, Int.reduceLE, Int.reduceEq, Int.reduceNe]
    refine s_idx rfl (by omega) (by omega) ?_
    simp -implicitDefEqProofs only [go_sem, Nat.reduceBEq, Nat.reduceAdd, Nat.reduceSub, Nat.reduceMul, Nat.reduceLeDiff, reduceCtorEq, ↓reduceIte, Int.reduceLT, Int.reduceLE, Int.reduceEq, Int.reduceNe]
    refine s_storeS (ix := 1) (k := bm) rfl hP (i := k) hbl.symm (by omega) ?_
    intro g' hput
    simp -implicitDefEqProofs only [go_sem, Nat.reduceBEq, Nat.reduceAdd, Nat.reduceSub, Nat.reduceMul, Nat.reduceLeDiff, reduceCtorEq, ↓reduceIte, Int.reduceLT, Int.reduceLE, Int.reduceEq, Int.reduceNe]
    simp (disch := omega) only [wrap_id]
    refine ⟨f - 1, by omega, Up.apart fun hd => Up.one fun G hG' => ⟨_, rfl, k + 1, bs ++ [bm], rfl, by omega, by simp [hbl], ?_⟩⟩
    exact hput _ _ (MapM.new _ _ _ _) ((List.pairwise_cons.1 hd).1 g' (by simp)) hG'
  have hk : k = N := by omega
  have hG := hP.full (by omega)
  refine s_loop (fun f vs Γ => ∃ (again : Bool) (g : PH) (maps : List (List (List UInt8))), vs = [.v true (.bool again)] ∧ Γ = [g] ∧ f = 2 * (N * most - tot maps) + again.toNat ∧ GridS g bo 118 maps ∧ maps.length = N ∧ (∀ l ∈ maps, l.length ≤ most) ∧ (∀ a x, Em maps a x → DerN u8 rs a x ∧ x.length ≤ n) ∧ (again = false → WClosed (Em maps) n rs)) _
    (Up.here ⟨true, g, _, rfl, rfl, rfl, hG, by simp, by simp, fun a x h => absurd h em_none, by simp⟩) ?_
  clear hG hP hbl hkf hk
  rintro f vs Γ ⟨again, g, maps, rfl, rfl, hf, hG, hml, hsm, hS, hC⟩
  simp -implicitDefEqProofs only [S134_9, go_sem, Nat.reduceBEq, Nat.reduceAdd, Nat.reduceSub, Nat.reduceMul, Nat.reduceLeDiff, reduceCtorEq, ↓reduceIte, Int.reduceLT, Int.reduceLE, Int.reduceEq, Int.reduceNe]
  refine ⟨fun hmt => ?_, fun hmf => ?_⟩
  · subst hmt
    refine s_loop (fun f2 vs Γ => ∃ (again : Bool) (k : Nat) (g : PH) (maps2 : List (List (List UInt8))), vs = [.v true (.bool again), .v true (.int .i64 k)] ∧ Γ = [g] ∧ k + f2 = rs.length ∧ GridS g bo 118 maps2 ∧ maps2.length = N ∧ (∀ l ∈ maps2, l.length ≤ most) ∧ (∀ a x, Em maps2 a x → DerN u8 rs a x ∧ x.length ≤ n) ∧ tot maps ≤ tot maps2 ∧ (again = true → tot maps < tot maps2) ∧ (again = false → maps2 = maps ∧ WClosed (Em maps) n (rs.take k))) rs.length
      (Up.here ⟨false, 0, g, maps, rfl, rfl, by omega, hG, hml, hsm, hS, Nat.le_refl _, by simp, fun _ => ⟨rfl, by simp [WClosed]⟩⟩) ?_
    clear hG
    rintro f2 vs Γ ⟨again2, k, g, maps2, rfl, rfl, hkf, hG, hml2, hsm2, hS2, ht2, ht3, hC2⟩
    simp -implicitDefEqProofs only [S134_8, go_sem, Nat.reduceBEq, Nat.reduceAdd, Nat.reduceSub, Nat.reduceMul, Nat.reduceLeDiff, reduceCtorEq, ↓reduceIte, Int.reduceLT, Int.reduceLE, Int.reduceEq, Int.reduceNe]
    refine ⟨fun hlt => ?_, fun hge => ?_⟩
    · have hk : k < rs.length := by omega
      have hmem : rs[k] ∈ rs := List.getElem_mem hk
      have hr4 := V.right _ hmem
      have hleft := V.left _ hmem
      have hsym := V.sym _ hmem
      have htk : rs.take (k + 1) = rs.take k ++ [rs[k]] := List.take_succ_eq_append_getElem hk
      obtain ⟨b1, o1, hA2, A3, c3, hr3, hc5⟩ := hx.ru hk
      generalize rs[k] = r at *
      refine s_idx hA2 (by omega) (by omega) ?_
      simp -implicitDefEqProofs only [go_sem, Nat.reduceBEq, Nat.reduceAdd, Nat.reduceSub, Nat.reduceMul, Nat.reduceLeDiff, reduceCtorEq, ↓reduceIte, Int.reduceLT, Int.reduceLE, Int.reduceEq, Int.reduceNe]
      refine s_ld0 (hc5 _ (lk_r _ _)) (by simp) (by simp) ?_
      simp -implicitDefEqProofs only [go_sem, Nat.reduceBEq, Nat.reduceAdd, Nat.reduceSub, Nat.reduceMul, Nat.reduceLeDiff, reduceCtorEq, ↓reduceIte, Int.reduceLT, Int.reduceLE, Int.reduceEq, Int.reduceNe]
      intro b2
      refine s_mkmap fun ba => ?_
      simp -implicitDefEqProofs only [go_sem, Nat.reduceBEq, Nat.reduceAdd, Nat.reduceSub, Nat.reduceMul, Nat.reduceLeDiff, reduceCtorEq, ↓reduceIte, Int.reduceLT, Int.reduceLE, Int.reduceEq, Int.reduceNe]
      refine s_addT (t := 232) (kt := 9) (x := []) (l := []) (by kernel_rfl) (by kernel_rfl) (ix := 0) rfl (MapM.new _ _ _ _) (by simp) ?_
      intro ga hA0 _
      have hA0 : StrM ga ba [[]] := hA0
      simp -implicitDefEqProofs only [go_sem, Nat.reduceBEq, Nat.reduceAdd, Nat.reduceSub, Nat.reduceMul, Nat.reduceLeDiff, reduceCtorEq, ↓reduceIte, Int.reduceLT, Int.reduceLE, Int.reduceEq, Int.reduceNe]
      refine s_loop (fun f3 vs Γ => ∃ (ba : Nat) (q : Nat) (ga : PH) (la : List (List UInt8)), vs = [.v true (.map (some ba)), .v true (.int .i64 q)] ∧ Γ = [ga, g] ∧ q + f3 = r.r.length ∧ StrM ga ba la ∧ ∀ x, x ∈ la ↔ Cmb u8 (Em maps2) (r.r.take q) x ∧ x.length ≤ n) r.r.length
        (Up.here ⟨ba, 0, ga, _, rfl, rfl, by omega, hA0, fun x => by simp [Cmb]; exact fun h => by subst h; simp⟩) ?_
      clear hA0
      rintro f3 vs Γ ⟨ba, q, ga, la, rfl, rfl, hqf, hA, hla⟩
      simp -implicitDefEqProofs only [S134_6, go_sem, Nat.reduceBEq, Nat.reduceAdd, Nat.reduceSub, Nat.reduceMul, Nat.reduceLeDiff, reduceCtorEq, ↓reduceIte, Int.reduceLT, Int.reduceLE, Int.reduceEq, Int.reduceNe]
      refine ⟨fun hlt => ?_, fun hge => ?_⟩
      · have hq : q < r.r.length := by omega
        have hsm : r.r[q] ∈ r.r := List.getElem_mem hq
        have hs := hsym _ hsm
        have htk2 : r.r.take (q + 1) = r.r.take q ++ [r.r[q]] := List.take_succ_eq_append_getElem hq
        obtain ⟨b3, o3, hA4, hc6⟩ := hr3.sy hq
        generalize r.r[q] = y at *
        refine s_idx hA4 (by omega) (by omega) ?_
        simp -implicitDefEqProofs only [go_sem, Nat.reduceBEq, Nat.reduceAdd, Nat.reduceSub, Nat.reduceMul, Nat.reduceLeDiff, reduceCtorEq, ↓reduceIte, Int.reduceLT, Int.reduceLE, Int.reduceEq, Int.reduceNe]
        refine s_ld0 (hc6 _ (lk_r _ _)) (by simp) (by simp) ?_
        simp -implicitDefEqProofs only [go_sem, Nat.reduceBEq, Nat.reduceAdd, Nat.reduceSub, Nat.reduceMul, Nat.reduceLeDiff, reduceCtorEq, ↓reduceIte, Int.reduceLT, Int.reduceLE, Int.reduceEq, Int.reduceNe]
        intro b4
        refine s_mkmap fun bn => ?_
        simp -implicitDefEqProofs only [go_sem, Nat.reduceBEq, Nat.reduceAdd, Nat.reduceSub, Nat.reduceMul, Nat.reduceLeDiff, reduceCtorEq, ↓reduceIte, Int.reduceLT, Int.reduceLE, Int.reduceEq, Int.reduceNe]
        refine s_rng (L := lk [ga]) (t := 232) (kt := 9) (et := 4) (by kernel_rfl) (hA.l (by simp)) (lk_sub (by simp)) ?_
        intro it gi hI
        simp -implicitDefEqProofs only [go_sem, Nat.reduceBEq, Nat.reduceAdd, Nat.reduceSub, Nat.reduceMul, Nat.reduceLeDiff, reduceCtorEq, ↓reduceIte, Int.reduceLT, Int.reduceLE, Int.reduceEq, Int.reduceNe]
        have hX : ∀ x, x ∈ la → x.length ≤ n := fun x h => ((hla x).1 h).2
        refine s_loop (XI maps2 y n la it ba bn ga g) _
          (Up.here ⟨rfl, gi, _, _, [], rfl, rfl, hI, fun p hp => mset_mem.1 hp, MapM.new _ _ _ _, by simp [NxOk], fun u hu hno => absurd (mset_mem.2 ⟨hu, rfl⟩) hno⟩) ?_
        clear hI
        rintro f4 vs Γ ⟨rfl, gi, gn, left, ln, rfl, rfl, hI, hle, hN2, hns, hnc⟩
        simp -implicitDefEqProofs only [S134_5, go_sem, Nat.reduceBEq, Nat.reduceAdd, Nat.reduceSub, Nat.reduceMul, Nat.reduceLeDiff, reduceCtorEq, ↓reduceIte, Int.reduceLT, Int.reduceLE, Int.reduceEq, Int.reduceNe]
        refine s_next (ix := 0) rfl hI (lk_sub (by simp)) (fun hl0 => ?_) ?_
        · subst hl0
          simp -implicitDefEqProofs only [go_sem, Nat.reduceBEq, Nat.reduceAdd, Nat.reduceSub, Nat.reduceMul, Nat.reduceLeDiff, reduceCtorEq, ↓reduceIte, Int.reduceLT, Int.reduceLE, Int.reduceEq, Int.reduceNe]
          simp (disch := omega) only [wrap_id]
          refine ⟨f3 - 1, by omega, Up.sel [[1], [3]] (by decide) fun _ _ => ⟨bn, q + 1, _, ln, rfl, rfl, by omega, hN2, fun x => ?_⟩⟩
          rw [htk2, cmb_snoc]
          constructor
          · intro h
            obtain ⟨u, v, h1, h2, h3, h4⟩ := hns x h
            exact ⟨⟨u, v, h2, ((hla u).1 h1).1, h3⟩, h4⟩
          · rintro ⟨⟨u, v, rfl, h1, h2⟩, h3⟩
            exact hnc u ((hla u).2 ⟨h1, by rw [List.length_append] at h3; omega⟩) (by simp) v h2 h3
        · intro gi' p left' hmem hlen hI' hcur
          have hp := hle p ((hmem p).2 (.inl rfl))
          obtain ⟨u, tt⟩ := p
          obtain ⟨hu, rfl⟩ : u ∈ la ∧ tt = true := hp
          simp -implicitDefEqProofs only [go_sem, Nat.reduceBEq, Nat.reduceAdd, Nat.reduceSub, Nat.reduceMul, Nat.reduceLeDiff, reduceCtorEq, ↓reduceIte, Int.reduceLT, Int.reduceLE, Int.reduceEq, Int.reduceNe]
          refine s_q trivial (qr_entry hcur (lk_sub (by simp)) (by simp)) ?_
          have hun := hX u hu
          have hle' : ∀ p ∈ left', p.1 ∈ la ∧ p.2 = true := fun p h => hle p ((hmem p).2 (.inr h))
          have fin : ∀ gn' ln', StrM gn' bn ln' → NxOk maps2 y n la ln' → (∀ x ∈ ln, x ∈ ln') → (∀ v, SyC u8 (Em maps2) y v → (u ++ v).length ≤ n → u ++ v ∈ ln') → ∃ n', n' < left.length + 1 ∧ Up [gi', gn', ga, g] (XI maps2 y n la it ba bn ga g n' []) := by
            intro gn' ln' h1 h2 h3 h4
            refine ⟨left'.length + 1, by omega, Up.here ⟨rfl, gi', gn', left', ln', rfl, rfl, hI', hle', h1, h2, fun u' hu' hno v hv hl => ?_⟩⟩
            by_cases e : u' = u
            · subst e; exact h4 v hv hl
            · refine h3 _ (hnc u' hu' (fun q => ?_) v hv hl)
              rcases (hmem _).1 q with q | q
              · exact e (by simpa using q)
              · exact hno q
          simp -implicitDefEqProofs only [go_sem, Nat.reduceBEq, Nat.reduceAdd, Nat.reduceSub, Nat.reduceMul, Nat.reduceLeDiff, reduceCtorEq, ↓reduceIte, Int.reduceLT, Int.reduceLE, Int.reduceEq, Int.reduceNe]
          refine ⟨fun ht => ?_, fun ht => ?_⟩
          · have hwb : IntKind.u8.wrap y.n = ((u8 y.n).toNat : Int) := wrap_by hs.1 (hs.2.1 ht)
            refine s_split ?_
            simp -implicitDefEqProofs only [S134_2, S134_3, lenC, lenV_strB, go_sem, Nat.reduceBEq, Nat.reduceAdd, Nat.reduceSub, Nat.reduceMul, Nat.reduceLeDiff, reduceCtorEq, ↓reduceIte, Int.reduceLT, Int.reduceLE, Int.reduceEq, Int.reduceNe]
            refine ⟨fun hl b5 => ?_, fun hl => Up.here ?_⟩
            · rw [hwb]
              have hlit : SlOk (lk [one b5 (.cells [Value.int IntKind.u8 ((u8 y.n).toNat : Int)].toArray 5)]) (some ⟨b5, 0, none⟩) 1 [(⟨u8 y.n⟩ : By)] := lit_slok [(⟨u8 y.n⟩ : By)] rfl (by simp)
              refine s_q (x := strB [u8 y.n]) trivial (qr_bytes (s := 233) (d := 9) (e := 5) (xs := [(⟨u8 y.n⟩ : By)]) (by kernel_rfl) (by kernel_rfl) (by kernel_rfl) hlit (lk_sub (by simp))) ?_
              simp -implicitDefEqProofs only [fn_cat (a := u) (b := [u8 y.n]) (by simp; omega), fnC_eq, go_sem, Nat.reduceBEq, Nat.reduceAdd, Nat.reduceSub, Nat.reduceMul, Nat.reduceLeDiff, reduceCtorEq, ↓reduceIte, Int.reduceLT, Int.reduceLE, Int.reduceEq, Int.reduceNe]
              refine s_addT (t := 232) (kt := 9) (x := u ++ [u8 y.n]) (by kernel_rfl) (by kernel_rfl) (ix := 2) rfl hN2 (by simp; omega) ?_
              intro gn' hN' _
              simp -implicitDefEqProofs only [go_sem, Nat.reduceBEq, Nat.reduceAdd, Nat.reduceSub, Nat.reduceMul, Nat.reduceLeDiff, reduceCtorEq, ↓reduceIte, Int.reduceLT, Int.reduceLE, Int.reduceEq, Int.reduceNe]
              refine Up.sel [[1], [2], [3], [4]] (by decide) fun _ _ => fin gn' _ hN' (fun x hx => ?_) (fun x hx => addT_mem.2 (.inl hx)) (fun v hv _ => ?_)
              · rcases addT_mem.1 hx with hx | rfl
                · exact hns x hx
                · exact ⟨u, [u8 y.n], hu, rfl, by simp [SyC, ht], by simp; omega⟩
              · have : v = [u8 y.n] := by simpa [SyC, ht] using hv
                subst this
                exact addT_mem.2 (.inr rfl)
            · refine fin gn ln hN2 hns (fun x h => h) (fun v hv hl2 => ?_)
              have : v = [u8 y.n] := by simpa [SyC, ht] using hv
              subst this
              simp at hl2
              omega
          · have hy0 := hs.1
            have hyN := hs.2.2 ht
            have hyn : y.n.toNat < maps2.length := by omega
            have hSy : ∀ v, SyC u8 (Em maps2) y v ↔ v ∈ maps2[y.n.toNat] := fun v => by
              simp only [SyC, ht]
              exact em_at' hy0 hyn
            have hlm : ∀ v ∈ maps2[y.n.toNat], v.length ≤ n := fun v hv => (hS2 _ _ ((em_at' hy0 hyn).2 hv)).2
            obtain ⟨bm, hcell, hM, hne, hput⟩ := hG.at' hyn
            clear hput
            generalize maps2[y.n.toNat] = lm at *
            refine s_idx rfl hy0 (by omega) ?_
            simp -implicitDefEqProofs only [go_sem, Nat.reduceBEq, Nat.reduceAdd, Nat.reduceSub, Nat.reduceMul, Nat.reduceLeDiff, reduceCtorEq, ↓reduceIte, Int.reduceLT, Int.reduceLE, Int.reduceEq, Int.reduceNe]
            refine s_ld0 (hcell _ (by simp)) (by simp) (by simp) ?_
            simp -implicitDefEqProofs only [go_sem, Nat.reduceBEq, Nat.reduceAdd, Nat.reduceSub, Nat.reduceMul, Nat.reduceLeDiff, reduceCtorEq, ↓reduceIte, Int.reduceLT, Int.reduceLE, Int.reduceEq, Int.reduceNe]
            refine s_rng (L := lk [g]) (t := 118) (kt := 9) (et := 4) (by kernel_rfl) (hM.l (by simp)) (lk_sub (by simp)) ?_
            intro jt gj hJ
            simp -implicitDefEqProofs only [go_sem, Nat.reduceBEq, Nat.reduceAdd, Nat.reduceSub, Nat.reduceMul, Nat.reduceLeDiff, reduceCtorEq, ↓reduceIte, Int.reduceLT, Int.reduceLE, Int.reduceEq, Int.reduceNe]
            refine s_loop (YI maps2 y n la ln lm u jt bm bn gi' ga g) _
              (Up.here ⟨rfl, gj, _, _, ln, rfl, rfl, hJ, fun p hp => mset_mem.1 hp, hN2, hns, fun x h => h, fun u hu hno => absurd (mset_mem.2 ⟨hu, rfl⟩) hno⟩) ?_
            clear hJ
            rintro f5 vs Γ ⟨rfl, gj, gn2, left2, ln2, rfl, rfl, hJ, hle2, hN3, hns2, hin2, hnc2⟩
            simp -implicitDefEqProofs only [S134_4, go_sem, Nat.reduceBEq, Nat.reduceAdd, Nat.reduceSub, Nat.reduceMul, Nat.reduceLeDiff, reduceCtorEq, ↓reduceIte, Int.reduceLT, Int.reduceLE, Int.reduceEq, Int.reduceNe]
            refine s_next (ix := 0) rfl hJ (lk_sub (by simp)) (fun hl0 => ?_) ?_
            · subst hl0
              simp -implicitDefEqProofs only [go_sem, Nat.reduceBEq, Nat.reduceAdd, Nat.reduceSub, Nat.reduceMul, Nat.reduceLeDiff, reduceCtorEq, ↓reduceIte, Int.reduceLT, Int.reduceLE, Int.reduceEq, Int.reduceNe]
              obtain ⟨n', h1, h2⟩ := fin gn2 ln2 hN3 hns2 hin2 (fun v hv hl => hnc2 v ((hSy v).1 hv) (by simp) hl)
              exact ⟨n', h1, h2.skip⟩
            · intro gj' p left3 hmem2 hlen2 hJ' hcur2
              have hp := hle2 p ((hmem2 p).2 (.inl rfl))
              obtain ⟨v, tt⟩ := p
              obtain ⟨hv, rfl⟩ : v ∈ lm ∧ tt = true := hp
              simp -implicitDefEqProofs only [go_sem, Nat.reduceBEq, Nat.reduceAdd, Nat.reduceSub, Nat.reduceMul, Nat.reduceLeDiff, reduceCtorEq, ↓reduceIte, Int.reduceLT, Int.reduceLE, Int.reduceEq, Int.reduceNe]
              refine s_q trivial (qr_entry hcur2 (lk_sub (by simp)) (by simp)) ?_
              have hvn := hlm v hv
              have hle3 : ∀ p ∈ left3, p.1 ∈ lm ∧ p.2 = true := fun p h => hle2 p ((hmem2 p).2 (.inr h))
              have fin2 : ∀ gn' ln', StrM gn' bn ln' → NxOk maps2 y n la ln' → (∀ x ∈ ln2, x ∈ ln') → ((u ++ v).length ≤ n → u ++ v ∈ ln') → ∃ n', n' < left2.length + 1 ∧ Up [gj', gi', gn', ga, g] (YI maps2 y n la ln lm u jt bm bn gi' ga g n' []) := by
                intro gn' ln' h1 h2 h3 h4
                refine ⟨left3.length + 1, by omega, Up.here ⟨rfl, gj', gn', left3, ln', rfl, rfl, hJ', hle3, h1, h2, fun x hx => h3 x (hin2 x hx), fun v' hv' hno hl => ?_⟩⟩
                by_cases e : v' = v
                · subst e; exact h4 hl
                · refine h3 _ (hnc2 v' hv' (fun q => ?_) hl)
                  rcases (hmem2 _).1 q with q | q
                  · exact e (by simpa using q)
                  · exact hno q
              simp -implicitDefEqProofs only [lenC, lenV_strB, go_sem, Nat.reduceBEq, Nat.reduceAdd, Nat.reduceSub, Nat.reduceMul, Nat.reduceLeDiff, reduceCtorEq, ↓reduceIte, Int.reduceLT, Int.reduceLE, Int.reduceEq, Int.reduceNe]
              simp (disch := omega) only [wrap_id]
              refine ⟨fun hl => ?_, fun hl => ?_⟩
              · simp -implicitDefEqProofs only [fn_cat (a := u) (b := v) (by omega), fnC_eq, go_sem, Nat.reduceBEq, Nat.reduceAdd, Nat.reduceSub, Nat.reduceMul, Nat.reduceLeDiff, reduceCtorEq, ↓reduceIte, Int.reduceLT, Int.reduceLE, Int.reduceEq, Int.reduceNe]
                refine s_addT (t := 232) (kt := 9) (x := u ++ v) (by kernel_rfl) (by kernel_rfl) (ix := 2) rfl hN3 (by simp; omega) ?_
                intro gn' hN' _
                simp -implicitDefEqProofs only [go_sem, Nat.reduceBEq, Nat.reduceAdd, Nat.reduceSub, Nat.reduceMul, Nat.reduceLeDiff, reduceCtorEq, ↓reduceIte, Int.reduceLT, Int.reduceLE, Int.reduceEq, Int.reduceNe]
                refine fin2 gn' _ hN' (fun x hx => ?_) (fun x hx => addT_mem.2 (.inl hx)) (fun _ => addT_mem.2 (.inr rfl))
                rcases addT_mem.1 hx with hx | rfl
                · exact hns2 x hx
                · exact ⟨u, v, hu, rfl, (hSy v).2 hv, by simp; omega⟩
              · exact fin2 gn2 ln2 hN3 hns2 (fun x h => h) (fun h => by simp at h; omega)
      · have hq : q = r.r.length := by omega
        rw [hq, List.take_length] at hla
        have hrl : r.l.toNat < maps2.length := by omega
        have hrl0 := hleft.1
        refine s_rng (L := lk [ga]) (t := 232) (kt := 9) (et := 4) (by kernel_rfl) (hA.l (by simp)) (lk_sub (by simp)) ?_
        intro it gi hI
        simp -implicitDefEqProofs only [go_sem, Nat.reduceBEq, Nat.reduceAdd, Nat.reduceSub, Nat.reduceMul, Nat.reduceLeDiff, reduceCtorEq, ↓reduceIte, Int.reduceLT, Int.reduceLE, Int.reduceEq, Int.reduceNe]
        have hG0 : GridS g bo 118 (maps2.set r.l.toNat maps2[r.l.toNat]) := by rw [List.set_getElem_self]; exact hG
        have hlan : ∀ x ∈ la, x.length ≤ n := fun x h => ((hla x).1 h).2
        refine s_loop (ZI maps2 r.l.toNat la maps2[r.l.toNat] again2 it ba bo ga) _
          (Up.here ⟨again2, gi, g, _, maps2[r.l.toNat], rfl, rfl, rfl, hI, fun p hp => mset_mem.1 hp, hG0, fun x h => h, fun x h => .inl h, Nat.le_refl _, fun h => .inl h, fun h => ⟨h, rfl⟩, fun u hu hno => absurd (mset_mem.2 ⟨hu, rfl⟩) hno⟩) ?_
        clear hI hG0
        rintro f6 vs Γ ⟨again3, gi, g3, left, l3, rfl, rfl, rfl, hI, hle, hG3, hz1, hz2, hz3, hz4, hz5, hz6⟩
        have hset : (maps2.set r.l.toNat l3).length = N := by rw [List.length_set]; exact hml2
        have hrl3 : r.l.toNat < (maps2.set r.l.toNat l3).length := by omega
        have hget : (maps2.set r.l.toNat l3)[r.l.toNat] = l3 := List.getElem_set_self ..
        obtain ⟨bm, hcell, hM, hne, hput⟩ := hG3.at' hrl3
        rw [hget] at hM
        simp -implicitDefEqProofs only [S134_7, go_sem, Nat.reduceBEq, Nat.reduceAdd, Nat.reduceSub, Nat.reduceMul, Nat.reduceLeDiff, reduceCtorEq, ↓reduceIte, Int.reduceLT, Int.reduceLE, Int.reduceEq, Int.reduceNe]
        refine s_next (ix := 0) rfl hI (lk_sub (by simp)) (fun hl0 => ?_) ?_
        · subst hl0
          simp -implicitDefEqProofs only [go_sem, Nat.reduceBEq, Nat.reduceAdd, Nat.reduceSub, Nat.reduceMul, Nat.reduceLeDiff, reduceCtorEq, ↓reduceIte, Int.reduceLT, Int.reduceLE, Int.reduceEq, Int.reduceNe]
          have hz7 : ∀ x ∈ la, x ∈ l3 := fun x hx => hz6 x hx (by simp)
          have hEr : ∀ x, x ∈ maps2[r.l.toNat] ↔ Em maps2 r.l x := fun x => (em_at' hrl0 hrl).symm
          have hla2 : ∀ x ∈ la, DerN u8 rs r.l x ∧ x.length ≤ n := fun x hx => ⟨⟨r, hmem, rfl, cmb_sound (fun a w h => (hS2 a w h).1) ((hla x).1 hx).1⟩, hlan x hx⟩
          have hl3 : ∀ x ∈ l3, DerN u8 rs r.l x ∧ x.length ≤ n := fun x hx => by
            rcases hz2 x hx with q | q
            · exact hS2 _ _ ((hEr x).1 q)
            · exact hla2 x q
          refine s_idx rfl (by omega) (by omega) ?_
          simp -implicitDefEqProofs only [go_sem, Nat.reduceBEq, Nat.reduceAdd, Nat.reduceSub, Nat.reduceMul, Nat.reduceLeDiff, reduceCtorEq, ↓reduceIte, Int.reduceLT, Int.reduceLE, Int.reduceEq, Int.reduceNe]
          refine s_ld0 (hcell _ (by simp)) (by simp) (by simp) ?_
          simp -implicitDefEqProofs only [go_sem, Nat.reduceBEq, Nat.reduceAdd, Nat.reduceSub, Nat.reduceMul, Nat.reduceLeDiff, reduceCtorEq, ↓reduceIte, Int.reduceLT, Int.reduceLE, Int.reduceEq, Int.reduceNe]
          refine s_q trivial (qr_len (t := 118) (kt := 9) (et := 4) (by kernel_rfl) (hM.l (by simp))) ?_
          have hml3 : (mset id l3).length = l3.length := by simp [mset]
          rw [hml3]
          simp -implicitDefEqProofs only [go_sem, Nat.reduceBEq, Nat.reduceAdd, Nat.reduceSub, Nat.reduceMul, Nat.reduceLeDiff, reduceCtorEq, ↓reduceIte, Int.reduceLT, Int.reduceLE, Int.reduceEq, Int.reduceNe]
          refine ⟨fun hbig => Up.to [] (Ent.nil _) ?_, fun hsmall => ?_⟩
          · subst hR
            exact .inl ⟨rfl, rfl, r.l, l3, SetS.nodup (hM.l (Γ := [g3]) (by simp)), by omega, hl3⟩
          · simp (disch := omega) only [wrap_id]
            have htot := tot_set hrl l3
            refine ⟨f2 - 1, by omega, Up.sel [[2]] (by decide) fun _ _ => ⟨again3, k + 1, _, maps2.set r.l.toNat l3, rfl, rfl, by omega, hG3, hset, fun l hl => ?_, fun a x h => ?_, by omega, fun h => ?_, fun h => ?_⟩⟩
            · rcases List.mem_or_eq_of_mem_set hl with q | q
              · exact hsm2 l q
              · rw [q]; omega
            · rcases (em_set hrl).1 h with ⟨rfl, q⟩ | ⟨_, q⟩
              · rw [show ((r.l.toNat : Nat) : Int) = r.l by omega]
                exact hl3 x q
              · exact hS2 a x q
            · rcases hz4 h with q | q
              · have := ht3 q; omega
              · omega
            · obtain ⟨q1, q2⟩ := hz5 h
              obtain ⟨q3, q4⟩ := hC2 q1
              refine ⟨by rw [q2, List.set_getElem_self]; exact q3, fun r' hr' x hc hl => ?_⟩
              rw [htk] at hr'
              rcases List.mem_append.1 hr' with h1 | h1
              · exact q4 r' h1 x hc hl
              · simp at h1
                subst h1
                rw [← q3] at hc ⊢
                rw [← hEr, ← q2]
                exact hz7 x ((hla x).2 ⟨hc, hl⟩)
        · intro gi' p left' hmem hlen hI' hcur
          have hp := hle p ((hmem p).2 (.inl rfl))
          obtain ⟨u, tt⟩ := p
          obtain ⟨hu, rfl⟩ : u ∈ la ∧ tt = true := hp
          simp -implicitDefEqProofs only [go_sem, Nat.reduceBEq, Nat.reduceAdd, Nat.reduceSub, Nat.reduceMul, Nat.reduceLeDiff, reduceCtorEq, ↓reduceIte, Int.reduceLT, Int.reduceLE, Int.reduceEq, Int.reduceNe]
          refine s_q trivial (qr_entry hcur (lk_sub (by simp)) (by simp)) ?_
          have hun := hlan u hu
          have hle' : ∀ p ∈ left', p.1 ∈ la ∧ p.2 = true := fun p h => hle p ((hmem p).2 (.inr h))
          simp -implicitDefEqProofs only [go_sem, Nat.reduceBEq, Nat.reduceAdd, Nat.reduceSub, Nat.reduceMul, Nat.reduceLeDiff, reduceCtorEq, ↓reduceIte, Int.reduceLT, Int.reduceLE, Int.reduceEq, Int.reduceNe]
          refine s_idx rfl (by omega) (by omega) ?_
          simp -implicitDefEqProofs only [go_sem, Nat.reduceBEq, Nat.reduceAdd, Nat.reduceSub, Nat.reduceMul, Nat.reduceLeDiff, reduceCtorEq, ↓reduceIte, Int.reduceLT, Int.reduceLE, Int.reduceEq, Int.reduceNe]
          refine s_ld0 (hcell _ (by simp)) (by simp) (by simp) ?_
          simp -implicitDefEqProofs only [go_sem, Nat.reduceBEq, Nat.reduceAdd, Nat.reduceSub, Nat.reduceMul, Nat.reduceLeDiff, reduceCtorEq, ↓reduceIte, Int.reduceLT, Int.reduceLE, Int.reduceEq, Int.reduceNe]
          refine s_q trivial (look_str (t := 118) (kt := 9) (by kernel_rfl) (by kernel_rfl) (hM.l (by simp)) (by omega)) ?_
          simp -implicitDefEqProofs only [go_sem, Nat.reduceBEq, Nat.reduceAdd, Nat.reduceSub, Nat.reduceMul, Nat.reduceLeDiff, reduceCtorEq, ↓reduceIte, Int.reduceLT, Int.reduceLE, Int.reduceEq, Int.reduceNe]
          have fin : ∀ again' g' l', GridS g' bo 118 (maps2.set r.l.toNat l') → (∀ x ∈ l3, x ∈ l') → (∀ x ∈ l', x ∈ l3 ∨ x = u) → l3.length ≤ l'.length → (again' = true → again3 = true ∨ l3.length < l'.length) → (again' = false → again3 = false ∧ l' = l3) → u ∈ l' → ∃ n', n' < left.length + 1 ∧ Up [gi', ga, g'] (ZI maps2 r.l.toNat la maps2[r.l.toNat] again2 it ba bo ga n' [.v true (.bool again')]) := by
            intro again' g' l' h1 h2 h3 h4 h5 h6 h7
            refine ⟨left'.length + 1, by omega, Up.here ⟨again', gi', g', left', l', rfl, rfl, rfl, hI', hle', h1, fun x hx => h2 x (hz1 x hx), fun x hx => ?_, by omega, fun h => ?_, fun h => ?_, fun x hx hno => ?_⟩⟩
            · rcases h3 x hx with q | rfl
              · exact hz2 x q
              · exact .inr hu
            · rcases h5 h with q | q
              · rcases hz4 q with q | q
                · exact .inl q
                · exact .inr (by omega)
              · exact .inr (by omega)
            · obtain ⟨q1, q2⟩ := h6 h
              obtain ⟨q3, q4⟩ := hz5 q1
              exact ⟨q3, by rw [q2, q4]⟩
            · by_cases e : x = u
              · subst e; exact h7
              · refine h2 x (hz6 x hx fun q => ?_)
                rcases (hmem _).1 q with q | q
                · exact e (by simpa using q)
                · exact hno q
          refine ⟨fun hno => ?_, fun hin => ?_⟩
          · refine s_idx rfl (by omega) (by omega) ?_
            simp -implicitDefEqProofs only [go_sem, Nat.reduceBEq, Nat.reduceAdd, Nat.reduceSub, Nat.reduceMul, Nat.reduceLeDiff, reduceCtorEq, ↓reduceIte, Int.reduceLT, Int.reduceLE, Int.reduceEq, Int.reduceNe]
            refine s_ld0 (hcell _ (by simp)) (by simp) (by simp) ?_
            simp -implicitDefEqProofs only [go_sem, Nat.reduceBEq, Nat.reduceAdd, Nat.reduceSub, Nat.reduceMul, Nat.reduceLeDiff, reduceCtorEq, ↓reduceIte, Int.reduceLT, Int.reduceLE, Int.reduceEq, Int.reduceNe]
            refine s_ment (kt_str (by kernel_rfl)) (t := 118) (kt := 9) (et := 4) (z := .bool false) (eV := Value.bool) (by kernel_rfl) (zero_run (by kernel_rfl)) (ix := 2) rfl hM (a := u) (by show u.length ≤ 1000; omega) (by rw [mset_keys, List.map_id]; exact hno) ?_
            intro g4 st hMe ho4
            simp -implicitDefEqProofs only [go_sem, Nat.reduceBEq, Nat.reduceAdd, Nat.reduceSub, Nat.reduceMul, Nat.reduceLeDiff, reduceCtorEq, ↓reduceIte, Int.reduceLT, Int.reduceLE, Int.reduceEq, Int.reduceNe]
            refine s_estore (ix := 2) rfl hMe true ?_
            intro g5 hM5 ho5
            simp -implicitDefEqProofs only [go_sem, Nat.reduceBEq, Nat.reduceAdd, Nat.reduceSub, Nat.reduceMul, Nat.reduceLeDiff, reduceCtorEq, ↓reduceIte, Int.reduceLT, Int.reduceLE, Int.reduceEq, Int.reduceNe]
            have hM5 : StrM g5 bm (l3 ++ [u]) := by
              have : mset id l3 ++ [(u, true)] = mset id (l3 ++ [u]) := by simp [mset]
              rw [this] at hM5
              exact hM5
            have hG5 := hput g5 _ hM5 fun k hk => by rw [ho5 k hk, ho4 k hk]
            rw [List.set_set] at hG5
            exact fin true g5 (l3 ++ [u]) hG5 (fun x hx => by simp [hx]) (fun x hx => by simpa using hx) (by simp) (fun _ => .inr (by simp)) (fun h => Bool.noConfusion h) (by simp)
          · exact fin again3 g3 l3 hG3 (fun x hx => hx) (fun x hx => .inl hx) (Nat.le_refl _) (fun h => .inl h) (fun h => ⟨h, rfl⟩) hin
    · have hk : k = rs.length := by omega
      subst hk
      rw [List.take_length] at hC2
      have h1 := tot_le hsm2
      rw [hml2] at h1
      refine ⟨2 * (N * most - tot maps2) + again2.toNat, ?_, Up.here ⟨again2, g, maps2, rfl, rfl, rfl, hG, hml2, hsm2, hS2, fun h => ?_⟩⟩
      · cases again2 with
        | true => have := ht3 rfl; simp only [hf, Bool.toNat_true]; omega
        | false => simp only [hf, Bool.toNat_true, Bool.toNat_false]; omega
      · obtain ⟨h1, h2⟩ := hC2 h
        rw [h1]
        exact h2
  · have hmf : again = false := by simpa using hmf
    refine Up.here ?_
    subst hR
    refine .inr ⟨g, bo, maps, rfl, rfl, hG, hml, fun a x h1 => ⟨hS a x, ?_⟩⟩
    rintro ⟨⟨r, hr, hra, hd⟩, hl⟩
    rw [← hra]
    exact hC hmf r hr x (cmb_all (hC hmf) hd hl) hl
end Go.Proofs.Ytniobbepliknmaa.V
/- All words of a length in order; no condition. -/
namespace Go.Proofs.Ytniobbepliknmaa.V
open Go
set_option linter.unusedVariables false
set_option linter.unusedSimpArgs false

/-- the word with number i among those of k symbols out of t -/
def dg (t : Nat) : Nat → Nat → List Int
  | 0, _ => []
  | k + 1, i => dg t k (i / t) ++ [((i % t : Nat) : Int)]
theorem dg_len (t : Nat) : ∀ k i, (dg t k i).length = k
  | 0, _ => rfl
  | k + 1, i => by simp [dg, dg_len t k]
theorem dg_mem {t : Nat} (ht : 0 < t) : ∀ {k i : Nat} {x : Int}, x ∈ dg t k i → 0 ≤ x ∧ x < t
  | 0, _, x, h => by simp [dg] at h
  | k + 1, i, x, h => by
    simp only [dg, List.mem_append, List.mem_singleton] at h
    rcases h with h | rfl
    · exact dg_mem ht h
    · have := Nat.mod_lt i ht; omega
/-- with another last symbol -/
theorem dg_snoc {t : Nat} (k j c : Nat) (hc : c < t) : dg t (k + 1) (j * t + c) = dg t k j ++ [(c : Int)] := by
  have ht : 0 < t := by omega
  have h1 : (j * t + c) / t = j := by rw [Nat.add_comm, Nat.add_mul_div_right _ _ ht, Nat.div_eq_of_lt hc, Nat.zero_add]
  have h2 : (j * t + c) % t = c := by rw [Nat.add_comm, Nat.add_mul_mod_self_right, Nat.mod_eq_of_lt hc]
  simp only [dg, h1, h2]
theorem dg_zeros {t : Nat} (ht : 0 < t) (k p : Nat) : ∀ m, dg t (k + m) (p * t ^ m) = dg t k p ++ List.replicate m (0 : Int)
  | 0 => by simp
  | m + 1 => by
    have := dg_snoc (k + m) (p * t ^ m) 0 ht
    simp only [Nat.add_zero] at this
    rw [show k + (m + 1) = k + m + 1 by omega, Nat.pow_succ, ← Nat.mul_assoc, this, dg_zeros ht k p m, List.replicate_succ', List.append_assoc]
    rfl
theorem dg_zero {t : Nat} (ht : 0 < t) (k : Nat) : dg t k 0 = List.replicate k (0 : Int) := by
  have := dg_zeros ht 0 0 k
  simpa [dg] using this
theorem dg_inj {t : Nat} (ht : 0 < t) : ∀ {k i j : Nat}, i < t ^ k → j < t ^ k → dg t k i = dg t k j → i = j
  | 0, i, j, hi, hj, _ => by simp at hi hj; omega
  | k + 1, i, j, hi, hj, h => by
    simp only [dg] at h
    have h1 := List.append_inj h (by rw [dg_len, dg_len])
    have h2 : ((i % t : Nat) : Int) = ((j % t : Nat) : Int) := by simpa using h1.2
    have h3 := dg_inj ht (Nat.div_lt_of_lt_mul (by rw [Nat.pow_succ, Nat.mul_comm] at hi; exact hi)) (Nat.div_lt_of_lt_mul (by rw [Nat.pow_succ, Nat.mul_comm] at hj; exact hj)) h1.1
    have h4 := Nat.div_add_mod i t
    have h5 := Nat.div_add_mod j t
    rw [h3] at h4
    have h6 : i % t = j % t := by omega
    omega
/-- the words of k symbols -/
def lev (t k : Nat) : List (List Int) := (List.range (t ^ k)).map (dg t k)
/-- the words of less than k symbols -/
def lvs (t k : Nat) : List (List Int) := (List.range k).flatMap (lev t)
theorem lev_len (t k : Nat) : (lev t k).length = t ^ k := by simp [lev]
theorem lvs_zero (t : Nat) : lvs t 0 = [] := rfl
theorem lvs_succ (t k : Nat) : lvs t (k + 1) = lvs t k ++ lev t k := by simp [lvs, List.range_succ]
theorem lvs_one (t : Nat) : lvs t 1 = [[]] := by simp [lvs, lev, dg]
theorem lvs_len_succ (t k : Nat) : (lvs t (k + 1)).length = (lvs t k).length + t ^ k := by rw [lvs_succ, List.length_append, lev_len]
theorem lvs_at {t k j : Nat} (hj : j < t ^ k) : (lvs t (k + 1))[(lvs t k).length + j]? = some (dg t k j) := by
  rw [lvs_succ, List.getElem?_append_right (by omega), Nat.add_sub_cancel_left, lev, List.getElem?_map, List.getElem?_range hj]
  rfl
theorem lvs_pre {t k n : Nat} (h : k ≤ n) : ∃ r, lvs t n = lvs t k ++ r := by
  induction n with
  | zero => have : k = 0 := by omega
            subst this; exact ⟨[], by simp⟩
  | succ n ih =>
    by_cases e : k = n + 1
    · subst e; exact ⟨[], by simp⟩
    · obtain ⟨r, hr⟩ := ih (by omega)
      exact ⟨r ++ lev t n, by rw [lvs_succ, hr, List.append_assoc]⟩
theorem lev_split {t k j : Nat} (hj : j < t ^ k) : ∃ r, lev t k = (List.range j).map (dg t k) ++ dg t k j :: r := by
  refine ⟨((List.range (t ^ k)).drop (j + 1)).map (dg t k), ?_⟩
  unfold lev
  have h1 : List.range (t ^ k) = (List.range (t ^ k)).take j ++ (j :: (List.range (t ^ k)).drop (j + 1)) := by
    have hl : j < (List.range (t ^ k)).length := by simpa using hj
    have h2 := List.drop_eq_getElem_cons hl
    rw [List.getElem_range] at h2
    rw [← h2, List.take_append_drop]
  have h3 : (List.range (t ^ k)).take j = List.range j := by
    rw [List.take_range]
    congr 1
    omega
  rw [h3] at h1
  conv => lhs; rw [h1]
  rw [List.map_append, List.map_cons]
/-- what stands ahead of a word, and behind it -/
theorem all_split {t k j n : Nat} (hk : k < n) (hj : j < t ^ k) : ∃ r, lvs t n = (lvs t k ++ (List.range j).map (dg t k)) ++ dg t k j :: r := by
  obtain ⟨r, hr⟩ := lvs_pre (t := t) (k := k + 1) (n := n) (by omega)
  obtain ⟨r', hr'⟩ := lev_split hj
  exact ⟨r' ++ r, by rw [hr, lvs_succ, hr']; simp⟩
theorem find_split {α : Type} {p : α → Bool} {a b : List α} {x : α} (h : ∀ y ∈ a, p y = false) (hx : p x = true) : (a ++ x :: b).find? p = some x := by
  rw [List.find?_append, List.find?_eq_none.2 (by simpa using h)]
  simp [hx]
theorem lvs_mem {t n : Nat} {w : List Int} : w ∈ lvs t n ↔ ∃ k j, k < n ∧ j < t ^ k ∧ w = dg t k j := by
  simp only [lvs, lev, List.mem_flatMap, List.mem_map, List.mem_range]
  constructor
  · rintro ⟨k, h1, j, h2, rfl⟩; exact ⟨k, j, h1, h2, rfl⟩
  · rintro ⟨k, j, h1, h2, rfl⟩; exact ⟨k, h1, j, h2, rfl⟩
theorem range_map_succ {α : Type} (f : Nat → α) (k : Nat) : (List.range (k + 1)).map f = (List.range k).map f ++ [f k] := by rw [List.range_succ, List.map_append]; rfl
end Go.Proofs.Ytniobbepliknmaa.V
/- The text of parlance/compare.words as a statement (slots: 0 terms, 1 n, 2 terms, 3 n, 5 sum, 6 all); no condition. -/
namespace Go.Proofs.Ytniobbepliknmaa.V
open Go
def S143_1 : Stmt :=
  Stmt.seq
  (Stmt.region [SOper.mk (some 10) none (SOp.ibin BinOp.lss (Operand.tmp 9) (Operand.tmp 8))] [0, 5, 6, 8, 9, 10])
  (Stmt.seq (Stmt.cond (Operand.tmp 10) Stmt.skip (Stmt.exit 0))
    (Stmt.seq
      (Stmt.block 1
        (Stmt.seq
          (Stmt.region
            [SOper.mk (some 11) none (SOp.mv (Operand.tmp 5)), SOper.mk (some 12) none (SOp.mv (Operand.tmp 6)),
              SOper.mk (some 13) none (SOp.ibin BinOp.add (Operand.tmp 11) (Operand.tmp 12)),
              SOper.mk (some 14) none (SOp.fn Fk.min [Operand.const (Value.int IntKind.i64 501), Operand.tmp 13]),
              SOper.mk (some 5) none (SOp.mv (Operand.tmp 14))]
            [0, 5, 6, 8, 9])
          (Stmt.region
            [SOper.mk (some 15) none (SOp.mv (Operand.tmp 6)), SOper.mk (some 16) none (SOp.mv (Operand.tmp 0)),
              SOper.mk (some 17) none (SOp.ibin BinOp.mul (Operand.tmp 15) (Operand.tmp 16)),
              SOper.mk (some 18) none (SOp.fn Fk.min [Operand.const (Value.int IntKind.i64 501), Operand.tmp 17]),
              SOper.mk (some 6) none (SOp.mv (Operand.tmp 18))]
            [0, 5, 6, 8, 9])))
      (Stmt.region
        [SOper.mk (some 19) none (SOp.ibin BinOp.add (Operand.tmp 9) (Operand.const (Value.int IntKind.i64 1))),
          SOper.mk (some 9) none (SOp.mv (Operand.tmp 19))]
        [0, 5, 6, 8, 9])))
def S143_0 : Stmt :=
  Stmt.seq (Stmt.region [SOper.mk (some 4) none (SOp.mv (Operand.const (Value.int IntKind.i64 0)))] [0, 1])
  (Stmt.seq
    (Stmt.region
      [SOper.mk (some 5) none (SOp.mv (Operand.const (Value.int IntKind.i64 0))),
        SOper.mk (some 6) none (SOp.mv (Operand.const (Value.int IntKind.i64 1)))]
      [0, 1, 5, 6])
    (Stmt.seq
      (Stmt.seq
        (Stmt.region
          [SOper.mk (some 7) none (SOp.mv (Operand.tmp 1)),
            SOper.mk (some 8) none (SOp.ibin BinOp.add (Operand.tmp 7) (Operand.const (Value.int IntKind.i64 1))),
            SOper.mk (some 9) none (SOp.mv (Operand.const (Value.int IntKind.i64 0)))]
          [0, 5, 6, 8, 9])
        (Stmt.block 0 (Stmt.loop S143_1 [5, 6, 9] [0, 8])))
      (Stmt.seq
        (Stmt.region
          [SOper.mk (some 20) none (SOp.mv (Operand.tmp 5)), SOper.mk (some 4) none (SOp.mv (Operand.tmp 20))] [4])
        Stmt.ret)))
def S143 : FnS := ⟨21, [(4, none)], S143_0⟩
theorem tr143 : trFn Try.prog 143 [] [[0, 1], [0, 1, 5, 6], [0, 5, 6, 8, 9], [5, 6, 9], [0, 8], [0, 5, 6, 8, 9, 10], [0, 5, 6, 8, 9], [0, 5, 6, 8, 9], [0, 5, 6, 8, 9], [4]] = some S143 := by kernel_rfl
end Go.Proofs.Ytniobbepliknmaa.V
