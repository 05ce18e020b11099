/- Texts put together, in the order in which they build; each says what it proves; no condition. -/
import Derived.Test.YtniobbepliknmaaM3
import Derived.Maps.Keyed
import Derived.DeepKeys5
import Derived.MapFrom
import Derived.Test.YtniobbepliknmaaM2
import Derived.Test.YtniobbepliknmaaProg
/- Maps: a map as the list of its keys and values; no condition. -/
namespace Go.Proofs.Ytniobbepliknmaa.V
open Go
set_option linter.unusedVariables false
set_option linter.unusedSimpArgs false
set_option linter.unusedSectionVars false
attribute [local go_sem] e_seq e_region e_quiet e_join e_loop e_cond e_block e_exit e_ret e_skip e_fin e_kseq e_snrm e_sret e_sex e_bnrm e_bret e_bex e_rnrm e_rret e_res e_condC e_nil e_g e_mv g_mv e_pick g_pick pickC_eq e_ibin g_ibin ibinC_eq e_sbin g_sbin e_beq g_beq beqC_eq e_nilq g_nilq nilqC_sl nilqC_pt nilqC_mp e_un g_un unC_not unC_neg e_conv g_conv convC_eq e_fld g_fld fldC_ref fldC_ptr e_nilCheck g_nilCheck nilCheckC_ref nilCheckC_ptr nilCheckC_fun e_field g_field fieldC_eq e_len g_len lenC_sl lenC_str e_extract g_extract extractC_eq e_mkFunc e_build g_build e_idiv g_idiv idivC_eq e_ishift g_ishift ishiftC_eq e_idx g_idx e_idxA g_idxA e_load g_load loadC_ref loadC_ptr loadB_eq e_slc g_slc e_box boxC_loc boxC_esc e_alloc allocC_loc allocC_esc e_buildS e_store storeC_ref storeC_ptr storeB_eq e_append e_appz e_mk mkC_eq e_call callC_eq e_fn g_fn fnC_eq fnV_min' fnV_max' fnV_rune' e_q g_q e_a e_n g_call g_box g_alloc g_buildS g_store g_append g_mk g_a g_n g_dead e_dead e_callK e_drawn e_tree e_finJ e_tk e_tfin e_tno e_nbt_q e_nbt_qn e_nbt_a e_nbt_an e_nbt_fin e_early_nil e_early_t e_early_f e_nob_nil e_nob_none e_nob_some isBox_dead isBox_v isBox_ref e_dnil e_dk e_ek e_finB vcOps_vc1 e_dcons e_tq e_ekt e_tearly e_talt e_dearly look_nil look_c proj_nil proj_c looks_nil looks_c zip_nil zip_c val_tmp val_const val_func slv_v slv_box slv_ref slot_tmp slot_const slot_func slotL_v slotL_box slotL_ref put_some put_none updBox_c boxSet_box gd_eq slotVals_nil slotVals_c slotVals_b boxV_box boxOn_box slotsOn_nil slotsOn_c slotsOn_b resV_one resV_two vals_nil vals_c allOn_nil allOn_c partOn_nil partOn_c partVals_nil partVals_c fits_nil fits_c fillL_nil fillL_c mkv_one mkv_agg cellsV_agg cellsV_int cellsV_bool cellsV_slice cellsV_string cellsV_pointer cellsV_func cellsV_nilf cellsV_map one'_nil one'_c oc_int oc_bool oc_slice oc_string oc_pointer oc_func oc_nilf oc_map setC_eq iv_add iv_sub iv_mul iv_eql iv_neq iv_lss iv_leq iv_gtr iv_geq iok_add iok_sub iok_mul iok_eql iok_neq iok_lss iok_leq iok_gtr iok_geq pickV_bool args0_nil args0_c bnd_none bnd_some imp_bt imp_bf imp_ebt imp_ebf imp_eb1 imp_np imp_pp beq_tt beq_tf beq_ft beq_ff cond_or cond_and e_round e_meet Int.le_refl Int.toNat_zero decide_true decide_false Bool.or_false Bool.false_or Bool.true_or Bool.or_true Bool.and_false Bool.false_and Bool.bne_false Bool.bne_true beq_iff_eq Int.cast_ofNat_Int not_false_eq_true not_true_eq_false false_and and_false false_implies true_implies true_and and_true Bool.true_and Bool.and_true Bool.not_true Bool.not_false forall_const implies_true List.take_zero List.drop_zero List.take_succ_cons List.drop_succ_cons List.take_nil List.drop_nil List.length_cons List.length_nil List.nil_append List.append_nil List.cons_append Int.toNat_natCast decide_eq_true_eq decide_eq_false_iff_not cond_true cond_false and_self List.getElem?_cons_zero List.getElem?_cons_succ List.set_cons_zero List.set_cons_succ Option.some.injEq exists_eq_left' Nat.zero_add Nat.add_zero Nat.mul_one imp_self true_or or_true or_false false_or Bool.or_eq_true Bool.or_eq_false_iff Bool.and_eq_true Bool.and_eq_false_iff Bool.not_eq_true' Bool.not_eq_false'

theorem zero_run {P : Program} {e : TypeId} {z : Value} (h : (P.info? e).bind (·.zero) = some z) (w : World) : (zeroValue e).run P w = .ok z w := by
  obtain ⟨i, hi, hz⟩ := Option.bind_eq_some_iff.1 h
  simp [zeroValue, typeInfo, hi, hz]
/-- what a map's operations need of the keys -/
structure KT (P : Program) (k : TypeId) {α : Type} (eK : α → Value) (good : α → Prop) : Prop where
  inj : ∀ a b, eK a = eK b → a = b
  check : ∀ (w : World) (em : Bool) a, good a → (Instr.checkKey em 10000 k (eK a)).run P w = .ok () w
  find : ∀ (w : World) a, good a → ∀ es : List MapEntry, (∀ e ∈ es, ∃ b, good b ∧ e.key = eK b) →
    ((Instr.findKey k (eK a) es).run P w = .ok none w ∧ ∀ e ∈ es, e.key ≠ eK a) ∨ ∃ j e, (Instr.findKey k (eK a) es).run P w = .ok (some (j, e.val)) w ∧ es[j]? = some e ∧ e.key = eK a
  stays : ∀ (w : World) a, good a → (Instr.keyThatStays (eK a) (eK a)).run P w = .ok (eK a) w
theorem KT.of {P : Program} {k : TypeId} {α : Type} {eK : α → Value} {good : α → Prop} (K : Maps.Keyed P k) (hi : ∀ a b, eK a = eK b → a = b) (h : ∀ a, good a → ∃ l, keyOf P k (eK a) = some l) : KT P k eK good where
  inj := hi
  check w em a ha := by obtain ⟨l, hl⟩ := h a ha; exact K.check w em hl
  find w a ha es he := by
    obtain ⟨l, hl⟩ := h a ha
    exact K.find w hl es fun e hm => by obtain ⟨b, hb, q⟩ := he e hm; rw [q]; exact h b hb
  stays w a ha := by obtain ⟨l, hl⟩ := h a ha; exact K.stays w hl

section
variable {α β : Type}
/-- each entry has its own time of birth, which is past -/
def Born (es : List MapEntry) (clock : Nat) : Prop := (∀ e ∈ es, e.born < clock) ∧ (es.map (·.born)).Nodup
/-- the map b lies in memory -/
structure MapL (L : Mem) (b : Nat) (eK : α → Value) (eV : β → Value) (good : α → Prop) (l : List (α × β)) : Prop where
  nodup : (l.map (·.1)).Nodup
  good : ∀ p ∈ l, good p.1
  at' : ∃ es clock, L b (.map es clock) ∧ es.toList.map (fun e => (e.key, e.val)) = l.map (fun p => (eK p.1, eV p.2)) ∧ Born es.toList clock
theorem MapL.mono {L L' : Mem} {b : Nat} {eK : α → Value} {eV : β → Value} {good : α → Prop} {l : List (α × β)} (h : MapL L b eK eV good l) (hl : Mem.le L L') : MapL L' b eK eV good l :=
  ⟨h.nodup, h.good, let ⟨es, c, q1, q2⟩ := h.at'; ⟨es, c, hl _ _ q1, q2⟩⟩
/-- the map b is a heap's -/
def MapM (g : PH) (b : Nat) (eK : α → Value) (eV : β → Value) (good : α → Prop) (l : List (α × β)) : Prop := MapL (fun b o => g b = some o) b eK eV good l
theorem MapM.l {g : PH} {Γ : Ctx} {b : Nat} {eK : α → Value} {eV : β → Value} {good : α → Prop} {l : List (α × β)} (h : MapM g b eK eV good l) (hg : g ∈ Γ) : MapL (lk Γ) b eK eV good l :=
  MapL.mono h fun _ _ q => ⟨g, hg, q⟩
theorem MapM.mono {g g' : PH} {b : Nat} {eK : α → Value} {eV : β → Value} {good : α → Prop} {l : List (α × β)} (h : MapM g b eK eV good l) (hg : Mem.le (lk [g]) (lk [g'])) : MapM g' b eK eV good l :=
  MapL.mono h fun b o q => by obtain ⟨x, hx, q'⟩ := hg b o ⟨g, by simp, q⟩; simp at hx; subst hx; exact q'
theorem MapM.new (b : Nat) (eK : α → Value) (eV : β → Value) (good : α → Prop) : MapM (one b (.map #[] 0)) b eK eV good ([] : List (α × β)) := ⟨by simp, by simp, #[], 0, one_self _ _, rfl, by simp [Born]⟩

theorem entry_of {es : Array MapEntry} {eK : α → Value} {eV : β → Value} {l : List (α × β)} (h : es.toList.map (fun e => (e.key, e.val)) = l.map (fun p => (eK p.1, eV p.2))) {j : Nat} {e : MapEntry} (hj : es.toList[j]? = some e) : ∃ p, l[j]? = some p ∧ e.key = eK p.1 ∧ e.val = eV p.2 := by
  have h1 := congrArg (·[j]?) h
  simp only [List.getElem?_map, hj, Option.map_some] at h1
  cases hp : l[j]? with
  | none => rw [hp] at h1; simp at h1
  | some p => rw [hp] at h1; simp at h1; exact ⟨p, rfl, h1.1, h1.2⟩
theorem entry_good {L : Mem} {b : Nat} {eK : α → Value} {eV : β → Value} {good : α → Prop} {l : List (α × β)} (hm : MapL L b eK eV good l) {es : Array MapEntry} (h : es.toList.map (fun e => (e.key, e.val)) = l.map (fun p => (eK p.1, eV p.2))) : ∀ e ∈ es.toList, ∃ b, good b ∧ e.key = eK b := by
  intro e he
  obtain ⟨j, hj⟩ := List.getElem?_of_mem he
  obtain ⟨p, hp, hk, _⟩ := entry_of h hj
  exact ⟨p.1, hm.good p (List.mem_of_getElem? hp), hk⟩
theorem entry_none {es : Array MapEntry} {eK : α → Value} {eV : β → Value} {l : List (α × β)} (h : es.toList.map (fun e => (e.key, e.val)) = l.map (fun p => (eK p.1, eV p.2))) {a : α} (hn : ∀ e ∈ es.toList, e.key ≠ eK a) : a ∉ l.map (·.1) := by
  intro ha
  obtain ⟨p, hp, rfl⟩ := List.mem_map.1 ha
  have : (eK p.1, eV p.2) ∈ es.toList.map (fun e => (e.key, e.val)) := by rw [h]; exact List.mem_map.2 ⟨p, hp, rfl⟩
  obtain ⟨e, he, q⟩ := List.mem_map.1 this
  simp at q
  exact hn e he q.1

end
section
variable {α β : Type} [DecidableEq α]
def mget (l : List (α × β)) (a : α) : Option β := (l.find? (fun p => decide (p.1 = a))).map (·.2)
def mput (l : List (α × β)) (a : α) (v : β) : List (α × β) := if a ∈ l.map (·.1) then l.map (fun p => if p.1 = a then (a, v) else p) else l ++ [(a, v)]
theorem mget_none {l : List (α × β)} {a : α} : mget l a = none ↔ a ∉ l.map (·.1) := by
  simp only [mget, Option.map_eq_none_iff, List.find?_eq_none, decide_eq_true_eq, List.mem_map, not_exists, not_and]
theorem mget_at {l : List (α × β)} (hn : (l.map (·.1)).Nodup) {j : Nat} {p : α × β} (h : l[j]? = some p) : mget l p.1 = some p.2 := by
  obtain ⟨hj, rfl⟩ := List.getElem?_eq_some_iff.1 h
  have : l.find? (fun q => decide (q.1 = l[j].1)) = some l[j] := by
    rw [List.find?_eq_some_iff_getElem]
    refine ⟨by simp, j, hj, rfl, fun i hi => ?_⟩
    simp only [Bool.not_eq_eq_eq_not, Bool.not_true, decide_eq_false_iff_not]
    intro e
    have := (List.pairwise_iff_getElem.1 hn) i j (by simp; omega) (by simpa using hj) hi
    simp at this
    exact this e
  rw [mget, this]
  rfl
theorem mput_keys (l : List (α × β)) (a : α) (v : β) : (mput l a v).map (·.1) = if a ∈ l.map (·.1) then l.map (·.1) else l.map (·.1) ++ [a] := by
  unfold mput
  split
  · rw [List.map_map]
    apply List.map_congr_left
    intro p _
    simp only [Function.comp]
    split
    · rename_i h; exact h.symm
    · rfl
  · simp
theorem mput_nodup {l : List (α × β)} (hn : (l.map (·.1)).Nodup) (a : α) (v : β) : ((mput l a v).map (·.1)).Nodup := by
  rw [mput_keys]
  split
  · exact hn
  · rw [List.nodup_append]
    refine ⟨hn, by simp, ?_⟩
    rintro x hx y hy rfl
    simp at hy
    subst hy
    contradiction
theorem mget_put {l : List (α × β)} (a x : α) (v : β) : mget (mput l a v) x = if x = a then some v else mget l x := by
  unfold mput mget
  split
  · rename_i hin
    rw [List.find?_map]
    by_cases e : x = a
    · subst e
      rw [if_pos rfl]
      have : (fun p : α × β => decide (p.1 = x)) ∘ (fun p : α × β => if p.1 = x then (x, v) else p) = fun p => decide (p.1 = x) := by
        funext p; simp only [Function.comp]; split <;> simp_all
      rw [this]
      cases hf : l.find? (fun p => decide (p.1 = x)) with
      | none =>
        rw [List.find?_eq_none] at hf
        simp only [List.mem_map] at hin
        obtain ⟨p, hp, rfl⟩ := hin
        exact absurd (hf p hp) (by simp)
      | some p =>
        have := List.find?_some hf
        simp only [decide_eq_true_eq] at this
        simp [this]
    · rw [if_neg e]
      have : (fun p : α × β => decide (p.1 = x)) ∘ (fun p : α × β => if p.1 = a then (a, v) else p) = fun p => decide (p.1 = x) := by
        funext p
        simp only [Function.comp]
        split
        · rename_i h; simp [h, fun q : a = x => e q.symm]
        · rfl
      rw [this]
      cases hf : l.find? (fun p => decide (p.1 = x)) with
      | none => rfl
      | some p =>
        have := List.find?_some hf
        simp only [decide_eq_true_eq] at this
        simp [this, e]
  · rename_i hin
    rw [List.find?_append]
    by_cases e : x = a
    · subst e
      rw [if_pos rfl]
      have : l.find? (fun p => decide (p.1 = x)) = none := by
        rw [List.find?_eq_none]
        intro p hp h
        simp only [decide_eq_true_eq] at h
        exact hin (List.mem_map.2 ⟨p, hp, h⟩)
      simp [this]
    · rw [if_neg e]
      have e' : ¬ a = x := fun q => e q.symm
      simp [e']

/-- a set -/
def mset {γ : Type} (f : γ → α) (l : List γ) : List (α × Bool) := l.map fun x => (f x, true)
theorem mset_keys {γ : Type} (f : γ → α) (l : List γ) : (mset f l).map (·.1) = l.map f := by simp [mset]
theorem mget_set {γ : Type} (f : γ → α) (l : List γ) (a : α) : mget (mset f l) a = if a ∈ l.map f then some true else none := by
  split
  · rename_i h
    have hne : mget (mset f l) a ≠ none := by rw [Ne, mget_none, mset_keys]; simpa using h
    cases hg : mget (mset f l) a with
    | none => exact absurd hg hne
    | some v =>
      simp only [mget, Option.map_eq_some_iff] at hg
      obtain ⟨p, hp, rfl⟩ := hg
      have := List.mem_of_find?_eq_some hp
      simp only [mset, List.mem_map] at this
      obtain ⟨x, _, rfl⟩ := this
      rfl
  · rename_i h
    rw [mget_none, mset_keys]
    exact h
theorem mput_set {γ : Type} (f : γ → α) (l : List γ) (x : γ) (h : f x ∉ l.map f) : mput (mset f l) (f x) true = mset f (l ++ [x]) := by
  rw [mput, mset_keys, if_neg h]
  simp [mset]
theorem qr_look {P : Program} {Γ : Ctx} {t kt et : TypeId} {eK : α → Value} {eV : β → Value} {good : α → Prop} {z : Value} (T : KT P kt eK good) (ht : P.underlying t = some (.map kt et)) (hz : ∀ w, (zeroValue et).run P w = .ok z w) (ok : Bool)
    {b : Nat} {l : List (α × β)} (hm : MapL (lk Γ) b eK eV good l) {a : α} (ha : good a) :
    QR P (.look t ok) [.map (some b), eK a] Γ (if ok then .tuple #[(mget l a).elim z eV, .bool (mget l a).isSome] else (mget l a).elim z eV) := by
  intro w hw
  obtain ⟨es, clock, hb, he, _⟩ := hm.at'
  obtain ⟨h, hh, hb⟩ := hb
  have hb := hw h hh b _ hb
  simp only [qsem]
  rcases T.find w a ha es.toList (entry_good hm he) with ⟨h1, h2⟩ | ⟨j, e, h1, h2, h3⟩
  · have hg : mget l a = none := mget_none.2 (entry_none he h2)
    cases ok <;> simp [Instr.lookup, run_underlying ht, MapKept.run_getObj_map hb, T.check w _ a ha, h1, hz w, hg, Result.andThen]
  · obtain ⟨p, hp, hk, hv⟩ := entry_of he h2
    have : p.1 = a := T.inj _ _ (by rw [← hk, h3])
    subst this
    have hg := mget_at hm.nodup hp
    cases ok <;> simp [Instr.lookup, run_underlying ht, MapKept.run_getObj_map hb, T.check w _ _ ha, h1, hg, hv, Result.andThen]

section
variable {P : Program} {Γr : Ctx} {d : Option Nat} {r : List SOper} {φ : Fr} {Γ : Ctx} {K : Fr → Ctx → Prop}
theorem s_mkmap {t : TypeId} (hk : ∀ b, vcOps P Γr r (put φ d (.v true (.map (some b)))) (one b (.map #[] 0) :: Γ) K) : nC P Γr d r φ Γ K (.mkmap t) [] := by
  intro w _
  exact ⟨_, _, by simp only [qsem, List.head?_nil]; rfl, hk _⟩
theorem entry_put {es : Array MapEntry} {eK : α → Value} {eV : β → Value} {l : List (α × β)} {i : Nat} {a : α} {v : β} (hn : (l.map (·.1)).Nodup) (h : es.toList.map (fun e => (e.key, e.val)) = l.map (fun p => (eK p.1, eV p.2))) {p : α × β} (hp : l[i]? = some p) (ha : p.1 = a) :
    (es.modify i fun e => { e with key := eK a, val := eV v }).toList.map (fun e => (e.key, e.val)) = (mput l a v).map (fun p => (eK p.1, eV p.2)) := by
  have hin : a ∈ l.map (·.1) := List.mem_map.2 ⟨p, List.mem_of_getElem? hp, ha⟩
  rw [mput, if_pos hin]
  apply List.ext_getElem?
  intro j
  have hj := congrArg (·[j]?) h
  simp only [List.getElem?_map, Array.getElem?_toList] at hj ⊢
  rw [Array.getElem?_modify]
  obtain ⟨hi, rfl⟩ := List.getElem?_eq_some_iff.1 hp
  by_cases e : i = j
  · subst e
    rw [hp] at hj ⊢
    simp only [if_true, Option.map_some, ha] at hj ⊢
    cases hq : es[i]? with
    | none => rw [hq] at hj; simp at hj
    | some q => simp
  · rw [if_neg e, hj]
    cases hq : l[j]? with
    | none => rfl
    | some q =>
      obtain ⟨hj', rfl⟩ := List.getElem?_eq_some_iff.1 hq
      have : ¬ l[j].1 = a := fun q => by
        rw [← q] at ha
        have hpw := List.pairwise_iff_getElem.1 hn
        rcases Nat.lt_or_ge i j with q1 | q1
        · have := hpw i j (by simpa using hi) (by simpa using hj') q1
          simp at this
          exact this ha
        · have := hpw j i (by simpa using hj') (by simpa using hi) (by omega)
          simp at this
          exact this ha.symm
      simp [this]
theorem born_put {es : Array MapEntry} {c : Nat} (h : Born es.toList c) {j : Nat} {x y : Value} : Born (es.modify j fun e => { e with key := x, val := y }).toList c := by
  have hm : (es.modify j fun e => { e with key := x, val := y }).toList.map (·.born) = es.toList.map (·.born) := by
    apply List.ext_getElem?
    intro i
    simp only [List.getElem?_map, Array.getElem?_toList, Array.getElem?_modify]
    split
    · cases es[i]? <;> rfl
    · rfl
  refine ⟨fun e he => ?_, by rw [hm]; exact h.2⟩
  have : e.born ∈ es.toList.map (·.born) := by rw [← hm]; exact List.mem_map.2 ⟨e, he, rfl⟩
  obtain ⟨e', h1, h2⟩ := List.mem_map.1 this
  rw [← h2]
  exact h.1 e' h1
theorem s_upd {t kt et : TypeId} {eK : α → Value} {eV : β → Value} {good : α → Prop} (T : KT P kt eK good) (ht : P.underlying t = some (.map kt et)) {g : PH} {ix b : Nat} {l : List (α × β)} (hg : Γ[ix]? = some g) (hm : MapM g b eK eV good l) {a : α} (v : β) (ha : good a)
    (hk : ∀ g', MapM g' b eK eV good (mput l a v) → (∀ k, k ≠ b → g' k = g k) → vcOps P Γr r (put φ d (.v true undef)) (Γ.set ix g') K) : aC P Γr d r φ Γ K (.upd t) [.map (some b), eK a, eV v] := by
  intro w hw
  obtain ⟨es, clock, hb0, he, hbo⟩ := hm.at'
  have hgΓ : g ∈ Γ := List.mem_of_getElem? hg
  have hb := hw g (by simp [hgΓ]) b _ hb0
  have hgood : ∀ p ∈ mput l a v, good p.1 := fun p hp => by
    have : p.1 ∈ (mput l a v).map (·.1) := List.mem_map.2 ⟨p, hp, rfl⟩
    rw [mput_keys] at this
    split at this
    · obtain ⟨q, hq, e⟩ := List.mem_map.1 this
      rw [← e]; exact hm.good q hq
    · simp only [List.mem_append, List.mem_singleton] at this
      rcases this with q | q
      · obtain ⟨q, hq, e⟩ := List.mem_map.1 q
        rw [← e]; exact hm.good q hq
      · rw [q]; exact ha
  have hc := T.check w false a ha
  rcases T.find w a ha es.toList (entry_good hm he) with ⟨h1, h2⟩ | ⟨j, e, h1, h2, h3⟩
  · have hno := entry_none he h2
    refine ⟨undef, setBlk w b (.map (es.push { key := eK a, val := eV v, born := clock }) (clock + 1)), 0, ?_, .inr ⟨ix, g, b, _, _, hg, hb0, rfl, hk _ ⟨mput_nodup hm.nodup a v, hgood, _, _, upd_self _ _ _, ?_, ?_⟩ fun k hne => upd_other hne⟩⟩
    · simp [qsem, Instr.mapUpdate, run_underlying ht, MapKept.run_getObj_map hb, hc, h1, MapKept.run_setObj_map _ hb, Result.andThen, setBlk]
    · rw [mput, if_neg hno, Array.toList_push, List.map_append, he, List.map_append]
      rfl
    · rw [Array.toList_push]
      refine ⟨fun e he => ?_, ?_⟩
      · rcases List.mem_append.1 he with he | he
        · have := hbo.1 e he; omega
        · simp at he; subst he; simp
      · rw [List.map_append, List.nodup_append]
        refine ⟨hbo.2, by simp, ?_⟩
        rintro x hx y hy rfl
        simp at hy
        obtain ⟨e, he, rfl⟩ := List.mem_map.1 hx
        have := hbo.1 e he
        omega
  · obtain ⟨p, hp, hk', hv⟩ := entry_of he h2
    have hpa : p.1 = a := T.inj _ _ (by rw [← hk', h3])
    have hj : es[j]? = some e := by simpa using h2
    refine ⟨undef, setBlk w b (.map (es.modify j fun e => { e with key := eK a, val := eV v }) clock), 0, ?_, .inr ⟨ix, g, b, _, _, hg, hb0, rfl, hk _ ⟨mput_nodup hm.nodup a v, hgood, _, _, upd_self _ _ _, entry_put hm.nodup he hp hpa, born_put hbo⟩ fun k hne => upd_other hne⟩⟩
    simp [qsem, Instr.mapUpdate, run_underlying ht, MapKept.run_getObj_map hb, hc, h1, hj, h3, T.stays w a ha, MapKept.run_setObj_map _ hb, Result.andThen, setBlk]
end
end
end Go.Proofs.Ytniobbepliknmaa.V
/- Grids: rows of rows that are made and changed; no condition. -/
namespace Go.Proofs.Ytniobbepliknmaa.V
open Go
set_option linter.unusedVariables false
set_option linter.unusedSimpArgs false
set_option linter.unusedSectionVars false
attribute [local go_sem] e_seq e_region e_quiet e_join e_loop e_cond e_block e_exit e_ret e_skip e_fin e_kseq e_snrm e_sret e_sex e_bnrm e_bret e_bex e_rnrm e_rret e_res e_condC e_nil e_g e_mv g_mv e_pick g_pick pickC_eq e_ibin g_ibin ibinC_eq e_sbin g_sbin e_beq g_beq beqC_eq e_nilq g_nilq nilqC_sl nilqC_pt nilqC_mp e_un g_un unC_not unC_neg e_conv g_conv convC_eq e_fld g_fld fldC_ref fldC_ptr e_nilCheck g_nilCheck nilCheckC_ref nilCheckC_ptr nilCheckC_fun e_field g_field fieldC_eq e_len g_len lenC_sl lenC_str e_extract g_extract extractC_eq e_mkFunc e_build g_build e_idiv g_idiv idivC_eq e_ishift g_ishift ishiftC_eq e_idx g_idx e_idxA g_idxA e_load g_load loadC_ref loadC_ptr loadB_eq e_slc g_slc e_box boxC_loc boxC_esc e_alloc allocC_loc allocC_esc e_buildS e_store storeC_ref storeC_ptr storeB_eq e_append e_appz e_mk mkC_eq e_call callC_eq e_fn g_fn fnC_eq fnV_min' fnV_max' fnV_rune' e_q g_q e_a e_n g_call g_box g_alloc g_buildS g_store g_append g_mk g_a g_n g_dead e_dead e_callK e_drawn e_tree e_finJ e_tk e_tfin e_tno e_nbt_q e_nbt_qn e_nbt_a e_nbt_an e_nbt_fin e_early_nil e_early_t e_early_f e_nob_nil e_nob_none e_nob_some isBox_dead isBox_v isBox_ref e_dnil e_dk e_ek e_finB vcOps_vc1 e_dcons e_tq e_ekt e_tearly e_talt e_dearly look_nil look_c proj_nil proj_c looks_nil looks_c zip_nil zip_c val_tmp val_const val_func slv_v slv_box slv_ref slot_tmp slot_const slot_func slotL_v slotL_box slotL_ref put_some put_none updBox_c boxSet_box gd_eq slotVals_nil slotVals_c slotVals_b boxV_box boxOn_box slotsOn_nil slotsOn_c slotsOn_b resV_one resV_two vals_nil vals_c allOn_nil allOn_c partOn_nil partOn_c partVals_nil partVals_c fits_nil fits_c fillL_nil fillL_c mkv_one mkv_agg cellsV_agg cellsV_int cellsV_bool cellsV_slice cellsV_string cellsV_pointer cellsV_func cellsV_nilf cellsV_map one'_nil one'_c oc_int oc_bool oc_slice oc_string oc_pointer oc_func oc_nilf oc_map setC_eq iv_add iv_sub iv_mul iv_eql iv_neq iv_lss iv_leq iv_gtr iv_geq iok_add iok_sub iok_mul iok_eql iok_neq iok_lss iok_leq iok_gtr iok_geq pickV_bool args0_nil args0_c bnd_none bnd_some imp_bt imp_bf imp_ebt imp_ebf imp_eb1 imp_np imp_pp beq_tt beq_tf beq_ft beq_ff cond_or cond_and e_round e_meet Int.le_refl Int.toNat_zero decide_true decide_false Bool.or_false Bool.false_or Bool.true_or Bool.or_true Bool.and_false Bool.false_and Bool.bne_false Bool.bne_true beq_iff_eq Int.cast_ofNat_Int not_false_eq_true not_true_eq_false false_and and_false false_implies true_implies true_and and_true Bool.true_and Bool.and_true Bool.not_true Bool.not_false forall_const implies_true List.take_zero List.drop_zero List.take_succ_cons List.drop_succ_cons List.take_nil List.drop_nil List.length_cons List.length_nil List.nil_append List.append_nil List.cons_append Int.toNat_natCast decide_eq_true_eq decide_eq_false_iff_not cond_true cond_false and_self List.getElem?_cons_zero List.getElem?_cons_succ List.set_cons_zero List.set_cons_succ Option.some.injEq exists_eq_left' Nat.zero_add Nat.add_zero Nat.mul_one imp_self true_or or_true or_false false_or Bool.or_eq_true Bool.or_eq_false_iff Bool.and_eq_true Bool.and_eq_false_iff Bool.not_eq_true' Bool.not_eq_false'

section
variable {α : Type} [Sc α]
def gcell (p : Option Nat × List α) : Value := match p.1 with
  | none => .slice none 0 0
  | some k => .slice (some ⟨k, 0, none⟩) p.2.length p.2.length
structure GridB (g : PH) (b : Nat) (T e : TypeId) (ps : List (Option Nat × List α)) : Prop where
  out : g b = some (.cells (ps.map gcell).toArray T (0, 0))
  row : ∀ (i k : Nat) xs, ps[i]? = some (some k, xs) → k ≠ b ∧ g k = some (.cells (xs.map Sc.enc).toArray e (0, 0)) ∧ xs.length ≤ 1000000
  nil : ∀ (i : Nat) xs, ps[i]? = some (none, xs) → xs = []
  apart : ∀ (i j k : Nat) xs ys, ps[i]? = some (some k, xs) → ps[j]? = some (some k, ys) → i = j
  short : ps.length ≤ 1000000
/-- the rows of a grid whose outer array is b -/
def Grid (g : PH) (b : Nat) (T e : TypeId) (rows : List (List α)) : Prop := ∃ ps, GridB g b T e ps ∧ rows = ps.map (·.2)

theorem Grid.made (b : Nat) (T e : TypeId) {m : Nat} (hm : m ≤ 1000000) : Grid (one b (.cells (zerosL [Value.slice none 0 0] m).toArray T)) b T e (List.replicate m ([] : List α)) := by
  refine ⟨List.replicate m (none, []), ⟨?_, ?_, ?_, ?_, by simpa using hm⟩, by simp⟩
  · rw [one_self]
    congr 3
    induction m with
    | zero => rfl
    | succ m ih => simp [zerosL, List.replicate_succ, gcell, ih (by omega)]
  · intro i k xs h
    rw [List.getElem?_replicate] at h
    split at h <;> simp at h
  · intro i xs h
    rw [List.getElem?_replicate] at h
    split at h <;> simp at h
    exact h
  · intro i j k xs ys h
    rw [List.getElem?_replicate] at h
    split at h <;> simp at h
theorem Grid.mono {g g' : PH} {b : Nat} {T e : TypeId} {rows : List (List α)} (h : Grid g b T e rows) (hl : Mem.le (lk [g]) (lk [g'])) : Grid g' b T e rows := by
  obtain ⟨ps, h, rfl⟩ := h
  have up : ∀ k o, g k = some o → g' k = some o := fun k o q => lk_one.1 (hl _ _ (lk_one.2 q))
  exact ⟨ps, ⟨up _ _ h.out, fun i k xs q => let ⟨a, b, c⟩ := h.row i k xs q; ⟨a, up _ _ b, c⟩, h.nil, h.apart, h.short⟩, rfl⟩
theorem Grid.short {g : PH} {b : Nat} {T e : TypeId} {rows : List (List α)} (h : Grid g b T e rows) : rows.length ≤ 1000000 := by
  obtain ⟨ps, h, rfl⟩ := h
  simpa using h.short
theorem Grid.slok {g : PH} {b : Nat} {T e : TypeId} {rows : List (List α)} {L : Mem} (h : Grid g b T e rows) (hL : Mem.le (lk [g]) L) : SlOk L (some ⟨b, 0, none⟩) rows.length rows := by
  have hs := h.short
  obtain ⟨ps, h, rfl⟩ := h
  refine ⟨Nat.le_refl _, by unfold maxLen; omega, by omega, .inr ⟨b, 0, _, T, _, rfl, hL _ _ (lk_one.2 h.out), fun i x hi => ?_⟩⟩
  rw [List.getElem?_map] at hi
  cases hp : ps[i]? with
  | none => rw [hp] at hi; simp at hi
  | some p =>
    obtain ⟨o, xs⟩ := p
    rw [hp] at hi
    simp only [Option.map_some, Option.some.injEq] at hi
    subst hi
    refine ⟨[gcell (o, xs)], ?_, fun j hj => ?_⟩
    · cases o with
      | none =>
        have := h.nil i xs hp
        subst this
        exact ⟨none, 0, rfl, SlOk.nil⟩
      | some k =>
        obtain ⟨h1, h2, h3⟩ := h.row i k xs hp
        exact ⟨_, _, rfl, Arr.slok (g := g) (b := k) (T := e) h2 hL (Nat.le_refl _) (by unfold maxLen; show xs.length ≤ _; omega) (by omega)⟩
    · have : j = 0 := by simp [Rep.sz] at hj; exact hj
      subst this
      simp [Rep.sz, hp]
/-- rows[i] is to be changed -/
theorem Grid.at' {g : PH} {b : Nat} {T e : TypeId} {rows : List (List α)} (h : Grid g b T e rows) {i : Nat} (hi : i < rows.length) (hpos : 0 < rows[i].length) :
    ∃ k, (∀ Γ : Ctx, g ∈ Γ → Cells Γ b i [.slice (some ⟨k, 0, none⟩) rows[i].length rows[i].length]) ∧ Arr g k e rows[i] ∧
      ∀ g' (xs : List α), Arr g' k e xs → xs.length = rows[i].length → (∀ x, x ≠ k → g' x = g x) → Grid g' b T e (rows.set i xs) := by
  obtain ⟨ps, h, rfl⟩ := h
  have hi' : i < ps.length := by simpa using hi
  obtain ⟨o, xs, hp⟩ : ∃ o xs, ps[i]? = some (o, xs) := ⟨_, _, List.getElem?_eq_getElem hi'⟩
  have hx : (ps.map (·.2))[i] = xs := by
    have := (List.getElem?_eq_some_iff.1 hp).2
    simp [this]
  simp only [hx] at hpos ⊢
  cases o with
  | none => have := h.nil i xs hp; subst this; simp at hpos
  | some k =>
    obtain ⟨h1, h2, h3⟩ := h.row i k xs hp
    refine ⟨k, fun Γ hg => ⟨g, hg, _, T, _, h.out, fun j hj => ?_⟩, h2, fun g' ys hA hl ho => ?_⟩
    · have : j = 0 := by simp at hj; exact hj
      subst this
      simp [hp, gcell]
    · have hset : ∀ j, (ps.set i (some k, ys))[j]? = if i = j then some (some k, ys) else ps[j]? := fun j => by
        rw [List.getElem?_set]
        by_cases e : i = j
        · subst e; simp [hi']
        · simp [e]
      refine ⟨ps.set i (some k, ys), ⟨?_, ?_, ?_, ?_, by simpa using h.short⟩, by simp [List.map_set]⟩
      · rw [ho b (fun q => h1 q.symm), h.out]
        congr 3
        apply List.ext_getElem?
        intro j
        rw [List.getElem?_map, List.getElem?_map, hset]
        by_cases e : i = j
        · subst e
          simp [hp, gcell, hl]
        · simp [e]
      · intro j m zs hj
        rw [hset] at hj
        by_cases e : i = j
        · subst e
          simp only [if_true, Option.some.injEq, Prod.mk.injEq] at hj
          obtain ⟨rfl, rfl⟩ := hj
          exact ⟨h1, hA, by omega⟩
        · rw [if_neg e] at hj
          obtain ⟨q1, q2, q3⟩ := h.row j m zs hj
          have hm : m ≠ k := fun q => by subst q; exact e (h.apart i j m xs zs hp hj)
          exact ⟨q1, by rw [ho m hm]; exact q2, q3⟩
      · intro j zs hj
        rw [hset] at hj
        by_cases e : i = j
        · subst e; simp at hj
        · rw [if_neg e] at hj; exact h.nil j zs hj
      · intro j j' m zs zs' hj hj'
        rw [hset] at hj hj'
        by_cases e : i = j
        · subst e
          simp only [if_true, Option.some.injEq, Prod.mk.injEq] at hj
          obtain ⟨rfl, rfl⟩ := hj
          by_cases e' : i = j'
          · exact e'
          · rw [if_neg e'] at hj'
            exact h.apart i j' k xs zs' hp hj'
        · rw [if_neg e] at hj
          by_cases e' : i = j'
          · subst e'
            simp only [if_true, Option.some.injEq, Prod.mk.injEq] at hj'
            obtain ⟨rfl, rfl⟩ := hj'
            exact h.apart j i k zs xs hj hp
          · rw [if_neg e'] at hj'
            exact h.apart j j' m zs zs' hj hj'
/-- a new row, whose array lies elsewhere, is put in -/
theorem Grid.put {g : PH} {b : Nat} {T e : TypeId} {rows : List (List α)} (h : Grid g b T e rows) {i : Nat} (hi : i < rows.length) (k : Nat) (xs : List α) (hl : xs.length ≤ 1000000) {cs : List Value} (hc : g b = some (.cells cs.toArray T (0, 0)))
    {x2 G : PH} (hA : Arr x2 k e xs) (hd : Disj x2 (upd g b (.cells (setC cs i 1 (.slice (some ⟨k, 0, none⟩) xs.length xs.length)).toArray T))) (hG : Mem.le (lk [x2, upd g b (.cells (setC cs i 1 (.slice (some ⟨k, 0, none⟩) xs.length xs.length)).toArray T)]) (lk [G])) :
    Grid G b T e (rows.set i xs) := by
  obtain ⟨ps, h, rfl⟩ := h
  have hi' : i < ps.length := by simpa using hi
  have hcs : cs = ps.map gcell := by
    have := h.out
    rw [hc] at this
    simpa using this
  subst hcs
  have up1 : ∀ j o, x2 j = some o → G j = some o := fun j o q => lk_one.1 (hG _ _ ⟨x2, by simp, q⟩)
  have up2 : ∀ j o, upd g b (.cells (setC (ps.map gcell) i 1 (.slice (some ⟨k, 0, none⟩) xs.length xs.length)).toArray T) j = some o → G j = some o := fun j o q => lk_one.1 (hG _ _ ⟨_, by simp, q⟩)
  have hkg : ∀ j, j = b ∨ g j ≠ none → j ≠ k := fun j hj q => by
    subst q
    rcases hd j with q | q
    · rw [Arr] at hA; rw [hA] at q; cases q
    · rcases hj with rfl | hj
      · rw [upd_self] at q; cases q
      · by_cases e : j = b
        · subst e; rw [upd_self] at q; cases q
        · rw [upd_other e] at q; exact hj q
  have hset : ∀ j, (ps.set i (some k, xs))[j]? = if i = j then some (some k, xs) else ps[j]? := fun j => by
    rw [List.getElem?_set]
    by_cases e : i = j
    · subst e; simp [hi']
    · simp [e]
  refine ⟨ps.set i (some k, xs), ⟨?_, ?_, ?_, ?_, by simpa using h.short⟩, by simp [List.map_set]⟩
  · rw [up2 b _ (upd_self _ _ _)]
    congr 3
    rw [List.map_set, List.set_eq_take_append_cons_drop, if_pos (by simpa using hi')]
    simp [setC, cellsV, gcell, Value.cells]
  · intro j m zs hj
    rw [hset] at hj
    by_cases e : i = j
    · subst e
      simp only [if_true, Option.some.injEq, Prod.mk.injEq] at hj
      obtain ⟨rfl, rfl⟩ := hj
      exact ⟨fun q => hkg b (.inl rfl) q.symm, up1 _ _ hA, hl⟩
    · rw [if_neg e] at hj
      obtain ⟨q1, q2, q3⟩ := h.row j m zs hj
      exact ⟨q1, up2 _ _ (by rw [upd_other q1]; exact q2), q3⟩
  · intro j zs hj
    rw [hset] at hj
    by_cases e : i = j
    · subst e; simp at hj
    · rw [if_neg e] at hj; exact h.nil j zs hj
  · intro j j' m zs zs' hj hj'
    rw [hset] at hj hj'
    by_cases e : i = j
    · subst e
      simp only [if_true, Option.some.injEq, Prod.mk.injEq] at hj
      obtain ⟨rfl, rfl⟩ := hj
      by_cases e' : i = j'
      · exact e'
      · rw [if_neg e'] at hj'
        have := (h.row j' k zs' hj').2.1
        exact absurd rfl (hkg k (.inr (by rw [this]; simp)))
    · rw [if_neg e] at hj
      by_cases e' : i = j'
      · subst e'
        simp only [if_true, Option.some.injEq, Prod.mk.injEq] at hj'
        obtain ⟨rfl, rfl⟩ := hj'
        have := (h.row j k zs hj).2.1
        exact absurd rfl (hkg k (.inr (by rw [this]; simp)))
      · rw [if_neg e'] at hj'
        exact h.apart j j' m zs zs' hj hj'
end
section
variable {P : Program} {Γr : Ctx} {d : Option Nat} {r : List SOper} {φ : Fr} {Γ : Ctx} {K : Fr → Ctx → Prop}
/-- rows[i] = make(..) -/
theorem s_storeG {α : Type} [Sc α] {g : PH} {b i ix k n : Nat} {T e : TypeId} {rows : List (List α)} (xs : List α) (hn : n = xs.length) (hg : Γ[ix]? = some g) (h : Grid g b T e rows) (hi : i < rows.length) (hl : xs.length ≤ 1000000)
    (hk : ∀ g', (∀ x2 G, Arr x2 k e xs → Disj x2 g' → Mem.le (lk [x2, g']) (lk [G]) → Grid G b T e (rows.set i xs)) → vcOps P Γr r φ (Γ.set ix g') K) : storeP P Γr r φ Γ K 1 b i (.slice (some ⟨k, 0, none⟩) n n) := by
  subst hn
  obtain ⟨ps, hB, hr⟩ := id h
  refine ⟨ix, g, _, T, hg, hB.out, by subst hr; simp at hi ⊢; omega, ?_⟩
  exact hk _ fun x2 G hA hd hG => h.put hi k xs hl hB.out hA hd hG
end
end Go.Proofs.Ytniobbepliknmaa.V
/- Keys that are structs or arrays of whole numbers; no condition. -/
namespace Go.Proofs.Ytniobbepliknmaa.V
open Go
set_option linter.unusedVariables false
set_option linter.unusedSimpArgs false

/-- a struct of n fields of type e, or an array of n -/
def intsKey (P : Program) (k e n : Nat) : Bool := match P.underlying k with
  | some (.struct fs) => fs.toList.map (fun f => (f.offset, f.type)) == (List.range n).map (fun i => (i, e)) && fs.all (·.name != "_")
  | some (.array m t) => m == n && t == e
  | _ => false
def intsV (xs : List Int) : Value := .agg (xs.map (Value.int .i64)).toArray
theorem intsV_inj (a b : List Int) (h : intsV a = intsV b) : a = b := by
  simp only [intsV, Value.agg.injEq] at h
  have := congrArg Array.toList h
  simp only [List.toList_toArray] at this
  exact (List.map_inj_right (fun x y q => by simpa using q)).1 this
def okInts (n : Nat) (xs : List Int) : Prop := xs.length = n ∧ ∀ x ∈ xs, (Lit.int .i64 x).wf = true
theorem key_ints {P : Program} {k e n : Nat} (hk : intsKey P k e n = true) (hc : P.cellsOf k = n) (he : P.underlying e = some (.int .i64)) (hce : P.cellsOf e = 1) (hkt : P.keyType k = true) (hsz : 1 ≤ P.types.size) {xs : List Int} (hx : okInts n xs) : ∃ l, keyOf P k (intsV xs) = some l := by
  obtain ⟨m, hm⟩ : ∃ m, P.types.size = m + 1 := ⟨P.types.size - 1, by omega⟩
  obtain ⟨hl, hw⟩ := hx
  have hone : ∀ i, i < n → ∃ y, P.keyLits (m + 1) e (((xs.map (Value.int .i64)).drop i).take (P.cellsOf e)) = some y := by
    intro i hi
    have : ((xs.map (Value.int .i64)).drop i).take (P.cellsOf e) = [.int .i64 xs[i]] := by
      rw [hce, List.drop_eq_getElem_cons (by simpa using (by omega : i < xs.length))]
      simp
    rw [this]
    unfold Program.keyLits
    simp only [he]
    exact ⟨_, if_pos ⟨trivial, hw _ (List.getElem_mem _)⟩⟩
  unfold keyOf
  unfold intsKey at hk
  split at hk
  · rename_i fs hu
    simp only [Bool.and_eq_true, beq_iff_eq] at hk
    simp only [hu]
    rw [if_pos (by simp [hkt, intsV, Value.formed, hu, hc, hl]), hm]
    unfold Program.keyLits
    simp only [hu, intsV, Value.cells, List.toList_toArray]
    rw [if_pos ⟨by simp [hc, hl], hk.2⟩]
    have : ∃ r, (fs.toList.mapM fun f => P.keyLits (m + 1) f.type (((xs.map (Value.int .i64)).drop f.offset).take (P.cellsOf f.type))) = some r := by
      refine MapFrom.mapM_some fun f hf => ?_
      have : (f.offset, f.type) ∈ (List.range n).map (fun i => (i, e)) := by rw [← hk.1]; exact List.mem_map.2 ⟨f, hf, rfl⟩
      obtain ⟨i, hi, h⟩ := List.mem_map.1 this
      simp only [Prod.mk.injEq] at h
      rw [← h.1, ← h.2]
      exact hone i (by simpa using hi)
    obtain ⟨r, hr⟩ := this
    rw [hr]
    exact ⟨_, rfl⟩
  · rename_i m' t hu
    simp only [Bool.and_eq_true, beq_iff_eq] at hk
    obtain ⟨rfl, rfl⟩ := hk
    simp only [hu]
    rw [if_pos (by simp [hkt, intsV, Value.formed, hu, hc, hl]), hm]
    unfold Program.keyLits
    simp only [hu, intsV, Value.cells, List.toList_toArray]
    rw [if_pos (by simp [hc, hl])]
    have : ∃ r, ((List.range m').mapM fun i => P.keyLits (m + 1) t (((xs.map (Value.int .i64)).drop (i * P.cellsOf t)).take (P.cellsOf t))) = some r := by
      refine MapFrom.mapM_some fun i hi => ?_
      rw [show i * P.cellsOf t = i by rw [hce, Nat.mul_one]]
      exact hone i (by simpa using hi)
    obtain ⟨r, hr⟩ := this
    rw [hr]
    exact ⟨_, rfl⟩
  · cases hk
theorem kt_ints {P : Program} {k e n : Nat} (hl : laidOutB P = true) (hs : P.types.size + 2 ≤ 10000) (hr : k < P.types.size) (hk : intsKey P k e n = true) (hc : P.cellsOf k = n) (he : P.underlying e = some (.int .i64)) (hce : P.cellsOf e = 1) (hkt : P.keyType k = true)
    (hw : (match P.underlying k with | some (.array _ _) | some (.struct _) => true | _ => false) = true) : KT P k intsV (okInts n) :=
  KT.of (Maps.Keyed.of_law (deep_law_gate hl hs hr hkt hw)) intsV_inj fun xs hx => key_ints hk hc he hce hkt (by omega) hx
theorem wf64 {x : Int} (h0 : -9223372036854775808 ≤ x) (h1 : x ≤ 9223372036854775807) : (Lit.int .i64 x).wf = true := by
  have h2 : IntKind.i64.min = -9223372036854775808 := by decide
  have h3 : IntKind.i64.max = 9223372036854775807 := by decide
  simp only [Lit.wf, h2, h3, Bool.and_eq_true, decide_eq_true_eq]
  exact ⟨h0, h1⟩
/-- xs[k:] of a row -/
theorem Bld.drop {α : Type} [Rep α] {g : PH} {L : Mem} {e : TypeId} {A : Option Addr} {n c : Nat} {xs : List α} (h : Bld g L e (.slice A n c) xs) {k : Nat} (hk : k ≤ xs.length) :
    Bld g L e (.slice (if c = k then A else A.map (·.add (k * Rep.sz α))) (n - k) (c - k)) (xs.drop k) := by
  obtain ⟨cs, ⟨h1, h2⟩, h3⟩ := h
  have hkl : k * Rep.sz α ≤ xs.length * Rep.sz α := Nat.mul_le_mul_right _ hk
  have hl : (xs.drop k).length = xs.length - k := by simp
  have hmul : xs.length * Rep.sz α - k * Rep.sz α = (xs.length - k) * Rep.sz α := (Nat.sub_mul _ _ _).symm
  refine ⟨cs.drop (k * Rep.sz α), ⟨by rw [List.length_drop, h1, hl, hmul], ?_⟩, fun i x hi => ?_⟩
  · rcases h2 with ⟨q0, A', q⟩ | ⟨b, o, cap, cur, q1, q2, q3, q4, q5, q6⟩
    · left
      simp only [Value.slice.injEq] at q
      obtain ⟨rfl, rfl, rfl⟩ := q
      have : k = 0 := by omega
      subst this
      exact ⟨by rw [hl]; omega, A, by simp⟩
    · simp only [Value.slice.injEq] at q1
      obtain ⟨rfl, rfl, rfl⟩ := q1
      by_cases e1 : cap + 1 = k
      · left
        refine ⟨by rw [hl]; omega, some ⟨b, o, none⟩, ?_⟩
        rw [if_pos e1, show xs.length - k = 0 by omega, show cap + 1 - k = 0 by omega]
      · right
        rw [if_neg e1, hl]
        have hm2 : (cap - k + 1) * Rep.sz α + k * Rep.sz α = (cap + 1) * Rep.sz α := by rw [← Nat.add_mul]; congr 1; omega
        refine ⟨b, o + k * Rep.sz α, cap - k, cur, by rw [Option.map_some, add_mk, show cap + 1 - k = cap - k + 1 by omega], by omega, by omega, q4, by omega, ?_⟩
        rw [← q6, List.drop_take, List.drop_drop, hmul]
  · rw [List.getElem?_drop] at hi
    obtain ⟨c', r1, r2⟩ := h3 (k + i) x hi
    refine ⟨c', r1, fun j hj => ?_⟩
    rw [← r2 j hj, List.getElem?_drop]
    congr 1
    rw [Nat.add_mul]
    omega
end Go.Proofs.Ytniobbepliknmaa.V
/- Ways between numbers (Warshall's closure): the plain law; no condition. -/
namespace Go.Proofs.Ytniobbepliknmaa.V
open Go
set_option linter.unusedVariables false
set_option linter.unusedSimpArgs false

def mat (w : List (List Bool)) (b c : Nat) : Bool := (w.getD b []).getD c false
structure Sq (n : Nat) (w : List (List Bool)) : Prop where
  len : w.length = n
  row : ∀ r ∈ w, r.length = n
theorem Sq.at' {n : Nat} {w : List (List Bool)} (h : Sq n w) {b : Nat} (hb : b < w.length) : w[b].length = n := h.row _ (List.getElem_mem hb)
theorem mat_at {w : List (List Bool)} {b c : Nat} (hb : b < w.length) (hc : c < w[b].length) : mat w b c = w[b][c] := by simp [mat, hb, hc]
def mset2 (w : List (List Bool)) (b c : Nat) (v : Bool) : List (List Bool) := w.set b ((w.getD b []).set c v)
theorem Sq.set {n : Nat} {w : List (List Bool)} (h : Sq n w) (b c : Nat) (v : Bool) : Sq n (mset2 w b c v) := by
  refine ⟨by simp [mset2, h.len], fun r hr => ?_⟩
  unfold mset2 at hr
  rcases Nat.lt_or_ge b w.length with hb | hb
  · rcases List.mem_or_eq_of_mem_set hr with q | q
    · exact h.row r q
    · subst q
      simp [hb, h.at' hb]
  · rw [List.set_eq_of_length_le hb] at hr
    exact h.row r hr
theorem mat_set {n : Nat} {w : List (List Bool)} (h : Sq n w) {b c : Nat} (v : Bool) (hb : b < n) (hc : c < n) (x y : Nat) : mat (mset2 w b c v) x y = if x = b ∧ y = c then v else mat w x y := by
  have hl := h.len
  have hr := h.at' (b := b) (by omega)
  by_cases e : x = b
  · subst e
    simp only [mat, mset2, List.getD_eq_getElem?_getD, List.getElem?_set_self (show x < w.length by omega), Option.getD_some]
    rw [List.getElem?_eq_getElem (show x < w.length by omega)]
    simp only [Option.getD_some, List.getElem?_set]
    by_cases e' : c = y
    · subst e'
      simp [hr, hc]
    · have : ¬ y = c := fun q => e' q.symm
      simp [e', this]
  · have e'' : ¬ b = x := fun q => e q.symm
    simp [mat, mset2, List.getD_eq_getElem?_getD, List.getElem?_set, e, e'']
def wst (w : List (List Bool)) (a b c : Nat) : List (List Bool) := mset2 w b c (mat w b c || mat w b a && mat w a c)
def wN (w0 : List (List Bool)) (n : Nat) : Nat → List (List Bool)
  | 0 => w0
  | t + 1 => wst (wN w0 n t) (t / n / n) (t / n % n) (t % n)
theorem wN_step (w0 : List (List Bool)) {n a b c : Nat} (hb : b < n) (hc : c < n) : wN w0 n ((a * n + b) * n + c + 1) = wst (wN w0 n ((a * n + b) * n + c)) a b c := by
  have h1 : ((a * n + b) * n + c) / n = a * n + b := by
    rw [Nat.mul_comm, Nat.mul_add_div (by omega), Nat.div_eq_of_lt hc, Nat.add_zero]
  have h2 : ((a * n + b) * n + c) % n = c := by
    rw [Nat.mul_comm, Nat.mul_add_mod, Nat.mod_eq_of_lt hc]
  have h3 : (a * n + b) / n = a := by
    rw [Nat.mul_comm, Nat.mul_add_div (by omega), Nat.div_eq_of_lt hb, Nat.add_zero]
  have h4 : (a * n + b) % n = b := by
    rw [Nat.mul_comm, Nat.mul_add_mod, Nat.mod_eq_of_lt hb]
  rw [wN, h1, h2, h3, h4]
theorem wN_sq {w0 : List (List Bool)} {n : Nat} (h : Sq n w0) : ∀ t, Sq n (wN w0 n t)
  | 0 => h
  | t + 1 => (wN_sq h t).set _ _ _
/-- what is told stays -/
theorem wN_mono {w0 : List (List Bool)} {n : Nat} (hn : 0 < n) (h : Sq n w0) {x y : Nat} : ∀ t k, mat (wN w0 n t) x y = true → mat (wN w0 n (t + k)) x y = true
  | t, 0, hm => hm
  | t, k + 1, hm => by
    have ih := wN_mono hn h t k hm
    rw [← Nat.add_assoc, wN, wst, mat_set (wN_sq h _) _ (Nat.mod_lt _ hn) (Nat.mod_lt _ hn)]
    split
    · rename_i e
      obtain ⟨rfl, rfl⟩ := e
      rw [ih, Bool.true_or]
    · exact ih
inductive PathK (E : Nat → Nat → Prop) (k : Nat) : Nat → Nat → Prop
  | one {b c : Nat} : E b c → PathK E k b c
  | trans {b m c : Nat} : PathK E k b m → m < k → PathK E k m c → PathK E k b c
theorem PathK.split {E : Nat → Nat → Prop} {k b c : Nat} (h : PathK E (k + 1) b c) : PathK E k b c ∨ (PathK E k b k ∧ PathK E k k c) := by
  induction h with
  | one h => exact .inl (.one h)
  | @trans b m c _ hm _ ih1 ih2 =>
    by_cases e : m = k
    · subst e
      refine .inr ⟨?_, ?_⟩
      · rcases ih1 with q | q
        · exact q
        · exact q.1
      · rcases ih2 with q | q
        · exact q
        · exact q.2
    · have hm' : m < k := by omega
      rcases ih1 with q | q
      · rcases ih2 with q' | q'
        · exact .inl (.trans q hm' q')
        · exact .inr ⟨.trans q hm' q'.1, q'.2⟩
      · rcases ih2 with q' | q'
        · exact .inr ⟨q.1, .trans q.2 hm' q'⟩
        · exact .inr ⟨q.1, q'.2⟩
theorem PathK.zero {E : Nat → Nat → Prop} {b c : Nat} (h : PathK E 0 b c) : E b c := by
  induction h with
  | one h => exact h
  | trans _ hm _ _ _ => omega
/-- one number more to pass through -/
theorem wN_phase {w0 : List (List Bool)} {n : Nat} (h : Sq n w0) {a b c : Nat} (hb : b < n) (hc : c < n) (hv : mat (wN w0 n (a * n * n)) b c = true ∨ (mat (wN w0 n (a * n * n)) b a = true ∧ mat (wN w0 n (a * n * n)) a c = true)) : mat (wN w0 n ((a + 1) * n * n)) b c = true := by
  have hn : 0 < n := by omega
  have hle : (a * n + b) * n + c + 1 ≤ (a + 1) * n * n := by
    calc (a * n + b) * n + c + 1 ≤ (a * n + b) * n + n := by omega
      _ = (a * n + b + 1) * n := by rw [Nat.add_mul (a * n + b) 1 n, Nat.one_mul]
      _ ≤ (a + 1) * n * n := by
        refine Nat.mul_le_mul_right _ ?_
        rw [Nat.add_mul, Nat.one_mul]
        omega
  have hge : (a * n + b) * n + c = a * n * n + (b * n + c) := by rw [Nat.add_mul]; omega
  have up : ∀ x y, mat (wN w0 n (a * n * n)) x y = true → mat (wN w0 n ((a * n + b) * n + c)) x y = true := fun x y q => by
    rw [hge]; exact wN_mono hn h _ _ q
  have : mat (wN w0 n ((a * n + b) * n + c + 1)) b c = true := by
    rw [wN_step _ hb hc, wst, mat_set (wN_sq h _) _ hb hc, if_pos ⟨rfl, rfl⟩]
    rcases hv with q | ⟨q1, q2⟩
    · rw [up _ _ q, Bool.true_or]
    · rw [up _ _ q1, up _ _ q2]; simp
  have h2 := wN_mono hn h _ ((a + 1) * n * n - ((a * n + b) * n + c + 1)) this
  rwa [show (a * n + b) * n + c + 1 + ((a + 1) * n * n - ((a * n + b) * n + c + 1)) = (a + 1) * n * n by omega] at h2
theorem mat_lt {n : Nat} {w : List (List Bool)} (h : Sq n w) {b c : Nat} (hm : mat w b c = true) : b < n ∧ c < n := by
  have hl := h.len
  rcases Nat.lt_or_ge b w.length with hb | hb
  · refine ⟨by omega, ?_⟩
    have hr := h.at' hb
    rcases Nat.lt_or_ge c w[b].length with hc | hc
    · omega
    · simp [mat, hb, List.getD_eq_getElem?_getD, List.getElem?_eq_none hc] at hm
  · simp [mat, List.getD_eq_getElem?_getD, List.getElem?_eq_none hb] at hm
theorem PathK.lt {n : Nat} {w : List (List Bool)} (h : Sq n w) {k b c : Nat} (hp : PathK (fun b c => mat w b c = true) k b c) : b < n ∧ c < n := by
  induction hp with
  | one h' => exact mat_lt h h'
  | trans _ _ _ ih1 ih2 => exact ⟨ih1.1, ih2.2⟩
theorem wN_all {w0 : List (List Bool)} {n : Nat} (h : Sq n w0) : ∀ (k : Nat), k ≤ n → ∀ {b c : Nat}, PathK (fun b c => mat w0 b c = true) k b c → mat (wN w0 n (k * n * n)) b c = true
  | 0, _, b, c, hp => by simpa [wN] using hp.zero
  | k + 1, hk, b, c, hp => by
    obtain ⟨hb, hc⟩ := hp.lt h
    refine wN_phase h hb hc ?_
    rcases hp.split with q | ⟨q1, q2⟩
    · exact .inl (wN_all h k (by omega) q)
    · exact .inr ⟨wN_all h k (by omega) q1, wN_all h k (by omega) q2⟩
theorem wN_sound {w0 : List (List Bool)} {n : Nat} (h : Sq n w0) : ∀ (t : Nat) {b c : Nat}, mat (wN w0 n t) b c = true → PathK (fun b c => mat w0 b c = true) n b c
  | 0, b, c, hm => .one hm
  | t + 1, b, c, hm => by
    rcases Nat.eq_zero_or_pos n with hn | hn
    · subst hn
      have := mat_lt (wN_sq h (t + 1)) hm
      omega
    rw [wN, wst, mat_set (wN_sq h _) _ (Nat.mod_lt _ hn) (Nat.mod_lt _ hn)] at hm
    split at hm
    · rename_i e
      obtain ⟨rfl, rfl⟩ := e
      simp only [Bool.or_eq_true, Bool.and_eq_true] at hm
      rcases hm with q | ⟨q1, q2⟩
      · exact wN_sound h t q
      · have h1 := wN_sound h t q1
        exact .trans h1 (h1.lt h).2 (wN_sound h t q2)
    · exact wN_sound h t hm
/-- the closure tells just the ways -/
theorem wN_iff {w0 : List (List Bool)} {n : Nat} (h : Sq n w0) (b c : Nat) : mat (wN w0 n (n * n * n)) b c = true ↔ PathK (fun b c => mat w0 b c = true) n b c :=
  ⟨wN_sound h _, wN_all h n (Nat.le_refl _)⟩
end Go.Proofs.Ytniobbepliknmaa.V
/- The text of cmp.Compare[int] as a statement (slots: 0 x, 1 y, 2 x, 3 y, 5 xNaN, 6 yNaN); no condition. -/
namespace Go.Proofs.Ytniobbepliknmaa.V
open Go
def S105_0 : Stmt :=
  Stmt.seq (Stmt.region [SOper.mk (some 4) none (SOp.mv (Operand.const (Value.int IntKind.i64 0)))] [0, 1])
  (Stmt.seq
    (Stmt.region
      [SOper.mk (some 7) none (SOp.mv (Operand.tmp 0)),
        SOper.mk (some 8) none (SOp.call (Operand.func 170) [Operand.tmp 7]),
        SOper.mk (some 5) none (SOp.mv (Operand.tmp 8))]
      [0, 1, 5])
    (Stmt.seq
      (Stmt.region
        [SOper.mk (some 9) none (SOp.mv (Operand.tmp 1)),
          SOper.mk (some 10) none (SOp.call (Operand.func 170) [Operand.tmp 9]),
          SOper.mk (some 6) none (SOp.mv (Operand.tmp 10))]
        [0, 1, 5, 6])
      (Stmt.seq
        (Stmt.seq (Stmt.region [SOper.mk (some 11) none (SOp.mv (Operand.tmp 5))] [0, 1, 6, 11])
          (Stmt.cond (Operand.tmp 11)
            (Stmt.seq
              (Stmt.seq (Stmt.region [SOper.mk (some 12) none (SOp.mv (Operand.tmp 6))] [12])
                (Stmt.cond (Operand.tmp 12)
                  (Stmt.seq
                    (Stmt.region [SOper.mk (some 4) none (SOp.mv (Operand.const (Value.int IntKind.i64 0)))] [4])
                    Stmt.ret)
                  Stmt.skip))
              (Stmt.seq (Stmt.region [SOper.mk (some 4) none (SOp.mv (Operand.const (Value.int IntKind.i64 (-1))))] [4])
                Stmt.ret))
            Stmt.skip))
        (Stmt.seq
          (Stmt.seq (Stmt.region [SOper.mk (some 13) none (SOp.mv (Operand.tmp 6))] [0, 1, 13])
            (Stmt.cond (Operand.tmp 13)
              (Stmt.seq (Stmt.region [SOper.mk (some 4) none (SOp.mv (Operand.const (Value.int IntKind.i64 1)))] [4])
                Stmt.ret)
              Stmt.skip))
          (Stmt.seq
            (Stmt.seq
              (Stmt.region
                [SOper.mk (some 14) none (SOp.mv (Operand.tmp 0)), SOper.mk (some 15) none (SOp.mv (Operand.tmp 1)),
                  SOper.mk (some 16) none (SOp.ibin BinOp.lss (Operand.tmp 14) (Operand.tmp 15))]
                [0, 1, 16])
              (Stmt.cond (Operand.tmp 16)
                (Stmt.seq
                  (Stmt.region [SOper.mk (some 4) none (SOp.mv (Operand.const (Value.int IntKind.i64 (-1))))] [4])
                  Stmt.ret)
                Stmt.skip))
            (Stmt.seq
              (Stmt.seq
                (Stmt.region
                  [SOper.mk (some 17) none (SOp.mv (Operand.tmp 0)), SOper.mk (some 18) none (SOp.mv (Operand.tmp 1)),
                    SOper.mk (some 19) none (SOp.ibin BinOp.gtr (Operand.tmp 17) (Operand.tmp 18))]
                  [19])
                (Stmt.cond (Operand.tmp 19)
                  (Stmt.seq
                    (Stmt.region [SOper.mk (some 4) none (SOp.mv (Operand.const (Value.int IntKind.i64 1)))] [4])
                    Stmt.ret)
                  Stmt.skip))
              (Stmt.seq (Stmt.region [SOper.mk (some 4) none (SOp.mv (Operand.const (Value.int IntKind.i64 0)))] [4])
                Stmt.ret)))))))
def S105 : FnS := ⟨20, [(4, none)], S105_0⟩
theorem tr105 : trFn Try.prog 105 [] [[0, 1], [0, 1, 5], [0, 1, 5, 6], [0, 1, 6, 11], [12], [4], [4], [0, 1, 13], [4], [0, 1, 16], [4], [19], [4], [4]] = some S105 := by kernel_rfl
end Go.Proofs.Ytniobbepliknmaa.V
/- The text of slices.Compare[[]int,int] as a statement (slots: 0 s1, 1 s2, 2 s1, 3 s2, 5 i, 6 v1, 7 v2, 8 c); no condition. -/
namespace Go.Proofs.Ytniobbepliknmaa.V
open Go
def S26_1 : Stmt :=
  Stmt.seq
  (Stmt.region [SOper.mk (some 12) none (SOp.ibin BinOp.lss (Operand.tmp 11) (Operand.tmp 10))] [0, 1, 9, 10, 11, 12])
  (Stmt.seq (Stmt.cond (Operand.tmp 12) Stmt.skip (Stmt.exit 0))
    (Stmt.seq
      (Stmt.block 1
        (Stmt.seq
          (Stmt.region
            [SOper.mk (some 13) none (SOp.mv (Operand.tmp 11)),
              SOper.mk (some 14) none (SOp.idx 1 (Operand.tmp 9) (Operand.tmp 11)),
              SOper.mk (some 15) none (SOp.load false 1 (Operand.tmp 14)),
              SOper.mk (some 5) none (SOp.mv (Operand.tmp 13)), SOper.mk (some 6) none (SOp.mv (Operand.tmp 15))]
            [0, 1, 5, 6, 9, 10, 11])
          (Stmt.seq
            (Stmt.seq
              (Stmt.region
                [SOper.mk (some 16) none (SOp.mv (Operand.tmp 5)), SOper.mk (some 17) none (SOp.mv (Operand.tmp 1)),
                  SOper.mk (some 18) none (SOp.len false (Operand.tmp 17)),
                  SOper.mk (some 19) none (SOp.ibin BinOp.geq (Operand.tmp 16) (Operand.tmp 18))]
                [0, 1, 5, 6, 9, 10, 11, 19])
              (Stmt.cond (Operand.tmp 19)
                (Stmt.seq (Stmt.region [SOper.mk (some 4) none (SOp.mv (Operand.const (Value.int IntKind.i64 1)))] [4])
                  Stmt.ret)
                Stmt.skip))
            (Stmt.seq
              (Stmt.region
                [SOper.mk (some 20) none (SOp.mv (Operand.tmp 1)), SOper.mk (some 21) none (SOp.mv (Operand.tmp 5)),
                  SOper.mk (some 22) none (SOp.idx 1 (Operand.tmp 20) (Operand.tmp 21)),
                  SOper.mk (some 23) none (SOp.load false 1 (Operand.tmp 22)),
                  SOper.mk (some 7) none (SOp.mv (Operand.tmp 23))]
                [0, 1, 6, 7, 9, 10, 11])
              (Stmt.seq
                (Stmt.region
                  [SOper.mk (some 24) none (SOp.mv (Operand.tmp 6)), SOper.mk (some 25) none (SOp.mv (Operand.tmp 7)),
                    SOper.mk (some 26) none (SOp.call (Operand.func 105) [Operand.tmp 24, Operand.tmp 25]),
                    SOper.mk (some 8) none (SOp.mv (Operand.tmp 26))]
                  [0, 1, 8, 9, 10, 11])
                (Stmt.seq
                  (Stmt.region
                    [SOper.mk (some 27) none (SOp.mv (Operand.tmp 8)),
                      SOper.mk (some 28) none
                        (SOp.ibin BinOp.neq (Operand.tmp 27) (Operand.const (Value.int IntKind.i64 0)))]
                    [0, 1, 8, 9, 10, 11, 28])
                  (Stmt.cond (Operand.tmp 28)
                    (Stmt.seq
                      (Stmt.region
                        [SOper.mk (some 29) none (SOp.mv (Operand.tmp 8)),
                          SOper.mk (some 4) none (SOp.mv (Operand.tmp 29))]
                        [4])
                      Stmt.ret)
                    Stmt.skip)))))))
      (Stmt.region
        [SOper.mk (some 30) none (SOp.ibin BinOp.add (Operand.tmp 11) (Operand.const (Value.int IntKind.i64 1))),
          SOper.mk (some 11) none (SOp.mv (Operand.tmp 30))]
        [0, 1, 9, 10, 11])))
def S26_0 : Stmt :=
  Stmt.seq (Stmt.region [SOper.mk (some 4) none (SOp.mv (Operand.const (Value.int IntKind.i64 0)))] [0, 1])
  (Stmt.seq
    (Stmt.seq
      (Stmt.region
        [SOper.mk (some 9) none (SOp.mv (Operand.tmp 0)), SOper.mk (some 10) none (SOp.len false (Operand.tmp 9)),
          SOper.mk (some 11) none (SOp.mv (Operand.const (Value.int IntKind.i64 0)))]
        [0, 1, 9, 10, 11])
      (Stmt.block 0 (Stmt.loop S26_1 [11] [0, 1, 9, 10])))
    (Stmt.seq
      (Stmt.seq
        (Stmt.region
          [SOper.mk (some 31) none (SOp.mv (Operand.tmp 0)), SOper.mk (some 32) none (SOp.len false (Operand.tmp 31)),
            SOper.mk (some 33) none (SOp.mv (Operand.tmp 1)), SOper.mk (some 34) none (SOp.len false (Operand.tmp 33)),
            SOper.mk (some 35) none (SOp.ibin BinOp.lss (Operand.tmp 32) (Operand.tmp 34))]
          [35])
        (Stmt.cond (Operand.tmp 35)
          (Stmt.seq (Stmt.region [SOper.mk (some 4) none (SOp.mv (Operand.const (Value.int IntKind.i64 (-1))))] [4])
            Stmt.ret)
          Stmt.skip))
      (Stmt.seq (Stmt.region [SOper.mk (some 4) none (SOp.mv (Operand.const (Value.int IntKind.i64 0)))] [4])
        Stmt.ret)))
def S26 : FnS := ⟨36, [(4, none)], S26_0⟩
theorem tr26 : trFn Try.prog 26 [] [[0, 1], [0, 1, 9, 10, 11], [11], [0, 1, 9, 10], [0, 1, 9, 10, 11, 12], [0, 1, 5, 6, 9, 10, 11], [0, 1, 5, 6, 9, 10, 11, 19], [4], [0, 1, 6, 7, 9, 10, 11], [0, 1, 8, 9, 10, 11], [0, 1, 8, 9, 10, 11, 28], [4], [0, 1, 9, 10, 11], [35], [4], [4]] = some S26 := by kernel_rfl
end Go.Proofs.Ytniobbepliknmaa.V
/- The text of cmp.isNaN[int] as a statement (slots: 0 x, 1 x); no condition. -/
namespace Go.Proofs.Ytniobbepliknmaa.V
open Go
def S170_0 : Stmt :=
  Stmt.seq (Stmt.region [SOper.mk (some 2) none (SOp.mv (Operand.const (Value.bool false)))] [0])
  (Stmt.seq
    (Stmt.region
      [SOper.mk (some 3) none (SOp.mv (Operand.tmp 0)), SOper.mk (some 4) none (SOp.mv (Operand.tmp 0)),
        SOper.mk (some 5) none (SOp.ibin BinOp.neq (Operand.tmp 3) (Operand.tmp 4)),
        SOper.mk (some 2) none (SOp.mv (Operand.tmp 5))]
      [2])
    Stmt.ret)
def S170 : FnS := ⟨6, [(2, none)], S170_0⟩
theorem tr170 : trFn Try.prog 170 [] [[0], [2]] = some S170 := by kernel_rfl
end Go.Proofs.Ytniobbepliknmaa.V
/- cmp.Compare and slices.Compare of whole numbers walked; no condition. -/
namespace Go.Proofs.Ytniobbepliknmaa.V
open Go
set_option linter.unusedVariables false
set_option linter.unusedSimpArgs false
attribute [local go_sem] e_seq e_region e_quiet e_join e_loop e_cond e_block e_exit e_ret e_skip e_fin e_kseq e_snrm e_sret e_sex e_bnrm e_bret e_bex e_rnrm e_rret e_res e_condC e_nil e_g e_mv g_mv e_pick g_pick pickC_eq e_ibin g_ibin ibinC_eq e_sbin g_sbin e_beq g_beq beqC_eq e_nilq g_nilq nilqC_sl nilqC_pt nilqC_mp e_un g_un unC_not unC_neg e_conv g_conv convC_eq e_fld g_fld fldC_ref fldC_ptr e_nilCheck g_nilCheck nilCheckC_ref nilCheckC_ptr nilCheckC_fun e_field g_field fieldC_eq e_len g_len lenC_sl lenC_str e_extract g_extract extractC_eq e_mkFunc e_build g_build e_idiv g_idiv idivC_eq e_ishift g_ishift ishiftC_eq e_idx g_idx e_idxA g_idxA e_load g_load loadC_ref loadC_ptr loadB_eq e_slc g_slc e_box boxC_loc boxC_esc e_alloc allocC_loc allocC_esc e_buildS e_store storeC_ref storeC_ptr storeB_eq e_append e_appz e_mk mkC_eq e_call callC_eq e_fn g_fn fnC_eq fnV_min' fnV_max' fnV_rune' e_q g_q e_a e_n g_call g_box g_alloc g_buildS g_store g_append g_mk g_a g_n g_dead e_dead e_callK e_drawn e_tree e_finJ e_tk e_tfin e_tno e_nbt_q e_nbt_qn e_nbt_a e_nbt_an e_nbt_fin e_early_nil e_early_t e_early_f e_nob_nil e_nob_none e_nob_some isBox_dead isBox_v isBox_ref e_dnil e_dk e_ek e_finB vcOps_vc1 e_dcons e_tq e_ekt e_tearly e_talt e_dearly look_nil look_c proj_nil proj_c looks_nil looks_c zip_nil zip_c val_tmp val_const val_func slv_v slv_box slv_ref slot_tmp slot_const slot_func slotL_v slotL_box slotL_ref put_some put_none updBox_c boxSet_box gd_eq slotVals_nil slotVals_c slotVals_b boxV_box boxOn_box slotsOn_nil slotsOn_c slotsOn_b resV_one resV_two vals_nil vals_c allOn_nil allOn_c partOn_nil partOn_c partVals_nil partVals_c fits_nil fits_c fillL_nil fillL_c mkv_one mkv_agg cellsV_agg cellsV_int cellsV_bool cellsV_slice cellsV_string cellsV_pointer cellsV_func cellsV_nilf cellsV_map one'_nil one'_c oc_int oc_bool oc_slice oc_string oc_pointer oc_func oc_nilf oc_map setC_eq iv_add iv_sub iv_mul iv_eql iv_neq iv_lss iv_leq iv_gtr iv_geq iok_add iok_sub iok_mul iok_eql iok_neq iok_lss iok_leq iok_gtr iok_geq pickV_bool args0_nil args0_c bnd_none bnd_some imp_bt imp_bf imp_ebt imp_ebf imp_eb1 imp_np imp_pp beq_tt beq_tf beq_ft beq_ff cond_or cond_and e_round e_meet Int.le_refl Int.toNat_zero decide_true decide_false Bool.or_false Bool.false_or Bool.true_or Bool.or_true Bool.and_false Bool.false_and Bool.bne_false Bool.bne_true beq_iff_eq Int.cast_ofNat_Int not_false_eq_true not_true_eq_false false_and and_false false_implies true_implies true_and and_true Bool.true_and Bool.and_true Bool.not_true Bool.not_false forall_const implies_true List.take_zero List.drop_zero List.take_succ_cons List.drop_succ_cons List.take_nil List.drop_nil List.length_cons List.length_nil List.nil_append List.append_nil List.cons_append Int.toNat_natCast decide_eq_true_eq decide_eq_false_iff_not cond_true cond_false and_self List.getElem?_cons_zero List.getElem?_cons_succ List.set_cons_zero List.set_cons_succ Option.some.injEq exists_eq_left' Nat.zero_add Nat.add_zero Nat.mul_one imp_self true_or or_true or_false false_or Bool.or_eq_true Bool.or_eq_false_iff Bool.and_eq_true Bool.and_eq_false_iff Bool.not_eq_true' Bool.not_eq_false'

def cmpI (a b : Int) : Int := if a < b then -1 else if b < a then 1 else 0
def cmpL : List Int → List Int → Int
  | [], [] => 0
  | [], _ :: _ => -1
  | _ :: _, [] => 1
  | a :: r, b :: s => if cmpI a b = 0 then cmpL r s else cmpI a b

theorem is_nan {Γr : Ctx} (a : Int) : Ret Try.prog 170 [.int .i64 a] Γr [] (fun v Γ => Γ = [] ∧ v = .bool false) := by
  generalize hR : (fun (v : Value) (Γ : Ctx) => Γ = [] ∧ _) = R
  refine ret_of_vc tr170 (Nat.le_of_ble_eq_true rfl) ?_
  simp only [S170, S170_0, go_sem, Nat.reduceBEq, Nat.reduceAdd, Nat.reduceSub, Nat.reduceMul, Nat.reduceLeDiff, reduceCtorEq, ↓reduceIte, Int.reduceLT, Int.reduceLE, Int.reduceEq, Int.reduceNe]
  refine Up.here ?_
  subst hR
  exact ⟨rfl, by simp⟩
theorem cmp_compare {Γr : Ctx} (a b : Int) : Ret Try.prog 105 [.int .i64 a, .int .i64 b] Γr [] (fun v Γ => Γ = [] ∧ v = .int .i64 (cmpI a b)) := by
  generalize hR : (fun (v : Value) (Γ : Ctx) => Γ = [] ∧ _) = R
  refine ret_of_vc tr105 (Nat.le_of_ble_eq_true rfl) ?_
  simp only [S105, S105_0, go_sem, Nat.reduceBEq, Nat.reduceAdd, Nat.reduceSub, Nat.reduceMul, Nat.reduceLeDiff, reduceCtorEq, ↓reduceIte, Int.reduceLT, Int.reduceLE, Int.reduceEq, Int.reduceNe]
  refine CallVC.read (is_nan a) ?_
  rintro v Γ' ⟨rfl, rfl⟩
  simp only [go_sem, Nat.reduceBEq, Nat.reduceAdd, Nat.reduceSub, Nat.reduceMul, Nat.reduceLeDiff, reduceCtorEq, ↓reduceIte, Int.reduceLT, Int.reduceLE, Int.reduceEq, Int.reduceNe]
  refine CallVC.read (is_nan b) ?_
  rintro v Γ' ⟨rfl, rfl⟩
  simp only [go_sem, Nat.reduceBEq, Nat.reduceAdd, Nat.reduceSub, Nat.reduceMul, Nat.reduceLeDiff, reduceCtorEq, ↓reduceIte, Int.reduceLT, Int.reduceLE, Int.reduceEq, Int.reduceNe]
  subst hR
  refine ⟨fun h => Up.here ⟨rfl, ?_⟩, fun h => ⟨fun h' => Up.here ⟨rfl, ?_⟩, fun h' => Up.here ⟨rfl, ?_⟩⟩⟩
  · simp [cmpI, h]
  · simp [cmpI, h, h']
  · simp [cmpI, h, h']

theorem slices_compare {Γr : Ctx} {A B : Option Addr} {c d : Nat} {xs ys : List Int} (hx : SlOk (lk Γr) A c xs) (hy : SlOk (lk Γr) B d ys) :
    Ret Try.prog 26 [.slice A xs.length c, .slice B ys.length d] Γr [] (fun v Γ => Γ = [] ∧ v = .int .i64 (cmpL xs ys)) := by
  generalize hR : (fun (v : Value) (Γ : Ctx) => Γ = [] ∧ _) = R
  refine ret_of_vc tr26 (Nat.le_of_ble_eq_true rfl) ?_
  have h1 := hx.short
  have h2 := hy.short
  simp only [S26, S26_0, go_sem, Nat.reduceBEq, Nat.reduceAdd, Nat.reduceSub, Nat.reduceMul, Nat.reduceLeDiff, reduceCtorEq, ↓reduceIte, Int.reduceLT, Int.reduceLE, Int.reduceEq, Int.reduceNe]
  refine s_loop (fun f vs Γ => Γ = [] ∧ ∃ k : Nat, vs = [.v true (.int .i64 k)] ∧ k + f = xs.length ∧ k ≤ ys.length ∧ cmpL xs ys = cmpL (xs.drop k) (ys.drop k)) xs.length (Up.here ⟨rfl, 0, rfl, by omega, by omega, by simp⟩) ?_
  rintro f vs Γ ⟨rfl, k, rfl, hkf, hky, he⟩
  simp only [S26_1, go_sem, Nat.reduceBEq, Nat.reduceAdd, Nat.reduceSub, Nat.reduceMul, Nat.reduceLeDiff, reduceCtorEq, ↓reduceIte, Int.reduceLT, Int.reduceLE, Int.reduceEq, Int.reduceNe]
  refine ⟨fun hlt => ?_, fun hge => ?_⟩
  · have hk : k < xs.length := by omega
    obtain ⟨b, o, hA, hc1⟩ := hx.int hk
    refine s_idx hA (by omega) (by omega) ?_
    simp only [go_sem, Nat.reduceBEq, Nat.reduceAdd, Nat.reduceSub, Nat.reduceMul, Nat.reduceLeDiff, reduceCtorEq, ↓reduceIte, Int.reduceLT, Int.reduceLE, Int.reduceEq, Int.reduceNe]
    refine s_ld0 (hc1 _ (Mem.le.refl _)) (by simp) (by simp) ?_
    simp only [go_sem, Nat.reduceBEq, Nat.reduceAdd, Nat.reduceSub, Nat.reduceMul, Nat.reduceLeDiff, reduceCtorEq, ↓reduceIte, Int.reduceLT, Int.reduceLE, Int.reduceEq, Int.reduceNe]
    rw [List.drop_eq_getElem_cons hk] at he
    refine ⟨fun hle => Up.here ?_, fun hlt2 => ?_⟩
    · have : ys.drop k = [] := List.drop_eq_nil_of_le (by omega)
      subst hR
      refine ⟨rfl, ?_⟩
      rw [he, this]
      rfl
    · have hk' : k < ys.length := by omega
      obtain ⟨b', o', hB, hc2⟩ := hy.int hk'
      refine s_idx hB (by omega) (by omega) ?_
      simp only [go_sem, Nat.reduceBEq, Nat.reduceAdd, Nat.reduceSub, Nat.reduceMul, Nat.reduceLeDiff, reduceCtorEq, ↓reduceIte, Int.reduceLT, Int.reduceLE, Int.reduceEq, Int.reduceNe]
      refine s_ld0 (hc2 _ (Mem.le.refl _)) (by simp) (by simp) ?_
      simp only [go_sem, Nat.reduceBEq, Nat.reduceAdd, Nat.reduceSub, Nat.reduceMul, Nat.reduceLeDiff, reduceCtorEq, ↓reduceIte, Int.reduceLT, Int.reduceLE, Int.reduceEq, Int.reduceNe]
      refine CallVC.read (cmp_compare _ _) ?_
      rintro v Γ' ⟨rfl, rfl⟩
      rw [List.drop_eq_getElem_cons hk', cmpL] at he
      simp only [go_sem, Nat.reduceBEq, Nat.reduceAdd, Nat.reduceSub, Nat.reduceMul, Nat.reduceLeDiff, reduceCtorEq, ↓reduceIte, Int.reduceLT, Int.reduceLE, Int.reduceEq, Int.reduceNe]
      refine ⟨fun hne => Up.here ?_, fun heq => ?_⟩
      · rw [if_neg hne] at he
        subst hR
        exact ⟨rfl, by rw [he]⟩
      · rw [if_pos heq] at he
        simp (disch := omega) only [wrap_id]
        exact ⟨f - 1, by omega, Up.here ⟨rfl, k + 1, rfl, by omega, by omega, he⟩⟩
  · have hk : k = xs.length := by omega
    rw [hk, List.drop_length] at he
    subst hR
    refine ⟨fun h => Up.here ⟨rfl, ?_⟩, fun h => Up.here ⟨rfl, ?_⟩⟩
    · rw [he, List.drop_eq_getElem_cons (by omega)]
      rfl
    · rw [he, List.drop_eq_nil_of_le (by omega)]
      rfl
end Go.Proofs.Ytniobbepliknmaa.V
/- The text of parlance/gram.Order as a statement (slots: 0 a, 1 b, 2 a, 3 b); no condition. -/
namespace Go.Proofs.Ytniobbepliknmaa.V
open Go
def S203_0 : Stmt :=
  Stmt.seq
  (Stmt.region
    [SOper.mk (some 2) none (SOp.box true 39 (Operand.tmp 0)), SOper.mk (some 3) none (SOp.box true 39 (Operand.tmp 1)),
      SOper.mk (some 4) none (SOp.mv (Operand.const (Value.int IntKind.i64 0)))]
    [2, 3])
  (Stmt.seq
    (Stmt.block 0
      (Stmt.seq
        (Stmt.region
          [SOper.mk (some 6) none (SOp.fld 0 (Operand.tmp 2)),
            SOper.mk (some 7) none (SOp.load false 1 (Operand.tmp 6)), SOper.mk (some 8) none (SOp.mv (Operand.tmp 7)),
            SOper.mk (some 9) (some (8, true)) (SOp.fld 0 (Operand.tmp 3)),
            SOper.mk (some 10) (some (8, true)) (SOp.load false 1 (Operand.tmp 9)),
            SOper.mk (some 11) (some (8, true)) (SOp.un UnOp.not (Operand.tmp 10)),
            SOper.mk (some 12) none (SOp.pick (Operand.tmp 8) (Operand.tmp 11) (Operand.const (Value.bool false))),
            SOper.mk (some 5) none (SOp.mv (Operand.tmp 12))]
          [2, 3, 5])
        (Stmt.cond (Operand.tmp 5)
          (Stmt.seq (Stmt.region [SOper.mk (some 4) none (SOp.mv (Operand.const (Value.int IntKind.i64 (-1))))] [4])
            Stmt.ret)
          (Stmt.seq
            (Stmt.region
              [SOper.mk (some 14) none (SOp.fld 0 (Operand.tmp 2)),
                SOper.mk (some 15) none (SOp.load false 1 (Operand.tmp 14)),
                SOper.mk (some 16) none (SOp.un UnOp.not (Operand.tmp 15)),
                SOper.mk (some 17) none (SOp.mv (Operand.tmp 16)),
                SOper.mk (some 18) (some (17, true)) (SOp.fld 0 (Operand.tmp 3)),
                SOper.mk (some 19) (some (17, true)) (SOp.load false 1 (Operand.tmp 18)),
                SOper.mk (some 20) none (SOp.pick (Operand.tmp 17) (Operand.tmp 19) (Operand.const (Value.bool false))),
                SOper.mk (some 13) none (SOp.mv (Operand.tmp 20))]
              [2, 3, 13])
            (Stmt.cond (Operand.tmp 13)
              (Stmt.seq (Stmt.region [SOper.mk (some 4) none (SOp.mv (Operand.const (Value.int IntKind.i64 1)))] [4])
                Stmt.ret)
              Stmt.skip)))))
    (Stmt.seq
      (Stmt.region
        [SOper.mk (some 21) none (SOp.fld 1 (Operand.tmp 2)),
          SOper.mk (some 22) none (SOp.load false 1 (Operand.tmp 21)),
          SOper.mk (some 23) none (SOp.fld 1 (Operand.tmp 3)),
          SOper.mk (some 24) none (SOp.load false 1 (Operand.tmp 23)),
          SOper.mk (some 25) none (SOp.call (Operand.func 105) [Operand.tmp 22, Operand.tmp 24]),
          SOper.mk (some 4) none (SOp.mv (Operand.tmp 25))]
        [4])
      Stmt.ret))
def S203 : FnS := ⟨26, [(4, none)], S203_0⟩
theorem tr203 : trFn Try.prog 203 [2, 3] [[2, 3], [2, 3, 5], [4], [2, 3, 13], [4], [4]] = some S203 := by kernel_rfl
end Go.Proofs.Ytniobbepliknmaa.V
/- The text of slices.CompareFunc[[]parlance/api.Sym,[]parlance/api.Sym,parlance/api.Sym,parlance/api.Sym] as a statement (slots: 0 s1, 1 s2, 2 cmp, 3 s1, 4 s2, 5 cmp, 7 i, 8 v1, 9 v2, 10 c); no condition. -/
namespace Go.Proofs.Ytniobbepliknmaa.V
open Go
def S202_1 : Stmt :=
  Stmt.seq
  (Stmt.region [SOper.mk (some 14) none (SOp.ibin BinOp.lss (Operand.tmp 13) (Operand.tmp 12))]
    [0, 1, 2, 11, 12, 13, 14])
  (Stmt.seq (Stmt.cond (Operand.tmp 14) Stmt.skip (Stmt.exit 0))
    (Stmt.seq
      (Stmt.block 1
        (Stmt.seq
          (Stmt.region
            [SOper.mk (some 15) none (SOp.mv (Operand.tmp 13)),
              SOper.mk (some 16) none (SOp.idx 2 (Operand.tmp 11) (Operand.tmp 13)),
              SOper.mk (some 17) none (SOp.load true 2 (Operand.tmp 16)),
              SOper.mk (some 8) none
                (SOp.alloc true 39 (Value.agg (Array.mk [Value.bool false, Value.int IntKind.i64 0]))),
              SOper.mk (some 7) none (SOp.mv (Operand.tmp 15)),
              SOper.mk none none (SOp.store 2 (Operand.tmp 8) (Operand.tmp 17))]
            [0, 1, 2, 7, 8, 11, 12, 13])
          (Stmt.seq
            (Stmt.seq
              (Stmt.region
                [SOper.mk (some 18) none (SOp.mv (Operand.tmp 7)), SOper.mk (some 19) none (SOp.mv (Operand.tmp 1)),
                  SOper.mk (some 20) none (SOp.len false (Operand.tmp 19)),
                  SOper.mk (some 21) none (SOp.ibin BinOp.geq (Operand.tmp 18) (Operand.tmp 20))]
                [0, 1, 2, 7, 8, 11, 12, 13, 21])
              (Stmt.cond (Operand.tmp 21)
                (Stmt.seq (Stmt.region [SOper.mk (some 6) none (SOp.mv (Operand.const (Value.int IntKind.i64 1)))] [6])
                  Stmt.ret)
                Stmt.skip))
            (Stmt.seq
              (Stmt.region
                [SOper.mk (some 22) none (SOp.mv (Operand.tmp 1)), SOper.mk (some 23) none (SOp.mv (Operand.tmp 7)),
                  SOper.mk (some 24) none (SOp.idx 2 (Operand.tmp 22) (Operand.tmp 23)),
                  SOper.mk (some 25) none (SOp.load true 2 (Operand.tmp 24)),
                  SOper.mk (some 9) none
                    (SOp.alloc true 39 (Value.agg (Array.mk [Value.bool false, Value.int IntKind.i64 0]))),
                  SOper.mk none none (SOp.store 2 (Operand.tmp 9) (Operand.tmp 25))]
                [0, 1, 2, 8, 9, 11, 12, 13])
              (Stmt.seq
                (Stmt.region
                  [SOper.mk (some 26) none (SOp.mv (Operand.tmp 2)),
                    SOper.mk (some 27) none (SOp.load true 2 (Operand.tmp 8)),
                    SOper.mk (some 28) none (SOp.load true 2 (Operand.tmp 9)),
                    SOper.mk (some 29) none (SOp.call (Operand.tmp 26) [Operand.tmp 27, Operand.tmp 28]),
                    SOper.mk (some 10) none (SOp.mv (Operand.tmp 29))]
                  [0, 1, 2, 10, 11, 12, 13])
                (Stmt.seq
                  (Stmt.region
                    [SOper.mk (some 30) none (SOp.mv (Operand.tmp 10)),
                      SOper.mk (some 31) none
                        (SOp.ibin BinOp.neq (Operand.tmp 30) (Operand.const (Value.int IntKind.i64 0)))]
                    [0, 1, 2, 10, 11, 12, 13, 31])
                  (Stmt.cond (Operand.tmp 31)
                    (Stmt.seq
                      (Stmt.region
                        [SOper.mk (some 32) none (SOp.mv (Operand.tmp 10)),
                          SOper.mk (some 6) none (SOp.mv (Operand.tmp 32))]
                        [6])
                      Stmt.ret)
                    Stmt.skip)))))))
      (Stmt.region
        [SOper.mk (some 33) none (SOp.ibin BinOp.add (Operand.tmp 13) (Operand.const (Value.int IntKind.i64 1))),
          SOper.mk (some 13) none (SOp.mv (Operand.tmp 33))]
        [0, 1, 2, 11, 12, 13])))
def S202_0 : Stmt :=
  Stmt.seq (Stmt.region [SOper.mk (some 6) none (SOp.mv (Operand.const (Value.int IntKind.i64 0)))] [0, 1, 2])
  (Stmt.seq
    (Stmt.seq
      (Stmt.region
        [SOper.mk (some 11) none (SOp.mv (Operand.tmp 0)), SOper.mk (some 12) none (SOp.len false (Operand.tmp 11)),
          SOper.mk (some 13) none (SOp.mv (Operand.const (Value.int IntKind.i64 0)))]
        [0, 1, 2, 11, 12, 13])
      (Stmt.block 0 (Stmt.loop S202_1 [13] [0, 1, 2, 11, 12])))
    (Stmt.seq
      (Stmt.seq
        (Stmt.region
          [SOper.mk (some 34) none (SOp.mv (Operand.tmp 0)), SOper.mk (some 35) none (SOp.len false (Operand.tmp 34)),
            SOper.mk (some 36) none (SOp.mv (Operand.tmp 1)), SOper.mk (some 37) none (SOp.len false (Operand.tmp 36)),
            SOper.mk (some 38) none (SOp.ibin BinOp.lss (Operand.tmp 35) (Operand.tmp 37))]
          [38])
        (Stmt.cond (Operand.tmp 38)
          (Stmt.seq (Stmt.region [SOper.mk (some 6) none (SOp.mv (Operand.const (Value.int IntKind.i64 (-1))))] [6])
            Stmt.ret)
          Stmt.skip))
      (Stmt.seq (Stmt.region [SOper.mk (some 6) none (SOp.mv (Operand.const (Value.int IntKind.i64 0)))] [6])
        Stmt.ret)))
def S202 : FnS := ⟨39, [(6, none)], S202_0⟩
theorem tr202 : trFn Try.prog 202 [8, 9] [[0, 1, 2], [0, 1, 2, 11, 12, 13], [13], [0, 1, 2, 11, 12], [0, 1, 2, 11, 12, 13, 14], [0, 1, 2, 7, 8, 11, 12, 13], [0, 1, 2, 7, 8, 11, 12, 13, 21], [6], [0, 1, 2, 8, 9, 11, 12, 13], [0, 1, 2, 10, 11, 12, 13], [0, 1, 2, 10, 11, 12, 13, 31], [6], [0, 1, 2, 11, 12, 13], [38], [6], [6]] = some S202 := by kernel_rfl
end Go.Proofs.Ytniobbepliknmaa.V
/- The text of parlance/gram.Compare as a statement (slots: 0 a, 1 b, 2 a, 3 b, 5 c); no condition. -/
namespace Go.Proofs.Ytniobbepliknmaa.V
open Go
def S172_0 : Stmt :=
  Stmt.seq
  (Stmt.region
    [SOper.mk (some 2) none (SOp.box true 37 (Operand.tmp 0)), SOper.mk (some 3) none (SOp.box true 37 (Operand.tmp 1)),
      SOper.mk (some 4) none (SOp.mv (Operand.const (Value.int IntKind.i64 0)))]
    [2, 3])
  (Stmt.seq
    (Stmt.seq
      (Stmt.region
        [SOper.mk (some 6) none (SOp.fld 0 (Operand.tmp 2)), SOper.mk (some 7) none (SOp.load false 1 (Operand.tmp 6)),
          SOper.mk (some 8) none (SOp.fld 0 (Operand.tmp 3)), SOper.mk (some 9) none (SOp.load false 1 (Operand.tmp 8)),
          SOper.mk (some 10) none (SOp.call (Operand.func 105) [Operand.tmp 7, Operand.tmp 9]),
          SOper.mk (some 5) none (SOp.mv (Operand.tmp 10))]
        [2, 3, 5])
      (Stmt.seq
        (Stmt.region
          [SOper.mk (some 11) none (SOp.mv (Operand.tmp 5)),
            SOper.mk (some 12) none (SOp.ibin BinOp.neq (Operand.tmp 11) (Operand.const (Value.int IntKind.i64 0)))]
          [2, 3, 5, 12])
        (Stmt.cond (Operand.tmp 12)
          (Stmt.seq
            (Stmt.region
              [SOper.mk (some 13) none (SOp.mv (Operand.tmp 5)), SOper.mk (some 4) none (SOp.mv (Operand.tmp 13))] [4])
            Stmt.ret)
          Stmt.skip)))
    (Stmt.seq
      (Stmt.region
        [SOper.mk (some 14) none (SOp.fld 1 (Operand.tmp 2)),
          SOper.mk (some 15) none (SOp.load false 1 (Operand.tmp 14)),
          SOper.mk (some 16) none (SOp.fld 1 (Operand.tmp 3)),
          SOper.mk (some 17) none (SOp.load false 1 (Operand.tmp 16)),
          SOper.mk (some 18) none (SOp.call (Operand.func 202) [Operand.tmp 15, Operand.tmp 17, Operand.func 203]),
          SOper.mk (some 4) none (SOp.mv (Operand.tmp 18))]
        [4])
      Stmt.ret))
def S172 : FnS := ⟨19, [(4, none)], S172_0⟩
theorem tr172 : trFn Try.prog 172 [2, 3] [[2, 3], [2, 3, 5], [2, 3, 5, 12], [4], [4]] = some S172 := by kernel_rfl
end Go.Proofs.Ytniobbepliknmaa.V
/- The text of parlance/gram.Check as a statement (slots: 0 g, 1 g, 3 i, 4 r, 5 _, 6 s, 7 _, 8 q); no condition. -/
namespace Go.Proofs.Ytniobbepliknmaa.V
open Go
def S112_1 : Stmt :=
  Stmt.seq
  (Stmt.region [SOper.mk (some 69) none (SOp.ibin BinOp.lss (Operand.tmp 68) (Operand.tmp 67))]
    [1, 3, 4, 44, 45, 46, 66, 67, 68, 69])
  (Stmt.seq (Stmt.cond (Operand.tmp 69) Stmt.skip (Stmt.exit 2))
    (Stmt.seq
      (Stmt.block 3
        (Stmt.seq
          (Stmt.region
            [SOper.mk (some 70) none (SOp.idx 2 (Operand.tmp 66) (Operand.tmp 68)),
              SOper.mk (some 71) none (SOp.load true 2 (Operand.tmp 70)),
              SOper.mk (some 6) none
                (SOp.alloc true 39 (Value.agg (Array.mk [Value.bool false, Value.int IntKind.i64 0]))),
              SOper.mk none none (SOp.store 2 (Operand.tmp 6) (Operand.tmp 71))]
            [1, 3, 4, 6, 44, 45, 46, 66, 67, 68])
          (Stmt.seq
            (Stmt.region
              [SOper.mk (some 72) none (SOp.fld 1 (Operand.tmp 6)),
                SOper.mk (some 73) none (SOp.load false 1 (Operand.tmp 72)),
                SOper.mk (some 74) none (SOp.ibin BinOp.lss (Operand.tmp 73) (Operand.const (Value.int IntKind.i64 0))),
                SOper.mk (some 75) none (SOp.mv (Operand.tmp 74)),
                SOper.mk (some 76) (some (75, false)) (SOp.fld 0 (Operand.tmp 6)),
                SOper.mk (some 77) (some (75, false)) (SOp.load false 1 (Operand.tmp 76)),
                SOper.mk (some 78) (some (75, false)) (SOp.mv (Operand.tmp 77)),
                SOper.mk (some 79) (some (78, true)) (SOp.fld 1 (Operand.tmp 6)),
                SOper.mk (some 80) (some (78, true)) (SOp.load false 1 (Operand.tmp 79)),
                SOper.mk (some 81) (some (78, true)) (SOp.fld 0 (Operand.tmp 1)),
                SOper.mk (some 82) (some (78, true)) (SOp.load false 1 (Operand.tmp 81)),
                SOper.mk (some 83) (some (78, true)) (SOp.ibin BinOp.geq (Operand.tmp 80) (Operand.tmp 82)),
                SOper.mk (some 84) (some (75, false))
                  (SOp.pick (Operand.tmp 78) (Operand.tmp 83) (Operand.const (Value.bool false))),
                SOper.mk (some 85) none (SOp.pick (Operand.tmp 75) (Operand.const (Value.bool true)) (Operand.tmp 84)),
                SOper.mk (some 86) none (SOp.mv (Operand.tmp 85)),
                SOper.mk (some 87) (some (86, false)) (SOp.fld 0 (Operand.tmp 6)),
                SOper.mk (some 88) (some (86, false)) (SOp.load false 1 (Operand.tmp 87)),
                SOper.mk (some 89) (some (86, false)) (SOp.un UnOp.not (Operand.tmp 88)),
                SOper.mk (some 90) (some (86, false)) (SOp.mv (Operand.tmp 89)),
                SOper.mk (some 91) (some (90, true)) (SOp.fld 1 (Operand.tmp 6)),
                SOper.mk (some 92) (some (90, true)) (SOp.load false 1 (Operand.tmp 91)),
                SOper.mk (some 93) (some (90, true)) (SOp.fld 1 (Operand.tmp 1)),
                SOper.mk (some 94) (some (90, true)) (SOp.load false 1 (Operand.tmp 93)),
                SOper.mk (some 95) (some (90, true)) (SOp.ibin BinOp.geq (Operand.tmp 92) (Operand.tmp 94)),
                SOper.mk (some 96) (some (86, false))
                  (SOp.pick (Operand.tmp 90) (Operand.tmp 95) (Operand.const (Value.bool false))),
                SOper.mk (some 97) none (SOp.pick (Operand.tmp 86) (Operand.const (Value.bool true)) (Operand.tmp 96))]
              [1, 3, 4, 44, 45, 46, 66, 67, 68, 97])
            (Stmt.cond (Operand.tmp 97)
              (Stmt.seq (Stmt.region [SOper.mk (some 2) none (SOp.mv (Operand.const (Value.int IntKind.i64 3)))] [2])
                Stmt.ret)
              Stmt.skip))))
      (Stmt.region
        [SOper.mk (some 98) none (SOp.ibin BinOp.add (Operand.tmp 68) (Operand.const (Value.int IntKind.i64 1))),
          SOper.mk (some 68) none (SOp.mv (Operand.tmp 98))]
        [1, 3, 4, 44, 45, 46, 66, 67, 68])))
def S112_2 : Stmt :=
  Stmt.seq
  (Stmt.region [SOper.mk (some 105) none (SOp.ibin BinOp.lss (Operand.tmp 104) (Operand.tmp 103))]
    [1, 4, 44, 45, 46, 102, 103, 104, 105])
  (Stmt.seq (Stmt.cond (Operand.tmp 105) Stmt.skip (Stmt.exit 4))
    (Stmt.seq
      (Stmt.block 5
        (Stmt.seq
          (Stmt.region
            [SOper.mk (some 106) none (SOp.idx 2 (Operand.tmp 102) (Operand.tmp 104)),
              SOper.mk (some 107) none (SOp.load true 2 (Operand.tmp 106)),
              SOper.mk (some 8) none
                (SOp.alloc true 37 (Value.agg (Array.mk [Value.int IntKind.i64 0, Value.slice none 0 0]))),
              SOper.mk none none (SOp.store 2 (Operand.tmp 8) (Operand.tmp 107))]
            [1, 4, 8, 44, 45, 46, 102, 103, 104])
          (Stmt.seq
            (Stmt.region
              [SOper.mk (some 108) none (SOp.load true 2 (Operand.tmp 8)),
                SOper.mk (some 109) none (SOp.load true 2 (Operand.tmp 4)),
                SOper.mk (some 110) none (SOp.call (Operand.func 172) [Operand.tmp 108, Operand.tmp 109]),
                SOper.mk (some 111) none
                  (SOp.ibin BinOp.eql (Operand.tmp 110) (Operand.const (Value.int IntKind.i64 0)))]
              [1, 4, 44, 45, 46, 102, 103, 104, 111])
            (Stmt.cond (Operand.tmp 111)
              (Stmt.seq (Stmt.region [SOper.mk (some 2) none (SOp.mv (Operand.const (Value.int IntKind.i64 6)))] [2])
                Stmt.ret)
              Stmt.skip))))
      (Stmt.region
        [SOper.mk (some 112) none (SOp.ibin BinOp.add (Operand.tmp 104) (Operand.const (Value.int IntKind.i64 1))),
          SOper.mk (some 104) none (SOp.mv (Operand.tmp 112))]
        [1, 4, 44, 45, 46, 102, 103, 104])))
def S112_3 : Stmt :=
  Stmt.seq
  (Stmt.region [SOper.mk (some 47) none (SOp.ibin BinOp.lss (Operand.tmp 46) (Operand.tmp 45))] [1, 44, 45, 46, 47])
  (Stmt.seq (Stmt.cond (Operand.tmp 47) Stmt.skip (Stmt.exit 0))
    (Stmt.seq
      (Stmt.block 1
        (Stmt.seq
          (Stmt.region
            [SOper.mk (some 48) none (SOp.mv (Operand.tmp 46)),
              SOper.mk (some 49) none (SOp.idx 2 (Operand.tmp 44) (Operand.tmp 46)),
              SOper.mk (some 50) none (SOp.load true 2 (Operand.tmp 49)),
              SOper.mk (some 4) none
                (SOp.alloc true 37 (Value.agg (Array.mk [Value.int IntKind.i64 0, Value.slice none 0 0]))),
              SOper.mk (some 3) none (SOp.mv (Operand.tmp 48)),
              SOper.mk none none (SOp.store 2 (Operand.tmp 4) (Operand.tmp 50))]
            [1, 3, 4, 44, 45, 46])
          (Stmt.seq
            (Stmt.seq
              (Stmt.region
                [SOper.mk (some 51) none (SOp.fld 0 (Operand.tmp 4)),
                  SOper.mk (some 52) none (SOp.load false 1 (Operand.tmp 51)),
                  SOper.mk (some 53) none
                    (SOp.ibin BinOp.lss (Operand.tmp 52) (Operand.const (Value.int IntKind.i64 0))),
                  SOper.mk (some 54) none (SOp.mv (Operand.tmp 53)),
                  SOper.mk (some 55) (some (54, false)) (SOp.fld 0 (Operand.tmp 4)),
                  SOper.mk (some 56) (some (54, false)) (SOp.load false 1 (Operand.tmp 55)),
                  SOper.mk (some 57) (some (54, false)) (SOp.fld 1 (Operand.tmp 1)),
                  SOper.mk (some 58) (some (54, false)) (SOp.load false 1 (Operand.tmp 57)),
                  SOper.mk (some 59) (some (54, false)) (SOp.ibin BinOp.geq (Operand.tmp 56) (Operand.tmp 58)),
                  SOper.mk (some 60) none
                    (SOp.pick (Operand.tmp 54) (Operand.const (Value.bool true)) (Operand.tmp 59))]
                [1, 3, 4, 44, 45, 46, 60])
              (Stmt.cond (Operand.tmp 60)
                (Stmt.seq (Stmt.region [SOper.mk (some 2) none (SOp.mv (Operand.const (Value.int IntKind.i64 3)))] [2])
                  Stmt.ret)
                Stmt.skip))
            (Stmt.seq
              (Stmt.seq
                (Stmt.region
                  [SOper.mk (some 61) none (SOp.fld 1 (Operand.tmp 4)),
                    SOper.mk (some 62) none (SOp.load false 1 (Operand.tmp 61)),
                    SOper.mk (some 63) none (SOp.len false (Operand.tmp 62)),
                    SOper.mk (some 64) none
                      (SOp.ibin BinOp.gtr (Operand.tmp 63) (Operand.const (Value.int IntKind.i64 4)))]
                  [1, 3, 4, 44, 45, 46, 64])
                (Stmt.cond (Operand.tmp 64)
                  (Stmt.seq
                    (Stmt.region [SOper.mk (some 2) none (SOp.mv (Operand.const (Value.int IntKind.i64 2)))] [2])
                    Stmt.ret)
                  Stmt.skip))
              (Stmt.seq
                (Stmt.seq
                  (Stmt.region
                    [SOper.mk (some 65) none (SOp.fld 1 (Operand.tmp 4)),
                      SOper.mk (some 66) none (SOp.load false 1 (Operand.tmp 65)),
                      SOper.mk (some 67) none (SOp.len false (Operand.tmp 66)),
                      SOper.mk (some 68) none (SOp.mv (Operand.const (Value.int IntKind.i64 0)))]
                    [1, 3, 4, 44, 45, 46, 66, 67, 68])
                  (Stmt.block 2 (Stmt.loop S112_1 [68] [1, 3, 4, 44, 45, 46, 66, 67])))
                (Stmt.seq
                  (Stmt.region
                    [SOper.mk (some 99) none (SOp.fld 3 (Operand.tmp 1)),
                      SOper.mk (some 100) none (SOp.load false 1 (Operand.tmp 99)),
                      SOper.mk (some 101) none (SOp.mv (Operand.tmp 3)),
                      SOper.mk (some 102) none (SOp.slc 2 (Operand.tmp 100) none (some (Operand.tmp 101)) none),
                      SOper.mk (some 103) none (SOp.len false (Operand.tmp 102)),
                      SOper.mk (some 104) none (SOp.mv (Operand.const (Value.int IntKind.i64 0)))]
                    [1, 4, 44, 45, 46, 102, 103, 104])
                  (Stmt.block 4 (Stmt.loop S112_2 [104] [1, 4, 44, 45, 46, 102, 103]))))))))
      (Stmt.region
        [SOper.mk (some 113) none (SOp.ibin BinOp.add (Operand.tmp 46) (Operand.const (Value.int IntKind.i64 1))),
          SOper.mk (some 46) none (SOp.mv (Operand.tmp 113))]
        [1, 44, 45, 46])))
def S112_0 : Stmt :=
  Stmt.seq
  (Stmt.region
    [SOper.mk (some 1) none (SOp.box true 57 (Operand.tmp 0)),
      SOper.mk (some 2) none (SOp.mv (Operand.const (Value.int IntKind.i64 0)))]
    [1])
  (Stmt.seq
    (Stmt.seq
      (Stmt.region
        [SOper.mk (some 9) none (SOp.fld 0 (Operand.tmp 1)), SOper.mk (some 10) none (SOp.load false 1 (Operand.tmp 9)),
          SOper.mk (some 11) none (SOp.ibin BinOp.lss (Operand.tmp 10) (Operand.const (Value.int IntKind.i64 1))),
          SOper.mk (some 12) none (SOp.mv (Operand.tmp 11)),
          SOper.mk (some 13) (some (12, false)) (SOp.fld 0 (Operand.tmp 1)),
          SOper.mk (some 14) (some (12, false)) (SOp.load false 1 (Operand.tmp 13)),
          SOper.mk (some 15) (some (12, false))
            (SOp.ibin BinOp.gtr (Operand.tmp 14) (Operand.const (Value.int IntKind.i64 8))),
          SOper.mk (some 16) none (SOp.pick (Operand.tmp 12) (Operand.const (Value.bool true)) (Operand.tmp 15)),
          SOper.mk (some 17) none (SOp.mv (Operand.tmp 16)),
          SOper.mk (some 18) (some (17, false)) (SOp.fld 1 (Operand.tmp 1)),
          SOper.mk (some 19) (some (17, false)) (SOp.load false 1 (Operand.tmp 18)),
          SOper.mk (some 20) (some (17, false))
            (SOp.ibin BinOp.lss (Operand.tmp 19) (Operand.const (Value.int IntKind.i64 1))),
          SOper.mk (some 21) none (SOp.pick (Operand.tmp 17) (Operand.const (Value.bool true)) (Operand.tmp 20)),
          SOper.mk (some 22) none (SOp.mv (Operand.tmp 21)),
          SOper.mk (some 23) (some (22, false)) (SOp.fld 1 (Operand.tmp 1)),
          SOper.mk (some 24) (some (22, false)) (SOp.load false 1 (Operand.tmp 23)),
          SOper.mk (some 25) (some (22, false))
            (SOp.ibin BinOp.gtr (Operand.tmp 24) (Operand.const (Value.int IntKind.i64 10))),
          SOper.mk (some 26) none (SOp.pick (Operand.tmp 22) (Operand.const (Value.bool true)) (Operand.tmp 25)),
          SOper.mk (some 27) none (SOp.mv (Operand.tmp 26)),
          SOper.mk (some 28) (some (27, false)) (SOp.fld 2 (Operand.tmp 1)),
          SOper.mk (some 29) (some (27, false)) (SOp.load false 1 (Operand.tmp 28)),
          SOper.mk (some 30) (some (27, false))
            (SOp.ibin BinOp.lss (Operand.tmp 29) (Operand.const (Value.int IntKind.i64 0))),
          SOper.mk (some 31) none (SOp.pick (Operand.tmp 27) (Operand.const (Value.bool true)) (Operand.tmp 30)),
          SOper.mk (some 32) none (SOp.mv (Operand.tmp 31)),
          SOper.mk (some 33) (some (32, false)) (SOp.fld 2 (Operand.tmp 1)),
          SOper.mk (some 34) (some (32, false)) (SOp.load false 1 (Operand.tmp 33)),
          SOper.mk (some 35) (some (32, false)) (SOp.fld 1 (Operand.tmp 1)),
          SOper.mk (some 36) (some (32, false)) (SOp.load false 1 (Operand.tmp 35)),
          SOper.mk (some 37) (some (32, false)) (SOp.ibin BinOp.geq (Operand.tmp 34) (Operand.tmp 36)),
          SOper.mk (some 38) none (SOp.pick (Operand.tmp 32) (Operand.const (Value.bool true)) (Operand.tmp 37))]
        [1, 38])
      (Stmt.cond (Operand.tmp 38)
        (Stmt.seq (Stmt.region [SOper.mk (some 2) none (SOp.mv (Operand.const (Value.int IntKind.i64 1)))] [2])
          Stmt.ret)
        Stmt.skip))
    (Stmt.seq
      (Stmt.seq
        (Stmt.region
          [SOper.mk (some 39) none (SOp.fld 3 (Operand.tmp 1)),
            SOper.mk (some 40) none (SOp.load false 1 (Operand.tmp 39)),
            SOper.mk (some 41) none (SOp.len false (Operand.tmp 40)),
            SOper.mk (some 42) none (SOp.ibin BinOp.gtr (Operand.tmp 41) (Operand.const (Value.int IntKind.i64 32)))]
          [1, 42])
        (Stmt.cond (Operand.tmp 42)
          (Stmt.seq (Stmt.region [SOper.mk (some 2) none (SOp.mv (Operand.const (Value.int IntKind.i64 2)))] [2])
            Stmt.ret)
          Stmt.skip))
      (Stmt.seq
        (Stmt.seq
          (Stmt.region
            [SOper.mk (some 43) none (SOp.fld 3 (Operand.tmp 1)),
              SOper.mk (some 44) none (SOp.load false 1 (Operand.tmp 43)),
              SOper.mk (some 45) none (SOp.len false (Operand.tmp 44)),
              SOper.mk (some 46) none (SOp.mv (Operand.const (Value.int IntKind.i64 0)))]
            [1, 44, 45, 46])
          (Stmt.block 0 (Stmt.loop S112_3 [46] [1, 44, 45])))
        (Stmt.seq (Stmt.region [SOper.mk (some 2) none (SOp.mv (Operand.const (Value.int IntKind.i64 0)))] [2])
          Stmt.ret))))
def S112 : FnS := ⟨114, [(2, none)], S112_0⟩
theorem tr112 : trFn Try.prog 112 [1, 4, 6, 8] [[1], [1, 38], [2], [1, 42], [2], [1, 44, 45, 46], [46], [1, 44, 45], [1, 44, 45, 46, 47], [1, 3, 4, 44, 45, 46], [1, 3, 4, 44, 45, 46, 60], [2], [1, 3, 4, 44, 45, 46, 64], [2], [1, 3, 4, 44, 45, 46, 66, 67, 68], [68], [1, 3, 4, 44, 45, 46, 66, 67], [1, 3, 4, 44, 45, 46, 66, 67, 68, 69], [1, 3, 4, 6, 44, 45, 46, 66, 67, 68], [1, 3, 4, 44, 45, 46, 66, 67, 68, 97], [2], [1, 3, 4, 44, 45, 46, 66, 67, 68], [1, 4, 44, 45, 46, 102, 103, 104], [104], [1, 4, 44, 45, 46, 102, 103], [1, 4, 44, 45, 46, 102, 103, 104, 105], [1, 4, 8, 44, 45, 46, 102, 103, 104], [1, 4, 44, 45, 46, 102, 103, 104, 111], [2], [1, 4, 44, 45, 46, 102, 103, 104], [1, 44, 45, 46], [2]] = some S112 := by kernel_rfl
end Go.Proofs.Ytniobbepliknmaa.V
/- Grammars are checked: gram.Order, gram.Compare and gram.Check walked; no condition. -/
namespace Go.Proofs.Ytniobbepliknmaa.V
open Go
set_option linter.unusedVariables false
set_option linter.unusedSimpArgs false
attribute [local go_sem] e_seq e_region e_quiet e_join e_loop e_cond e_block e_exit e_ret e_skip e_fin e_kseq e_snrm e_sret e_sex e_bnrm e_bret e_bex e_rnrm e_rret e_res e_condC e_nil e_g e_mv g_mv e_pick g_pick pickC_eq e_ibin g_ibin ibinC_eq e_sbin g_sbin e_beq g_beq beqC_eq e_nilq g_nilq nilqC_sl nilqC_pt nilqC_mp e_un g_un unC_not unC_neg e_conv g_conv convC_eq e_fld g_fld fldC_ref fldC_ptr e_nilCheck g_nilCheck nilCheckC_ref nilCheckC_ptr nilCheckC_fun e_field g_field fieldC_eq e_len g_len lenC_sl lenC_str e_extract g_extract extractC_eq e_mkFunc e_build g_build e_idiv g_idiv idivC_eq e_ishift g_ishift ishiftC_eq e_idx g_idx e_idxA g_idxA e_load g_load loadC_ref loadC_ptr loadB_eq e_slc g_slc e_box boxC_loc boxC_esc e_alloc allocC_loc allocC_esc e_buildS e_store storeC_ref storeC_ptr storeB_eq e_append e_appz e_mk mkC_eq e_call callC_eq e_fn g_fn fnC_eq fnV_min' fnV_max' fnV_rune' e_q g_q e_a e_n g_call g_box g_alloc g_buildS g_store g_append g_mk g_a g_n g_dead e_dead e_callK e_drawn e_tree e_finJ e_tk e_tfin e_tno e_nbt_q e_nbt_qn e_nbt_a e_nbt_an e_nbt_fin e_early_nil e_early_t e_early_f e_nob_nil e_nob_none e_nob_some isBox_dead isBox_v isBox_ref e_dnil e_dk e_ek e_finB vcOps_vc1 e_dcons e_tq e_ekt e_tearly e_talt e_dearly look_nil look_c proj_nil proj_c looks_nil looks_c zip_nil zip_c val_tmp val_const val_func slv_v slv_box slv_ref slot_tmp slot_const slot_func slotL_v slotL_box slotL_ref put_some put_none updBox_c boxSet_box gd_eq slotVals_nil slotVals_c slotVals_b boxV_box boxOn_box slotsOn_nil slotsOn_c slotsOn_b resV_one resV_two vals_nil vals_c allOn_nil allOn_c partOn_nil partOn_c partVals_nil partVals_c fits_nil fits_c fillL_nil fillL_c mkv_one mkv_agg cellsV_agg cellsV_int cellsV_bool cellsV_slice cellsV_string cellsV_pointer cellsV_func cellsV_nilf cellsV_map one'_nil one'_c oc_int oc_bool oc_slice oc_string oc_pointer oc_func oc_nilf oc_map setC_eq iv_add iv_sub iv_mul iv_eql iv_neq iv_lss iv_leq iv_gtr iv_geq iok_add iok_sub iok_mul iok_eql iok_neq iok_lss iok_leq iok_gtr iok_geq pickV_bool args0_nil args0_c bnd_none bnd_some imp_bt imp_bf imp_ebt imp_ebf imp_eb1 imp_np imp_pp beq_tt beq_tf beq_ft beq_ff cond_or cond_and e_round e_meet Int.le_refl Int.toNat_zero decide_true decide_false Bool.or_false Bool.false_or Bool.true_or Bool.or_true Bool.and_false Bool.false_and Bool.bne_false Bool.bne_true beq_iff_eq Int.cast_ofNat_Int not_false_eq_true not_true_eq_false false_and and_false false_implies true_implies true_and and_true Bool.true_and Bool.and_true Bool.not_true Bool.not_false forall_const implies_true List.take_zero List.drop_zero List.take_succ_cons List.drop_succ_cons List.take_nil List.drop_nil List.length_cons List.length_nil List.nil_append List.append_nil List.cons_append Int.toNat_natCast decide_eq_true_eq decide_eq_false_iff_not cond_true cond_false and_self List.getElem?_cons_zero List.getElem?_cons_succ List.set_cons_zero List.set_cons_succ Option.some.injEq exists_eq_left' Nat.zero_add Nat.add_zero Nat.mul_one imp_self true_or or_true or_false false_or Bool.or_eq_true Bool.or_eq_false_iff Bool.and_eq_true Bool.and_eq_false_iff Bool.not_eq_true' Bool.not_eq_false'

def symC (a b : Sy) : Int := if a.t = true ∧ b.t = false then -1 else if a.t = false ∧ b.t = true then 1 else cmpI a.n b.n
def symsC : List Sy → List Sy → Int
  | [], [] => 0
  | [], _ :: _ => -1
  | _ :: _, [] => 1
  | a :: r, b :: s => if symC a b = 0 then symsC r s else symC a b
def ruleC (a b : Ru) : Int := if cmpI a.l b.l = 0 then symsC a.r b.r else cmpI a.l b.l
theorem cmpI_zero {a b : Int} : cmpI a b = 0 ↔ a = b := by
  unfold cmpI
  constructor
  · intro h
    split at h
    · omega
    · split at h <;> omega
  · rintro rfl
    simp
theorem symC_zero {a b : Sy} : symC a b = 0 ↔ a = b := by
  obtain ⟨t, n⟩ := a
  obtain ⟨t', n'⟩ := b
  unfold symC
  cases t <;> cases t' <;> simp [cmpI_zero]
theorem symsC_zero : ∀ {a b : List Sy}, symsC a b = 0 ↔ a = b
  | [], [] => by simp [symsC]
  | [], _ :: _ => by simp [symsC]
  | _ :: _, [] => by simp [symsC]
  | a :: r, b :: s => by
    simp only [symsC, List.cons.injEq]
    by_cases h : symC a b = 0
    · rw [if_pos h, symsC_zero (a := r), symC_zero] at *
      exact ⟨fun q => ⟨h, q⟩, fun q => q.2⟩
    · rw [if_neg h]
      exact ⟨fun q => absurd q h, fun q => absurd (symC_zero.2 q.1) h⟩
theorem ruleC_zero {a b : Ru} : ruleC a b = 0 ↔ a = b := by
  obtain ⟨l, r⟩ := a
  obtain ⟨l', r'⟩ := b
  unfold ruleC
  by_cases h : cmpI l l' = 0
  · rw [if_pos h, symsC_zero]
    simp only [Ru.mk.injEq, cmpI_zero.1 h, true_and]
  · simp only [if_neg h, Ru.mk.injEq]
    exact ⟨fun q => absurd q h, fun q => absurd (cmpI_zero.2 q.1) h⟩

theorem gram_order {Γr : Ctx} (a b : Sy) : Ret Try.prog 203 [.agg #[.bool a.t, .int .i64 a.n], .agg #[.bool b.t, .int .i64 b.n]] Γr [] (fun v Γ => Γ = [] ∧ v = .int .i64 (symC a b)) := by
  generalize hR : (fun (v : Value) (Γ : Ctx) => Γ = [] ∧ _) = R
  refine ret_of_vc tr203 (Nat.le_of_ble_eq_true rfl) ?_
  obtain ⟨t, n⟩ := a
  obtain ⟨t', n'⟩ := b
  cases t <;> cases t'
  all_goals
    simp -implicitDefEqProofs only [S203, S203_0, go_sem, Nat.reduceBEq, Nat.reduceAdd, Nat.reduceSub, Nat.reduceMul, Nat.reduceLeDiff, reduceCtorEq, ↓reduceIte, Int.reduceLT, Int.reduceLE, Int.reduceEq, Int.reduceNe]
  · intro b b'
    refine CallVC.read (cmp_compare _ _) ?_
    rintro v Γ' ⟨rfl, rfl⟩
    simp -implicitDefEqProofs only [go_sem, Nat.reduceBEq, Nat.reduceAdd, Nat.reduceSub, Nat.reduceMul, Nat.reduceLeDiff, reduceCtorEq, ↓reduceIte, Int.reduceLT, Int.reduceLE, Int.reduceEq, Int.reduceNe]
    refine Up.here ?_
    subst hR
    exact ⟨rfl, rfl⟩
  · refine Up.here ?_
    subst hR
    exact ⟨rfl, rfl⟩
  · refine Up.here ?_
    subst hR
    exact ⟨rfl, rfl⟩
  · intro b b'
    refine CallVC.read (cmp_compare _ _) ?_
    rintro v Γ' ⟨rfl, rfl⟩
    simp -implicitDefEqProofs only [go_sem, Nat.reduceBEq, Nat.reduceAdd, Nat.reduceSub, Nat.reduceMul, Nat.reduceLeDiff, reduceCtorEq, ↓reduceIte, Int.reduceLT, Int.reduceLE, Int.reduceEq, Int.reduceNe]
    refine Up.here ?_
    subst hR
    exact ⟨rfl, rfl⟩

theorem compare_syms {Γr : Ctx} {A B : Option Addr} {c d : Nat} {xs ys : List Sy} (hx : SlOk (lk Γr) A c xs) (hy : SlOk (lk Γr) B d ys) :
    Ret Try.prog 202 [.slice A xs.length c, .slice B ys.length d, .func (.func 203) #[] #[]] Γr [] (fun v Γ => Γ = [] ∧ v = .int .i64 (symsC xs ys)) := by
  generalize hR : (fun (v : Value) (Γ : Ctx) => Γ = [] ∧ _) = R
  refine ret_of_vc tr202 (Nat.le_of_ble_eq_true rfl) ?_
  have h1 := hx.short
  have h2 := hy.short
  simp -implicitDefEqProofs only [S202, S202_0, go_sem, Nat.reduceBEq, Nat.reduceAdd, Nat.reduceSub, Nat.reduceMul, Nat.reduceLeDiff, reduceCtorEq, ↓reduceIte, Int.reduceLT, Int.reduceLE, Int.reduceEq, Int.reduceNe]
  refine s_loop (fun f vs Γ => Γ = [] ∧ ∃ k : Nat, vs = [.v true (.int .i64 k)] ∧ k + f = xs.length ∧ k ≤ ys.length ∧ symsC xs ys = symsC (xs.drop k) (ys.drop k)) xs.length (Up.here ⟨rfl, 0, rfl, by omega, by omega, by simp⟩) ?_
  rintro f vs Γ ⟨rfl, k, rfl, hkf, hky, he⟩
  simp -implicitDefEqProofs only [S202_1, go_sem, Nat.reduceBEq, Nat.reduceAdd, Nat.reduceSub, Nat.reduceMul, Nat.reduceLeDiff, reduceCtorEq, ↓reduceIte, Int.reduceLT, Int.reduceLE, Int.reduceEq, Int.reduceNe]
  refine ⟨fun hlt => ?_, fun hge => ?_⟩
  · have hk : k < xs.length := by omega
    obtain ⟨b, o, hA, hc1⟩ := hx.sy hk
    refine s_idx hA (by omega) (by omega) ?_
    simp -implicitDefEqProofs only [go_sem, Nat.reduceBEq, Nat.reduceAdd, Nat.reduceSub, Nat.reduceMul, Nat.reduceLeDiff, reduceCtorEq, ↓reduceIte, Int.reduceLT, Int.reduceLE, Int.reduceEq, Int.reduceNe]
    refine s_ld0 (hc1 _ (Mem.le.refl _)) (by simp) (by simp) ?_
    simp -implicitDefEqProofs only [go_sem, Nat.reduceBEq, Nat.reduceAdd, Nat.reduceSub, Nat.reduceMul, Nat.reduceLeDiff, reduceCtorEq, ↓reduceIte, Int.reduceLT, Int.reduceLE, Int.reduceEq, Int.reduceNe]
    rw [List.drop_eq_getElem_cons hk] at he
    intro b1
    refine ⟨fun hle => Up.here ?_, fun hlt2 => ?_⟩
    · have : ys.drop k = [] := List.drop_eq_nil_of_le (by omega)
      subst hR
      refine ⟨rfl, ?_⟩
      rw [he, this]
      rfl
    · have hk' : k < ys.length := by omega
      obtain ⟨b', o', hB, hc2⟩ := hy.sy hk'
      refine s_idx hB (by omega) (by omega) ?_
      simp -implicitDefEqProofs only [go_sem, Nat.reduceBEq, Nat.reduceAdd, Nat.reduceSub, Nat.reduceMul, Nat.reduceLeDiff, reduceCtorEq, ↓reduceIte, Int.reduceLT, Int.reduceLE, Int.reduceEq, Int.reduceNe]
      refine s_ld0 (hc2 _ (Mem.le.refl _)) (by simp) (by simp) ?_
      simp -implicitDefEqProofs only [go_sem, Nat.reduceBEq, Nat.reduceAdd, Nat.reduceSub, Nat.reduceMul, Nat.reduceLeDiff, reduceCtorEq, ↓reduceIte, Int.reduceLT, Int.reduceLE, Int.reduceEq, Int.reduceNe]
      intro b2
      refine CallVC.read (gram_order _ _) ?_
      rintro v Γ' ⟨rfl, rfl⟩
      rw [List.drop_eq_getElem_cons hk', symsC] at he
      simp -implicitDefEqProofs only [go_sem, Nat.reduceBEq, Nat.reduceAdd, Nat.reduceSub, Nat.reduceMul, Nat.reduceLeDiff, reduceCtorEq, ↓reduceIte, Int.reduceLT, Int.reduceLE, Int.reduceEq, Int.reduceNe]
      refine ⟨fun hne => Up.here ?_, fun heq => ?_⟩
      · rw [if_neg hne] at he
        subst hR
        exact ⟨rfl, by rw [he]⟩
      · rw [if_pos heq] at he
        simp (disch := omega) only [wrap_id]
        exact ⟨f - 1, by omega, Up.here ⟨rfl, k + 1, rfl, by omega, by omega, he⟩⟩
  · have hk : k = xs.length := by omega
    rw [hk, List.drop_length] at he
    subst hR
    refine ⟨fun h => Up.here ⟨rfl, ?_⟩, fun h => Up.here ⟨rfl, ?_⟩⟩
    · rw [he, List.drop_eq_getElem_cons (by omega)]
      rfl
    · rw [he, List.drop_eq_nil_of_le (by omega)]
      rfl

theorem gram_compare {Γr : Ctx} {a b : Ru} {A B : Option Addr} {c d : Nat} (hx : SlOk (lk Γr) A c a.r) (hy : SlOk (lk Γr) B d b.r) :
    Ret Try.prog 172 [.agg #[.int .i64 a.l, .slice A a.r.length c], .agg #[.int .i64 b.l, .slice B b.r.length d]] Γr [] (fun v Γ => Γ = [] ∧ v = .int .i64 (ruleC a b)) := by
  generalize hR : (fun (v : Value) (Γ : Ctx) => Γ = [] ∧ _) = R
  refine ret_of_vc tr172 (Nat.le_of_ble_eq_true rfl) ?_
  simp -implicitDefEqProofs only [S172, S172_0, go_sem, Nat.reduceBEq, Nat.reduceAdd, Nat.reduceSub, Nat.reduceMul, Nat.reduceLeDiff, reduceCtorEq, ↓reduceIte, Int.reduceLT, Int.reduceLE, Int.reduceEq, Int.reduceNe]
  intro b1 b2
  refine CallVC.read (cmp_compare _ _) ?_
  rintro v Γ' ⟨rfl, rfl⟩
  simp -implicitDefEqProofs only [go_sem, Nat.reduceBEq, Nat.reduceAdd, Nat.reduceSub, Nat.reduceMul, Nat.reduceLeDiff, reduceCtorEq, ↓reduceIte, Int.reduceLT, Int.reduceLE, Int.reduceEq, Int.reduceNe]
  refine ⟨fun hne => Up.here ?_, fun heq => ?_⟩
  · subst hR
    exact ⟨rfl, by rw [ruleC, if_neg hne]⟩
  · refine CallVC.read (compare_syms hx hy) ?_
    rintro v Γ' ⟨rfl, rfl⟩
    simp -implicitDefEqProofs only [go_sem, Nat.reduceBEq, Nat.reduceAdd, Nat.reduceSub, Nat.reduceMul, Nat.reduceLeDiff, reduceCtorEq, ↓reduceIte, Int.reduceLT, Int.reduceLE, Int.reduceEq, Int.reduceNe]
    refine Up.here ?_
    subst hR
    exact ⟨rfl, by rw [ruleC, if_pos heq]⟩

/-- a symbol that is none of the grammar -/
def badSy (ts ns : Int) (s : Sy) : Bool := decide (s.n < 0) || (s.t && decide (ts ≤ s.n)) || (!s.t && decide (ns ≤ s.n))
/-- the fault of rule k: the errors 3, 2, 3, 6, or none -/
def faultAt (g : Gr) (k : Nat) (r : Ru) : Int :=
  if r.l < 0 ∨ g.ns ≤ r.l then 3 else if 4 < r.r.length then 2 else if r.r.any (badSy g.ts g.ns) = true then 3 else if r ∈ g.rs.take k then 6 else 0
def ckR (g : Gr) : Nat → Int
  | 0 => 0
  | k + 1 => if ckR g k ≠ 0 then ckR g k else match g.rs[k]? with | some r => faultAt g k r | none => 0
def badHead (g : Gr) : Prop := g.ts < 1 ∨ 8 < g.ts ∨ g.ns < 1 ∨ 10 < g.ns ∨ g.st < 0 ∨ g.ns ≤ g.st
instance (g : Gr) : Decidable (badHead g) := by unfold badHead; infer_instance
def ckF (g : Gr) : Int := if badHead g then 1 else if 32 < g.rs.length then 2 else ckR g g.rs.length
theorem ckR_stays {g : Gr} {k : Nat} (h : ckR g k ≠ 0) : ∀ {m : Nat}, k ≤ m → ckR g m = ckR g k
  | m, hm => by
    induction m with
    | zero => have : k = 0 := by omega
              subst this; rfl
    | succ m ih =>
      by_cases e : k = m + 1
      · subst e; rfl
      · have := ih (by omega)
        rw [ckR, if_pos (by rw [this]; exact h), this]
theorem ckR_step {g : Gr} {k : Nat} (hk : k < g.rs.length) (h : ckR g k = 0) : ckR g (k + 1) = faultAt g k g.rs[k] := by
  rw [ckR, if_neg (by simp [h]), List.getElem?_eq_getElem hk]
theorem ckR_fault {g : Gr} {k : Nat} (hk : k < g.rs.length) (h : ckR g k = 0) (hf : faultAt g k g.rs[k] ≠ 0) : ckR g g.rs.length = faultAt g k g.rs[k] := by
  have := ckR_step hk h
  rw [← this] at hf ⊢
  exact ckR_stays hf (by omega)

theorem gram_check {Γr : Ctx} {g : Gr} {A : Option Addr} {c : Nat} (hx : SlOk (lk Γr) A c g.rs) :
    Ret Try.prog 112 [.agg #[.int .i64 g.ts, .int .i64 g.ns, .int .i64 g.st, .slice A g.rs.length c]] Γr [] (fun v Γ => Γ = [] ∧ v = .int .i64 (ckF g)) := by
  generalize hR : (fun (v : Value) (Γ : Ctx) => Γ = [] ∧ _) = R
  refine ret_of_vc tr112 (Nat.le_of_ble_eq_true rfl) ?_
  simp -implicitDefEqProofs only [S112, S112_0, go_sem, Nat.reduceBEq, Nat.reduceAdd, Nat.reduceSub, Nat.reduceMul, Nat.reduceLeDiff, reduceCtorEq, ↓reduceIte, Int.reduceLT, Int.reduceLE, Int.reduceEq, Int.reduceNe]
  intro b
  refine ⟨fun h => Up.here ?_, fun hok => ⟨fun h => Up.here ?_, fun h32 => ?_⟩⟩
  · subst hR
    exact ⟨rfl, by rw [ckF, if_pos (by unfold badHead; omega)]⟩
  · subst hR
    exact ⟨rfl, by rw [ckF, if_neg (by unfold badHead; omega), if_pos (by omega)]⟩
  have hck : ckF g = ckR g g.rs.length := by rw [ckF, if_neg (by unfold badHead; omega), if_neg (by omega)]
  refine s_loop (fun f vs Γ => Γ = [] ∧ ∃ k : Nat, vs = [.v true (.int .i64 k)] ∧ k + f = g.rs.length ∧ ckR g k = 0) g.rs.length (Up.here ⟨rfl, 0, rfl, by omega, rfl⟩) ?_
  rintro f vs Γ ⟨rfl, k, rfl, hkf, hck0⟩
  simp -implicitDefEqProofs only [S112_3, go_sem, Nat.reduceBEq, Nat.reduceAdd, Nat.reduceSub, Nat.reduceMul, Nat.reduceLeDiff, reduceCtorEq, ↓reduceIte, Int.reduceLT, Int.reduceLE, Int.reduceEq, Int.reduceNe]
  refine ⟨fun hlt => ?_, fun hge => ?_⟩
  · have hk : k < g.rs.length := by omega
    have hgen : ∀ x, faultAt g k g.rs[k] = x → x ≠ 0 → ckF g = x := fun x h1 h2 => by rw [hck, ckR_fault hk hck0 (by rw [h1]; exact h2), h1]
    have hzero : faultAt g k g.rs[k] = 0 → ckR g (k + 1) = 0 := fun h => by rw [ckR_step hk hck0, h]
    obtain ⟨b1, o1, hA, A', c', hr, hc1⟩ := hx.ru hk
    have hrl := hr.short
    refine s_idx hA (by omega) (by omega) ?_
    simp -implicitDefEqProofs only [go_sem, Nat.reduceBEq, Nat.reduceAdd, Nat.reduceSub, Nat.reduceMul, Nat.reduceLeDiff, reduceCtorEq, ↓reduceIte, Int.reduceLT, Int.reduceLE, Int.reduceEq, Int.reduceNe]
    refine s_ld0 (hc1 _ (Mem.le.refl _)) (by simp) (by simp) ?_
    simp -implicitDefEqProofs only [go_sem, Nat.reduceBEq, Nat.reduceAdd, Nat.reduceSub, Nat.reduceMul, Nat.reduceLeDiff, reduceCtorEq, ↓reduceIte, Int.reduceLT, Int.reduceLE, Int.reduceEq, Int.reduceNe]
    intro b2
    refine ⟨fun h => Up.here ?_, fun hl => ⟨fun h => Up.here ?_, fun h4 => ?_⟩⟩
    · subst hR
      exact ⟨rfl, by rw [hgen 3 (by rw [faultAt, if_pos h]) (by decide)]⟩
    · subst hR
      exact ⟨rfl, by rw [hgen 2 (by rw [faultAt, if_neg (by omega), if_pos (by omega)]) (by decide)]⟩
    have hf1 : faultAt g k g.rs[k] = if g.rs[k].r.any (badSy g.ts g.ns) = true then 3 else if g.rs[k] ∈ g.rs.take k then 6 else 0 := by
      rw [faultAt, if_neg (by omega), if_neg (by omega)]
    refine s_loop (fun f' vs Γ => Γ = [] ∧ ∃ j : Nat, vs = [.v true (.int .i64 j)] ∧ j + f' = g.rs[k].r.length ∧ ∀ (i : Nat) (h : i < g.rs[k].r.length), i < j → badSy g.ts g.ns g.rs[k].r[i] = false) g.rs[k].r.length (Up.here ⟨rfl, 0, rfl, by omega, by intro i _ h; omega⟩) ?_
    rintro f' vs Γ ⟨rfl, j, rfl, hjf, hno⟩
    simp -implicitDefEqProofs only [S112_1, go_sem, Nat.reduceBEq, Nat.reduceAdd, Nat.reduceSub, Nat.reduceMul, Nat.reduceLeDiff, reduceCtorEq, ↓reduceIte, Int.reduceLT, Int.reduceLE, Int.reduceEq, Int.reduceNe]
    refine ⟨fun hlt => ?_, fun hge => ?_⟩
    · have hj : j < g.rs[k].r.length := by omega
      obtain ⟨b3, o3, hA3, hc3⟩ := hr.sy hj
      refine s_idx hA3 (by omega) (by omega) ?_
      simp -implicitDefEqProofs only [go_sem, Nat.reduceBEq, Nat.reduceAdd, Nat.reduceSub, Nat.reduceMul, Nat.reduceLeDiff, reduceCtorEq, ↓reduceIte, Int.reduceLT, Int.reduceLE, Int.reduceEq, Int.reduceNe]
      refine s_ld0 (hc3 _ (Mem.le.refl _)) (by simp) (by simp) ?_
      simp -implicitDefEqProofs only [go_sem, Nat.reduceBEq, Nat.reduceAdd, Nat.reduceSub, Nat.reduceMul, Nat.reduceLeDiff, reduceCtorEq, ↓reduceIte, Int.reduceLT, Int.reduceLE, Int.reduceEq, Int.reduceNe]
      simp (disch := omega) only [wrap_id]
      refine ⟨fun h1 h2 => ⟨h1, h2⟩, fun h1 h2 => ⟨h1, h2⟩, fun h => Up.here ?_, fun h => ?_⟩
      · have hb : g.rs[k].r.any (badSy g.ts g.ns) = true := List.any_eq_true.2 ⟨g.rs[k].r[j], List.getElem_mem hj, by
          simp only [badSy, Bool.or_eq_true, Bool.and_eq_true, decide_eq_true_eq, Bool.not_eq_true']; exact h⟩
        subst hR
        exact ⟨rfl, by rw [hgen 3 (by rw [hf1, if_pos hb]) (by decide)]⟩
      · exact ⟨f' - 1, by omega, Up.here ⟨rfl, j + 1, rfl, by omega, fun i hi hij => by
          by_cases e : i = j
          · subst e
            simp only [badSy, Bool.or_eq_false_iff, Bool.and_eq_false_iff, decide_eq_false_iff_not, Bool.not_eq_false']; exact h
          · exact hno i hi (by omega)⟩⟩
    have hnb : ¬ (g.rs[k].r.any (badSy g.ts g.ns) = true) := by
      intro h
      obtain ⟨x, hx, hb⟩ := List.any_eq_true.1 h
      obtain ⟨i, hi, rfl⟩ := List.getElem_of_mem hx
      rw [hno i hi (by omega)] at hb
      cases hb
    have hf2 : faultAt g k g.rs[k] = if g.rs[k] ∈ g.rs.take k then 6 else 0 := by rw [hf1, if_neg hnb]
    refine s_hi k (by simp -implicitDefEqProofs only [go_sem, Nat.reduceBEq, Nat.reduceAdd, Nat.reduceSub, Nat.reduceMul, Nat.reduceLeDiff, reduceCtorEq, ↓reduceIte, Int.reduceLT, Int.reduceLE, Int.reduceEq, Int.reduceNe]; exact ⟨_, rfl⟩) (by have := hx.cap; omega) ?_
    simp -implicitDefEqProofs only [go_sem, Nat.reduceBEq, Nat.reduceAdd, Nat.reduceSub, Nat.reduceMul, Nat.reduceLeDiff, reduceCtorEq, ↓reduceIte, Int.reduceLT, Int.reduceLE, Int.reduceEq, Int.reduceNe]
    refine s_loop (fun f' vs Γ => Γ = [] ∧ ∃ j : Nat, vs = [.v true (.int .i64 j)] ∧ j + f' = k ∧ ∀ (i : Nat) (h : i < g.rs.length), i < j → g.rs[i] ≠ g.rs[k]) k (Up.here ⟨rfl, 0, rfl, by omega, by intro i _ h; omega⟩) ?_
    rintro f' vs Γ ⟨rfl, j, rfl, hjf, hne⟩
    simp -implicitDefEqProofs only [S112_2, go_sem, Nat.reduceBEq, Nat.reduceAdd, Nat.reduceSub, Nat.reduceMul, Nat.reduceLeDiff, reduceCtorEq, ↓reduceIte, Int.reduceLT, Int.reduceLE, Int.reduceEq, Int.reduceNe]
    refine ⟨fun hlt => ?_, fun hge => ?_⟩
    · have hj : j < g.rs.length := by omega
      obtain ⟨b3, o3, hA3, A4, c4, hr4, hc3⟩ := hx.ru hj
      refine s_idx hA3 (by omega) (by omega) ?_
      simp -implicitDefEqProofs only [go_sem, Nat.reduceBEq, Nat.reduceAdd, Nat.reduceSub, Nat.reduceMul, Nat.reduceLeDiff, reduceCtorEq, ↓reduceIte, Int.reduceLT, Int.reduceLE, Int.reduceEq, Int.reduceNe]
      refine s_ld0 (hc3 _ (Mem.le.refl _)) (by simp) (by simp) ?_
      simp -implicitDefEqProofs only [go_sem, Nat.reduceBEq, Nat.reduceAdd, Nat.reduceSub, Nat.reduceMul, Nat.reduceLeDiff, reduceCtorEq, ↓reduceIte, Int.reduceLT, Int.reduceLE, Int.reduceEq, Int.reduceNe]
      intro b5
      refine CallVC.read (gram_compare hr4 hr) ?_
      rintro v Γ' ⟨rfl, rfl⟩
      simp -implicitDefEqProofs only [go_sem, Nat.reduceBEq, Nat.reduceAdd, Nat.reduceSub, Nat.reduceMul, Nat.reduceLeDiff, reduceCtorEq, ↓reduceIte, Int.reduceLT, Int.reduceLE, Int.reduceEq, Int.reduceNe]
      refine ⟨fun h => Up.here ?_, fun h => ?_⟩
      · have hin : g.rs[k] ∈ g.rs.take k := by
          rw [← ruleC_zero.1 h, List.mem_take_iff_getElem]
          exact ⟨j, by omega, rfl⟩
        subst hR
        exact ⟨rfl, by rw [hgen 6 (by rw [hf2, if_pos hin]) (by decide)]⟩
      · simp (disch := omega) only [wrap_id]
        exact ⟨f' - 1, by omega, Up.here ⟨rfl, j + 1, rfl, by omega, fun i hi hij => by
          by_cases e : i = j
          · subst e; exact fun q => h (ruleC_zero.2 q)
          · exact hne i hi (by omega)⟩⟩
    · have hin : ¬ g.rs[k] ∈ g.rs.take k := by
        rw [List.mem_take_iff_getElem]
        rintro ⟨i, hi, e⟩
        exact hne i (by omega) (by omega) e
      simp (disch := omega) only [wrap_id]
      exact ⟨f - 1, by omega, Up.here ⟨rfl, k + 1, rfl, by omega, hzero (by rw [hf2, if_neg hin])⟩⟩
  · have hk : k = g.rs.length := by omega
    subst hk
    refine Up.here ?_
    subst hR
    exact ⟨rfl, by rw [hck, hck0]⟩
end Go.Proofs.Ytniobbepliknmaa.V
/- The text of parlance/parlref5.grid[bool] as a statement (slots: 0 a, 1 b, 2 a, 3 b, 5 out, 6 i); no condition. -/
namespace Go.Proofs.Ytniobbepliknmaa.V
open Go
def S151_1 : Stmt :=
  Stmt.seq
  (Stmt.region [SOper.mk (some 12) none (SOp.ibin BinOp.lss (Operand.tmp 11) (Operand.tmp 10))] [1, 5, 10, 11, 12])
  (Stmt.seq (Stmt.cond (Operand.tmp 12) Stmt.skip (Stmt.exit 0))
    (Stmt.seq
      (Stmt.block 1
        (Stmt.seq
          (Stmt.region
            [SOper.mk (some 13) none (SOp.mv (Operand.tmp 11)), SOper.mk (some 6) none (SOp.mv (Operand.tmp 13))]
            [1, 5, 6, 10, 11])
          (Stmt.region
            [SOper.mk (some 14) none (SOp.mv (Operand.tmp 5)), SOper.mk (some 15) none (SOp.mv (Operand.tmp 6)),
              SOper.mk (some 16) none (SOp.mv (Operand.tmp 1)),
              SOper.mk (some 17) none (SOp.mk 4 1 1 (Value.bool false) (Operand.tmp 16) (Operand.tmp 16)),
              SOper.mk (some 18) none (SOp.idx 1 (Operand.tmp 14) (Operand.tmp 15)),
              SOper.mk none none (SOp.store 1 (Operand.tmp 18) (Operand.tmp 17))]
            [1, 5, 10, 11])))
      (Stmt.region
        [SOper.mk (some 19) none (SOp.ibin BinOp.add (Operand.tmp 11) (Operand.const (Value.int IntKind.i64 1))),
          SOper.mk (some 11) none (SOp.mv (Operand.tmp 19))]
        [1, 5, 10, 11])))
def S151_0 : Stmt :=
  Stmt.seq (Stmt.region [SOper.mk (some 4) none (SOp.mv (Operand.const (Value.slice none 0 0)))] [0, 1])
  (Stmt.seq
    (Stmt.region
      [SOper.mk (some 7) none (SOp.mv (Operand.tmp 0)),
        SOper.mk (some 8) none (SOp.mk 22 1 24 (Value.slice none 0 0) (Operand.tmp 7) (Operand.tmp 7)),
        SOper.mk (some 5) none (SOp.mv (Operand.tmp 8))]
      [1, 5])
    (Stmt.seq
      (Stmt.seq
        (Stmt.region
          [SOper.mk (some 9) none (SOp.mv (Operand.tmp 5)), SOper.mk (some 10) none (SOp.len false (Operand.tmp 9)),
            SOper.mk (some 11) none (SOp.mv (Operand.const (Value.int IntKind.i64 0)))]
          [1, 5, 10, 11])
        (Stmt.block 0 (Stmt.loop S151_1 [11] [1, 5, 10])))
      (Stmt.seq
        (Stmt.region
          [SOper.mk (some 20) none (SOp.mv (Operand.tmp 5)), SOper.mk (some 4) none (SOp.mv (Operand.tmp 20))] [4])
        Stmt.ret)))
def S151 : FnS := ⟨21, [(4, none)], S151_0⟩
theorem tr151 : trFn Try.prog 151 [] [[0, 1], [1, 5], [1, 5, 10, 11], [11], [1, 5, 10], [1, 5, 10, 11, 12], [1, 5, 6, 10, 11], [1, 5, 10, 11], [1, 5, 10, 11], [4]] = some S151 := by kernel_rfl
end Go.Proofs.Ytniobbepliknmaa.V
/- Grids that are made: parlref5.grid walked; no condition. -/
namespace Go.Proofs.Ytniobbepliknmaa.V
open Go
set_option linter.unusedVariables false
set_option linter.unusedSimpArgs false
attribute [local go_sem] e_seq e_region e_quiet e_join e_loop e_cond e_block e_exit e_ret e_skip e_fin e_kseq e_snrm e_sret e_sex e_bnrm e_bret e_bex e_rnrm e_rret e_res e_condC e_nil e_g e_mv g_mv e_pick g_pick pickC_eq e_ibin g_ibin ibinC_eq e_sbin g_sbin e_beq g_beq beqC_eq e_nilq g_nilq nilqC_sl nilqC_pt nilqC_mp e_un g_un unC_not unC_neg e_conv g_conv convC_eq e_fld g_fld fldC_ref fldC_ptr e_nilCheck g_nilCheck nilCheckC_ref nilCheckC_ptr nilCheckC_fun e_field g_field fieldC_eq e_len g_len lenC_sl lenC_str e_extract g_extract extractC_eq e_mkFunc e_build g_build e_idiv g_idiv idivC_eq e_ishift g_ishift ishiftC_eq e_idx g_idx e_idxA g_idxA e_load g_load loadC_ref loadC_ptr loadB_eq e_slc g_slc e_box boxC_loc boxC_esc e_alloc allocC_loc allocC_esc e_buildS e_store storeC_ref storeC_ptr storeB_eq e_append e_appz e_mk mkC_eq e_call callC_eq e_fn g_fn fnC_eq fnV_min' fnV_max' fnV_rune' e_q g_q e_a e_n g_call g_box g_alloc g_buildS g_store g_append g_mk g_a g_n g_dead e_dead e_callK e_drawn e_tree e_finJ e_tk e_tfin e_tno e_nbt_q e_nbt_qn e_nbt_a e_nbt_an e_nbt_fin e_early_nil e_early_t e_early_f e_nob_nil e_nob_none e_nob_some isBox_dead isBox_v isBox_ref e_dnil e_dk e_ek e_finB vcOps_vc1 e_dcons e_tq e_ekt e_tearly e_talt e_dearly look_nil look_c proj_nil proj_c looks_nil looks_c zip_nil zip_c val_tmp val_const val_func slv_v slv_box slv_ref slot_tmp slot_const slot_func slotL_v slotL_box slotL_ref put_some put_none updBox_c boxSet_box gd_eq slotVals_nil slotVals_c slotVals_b boxV_box boxOn_box slotsOn_nil slotsOn_c slotsOn_b resV_one resV_two vals_nil vals_c allOn_nil allOn_c partOn_nil partOn_c partVals_nil partVals_c fits_nil fits_c fillL_nil fillL_c mkv_one mkv_agg cellsV_agg cellsV_int cellsV_bool cellsV_slice cellsV_string cellsV_pointer cellsV_func cellsV_nilf cellsV_map one'_nil one'_c oc_int oc_bool oc_slice oc_string oc_pointer oc_func oc_nilf oc_map setC_eq iv_add iv_sub iv_mul iv_eql iv_neq iv_lss iv_leq iv_gtr iv_geq iok_add iok_sub iok_mul iok_eql iok_neq iok_lss iok_leq iok_gtr iok_geq pickV_bool args0_nil args0_c bnd_none bnd_some imp_bt imp_bf imp_ebt imp_ebf imp_eb1 imp_np imp_pp beq_tt beq_tf beq_ft beq_ff cond_or cond_and e_round e_meet Int.le_refl Int.toNat_zero decide_true decide_false Bool.or_false Bool.false_or Bool.true_or Bool.or_true Bool.and_false Bool.false_and Bool.bne_false Bool.bne_true beq_iff_eq Int.cast_ofNat_Int not_false_eq_true not_true_eq_false false_and and_false false_implies true_implies true_and and_true Bool.true_and Bool.and_true Bool.not_true Bool.not_false forall_const implies_true List.take_zero List.drop_zero List.take_succ_cons List.drop_succ_cons List.take_nil List.drop_nil List.length_cons List.length_nil List.nil_append List.append_nil List.cons_append Int.toNat_natCast decide_eq_true_eq decide_eq_false_iff_not cond_true cond_false and_self List.getElem?_cons_zero List.getElem?_cons_succ List.set_cons_zero List.set_cons_succ Option.some.injEq exists_eq_left' Nat.zero_add Nat.add_zero Nat.mul_one imp_self true_or or_true or_false false_or Bool.or_eq_true Bool.or_eq_false_iff Bool.and_eq_true Bool.and_eq_false_iff Bool.not_eq_true' Bool.not_eq_false'

/-- m rows of n noughts, of which k are made -/
def part {α : Type} (z : α) (m n k : Nat) : List (List α) := List.replicate k (List.replicate n z) ++ List.replicate (m - k) []
theorem part_len {α : Type} (z : α) {m n k : Nat} (h : k ≤ m) : (part z m n k).length = m := by simp [part]; omega
theorem part_set {α : Type} (z : α) {m n k : Nat} (h : k < m) : (part z m n k).set k (List.replicate n z) = part z m n (k + 1) := by
  unfold part
  obtain ⟨d, hd⟩ : ∃ d, m - k = d + 1 := ⟨m - k - 1, by omega⟩
  rw [hd, show m - (k + 1) = d by omega, List.replicate_succ, List.set_append_right _ _ (by simp), List.replicate_succ']
  simp

theorem grid_bool {Γr : Ctx} (a n : Nat) (ha : a ≤ 1000) (hn : n ≤ 100000) :
    Ret Try.prog 151 [.int .i64 a, .int .i64 n] Γr [] (fun v Γ => ∃ g b, Γ = [g] ∧ v = .slice (some ⟨b, 0, none⟩) a a ∧ Grid g b 22 4 (List.replicate a (List.replicate n false))) := by
  generalize hR : (fun (v : Value) (Γ : Ctx) => ∃ g b, _) = R
  refine ret_of_vc tr151 (Nat.le_of_ble_eq_true rfl) ?_
  simp -implicitDefEqProofs only [S151, S151_0, go_sem, Nat.reduceBEq, Nat.reduceAdd, Nat.reduceSub, Nat.reduceMul, Nat.reduceLeDiff, reduceCtorEq, ↓reduceIte, Int.reduceLT, Int.reduceLE, Int.reduceEq, Int.reduceNe]
  refine ⟨by omega, by omega, fun b => ?_⟩
  refine s_loop (fun f vs Γ => ∃ g, Γ = [g] ∧ ∃ k : Nat, vs = [.v true (.int .i64 k)] ∧ k + f = a ∧ Grid g b 22 4 (part false a n k)) a
    (Up.here ⟨_, rfl, 0, rfl, by omega, by have := Grid.made (α := Bool) b 22 4 (m := a) (by omega); simpa [part] using this⟩) ?_
  rintro f vs Γ ⟨g, rfl, k, rfl, hkf, hG⟩
  simp -implicitDefEqProofs only [S151_1, go_sem, Nat.reduceBEq, Nat.reduceAdd, Nat.reduceSub, Nat.reduceMul, Nat.reduceLeDiff, reduceCtorEq, ↓reduceIte, Int.reduceLT, Int.reduceLE, Int.reduceEq, Int.reduceNe]
  refine ⟨fun hlt => ?_, fun hge => ?_⟩
  · have hk : k < a := by omega
    refine ⟨by omega, by omega, fun b2 => ?_⟩
    refine s_idx rfl (by omega) (by omega) ?_
    simp -implicitDefEqProofs only [go_sem, Nat.reduceBEq, Nat.reduceAdd, Nat.reduceSub, Nat.reduceMul, Nat.reduceLeDiff, reduceCtorEq, ↓reduceIte, Int.reduceLT, Int.reduceLE, Int.reduceEq, Int.reduceNe]
    refine s_storeG (ix := 1) (k := b2) (List.replicate n false) (by simp) rfl hG (by rw [part_len _ (by omega)]; omega) (by simp; omega) ?_
    intro g' hput
    simp -implicitDefEqProofs only [go_sem, Nat.reduceBEq, Nat.reduceAdd, Nat.reduceSub, Nat.reduceMul, Nat.reduceLeDiff, reduceCtorEq, ↓reduceIte, Int.reduceLT, Int.reduceLE, Int.reduceEq, Int.reduceNe]
    simp (disch := omega) only [wrap_id]
    refine ⟨f - 1, by omega, Up.apart fun hd => Up.one fun G hG' => ⟨_, rfl, k + 1, rfl, by omega, ?_⟩⟩
    rw [← part_set _ hk]
    exact hput _ _ (Arr.made false b2 4 n) ((List.pairwise_cons.1 hd).1 g' (by simp)) hG'
  · have hk : k = a := by omega
    subst hk
    refine Up.here ?_
    subst hR
    exact ⟨_, b, rfl, rfl, by simpa [part] using hG⟩
end Go.Proofs.Ytniobbepliknmaa.V
/- The text of parlance/lens.sums as a statement (slots: 0 l, 1 has, 2 n, 3 l, 4 has, 5 n, 7 at, 8 _, 9 s, 10 next, 11 k, 12 ok, 13 j); no condition. -/
namespace Go.Proofs.Ytniobbepliknmaa.V
open Go
def S113_1 : Stmt :=
  Stmt.seq
  (Stmt.region [SOper.mk (some 42) none (SOp.ibin BinOp.lss (Operand.tmp 41) (Operand.tmp 40))]
    [1, 2, 9, 10, 11, 19, 20, 21, 28, 29, 30, 40, 41, 42])
  (Stmt.seq (Stmt.cond (Operand.tmp 42) Stmt.skip (Stmt.exit 4))
    (Stmt.seq
      (Stmt.block 5
        (Stmt.seq
          (Stmt.region
            [SOper.mk (some 43) none (SOp.mv (Operand.tmp 41)), SOper.mk (some 13) none (SOp.mv (Operand.tmp 43))]
            [1, 2, 9, 10, 11, 13, 19, 20, 21, 28, 29, 30, 40, 41])
          (Stmt.region
            [SOper.mk (some 44) none (SOp.mv (Operand.tmp 10)), SOper.mk (some 45) none (SOp.mv (Operand.tmp 11)),
              SOper.mk (some 46) none (SOp.mv (Operand.tmp 13)),
              SOper.mk (some 47) none (SOp.ibin BinOp.add (Operand.tmp 45) (Operand.tmp 46)),
              SOper.mk (some 48) none (SOp.mv (Operand.tmp 10)), SOper.mk (some 49) none (SOp.mv (Operand.tmp 11)),
              SOper.mk (some 50) none (SOp.mv (Operand.tmp 13)),
              SOper.mk (some 51) none (SOp.ibin BinOp.add (Operand.tmp 49) (Operand.tmp 50)),
              SOper.mk (some 52) none (SOp.idx 1 (Operand.tmp 48) (Operand.tmp 51)),
              SOper.mk (some 53) none (SOp.load false 1 (Operand.tmp 52)),
              SOper.mk (some 54) none (SOp.mv (Operand.tmp 53)),
              SOper.mk (some 55) (some (54, false)) (SOp.fld 0 (Operand.tmp 9)),
              SOper.mk (some 56) (some (54, false)) (SOp.load false 1 (Operand.tmp 55)),
              SOper.mk (some 57) (some (54, false)) (SOp.mv (Operand.tmp 56)),
              SOper.mk (some 58) (some (57, true)) (SOp.mv (Operand.tmp 13)),
              SOper.mk (some 59) (some (57, true))
                (SOp.ibin BinOp.eql (Operand.tmp 58) (Operand.const (Value.int IntKind.i64 1))),
              SOper.mk (some 60) (some (54, false))
                (SOp.pick (Operand.tmp 57) (Operand.tmp 59) (Operand.const (Value.bool false))),
              SOper.mk (some 61) none (SOp.pick (Operand.tmp 54) (Operand.const (Value.bool true)) (Operand.tmp 60)),
              SOper.mk (some 62) none (SOp.mv (Operand.tmp 61)),
              SOper.mk (some 63) (some (62, false)) (SOp.fld 0 (Operand.tmp 9)),
              SOper.mk (some 64) (some (62, false)) (SOp.load false 1 (Operand.tmp 63)),
              SOper.mk (some 65) (some (62, false)) (SOp.un UnOp.not (Operand.tmp 64)),
              SOper.mk (some 66) (some (62, false)) (SOp.mv (Operand.tmp 65)),
              SOper.mk (some 67) (some (66, true)) (SOp.mv (Operand.tmp 1)),
              SOper.mk (some 68) (some (66, true)) (SOp.fld 1 (Operand.tmp 9)),
              SOper.mk (some 69) (some (66, true)) (SOp.load false 1 (Operand.tmp 68)),
              SOper.mk (some 70) (some (66, true)) (SOp.idx 1 (Operand.tmp 67) (Operand.tmp 69)),
              SOper.mk (some 71) (some (66, true)) (SOp.load false 1 (Operand.tmp 70)),
              SOper.mk (some 72) (some (66, true)) (SOp.mv (Operand.tmp 13)),
              SOper.mk (some 73) (some (66, true)) (SOp.idx 1 (Operand.tmp 71) (Operand.tmp 72)),
              SOper.mk (some 74) (some (66, true)) (SOp.load false 1 (Operand.tmp 73)),
              SOper.mk (some 75) (some (62, false))
                (SOp.pick (Operand.tmp 66) (Operand.tmp 74) (Operand.const (Value.bool false))),
              SOper.mk (some 76) none (SOp.pick (Operand.tmp 62) (Operand.const (Value.bool true)) (Operand.tmp 75)),
              SOper.mk (some 77) none (SOp.idx 1 (Operand.tmp 44) (Operand.tmp 47)),
              SOper.mk none none (SOp.store 1 (Operand.tmp 77) (Operand.tmp 76))]
            [1, 2, 9, 10, 11, 19, 20, 21, 28, 29, 30, 40, 41])))
      (Stmt.region
        [SOper.mk (some 78) none (SOp.ibin BinOp.add (Operand.tmp 41) (Operand.const (Value.int IntKind.i64 1))),
          SOper.mk (some 41) none (SOp.mv (Operand.tmp 78))]
        [1, 2, 9, 10, 11, 19, 20, 21, 28, 29, 30, 40, 41])))
def S113_2 : Stmt :=
  Stmt.block 3
  (Stmt.seq
    (Stmt.region
      [SOper.mk (some 32) none (SOp.mv (Operand.tmp 30)),
        SOper.mk (some 33) none (SOp.idx 1 (Operand.tmp 28) (Operand.tmp 30)),
        SOper.mk (some 34) none (SOp.load false 1 (Operand.tmp 33)), SOper.mk (some 11) none (SOp.mv (Operand.tmp 32)),
        SOper.mk (some 12) none (SOp.mv (Operand.tmp 34))]
      [1, 2, 9, 10, 11, 12, 19, 20, 21, 28, 29, 30])
    (Stmt.seq
      (Stmt.seq
        (Stmt.region
          [SOper.mk (some 35) none (SOp.mv (Operand.tmp 12)),
            SOper.mk (some 36) none (SOp.un UnOp.not (Operand.tmp 35))]
          [1, 2, 9, 10, 11, 19, 20, 21, 28, 29, 30, 36])
        (Stmt.cond (Operand.tmp 36) (Stmt.exit 3) Stmt.skip))
      (Stmt.seq
        (Stmt.region
          [SOper.mk (some 37) none (SOp.mv (Operand.tmp 2)),
            SOper.mk (some 38) none (SOp.ibin BinOp.add (Operand.tmp 37) (Operand.const (Value.int IntKind.i64 1))),
            SOper.mk (some 39) none (SOp.mv (Operand.tmp 11)),
            SOper.mk (some 40) none (SOp.ibin BinOp.sub (Operand.tmp 38) (Operand.tmp 39)),
            SOper.mk (some 41) none (SOp.mv (Operand.const (Value.int IntKind.i64 0)))]
          [1, 2, 9, 10, 11, 19, 20, 21, 28, 29, 30, 40, 41])
        (Stmt.block 4 (Stmt.loop S113_1 [41] [1, 2, 9, 10, 11, 19, 20, 21, 28, 29, 30, 40])))))
def S113_3 : Stmt :=
  Stmt.region
  [SOper.mk (some 79) none (SOp.ibin BinOp.add (Operand.tmp 30) (Operand.const (Value.int IntKind.i64 1))),
    SOper.mk (some 30) none (SOp.mv (Operand.tmp 79))]
  [1, 2, 9, 10, 19, 20, 21, 28, 29, 30]
def S113_4 : Stmt :=
  Stmt.seq
  (Stmt.region [SOper.mk (some 31) none (SOp.ibin BinOp.lss (Operand.tmp 30) (Operand.tmp 29))]
    [1, 2, 9, 10, 19, 20, 21, 28, 29, 30, 31])
  (Stmt.seq (Stmt.cond (Operand.tmp 31) Stmt.skip (Stmt.exit 2))
    (Stmt.join S113_2 S113_3 [] [1, 2, 9, 10, 19, 20, 21, 28, 29, 30]))
def S113_5 : Stmt :=
  Stmt.seq
  (Stmt.region [SOper.mk (some 22) none (SOp.ibin BinOp.lss (Operand.tmp 21) (Operand.tmp 20))]
    [1, 2, 7, 19, 20, 21, 22])
  (Stmt.seq (Stmt.cond (Operand.tmp 22) Stmt.skip (Stmt.exit 0))
    (Stmt.seq
      (Stmt.block 1
        (Stmt.seq
          (Stmt.region
            [SOper.mk (some 23) none (SOp.idx 2 (Operand.tmp 19) (Operand.tmp 21)),
              SOper.mk (some 24) none (SOp.load true 2 (Operand.tmp 23)),
              SOper.mk (some 9) none
                (SOp.alloc true 39 (Value.agg (Array.mk [Value.bool false, Value.int IntKind.i64 0]))),
              SOper.mk none none (SOp.store 2 (Operand.tmp 9) (Operand.tmp 24))]
            [1, 2, 7, 9, 19, 20, 21])
          (Stmt.seq
            (Stmt.region
              [SOper.mk (some 25) none (SOp.mv (Operand.tmp 2)),
                SOper.mk (some 26) none (SOp.ibin BinOp.add (Operand.tmp 25) (Operand.const (Value.int IntKind.i64 1))),
                SOper.mk (some 27) none (SOp.mk 4 1 1 (Value.bool false) (Operand.tmp 26) (Operand.tmp 26)),
                SOper.mk (some 10) none (SOp.mv (Operand.tmp 27))]
              [1, 2, 7, 9, 10, 19, 20, 21])
            (Stmt.seq
              (Stmt.seq
                (Stmt.region
                  [SOper.mk (some 28) none (SOp.mv (Operand.tmp 7)),
                    SOper.mk (some 29) none (SOp.len false (Operand.tmp 28)),
                    SOper.mk (some 30) none (SOp.mv (Operand.const (Value.int IntKind.i64 0)))]
                  [1, 2, 9, 10, 19, 20, 21, 28, 29, 30])
                (Stmt.block 2 (Stmt.loop S113_4 [30] [1, 2, 9, 10, 19, 20, 21, 28, 29])))
              (Stmt.region
                [SOper.mk (some 80) none (SOp.mv (Operand.tmp 10)), SOper.mk (some 7) none (SOp.mv (Operand.tmp 80))]
                [1, 2, 7, 19, 20, 21])))))
      (Stmt.region
        [SOper.mk (some 81) none (SOp.ibin BinOp.add (Operand.tmp 21) (Operand.const (Value.int IntKind.i64 1))),
          SOper.mk (some 21) none (SOp.mv (Operand.tmp 81))]
        [1, 2, 7, 19, 20, 21])))
def S113_0 : Stmt :=
  Stmt.seq (Stmt.region [SOper.mk (some 6) none (SOp.mv (Operand.const (Value.slice none 0 0)))] [0, 1, 2])
  (Stmt.seq
    (Stmt.region
      [SOper.mk (some 14) none (SOp.mv (Operand.tmp 2)),
        SOper.mk (some 15) none (SOp.ibin BinOp.add (Operand.tmp 14) (Operand.const (Value.int IntKind.i64 1))),
        SOper.mk (some 16) none (SOp.mk 4 1 1 (Value.bool false) (Operand.tmp 15) (Operand.tmp 15)),
        SOper.mk (some 7) none (SOp.mv (Operand.tmp 16))]
      [0, 1, 2, 7])
    (Stmt.seq
      (Stmt.region
        [SOper.mk (some 17) none (SOp.mv (Operand.tmp 7)),
          SOper.mk (some 18) none (SOp.idx 1 (Operand.tmp 17) (Operand.const (Value.int IntKind.i64 0))),
          SOper.mk none none (SOp.store 1 (Operand.tmp 18) (Operand.const (Value.bool true)))]
        [0, 1, 2, 7])
      (Stmt.seq
        (Stmt.seq
          (Stmt.region
            [SOper.mk (some 19) none (SOp.mv (Operand.tmp 0)), SOper.mk (some 20) none (SOp.len false (Operand.tmp 19)),
              SOper.mk (some 21) none (SOp.mv (Operand.const (Value.int IntKind.i64 0)))]
            [1, 2, 7, 19, 20, 21])
          (Stmt.block 0 (Stmt.loop S113_5 [7, 21] [1, 2, 19, 20])))
        (Stmt.seq
          (Stmt.region
            [SOper.mk (some 82) none (SOp.mv (Operand.tmp 7)), SOper.mk (some 6) none (SOp.mv (Operand.tmp 82))] [6])
          Stmt.ret))))
def S113 : FnS := ⟨83, [(6, none)], S113_0⟩
theorem tr113 : trFn Try.prog 113 [9] [[0, 1, 2], [0, 1, 2, 7], [0, 1, 2, 7], [1, 2, 7, 19, 20, 21], [7, 21], [1, 2, 19, 20], [1, 2, 7, 19, 20, 21, 22], [1, 2, 7, 9, 19, 20, 21], [1, 2, 7, 9, 10, 19, 20, 21], [1, 2, 9, 10, 19, 20, 21, 28, 29, 30], [30], [1, 2, 9, 10, 19, 20, 21, 28, 29], [1, 2, 9, 10, 19, 20, 21, 28, 29, 30, 31], [], [1, 2, 9, 10, 19, 20, 21, 28, 29, 30], [1, 2, 9, 10, 11, 12, 19, 20, 21, 28, 29, 30], [1, 2, 9, 10, 11, 19, 20, 21, 28, 29, 30, 36], [1, 2, 9, 10, 11, 19, 20, 21, 28, 29, 30, 40, 41], [41], [1, 2, 9, 10, 11, 19, 20, 21, 28, 29, 30, 40], [1, 2, 9, 10, 11, 19, 20, 21, 28, 29, 30, 40, 41, 42], [1, 2, 9, 10, 11, 13, 19, 20, 21, 28, 29, 30, 40, 41], [1, 2, 9, 10, 11, 19, 20, 21, 28, 29, 30, 40, 41], [1, 2, 9, 10, 11, 19, 20, 21, 28, 29, 30, 40, 41], [1, 2, 9, 10, 19, 20, 21, 28, 29, 30], [1, 2, 7, 19, 20, 21], [1, 2, 7, 19, 20, 21], [6]] = some S113 := by kernel_rfl
end Go.Proofs.Ytniobbepliknmaa.V
/- The text of parlance/lens.Set as a statement (slots: 0 g, 1 n, 2 g, 3 n, 6 e, 7 has, 8 a, 9 again, 10 _, 11 r, 12 k, 13 ok); no condition. -/
namespace Go.Proofs.Ytniobbepliknmaa.V
open Go
def S39_1 : Stmt :=
  Stmt.seq
  (Stmt.region [SOper.mk (some 31) none (SOp.ibin BinOp.lss (Operand.tmp 30) (Operand.tmp 29))] [1, 2, 7, 29, 30, 31])
  (Stmt.seq (Stmt.cond (Operand.tmp 31) Stmt.skip (Stmt.exit 0))
    (Stmt.seq
      (Stmt.block 1
        (Stmt.seq
          (Stmt.region
            [SOper.mk (some 32) none (SOp.mv (Operand.tmp 30)), SOper.mk (some 8) none (SOp.mv (Operand.tmp 32))]
            [1, 2, 7, 8, 29, 30])
          (Stmt.region
            [SOper.mk (some 33) none (SOp.mv (Operand.tmp 7)), SOper.mk (some 34) none (SOp.mv (Operand.tmp 8)),
              SOper.mk (some 35) none (SOp.mv (Operand.tmp 1)),
              SOper.mk (some 36) none (SOp.ibin BinOp.add (Operand.tmp 35) (Operand.const (Value.int IntKind.i64 1))),
              SOper.mk (some 37) none (SOp.mk 4 1 1 (Value.bool false) (Operand.tmp 36) (Operand.tmp 36)),
              SOper.mk (some 38) none (SOp.idx 1 (Operand.tmp 33) (Operand.tmp 34)),
              SOper.mk none none (SOp.store 1 (Operand.tmp 38) (Operand.tmp 37))]
            [1, 2, 7, 29, 30])))
      (Stmt.region
        [SOper.mk (some 39) none (SOp.ibin BinOp.add (Operand.tmp 30) (Operand.const (Value.int IntKind.i64 1))),
          SOper.mk (some 30) none (SOp.mv (Operand.tmp 39))]
        [1, 2, 7, 29, 30])))
def S39_2 : Stmt :=
  Stmt.block 7
  (Stmt.seq
    (Stmt.region
      [SOper.mk (some 56) none (SOp.mv (Operand.tmp 54)),
        SOper.mk (some 57) none (SOp.idx 1 (Operand.tmp 52) (Operand.tmp 54)),
        SOper.mk (some 58) none (SOp.load false 1 (Operand.tmp 57)), SOper.mk (some 12) none (SOp.mv (Operand.tmp 56)),
        SOper.mk (some 13) none (SOp.mv (Operand.tmp 58))]
      [1, 2, 7, 9, 11, 12, 13, 42, 43, 44, 52, 53, 54])
    (Stmt.seq
      (Stmt.region
        [SOper.mk (some 59) none (SOp.mv (Operand.tmp 13)), SOper.mk (some 60) none (SOp.mv (Operand.tmp 59)),
          SOper.mk (some 61) (some (60, true)) (SOp.mv (Operand.tmp 7)),
          SOper.mk (some 62) (some (60, true)) (SOp.fld 0 (Operand.tmp 11)),
          SOper.mk (some 63) (some (60, true)) (SOp.load false 1 (Operand.tmp 62)),
          SOper.mk (some 64) (some (60, true)) (SOp.idx 1 (Operand.tmp 61) (Operand.tmp 63)),
          SOper.mk (some 65) (some (60, true)) (SOp.load false 1 (Operand.tmp 64)),
          SOper.mk (some 66) (some (60, true)) (SOp.mv (Operand.tmp 12)),
          SOper.mk (some 67) (some (60, true)) (SOp.idx 1 (Operand.tmp 65) (Operand.tmp 66)),
          SOper.mk (some 68) (some (60, true)) (SOp.load false 1 (Operand.tmp 67)),
          SOper.mk (some 69) (some (60, true)) (SOp.un UnOp.not (Operand.tmp 68)),
          SOper.mk (some 70) none (SOp.pick (Operand.tmp 60) (Operand.tmp 69) (Operand.const (Value.bool false)))]
        [1, 2, 7, 9, 11, 12, 42, 43, 44, 52, 53, 54, 70])
      (Stmt.cond (Operand.tmp 70)
        (Stmt.region
          [SOper.mk (some 71) none (SOp.mv (Operand.tmp 7)), SOper.mk (some 72) none (SOp.fld 0 (Operand.tmp 11)),
            SOper.mk (some 73) none (SOp.load false 1 (Operand.tmp 72)),
            SOper.mk (some 74) none (SOp.idx 1 (Operand.tmp 71) (Operand.tmp 73)),
            SOper.mk (some 75) none (SOp.load false 1 (Operand.tmp 74)),
            SOper.mk (some 76) none (SOp.mv (Operand.tmp 12)),
            SOper.mk (some 77) none (SOp.idx 1 (Operand.tmp 75) (Operand.tmp 76)),
            SOper.mk none none (SOp.store 1 (Operand.tmp 77) (Operand.const (Value.bool true))),
            SOper.mk (some 9) none (SOp.mv (Operand.const (Value.bool true)))]
          [1, 2, 7, 9, 11, 42, 43, 44, 52, 53, 54])
        Stmt.skip)))
def S39_3 : Stmt :=
  Stmt.region
  [SOper.mk (some 78) none (SOp.ibin BinOp.add (Operand.tmp 54) (Operand.const (Value.int IntKind.i64 1))),
    SOper.mk (some 54) none (SOp.mv (Operand.tmp 78))]
  [1, 2, 7, 9, 11, 42, 43, 44, 52, 53, 54]
def S39_4 : Stmt :=
  Stmt.seq
  (Stmt.region [SOper.mk (some 55) none (SOp.ibin BinOp.lss (Operand.tmp 54) (Operand.tmp 53))]
    [1, 2, 7, 9, 11, 42, 43, 44, 52, 53, 54, 55])
  (Stmt.seq (Stmt.cond (Operand.tmp 55) Stmt.skip (Stmt.exit 6))
    (Stmt.join S39_2 S39_3 [9] [1, 2, 7, 11, 42, 43, 44, 52, 53, 54]))
def S39_5 : Stmt :=
  Stmt.seq
  (Stmt.region [SOper.mk (some 45) none (SOp.ibin BinOp.lss (Operand.tmp 44) (Operand.tmp 43))]
    [1, 2, 7, 9, 42, 43, 44, 45])
  (Stmt.seq (Stmt.cond (Operand.tmp 45) Stmt.skip (Stmt.exit 4))
    (Stmt.seq
      (Stmt.block 5
        (Stmt.seq
          (Stmt.region
            [SOper.mk (some 46) none (SOp.idx 2 (Operand.tmp 42) (Operand.tmp 44)),
              SOper.mk (some 47) none (SOp.load true 2 (Operand.tmp 46)),
              SOper.mk (some 11) none
                (SOp.alloc true 37 (Value.agg (Array.mk [Value.int IntKind.i64 0, Value.slice none 0 0]))),
              SOper.mk none none (SOp.store 2 (Operand.tmp 11) (Operand.tmp 47))]
            [1, 2, 7, 9, 11, 42, 43, 44])
          (Stmt.seq
            (Stmt.region
              [SOper.mk (some 48) none (SOp.fld 1 (Operand.tmp 11)),
                SOper.mk (some 49) none (SOp.load false 1 (Operand.tmp 48)),
                SOper.mk (some 50) none (SOp.mv (Operand.tmp 7)), SOper.mk (some 51) none (SOp.mv (Operand.tmp 1)),
                SOper.mk (some 52) none (SOp.call (Operand.func 113) [Operand.tmp 49, Operand.tmp 50, Operand.tmp 51]),
                SOper.mk (some 53) none (SOp.len false (Operand.tmp 52)),
                SOper.mk (some 54) none (SOp.mv (Operand.const (Value.int IntKind.i64 0)))]
              [1, 2, 7, 9, 11, 42, 43, 44, 52, 53, 54])
            (Stmt.block 6 (Stmt.loop S39_4 [9, 54] [1, 2, 7, 11, 42, 43, 44, 52, 53])))))
      (Stmt.region
        [SOper.mk (some 79) none (SOp.ibin BinOp.add (Operand.tmp 44) (Operand.const (Value.int IntKind.i64 1))),
          SOper.mk (some 44) none (SOp.mv (Operand.tmp 79))]
        [1, 2, 7, 9, 42, 43, 44])))
def S39_6 : Stmt :=
  Stmt.seq
  (Stmt.seq (Stmt.region [SOper.mk (some 40) none (SOp.mv (Operand.tmp 9))] [1, 2, 7, 40])
    (Stmt.cond (Operand.tmp 40) Stmt.skip (Stmt.exit 2)))
  (Stmt.block 3
    (Stmt.seq (Stmt.region [SOper.mk (some 9) none (SOp.mv (Operand.const (Value.bool false)))] [1, 2, 7, 9])
      (Stmt.seq
        (Stmt.region
          [SOper.mk (some 41) none (SOp.fld 3 (Operand.tmp 2)),
            SOper.mk (some 42) none (SOp.load false 1 (Operand.tmp 41)),
            SOper.mk (some 43) none (SOp.len false (Operand.tmp 42)),
            SOper.mk (some 44) none (SOp.mv (Operand.const (Value.int IntKind.i64 0)))]
          [1, 2, 7, 9, 42, 43, 44])
        (Stmt.block 4 (Stmt.loop S39_5 [9, 44] [1, 2, 7, 42, 43])))))
def S39_0 : Stmt :=
  Stmt.seq
  (Stmt.region
    [SOper.mk (some 2) none (SOp.box true 57 (Operand.tmp 0)),
      SOper.mk (some 4) none (SOp.mv (Operand.const (Value.slice none 0 0))),
      SOper.mk (some 5) none (SOp.mv (Operand.const (Value.int IntKind.i64 0)))]
    [1, 2])
  (Stmt.seq
    (Stmt.seq
      (Stmt.region
        [SOper.mk (some 14) none (SOp.load true 4 (Operand.tmp 2)),
          SOper.mk (some 15) none (SOp.call (Operand.func 112) [Operand.tmp 14]),
          SOper.mk (some 6) none (SOp.mv (Operand.tmp 15))]
        [1, 2, 6])
      (Stmt.seq
        (Stmt.region
          [SOper.mk (some 16) none (SOp.mv (Operand.tmp 6)),
            SOper.mk (some 17) none (SOp.ibin BinOp.neq (Operand.tmp 16) (Operand.const (Value.int IntKind.i64 0)))]
          [1, 2, 6, 17])
        (Stmt.cond (Operand.tmp 17)
          (Stmt.seq
            (Stmt.region
              [SOper.mk (some 18) none (SOp.mv (Operand.tmp 6)),
                SOper.mk (some 4) none (SOp.mv (Operand.const (Value.slice none 0 0))),
                SOper.mk (some 5) none (SOp.mv (Operand.tmp 18))]
              [4, 5])
            Stmt.ret)
          Stmt.skip)))
    (Stmt.seq
      (Stmt.seq
        (Stmt.region
          [SOper.mk (some 19) none (SOp.mv (Operand.tmp 1)),
            SOper.mk (some 20) none (SOp.ibin BinOp.lss (Operand.tmp 19) (Operand.const (Value.int IntKind.i64 0))),
            SOper.mk (some 21) none (SOp.mv (Operand.tmp 20)),
            SOper.mk (some 22) (some (21, false)) (SOp.mv (Operand.tmp 1)),
            SOper.mk (some 23) (some (21, false))
              (SOp.ibin BinOp.gtr (Operand.tmp 22) (Operand.const (Value.int IntKind.i64 200))),
            SOper.mk (some 24) none (SOp.pick (Operand.tmp 21) (Operand.const (Value.bool true)) (Operand.tmp 23))]
          [1, 2, 24])
        (Stmt.cond (Operand.tmp 24)
          (Stmt.seq
            (Stmt.region
              [SOper.mk (some 4) none (SOp.mv (Operand.const (Value.slice none 0 0))),
                SOper.mk (some 5) none (SOp.mv (Operand.const (Value.int IntKind.i64 1)))]
              [4, 5])
            Stmt.ret)
          Stmt.skip))
      (Stmt.seq
        (Stmt.region
          [SOper.mk (some 25) none (SOp.fld 1 (Operand.tmp 2)),
            SOper.mk (some 26) none (SOp.load false 1 (Operand.tmp 25)),
            SOper.mk (some 27) none (SOp.mk 22 1 24 (Value.slice none 0 0) (Operand.tmp 26) (Operand.tmp 26)),
            SOper.mk (some 7) none (SOp.mv (Operand.tmp 27))]
          [1, 2, 7])
        (Stmt.seq
          (Stmt.seq
            (Stmt.region
              [SOper.mk (some 28) none (SOp.mv (Operand.tmp 7)),
                SOper.mk (some 29) none (SOp.len false (Operand.tmp 28)),
                SOper.mk (some 30) none (SOp.mv (Operand.const (Value.int IntKind.i64 0)))]
              [1, 2, 7, 29, 30])
            (Stmt.block 0 (Stmt.loop S39_1 [30] [1, 2, 7, 29])))
          (Stmt.seq
            (Stmt.seq (Stmt.region [SOper.mk (some 9) none (SOp.mv (Operand.const (Value.bool true)))] [1, 2, 7, 9])
              (Stmt.block 2 (Stmt.loop S39_6 [9] [1, 2, 7])))
            (Stmt.seq
              (Stmt.region
                [SOper.mk (some 80) none (SOp.mv (Operand.tmp 7)), SOper.mk (some 81) none (SOp.fld 2 (Operand.tmp 2)),
                  SOper.mk (some 82) none (SOp.load false 1 (Operand.tmp 81)),
                  SOper.mk (some 83) none (SOp.idx 1 (Operand.tmp 80) (Operand.tmp 82)),
                  SOper.mk (some 84) none (SOp.load false 1 (Operand.tmp 83)),
                  SOper.mk (some 4) none (SOp.mv (Operand.tmp 84)),
                  SOper.mk (some 5) none (SOp.mv (Operand.const (Value.int IntKind.i64 0)))]
                [4, 5])
              Stmt.ret))))))
def S39 : FnS := ⟨85, [(4, none), (5, none)], S39_0⟩
theorem tr39 : trFn Try.prog 39 [2, 11] [[1, 2], [1, 2, 6], [1, 2, 6, 17], [4, 5], [1, 2, 24], [4, 5], [1, 2, 7], [1, 2, 7, 29, 30], [30], [1, 2, 7, 29], [1, 2, 7, 29, 30, 31], [1, 2, 7, 8, 29, 30], [1, 2, 7, 29, 30], [1, 2, 7, 29, 30], [1, 2, 7, 9], [9], [1, 2, 7], [1, 2, 7, 40], [1, 2, 7, 9], [1, 2, 7, 9, 42, 43, 44], [9, 44], [1, 2, 7, 42, 43], [1, 2, 7, 9, 42, 43, 44, 45], [1, 2, 7, 9, 11, 42, 43, 44], [1, 2, 7, 9, 11, 42, 43, 44, 52, 53, 54], [9, 54], [1, 2, 7, 11, 42, 43, 44, 52, 53], [1, 2, 7, 9, 11, 42, 43, 44, 52, 53, 54, 55], [9], [1, 2, 7, 11, 42, 43, 44, 52, 53, 54], [1, 2, 7, 9, 11, 12, 13, 42, 43, 44, 52, 53, 54], [1, 2, 7, 9, 11, 12, 42, 43, 44, 52, 53, 54, 70], [1, 2, 7, 9, 11, 42, 43, 44, 52, 53, 54], [1, 2, 7, 9, 11, 42, 43, 44, 52, 53, 54], [1, 2, 7, 9, 42, 43, 44], [4, 5]] = some S39 := by kernel_rfl
end Go.Proofs.Ytniobbepliknmaa.V
/- Lengths of words: lens.sums walked; no condition. -/
namespace Go.Proofs.Ytniobbepliknmaa.V
open Go
set_option linter.unusedVariables false
set_option linter.unusedSimpArgs false
attribute [local go_sem] e_seq e_region e_quiet e_join e_loop e_cond e_block e_exit e_ret e_skip e_fin e_kseq e_snrm e_sret e_sex e_bnrm e_bret e_bex e_rnrm e_rret e_res e_condC e_nil e_g e_mv g_mv e_pick g_pick pickC_eq e_ibin g_ibin ibinC_eq e_sbin g_sbin e_beq g_beq beqC_eq e_nilq g_nilq nilqC_sl nilqC_pt nilqC_mp e_un g_un unC_not unC_neg e_conv g_conv convC_eq e_fld g_fld fldC_ref fldC_ptr e_nilCheck g_nilCheck nilCheckC_ref nilCheckC_ptr nilCheckC_fun e_field g_field fieldC_eq e_len g_len lenC_sl lenC_str e_extract g_extract extractC_eq e_mkFunc e_build g_build e_idiv g_idiv idivC_eq e_ishift g_ishift ishiftC_eq e_idx g_idx e_idxA g_idxA e_load g_load loadC_ref loadC_ptr loadB_eq e_slc g_slc e_box boxC_loc boxC_esc e_alloc allocC_loc allocC_esc e_buildS e_store storeC_ref storeC_ptr storeB_eq e_append e_appz e_mk mkC_eq e_call callC_eq e_fn g_fn fnC_eq fnV_min' fnV_max' fnV_rune' e_q g_q e_a e_n g_call g_box g_alloc g_buildS g_store g_append g_mk g_a g_n g_dead e_dead e_callK e_drawn e_tree e_finJ e_tk e_tfin e_tno e_nbt_q e_nbt_qn e_nbt_a e_nbt_an e_nbt_fin e_early_nil e_early_t e_early_f e_nob_nil e_nob_none e_nob_some isBox_dead isBox_v isBox_ref e_dnil e_dk e_ek e_finB vcOps_vc1 e_dcons e_tq e_ekt e_tearly e_talt e_dearly look_nil look_c proj_nil proj_c looks_nil looks_c zip_nil zip_c val_tmp val_const val_func slv_v slv_box slv_ref slot_tmp slot_const slot_func slotL_v slotL_box slotL_ref put_some put_none updBox_c boxSet_box gd_eq slotVals_nil slotVals_c slotVals_b boxV_box boxOn_box slotsOn_nil slotsOn_c slotsOn_b resV_one resV_two vals_nil vals_c allOn_nil allOn_c partOn_nil partOn_c partVals_nil partVals_c fits_nil fits_c fillL_nil fillL_c mkv_one mkv_agg cellsV_agg cellsV_int cellsV_bool cellsV_slice cellsV_string cellsV_pointer cellsV_func cellsV_nilf cellsV_map one'_nil one'_c oc_int oc_bool oc_slice oc_string oc_pointer oc_func oc_nilf oc_map setC_eq iv_add iv_sub iv_mul iv_eql iv_neq iv_lss iv_leq iv_gtr iv_geq iok_add iok_sub iok_mul iok_eql iok_neq iok_lss iok_leq iok_gtr iok_geq pickV_bool args0_nil args0_c bnd_none bnd_some imp_bt imp_bf imp_ebt imp_ebf imp_eb1 imp_np imp_pp beq_tt beq_tf beq_ft beq_ff cond_or cond_and e_round e_meet Int.le_refl Int.toNat_zero decide_true decide_false Bool.or_false Bool.false_or Bool.true_or Bool.or_true Bool.and_false Bool.false_and Bool.bne_false Bool.bne_true beq_iff_eq Int.cast_ofNat_Int not_false_eq_true not_true_eq_false false_and and_false false_implies true_implies true_and and_true Bool.true_and Bool.and_true Bool.not_true Bool.not_false forall_const implies_true List.take_zero List.drop_zero List.take_succ_cons List.drop_succ_cons List.take_nil List.drop_nil List.length_cons List.length_nil List.nil_append List.append_nil List.cons_append Int.toNat_natCast decide_eq_true_eq decide_eq_false_iff_not cond_true cond_false and_self List.getElem?_cons_zero List.getElem?_cons_succ List.set_cons_zero List.set_cons_succ Option.some.injEq exists_eq_left' Nat.zero_add Nat.add_zero Nat.mul_one imp_self true_or or_true or_false false_or Bool.or_eq_true Bool.or_eq_false_iff Bool.and_eq_true Bool.and_eq_false_iff Bool.not_eq_true' Bool.not_eq_false'

/-- the lengths of one symbol -/
def oneL (rows : List (List Bool)) (s : Sy) (j : Nat) : Bool := if s.t then decide (j = 1) else (rows.getD s.n.toNat []).getD j false
/-- the lengths that symbols have together -/
def SumP (rows : List (List Bool)) : List Sy → Nat → Prop
  | [], m => m = 0
  | s :: l, m => ∃ j, j ≤ m ∧ oneL rows s j = true ∧ SumP rows l (m - j)
theorem SumP_snoc {rows : List (List Bool)} {s : Sy} : ∀ {l : List Sy} {m : Nat}, SumP rows (l ++ [s]) m ↔ ∃ k, k ≤ m ∧ SumP rows l k ∧ oneL rows s (m - k) = true
  | [], m => by
    simp only [List.nil_append, SumP]
    constructor
    · rintro ⟨j, h1, h2, h3⟩
      exact ⟨0, by omega, rfl, by rw [show m - 0 = j by omega]; exact h2⟩
    · rintro ⟨k, h1, rfl, h3⟩
      exact ⟨m, by omega, by simpa using h3, by omega⟩
  | t :: l, m => by
    simp only [List.cons_append, SumP]
    constructor
    · rintro ⟨j, h1, h2, h3⟩
      obtain ⟨k, q1, q2, q3⟩ := SumP_snoc.1 h3
      exact ⟨j + k, by omega, ⟨j, by omega, h2, by rw [show j + k - j = k by omega]; exact q2⟩, by rw [show m - (j + k) = m - j - k by omega]; exact q3⟩
    · rintro ⟨k, h1, ⟨j, q1, q2, q3⟩, q4⟩
      exact ⟨j, by omega, q2, SumP_snoc.2 ⟨k - j, by omega, q3, by rw [show m - j - (k - j) = m - k by omega]; exact q4⟩⟩

/-- what is found after rounds k and j -/
def QP (rows : List (List Bool)) (s : Sy) (at' : List Bool) (k j m : Nat) : Prop := ∃ k', k' ≤ m ∧ (k' < k ∨ k' = k ∧ m - k' < j) ∧ at'.getD k' false = true ∧ oneL rows s (m - k') = true
/-- a row that tells which -/
def Tells (n : Nat) (xs : List Bool) (p : Nat → Prop) : Prop := xs.length = n + 1 ∧ ∀ m (h : m < xs.length), xs[m] = true ↔ p m
theorem Tells.congr {n : Nat} {xs : List Bool} {p q : Nat → Prop} (h : Tells n xs p) (hq : ∀ m, m ≤ n → (p m ↔ q m)) : Tells n xs q := ⟨h.1, fun m hm => (h.2 m hm).trans (hq m (by have := h.1; omega))⟩
theorem Tells.set {n : Nat} {xs : List Bool} {p q : Nat → Prop} (h : Tells n xs p) {i : Nat} (hi : i < xs.length) {x : Bool} (hx : x = true ↔ q i) (hq : ∀ m, m ≠ i → (p m ↔ q m)) : Tells n (xs.set i x) q := by
  refine ⟨by simpa using h.1, fun m hm => ?_⟩
  rw [List.getElem_set]
  split
  · rename_i e; subst e; exact hx
  · rename_i e; exact (h.2 m (by simpa using hm)).trans (hq m fun q => e q.symm)

theorem Arr.mono {α : Type} [Sc α] {g g' : PH} {b : Nat} {T : TypeId} {xs : List α} (h : Arr g b T xs) (hl : Mem.le (lk [g]) (lk [g'])) : Arr g' b T xs := lk_one.1 (hl _ _ (lk_one.2 h))
theorem Arr.bool {g : PH} {b : Nat} {T : TypeId} {xs : List Bool} (h : Arr g b T xs) {i : Nat} (hi : i < xs.length) {Γ : Ctx} (hg : g ∈ Γ) : Cells Γ b i [.bool xs[i]] := h.cell hi hg
theorem QP_skip {rows : List (List Bool)} {s : Sy} {at' : List Bool} {i m : Nat} (h : at'.getD i false = false) : QP rows s at' i 0 m ↔ QP rows s at' (i + 1) 0 m := by
  constructor
  · rintro ⟨k', h1, h2, h3, h4⟩
    exact ⟨k', h1, .inl (by omega), h3, h4⟩
  · rintro ⟨k', h1, h2, h3, h4⟩
    refine ⟨k', h1, .inl ?_, h3, h4⟩
    by_cases e : k' = i
    · subst e; rw [h] at h3; cases h3
    · omega
theorem QP_end {rows : List (List Bool)} {s : Sy} {at' : List Bool} {i m n : Nat} (hm : m ≤ n) (hi : i ≤ n) : QP rows s at' i (n + 1 - i) m ↔ QP rows s at' (i + 1) 0 m := by
  constructor
  · rintro ⟨k', h1, h2, h3, h4⟩
    exact ⟨k', h1, .inl (by omega), h3, h4⟩
  · rintro ⟨k', h1, h2, h3, h4⟩
    refine ⟨k', h1, ?_, h3, h4⟩
    omega
theorem QP_step {rows : List (List Bool)} {s : Sy} {at' : List Bool} {i j m : Nat} (h : at'.getD i false = true) : QP rows s at' i (j + 1) m ↔ QP rows s at' i j m ∨ m = i + j ∧ oneL rows s j = true := by
  constructor
  · rintro ⟨k', h1, h2, h3, h4⟩
    by_cases e : k' = i ∧ m - k' = j
    · exact .inr ⟨by omega, by rw [← e.2]; exact h4⟩
    · exact .inl ⟨k', h1, by omega, h3, h4⟩
  · rintro (⟨k', h1, h2, h3, h4⟩ | ⟨h1, h2⟩)
    · exact ⟨k', h1, by omega, h3, h4⟩
    · exact ⟨i, by omega, .inr ⟨rfl, by omega⟩, h, by rw [show m - i = j by omega]; exact h2⟩
theorem QP_all {rows : List (List Bool)} {s : Sy} {at' : List Bool} {n m : Nat} (hm : m ≤ n) {p : Nat → Prop} (hT : Tells n at' p) : QP rows s at' (n + 1) 0 m ↔ ∃ k, k ≤ m ∧ p k ∧ oneL rows s (m - k) = true := by
  have hp : ∀ k, k ≤ n → (at'.getD k false = true ↔ p k) := fun k hk => by
    have hk' : k < at'.length := by have := hT.1; omega
    rw [← hT.2 k hk']
    simp [hk']
  constructor
  · rintro ⟨k', h1, h2, h3, h4⟩
    exact ⟨k', h1, (hp k' (by omega)).1 h3, h4⟩
  · rintro ⟨k', h1, h3, h4⟩
    exact ⟨k', h1, .inl (by omega), (hp k' (by omega)).2 h3, h4⟩
theorem lens_sums {Γr : Ctx} {A B : Option Addr} {c d : Nat} {l : List Sy} {rows : List (List Bool)} (n : Nat) (hn : n ≤ 1000) (hl : SlOk (lk Γr) A c l) (hr : SlOk (lk Γr) B d rows) (hrow : ∀ x ∈ rows, x.length = n + 1) (hin : ∀ s ∈ l, s.t = false → 0 ≤ s.n ∧ s.n.toNat < rows.length) :
    Ret Try.prog 113 [.slice A l.length c, .slice B rows.length d, .int .i64 n] Γr [] (fun v Γ => ∃ g b xs, Γ = [g] ∧ v = .slice (some ⟨b, 0, none⟩) (n + 1) (n + 1) ∧ Arr g b 4 xs ∧ Tells n xs (SumP rows l)) := by
  generalize hR : (fun (v : Value) (Γ : Ctx) => ∃ g b xs, _) = R
  refine ret_of_vc tr113 (Nat.le_of_ble_eq_true rfl) ?_
  have hls := hl.short
  have hrs := hr.short
  simp -implicitDefEqProofs only [S113, S113_0, go_sem, Nat.reduceBEq, Nat.reduceAdd, Nat.reduceSub, Nat.reduceMul, Nat.reduceLeDiff, reduceCtorEq, ↓reduceIte, Int.reduceLT, Int.reduceLE, Int.reduceEq, Int.reduceNe]
  simp (disch := omega) only [wrap_id]
  refine ⟨by omega, by omega, fun b => ?_⟩
  rw [show ((n : Int) + 1).toNat = n + 1 by omega]
  refine s_idx rfl (by omega) (by omega) ?_
  simp -implicitDefEqProofs only [go_sem, Nat.reduceBEq, Nat.reduceAdd, Nat.reduceSub, Nat.reduceMul, Nat.reduceLeDiff, reduceCtorEq, ↓reduceIte, Int.reduceLT, Int.reduceLE, Int.reduceEq, Int.reduceNe]
  refine s_storeA (ix := 0) true rfl (Arr.made false b 4 (n + 1)) (by simp) ?_
  intro g hA _
  simp -implicitDefEqProofs only [go_sem, Nat.reduceBEq, Nat.reduceAdd, Nat.reduceSub, Nat.reduceMul, Nat.reduceLeDiff, reduceCtorEq, ↓reduceIte, Int.reduceLT, Int.reduceLE, Int.reduceEq, Int.reduceNe]
  refine s_loop (fun f vs Γ => ∃ g, Γ = [g] ∧ ∃ (k b : Nat) (xs : List Bool), vs = [.v true (.slice (some ⟨b, 0, none⟩) (n + 1) (n + 1)), .v true (.int .i64 k)] ∧ k + f = l.length ∧ Arr g b 4 xs ∧ Tells n xs (SumP rows (l.take k))) l.length
    (Up.here ⟨_, rfl, 0, b, _, rfl, by omega, hA, Tells.set (p := fun _ => False) ⟨by simp, fun m hm => by simp⟩ (by simp) (by simp [SumP]) (fun m hm => by simpa [SumP] using hm)⟩) ?_
  rintro f vs Γ ⟨g, rfl, k, b, at', rfl, hkf, hA, hT⟩
  simp -implicitDefEqProofs only [S113_5, go_sem, Nat.reduceBEq, Nat.reduceAdd, Nat.reduceSub, Nat.reduceMul, Nat.reduceLeDiff, reduceCtorEq, ↓reduceIte, Int.reduceLT, Int.reduceLE, Int.reduceEq, Int.reduceNe]
  refine ⟨fun hlt => ?_, fun hge => ?_⟩
  · have hk : k < l.length := by omega
    obtain ⟨b1, o1, hA1, hc1⟩ := hl.sy hk
    refine s_idx hA1 (by omega) (by omega) ?_
    simp -implicitDefEqProofs only [go_sem, Nat.reduceBEq, Nat.reduceAdd, Nat.reduceSub, Nat.reduceMul, Nat.reduceLeDiff, reduceCtorEq, ↓reduceIte, Int.reduceLT, Int.reduceLE, Int.reduceEq, Int.reduceNe]
    refine s_ld0 (hc1 _ (lk_r _ _)) (by simp) (by simp) ?_
    simp -implicitDefEqProofs only [go_sem, Nat.reduceBEq, Nat.reduceAdd, Nat.reduceSub, Nat.reduceMul, Nat.reduceLeDiff, reduceCtorEq, ↓reduceIte, Int.reduceLT, Int.reduceLE, Int.reduceEq, Int.reduceNe]
    simp (disch := omega) only [wrap_id]
    intro b2
    refine ⟨by omega, by omega, fun b3 => ?_⟩
    rw [show ((n : Int) + 1).toNat = n + 1 by omega]
    have hal := hT.1
    refine s_loop (fun f' vs Γ => ∃ gx g, Γ = [gx, g] ∧ Arr g b 4 at' ∧ ∃ (i : Nat) (xs : List Bool), vs = [.v true (.int .i64 i)] ∧ i + f' = n + 1 ∧ Arr gx b3 4 xs ∧ Tells n xs (QP rows l[k] at' i 0)) (n + 1)
      (Up.here ⟨_, _, rfl, hA, 0, _, rfl, by omega, Arr.made false b3 4 (n + 1), ⟨by simp, fun m hm => by simp [QP]⟩⟩) ?_
    rintro f' vs Γ ⟨gx, g, rfl, hA, i, xs, rfl, hif, hX, hTx⟩
    have hxl := hTx.1
    simp -implicitDefEqProofs only [S113_4, go_sem, Nat.reduceBEq, Nat.reduceAdd, Nat.reduceSub, Nat.reduceMul, Nat.reduceLeDiff, reduceCtorEq, ↓reduceIte, Int.reduceLT, Int.reduceLE, Int.reduceEq, Int.reduceNe]
    refine ⟨fun hlt => ?_, fun hge => ?_⟩
    · have hi : i < at'.length := by omega
      refine s_split ?_
      simp -implicitDefEqProofs only [S113_2, S113_3, go_sem, Nat.reduceBEq, Nat.reduceAdd, Nat.reduceSub, Nat.reduceMul, Nat.reduceLeDiff, reduceCtorEq, ↓reduceIte, Int.reduceLT, Int.reduceLE, Int.reduceEq, Int.reduceNe]
      refine s_idx rfl (by omega) (by omega) ?_
      simp -implicitDefEqProofs only [go_sem, Nat.reduceBEq, Nat.reduceAdd, Nat.reduceSub, Nat.reduceMul, Nat.reduceLeDiff, reduceCtorEq, ↓reduceIte, Int.reduceLT, Int.reduceLE, Int.reduceEq, Int.reduceNe]
      refine s_ld0 (hA.bool hi (by simp)) (by simp) (by simp) ?_
      simp -implicitDefEqProofs only [go_sem, Nat.reduceBEq, Nat.reduceAdd, Nat.reduceSub, Nat.reduceMul, Nat.reduceLeDiff, reduceCtorEq, ↓reduceIte, Int.reduceLT, Int.reduceLE, Int.reduceEq, Int.reduceNe]
      have hgd : at'.getD i false = at'[i] := by simp [hi]
      refine ⟨fun hf => ?_, fun ht => ?_⟩
      · simp (disch := omega) only [wrap_id]
        exact Up.here ⟨f' - 1, by omega, Up.here ⟨_, _, rfl, hA, i + 1, _, rfl, by omega, hX, hTx.congr fun m _ => QP_skip (by rw [hgd, hf])⟩⟩
      · simp (disch := omega) only [wrap_id]
        refine s_loop (fun f2 vs Γ => ∃ gx g, Γ = [gx, g] ∧ Arr g b 4 at' ∧ ∃ (j : Nat) (xs : List Bool), vs = [.v true (.int .i64 j)] ∧ j + f2 = n + 1 - i ∧ Arr gx b3 4 xs ∧ Tells n xs (QP rows l[k] at' i j)) (n + 1 - i)
          (Up.here ⟨_, _, rfl, hA, 0, _, rfl, by omega, hX, hTx⟩) ?_
        rintro f2 vs Γ ⟨gx, g, rfl, hA, j, xs, rfl, hjf, hX, hTx⟩
        have hxl := hTx.1
        simp -implicitDefEqProofs only [S113_1, go_sem, Nat.reduceBEq, Nat.reduceAdd, Nat.reduceSub, Nat.reduceMul, Nat.reduceLeDiff, reduceCtorEq, ↓reduceIte, Int.reduceLT, Int.reduceLE, Int.reduceEq, Int.reduceNe]
        refine ⟨fun hlt => ?_, fun hge => ?_⟩
        · have hij : i + j < xs.length := by omega
          simp (disch := omega) only [wrap_id]
          refine s_idx rfl (by omega) (by omega) ?_
          simp -implicitDefEqProofs only [go_sem, Nat.reduceBEq, Nat.reduceAdd, Nat.reduceSub, Nat.reduceMul, Nat.reduceLeDiff, reduceCtorEq, ↓reduceIte, Int.reduceLT, Int.reduceLE, Int.reduceEq, Int.reduceNe]
          rw [show ((i : Int) + (j : Int)).toNat = i + j by omega]
          refine s_ld0 (hX.bool hij (by simp)) (by simp) (by simp) ?_
          have hstep : ∀ x : Bool, (x = true ↔ xs[i + j] = true ∨ oneL rows l[k] j = true) → Tells n (xs.set (i + j) x) (QP rows l[k] at' i (j + 1)) := fun x hx => by
            refine hTx.set hij ?_ fun m hm => ?_
            · rw [QP_step (by rw [hgd, ht]), hx, hTx.2 _ hij]
              simp
            · rw [QP_step (by rw [hgd, ht])]
              exact ⟨.inl, fun q => q.resolve_right fun q => hm q.1⟩
          generalize hxo : xs[i + j] = o at hstep ⊢
          have hlk : l[k] ∈ l := List.getElem_mem hk
          generalize hls' : l[k] = s at *
          obtain ⟨t, sn⟩ := s
          cases o <;> cases t
          all_goals
            simp -implicitDefEqProofs only [go_sem, Nat.reduceBEq, Nat.reduceAdd, Nat.reduceSub, Nat.reduceMul, Nat.reduceLeDiff, reduceCtorEq, ↓reduceIte, Int.reduceLT, Int.reduceLE, Int.reduceEq, Int.reduceNe]
          · have hsn := hin _ hlk rfl
            simp only at hsn
            have hsn2 : sn.toNat < rows.length := hsn.2
            have hrl : rows[sn.toNat].length = n + 1 := hrow _ (List.getElem_mem hsn2)
            obtain ⟨b5, o5, hA5, A6, c6, hs6, hc6⟩ := hr.list hsn2
            refine s_idx hA5 (by omega) (by omega) ?_
            simp -implicitDefEqProofs only [go_sem, Nat.reduceBEq, Nat.reduceAdd, Nat.reduceSub, Nat.reduceMul, Nat.reduceLeDiff, reduceCtorEq, ↓reduceIte, Int.reduceLT, Int.reduceLE, Int.reduceEq, Int.reduceNe]
            refine s_ld0 (hc6 _ (lk_r _ _)) (by simp) (by simp) ?_
            simp -implicitDefEqProofs only [go_sem, Nat.reduceBEq, Nat.reduceAdd, Nat.reduceSub, Nat.reduceMul, Nat.reduceLeDiff, reduceCtorEq, ↓reduceIte, Int.reduceLT, Int.reduceLE, Int.reduceEq, Int.reduceNe]
            obtain ⟨b7, o7, hA7, hc7⟩ := hs6.bool (i := j) (by omega)
            refine s_idx hA7 (by omega) (by omega) ?_
            simp -implicitDefEqProofs only [go_sem, Nat.reduceBEq, Nat.reduceAdd, Nat.reduceSub, Nat.reduceMul, Nat.reduceLeDiff, reduceCtorEq, ↓reduceIte, Int.reduceLT, Int.reduceLE, Int.reduceEq, Int.reduceNe]
            refine s_ld0 (hc7 _ (lk_r _ _)) (by simp) (by simp) ?_
            simp -implicitDefEqProofs only [go_sem, Nat.reduceBEq, Nat.reduceAdd, Nat.reduceSub, Nat.reduceMul, Nat.reduceLeDiff, reduceCtorEq, ↓reduceIte, Int.reduceLT, Int.reduceLE, Int.reduceEq, Int.reduceNe]
            refine s_idx rfl (by omega) (by omega) ?_
            simp -implicitDefEqProofs only [go_sem, Nat.reduceBEq, Nat.reduceAdd, Nat.reduceSub, Nat.reduceMul, Nat.reduceLeDiff, reduceCtorEq, ↓reduceIte, Int.reduceLT, Int.reduceLE, Int.reduceEq, Int.reduceNe]
            rw [show ((i : Int) + (j : Int)).toNat = i + j by omega]
            refine s_storeA (ix := 0) (rows[sn.toNat][j]) rfl hX hij ?_
            intro gx' hX' _
            simp -implicitDefEqProofs only [go_sem, Nat.reduceBEq, Nat.reduceAdd, Nat.reduceSub, Nat.reduceMul, Nat.reduceLeDiff, reduceCtorEq, ↓reduceIte, Int.reduceLT, Int.reduceLE, Int.reduceEq, Int.reduceNe]
            simp (disch := omega) only [wrap_id]
            exact ⟨f2 - 1, by omega, Up.here ⟨_, _, rfl, hA, j + 1, _, rfl, by omega, hX', hstep _ (by simp [oneL, hsn2, show j < rows[sn.toNat].length by omega])⟩⟩
          · refine s_idxg (b := 0) (o := 0) (by simp) ?_
            simp -implicitDefEqProofs only [go_sem, Nat.reduceBEq, Nat.reduceAdd, Nat.reduceSub, Nat.reduceMul, Nat.reduceLeDiff, reduceCtorEq, ↓reduceIte, Int.reduceLT, Int.reduceLE, Int.reduceEq, Int.reduceNe]
            refine s_ldg0 (cs := [.slice none 0 0]) (by simp) (by simp) (by simp) (by simp) ?_
            simp -implicitDefEqProofs only [go_sem, Nat.reduceBEq, Nat.reduceAdd, Nat.reduceSub, Nat.reduceMul, Nat.reduceLeDiff, reduceCtorEq, ↓reduceIte, Int.reduceLT, Int.reduceLE, Int.reduceEq, Int.reduceNe]
            refine s_idxg (b := 0) (o := 0) (by simp) ?_
            simp -implicitDefEqProofs only [go_sem, Nat.reduceBEq, Nat.reduceAdd, Nat.reduceSub, Nat.reduceMul, Nat.reduceLeDiff, reduceCtorEq, ↓reduceIte, Int.reduceLT, Int.reduceLE, Int.reduceEq, Int.reduceNe]
            refine s_ldg0 (cs := [.bool false]) (by simp) (by simp) (by simp) (by simp) ?_
            simp -implicitDefEqProofs only [go_sem, Nat.reduceBEq, Nat.reduceAdd, Nat.reduceSub, Nat.reduceMul, Nat.reduceLeDiff, reduceCtorEq, ↓reduceIte, Int.reduceLT, Int.reduceLE, Int.reduceEq, Int.reduceNe]
            refine s_idx rfl (by omega) (by omega) ?_
            simp -implicitDefEqProofs only [go_sem, Nat.reduceBEq, Nat.reduceAdd, Nat.reduceSub, Nat.reduceMul, Nat.reduceLeDiff, reduceCtorEq, ↓reduceIte, Int.reduceLT, Int.reduceLE, Int.reduceEq, Int.reduceNe]
            rw [show ((i : Int) + (j : Int)).toNat = i + j by omega]
            refine s_storeA (ix := 0) (decide ((j : Int) = 1)) rfl hX hij ?_
            intro gx' hX' _
            simp -implicitDefEqProofs only [go_sem, Nat.reduceBEq, Nat.reduceAdd, Nat.reduceSub, Nat.reduceMul, Nat.reduceLeDiff, reduceCtorEq, ↓reduceIte, Int.reduceLT, Int.reduceLE, Int.reduceEq, Int.reduceNe]
            simp (disch := omega) only [wrap_id]
            exact ⟨f2 - 1, by omega, Up.here ⟨_, _, rfl, hA, j + 1, _, rfl, by omega, hX', hstep _ (by simp [oneL]; omega)⟩⟩
          · refine s_idxg (b := 0) (o := 0) (by simp) ?_
            simp -implicitDefEqProofs only [go_sem, Nat.reduceBEq, Nat.reduceAdd, Nat.reduceSub, Nat.reduceMul, Nat.reduceLeDiff, reduceCtorEq, ↓reduceIte, Int.reduceLT, Int.reduceLE, Int.reduceEq, Int.reduceNe]
            refine s_ldg0 (cs := [.slice none 0 0]) (by simp) (by simp) (by simp) (by simp) ?_
            simp -implicitDefEqProofs only [go_sem, Nat.reduceBEq, Nat.reduceAdd, Nat.reduceSub, Nat.reduceMul, Nat.reduceLeDiff, reduceCtorEq, ↓reduceIte, Int.reduceLT, Int.reduceLE, Int.reduceEq, Int.reduceNe]
            refine s_idxg (b := 0) (o := 0) (by simp) ?_
            simp -implicitDefEqProofs only [go_sem, Nat.reduceBEq, Nat.reduceAdd, Nat.reduceSub, Nat.reduceMul, Nat.reduceLeDiff, reduceCtorEq, ↓reduceIte, Int.reduceLT, Int.reduceLE, Int.reduceEq, Int.reduceNe]
            refine s_ldg0 (cs := [.bool false]) (by simp) (by simp) (by simp) (by simp) ?_
            simp -implicitDefEqProofs only [go_sem, Nat.reduceBEq, Nat.reduceAdd, Nat.reduceSub, Nat.reduceMul, Nat.reduceLeDiff, reduceCtorEq, ↓reduceIte, Int.reduceLT, Int.reduceLE, Int.reduceEq, Int.reduceNe]
            refine s_idx rfl (by omega) (by omega) ?_
            simp -implicitDefEqProofs only [go_sem, Nat.reduceBEq, Nat.reduceAdd, Nat.reduceSub, Nat.reduceMul, Nat.reduceLeDiff, reduceCtorEq, ↓reduceIte, Int.reduceLT, Int.reduceLE, Int.reduceEq, Int.reduceNe]
            rw [show ((i : Int) + (j : Int)).toNat = i + j by omega]
            refine s_storeA (ix := 0) (true) rfl hX hij ?_
            intro gx' hX' _
            simp -implicitDefEqProofs only [go_sem, Nat.reduceBEq, Nat.reduceAdd, Nat.reduceSub, Nat.reduceMul, Nat.reduceLeDiff, reduceCtorEq, ↓reduceIte, Int.reduceLT, Int.reduceLE, Int.reduceEq, Int.reduceNe]
            simp (disch := omega) only [wrap_id]
            exact ⟨f2 - 1, by omega, Up.here ⟨_, _, rfl, hA, j + 1, _, rfl, by omega, hX', hstep _ (by simp)⟩⟩
          · refine s_idxg (b := 0) (o := 0) (by simp) ?_
            simp -implicitDefEqProofs only [go_sem, Nat.reduceBEq, Nat.reduceAdd, Nat.reduceSub, Nat.reduceMul, Nat.reduceLeDiff, reduceCtorEq, ↓reduceIte, Int.reduceLT, Int.reduceLE, Int.reduceEq, Int.reduceNe]
            refine s_ldg0 (cs := [.slice none 0 0]) (by simp) (by simp) (by simp) (by simp) ?_
            simp -implicitDefEqProofs only [go_sem, Nat.reduceBEq, Nat.reduceAdd, Nat.reduceSub, Nat.reduceMul, Nat.reduceLeDiff, reduceCtorEq, ↓reduceIte, Int.reduceLT, Int.reduceLE, Int.reduceEq, Int.reduceNe]
            refine s_idxg (b := 0) (o := 0) (by simp) ?_
            simp -implicitDefEqProofs only [go_sem, Nat.reduceBEq, Nat.reduceAdd, Nat.reduceSub, Nat.reduceMul, Nat.reduceLeDiff, reduceCtorEq, ↓reduceIte, Int.reduceLT, Int.reduceLE, Int.reduceEq, Int.reduceNe]
            refine s_ldg0 (cs := [.bool false]) (by simp) (by simp) (by simp) (by simp) ?_
            simp -implicitDefEqProofs only [go_sem, Nat.reduceBEq, Nat.reduceAdd, Nat.reduceSub, Nat.reduceMul, Nat.reduceLeDiff, reduceCtorEq, ↓reduceIte, Int.reduceLT, Int.reduceLE, Int.reduceEq, Int.reduceNe]
            refine s_idx rfl (by omega) (by omega) ?_
            simp -implicitDefEqProofs only [go_sem, Nat.reduceBEq, Nat.reduceAdd, Nat.reduceSub, Nat.reduceMul, Nat.reduceLeDiff, reduceCtorEq, ↓reduceIte, Int.reduceLT, Int.reduceLE, Int.reduceEq, Int.reduceNe]
            rw [show ((i : Int) + (j : Int)).toNat = i + j by omega]
            refine s_storeA (ix := 0) (true) rfl hX hij ?_
            intro gx' hX' _
            simp -implicitDefEqProofs only [go_sem, Nat.reduceBEq, Nat.reduceAdd, Nat.reduceSub, Nat.reduceMul, Nat.reduceLeDiff, reduceCtorEq, ↓reduceIte, Int.reduceLT, Int.reduceLE, Int.reduceEq, Int.reduceNe]
            simp (disch := omega) only [wrap_id]
            exact ⟨f2 - 1, by omega, Up.here ⟨_, _, rfl, hA, j + 1, _, rfl, by omega, hX', hstep _ (by simp)⟩⟩
        · have hj : j = n + 1 - i := by omega
          subst hj
          exact Up.here ⟨f' - 1, by omega, Up.here ⟨_, _, rfl, hA, i + 1, _, rfl, by omega, hX, hTx.congr fun m hm => QP_end hm (by omega)⟩⟩
    · have hi : i = n + 1 := by omega
      subst hi
      simp (disch := omega) only [wrap_id]
      refine ⟨f - 1, by omega, Up.sel [[0]] (by decide) fun _ _ => ⟨_, rfl, k + 1, b3, xs, rfl, by omega, hX, hTx.congr fun m hm => ?_⟩⟩
      rw [QP_all hm hT, List.take_succ_eq_append_getElem hk, SumP_snoc]
  · have hk : k = l.length := by omega
    rw [hk, List.take_length] at hT
    refine Up.here ?_
    subst hR
    exact ⟨_, _, _, rfl, rfl, hA, hT⟩
end Go.Proofs.Ytniobbepliknmaa.V
/- Lengths of words: the plain law; no condition. -/
namespace Go.Proofs.Ytniobbepliknmaa.V
open Go
set_option linter.unusedVariables false
set_option linter.unusedSimpArgs false

/-- a grammar that is accepted -/
structure VG (g : Gr) : Prop where
  ts : 1 ≤ g.ts ∧ g.ts ≤ 8
  ns : 1 ≤ g.ns ∧ g.ns ≤ 10
  st : 0 ≤ g.st ∧ g.st < g.ns
  len : g.rs.length ≤ 32
  left : ∀ r ∈ g.rs, 0 ≤ r.l ∧ r.l < g.ns
  right : ∀ r ∈ g.rs, r.r.length ≤ 4
  sym : ∀ r ∈ g.rs, ∀ s ∈ r.r, 0 ≤ s.n ∧ (s.t = true → s.n < g.ts) ∧ (s.t = false → s.n < g.ns)
theorem ckF_ok {g : Gr} (h : ckF g = 0) : VG g := by
  unfold ckF at h
  split at h
  · cases h
  rename_i hb
  split at h
  · cases h
  rename_i h32
  unfold badHead at hb
  have hf : ∀ k (hk : k < g.rs.length), faultAt g k g.rs[k] = 0 := by
    intro k hk
    have h0 : ∀ m, m ≤ g.rs.length → ckR g m = 0 := by
      intro m hm
      apply Classical.byContradiction
      intro hn
      exact hn (by rw [← ckR_stays hn hm, h])
    rw [← ckR_step hk (h0 k (by omega))]
    exact h0 (k + 1) hk
  have hr : ∀ r ∈ g.rs, (0 ≤ r.l ∧ r.l < g.ns) ∧ r.r.length ≤ 4 ∧ ∀ s ∈ r.r, badSy g.ts g.ns s = false := by
    intro r hr
    obtain ⟨k, hk, rfl⟩ := List.getElem_of_mem hr
    have h1 := hf k hk
    unfold faultAt at h1
    split at h1
    · cases h1
    split at h1
    · cases h1
    split at h1
    · cases h1
    rename_i q1 q2 q3
    refine ⟨by omega, by omega, fun s hs => ?_⟩
    cases hb : badSy g.ts g.ns s with
    | false => rfl
    | true => exact absurd (List.any_eq_true.2 ⟨s, hs, hb⟩) q3
  refine ⟨by omega, by omega, by omega, by omega, fun r h => (hr r h).1, fun r h => (hr r h).2.1, fun r h s hs => ?_⟩
  have := (hr r h).2.2 s hs
  simp only [badSy, Bool.or_eq_false_iff, Bool.and_eq_false_iff, decide_eq_false_iff_not, Bool.not_eq_false'] at this
  obtain ⟨⟨h1, h2⟩, h3⟩ := this
  refine ⟨by omega, fun ht => ?_, fun ht => ?_⟩
  · rw [ht] at h2; simp at h2; exact h2
  · rw [ht] at h3; simp at h3; exact h3

/-- the lengths of words -/
inductive LenD (g : Gr) : List Sy → Nat → Prop
  | nil : LenD g [] 0
  | term {n : Int} {l : List Sy} {k : Nat} : LenD g l k → LenD g (⟨true, n⟩ :: l) (1 + k)
  | non {a : Int} {l : List Sy} {r : Ru} {j k : Nat} : r ∈ g.rs → r.l = a → LenD g r.r j → LenD g l k → LenD g (⟨false, a⟩ :: l) (j + k)
def HasD (g : Gr) (a : Int) (k : Nat) : Prop := ∃ r ∈ g.rs, r.l = a ∧ LenD g r.r k
/-- what is told is so -/
def SoundL (g : Gr) (rows : List (List Bool)) : Prop := ∀ (a k : Nat), (rows.getD a []).getD k false = true → HasD g a k
theorem sum_sound {g : Gr} {rows : List (List Bool)} (h : SoundL g rows) : ∀ {l : List Sy} {m : Nat}, (∀ s ∈ l, 0 ≤ s.n) → SumP rows l m → LenD g l m
  | [], m, _, h => by simp only [SumP] at h; subst h; exact .nil
  | ⟨t, a⟩ :: l, m, h0, hs => by
    obtain ⟨j, h1, h2, h3⟩ := hs
    have ih := sum_sound h (fun s hs => h0 s (by simp [hs])) h3
    cases t with
    | true =>
      simp [oneL] at h2
      subst h2
      rw [show m = 1 + (m - 1) by omega]
      exact .term ih
    | false =>
      simp only [oneL, Bool.false_eq_true, if_false] at h2
      obtain ⟨r, hr, hl, hd⟩ := h _ _ h2
      have ha := h0 ⟨false, a⟩ (by simp)
      rw [show m = j + (m - j) by omega]
      exact .non hr (by rw [hl]; simp only at ha; omega) hd ih
/-- all that follows is told -/
def ClosedL (g : Gr) (n : Nat) (rows : List (List Bool)) : Prop := ∀ r ∈ g.rs, ∀ k, k ≤ n → SumP rows r.r k → (rows.getD r.l.toNat []).getD k false = true
theorem len_told {g : Gr} {n : Nat} {rows : List (List Bool)} (h : ClosedL g n rows) {l : List Sy} {m : Nat} (hd : LenD g l m) : m ≤ n → SumP rows l m := by
  induction hd with
  | nil => intro _; rfl
  | @term n' l k _ ih => intro hm; exact ⟨1, by omega, by simp [oneL], by rw [show 1 + k - 1 = k by omega]; exact ih (by omega)⟩
  | @non a l r j k hr ha _ _ ih1 ih2 =>
    intro hm
    refine ⟨j, by omega, ?_, by rw [show j + k - j = k by omega]; exact ih2 (by omega)⟩
    have := h r hr j (by omega) (ih1 (by omega))
    simp only [oneL, Bool.false_eq_true, if_false]
    rw [← ha]
    exact this
theorem told_iff {g : Gr} {n : Nat} {rows : List (List Bool)} (hs : SoundL g rows) (hc : ClosedL g n rows) {a : Nat} {k : Nat} (hk : k ≤ n) : (rows.getD a []).getD k false = true ↔ HasD g a k := by
  refine ⟨hs a k, ?_⟩
  rintro ⟨r, hr, ha, hd⟩
  have := hc r hr k hk (len_told hc hd hk)
  rw [ha] at this
  simpa using this
/-- how much is told -/
def cntL (rows : List (List Bool)) : Nat := (rows.map (List.count true)).sum
theorem cntL_le : ∀ {rows : List (List Bool)} {m : Nat}, (∀ x ∈ rows, x.length = m) → cntL rows ≤ rows.length * m
  | [], m, _ => by simp [cntL]
  | x :: l, m, h => by
    have h1 := cntL_le (rows := l) (m := m) fun y hy => h y (by simp [hy])
    have h2 : x.count true ≤ m := by rw [← h x (by simp)]; exact List.count_le_length
    simp only [cntL, List.map_cons, List.sum_cons, List.length_cons, Nat.add_mul, Nat.one_mul] at h1 ⊢
    omega
theorem count_set : ∀ {x : List Bool} {k : Nat} (hk : k < x.length), x[k] = false → (x.set k true).count true = x.count true + 1
  | a :: x, 0, _, h => by simp at h; subst h; simp
  | a :: x, k + 1, hk, h => by
    have := count_set (x := x) (k := k) (by simpa using hk) (by simpa using h)
    simp only [List.set_cons_succ, List.count_cons, this]
    omega
theorem cntL_set : ∀ {rows : List (List Bool)} {a : Nat} (ha : a < rows.length) {y : List Bool}, y.count true = rows[a].count true + 1 → cntL (rows.set a y) = cntL rows + 1
  | x :: l, 0, _, y, h => by simp [cntL] at h ⊢; omega
  | x :: l, a + 1, ha, y, h => by
    have := cntL_set (rows := l) (a := a) (by simpa using ha) (by simpa using h)
    simp [cntL] at this ⊢
    omega
theorem sound_set {g : Gr} {rows : List (List Bool)} (h : SoundL g rows) {a k : Nat} (ha : a < rows.length) (hd : HasD g a k) : SoundL g (rows.set a (rows[a].set k true)) := by
  intro b j hb
  by_cases e : b = a
  · subst e
    by_cases e' : j = k
    · subst e'; exact hd
    · refine h b j ?_
      have e'' : ¬ k = j := fun q => e' q.symm
      simpa [List.getD_eq_getElem?_getD, ha, List.getElem?_set, e''] using hb
  · refine h b j ?_
    have e'' : ¬ a = b := fun q => e q.symm
    simpa [List.getD_eq_getElem?_getD, List.getElem?_set, e''] using hb
theorem rep_false (g : Gr) (a n : Nat) : SoundL g (List.replicate a (List.replicate n false)) := by
  intro b k h
  simp only [List.getD_eq_getElem?_getD, List.getElem?_replicate] at h
  split at h
  · simp only [Option.getD_some, List.getElem?_replicate] at h
    split at h <;> simp at h
  · simp at h
theorem cntL_zero (a n : Nat) : cntL (List.replicate a (List.replicate n false)) = 0 := by
  simp [cntL, List.map_replicate, List.count_replicate]
end Go.Proofs.Ytniobbepliknmaa.V
/- Components of a grammar: the plain law; no condition. -/
namespace Go.Proofs.Ytniobbepliknmaa.V
open Go
set_option linter.unusedVariables false
set_option linter.unusedSimpArgs false

/-- one nonterminal stands on a right side of another one -/
def Edg (g : Gr) (x y : Nat) : Prop := ∃ r ∈ g.rs, r.l = (x : Int) ∧ ∃ s ∈ r.r, s.t = false ∧ s.n = (y : Int)
inductive RT (E : Nat → Nat → Prop) : Nat → Nat → Prop
  | refl (a : Nat) : RT E a a
  | step {a b c : Nat} : RT E a b → E b c → RT E a c
theorem RT.trans {E : Nat → Nat → Prop} {a b c : Nat} (h : RT E a b) (h' : RT E b c) : RT E a c := by
  induction h' with
  | refl => exact h
  | step _ e ih => exact .step ih e
theorem Edg.lt {g : Gr} (V : VG g) {x y : Nat} (h : Edg g x y) : (x : Int) < g.ns ∧ (y : Int) < g.ns := by
  obtain ⟨r, hr, h1, s, hs, h2, h3⟩ := h
  have a1 := V.left r hr
  have a2 := (V.sym r hr s hs).2.2 h2
  omega
def Mut (g : Gr) (a b : Nat) : Prop := RT (Edg g) a b ∧ RT (Edg g) b a
theorem Mut.refl (g : Gr) (a : Nat) : Mut g a a := ⟨.refl a, .refl a⟩
theorem Mut.symm {g : Gr} {a b : Nat} (h : Mut g a b) : Mut g b a := ⟨h.2, h.1⟩
theorem Mut.trans {g : Gr} {a b c : Nat} (h : Mut g a b) (h' : Mut g b c) : Mut g a c := ⟨h.1.trans h'.1, h'.2.trans h.2⟩
/-- the first ways -/
def Way0 (g : Gr) (n : Nat) (x y : Nat) : Prop := (x = y ∧ x < n) ∨ Edg g x y
theorem path_rt {g : Gr} (V : VG g) {n : Nat} (hn : g.ns = n) {a b : Nat} (ha : a < n) : PathK (Way0 g n) n a b ↔ RT (Edg g) a b := by
  constructor
  · intro h
    induction h with
    | one h =>
      rcases h with ⟨rfl, _⟩ | h
      · exact .refl _
      · exact .step (.refl _) h
    | trans _ hm _ ih1 ih2 => exact (ih1 ha).trans (ih2 hm)
  · intro h
    induction h with
    | refl => exact .one (.inl ⟨rfl, ha⟩)
    | step _ e ih =>
      have := e.lt V
      exact .trans ih (by omega) (.one (.inr e))
open Classical in
noncomputable def compL (g : Gr) (a k : Nat) : List Int := ((List.range k).filter fun b => decide (Mut g a b)).map fun (b : Nat) => (b : Int)
theorem nodup_sub : ∀ {l l' : List Int}, l.Nodup → (∀ x ∈ l, x ∈ l') → l.length ≤ l'.length
  | [], l', _, _ => by simp
  | x :: l, l', hn, hs => by
    have hx : x ∈ l' := hs x (by simp)
    have h2 := List.nodup_cons.1 hn
    have := nodup_sub (l := l) (l' := l'.erase x) h2.2 fun y hy => by
      have : y ≠ x := fun e => by subst e; exact h2.1 hy
      exact (List.mem_erase_of_ne this).2 (hs y (by simp [hy]))
    rw [List.length_erase_of_mem hx] at this
    have := List.length_pos_of_mem hx
    simp only [List.length_cons]
    omega
open Classical in
theorem compL_succ {g : Gr} {a k : Nat} : compL g a (k + 1) = if Mut g a k then compL g a k ++ [(k : Int)] else compL g a k := by
  unfold compL
  rw [List.range_succ, List.filter_append, List.map_append]
  by_cases h : Mut g a k <;> simp [h]
theorem compL_add {g : Gr} {a k : Nat} (h : Mut g a k) : compL g a (k + 1) = compL g a k ++ [(k : Int)] := by rw [compL_succ, if_pos h]
theorem compL_not {g : Gr} {a k : Nat} (h : ¬ Mut g a k) : compL g a (k + 1) = compL g a k := by rw [compL_succ, if_neg h]
theorem compL_len {g : Gr} {a k : Nat} : (compL g a k).length ≤ k := by
  unfold compL
  rw [List.length_map]
  exact Nat.le_trans (List.length_filter_le ..) (by simp)
theorem compL_mem {g : Gr} {a k : Nat} {x : Int} : x ∈ compL g a k ↔ ∃ b : Nat, x = b ∧ b < k ∧ Mut g a b := by
  classical
  simp only [compL, List.mem_map, List.mem_filter, List.mem_range, decide_eq_true_eq]
  constructor
  · rintro ⟨b, ⟨h1, h2⟩, rfl⟩; exact ⟨b, rfl, h1, h2⟩
  · rintro ⟨b, rfl, h1, h2⟩; exact ⟨b, ⟨h1, h2⟩, rfl⟩
def Lead (g : Gr) (a : Nat) : Prop := ∀ b, b < a → ¬ Mut g b a
theorem compL_head {g : Gr} {a n : Nat} (ha : a < n) : ∃ h : 0 < (compL g a n).length, (compL g a n)[0] = (a : Int) ↔ Lead g a := by
  classical
  have hm : (a : Int) ∈ compL g a n := compL_mem.2 ⟨a, rfl, ha, .refl g a⟩
  have h0 : 0 < (compL g a n).length := List.length_pos_of_mem hm
  refine ⟨h0, ?_⟩
  have hhead : (compL g a n)[0]? = ((List.range n).find? fun b => decide (Mut g a b)).map fun (b : Nat) => (b : Int) := by
    rw [compL, List.getElem?_map, ← List.head?_eq_getElem?, List.head?_filter]
  rw [List.getElem?_eq_getElem h0] at hhead
  constructor
  · intro h b hb hM
    rw [h] at hhead
    obtain ⟨m, h1, h2⟩ := Option.map_eq_some_iff.1 hhead.symm
    have : m = a := by omega
    subst this
    rw [List.find?_range_eq_some] at h1
    have := h1.2.2 b hb
    simp [hM.symm] at this
  · intro h
    have : (List.range n).find? (fun b => decide (Mut g a b)) = some a := by
      rw [List.find?_range_eq_some]
      exact ⟨by simp [Mut.refl], by simpa using ha, fun j hj => by simpa using fun q : Mut g a j => h j hj q.symm⟩
    rw [this] at hhead
    simpa using hhead
/-! the kind of a component -/
def okR (q : Nat → Nat → Prop) (l : List Int) (r : List Sy) (j : Nat) : Prop := ∀ (i : Nat) s, i < j → r[i]? = some s → s.t = false → s.n ∈ l → q i r.length
def okG (q : Nat → Nat → Prop) (l : List Int) (rs : List Ru) (k : Nat) : Prop := ∀ (i : Nat) r, i < k → rs[i]? = some r → r.l ∈ l → okR q l r.r r.r.length
theorem okR_zero {q : Nat → Nat → Prop} {l : List Int} {r : List Sy} : okR q l r 0 := fun i s h => by omega
theorem okG_zero {q : Nat → Nat → Prop} {l : List Int} {rs : List Ru} : okG q l rs 0 := fun i s h => by omega
theorem okR_succ {q : Nat → Nat → Prop} {l : List Int} {r : List Sy} {j : Nat} (hj : j < r.length) : okR q l r (j + 1) ↔ okR q l r j ∧ (r[j].t = false → r[j].n ∈ l → q j r.length) := by
  constructor
  · exact fun h => ⟨fun i s h1 => h i s (by omega), fun h1 h2 => h j _ (by omega) (List.getElem?_eq_getElem hj) h1 h2⟩
  · rintro ⟨h1, h2⟩ i s h3 h4 h5 h6
    by_cases e : i = j
    · subst e
      rw [List.getElem?_eq_getElem hj] at h4
      cases h4
      exact h2 h5 h6
    · exact h1 i s (by omega) h4 h5 h6
theorem okG_succ {q : Nat → Nat → Prop} {l : List Int} {rs : List Ru} {k : Nat} (hk : k < rs.length) : okG q l rs (k + 1) ↔ okG q l rs k ∧ (rs[k].l ∈ l → okR q l rs[k].r rs[k].r.length) := by
  constructor
  · exact fun h => ⟨fun i s h1 => h i s (by omega), fun h1 => h k _ (by omega) (List.getElem?_eq_getElem hk) h1⟩
  · rintro ⟨h1, h2⟩ i s h3 h4 h5
    by_cases e : i = k
    · subst e
      rw [List.getElem?_eq_getElem hk] at h4
      cases h4
      exact h2 h5
    · exact h1 i s (by omega) h4 h5
def qLast (i n : Nat) : Prop := i + 1 = n
def qFst (i n : Nat) : Prop := i = 0
def kindK (b c : Bool) : Int := if b then 0 else if c then 1 else 2
open Classical in
noncomputable def kindF (g : Gr) (l : List Int) : Int := kindK (decide (okG qLast l g.rs g.rs.length)) (decide (okG qFst l g.rs g.rs.length))
theorem kindF_eq {g : Gr} {l : List Int} {b c : Bool} (hb : b = true ↔ okG qLast l g.rs g.rs.length) (hc : c = true ↔ okG qFst l g.rs g.rs.length) : kindK b c = kindF g l := by
  classical
  unfold kindF
  congr 1
  · rw [Bool.eq_iff_iff, hb]; simp
  · rw [Bool.eq_iff_iff, hc]; simp
/-! all components -/
structure Co where
  k : Int
  l : List Int
instance : Rep Co where
  sz := 2
  ok L x cs := ∃ A c, cs = [.int .i64 x.k, .slice A x.l.length c] ∧ SlOk L A c x.l
  len h := by obtain ⟨A, c, rfl, _⟩ := h; rfl
  one h := by obtain ⟨A, c, rfl, _⟩ := h; simp [one', Value.oneCell']
  mono h hh := by obtain ⟨A, c, rfl, q⟩ := h; exact ⟨A, c, rfl, q.mono hh⟩
open Classical in
noncomputable def leadL (g : Gr) (k : Nat) : List Nat := (List.range k).filter fun a => decide (Lead g a)
theorem leadL_add {g : Gr} {k : Nat} (h : Lead g k) : leadL g (k + 1) = leadL g k ++ [k] := by
  classical
  unfold leadL
  rw [List.range_succ, List.filter_append]
  simp [h]
theorem leadL_not {g : Gr} {k : Nat} (h : ¬ Lead g k) : leadL g (k + 1) = leadL g k := by
  classical
  unfold leadL
  rw [List.range_succ, List.filter_append]
  simp [h]
theorem leadL_len {g : Gr} {k : Nat} : (leadL g k).length ≤ k := by
  unfold leadL
  exact Nat.le_trans (List.length_filter_le ..) (by simp)
noncomputable def outL (g : Gr) (n k : Nat) : List Co := (leadL g k).map fun a => ⟨kindF g (compL g a n), compL g a n⟩
noncomputable def setsL (g : Gr) (n k : Nat) : List (List Int) := (leadL g k).map fun a => compL g a n
noncomputable def kindsL (g : Gr) (n k : Nat) : List Int := (leadL g k).map fun a => kindF g (compL g a n)
/-! what lies under a nonterminal, round by round -/
def Full (g : Gr) (a : Nat) (m : List Int) : Prop := ∀ b, RT (Edg g) a b → (b : Int) ∈ m
def Und (g : Gr) (a : Nat) (m : List Int) : Prop := m.Nodup ∧ (a : Int) ∈ m ∧ ∀ x ∈ m, ∃ b : Nat, x = b ∧ RT (Edg g) a b
theorem und_grow {g : Gr} {a : Nat} {m m' : List Int} (hm : Und g a m) (hm' : Und g a m') (hs : ∀ x ∈ m, x ∈ m') (hc : ∀ r ∈ g.rs, r.l ∈ m → ∀ s ∈ r.r, s.t = false → s.n ∈ m') : Full g a m' ∨ m.length < m'.length := by
  by_cases h : ∀ x ∈ m', x ∈ m
  · left
    intro b hb
    induction hb with
    | refl => exact hm'.2.1
    | step _ e ih =>
      obtain ⟨r, hr, h1, s, hs', h2, h3⟩ := e
      rw [← h3]
      exact hc r hr (by rw [h1]; exact h _ ih) s hs' h2
  · right
    have hx : ∃ x, x ∈ m' ∧ x ∉ m := Classical.byContradiction fun hn => h fun x hx => Classical.byContradiction fun q => hn ⟨x, hx, q⟩
    obtain ⟨x, h1, h2⟩ := hx
    have hnd : (x :: m).Nodup := List.nodup_cons.2 ⟨h2, hm.1⟩
    have := nodup_sub hnd (l' := m') (fun y hy => by
      rcases List.mem_cons.1 hy with rfl | hy
      · exact h1
      · exact hs y hy)
    simp only [List.length_cons] at this
    omega
theorem und_len {g : Gr} (V : VG g) {n : Nat} (hn : g.ns = n) {a : Nat} (ha : a < n) {m : List Int} (hm : Und g a m) : m.length ≤ n := by
  have hlt : ∀ b, RT (Edg g) a b → b < n := fun b h => by
    cases h with
    | refl => exact ha
    | step _ e => have := e.lt V; omega
  have := nodup_sub hm.1 (l' := (List.range n).map fun (b : Nat) => (b : Int)) (fun y hy => by
    obtain ⟨b, rfl, hb⟩ := hm.2.2 y hy
    exact List.mem_map.2 ⟨b, by simpa using hlt b hb, rfl⟩)
  simpa using this
theorem und_iff {g : Gr} {a : Nat} {m : List Int} (hm : Und g a m) (hf : Full g a m) (b : Nat) : (b : Int) ∈ m ↔ RT (Edg g) a b :=
  ⟨fun h => by obtain ⟨c, h1, h2⟩ := hm.2.2 _ h; have : c = b := by omega
               subst this; exact h2, hf b⟩
end Go.Proofs.Ytniobbepliknmaa.V
/- The text of slices.Clone[[]int,int] as a statement (slots: 0 s, 1 s); no condition. -/
namespace Go.Proofs.Ytniobbepliknmaa.V
open Go
def S111_0 : Stmt :=
  Stmt.seq (Stmt.region [SOper.mk (some 2) none (SOp.mv (Operand.const (Value.slice none 0 0)))] [0])
  (Stmt.seq
    (Stmt.seq
      (Stmt.region
        [SOper.mk (some 3) none (SOp.mv (Operand.tmp 0)),
          SOper.mk (some 4) none (SOp.nilq 0 false (Operand.tmp 3) (Operand.const (Value.slice none 0 0)))]
        [0, 4])
      (Stmt.cond (Operand.tmp 4)
        (Stmt.seq (Stmt.region [SOper.mk (some 2) none (SOp.mv (Operand.const (Value.slice none 0 0)))] [2]) Stmt.ret)
        Stmt.skip))
    (Stmt.seq
      (Stmt.region
        [SOper.mk (some 5) none (SOp.buildS 3 0 [] []), SOper.mk (some 6) none (SOp.mv (Operand.tmp 0)),
          SOper.mk (some 7) none (SOp.append 29 3 1 8 (Value.int IntKind.i64 0) (Operand.tmp 5) (Operand.tmp 6)),
          SOper.mk (some 2) none (SOp.mv (Operand.tmp 7))]
        [2])
      Stmt.ret))
def S111 : FnS := ⟨8, [(2, none)], S111_0⟩
theorem tr111 : trFn Try.prog 111 [] [[0], [0, 4], [2], [2]] = some S111 := by kernel_rfl
end Go.Proofs.Ytniobbepliknmaa.V
/- The text of slices.Concat[[]int,int] as a statement (slots: 0 slices, 1 slices, 3 size, 4 _, 5 s, 6 newslice, 7 _, 8 s); no condition. -/
namespace Go.Proofs.Ytniobbepliknmaa.V
open Go
def S110_1 : Stmt :=
  Stmt.block 1
  (Stmt.seq
    (Stmt.region
      [SOper.mk (some 13) none (SOp.idx 1 (Operand.tmp 9) (Operand.tmp 11)),
        SOper.mk (some 14) none (SOp.load false 1 (Operand.tmp 13)), SOper.mk (some 5) none (SOp.mv (Operand.tmp 14))]
      [0, 3, 5, 9, 10, 11])
    (Stmt.seq
      (Stmt.region
        [SOper.mk (some 15) none (SOp.mv (Operand.tmp 3)), SOper.mk (some 16) none (SOp.mv (Operand.tmp 5)),
          SOper.mk (some 17) none (SOp.len false (Operand.tmp 16)),
          SOper.mk (some 18) none (SOp.ibin BinOp.add (Operand.tmp 15) (Operand.tmp 17)),
          SOper.mk (some 3) none (SOp.mv (Operand.tmp 18))]
        [0, 3, 9, 10, 11])
      (Stmt.seq
        (Stmt.region
          [SOper.mk (some 19) none (SOp.mv (Operand.tmp 3)),
            SOper.mk (some 20) none (SOp.ibin BinOp.lss (Operand.tmp 19) (Operand.const (Value.int IntKind.i64 0)))]
          [0, 3, 9, 10, 11, 20])
        (Stmt.cond (Operand.tmp 20)
          (Stmt.region [SOper.mk (some 21) none SOp.dead, SOper.mk none none SOp.dead] [0, 3, 9, 10, 11]) Stmt.skip))))
def S110_2 : Stmt :=
  Stmt.region
  [SOper.mk (some 22) none (SOp.ibin BinOp.add (Operand.tmp 11) (Operand.const (Value.int IntKind.i64 1))),
    SOper.mk (some 11) none (SOp.mv (Operand.tmp 22))]
  [0, 3, 9, 10, 11]
def S110_3 : Stmt :=
  Stmt.seq
  (Stmt.region [SOper.mk (some 12) none (SOp.ibin BinOp.lss (Operand.tmp 11) (Operand.tmp 10))] [0, 3, 9, 10, 11, 12])
  (Stmt.seq (Stmt.cond (Operand.tmp 12) Stmt.skip (Stmt.exit 0)) (Stmt.join S110_1 S110_2 [3] [0, 9, 10, 11]))
def S110_4 : Stmt :=
  Stmt.seq
  (Stmt.region [SOper.mk (some 28) none (SOp.ibin BinOp.lss (Operand.tmp 27) (Operand.tmp 26))] [6, 25, 26, 27, 28])
  (Stmt.seq (Stmt.cond (Operand.tmp 28) Stmt.skip (Stmt.exit 2))
    (Stmt.seq
      (Stmt.block 3
        (Stmt.seq
          (Stmt.region
            [SOper.mk (some 29) none (SOp.idx 1 (Operand.tmp 25) (Operand.tmp 27)),
              SOper.mk (some 30) none (SOp.load false 1 (Operand.tmp 29)),
              SOper.mk (some 8) none (SOp.mv (Operand.tmp 30))]
            [6, 8, 25, 26, 27])
          (Stmt.region
            [SOper.mk (some 31) none (SOp.mv (Operand.tmp 6)), SOper.mk (some 32) none (SOp.mv (Operand.tmp 8)),
              SOper.mk (some 33) none (SOp.append 29 3 1 8 (Value.int IntKind.i64 0) (Operand.tmp 31) (Operand.tmp 32)),
              SOper.mk (some 6) none (SOp.mv (Operand.tmp 33))]
            [6, 25, 26, 27])))
      (Stmt.region
        [SOper.mk (some 34) none (SOp.ibin BinOp.add (Operand.tmp 27) (Operand.const (Value.int IntKind.i64 1))),
          SOper.mk (some 27) none (SOp.mv (Operand.tmp 34))]
        [6, 25, 26, 27])))
def S110_0 : Stmt :=
  Stmt.seq (Stmt.region [SOper.mk (some 2) none (SOp.mv (Operand.const (Value.slice none 0 0)))] [0])
  (Stmt.seq (Stmt.region [SOper.mk (some 3) none (SOp.mv (Operand.const (Value.int IntKind.i64 0)))] [0, 3])
    (Stmt.seq
      (Stmt.seq
        (Stmt.region
          [SOper.mk (some 9) none (SOp.mv (Operand.tmp 0)), SOper.mk (some 10) none (SOp.len false (Operand.tmp 9)),
            SOper.mk (some 11) none (SOp.mv (Operand.const (Value.int IntKind.i64 0)))]
          [0, 3, 9, 10, 11])
        (Stmt.block 0 (Stmt.loop S110_3 [3, 11] [0, 9, 10])))
      (Stmt.seq
        (Stmt.region
          [SOper.mk (some 23) none (SOp.mv (Operand.tmp 3)),
            SOper.mk (some 24) none
              (SOp.call (Operand.func 171) [Operand.const (Value.slice none 0 0), Operand.tmp 23]),
            SOper.mk (some 6) none (SOp.mv (Operand.tmp 24))]
          [0, 6])
        (Stmt.seq
          (Stmt.seq
            (Stmt.region
              [SOper.mk (some 25) none (SOp.mv (Operand.tmp 0)),
                SOper.mk (some 26) none (SOp.len false (Operand.tmp 25)),
                SOper.mk (some 27) none (SOp.mv (Operand.const (Value.int IntKind.i64 0)))]
              [6, 25, 26, 27])
            (Stmt.block 2 (Stmt.loop S110_4 [6, 27] [25, 26])))
          (Stmt.seq
            (Stmt.region
              [SOper.mk (some 35) none (SOp.mv (Operand.tmp 6)), SOper.mk (some 2) none (SOp.mv (Operand.tmp 35))] [2])
            Stmt.ret)))))
def S110 : FnS := ⟨36, [(2, none)], S110_0⟩
theorem tr110 : trFn Try.prog 110 [] [[0], [0, 3], [0, 3, 9, 10, 11], [3, 11], [0, 9, 10], [0, 3, 9, 10, 11, 12], [3], [0, 9, 10, 11], [0, 3, 5, 9, 10, 11], [0, 3, 9, 10, 11], [0, 3, 9, 10, 11, 20], [0, 3, 9, 10, 11], [0, 3, 9, 10, 11], [0, 6], [6, 25, 26, 27], [6, 27], [25, 26], [6, 25, 26, 27, 28], [6, 8, 25, 26, 27], [6, 25, 26, 27], [6, 25, 26, 27], [2]] = some S110 := by kernel_rfl
end Go.Proofs.Ytniobbepliknmaa.V
/- The text of slices.Grow[[]int,int] as a statement (slots: 0 s, 1 n, 2 s, 3 n); no condition. -/
namespace Go.Proofs.Ytniobbepliknmaa.V
open Go
def S171_1 : Stmt :=
  Stmt.seq
  (Stmt.region
    [SOper.mk (some 5) none (SOp.mv (Operand.tmp 1)),
      SOper.mk (some 6) none (SOp.ibin BinOp.lss (Operand.tmp 5) (Operand.const (Value.int IntKind.i64 0)))]
    [0, 1, 6])
  (Stmt.cond (Operand.tmp 6) (Stmt.region [SOper.mk (some 7) none SOp.dead, SOper.mk none none SOp.dead] [0, 1])
    Stmt.skip)
def S171_2 : Stmt :=
  Stmt.seq
  (Stmt.region
    [SOper.mk (some 8) none (SOp.mv (Operand.tmp 1)), SOper.mk (some 9) none (SOp.mv (Operand.tmp 0)),
      SOper.mk (some 10) none (SOp.q (Qk.bi 0 [29]) [Operand.tmp 9]), SOper.mk (some 11) none (SOp.mv (Operand.tmp 0)),
      SOper.mk (some 12) none (SOp.len false (Operand.tmp 11)),
      SOper.mk (some 13) none (SOp.ibin BinOp.sub (Operand.tmp 10) (Operand.tmp 12)),
      SOper.mk (some 14) none (SOp.ibin BinOp.sub (Operand.tmp 8) (Operand.tmp 13)),
      SOper.mk (some 1) none (SOp.mv (Operand.tmp 14))]
    [0, 1])
  (Stmt.seq
    (Stmt.region
      [SOper.mk (some 15) none (SOp.mv (Operand.tmp 1)),
        SOper.mk (some 16) none (SOp.ibin BinOp.gtr (Operand.tmp 15) (Operand.const (Value.int IntKind.i64 0)))]
      [0, 1, 16])
    (Stmt.cond (Operand.tmp 16)
      (Stmt.region
        [SOper.mk (some 17) none (SOp.mv (Operand.tmp 0)), SOper.mk (some 18) none (SOp.mv (Operand.tmp 0)),
          SOper.mk (some 19) none (SOp.q (Qk.bi 0 [29]) [Operand.tmp 18]),
          SOper.mk (some 20) none (SOp.slc 1 (Operand.tmp 17) none (some (Operand.tmp 19)) none),
          SOper.mk (some 21) none (SOp.mv (Operand.tmp 1)),
          SOper.mk (some 22) none (SOp.appz 29 3 3 1 8 (Value.int IntKind.i64 0) (Operand.tmp 20) (Operand.tmp 21)),
          SOper.mk (some 23) none (SOp.mv (Operand.tmp 0)), SOper.mk (some 24) none (SOp.len false (Operand.tmp 23)),
          SOper.mk (some 25) none (SOp.slc 1 (Operand.tmp 22) none (some (Operand.tmp 24)) none),
          SOper.mk (some 0) none (SOp.mv (Operand.tmp 25))]
        [0])
      Stmt.skip))
def S171_3 : Stmt :=
  Stmt.seq
  (Stmt.region [SOper.mk (some 26) none (SOp.mv (Operand.tmp 0)), SOper.mk (some 4) none (SOp.mv (Operand.tmp 26))] [4])
  Stmt.ret
def S171_4 : Stmt :=
  Stmt.join S171_2 S171_3 [0] []
def S171_0 : Stmt :=
  Stmt.seq (Stmt.region [SOper.mk (some 4) none (SOp.mv (Operand.const (Value.slice none 0 0)))] [0, 1])
  (Stmt.join S171_1 S171_4 [] [0, 1])
def S171 : FnS := ⟨27, [(4, none)], S171_0⟩
theorem tr171 : trFn Try.prog 171 [] [[0, 1], [], [0, 1], [0, 1, 6], [0, 1], [0], [], [0, 1], [0, 1, 16], [0], [4]] = some S171 := by kernel_rfl
end Go.Proofs.Ytniobbepliknmaa.V
/- The text of slices.Index[[]int,int] as a statement (slots: 0 s, 1 v, 2 s, 3 v, 5 i); no condition. -/
namespace Go.Proofs.Ytniobbepliknmaa.V
open Go
def S107_1 : Stmt :=
  Stmt.seq (Stmt.region [SOper.mk (some 9) none (SOp.ibin BinOp.lss (Operand.tmp 8) (Operand.tmp 7))] [0, 1, 7, 8, 9])
  (Stmt.seq (Stmt.cond (Operand.tmp 9) Stmt.skip (Stmt.exit 0))
    (Stmt.seq
      (Stmt.block 1
        (Stmt.seq
          (Stmt.region
            [SOper.mk (some 10) none (SOp.mv (Operand.tmp 8)), SOper.mk (some 5) none (SOp.mv (Operand.tmp 10))]
            [0, 1, 5, 7, 8])
          (Stmt.seq
            (Stmt.region
              [SOper.mk (some 11) none (SOp.mv (Operand.tmp 1)), SOper.mk (some 12) none (SOp.mv (Operand.tmp 0)),
                SOper.mk (some 13) none (SOp.mv (Operand.tmp 5)),
                SOper.mk (some 14) none (SOp.idx 1 (Operand.tmp 12) (Operand.tmp 13)),
                SOper.mk (some 15) none (SOp.load false 1 (Operand.tmp 14)),
                SOper.mk (some 16) none (SOp.ibin BinOp.eql (Operand.tmp 11) (Operand.tmp 15))]
              [0, 1, 5, 7, 8, 16])
            (Stmt.cond (Operand.tmp 16)
              (Stmt.seq
                (Stmt.region
                  [SOper.mk (some 17) none (SOp.mv (Operand.tmp 5)), SOper.mk (some 4) none (SOp.mv (Operand.tmp 17))]
                  [4])
                Stmt.ret)
              Stmt.skip))))
      (Stmt.region
        [SOper.mk (some 18) none (SOp.ibin BinOp.add (Operand.tmp 8) (Operand.const (Value.int IntKind.i64 1))),
          SOper.mk (some 8) none (SOp.mv (Operand.tmp 18))]
        [0, 1, 7, 8])))
def S107_0 : Stmt :=
  Stmt.seq (Stmt.region [SOper.mk (some 4) none (SOp.mv (Operand.const (Value.int IntKind.i64 0)))] [0, 1])
  (Stmt.seq
    (Stmt.seq
      (Stmt.region
        [SOper.mk (some 6) none (SOp.mv (Operand.tmp 0)), SOper.mk (some 7) none (SOp.len false (Operand.tmp 6)),
          SOper.mk (some 8) none (SOp.mv (Operand.const (Value.int IntKind.i64 0)))]
        [0, 1, 7, 8])
      (Stmt.block 0 (Stmt.loop S107_1 [8] [0, 1, 7])))
    (Stmt.seq (Stmt.region [SOper.mk (some 4) none (SOp.mv (Operand.const (Value.int IntKind.i64 (-1))))] [4])
      Stmt.ret))
def S107 : FnS := ⟨19, [(4, none)], S107_0⟩
theorem tr107 : trFn Try.prog 107 [] [[0, 1], [0, 1, 7, 8], [8], [0, 1, 7], [0, 1, 7, 8, 9], [0, 1, 5, 7, 8], [0, 1, 5, 7, 8, 16], [4], [0, 1, 7, 8], [4]] = some S107 := by kernel_rfl
end Go.Proofs.Ytniobbepliknmaa.V
/- The text of slices.Contains[[]int,int] as a statement (slots: 0 s, 1 v, 2 s, 3 v); no condition. -/
namespace Go.Proofs.Ytniobbepliknmaa.V
open Go
def S32_0 : Stmt :=
  Stmt.seq (Stmt.region [SOper.mk (some 4) none (SOp.mv (Operand.const (Value.bool false)))] [0, 1])
  (Stmt.seq
    (Stmt.region
      [SOper.mk (some 5) none (SOp.mv (Operand.tmp 0)), SOper.mk (some 6) none (SOp.mv (Operand.tmp 1)),
        SOper.mk (some 7) none (SOp.call (Operand.func 107) [Operand.tmp 5, Operand.tmp 6]),
        SOper.mk (some 8) none (SOp.ibin BinOp.geq (Operand.tmp 7) (Operand.const (Value.int IntKind.i64 0))),
        SOper.mk (some 4) none (SOp.mv (Operand.tmp 8))]
      [4])
    Stmt.ret)
def S32 : FnS := ⟨9, [(4, none)], S32_0⟩
theorem tr32 : trFn Try.prog 32 [] [[0, 1], [4]] = some S32 := by kernel_rfl
end Go.Proofs.Ytniobbepliknmaa.V
/- The text of slices.IndexFunc[[]int,int] as a statement (slots: 0 s, 1 f, 2 s, 3 f, 5 i); no condition. -/
namespace Go.Proofs.Ytniobbepliknmaa.V
open Go
def S109_1 : Stmt :=
  Stmt.seq (Stmt.region [SOper.mk (some 9) none (SOp.ibin BinOp.lss (Operand.tmp 8) (Operand.tmp 7))] [0, 1, 7, 8, 9])
  (Stmt.seq (Stmt.cond (Operand.tmp 9) Stmt.skip (Stmt.exit 0))
    (Stmt.seq
      (Stmt.block 1
        (Stmt.seq
          (Stmt.region
            [SOper.mk (some 10) none (SOp.mv (Operand.tmp 8)), SOper.mk (some 5) none (SOp.mv (Operand.tmp 10))]
            [0, 1, 5, 7, 8])
          (Stmt.seq
            (Stmt.region
              [SOper.mk (some 11) none (SOp.mv (Operand.tmp 1)), SOper.mk (some 12) none (SOp.mv (Operand.tmp 0)),
                SOper.mk (some 13) none (SOp.mv (Operand.tmp 5)),
                SOper.mk (some 14) none (SOp.idx 1 (Operand.tmp 12) (Operand.tmp 13)),
                SOper.mk (some 15) none (SOp.load false 1 (Operand.tmp 14)),
                SOper.mk (some 16) none (SOp.call (Operand.tmp 11) [Operand.tmp 15])]
              [0, 1, 5, 7, 8, 16])
            (Stmt.cond (Operand.tmp 16)
              (Stmt.seq
                (Stmt.region
                  [SOper.mk (some 17) none (SOp.mv (Operand.tmp 5)), SOper.mk (some 4) none (SOp.mv (Operand.tmp 17))]
                  [4])
                Stmt.ret)
              Stmt.skip))))
      (Stmt.region
        [SOper.mk (some 18) none (SOp.ibin BinOp.add (Operand.tmp 8) (Operand.const (Value.int IntKind.i64 1))),
          SOper.mk (some 8) none (SOp.mv (Operand.tmp 18))]
        [0, 1, 7, 8])))
def S109_0 : Stmt :=
  Stmt.seq (Stmt.region [SOper.mk (some 4) none (SOp.mv (Operand.const (Value.int IntKind.i64 0)))] [0, 1])
  (Stmt.seq
    (Stmt.seq
      (Stmt.region
        [SOper.mk (some 6) none (SOp.mv (Operand.tmp 0)), SOper.mk (some 7) none (SOp.len false (Operand.tmp 6)),
          SOper.mk (some 8) none (SOp.mv (Operand.const (Value.int IntKind.i64 0)))]
        [0, 1, 7, 8])
      (Stmt.block 0 (Stmt.loop S109_1 [8] [0, 1, 7])))
    (Stmt.seq (Stmt.region [SOper.mk (some 4) none (SOp.mv (Operand.const (Value.int IntKind.i64 (-1))))] [4])
      Stmt.ret))
def S109 : FnS := ⟨19, [(4, none)], S109_0⟩
theorem tr109 : trFn Try.prog 109 [] [[0, 1], [0, 1, 7, 8], [8], [0, 1, 7], [0, 1, 7, 8, 9], [0, 1, 5, 7, 8], [0, 1, 5, 7, 8, 16], [4], [0, 1, 7, 8], [4]] = some S109 := by kernel_rfl
end Go.Proofs.Ytniobbepliknmaa.V
/- The text of slices.ContainsFunc[[]int,int] as a statement (slots: 0 s, 1 f, 2 s, 3 f); no condition. -/
namespace Go.Proofs.Ytniobbepliknmaa.V
open Go
def S35_0 : Stmt :=
  Stmt.seq (Stmt.region [SOper.mk (some 4) none (SOp.mv (Operand.const (Value.bool false)))] [0, 1])
  (Stmt.seq
    (Stmt.region
      [SOper.mk (some 5) none (SOp.mv (Operand.tmp 0)), SOper.mk (some 6) none (SOp.mv (Operand.tmp 1)),
        SOper.mk (some 7) none (SOp.call (Operand.func 109) [Operand.tmp 5, Operand.tmp 6]),
        SOper.mk (some 8) none (SOp.ibin BinOp.geq (Operand.tmp 7) (Operand.const (Value.int IntKind.i64 0))),
        SOper.mk (some 4) none (SOp.mv (Operand.tmp 8))]
      [4])
    Stmt.ret)
def S35 : FnS := ⟨9, [(4, none)], S35_0⟩
theorem tr35 : trFn Try.prog 35 [] [[0, 1], [4]] = some S35 := by kernel_rfl
end Go.Proofs.Ytniobbepliknmaa.V
/- Functions of package slices on whole numbers walked: Clone, Concat, Index, Contains, ContainsFunc; no condition. -/
namespace Go.Proofs.Ytniobbepliknmaa.V
open Go
set_option linter.unusedVariables false
set_option linter.unusedSimpArgs false
attribute [local go_sem] e_seq e_region e_quiet e_join e_loop e_cond e_block e_exit e_ret e_skip e_fin e_kseq e_snrm e_sret e_sex e_bnrm e_bret e_bex e_rnrm e_rret e_res e_condC e_nil e_g e_mv g_mv e_pick g_pick pickC_eq e_ibin g_ibin ibinC_eq e_sbin g_sbin e_beq g_beq beqC_eq e_nilq g_nilq nilqC_sl nilqC_pt nilqC_mp e_un g_un unC_not unC_neg e_conv g_conv convC_eq e_fld g_fld fldC_ref fldC_ptr e_nilCheck g_nilCheck nilCheckC_ref nilCheckC_ptr nilCheckC_fun e_field g_field fieldC_eq e_len g_len lenC_sl lenC_str e_extract g_extract extractC_eq e_mkFunc e_build g_build e_idiv g_idiv idivC_eq e_ishift g_ishift ishiftC_eq e_idx g_idx e_idxA g_idxA e_load g_load loadC_ref loadC_ptr loadB_eq e_slc g_slc e_box boxC_loc boxC_esc e_alloc allocC_loc allocC_esc e_buildS e_store storeC_ref storeC_ptr storeB_eq e_append e_appz e_mk mkC_eq e_call callC_eq e_fn g_fn fnC_eq fnV_min' fnV_max' fnV_rune' e_q g_q e_a e_n g_call g_box g_alloc g_buildS g_store g_append g_mk g_a g_n g_dead e_dead e_callK e_drawn e_tree e_finJ e_tk e_tfin e_tno e_nbt_q e_nbt_qn e_nbt_a e_nbt_an e_nbt_fin e_early_nil e_early_t e_early_f e_nob_nil e_nob_none e_nob_some isBox_dead isBox_v isBox_ref e_dnil e_dk e_ek e_finB vcOps_vc1 e_dcons e_tq e_ekt e_tearly e_talt e_dearly look_nil look_c proj_nil proj_c looks_nil looks_c zip_nil zip_c val_tmp val_const val_func slv_v slv_box slv_ref slot_tmp slot_const slot_func slotL_v slotL_box slotL_ref put_some put_none updBox_c boxSet_box gd_eq slotVals_nil slotVals_c slotVals_b boxV_box boxOn_box slotsOn_nil slotsOn_c slotsOn_b resV_one resV_two vals_nil vals_c allOn_nil allOn_c partOn_nil partOn_c partVals_nil partVals_c fits_nil fits_c fillL_nil fillL_c mkv_one mkv_agg cellsV_agg cellsV_int cellsV_bool cellsV_slice cellsV_string cellsV_pointer cellsV_func cellsV_nilf cellsV_map one'_nil one'_c oc_int oc_bool oc_slice oc_string oc_pointer oc_func oc_nilf oc_map setC_eq iv_add iv_sub iv_mul iv_eql iv_neq iv_lss iv_leq iv_gtr iv_geq iok_add iok_sub iok_mul iok_eql iok_neq iok_lss iok_leq iok_gtr iok_geq pickV_bool args0_nil args0_c bnd_none bnd_some imp_bt imp_bf imp_ebt imp_ebf imp_eb1 imp_np imp_pp beq_tt beq_tf beq_ft beq_ff cond_or cond_and e_round e_meet Int.le_refl Int.toNat_zero decide_true decide_false Bool.or_false Bool.false_or Bool.true_or Bool.or_true Bool.and_false Bool.false_and Bool.bne_false Bool.bne_true beq_iff_eq Int.cast_ofNat_Int not_false_eq_true not_true_eq_false false_and and_false false_implies true_implies true_and and_true Bool.true_and Bool.and_true Bool.not_true Bool.not_false forall_const implies_true List.take_zero List.drop_zero List.take_succ_cons List.drop_succ_cons List.take_nil List.drop_nil List.length_cons List.length_nil List.nil_append List.append_nil List.cons_append Int.toNat_natCast decide_eq_true_eq decide_eq_false_iff_not cond_true cond_false and_self List.getElem?_cons_zero List.getElem?_cons_succ List.set_cons_zero List.set_cons_succ Option.some.injEq exists_eq_left' Nat.zero_add Nat.add_zero Nat.mul_one imp_self true_or or_true or_false false_or Bool.or_eq_true Bool.or_eq_false_iff Bool.and_eq_true Bool.and_eq_false_iff Bool.not_eq_true' Bool.not_eq_false'

theorem slices_clone {Γr : Ctx} {A : Option Addr} {c : Nat} {xs : List Int} (hx : SlOk (lk Γr) A c xs) (hs : xs.length ≤ 1048576) :
    Ret Try.prog 111 [.slice A xs.length c] Γr [] (fun v Γ => ∃ g, Γ = [g] ∧ Bld g (lk []) 3 v xs) := by
  generalize hR : (fun (v : Value) (Γ : Ctx) => ∃ g, _) = R
  refine ret_of_vc1 tr111 (Nat.le_of_ble_eq_true rfl) ?_
  simp only [S111, S111_0, go_sem, Nat.reduceBEq, Nat.reduceAdd, Nat.reduceSub, Nat.reduceMul, Nat.reduceLeDiff, reduceCtorEq, ↓reduceIte, Int.reduceLT, Int.reduceLE, Int.reduceEq, Int.reduceNe]
  refine ⟨fun hn => Up.here ?_, fun hn => ?_⟩
  · have : A = none := by simpa using hn
    subst this
    have := hx.ofNone
    subst this
    subst hR
    exact ⟨_, rfl, Bld.nil _ _ _⟩
  · intro b
    refine s_appS (α := Int) (xs := []) (ix := 1) (L := lk []) rfl ⟨[], ⟨rfl, .inl ⟨rfl, _, rfl⟩⟩, by simp⟩ hx rfl (lk_r _ _) rfl (by simp; omega) (by simp [maxLen]; omega) ?_
    intro v g hB _
    simp only [go_sem, Nat.reduceBEq, Nat.reduceAdd, Nat.reduceSub, Nat.reduceMul, Nat.reduceLeDiff, reduceCtorEq, ↓reduceIte, Int.reduceLT, Int.reduceLE, Int.reduceEq, Int.reduceNe]
    refine Up.sel [[1]] (by decide) fun _ _ => ?_
    subst hR
    exact ⟨_, rfl, hB⟩

theorem slices_grow {Γr : Ctx} (n : Nat) (hn : n ≤ 10000000) :
    Ret Try.prog 171 [.slice none 0 0, .int .i64 n] Γr [] (fun v Γ => ∃ g, Γ = [g] ∧ Bld (α := Int) g (lk []) 3 v []) := by
  generalize hR : (fun (v : Value) (Γ : Ctx) => ∃ g, _) = R
  refine ret_of_vc1 tr171 (Nat.le_of_ble_eq_true rfl) ?_
  simp only [S171, S171_0, go_sem, Nat.reduceBEq, Nat.reduceAdd, Nat.reduceSub, Nat.reduceMul, Nat.reduceLeDiff, reduceCtorEq, ↓reduceIte, Int.reduceLT, Int.reduceLE, Int.reduceEq, Int.reduceNe]
  refine s_split ?_
  simp only [S171_1, S171_2, S171_3, S171_4, go_sem, Nat.reduceBEq, Nat.reduceAdd, Nat.reduceSub, Nat.reduceMul, Nat.reduceLeDiff, reduceCtorEq, ↓reduceIte, Int.reduceLT, Int.reduceLE, Int.reduceEq, Int.reduceNe]
  refine ⟨fun h => by omega, fun _ => Up.here ?_⟩
  refine s_split ?_
  simp only [go_sem, Nat.reduceBEq, Nat.reduceAdd, Nat.reduceSub, Nat.reduceMul, Nat.reduceLeDiff, reduceCtorEq, ↓reduceIte, Int.reduceLT, Int.reduceLE, Int.reduceEq, Int.reduceNe]
  refine s_q trivial (qr_cap (e := 3) (by kernel_rfl)) ?_
  simp only [go_sem, Nat.reduceBEq, Nat.reduceAdd, Nat.reduceSub, Nat.reduceMul, Nat.reduceLeDiff, reduceCtorEq, ↓reduceIte, Int.reduceLT, Int.reduceLE, Int.reduceEq, Int.reduceNe]
  have hw : IntKind.i64.wrap ((n : Int) - IntKind.i64.wrap (0 - 0)) = n := by
    rw [wrap_id (x := 0 - 0) (by omega) (by omega), wrap_id (by omega) (by omega)]
    omega
  rw [hw]
  refine ⟨fun hpos => ?_, fun hz => ?_⟩
  · refine s_q trivial (qr_cap (e := 3) (by kernel_rfl)) ?_
    simp only [go_sem, Nat.reduceBEq, Nat.reduceAdd, Nat.reduceSub, Nat.reduceMul, Nat.reduceLeDiff, reduceCtorEq, ↓reduceIte, Int.reduceLT, Int.reduceLE, Int.reduceEq, Int.reduceNe]
    refine s_hi 0 (by simp only [go_sem, Nat.reduceBEq, Nat.reduceAdd, Nat.reduceSub, Nat.reduceMul, Nat.reduceLeDiff, reduceCtorEq, ↓reduceIte, Int.reduceLT, Int.reduceLE, Int.reduceEq, Int.reduceNe]; exact ⟨_, rfl⟩) (by omega) ?_
    simp only [go_sem, Nat.reduceBEq, Nat.reduceAdd, Nat.reduceSub, Nat.reduceMul, Nat.reduceLeDiff, reduceCtorEq, ↓reduceIte, Int.reduceLT, Int.reduceLE, Int.reduceEq, Int.reduceNe]
    refine s_appz (ix := 0) rfl (by omega) (by omega) (by simp [maxLen]; omega) ?_
    intro v g hr
    rw [Int.toNat_natCast, show cellsV (Value.int .i64 0) = [Sc.enc (0 : Int)] from rfl, zerosL_enc] at hr
    have hB : Bld g (lk []) 3 v (List.replicate n (0 : Int)) := Bld.ofRow _ hr (by simp)
    obtain ⟨A, c, rfl⟩ := hB.val
    simp only [go_sem, Nat.reduceBEq, Nat.reduceAdd, Nat.reduceSub, Nat.reduceMul, Nat.reduceLeDiff, reduceCtorEq, ↓reduceIte, Int.reduceLT, Int.reduceLE, Int.reduceEq, Int.reduceNe]
    refine s_hi 0 (by simp only [go_sem, Nat.reduceBEq, Nat.reduceAdd, Nat.reduceSub, Nat.reduceMul, Nat.reduceLeDiff, reduceCtorEq, ↓reduceIte, Int.reduceLT, Int.reduceLE, Int.reduceEq, Int.reduceNe]; exact ⟨_, rfl⟩) (by omega) ?_
    simp only [go_sem, Nat.reduceBEq, Nat.reduceAdd, Nat.reduceSub, Nat.reduceMul, Nat.reduceLeDiff, reduceCtorEq, ↓reduceIte, Int.reduceLT, Int.reduceLE, Int.reduceEq, Int.reduceNe]
    refine Up.here (Up.here ?_)
    subst hR
    exact ⟨_, rfl, by simpa using hB.take (k := 0) (by omega)⟩
  · refine Up.here (Up.here ?_)
    subst hR
    exact ⟨_, rfl, Bld.nil _ _ _⟩
theorem slices_concat {Γr : Ctx} {B : Option Addr} {d : Nat} {xss : List (List Int)} (hx : SlOk (lk Γr) B d xss) (hs : xss.flatten.length ≤ 5000000) (hl : xss.length ≤ 5000000) :
    Ret Try.prog 110 [.slice B xss.length d] Γr [] (fun v Γ => ∃ g, Γ = [g] ∧ Bld g (lk []) 3 v xss.flatten) := by
  generalize hR : (fun (v : Value) (Γ : Ctx) => ∃ g, _) = R
  refine ret_of_vc tr110 (Nat.le_of_ble_eq_true rfl) ?_
  simp only [S110, S110_0, go_sem, Nat.reduceBEq, Nat.reduceAdd, Nat.reduceSub, Nat.reduceMul, Nat.reduceLeDiff, reduceCtorEq, ↓reduceIte, Int.reduceLT, Int.reduceLE, Int.reduceEq, Int.reduceNe]
  have hpre : ∀ k, (xss.take k).flatten.length ≤ xss.flatten.length := fun k => by
    conv => rhs; rw [← List.take_append_drop k xss, List.flatten_append, List.length_append]
    omega
  have hstep : ∀ k (hk : k < xss.length), (xss.take (k + 1)).flatten = (xss.take k).flatten ++ xss[k] := fun k hk => by
    rw [List.take_succ_eq_append_getElem hk]; simp only [List.flatten_append, List.flatten_cons, List.flatten_nil, List.append_nil]
  refine s_loop (fun f vs Γ => Γ = [] ∧ ∃ k : Nat, vs = [.v true (.int .i64 ((xss.take k).flatten.length : Nat)), .v true (.int .i64 k)] ∧ k + f = xss.length) xss.length (Up.here ⟨rfl, 0, rfl, by omega⟩) ?_
  rintro f vs Γ ⟨rfl, k, rfl, hkf⟩
  simp only [S110_3, go_sem, Nat.reduceBEq, Nat.reduceAdd, Nat.reduceSub, Nat.reduceMul, Nat.reduceLeDiff, reduceCtorEq, ↓reduceIte, Int.reduceLT, Int.reduceLE, Int.reduceEq, Int.reduceNe]
  have h1 := hpre k
  have h2 := hpre (k + 1)
  refine ⟨fun hlt => ?_, fun hge => ?_⟩
  · have hk : k < xss.length := by omega
    have h3 := congrArg List.length (hstep k hk)
    simp only [List.length_append] at h3
    obtain ⟨b, o, hA, A', c', hs', hc⟩ := hx.list hk
    refine s_split ?_
    simp only [S110_1, S110_2, go_sem, Nat.reduceBEq, Nat.reduceAdd, Nat.reduceSub, Nat.reduceMul, Nat.reduceLeDiff, reduceCtorEq, ↓reduceIte, Int.reduceLT, Int.reduceLE, Int.reduceEq, Int.reduceNe]
    refine s_idx hA (by omega) (by omega) ?_
    simp only [go_sem, Nat.reduceBEq, Nat.reduceAdd, Nat.reduceSub, Nat.reduceMul, Nat.reduceLeDiff, reduceCtorEq, ↓reduceIte, Int.reduceLT, Int.reduceLE, Int.reduceEq, Int.reduceNe]
    refine s_ld0 (hc _ (Mem.le.refl _)) (by simp) (by simp) ?_
    simp only [go_sem, Nat.reduceBEq, Nat.reduceAdd, Nat.reduceSub, Nat.reduceMul, Nat.reduceLeDiff, reduceCtorEq, ↓reduceIte, Int.reduceLT, Int.reduceLE, Int.reduceEq, Int.reduceNe]
    simp (disch := omega) only [wrap_id]
    refine ⟨fun h => by omega, fun _ => Up.here ?_⟩
    exact ⟨f - 1, by omega, Up.here ⟨rfl, k + 1, by rw [h3]; rfl, by omega⟩⟩
  have hk : k = xss.length := by omega
  rw [hk, List.take_length]
  refine CallVC.read (slices_grow _ (by omega)) ?_
  rintro v Γ' ⟨g, rfl, hB⟩
  obtain ⟨A0, c0, rfl⟩ := hB.val
  simp only [go_sem, Nat.reduceBEq, Nat.reduceAdd, Nat.reduceSub, Nat.reduceMul, Nat.reduceLeDiff, reduceCtorEq, ↓reduceIte, Int.reduceLT, Int.reduceLE, Int.reduceEq, Int.reduceNe]
  refine s_loop (fun f vs Γ => ∃ g, Γ = [g] ∧ ∃ (k : Nat) (u : Value), vs = [.v true u, .v true (.int .i64 k)] ∧ k + f = xss.length ∧ Bld g (lk []) 3 u (xss.take k).flatten) xss.length (Up.here ⟨_, rfl, 0, _, rfl, by omega, hB⟩) ?_
  rintro f vs Γ ⟨g, rfl, k, u, rfl, hkf, hB⟩
  simp only [S110_4, go_sem, Nat.reduceBEq, Nat.reduceAdd, Nat.reduceSub, Nat.reduceMul, Nat.reduceLeDiff, reduceCtorEq, ↓reduceIte, Int.reduceLT, Int.reduceLE, Int.reduceEq, Int.reduceNe]
  have h1 := hpre k
  have h2 := hpre (k + 1)
  refine ⟨fun hlt => ?_, fun hge => ?_⟩
  · have hk : k < xss.length := by omega
    have h3 := congrArg List.length (hstep k hk)
    simp only [List.length_append] at h3
    obtain ⟨b, o, hA, A', c', hs', hc⟩ := hx.list hk
    refine s_idx hA (by omega) (by omega) ?_
    simp only [go_sem, Nat.reduceBEq, Nat.reduceAdd, Nat.reduceSub, Nat.reduceMul, Nat.reduceLeDiff, reduceCtorEq, ↓reduceIte, Int.reduceLT, Int.reduceLE, Int.reduceEq, Int.reduceNe]
    refine s_ld0 (hc _ (lk_r _ _)) (by simp) (by simp) ?_
    simp only [go_sem, Nat.reduceBEq, Nat.reduceAdd, Nat.reduceSub, Nat.reduceMul, Nat.reduceLeDiff, reduceCtorEq, ↓reduceIte, Int.reduceLT, Int.reduceLE, Int.reduceEq, Int.reduceNe]
    refine s_appS (ix := 0) rfl hB hs' rfl (lk_r _ _) rfl (by omega) (by unfold maxLen; omega) ?_
    intro v' g' hB' _
    simp only [go_sem, Nat.reduceBEq, Nat.reduceAdd, Nat.reduceSub, Nat.reduceMul, Nat.reduceLeDiff, reduceCtorEq, ↓reduceIte, Int.reduceLT, Int.reduceLE, Int.reduceEq, Int.reduceNe]
    simp (disch := omega) only [wrap_id]
    rw [← hstep k hk] at hB'
    exact ⟨f - 1, by omega, Up.here ⟨_, rfl, k + 1, _, rfl, by omega, hB'⟩⟩
  · have hk : k = xss.length := by omega
    rw [hk, List.take_length] at hB
    refine Up.here ?_
    subst hR
    exact ⟨_, rfl, hB⟩

theorem slices_index {Γr : Ctx} {A : Option Addr} {c : Nat} {xs : List Int} (hx : SlOk (lk Γr) A c xs) (x : Int) :
    Ret Try.prog 107 [.slice A xs.length c, .int .i64 x] Γr [] (fun v Γ => Γ = [] ∧ v = .int .i64 (match xs.findIdx? (· == x) with | some i => (i : Int) | none => -1)) := by
  generalize hR : (fun (v : Value) (Γ : Ctx) => Γ = [] ∧ _) = R
  refine ret_of_vc tr107 (Nat.le_of_ble_eq_true rfl) ?_
  have h1 := hx.short
  simp only [S107, S107_0, go_sem, Nat.reduceBEq, Nat.reduceAdd, Nat.reduceSub, Nat.reduceMul, Nat.reduceLeDiff, reduceCtorEq, ↓reduceIte, Int.reduceLT, Int.reduceLE, Int.reduceEq, Int.reduceNe]
  refine s_loop (fun f vs Γ => Γ = [] ∧ ∃ k : Nat, vs = [.v true (.int .i64 k)] ∧ k + f = xs.length ∧ ∀ (j : Nat) (hj : j < xs.length), j < k → xs[j] ≠ x) xs.length (Up.here ⟨rfl, 0, rfl, by omega, by intro j _ h; omega⟩) ?_
  rintro f vs Γ ⟨rfl, k, rfl, hkf, hno⟩
  simp only [S107_1, go_sem, Nat.reduceBEq, Nat.reduceAdd, Nat.reduceSub, Nat.reduceMul, Nat.reduceLeDiff, reduceCtorEq, ↓reduceIte, Int.reduceLT, Int.reduceLE, Int.reduceEq, Int.reduceNe]
  refine ⟨fun hlt => ?_, fun hge => ?_⟩
  · have hk : k < xs.length := by omega
    obtain ⟨b, o, hA, hc1⟩ := hx.int hk
    refine s_idx hA (by omega) (by omega) ?_
    simp only [go_sem, Nat.reduceBEq, Nat.reduceAdd, Nat.reduceSub, Nat.reduceMul, Nat.reduceLeDiff, reduceCtorEq, ↓reduceIte, Int.reduceLT, Int.reduceLE, Int.reduceEq, Int.reduceNe]
    refine s_ld0 (hc1 _ (Mem.le.refl _)) (by simp) (by simp) ?_
    simp only [go_sem, Nat.reduceBEq, Nat.reduceAdd, Nat.reduceSub, Nat.reduceMul, Nat.reduceLeDiff, reduceCtorEq, ↓reduceIte, Int.reduceLT, Int.reduceLE, Int.reduceEq, Int.reduceNe]
    refine ⟨fun he => Up.here ?_, fun hne => ?_⟩
    · subst hR
      refine ⟨rfl, ?_⟩
      have : xs.findIdx? (· == x) = some k := by
        rw [List.findIdx?_eq_some_iff_getElem]
        exact ⟨hk, by simpa using he.symm, fun j hj => by simpa using hno j (by omega) hj⟩
      rw [this]
    · simp (disch := omega) only [wrap_id]
      exact ⟨f - 1, by omega, Up.here ⟨rfl, k + 1, rfl, by omega, fun j hj hjk => by
        by_cases e : j = k
        · subst e; exact fun q => hne q.symm
        · exact hno j hj (by omega)⟩⟩
  · have hk : k = xs.length := by omega
    refine Up.here ?_
    subst hR
    refine ⟨rfl, ?_⟩
    have : xs.findIdx? (· == x) = none := by
      rw [List.findIdx?_eq_none_iff]
      intro y hy
      obtain ⟨j, hj, rfl⟩ := List.getElem_of_mem hy
      simpa using hno j hj (by omega)
    rw [this]
theorem slices_contains {Γr : Ctx} {A : Option Addr} {c : Nat} {xs : List Int} (hx : SlOk (lk Γr) A c xs) (x : Int) :
    Ret Try.prog 32 [.slice A xs.length c, .int .i64 x] Γr [] (fun v Γ => Γ = [] ∧ v = .bool (decide (x ∈ xs))) := by
  generalize hR : (fun (v : Value) (Γ : Ctx) => Γ = [] ∧ _) = R
  refine ret_of_vc tr32 (Nat.le_of_ble_eq_true rfl) ?_
  simp only [S32, S32_0, go_sem, Nat.reduceBEq, Nat.reduceAdd, Nat.reduceSub, Nat.reduceMul, Nat.reduceLeDiff, reduceCtorEq, ↓reduceIte, Int.reduceLT, Int.reduceLE, Int.reduceEq, Int.reduceNe]
  refine CallVC.read (slices_index hx x) ?_
  rintro v Γ' ⟨rfl, rfl⟩
  simp only [go_sem, Nat.reduceBEq, Nat.reduceAdd, Nat.reduceSub, Nat.reduceMul, Nat.reduceLeDiff, reduceCtorEq, ↓reduceIte, Int.reduceLT, Int.reduceLE, Int.reduceEq, Int.reduceNe]
  refine Up.here ?_
  subst hR
  refine ⟨rfl, ?_⟩
  cases hf : xs.findIdx? (· == x) with
  | none =>
    rw [List.findIdx?_eq_none_iff] at hf
    have : x ∉ xs := fun h => by have := hf x h; simp at this
    simp [this]
  | some i =>
    obtain ⟨hi, h1, _⟩ := List.findIdx?_eq_some_iff_getElem.1 hf
    have : x ∈ xs := by
      have : xs[i] = x := by simpa using h1
      rw [← this]
      exact List.getElem_mem _
    simp [this]
/-- a condition of numbers, as a function value -/
def PredOk (Γr : Ctx) (fv : Value) (p : Int → Bool) : Prop := ∃ g c1 c2, fv = .func (.func g) c1 c2 ∧ ∀ (Γ : Ctx) (x : Int), Mem.le (lk Γr) (lk Γ) → Ret Try.prog g (c1.toList ++ [.int .i64 x] ++ c2.toList) Γ [] (fun r Γ => Γ = [] ∧ r = .bool (p x))
theorem slices_indexFunc {Γr : Ctx} {A : Option Addr} {c : Nat} {xs : List Int} (hx : SlOk (lk Γr) A c xs) {fv : Value} {p : Int → Bool} (hp : PredOk Γr fv p) :
    Ret Try.prog 109 [.slice A xs.length c, fv] Γr [] (fun v Γ => Γ = [] ∧ v = .int .i64 (match xs.findIdx? p with | some i => (i : Int) | none => -1)) := by
  generalize hR : (fun (v : Value) (Γ : Ctx) => Γ = [] ∧ _) = R
  refine ret_of_vc tr109 (Nat.le_of_ble_eq_true rfl) ?_
  have h1 := hx.short
  obtain ⟨g, c1, c2, rfl, hp⟩ := hp
  simp only [S109, S109_0, go_sem, Nat.reduceBEq, Nat.reduceAdd, Nat.reduceSub, Nat.reduceMul, Nat.reduceLeDiff, reduceCtorEq, ↓reduceIte, Int.reduceLT, Int.reduceLE, Int.reduceEq, Int.reduceNe]
  refine s_loop (fun f vs Γ => Γ = [] ∧ ∃ k : Nat, vs = [.v true (.int .i64 k)] ∧ k + f = xs.length ∧ ∀ (j : Nat) (hj : j < xs.length), j < k → p xs[j] = false) xs.length (Up.here ⟨rfl, 0, rfl, by omega, by intro j _ h; omega⟩) ?_
  rintro f vs Γ ⟨rfl, k, rfl, hkf, hno⟩
  simp only [S109_1, go_sem, Nat.reduceBEq, Nat.reduceAdd, Nat.reduceSub, Nat.reduceMul, Nat.reduceLeDiff, reduceCtorEq, ↓reduceIte, Int.reduceLT, Int.reduceLE, Int.reduceEq, Int.reduceNe]
  refine ⟨fun hlt => ?_, fun hge => ?_⟩
  · have hk : k < xs.length := by omega
    obtain ⟨b, o, hA, hc1⟩ := hx.int hk
    refine s_idx hA (by omega) (by omega) ?_
    simp only [go_sem, Nat.reduceBEq, Nat.reduceAdd, Nat.reduceSub, Nat.reduceMul, Nat.reduceLeDiff, reduceCtorEq, ↓reduceIte, Int.reduceLT, Int.reduceLE, Int.reduceEq, Int.reduceNe]
    refine s_ld0 (hc1 _ (Mem.le.refl _)) (by simp) (by simp) ?_
    simp only [go_sem, Nat.reduceBEq, Nat.reduceAdd, Nat.reduceSub, Nat.reduceMul, Nat.reduceLeDiff, reduceCtorEq, ↓reduceIte, Int.reduceLT, Int.reduceLE, Int.reduceEq, Int.reduceNe]
    refine CallVC.read (hp _ _ (Mem.le.refl _)) ?_
    rintro v Γ' ⟨rfl, rfl⟩
    simp only [go_sem, Nat.reduceBEq, Nat.reduceAdd, Nat.reduceSub, Nat.reduceMul, Nat.reduceLeDiff, reduceCtorEq, ↓reduceIte, Int.reduceLT, Int.reduceLE, Int.reduceEq, Int.reduceNe]
    refine ⟨fun he => Up.here ?_, fun hne => ?_⟩
    · subst hR
      refine ⟨rfl, ?_⟩
      have : xs.findIdx? p = some k := by
        rw [List.findIdx?_eq_some_iff_getElem]
        exact ⟨hk, he, fun j hj => by simpa using hno j (by omega) hj⟩
      rw [this]
    · simp (disch := omega) only [wrap_id]
      exact ⟨f - 1, by omega, Up.here ⟨rfl, k + 1, rfl, by omega, fun j hj hjk => by
        by_cases e : j = k
        · subst e; exact hne
        · exact hno j hj (by omega)⟩⟩
  · have hk : k = xs.length := by omega
    refine Up.here ?_
    subst hR
    refine ⟨rfl, ?_⟩
    have : xs.findIdx? p = none := by
      rw [List.findIdx?_eq_none_iff]
      intro y hy
      obtain ⟨j, hj, rfl⟩ := List.getElem_of_mem hy
      exact hno j hj (by omega)
    rw [this]
theorem slices_containsFunc {Γr : Ctx} {A : Option Addr} {c : Nat} {xs : List Int} (hx : SlOk (lk Γr) A c xs) {fv : Value} {p : Int → Bool} (hp : PredOk Γr fv p) :
    Ret Try.prog 35 [.slice A xs.length c, fv] Γr [] (fun v Γ => Γ = [] ∧ v = .bool (xs.any p)) := by
  generalize hR : (fun (v : Value) (Γ : Ctx) => Γ = [] ∧ _) = R
  refine ret_of_vc tr35 (Nat.le_of_ble_eq_true rfl) ?_
  simp only [S35, S35_0, go_sem, Nat.reduceBEq, Nat.reduceAdd, Nat.reduceSub, Nat.reduceMul, Nat.reduceLeDiff, reduceCtorEq, ↓reduceIte, Int.reduceLT, Int.reduceLE, Int.reduceEq, Int.reduceNe]
  refine CallVC.read (slices_indexFunc hx hp) ?_
  rintro v Γ' ⟨rfl, rfl⟩
  simp only [go_sem, Nat.reduceBEq, Nat.reduceAdd, Nat.reduceSub, Nat.reduceMul, Nat.reduceLeDiff, reduceCtorEq, ↓reduceIte, Int.reduceLT, Int.reduceLE, Int.reduceEq, Int.reduceNe]
  refine Up.here ?_
  subst hR
  refine ⟨rfl, ?_⟩
  cases hf : xs.findIdx? p with
  | none =>
    rw [List.findIdx?_eq_none_iff] at hf
    have : xs.any p = false := by simpa using hf
    simp [this]
  | some i =>
    obtain ⟨hi, h1, _⟩ := List.findIdx?_eq_some_iff_getElem.1 hf
    have : xs.any p = true := List.any_eq_true.2 ⟨_, List.getElem_mem hi, h1⟩
    simp [this]
end Go.Proofs.Ytniobbepliknmaa.V
