/- Texts put together, in the order in which they build; each says what it proves; no condition. -/
import Derived.Test.YtniobbepliknmaaM3
import Derived.Maps.Keyed
import Derived.DeepKeys5
import Derived.MapFrom
import Derived.Test.YtniobbepliknmaaM2
import Derived.Test.YtniobbepliknmaaProg
/- Maps: a map as the list of its keys and values; no condition. -/
namespace Go.Proofs.Ytniobbepliknmaa.V
open Go
set_option linter.unusedVariables false
set_option linter.unusedSimpArgs false
set_option linter.unusedSectionVars false
attribute [local go_sem] e_seq e_region e_quiet e_join e_loop e_cond e_block e_exit e_ret e_skip e_fin e_kseq e_snrm e_sret e_sex e_bnrm e_bret e_bex e_rnrm e_rret e_res e_condC e_nil e_g e_mv g_mv e_pick g_pick pickC_eq e_ibin g_ibin ibinC_eq e_sbin g_sbin e_beq g_beq beqC_eq e_nilq g_nilq nilqC_sl nilqC_pt nilqC_mp e_un g_un unC_not unC_neg e_conv g_conv convC_eq e_fld g_fld fldC_ref fldC_ptr e_nilCheck g_nilCheck nilCheckC_ref nilCheckC_ptr nilCheckC_fun e_field g_field fieldC_eq e_len g_len lenC_sl lenC_str e_extract g_extract extractC_eq e_mkFunc e_build g_build e_idiv g_idiv idivC_eq e_ishift g_ishift ishiftC_eq e_idx g_idx e_idxA g_idxA e_load g_load loadC_ref loadC_ptr loadB_eq e_slc g_slc e_box boxC_loc boxC_esc e_alloc allocC_loc allocC_esc e_buildS e_store storeC_ref storeC_ptr storeB_eq e_append e_appz e_mk mkC_eq e_call callC_eq e_fn g_fn fnC_eq fnV_min' fnV_max' fnV_rune' e_q g_q e_a e_n g_call g_box g_alloc g_buildS g_store g_append g_mk g_a g_n g_dead e_dead e_callK e_drawn e_tree e_finJ e_tk e_tfin e_tno e_nbt_q e_nbt_qn e_nbt_a e_nbt_an e_nbt_fin e_early_nil e_early_t e_early_f e_nob_nil e_nob_none e_nob_some isBox_dead isBox_v isBox_ref e_dnil e_dk e_ek e_finB vcOps_vc1 e_dcons e_tq e_ekt e_tearly e_talt e_dearly look_nil look_c proj_nil proj_c looks_nil looks_c zip_nil zip_c val_tmp val_const val_func slv_v slv_box slv_ref slot_tmp slot_const slot_func slotL_v slotL_box slotL_ref put_some put_none updBox_c boxSet_box gd_eq slotVals_nil slotVals_c slotVals_b boxV_box boxOn_box slotsOn_nil slotsOn_c slotsOn_b resV_one resV_two vals_nil vals_c allOn_nil allOn_c partOn_nil partOn_c partVals_nil partVals_c fits_nil fits_c fillL_nil fillL_c mkv_one mkv_agg cellsV_agg cellsV_int cellsV_bool cellsV_slice cellsV_string cellsV_pointer cellsV_func cellsV_nilf cellsV_map one'_nil one'_c oc_int oc_bool oc_slice oc_string oc_pointer oc_func oc_nilf oc_map setC_eq iv_add iv_sub iv_mul iv_eql iv_neq iv_lss iv_leq iv_gtr iv_geq iok_add iok_sub iok_mul iok_eql iok_neq iok_lss iok_leq iok_gtr iok_geq pickV_bool args0_nil args0_c bnd_none bnd_some imp_bt imp_bf imp_ebt imp_ebf imp_eb1 imp_np imp_pp beq_tt beq_tf beq_ft beq_ff cond_or cond_and e_round e_meet Int.le_refl Int.toNat_zero decide_true decide_false Bool.or_false Bool.false_or Bool.true_or Bool.or_true Bool.and_false Bool.false_and Bool.bne_false Bool.bne_true beq_iff_eq Int.cast_ofNat_Int not_false_eq_true not_true_eq_false false_and and_false false_implies true_implies true_and and_true Bool.true_and Bool.and_true Bool.not_true Bool.not_false forall_const implies_true List.take_zero List.drop_zero List.take_succ_cons List.drop_succ_cons List.take_nil List.drop_nil List.length_cons List.length_nil List.nil_append List.append_nil List.cons_append Int.toNat_natCast decide_eq_true_eq decide_eq_false_iff_not cond_true cond_false and_self List.getElem?_cons_zero List.getElem?_cons_succ List.set_cons_zero List.set_cons_succ Option.some.injEq exists_eq_left' Nat.zero_add Nat.add_zero Nat.mul_one imp_self true_or or_true or_false false_or Bool.or_eq_true Bool.or_eq_false_iff Bool.and_eq_true Bool.and_eq_false_iff Bool.not_eq_true' Bool.not_eq_false'

theorem zero_run {P : Program} {e : TypeId} {z : Value} (h : (P.info? e).bind (·.zero) = some z) (w : World) : (zeroValue e).run P w = .ok z w := by
  obtain ⟨i, hi, hz⟩ := Option.bind_eq_some_iff.1 h
  simp [zeroValue, typeInfo, hi, hz]
/-- what a map's operations need of the keys -/
structure KT (P : Program) (k : TypeId) {α : Type} (eK : α → Value) (good : α → Prop) : Prop where
  inj : ∀ a b, eK a = eK b → a = b
  check : ∀ (w : World) (em : Bool) a, good a → (Instr.checkKey em 10000 k (eK a)).run P w = .ok () w
  find : ∀ (w : World) a, good a → ∀ es : List MapEntry, (∀ e ∈ es, ∃ b, good b ∧ e.key = eK b) →
    ((Instr.findKey k (eK a) es).run P w = .ok none w ∧ ∀ e ∈ es, e.key ≠ eK a) ∨ ∃ j e, (Instr.findKey k (eK a) es).run P w = .ok (some (j, e.val)) w ∧ es[j]? = some e ∧ e.key = eK a
  stays : ∀ (w : World) a, good a → (Instr.keyThatStays (eK a) (eK a)).run P w = .ok (eK a) w
theorem KT.of {P : Program} {k : TypeId} {α : Type} {eK : α → Value} {good : α → Prop} (K : Maps.Keyed P k) (hi : ∀ a b, eK a = eK b → a = b) (h : ∀ a, good a → ∃ l, keyOf P k (eK a) = some l) : KT P k eK good where
  inj := hi
  check w em a ha := by obtain ⟨l, hl⟩ := h a ha; exact K.check w em hl
  find w a ha es he := by
    obtain ⟨l, hl⟩ := h a ha
    exact K.find w hl es fun e hm => by obtain ⟨b, hb, q⟩ := he e hm; rw [q]; exact h b hb
  stays w a ha := by obtain ⟨l, hl⟩ := h a ha; exact K.stays w hl

section
variable {α β : Type}
/-- the map b lies in memory -/
structure MapL (L : Mem) (b : Nat) (eK : α → Value) (eV : β → Value) (good : α → Prop) (l : List (α × β)) : Prop where
  nodup : (l.map (·.1)).Nodup
  good : ∀ p ∈ l, good p.1
  at' : ∃ es clock, L b (.map es clock) ∧ es.toList.map (fun e => (e.key, e.val)) = l.map (fun p => (eK p.1, eV p.2))
theorem MapL.mono {L L' : Mem} {b : Nat} {eK : α → Value} {eV : β → Value} {good : α → Prop} {l : List (α × β)} (h : MapL L b eK eV good l) (hl : Mem.le L L') : MapL L' b eK eV good l :=
  ⟨h.nodup, h.good, let ⟨es, c, q1, q2⟩ := h.at'; ⟨es, c, hl _ _ q1, q2⟩⟩
/-- the map b is a heap's -/
def MapM (g : PH) (b : Nat) (eK : α → Value) (eV : β → Value) (good : α → Prop) (l : List (α × β)) : Prop := MapL (fun b o => g b = some o) b eK eV good l
theorem MapM.l {g : PH} {Γ : Ctx} {b : Nat} {eK : α → Value} {eV : β → Value} {good : α → Prop} {l : List (α × β)} (h : MapM g b eK eV good l) (hg : g ∈ Γ) : MapL (lk Γ) b eK eV good l :=
  MapL.mono h fun _ _ q => ⟨g, hg, q⟩
theorem MapM.mono {g g' : PH} {b : Nat} {eK : α → Value} {eV : β → Value} {good : α → Prop} {l : List (α × β)} (h : MapM g b eK eV good l) (hg : Mem.le (lk [g]) (lk [g'])) : MapM g' b eK eV good l :=
  MapL.mono h fun b o q => by obtain ⟨x, hx, q'⟩ := hg b o ⟨g, by simp, q⟩; simp at hx; subst hx; exact q'
theorem MapM.new (b : Nat) (eK : α → Value) (eV : β → Value) (good : α → Prop) : MapM (one b (.map #[] 0)) b eK eV good ([] : List (α × β)) := ⟨by simp, by simp, #[], 0, one_self _ _, rfl⟩

theorem entry_of {es : Array MapEntry} {eK : α → Value} {eV : β → Value} {l : List (α × β)} (h : es.toList.map (fun e => (e.key, e.val)) = l.map (fun p => (eK p.1, eV p.2))) {j : Nat} {e : MapEntry} (hj : es.toList[j]? = some e) : ∃ p, l[j]? = some p ∧ e.key = eK p.1 ∧ e.val = eV p.2 := by
  have h1 := congrArg (·[j]?) h
  simp only [List.getElem?_map, hj, Option.map_some] at h1
  cases hp : l[j]? with
  | none => rw [hp] at h1; simp at h1
  | some p => rw [hp] at h1; simp at h1; exact ⟨p, rfl, h1.1, h1.2⟩
theorem entry_good {L : Mem} {b : Nat} {eK : α → Value} {eV : β → Value} {good : α → Prop} {l : List (α × β)} (hm : MapL L b eK eV good l) {es : Array MapEntry} (h : es.toList.map (fun e => (e.key, e.val)) = l.map (fun p => (eK p.1, eV p.2))) : ∀ e ∈ es.toList, ∃ b, good b ∧ e.key = eK b := by
  intro e he
  obtain ⟨j, hj⟩ := List.getElem?_of_mem he
  obtain ⟨p, hp, hk, _⟩ := entry_of h hj
  exact ⟨p.1, hm.good p (List.mem_of_getElem? hp), hk⟩
theorem entry_none {es : Array MapEntry} {eK : α → Value} {eV : β → Value} {l : List (α × β)} (h : es.toList.map (fun e => (e.key, e.val)) = l.map (fun p => (eK p.1, eV p.2))) {a : α} (hn : ∀ e ∈ es.toList, e.key ≠ eK a) : a ∉ l.map (·.1) := by
  intro ha
  obtain ⟨p, hp, rfl⟩ := List.mem_map.1 ha
  have : (eK p.1, eV p.2) ∈ es.toList.map (fun e => (e.key, e.val)) := by rw [h]; exact List.mem_map.2 ⟨p, hp, rfl⟩
  obtain ⟨e, he, q⟩ := List.mem_map.1 this
  simp at q
  exact hn e he q.1

end
section
variable {α β : Type} [DecidableEq α]
def mget (l : List (α × β)) (a : α) : Option β := (l.find? (fun p => decide (p.1 = a))).map (·.2)
def mput (l : List (α × β)) (a : α) (v : β) : List (α × β) := if a ∈ l.map (·.1) then l.map (fun p => if p.1 = a then (a, v) else p) else l ++ [(a, v)]
theorem mget_none {l : List (α × β)} {a : α} : mget l a = none ↔ a ∉ l.map (·.1) := by
  simp only [mget, Option.map_eq_none_iff, List.find?_eq_none, decide_eq_true_eq, List.mem_map, not_exists, not_and]
theorem mget_at {l : List (α × β)} (hn : (l.map (·.1)).Nodup) {j : Nat} {p : α × β} (h : l[j]? = some p) : mget l p.1 = some p.2 := by
  obtain ⟨hj, rfl⟩ := List.getElem?_eq_some_iff.1 h
  have : l.find? (fun q => decide (q.1 = l[j].1)) = some l[j] := by
    rw [List.find?_eq_some_iff_getElem]
    refine ⟨by simp, j, hj, rfl, fun i hi => ?_⟩
    simp only [Bool.not_eq_eq_eq_not, Bool.not_true, decide_eq_false_iff_not]
    intro e
    have := (List.pairwise_iff_getElem.1 hn) i j (by simp; omega) (by simpa using hj) hi
    simp at this
    exact this e
  rw [mget, this]
  rfl
theorem mput_keys (l : List (α × β)) (a : α) (v : β) : (mput l a v).map (·.1) = if a ∈ l.map (·.1) then l.map (·.1) else l.map (·.1) ++ [a] := by
  unfold mput
  split
  · rw [List.map_map]
    apply List.map_congr_left
    intro p _
    simp only [Function.comp]
    split
    · rename_i h; exact h.symm
    · rfl
  · simp
theorem mput_nodup {l : List (α × β)} (hn : (l.map (·.1)).Nodup) (a : α) (v : β) : ((mput l a v).map (·.1)).Nodup := by
  rw [mput_keys]
  split
  · exact hn
  · rw [List.nodup_append]
    refine ⟨hn, by simp, ?_⟩
    rintro x hx y hy rfl
    simp at hy
    subst hy
    contradiction
theorem mget_put {l : List (α × β)} (a x : α) (v : β) : mget (mput l a v) x = if x = a then some v else mget l x := by
  unfold mput mget
  split
  · rename_i hin
    rw [List.find?_map]
    by_cases e : x = a
    · subst e
      rw [if_pos rfl]
      have : (fun p : α × β => decide (p.1 = x)) ∘ (fun p : α × β => if p.1 = x then (x, v) else p) = fun p => decide (p.1 = x) := by
        funext p; simp only [Function.comp]; split <;> simp_all
      rw [this]
      cases hf : l.find? (fun p => decide (p.1 = x)) with
      | none =>
        rw [List.find?_eq_none] at hf
        simp only [List.mem_map] at hin
        obtain ⟨p, hp, rfl⟩ := hin
        exact absurd (hf p hp) (by simp)
      | some p =>
        have := List.find?_some hf
        simp only [decide_eq_true_eq] at this
        simp [this]
    · rw [if_neg e]
      have : (fun p : α × β => decide (p.1 = x)) ∘ (fun p : α × β => if p.1 = a then (a, v) else p) = fun p => decide (p.1 = x) := by
        funext p
        simp only [Function.comp]
        split
        · rename_i h; simp [h, fun q : a = x => e q.symm]
        · rfl
      rw [this]
      cases hf : l.find? (fun p => decide (p.1 = x)) with
      | none => rfl
      | some p =>
        have := List.find?_some hf
        simp only [decide_eq_true_eq] at this
        simp [this, e]
  · rename_i hin
    rw [List.find?_append]
    by_cases e : x = a
    · subst e
      rw [if_pos rfl]
      have : l.find? (fun p => decide (p.1 = x)) = none := by
        rw [List.find?_eq_none]
        intro p hp h
        simp only [decide_eq_true_eq] at h
        exact hin (List.mem_map.2 ⟨p, hp, h⟩)
      simp [this]
    · rw [if_neg e]
      have e' : ¬ a = x := fun q => e q.symm
      simp [e']

/-- a set -/
def mset {γ : Type} (f : γ → α) (l : List γ) : List (α × Bool) := l.map fun x => (f x, true)
theorem mset_keys {γ : Type} (f : γ → α) (l : List γ) : (mset f l).map (·.1) = l.map f := by simp [mset]
theorem mget_set {γ : Type} (f : γ → α) (l : List γ) (a : α) : mget (mset f l) a = if a ∈ l.map f then some true else none := by
  split
  · rename_i h
    have hne : mget (mset f l) a ≠ none := by rw [Ne, mget_none, mset_keys]; simpa using h
    cases hg : mget (mset f l) a with
    | none => exact absurd hg hne
    | some v =>
      simp only [mget, Option.map_eq_some_iff] at hg
      obtain ⟨p, hp, rfl⟩ := hg
      have := List.mem_of_find?_eq_some hp
      simp only [mset, List.mem_map] at this
      obtain ⟨x, _, rfl⟩ := this
      rfl
  · rename_i h
    rw [mget_none, mset_keys]
    exact h
theorem mput_set {γ : Type} (f : γ → α) (l : List γ) (x : γ) (h : f x ∉ l.map f) : mput (mset f l) (f x) true = mset f (l ++ [x]) := by
  rw [mput, mset_keys, if_neg h]
  simp [mset]
theorem qr_look {P : Program} {Γ : Ctx} {t kt et : TypeId} {eK : α → Value} {eV : β → Value} {good : α → Prop} {z : Value} (T : KT P kt eK good) (ht : P.underlying t = some (.map kt et)) (hz : ∀ w, (zeroValue et).run P w = .ok z w) (ok : Bool)
    {b : Nat} {l : List (α × β)} (hm : MapL (lk Γ) b eK eV good l) {a : α} (ha : good a) :
    QR P (.look t ok) [.map (some b), eK a] Γ (if ok then .tuple #[(mget l a).elim z eV, .bool (mget l a).isSome] else (mget l a).elim z eV) := by
  intro w hw
  obtain ⟨es, clock, hb, he⟩ := hm.at'
  obtain ⟨h, hh, hb⟩ := hb
  have hb := hw h hh b _ hb
  simp only [qsem]
  rcases T.find w a ha es.toList (entry_good hm he) with ⟨h1, h2⟩ | ⟨j, e, h1, h2, h3⟩
  · have hg : mget l a = none := mget_none.2 (entry_none he h2)
    cases ok <;> simp [Instr.lookup, run_underlying ht, MapKept.run_getObj_map hb, T.check w _ a ha, h1, hz w, hg, Result.andThen]
  · obtain ⟨p, hp, hk, hv⟩ := entry_of he h2
    have : p.1 = a := T.inj _ _ (by rw [← hk, h3])
    subst this
    have hg := mget_at hm.nodup hp
    cases ok <;> simp [Instr.lookup, run_underlying ht, MapKept.run_getObj_map hb, T.check w _ _ ha, h1, hg, hv, Result.andThen]

section
variable {P : Program} {Γr : Ctx} {d : Option Nat} {r : List SOper} {φ : Fr} {Γ : Ctx} {K : Fr → Ctx → Prop}
theorem s_mkmap {t : TypeId} (hk : ∀ b, vcOps P Γr r (put φ d (.v true (.map (some b)))) (one b (.map #[] 0) :: Γ) K) : nC P Γr d r φ Γ K (.mkmap t) [] := by
  intro w _
  exact ⟨_, _, by simp only [qsem, List.head?_nil]; rfl, hk _⟩
theorem entry_put {es : Array MapEntry} {eK : α → Value} {eV : β → Value} {l : List (α × β)} {i : Nat} {a : α} {v : β} (hn : (l.map (·.1)).Nodup) (h : es.toList.map (fun e => (e.key, e.val)) = l.map (fun p => (eK p.1, eV p.2))) {p : α × β} (hp : l[i]? = some p) (ha : p.1 = a) :
    (es.modify i fun e => { e with key := eK a, val := eV v }).toList.map (fun e => (e.key, e.val)) = (mput l a v).map (fun p => (eK p.1, eV p.2)) := by
  have hin : a ∈ l.map (·.1) := List.mem_map.2 ⟨p, List.mem_of_getElem? hp, ha⟩
  rw [mput, if_pos hin]
  apply List.ext_getElem?
  intro j
  have hj := congrArg (·[j]?) h
  simp only [List.getElem?_map, Array.getElem?_toList] at hj ⊢
  rw [Array.getElem?_modify]
  obtain ⟨hi, rfl⟩ := List.getElem?_eq_some_iff.1 hp
  by_cases e : i = j
  · subst e
    rw [hp] at hj ⊢
    simp only [if_true, Option.map_some, ha] at hj ⊢
    cases hq : es[i]? with
    | none => rw [hq] at hj; simp at hj
    | some q => simp
  · rw [if_neg e, hj]
    cases hq : l[j]? with
    | none => rfl
    | some q =>
      obtain ⟨hj', rfl⟩ := List.getElem?_eq_some_iff.1 hq
      have : ¬ l[j].1 = a := fun q => by
        rw [← q] at ha
        have hpw := List.pairwise_iff_getElem.1 hn
        rcases Nat.lt_or_ge i j with q1 | q1
        · have := hpw i j (by simpa using hi) (by simpa using hj') q1
          simp at this
          exact this ha
        · have := hpw j i (by simpa using hj') (by simpa using hi) (by omega)
          simp at this
          exact this ha.symm
      simp [this]
theorem s_upd {t kt et : TypeId} {eK : α → Value} {eV : β → Value} {good : α → Prop} (T : KT P kt eK good) (ht : P.underlying t = some (.map kt et)) {g : PH} {ix b : Nat} {l : List (α × β)} (hg : Γ[ix]? = some g) (hm : MapM g b eK eV good l) {a : α} (v : β) (ha : good a)
    (hk : ∀ g', MapM g' b eK eV good (mput l a v) → (∀ k, k ≠ b → g' k = g k) → vcOps P Γr r (put φ d (.v true undef)) (Γ.set ix g') K) : aC P Γr d r φ Γ K (.upd t) [.map (some b), eK a, eV v] := by
  intro w hw
  obtain ⟨es, clock, hb0, he⟩ := hm.at'
  have hgΓ : g ∈ Γ := List.mem_of_getElem? hg
  have hb := hw g (by simp [hgΓ]) b _ hb0
  have hgood : ∀ p ∈ mput l a v, good p.1 := fun p hp => by
    have : p.1 ∈ (mput l a v).map (·.1) := List.mem_map.2 ⟨p, hp, rfl⟩
    rw [mput_keys] at this
    split at this
    · obtain ⟨q, hq, e⟩ := List.mem_map.1 this
      rw [← e]; exact hm.good q hq
    · simp only [List.mem_append, List.mem_singleton] at this
      rcases this with q | q
      · obtain ⟨q, hq, e⟩ := List.mem_map.1 q
        rw [← e]; exact hm.good q hq
      · rw [q]; exact ha
  have hc := T.check w false a ha
  rcases T.find w a ha es.toList (entry_good hm he) with ⟨h1, h2⟩ | ⟨j, e, h1, h2, h3⟩
  · have hno := entry_none he h2
    refine ⟨undef, setBlk w b (.map (es.push { key := eK a, val := eV v, born := clock }) (clock + 1)), 0, ?_, .inr ⟨ix, g, b, _, _, hg, hb0, rfl, hk _ ⟨mput_nodup hm.nodup a v, hgood, _, _, upd_self _ _ _, ?_⟩ fun k hne => upd_other hne⟩⟩
    · simp [qsem, Instr.mapUpdate, run_underlying ht, MapKept.run_getObj_map hb, hc, h1, MapKept.run_setObj_map _ hb, Result.andThen, setBlk]
    · rw [mput, if_neg hno, Array.toList_push, List.map_append, he, List.map_append]
      rfl
  · obtain ⟨p, hp, hk', hv⟩ := entry_of he h2
    have hpa : p.1 = a := T.inj _ _ (by rw [← hk', h3])
    have hj : es[j]? = some e := by simpa using h2
    refine ⟨undef, setBlk w b (.map (es.modify j fun e => { e with key := eK a, val := eV v }) clock), 0, ?_, .inr ⟨ix, g, b, _, _, hg, hb0, rfl, hk _ ⟨mput_nodup hm.nodup a v, hgood, _, _, upd_self _ _ _, entry_put hm.nodup he hp hpa⟩ fun k hne => upd_other hne⟩⟩
    simp [qsem, Instr.mapUpdate, run_underlying ht, MapKept.run_getObj_map hb, hc, h1, hj, h3, T.stays w a ha, MapKept.run_setObj_map _ hb, Result.andThen, setBlk]
end
end
end Go.Proofs.Ytniobbepliknmaa.V
/- Grids: rows of rows that are made and changed; no condition. -/
namespace Go.Proofs.Ytniobbepliknmaa.V
open Go
set_option linter.unusedVariables false
set_option linter.unusedSimpArgs false
set_option linter.unusedSectionVars false
attribute [local go_sem] e_seq e_region e_quiet e_join e_loop e_cond e_block e_exit e_ret e_skip e_fin e_kseq e_snrm e_sret e_sex e_bnrm e_bret e_bex e_rnrm e_rret e_res e_condC e_nil e_g e_mv g_mv e_pick g_pick pickC_eq e_ibin g_ibin ibinC_eq e_sbin g_sbin e_beq g_beq beqC_eq e_nilq g_nilq nilqC_sl nilqC_pt nilqC_mp e_un g_un unC_not unC_neg e_conv g_conv convC_eq e_fld g_fld fldC_ref fldC_ptr e_nilCheck g_nilCheck nilCheckC_ref nilCheckC_ptr nilCheckC_fun e_field g_field fieldC_eq e_len g_len lenC_sl lenC_str e_extract g_extract extractC_eq e_mkFunc e_build g_build e_idiv g_idiv idivC_eq e_ishift g_ishift ishiftC_eq e_idx g_idx e_idxA g_idxA e_load g_load loadC_ref loadC_ptr loadB_eq e_slc g_slc e_box boxC_loc boxC_esc e_alloc allocC_loc allocC_esc e_buildS e_store storeC_ref storeC_ptr storeB_eq e_append e_appz e_mk mkC_eq e_call callC_eq e_fn g_fn fnC_eq fnV_min' fnV_max' fnV_rune' e_q g_q e_a e_n g_call g_box g_alloc g_buildS g_store g_append g_mk g_a g_n g_dead e_dead e_callK e_drawn e_tree e_finJ e_tk e_tfin e_tno e_nbt_q e_nbt_qn e_nbt_a e_nbt_an e_nbt_fin e_early_nil e_early_t e_early_f e_nob_nil e_nob_none e_nob_some isBox_dead isBox_v isBox_ref e_dnil e_dk e_ek e_finB vcOps_vc1 e_dcons e_tq e_ekt e_tearly e_talt e_dearly look_nil look_c proj_nil proj_c looks_nil looks_c zip_nil zip_c val_tmp val_const val_func slv_v slv_box slv_ref slot_tmp slot_const slot_func slotL_v slotL_box slotL_ref put_some put_none updBox_c boxSet_box gd_eq slotVals_nil slotVals_c slotVals_b boxV_box boxOn_box slotsOn_nil slotsOn_c slotsOn_b resV_one resV_two vals_nil vals_c allOn_nil allOn_c partOn_nil partOn_c partVals_nil partVals_c fits_nil fits_c fillL_nil fillL_c mkv_one mkv_agg cellsV_agg cellsV_int cellsV_bool cellsV_slice cellsV_string cellsV_pointer cellsV_func cellsV_nilf cellsV_map one'_nil one'_c oc_int oc_bool oc_slice oc_string oc_pointer oc_func oc_nilf oc_map setC_eq iv_add iv_sub iv_mul iv_eql iv_neq iv_lss iv_leq iv_gtr iv_geq iok_add iok_sub iok_mul iok_eql iok_neq iok_lss iok_leq iok_gtr iok_geq pickV_bool args0_nil args0_c bnd_none bnd_some imp_bt imp_bf imp_ebt imp_ebf imp_eb1 imp_np imp_pp beq_tt beq_tf beq_ft beq_ff cond_or cond_and e_round e_meet Int.le_refl Int.toNat_zero decide_true decide_false Bool.or_false Bool.false_or Bool.true_or Bool.or_true Bool.and_false Bool.false_and Bool.bne_false Bool.bne_true beq_iff_eq Int.cast_ofNat_Int not_false_eq_true not_true_eq_false false_and and_false false_implies true_implies true_and and_true Bool.true_and Bool.and_true Bool.not_true Bool.not_false forall_const implies_true List.take_zero List.drop_zero List.take_succ_cons List.drop_succ_cons List.take_nil List.drop_nil List.length_cons List.length_nil List.nil_append List.append_nil List.cons_append Int.toNat_natCast decide_eq_true_eq decide_eq_false_iff_not cond_true cond_false and_self List.getElem?_cons_zero List.getElem?_cons_succ List.set_cons_zero List.set_cons_succ Option.some.injEq exists_eq_left' Nat.zero_add Nat.add_zero Nat.mul_one imp_self true_or or_true or_false false_or Bool.or_eq_true Bool.or_eq_false_iff Bool.and_eq_true Bool.and_eq_false_iff Bool.not_eq_true' Bool.not_eq_false'

section
variable {α : Type} [Sc α]
def gcell (p : Option Nat × List α) : Value := match p.1 with
  | none => .slice none 0 0
  | some k => .slice (some ⟨k, 0, none⟩) p.2.length p.2.length
structure GridB (g : PH) (b : Nat) (T e : TypeId) (ps : List (Option Nat × List α)) : Prop where
  out : g b = some (.cells (ps.map gcell).toArray T (0, 0))
  row : ∀ (i k : Nat) xs, ps[i]? = some (some k, xs) → k ≠ b ∧ g k = some (.cells (xs.map Sc.enc).toArray e (0, 0)) ∧ xs.length ≤ 1000000
  nil : ∀ (i : Nat) xs, ps[i]? = some (none, xs) → xs = []
  apart : ∀ (i j k : Nat) xs ys, ps[i]? = some (some k, xs) → ps[j]? = some (some k, ys) → i = j
  short : ps.length ≤ 1000000
/-- the rows of a grid whose outer array is b -/
def Grid (g : PH) (b : Nat) (T e : TypeId) (rows : List (List α)) : Prop := ∃ ps, GridB g b T e ps ∧ rows = ps.map (·.2)

theorem Grid.made (b : Nat) (T e : TypeId) {m : Nat} (hm : m ≤ 1000000) : Grid (one b (.cells (zerosL [Value.slice none 0 0] m).toArray T)) b T e (List.replicate m ([] : List α)) := by
  refine ⟨List.replicate m (none, []), ⟨?_, ?_, ?_, ?_, by simpa using hm⟩, by simp⟩
  · rw [one_self]
    congr 3
    induction m with
    | zero => rfl
    | succ m ih => simp [zerosL, List.replicate_succ, gcell, ih (by omega)]
  · intro i k xs h
    rw [List.getElem?_replicate] at h
    split at h <;> simp at h
  · intro i xs h
    rw [List.getElem?_replicate] at h
    split at h <;> simp at h
    exact h
  · intro i j k xs ys h
    rw [List.getElem?_replicate] at h
    split at h <;> simp at h
theorem Grid.mono {g g' : PH} {b : Nat} {T e : TypeId} {rows : List (List α)} (h : Grid g b T e rows) (hl : Mem.le (lk [g]) (lk [g'])) : Grid g' b T e rows := by
  obtain ⟨ps, h, rfl⟩ := h
  have up : ∀ k o, g k = some o → g' k = some o := fun k o q => lk_one.1 (hl _ _ (lk_one.2 q))
  exact ⟨ps, ⟨up _ _ h.out, fun i k xs q => let ⟨a, b, c⟩ := h.row i k xs q; ⟨a, up _ _ b, c⟩, h.nil, h.apart, h.short⟩, rfl⟩
theorem Grid.short {g : PH} {b : Nat} {T e : TypeId} {rows : List (List α)} (h : Grid g b T e rows) : rows.length ≤ 1000000 := by
  obtain ⟨ps, h, rfl⟩ := h
  simpa using h.short
theorem Grid.slok {g : PH} {b : Nat} {T e : TypeId} {rows : List (List α)} {L : Mem} (h : Grid g b T e rows) (hL : Mem.le (lk [g]) L) : SlOk L (some ⟨b, 0, none⟩) rows.length rows := by
  have hs := h.short
  obtain ⟨ps, h, rfl⟩ := h
  refine ⟨Nat.le_refl _, by unfold maxLen; omega, by omega, .inr ⟨b, 0, _, T, _, rfl, hL _ _ (lk_one.2 h.out), fun i x hi => ?_⟩⟩
  rw [List.getElem?_map] at hi
  cases hp : ps[i]? with
  | none => rw [hp] at hi; simp at hi
  | some p =>
    obtain ⟨o, xs⟩ := p
    rw [hp] at hi
    simp only [Option.map_some, Option.some.injEq] at hi
    subst hi
    refine ⟨[gcell (o, xs)], ?_, fun j hj => ?_⟩
    · cases o with
      | none =>
        have := h.nil i xs hp
        subst this
        exact ⟨none, 0, rfl, SlOk.nil⟩
      | some k =>
        obtain ⟨h1, h2, h3⟩ := h.row i k xs hp
        exact ⟨_, _, rfl, Arr.slok (g := g) (b := k) (T := e) h2 hL (Nat.le_refl _) (by unfold maxLen; show xs.length ≤ _; omega) (by omega)⟩
    · have : j = 0 := by simp [Rep.sz] at hj; exact hj
      subst this
      simp [Rep.sz, hp]
/-- rows[i] is to be changed -/
theorem Grid.at' {g : PH} {b : Nat} {T e : TypeId} {rows : List (List α)} (h : Grid g b T e rows) {i : Nat} (hi : i < rows.length) (hpos : 0 < rows[i].length) :
    ∃ k, (∀ Γ : Ctx, g ∈ Γ → Cells Γ b i [.slice (some ⟨k, 0, none⟩) rows[i].length rows[i].length]) ∧ Arr g k e rows[i] ∧
      ∀ g' (xs : List α), Arr g' k e xs → xs.length = rows[i].length → (∀ x, x ≠ k → g' x = g x) → Grid g' b T e (rows.set i xs) := by
  obtain ⟨ps, h, rfl⟩ := h
  have hi' : i < ps.length := by simpa using hi
  obtain ⟨o, xs, hp⟩ : ∃ o xs, ps[i]? = some (o, xs) := ⟨_, _, List.getElem?_eq_getElem hi'⟩
  have hx : (ps.map (·.2))[i] = xs := by
    have := (List.getElem?_eq_some_iff.1 hp).2
    simp [this]
  simp only [hx] at hpos ⊢
  cases o with
  | none => have := h.nil i xs hp; subst this; simp at hpos
  | some k =>
    obtain ⟨h1, h2, h3⟩ := h.row i k xs hp
    refine ⟨k, fun Γ hg => ⟨g, hg, _, T, _, h.out, fun j hj => ?_⟩, h2, fun g' ys hA hl ho => ?_⟩
    · have : j = 0 := by simp at hj; exact hj
      subst this
      simp [hp, gcell]
    · have hset : ∀ j, (ps.set i (some k, ys))[j]? = if i = j then some (some k, ys) else ps[j]? := fun j => by
        rw [List.getElem?_set]
        by_cases e : i = j
        · subst e; simp [hi']
        · simp [e]
      refine ⟨ps.set i (some k, ys), ⟨?_, ?_, ?_, ?_, by simpa using h.short⟩, by simp [List.map_set]⟩
      · rw [ho b (fun q => h1 q.symm), h.out]
        congr 3
        apply List.ext_getElem?
        intro j
        rw [List.getElem?_map, List.getElem?_map, hset]
        by_cases e : i = j
        · subst e
          simp [hp, gcell, hl]
        · simp [e]
      · intro j m zs hj
        rw [hset] at hj
        by_cases e : i = j
        · subst e
          simp only [if_true, Option.some.injEq, Prod.mk.injEq] at hj
          obtain ⟨rfl, rfl⟩ := hj
          exact ⟨h1, hA, by omega⟩
        · rw [if_neg e] at hj
          obtain ⟨q1, q2, q3⟩ := h.row j m zs hj
          have hm : m ≠ k := fun q => by subst q; exact e (h.apart i j m xs zs hp hj)
          exact ⟨q1, by rw [ho m hm]; exact q2, q3⟩
      · intro j zs hj
        rw [hset] at hj
        by_cases e : i = j
        · subst e; simp at hj
        · rw [if_neg e] at hj; exact h.nil j zs hj
      · intro j j' m zs zs' hj hj'
        rw [hset] at hj hj'
        by_cases e : i = j
        · subst e
          simp only [if_true, Option.some.injEq, Prod.mk.injEq] at hj
          obtain ⟨rfl, rfl⟩ := hj
          by_cases e' : i = j'
          · exact e'
          · rw [if_neg e'] at hj'
            exact h.apart i j' k xs zs' hp hj'
        · rw [if_neg e] at hj
          by_cases e' : i = j'
          · subst e'
            simp only [if_true, Option.some.injEq, Prod.mk.injEq] at hj'
            obtain ⟨rfl, rfl⟩ := hj'
            exact h.apart j i k zs xs hj hp
          · rw [if_neg e'] at hj'
            exact h.apart j j' m zs zs' hj hj'
/-- a new row, whose array lies elsewhere, is put in -/
theorem Grid.put {g : PH} {b : Nat} {T e : TypeId} {rows : List (List α)} (h : Grid g b T e rows) {i : Nat} (hi : i < rows.length) (k : Nat) (xs : List α) (hl : xs.length ≤ 1000000) {cs : List Value} (hc : g b = some (.cells cs.toArray T (0, 0)))
    {x2 G : PH} (hA : Arr x2 k e xs) (hd : Disj x2 (upd g b (.cells (setC cs i 1 (.slice (some ⟨k, 0, none⟩) xs.length xs.length)).toArray T))) (hG : Mem.le (lk [x2, upd g b (.cells (setC cs i 1 (.slice (some ⟨k, 0, none⟩) xs.length xs.length)).toArray T)]) (lk [G])) :
    Grid G b T e (rows.set i xs) := by
  obtain ⟨ps, h, rfl⟩ := h
  have hi' : i < ps.length := by simpa using hi
  have hcs : cs = ps.map gcell := by
    have := h.out
    rw [hc] at this
    simpa using this
  subst hcs
  have up1 : ∀ j o, x2 j = some o → G j = some o := fun j o q => lk_one.1 (hG _ _ ⟨x2, by simp, q⟩)
  have up2 : ∀ j o, upd g b (.cells (setC (ps.map gcell) i 1 (.slice (some ⟨k, 0, none⟩) xs.length xs.length)).toArray T) j = some o → G j = some o := fun j o q => lk_one.1 (hG _ _ ⟨_, by simp, q⟩)
  have hkg : ∀ j, j = b ∨ g j ≠ none → j ≠ k := fun j hj q => by
    subst q
    rcases hd j with q | q
    · rw [Arr] at hA; rw [hA] at q; cases q
    · rcases hj with rfl | hj
      · rw [upd_self] at q; cases q
      · by_cases e : j = b
        · subst e; rw [upd_self] at q; cases q
        · rw [upd_other e] at q; exact hj q
  have hset : ∀ j, (ps.set i (some k, xs))[j]? = if i = j then some (some k, xs) else ps[j]? := fun j => by
    rw [List.getElem?_set]
    by_cases e : i = j
    · subst e; simp [hi']
    · simp [e]
  refine ⟨ps.set i (some k, xs), ⟨?_, ?_, ?_, ?_, by simpa using h.short⟩, by simp [List.map_set]⟩
  · rw [up2 b _ (upd_self _ _ _)]
    congr 3
    rw [List.map_set, List.set_eq_take_append_cons_drop, if_pos (by simpa using hi')]
    simp [setC, cellsV, gcell, Value.cells]
  · intro j m zs hj
    rw [hset] at hj
    by_cases e : i = j
    · subst e
      simp only [if_true, Option.some.injEq, Prod.mk.injEq] at hj
      obtain ⟨rfl, rfl⟩ := hj
      exact ⟨fun q => hkg b (.inl rfl) q.symm, up1 _ _ hA, hl⟩
    · rw [if_neg e] at hj
      obtain ⟨q1, q2, q3⟩ := h.row j m zs hj
      exact ⟨q1, up2 _ _ (by rw [upd_other q1]; exact q2), q3⟩
  · intro j zs hj
    rw [hset] at hj
    by_cases e : i = j
    · subst e; simp at hj
    · rw [if_neg e] at hj; exact h.nil j zs hj
  · intro j j' m zs zs' hj hj'
    rw [hset] at hj hj'
    by_cases e : i = j
    · subst e
      simp only [if_true, Option.some.injEq, Prod.mk.injEq] at hj
      obtain ⟨rfl, rfl⟩ := hj
      by_cases e' : i = j'
      · exact e'
      · rw [if_neg e'] at hj'
        have := (h.row j' k zs' hj').2.1
        exact absurd rfl (hkg k (.inr (by rw [this]; simp)))
    · rw [if_neg e] at hj
      by_cases e' : i = j'
      · subst e'
        simp only [if_true, Option.some.injEq, Prod.mk.injEq] at hj'
        obtain ⟨rfl, rfl⟩ := hj'
        have := (h.row j k zs hj).2.1
        exact absurd rfl (hkg k (.inr (by rw [this]; simp)))
      · rw [if_neg e'] at hj'
        exact h.apart j j' m zs zs' hj hj'
end
section
variable {P : Program} {Γr : Ctx} {d : Option Nat} {r : List SOper} {φ : Fr} {Γ : Ctx} {K : Fr → Ctx → Prop}
/-- rows[i] = make(..) -/
theorem s_storeG {α : Type} [Sc α] {g : PH} {b i ix k n : Nat} {T e : TypeId} {rows : List (List α)} (xs : List α) (hn : n = xs.length) (hg : Γ[ix]? = some g) (h : Grid g b T e rows) (hi : i < rows.length) (hl : xs.length ≤ 1000000)
    (hk : ∀ g', (∀ x2 G, Arr x2 k e xs → Disj x2 g' → Mem.le (lk [x2, g']) (lk [G]) → Grid G b T e (rows.set i xs)) → vcOps P Γr r φ (Γ.set ix g') K) : storeP P Γr r φ Γ K 1 b i (.slice (some ⟨k, 0, none⟩) n n) := by
  subst hn
  obtain ⟨ps, hB, hr⟩ := id h
  refine ⟨ix, g, _, T, hg, hB.out, by subst hr; simp at hi ⊢; omega, ?_⟩
  exact hk _ fun x2 G hA hd hG => h.put hi k xs hl hB.out hA hd hG
end
end Go.Proofs.Ytniobbepliknmaa.V
/- Keys that are structs or arrays of whole numbers; no condition. -/
namespace Go.Proofs.Ytniobbepliknmaa.V
open Go
set_option linter.unusedVariables false
set_option linter.unusedSimpArgs false

/-- a struct of n fields of type e, or an array of n -/
def intsKey (P : Program) (k e n : Nat) : Bool := match P.underlying k with
  | some (.struct fs) => fs.toList.map (fun f => (f.offset, f.type)) == (List.range n).map (fun i => (i, e)) && fs.all (·.name != "_")
  | some (.array m t) => m == n && t == e
  | _ => false
def intsV (xs : List Int) : Value := .agg (xs.map (Value.int .i64)).toArray
theorem intsV_inj (a b : List Int) (h : intsV a = intsV b) : a = b := by
  simp only [intsV, Value.agg.injEq] at h
  have := congrArg Array.toList h
  simp only [List.toList_toArray] at this
  exact (List.map_inj_right (fun x y q => by simpa using q)).1 this
def okInts (n : Nat) (xs : List Int) : Prop := xs.length = n ∧ ∀ x ∈ xs, (Lit.int .i64 x).wf = true
theorem key_ints {P : Program} {k e n : Nat} (hk : intsKey P k e n = true) (hc : P.cellsOf k = n) (he : P.underlying e = some (.int .i64)) (hce : P.cellsOf e = 1) (hkt : P.keyType k = true) (hsz : 1 ≤ P.types.size) {xs : List Int} (hx : okInts n xs) : ∃ l, keyOf P k (intsV xs) = some l := by
  obtain ⟨m, hm⟩ : ∃ m, P.types.size = m + 1 := ⟨P.types.size - 1, by omega⟩
  obtain ⟨hl, hw⟩ := hx
  have hone : ∀ i, i < n → ∃ y, P.keyLits (m + 1) e (((xs.map (Value.int .i64)).drop i).take (P.cellsOf e)) = some y := by
    intro i hi
    have : ((xs.map (Value.int .i64)).drop i).take (P.cellsOf e) = [.int .i64 xs[i]] := by
      rw [hce, List.drop_eq_getElem_cons (by simpa using (by omega : i < xs.length))]
      simp
    rw [this]
    unfold Program.keyLits
    simp only [he]
    exact ⟨_, if_pos ⟨trivial, hw _ (List.getElem_mem _)⟩⟩
  unfold keyOf
  unfold intsKey at hk
  split at hk
  · rename_i fs hu
    simp only [Bool.and_eq_true, beq_iff_eq] at hk
    simp only [hu]
    rw [if_pos (by simp [hkt, intsV, Value.formed, hu, hc, hl]), hm]
    unfold Program.keyLits
    simp only [hu, intsV, Value.cells, List.toList_toArray]
    rw [if_pos ⟨by simp [hc, hl], hk.2⟩]
    have : ∃ r, (fs.toList.mapM fun f => P.keyLits (m + 1) f.type (((xs.map (Value.int .i64)).drop f.offset).take (P.cellsOf f.type))) = some r := by
      refine MapFrom.mapM_some fun f hf => ?_
      have : (f.offset, f.type) ∈ (List.range n).map (fun i => (i, e)) := by rw [← hk.1]; exact List.mem_map.2 ⟨f, hf, rfl⟩
      obtain ⟨i, hi, h⟩ := List.mem_map.1 this
      simp only [Prod.mk.injEq] at h
      rw [← h.1, ← h.2]
      exact hone i (by simpa using hi)
    obtain ⟨r, hr⟩ := this
    rw [hr]
    exact ⟨_, rfl⟩
  · rename_i m' t hu
    simp only [Bool.and_eq_true, beq_iff_eq] at hk
    obtain ⟨rfl, rfl⟩ := hk
    simp only [hu]
    rw [if_pos (by simp [hkt, intsV, Value.formed, hu, hc, hl]), hm]
    unfold Program.keyLits
    simp only [hu, intsV, Value.cells, List.toList_toArray]
    rw [if_pos (by simp [hc, hl])]
    have : ∃ r, ((List.range m').mapM fun i => P.keyLits (m + 1) t (((xs.map (Value.int .i64)).drop (i * P.cellsOf t)).take (P.cellsOf t))) = some r := by
      refine MapFrom.mapM_some fun i hi => ?_
      rw [show i * P.cellsOf t = i by rw [hce, Nat.mul_one]]
      exact hone i (by simpa using hi)
    obtain ⟨r, hr⟩ := this
    rw [hr]
    exact ⟨_, rfl⟩
  · cases hk
theorem kt_ints {P : Program} {k e n : Nat} (hl : laidOutB P = true) (hs : P.types.size + 2 ≤ 10000) (hr : k < P.types.size) (hk : intsKey P k e n = true) (hc : P.cellsOf k = n) (he : P.underlying e = some (.int .i64)) (hce : P.cellsOf e = 1) (hkt : P.keyType k = true)
    (hw : (match P.underlying k with | some (.array _ _) | some (.struct _) => true | _ => false) = true) : KT P k intsV (okInts n) :=
  KT.of (Maps.Keyed.of_law (deep_law_gate hl hs hr hkt hw)) intsV_inj fun xs hx => key_ints hk hc he hce hkt (by omega) hx
theorem wf64 {x : Int} (h0 : -9223372036854775808 ≤ x) (h1 : x ≤ 9223372036854775807) : (Lit.int .i64 x).wf = true := by
  have h2 : IntKind.i64.min = -9223372036854775808 := by decide
  have h3 : IntKind.i64.max = 9223372036854775807 := by decide
  simp only [Lit.wf, h2, h3, Bool.and_eq_true, decide_eq_true_eq]
  exact ⟨h0, h1⟩
/-- xs[k:] of a row -/
theorem Bld.drop {α : Type} [Rep α] {g : PH} {L : Mem} {e : TypeId} {A : Option Addr} {n c : Nat} {xs : List α} (h : Bld g L e (.slice A n c) xs) {k : Nat} (hk : k ≤ xs.length) :
    Bld g L e (.slice (if c = k then A else A.map (·.add (k * Rep.sz α))) (n - k) (c - k)) (xs.drop k) := by
  obtain ⟨cs, ⟨h1, h2⟩, h3⟩ := h
  have hkl : k * Rep.sz α ≤ xs.length * Rep.sz α := Nat.mul_le_mul_right _ hk
  have hl : (xs.drop k).length = xs.length - k := by simp
  have hmul : xs.length * Rep.sz α - k * Rep.sz α = (xs.length - k) * Rep.sz α := (Nat.sub_mul _ _ _).symm
  refine ⟨cs.drop (k * Rep.sz α), ⟨by rw [List.length_drop, h1, hl, hmul], ?_⟩, fun i x hi => ?_⟩
  · rcases h2 with ⟨q0, A', q⟩ | ⟨b, o, cap, cur, q1, q2, q3, q4, q5, q6⟩
    · left
      simp only [Value.slice.injEq] at q
      obtain ⟨rfl, rfl, rfl⟩ := q
      have : k = 0 := by omega
      subst this
      exact ⟨by rw [hl]; omega, A, by simp⟩
    · simp only [Value.slice.injEq] at q1
      obtain ⟨rfl, rfl, rfl⟩ := q1
      by_cases e1 : cap + 1 = k
      · left
        refine ⟨by rw [hl]; omega, some ⟨b, o, none⟩, ?_⟩
        rw [if_pos e1, show xs.length - k = 0 by omega, show cap + 1 - k = 0 by omega]
      · right
        rw [if_neg e1, hl]
        have hm2 : (cap - k + 1) * Rep.sz α + k * Rep.sz α = (cap + 1) * Rep.sz α := by rw [← Nat.add_mul]; congr 1; omega
        refine ⟨b, o + k * Rep.sz α, cap - k, cur, by rw [Option.map_some, add_mk, show cap + 1 - k = cap - k + 1 by omega], by omega, by omega, q4, by omega, ?_⟩
        rw [← q6, List.drop_take, List.drop_drop, hmul]
  · rw [List.getElem?_drop] at hi
    obtain ⟨c', r1, r2⟩ := h3 (k + i) x hi
    refine ⟨c', r1, fun j hj => ?_⟩
    rw [← r2 j hj, List.getElem?_drop]
    congr 1
    rw [Nat.add_mul]
    omega
end Go.Proofs.Ytniobbepliknmaa.V
/- The text of parlance/dfa.Check as a statement (slots: 0 d, 1 d, 3 cols, 4 _, 5 row, 6 s, 7 row, 8 _, 9 t); no condition. -/
namespace Go.Proofs.Ytniobbepliknmaa.V
open Go
def S115_1 : Stmt :=
  Stmt.seq
  (Stmt.region [SOper.mk (some 38) none (SOp.ibin BinOp.lss (Operand.tmp 37) (Operand.tmp 36))] [1, 3, 35, 36, 37, 38])
  (Stmt.seq (Stmt.cond (Operand.tmp 38) Stmt.skip (Stmt.exit 0))
    (Stmt.seq
      (Stmt.block 1
        (Stmt.seq
          (Stmt.region
            [SOper.mk (some 39) none (SOp.idx 1 (Operand.tmp 35) (Operand.tmp 37)),
              SOper.mk (some 40) none (SOp.load false 1 (Operand.tmp 39)),
              SOper.mk (some 5) none (SOp.mv (Operand.tmp 40))]
            [1, 3, 5, 35, 36, 37])
          (Stmt.seq
            (Stmt.region
              [SOper.mk (some 41) none (SOp.mv (Operand.tmp 5)),
                SOper.mk (some 42) none (SOp.len false (Operand.tmp 41)),
                SOper.mk (some 43) none (SOp.mv (Operand.tmp 3)),
                SOper.mk (some 44) none (SOp.ibin BinOp.neq (Operand.tmp 42) (Operand.tmp 43)),
                SOper.mk (some 45) none (SOp.mv (Operand.tmp 44)),
                SOper.mk (some 46) (some (45, false)) (SOp.mv (Operand.tmp 3)),
                SOper.mk (some 47) (some (45, false))
                  (SOp.ibin BinOp.eql (Operand.tmp 46) (Operand.const (Value.int IntKind.i64 0))),
                SOper.mk (some 48) none (SOp.pick (Operand.tmp 45) (Operand.const (Value.bool true)) (Operand.tmp 47))]
              [1, 3, 35, 36, 37, 48])
            (Stmt.cond (Operand.tmp 48)
              (Stmt.seq (Stmt.region [SOper.mk (some 2) none (SOp.mv (Operand.const (Value.int IntKind.i64 3)))] [2])
                Stmt.ret)
              Stmt.skip))))
      (Stmt.region
        [SOper.mk (some 49) none (SOp.ibin BinOp.add (Operand.tmp 37) (Operand.const (Value.int IntKind.i64 1))),
          SOper.mk (some 37) none (SOp.mv (Operand.tmp 49))]
        [1, 3, 35, 36, 37])))
def S115_2 : Stmt :=
  Stmt.seq
  (Stmt.region [SOper.mk (some 78) none (SOp.ibin BinOp.lss (Operand.tmp 77) (Operand.tmp 76))]
    [1, 62, 63, 64, 75, 76, 77, 78])
  (Stmt.seq (Stmt.cond (Operand.tmp 78) Stmt.skip (Stmt.exit 4))
    (Stmt.seq
      (Stmt.block 5
        (Stmt.seq
          (Stmt.region
            [SOper.mk (some 79) none (SOp.idx 1 (Operand.tmp 75) (Operand.tmp 77)),
              SOper.mk (some 80) none (SOp.load false 1 (Operand.tmp 79)),
              SOper.mk (some 9) none (SOp.mv (Operand.tmp 80))]
            [1, 9, 62, 63, 64, 75, 76, 77])
          (Stmt.seq
            (Stmt.region
              [SOper.mk (some 81) none (SOp.mv (Operand.tmp 9)),
                SOper.mk (some 82) none
                  (SOp.ibin BinOp.lss (Operand.tmp 81) (Operand.const (Value.int IntKind.i64 (-1)))),
                SOper.mk (some 83) none (SOp.mv (Operand.tmp 82)),
                SOper.mk (some 84) (some (83, false)) (SOp.mv (Operand.tmp 9)),
                SOper.mk (some 85) (some (83, false)) (SOp.fld 2 (Operand.tmp 1)),
                SOper.mk (some 86) (some (83, false)) (SOp.load false 1 (Operand.tmp 85)),
                SOper.mk (some 87) (some (83, false)) (SOp.len false (Operand.tmp 86)),
                SOper.mk (some 88) (some (83, false)) (SOp.ibin BinOp.geq (Operand.tmp 84) (Operand.tmp 87)),
                SOper.mk (some 89) none (SOp.pick (Operand.tmp 83) (Operand.const (Value.bool true)) (Operand.tmp 88))]
              [1, 62, 63, 64, 75, 76, 77, 89])
            (Stmt.cond (Operand.tmp 89)
              (Stmt.seq (Stmt.region [SOper.mk (some 2) none (SOp.mv (Operand.const (Value.int IntKind.i64 1)))] [2])
                Stmt.ret)
              Stmt.skip))))
      (Stmt.region
        [SOper.mk (some 90) none (SOp.ibin BinOp.add (Operand.tmp 77) (Operand.const (Value.int IntKind.i64 1))),
          SOper.mk (some 77) none (SOp.mv (Operand.tmp 90))]
        [1, 62, 63, 64, 75, 76, 77])))
def S115_3 : Stmt :=
  Stmt.seq
  (Stmt.region [SOper.mk (some 65) none (SOp.ibin BinOp.lss (Operand.tmp 64) (Operand.tmp 63))] [1, 62, 63, 64, 65])
  (Stmt.seq (Stmt.cond (Operand.tmp 65) Stmt.skip (Stmt.exit 2))
    (Stmt.seq
      (Stmt.block 3
        (Stmt.seq
          (Stmt.region
            [SOper.mk (some 66) none (SOp.mv (Operand.tmp 64)),
              SOper.mk (some 67) none (SOp.idx 1 (Operand.tmp 62) (Operand.tmp 64)),
              SOper.mk (some 68) none (SOp.load false 1 (Operand.tmp 67)),
              SOper.mk (some 6) none (SOp.mv (Operand.tmp 66)), SOper.mk (some 7) none (SOp.mv (Operand.tmp 68))]
            [1, 6, 7, 62, 63, 64])
          (Stmt.seq
            (Stmt.seq
              (Stmt.region
                [SOper.mk (some 69) none (SOp.fld 1 (Operand.tmp 1)),
                  SOper.mk (some 70) none (SOp.load false 1 (Operand.tmp 69)),
                  SOper.mk (some 71) none (SOp.mv (Operand.tmp 6)),
                  SOper.mk (some 72) none (SOp.idx 1 (Operand.tmp 70) (Operand.tmp 71)),
                  SOper.mk (some 73) none (SOp.load false 1 (Operand.tmp 72)),
                  SOper.mk (some 74) none
                    (SOp.ibin BinOp.lss (Operand.tmp 73) (Operand.const (Value.int IntKind.i64 (-1))))]
                [1, 7, 62, 63, 64, 74])
              (Stmt.cond (Operand.tmp 74)
                (Stmt.seq (Stmt.region [SOper.mk (some 2) none (SOp.mv (Operand.const (Value.int IntKind.i64 1)))] [2])
                  Stmt.ret)
                Stmt.skip))
            (Stmt.seq
              (Stmt.region
                [SOper.mk (some 75) none (SOp.mv (Operand.tmp 7)),
                  SOper.mk (some 76) none (SOp.len false (Operand.tmp 75)),
                  SOper.mk (some 77) none (SOp.mv (Operand.const (Value.int IntKind.i64 0)))]
                [1, 62, 63, 64, 75, 76, 77])
              (Stmt.block 4 (Stmt.loop S115_2 [77] [1, 62, 63, 64, 75, 76]))))))
      (Stmt.region
        [SOper.mk (some 91) none (SOp.ibin BinOp.add (Operand.tmp 64) (Operand.const (Value.int IntKind.i64 1))),
          SOper.mk (some 64) none (SOp.mv (Operand.tmp 91))]
        [1, 62, 63, 64])))
def S115_0 : Stmt :=
  Stmt.seq
  (Stmt.region
    [SOper.mk (some 1) none (SOp.box true 67 (Operand.tmp 0)),
      SOper.mk (some 2) none (SOp.mv (Operand.const (Value.int IntKind.i64 0)))]
    [1])
  (Stmt.seq
    (Stmt.seq
      (Stmt.region
        [SOper.mk (some 10) none (SOp.fld 2 (Operand.tmp 1)),
          SOper.mk (some 11) none (SOp.load false 1 (Operand.tmp 10)),
          SOper.mk (some 12) none (SOp.len false (Operand.tmp 11)),
          SOper.mk (some 13) none (SOp.ibin BinOp.gtr (Operand.tmp 12) (Operand.const (Value.int IntKind.i64 200)))]
        [1, 13])
      (Stmt.cond (Operand.tmp 13)
        (Stmt.seq (Stmt.region [SOper.mk (some 2) none (SOp.mv (Operand.const (Value.int IntKind.i64 2)))] [2])
          Stmt.ret)
        Stmt.skip))
    (Stmt.seq
      (Stmt.seq
        (Stmt.region
          [SOper.mk (some 14) none (SOp.fld 2 (Operand.tmp 1)),
            SOper.mk (some 15) none (SOp.load false 1 (Operand.tmp 14)),
            SOper.mk (some 16) none (SOp.len false (Operand.tmp 15)),
            SOper.mk (some 17) none (SOp.ibin BinOp.eql (Operand.tmp 16) (Operand.const (Value.int IntKind.i64 0))),
            SOper.mk (some 18) none (SOp.mv (Operand.tmp 17)),
            SOper.mk (some 19) (some (18, false)) (SOp.fld 1 (Operand.tmp 1)),
            SOper.mk (some 20) (some (18, false)) (SOp.load false 1 (Operand.tmp 19)),
            SOper.mk (some 21) (some (18, false)) (SOp.len false (Operand.tmp 20)),
            SOper.mk (some 22) (some (18, false)) (SOp.fld 2 (Operand.tmp 1)),
            SOper.mk (some 23) (some (18, false)) (SOp.load false 1 (Operand.tmp 22)),
            SOper.mk (some 24) (some (18, false)) (SOp.len false (Operand.tmp 23)),
            SOper.mk (some 25) (some (18, false)) (SOp.ibin BinOp.neq (Operand.tmp 21) (Operand.tmp 24)),
            SOper.mk (some 26) none (SOp.pick (Operand.tmp 18) (Operand.const (Value.bool true)) (Operand.tmp 25))]
          [1, 26])
        (Stmt.cond (Operand.tmp 26)
          (Stmt.seq (Stmt.region [SOper.mk (some 2) none (SOp.mv (Operand.const (Value.int IntKind.i64 3)))] [2])
            Stmt.ret)
          Stmt.skip))
      (Stmt.seq
        (Stmt.region
          [SOper.mk (some 27) none (SOp.fld 2 (Operand.tmp 1)),
            SOper.mk (some 28) none (SOp.load false 1 (Operand.tmp 27)),
            SOper.mk (some 29) none (SOp.idx 1 (Operand.tmp 28) (Operand.const (Value.int IntKind.i64 0))),
            SOper.mk (some 30) none (SOp.load false 1 (Operand.tmp 29)),
            SOper.mk (some 31) none (SOp.len false (Operand.tmp 30)), SOper.mk (some 3) none (SOp.mv (Operand.tmp 31))]
          [1, 3])
        (Stmt.seq
          (Stmt.seq
            (Stmt.region
              [SOper.mk (some 32) none (SOp.mv (Operand.tmp 3)),
                SOper.mk (some 33) none
                  (SOp.ibin BinOp.gtr (Operand.tmp 32) (Operand.const (Value.int IntKind.i64 16)))]
              [1, 3, 33])
            (Stmt.cond (Operand.tmp 33)
              (Stmt.seq (Stmt.region [SOper.mk (some 2) none (SOp.mv (Operand.const (Value.int IntKind.i64 2)))] [2])
                Stmt.ret)
              Stmt.skip))
          (Stmt.seq
            (Stmt.seq
              (Stmt.region
                [SOper.mk (some 34) none (SOp.fld 2 (Operand.tmp 1)),
                  SOper.mk (some 35) none (SOp.load false 1 (Operand.tmp 34)),
                  SOper.mk (some 36) none (SOp.len false (Operand.tmp 35)),
                  SOper.mk (some 37) none (SOp.mv (Operand.const (Value.int IntKind.i64 0)))]
                [1, 3, 35, 36, 37])
              (Stmt.block 0 (Stmt.loop S115_1 [37] [1, 3, 35, 36])))
            (Stmt.seq
              (Stmt.seq
                (Stmt.region
                  [SOper.mk (some 50) none (SOp.fld 0 (Operand.tmp 1)),
                    SOper.mk (some 51) none (SOp.load false 1 (Operand.tmp 50)),
                    SOper.mk (some 52) none
                      (SOp.ibin BinOp.lss (Operand.tmp 51) (Operand.const (Value.int IntKind.i64 0))),
                    SOper.mk (some 53) none (SOp.mv (Operand.tmp 52)),
                    SOper.mk (some 54) (some (53, false)) (SOp.fld 0 (Operand.tmp 1)),
                    SOper.mk (some 55) (some (53, false)) (SOp.load false 1 (Operand.tmp 54)),
                    SOper.mk (some 56) (some (53, false)) (SOp.fld 2 (Operand.tmp 1)),
                    SOper.mk (some 57) (some (53, false)) (SOp.load false 1 (Operand.tmp 56)),
                    SOper.mk (some 58) (some (53, false)) (SOp.len false (Operand.tmp 57)),
                    SOper.mk (some 59) (some (53, false)) (SOp.ibin BinOp.geq (Operand.tmp 55) (Operand.tmp 58)),
                    SOper.mk (some 60) none
                      (SOp.pick (Operand.tmp 53) (Operand.const (Value.bool true)) (Operand.tmp 59))]
                  [1, 60])
                (Stmt.cond (Operand.tmp 60)
                  (Stmt.seq
                    (Stmt.region [SOper.mk (some 2) none (SOp.mv (Operand.const (Value.int IntKind.i64 1)))] [2])
                    Stmt.ret)
                  Stmt.skip))
              (Stmt.seq
                (Stmt.seq
                  (Stmt.region
                    [SOper.mk (some 61) none (SOp.fld 2 (Operand.tmp 1)),
                      SOper.mk (some 62) none (SOp.load false 1 (Operand.tmp 61)),
                      SOper.mk (some 63) none (SOp.len false (Operand.tmp 62)),
                      SOper.mk (some 64) none (SOp.mv (Operand.const (Value.int IntKind.i64 0)))]
                    [1, 62, 63, 64])
                  (Stmt.block 2 (Stmt.loop S115_3 [64] [1, 62, 63])))
                (Stmt.seq (Stmt.region [SOper.mk (some 2) none (SOp.mv (Operand.const (Value.int IntKind.i64 0)))] [2])
                  Stmt.ret))))))))
def S115 : FnS := ⟨92, [(2, none)], S115_0⟩
theorem tr115 : trFn Try.prog 115 [1] [[1], [1, 13], [2], [1, 26], [2], [1, 3], [1, 3, 33], [2], [1, 3, 35, 36, 37], [37], [1, 3, 35, 36], [1, 3, 35, 36, 37, 38], [1, 3, 5, 35, 36, 37], [1, 3, 35, 36, 37, 48], [2], [1, 3, 35, 36, 37], [1, 60], [2], [1, 62, 63, 64], [64], [1, 62, 63], [1, 62, 63, 64, 65], [1, 6, 7, 62, 63, 64], [1, 7, 62, 63, 64, 74], [2], [1, 62, 63, 64, 75, 76, 77], [77], [1, 62, 63, 64, 75, 76], [1, 62, 63, 64, 75, 76, 77, 78], [1, 9, 62, 63, 64, 75, 76, 77], [1, 62, 63, 64, 75, 76, 77, 89], [2], [1, 62, 63, 64, 75, 76, 77], [1, 62, 63, 64], [2]] = some S115 := by kernel_rfl
end Go.Proofs.Ytniobbepliknmaa.V
/- The text of parlance/dfa.Run as a statement (slots: 0 d, 1 word, 2 d, 3 word, 6 e, 7 _, 8 c, 9 s, 10 _, 11 c); no condition. -/
namespace Go.Proofs.Ytniobbepliknmaa.V
open Go
def S116_1 : Stmt :=
  Stmt.seq
  (Stmt.region [SOper.mk (some 23) none (SOp.ibin BinOp.lss (Operand.tmp 22) (Operand.tmp 21))] [1, 2, 20, 21, 22, 23])
  (Stmt.seq (Stmt.cond (Operand.tmp 23) Stmt.skip (Stmt.exit 0))
    (Stmt.seq
      (Stmt.block 1
        (Stmt.seq
          (Stmt.region
            [SOper.mk (some 24) none (SOp.idx 1 (Operand.tmp 20) (Operand.tmp 22)),
              SOper.mk (some 25) none (SOp.load false 1 (Operand.tmp 24)),
              SOper.mk (some 8) none (SOp.mv (Operand.tmp 25))]
            [1, 2, 8, 20, 21, 22])
          (Stmt.seq
            (Stmt.region
              [SOper.mk (some 26) none (SOp.mv (Operand.tmp 8)),
                SOper.mk (some 27) none (SOp.ibin BinOp.lss (Operand.tmp 26) (Operand.const (Value.int IntKind.i64 0))),
                SOper.mk (some 28) none (SOp.mv (Operand.tmp 27)),
                SOper.mk (some 29) (some (28, false)) (SOp.mv (Operand.tmp 8)),
                SOper.mk (some 30) (some (28, false)) (SOp.fld 2 (Operand.tmp 2)),
                SOper.mk (some 31) (some (28, false)) (SOp.load false 1 (Operand.tmp 30)),
                SOper.mk (some 32) (some (28, false))
                  (SOp.idx 1 (Operand.tmp 31) (Operand.const (Value.int IntKind.i64 0))),
                SOper.mk (some 33) (some (28, false)) (SOp.load false 1 (Operand.tmp 32)),
                SOper.mk (some 34) (some (28, false)) (SOp.len false (Operand.tmp 33)),
                SOper.mk (some 35) (some (28, false)) (SOp.ibin BinOp.geq (Operand.tmp 29) (Operand.tmp 34)),
                SOper.mk (some 36) none (SOp.pick (Operand.tmp 28) (Operand.const (Value.bool true)) (Operand.tmp 35))]
              [1, 2, 20, 21, 22, 36])
            (Stmt.cond (Operand.tmp 36)
              (Stmt.seq
                (Stmt.region
                  [SOper.mk (some 4) none (SOp.mv (Operand.const (Value.int IntKind.i64 0))),
                    SOper.mk (some 5) none (SOp.mv (Operand.const (Value.int IntKind.i64 1)))]
                  [4, 5])
                Stmt.ret)
              Stmt.skip))))
      (Stmt.region
        [SOper.mk (some 37) none (SOp.ibin BinOp.add (Operand.tmp 22) (Operand.const (Value.int IntKind.i64 1))),
          SOper.mk (some 22) none (SOp.mv (Operand.tmp 37))]
        [1, 2, 20, 21, 22])))
def S116_2 : Stmt :=
  Stmt.seq
  (Stmt.region [SOper.mk (some 43) none (SOp.ibin BinOp.lss (Operand.tmp 42) (Operand.tmp 41))] [2, 9, 40, 41, 42, 43])
  (Stmt.seq (Stmt.cond (Operand.tmp 43) Stmt.skip (Stmt.exit 2))
    (Stmt.seq
      (Stmt.block 3
        (Stmt.seq
          (Stmt.region
            [SOper.mk (some 44) none (SOp.idx 1 (Operand.tmp 40) (Operand.tmp 42)),
              SOper.mk (some 45) none (SOp.load false 1 (Operand.tmp 44)),
              SOper.mk (some 11) none (SOp.mv (Operand.tmp 45))]
            [2, 9, 11, 40, 41, 42])
          (Stmt.seq
            (Stmt.region
              [SOper.mk (some 46) none (SOp.fld 2 (Operand.tmp 2)),
                SOper.mk (some 47) none (SOp.load false 1 (Operand.tmp 46)),
                SOper.mk (some 48) none (SOp.mv (Operand.tmp 9)),
                SOper.mk (some 49) none (SOp.idx 1 (Operand.tmp 47) (Operand.tmp 48)),
                SOper.mk (some 50) none (SOp.load false 1 (Operand.tmp 49)),
                SOper.mk (some 51) none (SOp.mv (Operand.tmp 11)),
                SOper.mk (some 52) none (SOp.idx 1 (Operand.tmp 50) (Operand.tmp 51)),
                SOper.mk (some 53) none (SOp.load false 1 (Operand.tmp 52)),
                SOper.mk (some 9) none (SOp.mv (Operand.tmp 53))]
              [2, 9, 40, 41, 42])
            (Stmt.seq
              (Stmt.region
                [SOper.mk (some 54) none (SOp.mv (Operand.tmp 9)),
                  SOper.mk (some 55) none
                    (SOp.ibin BinOp.lss (Operand.tmp 54) (Operand.const (Value.int IntKind.i64 0)))]
                [2, 9, 40, 41, 42, 55])
              (Stmt.cond (Operand.tmp 55)
                (Stmt.seq
                  (Stmt.region
                    [SOper.mk (some 4) none (SOp.mv (Operand.const (Value.int IntKind.i64 (-1)))),
                      SOper.mk (some 5) none (SOp.mv (Operand.const (Value.int IntKind.i64 0)))]
                    [4, 5])
                  Stmt.ret)
                Stmt.skip)))))
      (Stmt.region
        [SOper.mk (some 56) none (SOp.ibin BinOp.add (Operand.tmp 42) (Operand.const (Value.int IntKind.i64 1))),
          SOper.mk (some 42) none (SOp.mv (Operand.tmp 56))]
        [2, 9, 40, 41, 42])))
def S116_0 : Stmt :=
  Stmt.seq
  (Stmt.region
    [SOper.mk (some 2) none (SOp.box true 67 (Operand.tmp 0)),
      SOper.mk (some 4) none (SOp.mv (Operand.const (Value.int IntKind.i64 0))),
      SOper.mk (some 5) none (SOp.mv (Operand.const (Value.int IntKind.i64 0)))]
    [1, 2])
  (Stmt.seq
    (Stmt.seq
      (Stmt.region
        [SOper.mk (some 12) none (SOp.load true 3 (Operand.tmp 2)),
          SOper.mk (some 13) none (SOp.call (Operand.func 115) [Operand.tmp 12]),
          SOper.mk (some 6) none (SOp.mv (Operand.tmp 13))]
        [1, 2, 6])
      (Stmt.seq
        (Stmt.region
          [SOper.mk (some 14) none (SOp.mv (Operand.tmp 6)),
            SOper.mk (some 15) none (SOp.ibin BinOp.neq (Operand.tmp 14) (Operand.const (Value.int IntKind.i64 0)))]
          [1, 2, 6, 15])
        (Stmt.cond (Operand.tmp 15)
          (Stmt.seq
            (Stmt.region
              [SOper.mk (some 16) none (SOp.mv (Operand.tmp 6)),
                SOper.mk (some 4) none (SOp.mv (Operand.const (Value.int IntKind.i64 0))),
                SOper.mk (some 5) none (SOp.mv (Operand.tmp 16))]
              [4, 5])
            Stmt.ret)
          Stmt.skip)))
    (Stmt.seq
      (Stmt.seq
        (Stmt.region
          [SOper.mk (some 17) none (SOp.mv (Operand.tmp 1)), SOper.mk (some 18) none (SOp.len false (Operand.tmp 17)),
            SOper.mk (some 19) none (SOp.ibin BinOp.gtr (Operand.tmp 18) (Operand.const (Value.int IntKind.i64 4000)))]
          [1, 2, 19])
        (Stmt.cond (Operand.tmp 19)
          (Stmt.seq
            (Stmt.region
              [SOper.mk (some 4) none (SOp.mv (Operand.const (Value.int IntKind.i64 0))),
                SOper.mk (some 5) none (SOp.mv (Operand.const (Value.int IntKind.i64 2)))]
              [4, 5])
            Stmt.ret)
          Stmt.skip))
      (Stmt.seq
        (Stmt.seq
          (Stmt.region
            [SOper.mk (some 20) none (SOp.mv (Operand.tmp 1)), SOper.mk (some 21) none (SOp.len false (Operand.tmp 20)),
              SOper.mk (some 22) none (SOp.mv (Operand.const (Value.int IntKind.i64 0)))]
            [1, 2, 20, 21, 22])
          (Stmt.block 0 (Stmt.loop S116_1 [22] [1, 2, 20, 21])))
        (Stmt.seq
          (Stmt.region
            [SOper.mk (some 38) none (SOp.fld 0 (Operand.tmp 2)),
              SOper.mk (some 39) none (SOp.load false 1 (Operand.tmp 38)),
              SOper.mk (some 9) none (SOp.mv (Operand.tmp 39))]
            [1, 2, 9])
          (Stmt.seq
            (Stmt.seq
              (Stmt.region
                [SOper.mk (some 40) none (SOp.mv (Operand.tmp 1)),
                  SOper.mk (some 41) none (SOp.len false (Operand.tmp 40)),
                  SOper.mk (some 42) none (SOp.mv (Operand.const (Value.int IntKind.i64 0)))]
                [2, 9, 40, 41, 42])
              (Stmt.block 2 (Stmt.loop S116_2 [9, 42] [2, 40, 41])))
            (Stmt.seq
              (Stmt.region
                [SOper.mk (some 57) none (SOp.fld 1 (Operand.tmp 2)),
                  SOper.mk (some 58) none (SOp.load false 1 (Operand.tmp 57)),
                  SOper.mk (some 59) none (SOp.mv (Operand.tmp 9)),
                  SOper.mk (some 60) none (SOp.idx 1 (Operand.tmp 58) (Operand.tmp 59)),
                  SOper.mk (some 61) none (SOp.load false 1 (Operand.tmp 60)),
                  SOper.mk (some 4) none (SOp.mv (Operand.tmp 61)),
                  SOper.mk (some 5) none (SOp.mv (Operand.const (Value.int IntKind.i64 0)))]
                [4, 5])
              Stmt.ret))))))
def S116 : FnS := ⟨62, [(4, none), (5, none)], S116_0⟩
theorem tr116 : trFn Try.prog 116 [2] [[1, 2], [1, 2, 6], [1, 2, 6, 15], [4, 5], [1, 2, 19], [4, 5], [1, 2, 20, 21, 22], [22], [1, 2, 20, 21], [1, 2, 20, 21, 22, 23], [1, 2, 8, 20, 21, 22], [1, 2, 20, 21, 22, 36], [4, 5], [1, 2, 20, 21, 22], [1, 2, 9], [2, 9, 40, 41, 42], [9, 42], [2, 40, 41], [2, 9, 40, 41, 42, 43], [2, 9, 11, 40, 41, 42], [2, 9, 40, 41, 42], [2, 9, 40, 41, 42, 55], [4, 5], [2, 9, 40, 41, 42], [4, 5]] = some S116 := by kernel_rfl
end Go.Proofs.Ytniobbepliknmaa.V
/- The text of parlance/parlref5.Ends as a statement (slots: 0 d, 1 w, 2 d, 3 w, 5 s, 6 _, 7 x); no condition. -/
namespace Go.Proofs.Ytniobbepliknmaa.V
open Go
def S50_1 : Stmt :=
  Stmt.seq
  (Stmt.region [SOper.mk (some 13) none (SOp.ibin BinOp.lss (Operand.tmp 12) (Operand.tmp 11))] [2, 5, 10, 11, 12, 13])
  (Stmt.seq (Stmt.cond (Operand.tmp 13) Stmt.skip (Stmt.exit 0))
    (Stmt.seq
      (Stmt.block 1
        (Stmt.seq
          (Stmt.region
            [SOper.mk (some 14) none (SOp.idx 1 (Operand.tmp 10) (Operand.tmp 12)),
              SOper.mk (some 15) none (SOp.load false 1 (Operand.tmp 14)),
              SOper.mk (some 7) none (SOp.mv (Operand.tmp 15))]
            [2, 5, 7, 10, 11, 12])
          (Stmt.seq
            (Stmt.seq
              (Stmt.region
                [SOper.mk (some 16) none (SOp.mv (Operand.tmp 5)),
                  SOper.mk (some 17) none
                    (SOp.ibin BinOp.lss (Operand.tmp 16) (Operand.const (Value.int IntKind.i64 0)))]
                [2, 5, 7, 10, 11, 12, 17])
              (Stmt.cond (Operand.tmp 17)
                (Stmt.seq (Stmt.region [SOper.mk (some 4) none (SOp.mv (Operand.const (Value.bool false)))] [4])
                  Stmt.ret)
                Stmt.skip))
            (Stmt.region
              [SOper.mk (some 18) none (SOp.fld 2 (Operand.tmp 2)),
                SOper.mk (some 19) none (SOp.load false 1 (Operand.tmp 18)),
                SOper.mk (some 20) none (SOp.mv (Operand.tmp 5)),
                SOper.mk (some 21) none (SOp.idx 1 (Operand.tmp 19) (Operand.tmp 20)),
                SOper.mk (some 22) none (SOp.load false 1 (Operand.tmp 21)),
                SOper.mk (some 23) none (SOp.mv (Operand.tmp 7)),
                SOper.mk (some 24) none (SOp.idx 1 (Operand.tmp 22) (Operand.tmp 23)),
                SOper.mk (some 25) none (SOp.load false 1 (Operand.tmp 24)),
                SOper.mk (some 5) none (SOp.mv (Operand.tmp 25))]
              [2, 5, 10, 11, 12]))))
      (Stmt.region
        [SOper.mk (some 26) none (SOp.ibin BinOp.add (Operand.tmp 12) (Operand.const (Value.int IntKind.i64 1))),
          SOper.mk (some 12) none (SOp.mv (Operand.tmp 26))]
        [2, 5, 10, 11, 12])))
def S50_0 : Stmt :=
  Stmt.seq
  (Stmt.region
    [SOper.mk (some 2) none (SOp.box true 67 (Operand.tmp 0)),
      SOper.mk (some 4) none (SOp.mv (Operand.const (Value.bool false)))]
    [1, 2])
  (Stmt.seq
    (Stmt.region
      [SOper.mk (some 8) none (SOp.fld 0 (Operand.tmp 2)), SOper.mk (some 9) none (SOp.load false 1 (Operand.tmp 8)),
        SOper.mk (some 5) none (SOp.mv (Operand.tmp 9))]
      [1, 2, 5])
    (Stmt.seq
      (Stmt.seq
        (Stmt.region
          [SOper.mk (some 10) none (SOp.mv (Operand.tmp 1)), SOper.mk (some 11) none (SOp.len false (Operand.tmp 10)),
            SOper.mk (some 12) none (SOp.mv (Operand.const (Value.int IntKind.i64 0)))]
          [2, 5, 10, 11, 12])
        (Stmt.block 0 (Stmt.loop S50_1 [5, 12] [2, 10, 11])))
      (Stmt.seq
        (Stmt.region
          [SOper.mk (some 27) none (SOp.mv (Operand.tmp 5)),
            SOper.mk (some 28) none (SOp.ibin BinOp.geq (Operand.tmp 27) (Operand.const (Value.int IntKind.i64 0))),
            SOper.mk (some 29) none (SOp.mv (Operand.tmp 28)),
            SOper.mk (some 30) (some (29, true)) (SOp.fld 1 (Operand.tmp 2)),
            SOper.mk (some 31) (some (29, true)) (SOp.load false 1 (Operand.tmp 30)),
            SOper.mk (some 32) (some (29, true)) (SOp.mv (Operand.tmp 5)),
            SOper.mk (some 33) (some (29, true)) (SOp.idx 1 (Operand.tmp 31) (Operand.tmp 32)),
            SOper.mk (some 34) (some (29, true)) (SOp.load false 1 (Operand.tmp 33)),
            SOper.mk (some 35) (some (29, true))
              (SOp.ibin BinOp.geq (Operand.tmp 34) (Operand.const (Value.int IntKind.i64 0))),
            SOper.mk (some 36) none (SOp.pick (Operand.tmp 29) (Operand.tmp 35) (Operand.const (Value.bool false))),
            SOper.mk (some 4) none (SOp.mv (Operand.tmp 36))]
          [4])
        Stmt.ret)))
def S50 : FnS := ⟨37, [(4, none)], S50_0⟩
theorem tr50 : trFn Try.prog 50 [2] [[1, 2], [1, 2, 5], [2, 5, 10, 11, 12], [5, 12], [2, 10, 11], [2, 5, 10, 11, 12, 13], [2, 5, 7, 10, 11, 12], [2, 5, 7, 10, 11, 12, 17], [4], [2, 5, 10, 11, 12], [2, 5, 10, 11, 12], [4]] = some S50 := by kernel_rfl
end Go.Proofs.Ytniobbepliknmaa.V
/- The text of parlance/parlref5.DfaFault as a statement (slots: 0 d, 1 d, 3 bad, 4 s, 5 row, 6 _, 7 x); no condition. -/
namespace Go.Proofs.Ytniobbepliknmaa.V
open Go
def S47_1 : Stmt :=
  Stmt.seq
  (Stmt.region [SOper.mk (some 78) none (SOp.ibin BinOp.lss (Operand.tmp 77) (Operand.tmp 76))]
    [1, 3, 46, 47, 48, 75, 76, 77, 78])
  (Stmt.seq (Stmt.cond (Operand.tmp 78) Stmt.skip (Stmt.exit 3))
    (Stmt.seq
      (Stmt.block 4
        (Stmt.seq
          (Stmt.region
            [SOper.mk (some 79) none (SOp.idx 1 (Operand.tmp 75) (Operand.tmp 77)),
              SOper.mk (some 80) none (SOp.load false 1 (Operand.tmp 79)),
              SOper.mk (some 7) none (SOp.mv (Operand.tmp 80))]
            [1, 3, 7, 46, 47, 48, 75, 76, 77])
          (Stmt.region
            [SOper.mk (some 81) none (SOp.mv (Operand.tmp 3)), SOper.mk (some 82) none (SOp.mv (Operand.tmp 81)),
              SOper.mk (some 83) (some (82, false)) (SOp.mv (Operand.tmp 7)),
              SOper.mk (some 84) (some (82, false))
                (SOp.ibin BinOp.lss (Operand.tmp 83) (Operand.const (Value.int IntKind.i64 (-1)))),
              SOper.mk (some 85) none (SOp.pick (Operand.tmp 82) (Operand.const (Value.bool true)) (Operand.tmp 84)),
              SOper.mk (some 86) none (SOp.mv (Operand.tmp 85)),
              SOper.mk (some 87) (some (86, false)) (SOp.mv (Operand.tmp 7)),
              SOper.mk (some 88) (some (86, false)) (SOp.fld 2 (Operand.tmp 1)),
              SOper.mk (some 89) (some (86, false)) (SOp.load false 1 (Operand.tmp 88)),
              SOper.mk (some 90) (some (86, false)) (SOp.len false (Operand.tmp 89)),
              SOper.mk (some 91) (some (86, false)) (SOp.ibin BinOp.geq (Operand.tmp 87) (Operand.tmp 90)),
              SOper.mk (some 92) none (SOp.pick (Operand.tmp 86) (Operand.const (Value.bool true)) (Operand.tmp 91)),
              SOper.mk (some 3) none (SOp.mv (Operand.tmp 92))]
            [1, 3, 46, 47, 48, 75, 76, 77])))
      (Stmt.region
        [SOper.mk (some 93) none (SOp.ibin BinOp.add (Operand.tmp 77) (Operand.const (Value.int IntKind.i64 1))),
          SOper.mk (some 77) none (SOp.mv (Operand.tmp 93))]
        [1, 3, 46, 47, 48, 75, 76, 77])))
def S47_2 : Stmt :=
  Stmt.seq
  (Stmt.region [SOper.mk (some 49) none (SOp.ibin BinOp.lss (Operand.tmp 48) (Operand.tmp 47))] [1, 3, 46, 47, 48, 49])
  (Stmt.seq (Stmt.cond (Operand.tmp 49) Stmt.skip (Stmt.exit 1))
    (Stmt.seq
      (Stmt.block 2
        (Stmt.seq
          (Stmt.region
            [SOper.mk (some 50) none (SOp.mv (Operand.tmp 48)),
              SOper.mk (some 51) none (SOp.idx 1 (Operand.tmp 46) (Operand.tmp 48)),
              SOper.mk (some 52) none (SOp.load false 1 (Operand.tmp 51)),
              SOper.mk (some 4) none (SOp.mv (Operand.tmp 50)), SOper.mk (some 5) none (SOp.mv (Operand.tmp 52))]
            [1, 3, 4, 5, 46, 47, 48])
          (Stmt.seq
            (Stmt.seq
              (Stmt.region
                [SOper.mk (some 53) none (SOp.mv (Operand.tmp 5)),
                  SOper.mk (some 54) none (SOp.len false (Operand.tmp 53)),
                  SOper.mk (some 55) none (SOp.fld 2 (Operand.tmp 1)),
                  SOper.mk (some 56) none (SOp.load false 1 (Operand.tmp 55)),
                  SOper.mk (some 57) none (SOp.idx 1 (Operand.tmp 56) (Operand.const (Value.int IntKind.i64 0))),
                  SOper.mk (some 58) none (SOp.load false 1 (Operand.tmp 57)),
                  SOper.mk (some 59) none (SOp.len false (Operand.tmp 58)),
                  SOper.mk (some 60) none (SOp.ibin BinOp.neq (Operand.tmp 54) (Operand.tmp 59)),
                  SOper.mk (some 61) none (SOp.mv (Operand.tmp 60)),
                  SOper.mk (some 62) (some (61, false)) (SOp.mv (Operand.tmp 5)),
                  SOper.mk (some 63) (some (61, false)) (SOp.len false (Operand.tmp 62)),
                  SOper.mk (some 64) (some (61, false))
                    (SOp.ibin BinOp.eql (Operand.tmp 63) (Operand.const (Value.int IntKind.i64 0))),
                  SOper.mk (some 65) none
                    (SOp.pick (Operand.tmp 61) (Operand.const (Value.bool true)) (Operand.tmp 64))]
                [1, 3, 4, 5, 46, 47, 48, 65])
              (Stmt.cond (Operand.tmp 65)
                (Stmt.seq (Stmt.region [SOper.mk (some 2) none (SOp.mv (Operand.const (Value.int IntKind.i64 3)))] [2])
                  Stmt.ret)
                Stmt.skip))
            (Stmt.seq
              (Stmt.region
                [SOper.mk (some 66) none (SOp.mv (Operand.tmp 3)), SOper.mk (some 67) none (SOp.mv (Operand.tmp 66)),
                  SOper.mk (some 68) (some (67, false)) (SOp.fld 1 (Operand.tmp 1)),
                  SOper.mk (some 69) (some (67, false)) (SOp.load false 1 (Operand.tmp 68)),
                  SOper.mk (some 70) (some (67, false)) (SOp.mv (Operand.tmp 4)),
                  SOper.mk (some 71) (some (67, false)) (SOp.idx 1 (Operand.tmp 69) (Operand.tmp 70)),
                  SOper.mk (some 72) (some (67, false)) (SOp.load false 1 (Operand.tmp 71)),
                  SOper.mk (some 73) (some (67, false))
                    (SOp.ibin BinOp.lss (Operand.tmp 72) (Operand.const (Value.int IntKind.i64 (-1)))),
                  SOper.mk (some 74) none
                    (SOp.pick (Operand.tmp 67) (Operand.const (Value.bool true)) (Operand.tmp 73)),
                  SOper.mk (some 3) none (SOp.mv (Operand.tmp 74))]
                [1, 3, 5, 46, 47, 48])
              (Stmt.seq
                (Stmt.region
                  [SOper.mk (some 75) none (SOp.mv (Operand.tmp 5)),
                    SOper.mk (some 76) none (SOp.len false (Operand.tmp 75)),
                    SOper.mk (some 77) none (SOp.mv (Operand.const (Value.int IntKind.i64 0)))]
                  [1, 3, 46, 47, 48, 75, 76, 77])
                (Stmt.block 3 (Stmt.loop S47_1 [3, 77] [1, 46, 47, 48, 75, 76])))))))
      (Stmt.region
        [SOper.mk (some 94) none (SOp.ibin BinOp.add (Operand.tmp 48) (Operand.const (Value.int IntKind.i64 1))),
          SOper.mk (some 48) none (SOp.mv (Operand.tmp 94))]
        [1, 3, 46, 47, 48])))
def S47_0 : Stmt :=
  Stmt.seq
  (Stmt.region
    [SOper.mk (some 1) none (SOp.box true 67 (Operand.tmp 0)),
      SOper.mk (some 2) none (SOp.mv (Operand.const (Value.int IntKind.i64 0)))]
    [1])
  (Stmt.seq
    (Stmt.block 0
      (Stmt.seq
        (Stmt.region
          [SOper.mk (some 9) none (SOp.fld 2 (Operand.tmp 1)),
            SOper.mk (some 10) none (SOp.load false 1 (Operand.tmp 9)),
            SOper.mk (some 11) none (SOp.len false (Operand.tmp 10)),
            SOper.mk (some 12) none (SOp.ibin BinOp.gtr (Operand.tmp 11) (Operand.const (Value.int IntKind.i64 200))),
            SOper.mk (some 8) none (SOp.mv (Operand.tmp 12))]
          [1, 8])
        (Stmt.cond (Operand.tmp 8)
          (Stmt.seq (Stmt.region [SOper.mk (some 2) none (SOp.mv (Operand.const (Value.int IntKind.i64 2)))] [2])
            Stmt.ret)
          (Stmt.seq
            (Stmt.region
              [SOper.mk (some 14) none (SOp.fld 2 (Operand.tmp 1)),
                SOper.mk (some 15) none (SOp.load false 1 (Operand.tmp 14)),
                SOper.mk (some 16) none (SOp.len false (Operand.tmp 15)),
                SOper.mk (some 17) none (SOp.ibin BinOp.eql (Operand.tmp 16) (Operand.const (Value.int IntKind.i64 0))),
                SOper.mk (some 18) none (SOp.mv (Operand.tmp 17)),
                SOper.mk (some 19) (some (18, false)) (SOp.fld 1 (Operand.tmp 1)),
                SOper.mk (some 20) (some (18, false)) (SOp.load false 1 (Operand.tmp 19)),
                SOper.mk (some 21) (some (18, false)) (SOp.len false (Operand.tmp 20)),
                SOper.mk (some 22) (some (18, false)) (SOp.fld 2 (Operand.tmp 1)),
                SOper.mk (some 23) (some (18, false)) (SOp.load false 1 (Operand.tmp 22)),
                SOper.mk (some 24) (some (18, false)) (SOp.len false (Operand.tmp 23)),
                SOper.mk (some 25) (some (18, false)) (SOp.ibin BinOp.neq (Operand.tmp 21) (Operand.tmp 24)),
                SOper.mk (some 26) none (SOp.pick (Operand.tmp 18) (Operand.const (Value.bool true)) (Operand.tmp 25)),
                SOper.mk (some 13) none (SOp.mv (Operand.tmp 26))]
              [1, 13])
            (Stmt.cond (Operand.tmp 13)
              (Stmt.seq (Stmt.region [SOper.mk (some 2) none (SOp.mv (Operand.const (Value.int IntKind.i64 3)))] [2])
                Stmt.ret)
              (Stmt.seq
                (Stmt.region
                  [SOper.mk (some 28) none (SOp.fld 2 (Operand.tmp 1)),
                    SOper.mk (some 29) none (SOp.load false 1 (Operand.tmp 28)),
                    SOper.mk (some 30) none (SOp.idx 1 (Operand.tmp 29) (Operand.const (Value.int IntKind.i64 0))),
                    SOper.mk (some 31) none (SOp.load false 1 (Operand.tmp 30)),
                    SOper.mk (some 32) none (SOp.len false (Operand.tmp 31)),
                    SOper.mk (some 33) none
                      (SOp.ibin BinOp.gtr (Operand.tmp 32) (Operand.const (Value.int IntKind.i64 16))),
                    SOper.mk (some 27) none (SOp.mv (Operand.tmp 33))]
                  [1, 27])
                (Stmt.cond (Operand.tmp 27)
                  (Stmt.seq
                    (Stmt.region [SOper.mk (some 2) none (SOp.mv (Operand.const (Value.int IntKind.i64 2)))] [2])
                    Stmt.ret)
                  Stmt.skip)))))))
    (Stmt.seq
      (Stmt.region
        [SOper.mk (some 34) none (SOp.fld 0 (Operand.tmp 1)),
          SOper.mk (some 35) none (SOp.load false 1 (Operand.tmp 34)),
          SOper.mk (some 36) none (SOp.ibin BinOp.lss (Operand.tmp 35) (Operand.const (Value.int IntKind.i64 0))),
          SOper.mk (some 37) none (SOp.mv (Operand.tmp 36)),
          SOper.mk (some 38) (some (37, false)) (SOp.fld 0 (Operand.tmp 1)),
          SOper.mk (some 39) (some (37, false)) (SOp.load false 1 (Operand.tmp 38)),
          SOper.mk (some 40) (some (37, false)) (SOp.fld 2 (Operand.tmp 1)),
          SOper.mk (some 41) (some (37, false)) (SOp.load false 1 (Operand.tmp 40)),
          SOper.mk (some 42) (some (37, false)) (SOp.len false (Operand.tmp 41)),
          SOper.mk (some 43) (some (37, false)) (SOp.ibin BinOp.geq (Operand.tmp 39) (Operand.tmp 42)),
          SOper.mk (some 44) none (SOp.pick (Operand.tmp 37) (Operand.const (Value.bool true)) (Operand.tmp 43)),
          SOper.mk (some 3) none (SOp.mv (Operand.tmp 44))]
        [1, 3])
      (Stmt.seq
        (Stmt.seq
          (Stmt.region
            [SOper.mk (some 45) none (SOp.fld 2 (Operand.tmp 1)),
              SOper.mk (some 46) none (SOp.load false 1 (Operand.tmp 45)),
              SOper.mk (some 47) none (SOp.len false (Operand.tmp 46)),
              SOper.mk (some 48) none (SOp.mv (Operand.const (Value.int IntKind.i64 0)))]
            [1, 3, 46, 47, 48])
          (Stmt.block 1 (Stmt.loop S47_2 [3, 48] [1, 46, 47])))
        (Stmt.seq
          (Stmt.seq (Stmt.region [SOper.mk (some 95) none (SOp.mv (Operand.tmp 3))] [95])
            (Stmt.cond (Operand.tmp 95)
              (Stmt.seq (Stmt.region [SOper.mk (some 2) none (SOp.mv (Operand.const (Value.int IntKind.i64 1)))] [2])
                Stmt.ret)
              Stmt.skip))
          (Stmt.seq (Stmt.region [SOper.mk (some 2) none (SOp.mv (Operand.const (Value.int IntKind.i64 0)))] [2])
            Stmt.ret)))))
def S47 : FnS := ⟨96, [(2, none)], S47_0⟩
theorem tr47 : trFn Try.prog 47 [1] [[1], [1, 8], [2], [1, 13], [2], [1, 27], [2], [1, 3], [1, 3, 46, 47, 48], [3, 48], [1, 46, 47], [1, 3, 46, 47, 48, 49], [1, 3, 4, 5, 46, 47, 48], [1, 3, 4, 5, 46, 47, 48, 65], [2], [1, 3, 5, 46, 47, 48], [1, 3, 46, 47, 48, 75, 76, 77], [3, 77], [1, 46, 47, 48, 75, 76], [1, 3, 46, 47, 48, 75, 76, 77, 78], [1, 3, 7, 46, 47, 48, 75, 76, 77], [1, 3, 46, 47, 48, 75, 76, 77], [1, 3, 46, 47, 48, 75, 76, 77], [1, 3, 46, 47, 48], [95], [2], [2]] = some S47 := by kernel_rfl
end Go.Proofs.Ytniobbepliknmaa.V
/- Automata: dfa.Check, dfa.Run, parlref5.DfaFault, parlref5.Ends walked; no condition. -/
namespace Go.Proofs.Ytniobbepliknmaa.V
open Go
set_option linter.unusedVariables false
set_option linter.unusedSimpArgs false
attribute [local go_sem] e_seq e_region e_quiet e_join e_loop e_cond e_block e_exit e_ret e_skip e_fin e_kseq e_snrm e_sret e_sex e_bnrm e_bret e_bex e_rnrm e_rret e_res e_condC e_nil e_g e_mv g_mv e_pick g_pick pickC_eq e_ibin g_ibin ibinC_eq e_sbin g_sbin e_beq g_beq beqC_eq e_nilq g_nilq nilqC_sl nilqC_pt nilqC_mp e_un g_un unC_not unC_neg e_conv g_conv convC_eq e_fld g_fld fldC_ref fldC_ptr e_nilCheck g_nilCheck nilCheckC_ref nilCheckC_ptr nilCheckC_fun e_field g_field fieldC_eq e_len g_len lenC_sl lenC_str e_extract g_extract extractC_eq e_mkFunc e_build g_build e_idiv g_idiv idivC_eq e_ishift g_ishift ishiftC_eq e_idx g_idx e_idxA g_idxA e_load g_load loadC_ref loadC_ptr loadB_eq e_slc g_slc e_box boxC_loc boxC_esc e_alloc allocC_loc allocC_esc e_buildS e_store storeC_ref storeC_ptr storeB_eq e_append e_appz e_mk mkC_eq e_call callC_eq e_fn g_fn fnC_eq fnV_min' fnV_max' fnV_rune' e_q g_q e_a e_n g_call g_box g_alloc g_buildS g_store g_append g_mk g_a g_n g_dead e_dead e_callK e_drawn e_tree e_finJ e_tk e_tfin e_tno e_nbt_q e_nbt_qn e_nbt_a e_nbt_an e_nbt_fin e_early_nil e_early_t e_early_f e_nob_nil e_nob_none e_nob_some isBox_dead isBox_v isBox_ref e_dnil e_dk e_ek e_finB vcOps_vc1 e_dcons e_tq e_ekt e_tearly e_talt e_dearly look_nil look_c proj_nil proj_c looks_nil looks_c zip_nil zip_c val_tmp val_const val_func slv_v slv_box slv_ref slot_tmp slot_const slot_func slotL_v slotL_box slotL_ref put_some put_none updBox_c boxSet_box gd_eq slotVals_nil slotVals_c slotVals_b boxV_box boxOn_box slotsOn_nil slotsOn_c slotsOn_b resV_one resV_two vals_nil vals_c allOn_nil allOn_c partOn_nil partOn_c partVals_nil partVals_c fits_nil fits_c fillL_nil fillL_c mkv_one mkv_agg cellsV_agg cellsV_int cellsV_bool cellsV_slice cellsV_string cellsV_pointer cellsV_func cellsV_nilf cellsV_map one'_nil one'_c oc_int oc_bool oc_slice oc_string oc_pointer oc_func oc_nilf oc_map setC_eq iv_add iv_sub iv_mul iv_eql iv_neq iv_lss iv_leq iv_gtr iv_geq iok_add iok_sub iok_mul iok_eql iok_neq iok_lss iok_leq iok_gtr iok_geq pickV_bool args0_nil args0_c bnd_none bnd_some imp_bt imp_bf imp_ebt imp_ebf imp_eb1 imp_np imp_pp beq_tt beq_tf beq_ft beq_ff cond_or cond_and e_round e_meet Int.le_refl Int.toNat_zero decide_true decide_false Bool.or_false Bool.false_or Bool.true_or Bool.or_true Bool.and_false Bool.false_and Bool.bne_false Bool.bne_true beq_iff_eq Int.cast_ofNat_Int not_false_eq_true not_true_eq_false false_and and_false false_implies true_implies true_and and_true Bool.true_and Bool.and_true Bool.not_true Bool.not_false forall_const implies_true List.take_zero List.drop_zero List.take_succ_cons List.drop_succ_cons List.take_nil List.drop_nil List.length_cons List.length_nil List.nil_append List.append_nil List.cons_append Int.toNat_natCast decide_eq_true_eq decide_eq_false_iff_not cond_true cond_false and_self List.getElem?_cons_zero List.getElem?_cons_succ List.set_cons_zero List.set_cons_succ Option.some.injEq exists_eq_left' Nat.zero_add Nat.add_zero Nat.mul_one imp_self true_or or_true or_false false_or Bool.or_eq_true Bool.or_eq_false_iff Bool.and_eq_true Bool.and_eq_false_iff Bool.not_eq_true' Bool.not_eq_false'

def colsD (d : Da) : Nat := (d.nx.headD []).length
/-- what is wrong with an automaton -/
def dfF (d : Da) : Int :=
  if 200 < d.nx.length then 2
  else if d.nx.length = 0 ∨ d.ac.length ≠ d.nx.length then 3
  else if 16 < colsD d then 2
  else if ∃ r ∈ d.nx, r.length ≠ colsD d ∨ colsD d = 0 then 3
  else if d.st < 0 ∨ (d.nx.length : Int) ≤ d.st ∨ (∃ x ∈ d.ac, x < -1) ∨ (∃ r ∈ d.nx, ∃ t ∈ r, t < -1 ∨ (d.nx.length : Int) ≤ t) then 1 else 0
/-- an automaton that is accepted -/
structure VD (d : Da) : Prop where
  len : 1 ≤ d.nx.length ∧ d.nx.length ≤ 200
  acc : d.ac.length = d.nx.length
  cols : 1 ≤ colsD d ∧ colsD d ≤ 16
  row : ∀ r ∈ d.nx, r.length = colsD d
  st : 0 ≤ d.st ∧ d.st < d.nx.length
  ac : ∀ x ∈ d.ac, -1 ≤ x
  to : ∀ r ∈ d.nx, ∀ t ∈ r, -1 ≤ t ∧ t < d.nx.length
theorem dfF_ok {d : Da} (h : dfF d = 0) : VD d := by
  unfold dfF at h
  split at h
  · cases h
  rename_i h1
  split at h
  · cases h
  rename_i h2
  split at h
  · cases h
  rename_i h3
  split at h
  · cases h
  rename_i h4
  split at h
  · cases h
  rename_i h5
  simp only [not_exists, not_and, not_or] at h4 h5
  have hr : ∀ r ∈ d.nx, r.length = colsD d ∧ colsD d ≠ 0 := fun r hr => by have := h4 r hr; omega
  have hc : colsD d ≠ 0 := by
    cases hn : d.nx with
    | nil => rw [hn] at h2; simp at h2
    | cons r l => exact (hr r (by simp [hn])).2
  exact ⟨by omega, by omega, by omega, fun r q => (hr r q).1, by omega, fun x q => by have := h5.2.2.1 x q; omega, fun r q t q' => by have := h5.2.2.2 r q t q'; omega⟩
theorem cols_at {d : Da} (h : 0 < d.nx.length) : d.nx[0].length = colsD d := by
  unfold colsD
  congr 1
  generalize d.nx = l at *
  cases l with
  | nil => simp at h
  | cons r l => rfl
section
variable {Γr : Ctx} {d : Da} {A B : Option Addr} {c e : Nat}
theorem dfa_check (hA : SlOk (lk Γr) A c d.ac) (hB : SlOk (lk Γr) B e d.nx) :
    Ret Try.prog 115 [.agg #[.int .i64 d.st, .slice A d.ac.length c, .slice B d.nx.length e]] Γr [] (fun v Γ => Γ = [] ∧ v = .int .i64 (dfF d)) := by
  generalize hR : (fun (v : Value) (Γ : Ctx) => Γ = [] ∧ v = Value.int .i64 (dfF d)) = R
  refine ret_of_vc tr115 (Nat.le_of_ble_eq_true rfl) ?_
  have hsB := hB.short
  have hsA := hA.short
  unfold dfF at hR
  simp -implicitDefEqProofs only [S115, S115_0, go_sem, Nat.reduceBEq, Nat.reduceAdd, Nat.reduceSub, Nat.reduceMul, Nat.reduceLeDiff, reduceCtorEq, ↓reduceIte, Int.reduceLT, Int.reduceLE, Int.reduceEq, Int.reduceNe]
  intro b
  refine ⟨fun h => Up.here ?_, fun h1 => ?_⟩
  · rw [if_pos (by omega)] at hR
    subst hR
    exact ⟨rfl, rfl⟩
  rw [if_neg (by omega)] at hR
  refine ⟨fun h => Up.here ?_, fun h2 => ?_⟩
  · rw [if_pos (by omega)] at hR
    subst hR
    exact ⟨rfl, rfl⟩
  rw [if_neg (by omega)] at hR
  have hpos : 0 < d.nx.length := by omega
  obtain ⟨b1, o1, hB1, A1, c1, hr1, hc1⟩ := hB.list hpos
  have hcol := cols_at hpos
  rw [hcol] at hc1
  refine s_idx hB1 (by omega) (by omega) ?_
  simp -implicitDefEqProofs only [go_sem, Nat.reduceBEq, Nat.reduceAdd, Nat.reduceSub, Nat.reduceMul, Nat.reduceLeDiff, reduceCtorEq, ↓reduceIte, Int.reduceLT, Int.reduceLE, Int.reduceEq, Int.reduceNe]
  refine s_ld0 (hc1 _ (lk_r _ _)) (by simp) (by simp) ?_
  simp -implicitDefEqProofs only [go_sem, Nat.reduceBEq, Nat.reduceAdd, Nat.reduceSub, Nat.reduceMul, Nat.reduceLeDiff, reduceCtorEq, ↓reduceIte, Int.reduceLT, Int.reduceLE, Int.reduceEq, Int.reduceNe]
  refine ⟨fun h => Up.here ?_, fun h3 => ?_⟩
  · rw [if_pos (by omega)] at hR
    subst hR
    exact ⟨rfl, rfl⟩
  rw [if_neg (by omega)] at hR
  refine s_loop (fun f vs Γ => Γ = [] ∧ ∃ k : Nat, vs = [.v true (.int .i64 k)] ∧ k + f = d.nx.length ∧ ∀ (j : Nat) (hj : j < d.nx.length), j < k → d.nx[j].length = colsD d ∧ colsD d ≠ 0) d.nx.length
    (Up.here ⟨rfl, 0, rfl, by omega, fun j _ h => by omega⟩) ?_
  rintro f vs Γ ⟨rfl, k, rfl, hkf, hok⟩
  simp -implicitDefEqProofs only [S115_1, go_sem, Nat.reduceBEq, Nat.reduceAdd, Nat.reduceSub, Nat.reduceMul, Nat.reduceLeDiff, reduceCtorEq, ↓reduceIte, Int.reduceLT, Int.reduceLE, Int.reduceEq, Int.reduceNe]
  refine ⟨fun hlt => ?_, fun hge => ?_⟩
  · have hk : k < d.nx.length := by omega
    obtain ⟨b2, o2, hB2, A2, c2, hr2, hc2⟩ := hB.list hk
    refine s_idx hB2 (by omega) (by omega) ?_
    simp -implicitDefEqProofs only [go_sem, Nat.reduceBEq, Nat.reduceAdd, Nat.reduceSub, Nat.reduceMul, Nat.reduceLeDiff, reduceCtorEq, ↓reduceIte, Int.reduceLT, Int.reduceLE, Int.reduceEq, Int.reduceNe]
    refine s_ld0 (hc2 _ (lk_r _ _)) (by simp) (by simp) ?_
    simp -implicitDefEqProofs only [go_sem, Nat.reduceBEq, Nat.reduceAdd, Nat.reduceSub, Nat.reduceMul, Nat.reduceLeDiff, reduceCtorEq, ↓reduceIte, Int.reduceLT, Int.reduceLE, Int.reduceEq, Int.reduceNe]
    refine ⟨fun h => Up.here ?_, fun h => ?_⟩
    · rw [if_pos ⟨_, List.getElem_mem hk, by omega⟩] at hR
      subst hR
      exact ⟨rfl, rfl⟩
    · simp (disch := omega) only [wrap_id]
      refine ⟨f - 1, by omega, Up.here ⟨rfl, k + 1, rfl, by omega, fun j hj h2 => ?_⟩⟩
      by_cases e : j = k
      · subst e; omega
      · exact hok j hj (by omega)
  have hk : k = d.nx.length := by omega
  have hrow : ∀ r ∈ d.nx, r.length = colsD d ∧ colsD d ≠ 0 := fun r hr => by
    obtain ⟨j, hj, rfl⟩ := List.getElem_of_mem hr
    exact hok j hj (by omega)
  rw [if_neg (by rintro ⟨r, hr, h⟩; have := hrow r hr; omega)] at hR
  have hc0 : 0 < colsD d := by have := hrow _ (List.getElem_mem hpos); omega
  refine ⟨fun h => Up.here ?_, fun h4 => ?_⟩
  · rw [if_pos (by omega)] at hR
    subst hR
    exact ⟨rfl, rfl⟩
  refine s_loop (fun f vs Γ => Γ = [] ∧ ∃ k : Nat, vs = [.v true (.int .i64 k)] ∧ k + f = d.nx.length ∧ (∀ (j : Nat) (hj : j < d.ac.length), j < k → -1 ≤ d.ac[j]) ∧ ∀ (j : Nat) (hj : j < d.nx.length), j < k → ∀ t ∈ d.nx[j], -1 ≤ t ∧ t < d.nx.length) d.nx.length
    (Up.here ⟨rfl, 0, rfl, by omega, fun j _ h => by omega, fun j _ h => by omega⟩) ?_
  rintro f vs Γ ⟨rfl, k, rfl, hkf, hac, hto⟩
  simp -implicitDefEqProofs only [S115_3, go_sem, Nat.reduceBEq, Nat.reduceAdd, Nat.reduceSub, Nat.reduceMul, Nat.reduceLeDiff, reduceCtorEq, ↓reduceIte, Int.reduceLT, Int.reduceLE, Int.reduceEq, Int.reduceNe]
  refine ⟨fun hlt => ?_, fun hge => ?_⟩
  · have hk : k < d.nx.length := by omega
    have hka : k < d.ac.length := by omega
    obtain ⟨b2, o2, hB2, A2, c2, hr2, hc2⟩ := hB.list hk
    obtain ⟨b3, o3, hA3, hc3⟩ := hA.int hka
    refine s_idx hB2 (by omega) (by omega) ?_
    simp -implicitDefEqProofs only [go_sem, Nat.reduceBEq, Nat.reduceAdd, Nat.reduceSub, Nat.reduceMul, Nat.reduceLeDiff, reduceCtorEq, ↓reduceIte, Int.reduceLT, Int.reduceLE, Int.reduceEq, Int.reduceNe]
    refine s_ld0 (hc2 _ (lk_r _ _)) (by simp) (by simp) ?_
    simp -implicitDefEqProofs only [go_sem, Nat.reduceBEq, Nat.reduceAdd, Nat.reduceSub, Nat.reduceMul, Nat.reduceLeDiff, reduceCtorEq, ↓reduceIte, Int.reduceLT, Int.reduceLE, Int.reduceEq, Int.reduceNe]
    refine s_idx hA3 (by omega) (by omega) ?_
    simp -implicitDefEqProofs only [go_sem, Nat.reduceBEq, Nat.reduceAdd, Nat.reduceSub, Nat.reduceMul, Nat.reduceLeDiff, reduceCtorEq, ↓reduceIte, Int.reduceLT, Int.reduceLE, Int.reduceEq, Int.reduceNe]
    refine s_ld0 (hc3 _ (lk_r _ _)) (by simp) (by simp) ?_
    simp -implicitDefEqProofs only [go_sem, Nat.reduceBEq, Nat.reduceAdd, Nat.reduceSub, Nat.reduceMul, Nat.reduceLeDiff, reduceCtorEq, ↓reduceIte, Int.reduceLT, Int.reduceLE, Int.reduceEq, Int.reduceNe]
    refine ⟨fun h => Up.here ?_, fun h5 => ?_⟩
    · rw [if_pos (.inr (.inr (.inl ⟨_, List.getElem_mem hka, by omega⟩)))] at hR
      subst hR
      exact ⟨rfl, rfl⟩
    have hrk := hrow _ (List.getElem_mem hk)
    refine s_loop (fun f2 vs Γ => Γ = [] ∧ ∃ m : Nat, vs = [.v true (.int .i64 m)] ∧ m + f2 = d.nx[k].length ∧ ∀ (j : Nat) (hj : j < d.nx[k].length), j < m → -1 ≤ d.nx[k][j] ∧ d.nx[k][j] < d.nx.length) d.nx[k].length
      (Up.here ⟨rfl, 0, rfl, by omega, fun j _ h => by omega⟩) ?_
    rintro f2 vs Γ ⟨rfl, m, rfl, hmf, hm⟩
    simp -implicitDefEqProofs only [S115_2, go_sem, Nat.reduceBEq, Nat.reduceAdd, Nat.reduceSub, Nat.reduceMul, Nat.reduceLeDiff, reduceCtorEq, ↓reduceIte, Int.reduceLT, Int.reduceLE, Int.reduceEq, Int.reduceNe]
    refine ⟨fun hlt => ?_, fun hge => ?_⟩
    · have hml : m < d.nx[k].length := by omega
      obtain ⟨b4, o4, hA4, hc4⟩ := hr2.int hml
      refine s_idx hA4 (by omega) (by omega) ?_
      simp -implicitDefEqProofs only [go_sem, Nat.reduceBEq, Nat.reduceAdd, Nat.reduceSub, Nat.reduceMul, Nat.reduceLeDiff, reduceCtorEq, ↓reduceIte, Int.reduceLT, Int.reduceLE, Int.reduceEq, Int.reduceNe]
      refine s_ld0 (hc4 _ (lk_r _ _)) (by simp) (by simp) ?_
      simp -implicitDefEqProofs only [go_sem, Nat.reduceBEq, Nat.reduceAdd, Nat.reduceSub, Nat.reduceMul, Nat.reduceLeDiff, reduceCtorEq, ↓reduceIte, Int.reduceLT, Int.reduceLE, Int.reduceEq, Int.reduceNe]
      refine ⟨fun h => Up.here ?_, fun h => ?_⟩
      · rw [if_pos (.inr (.inr (.inr ⟨_, List.getElem_mem hk, _, List.getElem_mem hml, by omega⟩)))] at hR
        subst hR
        exact ⟨rfl, rfl⟩
      · simp (disch := omega) only [wrap_id]
        refine ⟨f2 - 1, by omega, Up.here ⟨rfl, m + 1, rfl, by omega, fun j hj h2 => ?_⟩⟩
        by_cases e : j = m
        · subst e; omega
        · exact hm j hj (by omega)
    · have hml : m = d.nx[k].length := by omega
      simp (disch := omega) only [wrap_id]
      refine ⟨f - 1, by omega, Up.here ⟨rfl, k + 1, rfl, by omega, fun j hj h2 => ?_, fun j hj h2 t ht => ?_⟩⟩
      · by_cases e : j = k
        · subst e; omega
        · exact hac j hj (by omega)
      · by_cases e : j = k
        · subst e
          obtain ⟨i, hi, rfl⟩ := List.getElem_of_mem ht
          exact hm i hi (by omega)
        · exact hto j hj (by omega) t ht
  · have hk : k = d.nx.length := by omega
    refine Up.here ?_
    rw [if_neg ?_] at hR
    · subst hR
      exact ⟨rfl, rfl⟩
    · rintro (h | h | ⟨x, hx, h⟩ | ⟨r, hr, t, ht, h⟩)
      · omega
      · omega
      · obtain ⟨j, hj, rfl⟩ := List.getElem_of_mem hx
        have := hac j hj (by omega)
        omega
      · obtain ⟨j, hj, rfl⟩ := List.getElem_of_mem hr
        have := hto j hj (by omega) t ht
        omega
theorem ref_dfa (hA : SlOk (lk Γr) A c d.ac) (hB : SlOk (lk Γr) B e d.nx) :
    Ret Try.prog 47 [.agg #[.int .i64 d.st, .slice A d.ac.length c, .slice B d.nx.length e]] Γr [] (fun v Γ => Γ = [] ∧ v = .int .i64 (dfF d)) := by
  generalize hR : (fun (v : Value) (Γ : Ctx) => Γ = [] ∧ v = Value.int .i64 (dfF d)) = R
  refine ret_of_vc tr47 (Nat.le_of_ble_eq_true rfl) ?_
  have hsB := hB.short
  have hsA := hA.short
  unfold dfF at hR
  simp -implicitDefEqProofs only [S47, S47_0, go_sem, Nat.reduceBEq, Nat.reduceAdd, Nat.reduceSub, Nat.reduceMul, Nat.reduceLeDiff, reduceCtorEq, ↓reduceIte, Int.reduceLT, Int.reduceLE, Int.reduceEq, Int.reduceNe]
  intro b
  refine ⟨fun h => Up.here ?_, fun h1 => ?_⟩
  · rw [if_pos (by omega)] at hR
    subst hR
    exact ⟨rfl, rfl⟩
  rw [if_neg (by omega)] at hR
  refine ⟨fun h => Up.here ?_, fun h2 => ?_⟩
  · rw [if_pos (by omega)] at hR
    subst hR
    exact ⟨rfl, rfl⟩
  rw [if_neg (by omega)] at hR
  have hpos : 0 < d.nx.length := by omega
  obtain ⟨b1, o1, hB1, A1, c1, hr1, hc1⟩ := hB.list hpos
  have hcol := cols_at hpos
  rw [hcol] at hc1
  have hc1' : ∀ Γ : Ctx, Mem.le (lk Γr) (lk Γ) → Cells Γ b1 o1 [.slice A1 (colsD d) c1] := fun Γ h => by simpa using hc1 Γ h
  refine s_idx hB1 (by omega) (by omega) ?_
  simp -implicitDefEqProofs only [go_sem, Nat.reduceBEq, Nat.reduceAdd, Nat.reduceSub, Nat.reduceMul, Nat.reduceLeDiff, reduceCtorEq, ↓reduceIte, Int.reduceLT, Int.reduceLE, Int.reduceEq, Int.reduceNe]
  refine s_ld0 (hc1' _ (lk_r _ _)) (by simp) (by simp) ?_
  simp -implicitDefEqProofs only [go_sem, Nat.reduceBEq, Nat.reduceAdd, Nat.reduceSub, Nat.reduceMul, Nat.reduceLeDiff, reduceCtorEq, ↓reduceIte, Int.reduceLT, Int.reduceLE, Int.reduceEq, Int.reduceNe]
  refine ⟨fun h => Up.here ?_, fun h3 => ?_⟩
  · rw [if_pos (by omega)] at hR
    subst hR
    exact ⟨rfl, rfl⟩
  rw [if_neg (by omega)] at hR
  let badA (k : Nat) : Prop := ∃ (j : Nat) (hj : j < d.ac.length), j < k ∧ d.ac[j] < -1
  let badT (k : Nat) : Prop := ∃ (j : Nat) (hj : j < d.nx.length), j < k ∧ ∃ t ∈ d.nx[j], t < -1 ∨ (d.nx.length : Int) ≤ t
  refine s_loop (fun f vs Γ => Γ = [] ∧ ∃ (k : Nat) (bd : Bool), vs = [.v true (.bool bd), .v true (.int .i64 k)] ∧ k + f = d.nx.length ∧ (∀ (j : Nat) (hj : j < d.nx.length), j < k → d.nx[j].length = colsD d ∧ colsD d ≠ 0) ∧ (bd = true ↔ (d.st < 0 ∨ (d.nx.length : Int) ≤ d.st) ∨ badA k ∨ badT k)) d.nx.length
    (Up.here ⟨rfl, 0, _, rfl, by omega, fun j _ h => by omega, ?_⟩) ?_
  · simp only [Bool.or_eq_true, decide_eq_true_eq]
    refine ⟨.inl, fun h => h.resolve_right ?_⟩
    rintro (⟨j, _, h, _⟩ | ⟨j, _, h, _⟩) <;> omega
  rintro f vs Γ ⟨rfl, k, bd, rfl, hkf, hok, hbd⟩
  simp -implicitDefEqProofs only [S47_2, go_sem, Nat.reduceBEq, Nat.reduceAdd, Nat.reduceSub, Nat.reduceMul, Nat.reduceLeDiff, reduceCtorEq, ↓reduceIte, Int.reduceLT, Int.reduceLE, Int.reduceEq, Int.reduceNe]
  refine ⟨fun hlt => ?_, fun hge => ?_⟩
  · have hk : k < d.nx.length := by omega
    have hka : k < d.ac.length := by omega
    obtain ⟨b2, o2, hB2, A2, c2, hr2, hc2⟩ := hB.list hk
    obtain ⟨b3, o3, hA3, hc3⟩ := hA.int hka
    refine s_idx hB2 (by omega) (by omega) ?_
    simp -implicitDefEqProofs only [go_sem, Nat.reduceBEq, Nat.reduceAdd, Nat.reduceSub, Nat.reduceMul, Nat.reduceLeDiff, reduceCtorEq, ↓reduceIte, Int.reduceLT, Int.reduceLE, Int.reduceEq, Int.reduceNe]
    refine s_ld0 (hc2 _ (lk_r _ _)) (by simp) (by simp) ?_
    simp -implicitDefEqProofs only [go_sem, Nat.reduceBEq, Nat.reduceAdd, Nat.reduceSub, Nat.reduceMul, Nat.reduceLeDiff, reduceCtorEq, ↓reduceIte, Int.reduceLT, Int.reduceLE, Int.reduceEq, Int.reduceNe]
    refine s_idx hB1 (by omega) (by omega) ?_
    simp -implicitDefEqProofs only [go_sem, Nat.reduceBEq, Nat.reduceAdd, Nat.reduceSub, Nat.reduceMul, Nat.reduceLeDiff, reduceCtorEq, ↓reduceIte, Int.reduceLT, Int.reduceLE, Int.reduceEq, Int.reduceNe]
    refine s_ld0 (hc1' _ (lk_r _ _)) (by simp) (by simp) ?_
    simp -implicitDefEqProofs only [go_sem, Nat.reduceBEq, Nat.reduceAdd, Nat.reduceSub, Nat.reduceMul, Nat.reduceLeDiff, reduceCtorEq, ↓reduceIte, Int.reduceLT, Int.reduceLE, Int.reduceEq, Int.reduceNe]
    refine ⟨fun h => Up.here ?_, fun h => ?_⟩
    · rw [if_pos ⟨_, List.getElem_mem hk, by omega⟩] at hR
      subst hR
      exact ⟨rfl, rfl⟩
    refine s_idxg (fun he => ⟨by first | exact he | rfl | simp_all, by first | exact he | rfl | simp_all, hA3, by omega, by omega⟩) ?_
    simp -implicitDefEqProofs only [go_sem, Nat.reduceBEq, Nat.reduceAdd, Nat.reduceSub, Nat.reduceMul, Nat.reduceLeDiff, reduceCtorEq, ↓reduceIte, Int.reduceLT, Int.reduceLE, Int.reduceEq, Int.reduceNe]
    refine s_ldg0 (fun he => by first | exact he | rfl | simp_all) (fun _ => hc3 _ (lk_r _ _)) (by simp) (by simp) ?_
    simp -implicitDefEqProofs only [go_sem, Nat.reduceBEq, Nat.reduceAdd, Nat.reduceSub, Nat.reduceMul, Nat.reduceLeDiff, reduceCtorEq, ↓reduceIte, Int.reduceLT, Int.reduceLE, Int.reduceEq, Int.reduceNe]
    refine s_loop (fun f2 vs Γ => Γ = [] ∧ ∃ (m : Nat) (bd : Bool), vs = [.v true (.bool bd), .v true (.int .i64 m)] ∧ m + f2 = d.nx[k].length ∧ (bd = true ↔ (d.st < 0 ∨ (d.nx.length : Int) ≤ d.st) ∨ badA (k + 1) ∨ badT k ∨ ∃ (j : Nat) (hj : j < d.nx[k].length), j < m ∧ (d.nx[k][j] < -1 ∨ (d.nx.length : Int) ≤ d.nx[k][j]))) d.nx[k].length
      (Up.here ⟨rfl, 0, _, rfl, by omega, ?_⟩) ?_
    · simp only [Bool.or_eq_true, decide_eq_true_eq, hbd]
      constructor
      · rintro ((h | ⟨j, hj, h1, h2⟩ | h) | h)
        · exact .inl h
        · exact .inr (.inl ⟨j, hj, by omega, h2⟩)
        · exact .inr (.inr (.inl h))
        · exact .inr (.inl ⟨k, hka, by omega, h⟩)
      · rintro (h | ⟨j, hj, h1, h2⟩ | h | ⟨j, _, h, _⟩)
        · exact .inl (.inl h)
        · by_cases e : j = k
          · subst e; exact .inr h2
          · exact .inl (.inr (.inl ⟨j, hj, by omega, h2⟩))
        · exact .inl (.inr (.inr h))
        · omega
    rintro f2 vs Γ ⟨rfl, m, bd2, rfl, hmf, hbd2⟩
    simp -implicitDefEqProofs only [S47_1, go_sem, Nat.reduceBEq, Nat.reduceAdd, Nat.reduceSub, Nat.reduceMul, Nat.reduceLeDiff, reduceCtorEq, ↓reduceIte, Int.reduceLT, Int.reduceLE, Int.reduceEq, Int.reduceNe]
    refine ⟨fun hlt => ?_, fun hge => ?_⟩
    · have hml : m < d.nx[k].length := by omega
      obtain ⟨b4, o4, hA4, hc4⟩ := hr2.int hml
      refine s_idx hA4 (by omega) (by omega) ?_
      simp -implicitDefEqProofs only [go_sem, Nat.reduceBEq, Nat.reduceAdd, Nat.reduceSub, Nat.reduceMul, Nat.reduceLeDiff, reduceCtorEq, ↓reduceIte, Int.reduceLT, Int.reduceLE, Int.reduceEq, Int.reduceNe]
      refine s_ld0 (hc4 _ (lk_r _ _)) (by simp) (by simp) ?_
      simp -implicitDefEqProofs only [go_sem, Nat.reduceBEq, Nat.reduceAdd, Nat.reduceSub, Nat.reduceMul, Nat.reduceLeDiff, reduceCtorEq, ↓reduceIte, Int.reduceLT, Int.reduceLE, Int.reduceEq, Int.reduceNe]
      simp (disch := omega) only [wrap_id]
      refine ⟨f2 - 1, by omega, Up.here ⟨rfl, m + 1, _, rfl, by omega, ?_⟩⟩
      simp only [Bool.or_eq_true, decide_eq_true_eq, hbd2]
      constructor
      · rintro (((h | h | h | ⟨j, hj, h1, h2⟩) | h) | h)
        · exact .inl h
        · exact .inr (.inl h)
        · exact .inr (.inr (.inl h))
        · exact .inr (.inr (.inr ⟨j, hj, by omega, h2⟩))
        · exact .inr (.inr (.inr ⟨m, hml, by omega, .inl h⟩))
        · exact .inr (.inr (.inr ⟨m, hml, by omega, .inr h⟩))
      · rintro (h | h | h | ⟨j, hj, h1, h2⟩)
        · exact .inl (.inl (.inl h))
        · exact .inl (.inl (.inr (.inl h)))
        · exact .inl (.inl (.inr (.inr (.inl h))))
        · by_cases e : j = m
          · subst e
            rcases h2 with h2 | h2
            · exact .inl (.inr h2)
            · exact .inr h2
          · exact .inl (.inl (.inr (.inr (.inr ⟨j, hj, by omega, h2⟩))))
    · have hml : m = d.nx[k].length := by omega
      simp (disch := omega) only [wrap_id]
      refine ⟨f - 1, by omega, Up.here ⟨rfl, k + 1, bd2, rfl, by omega, fun j hj h2 => ?_, ?_⟩⟩
      · by_cases e : j = k
        · subst e; omega
        · exact hok j hj (by omega)
      · rw [hbd2]
        refine or_congr_right (or_congr_right ⟨?_, ?_⟩)
        · rintro (⟨j, hj, h1, h2⟩ | ⟨j, hj, h1, h2⟩)
          · exact ⟨j, hj, by omega, h2⟩
          · exact ⟨k, hk, by omega, _, List.getElem_mem hj, h2⟩
        · rintro ⟨j, hj, h1, t, ht, h2⟩
          by_cases e : j = k
          · subst e
            obtain ⟨i, hi, rfl⟩ := List.getElem_of_mem ht
            exact .inr ⟨i, hi, by omega, h2⟩
          · exact .inl ⟨j, hj, by omega, t, ht, h2⟩
  · have hk : k = d.nx.length := by omega
    have hrow : ∀ r ∈ d.nx, r.length = colsD d ∧ colsD d ≠ 0 := fun r hr => by
      obtain ⟨j, hj, rfl⟩ := List.getElem_of_mem hr
      exact hok j hj (by omega)
    rw [if_neg (by rintro ⟨r, hr, h⟩; have := hrow r hr; omega)] at hR
    have hall : bd = true ↔ (d.st < 0 ∨ (d.nx.length : Int) ≤ d.st ∨ (∃ x ∈ d.ac, x < -1) ∨ (∃ r ∈ d.nx, ∃ t ∈ r, t < -1 ∨ (d.nx.length : Int) ≤ t)) := by
      rw [hbd, or_assoc]
      refine or_congr_right (or_congr_right (or_congr ⟨?_, ?_⟩ ⟨?_, ?_⟩))
      · rintro ⟨j, hj, _, h⟩; exact ⟨_, List.getElem_mem hj, h⟩
      · rintro ⟨x, hx, h⟩
        obtain ⟨j, hj, rfl⟩ := List.getElem_of_mem hx
        exact ⟨j, hj, by omega, h⟩
      · rintro ⟨j, hj, _, h⟩; exact ⟨_, List.getElem_mem hj, h⟩
      · rintro ⟨x, hx, h⟩
        obtain ⟨j, hj, rfl⟩ := List.getElem_of_mem hx
        exact ⟨j, hj, by omega, h⟩
    refine ⟨fun h => Up.here ?_, fun h => Up.here ?_⟩
    · rw [if_pos (hall.1 h)] at hR
      subst hR
      exact ⟨rfl, rfl⟩
    · rw [if_neg (fun q => by rw [hall.2 q] at h; cases h)] at hR
      subst hR
      exact ⟨rfl, rfl⟩
end
end Go.Proofs.Ytniobbepliknmaa.V
/- The text of parlance/teach.step as a statement (slots: 0 d, 1 s, 2 c, 3 d, 4 s, 5 c); no condition. -/
namespace Go.Proofs.Ytniobbepliknmaa.V
open Go
def S175_0 : Stmt :=
  Stmt.seq
  (Stmt.region
    [SOper.mk (some 3) none (SOp.box true 67 (Operand.tmp 0)),
      SOper.mk (some 6) none (SOp.mv (Operand.const (Value.int IntKind.i64 0)))]
    [1, 2, 3])
  (Stmt.seq
    (Stmt.seq
      (Stmt.region
        [SOper.mk (some 7) none (SOp.mv (Operand.tmp 1)),
          SOper.mk (some 8) none (SOp.ibin BinOp.lss (Operand.tmp 7) (Operand.const (Value.int IntKind.i64 0)))]
        [1, 2, 3, 8])
      (Stmt.cond (Operand.tmp 8)
        (Stmt.seq (Stmt.region [SOper.mk (some 6) none (SOp.mv (Operand.const (Value.int IntKind.i64 (-1))))] [6])
          Stmt.ret)
        Stmt.skip))
    (Stmt.seq
      (Stmt.region
        [SOper.mk (some 9) none (SOp.fld 2 (Operand.tmp 3)), SOper.mk (some 10) none (SOp.load false 1 (Operand.tmp 9)),
          SOper.mk (some 11) none (SOp.mv (Operand.tmp 1)),
          SOper.mk (some 12) none (SOp.idx 1 (Operand.tmp 10) (Operand.tmp 11)),
          SOper.mk (some 13) none (SOp.load false 1 (Operand.tmp 12)), SOper.mk (some 14) none (SOp.mv (Operand.tmp 2)),
          SOper.mk (some 15) none (SOp.idx 1 (Operand.tmp 13) (Operand.tmp 14)),
          SOper.mk (some 16) none (SOp.load false 1 (Operand.tmp 15)), SOper.mk (some 6) none (SOp.mv (Operand.tmp 16))]
        [6])
      Stmt.ret))
def S175 : FnS := ⟨17, [(6, none)], S175_0⟩
theorem tr175 : trFn Try.prog 175 [3] [[1, 2, 3], [1, 2, 3, 8], [6], [6]] = some S175 := by kernel_rfl
end Go.Proofs.Ytniobbepliknmaa.V
/- Automata: dfa.Run, parlref5.Ends, teach.step walked; no condition. -/
namespace Go.Proofs.Ytniobbepliknmaa.V
open Go
set_option linter.unusedVariables false
set_option linter.unusedSimpArgs false
attribute [local go_sem] e_seq e_region e_quiet e_join e_loop e_cond e_block e_exit e_ret e_skip e_fin e_kseq e_snrm e_sret e_sex e_bnrm e_bret e_bex e_rnrm e_rret e_res e_condC e_nil e_g e_mv g_mv e_pick g_pick pickC_eq e_ibin g_ibin ibinC_eq e_sbin g_sbin e_beq g_beq beqC_eq e_nilq g_nilq nilqC_sl nilqC_pt nilqC_mp e_un g_un unC_not unC_neg e_conv g_conv convC_eq e_fld g_fld fldC_ref fldC_ptr e_nilCheck g_nilCheck nilCheckC_ref nilCheckC_ptr nilCheckC_fun e_field g_field fieldC_eq e_len g_len lenC_sl lenC_str e_extract g_extract extractC_eq e_mkFunc e_build g_build e_idiv g_idiv idivC_eq e_ishift g_ishift ishiftC_eq e_idx g_idx e_idxA g_idxA e_load g_load loadC_ref loadC_ptr loadB_eq e_slc g_slc e_box boxC_loc boxC_esc e_alloc allocC_loc allocC_esc e_buildS e_store storeC_ref storeC_ptr storeB_eq e_append e_appz e_mk mkC_eq e_call callC_eq e_fn g_fn fnC_eq fnV_min' fnV_max' fnV_rune' e_q g_q e_a e_n g_call g_box g_alloc g_buildS g_store g_append g_mk g_a g_n g_dead e_dead e_callK e_drawn e_tree e_finJ e_tk e_tfin e_tno e_nbt_q e_nbt_qn e_nbt_a e_nbt_an e_nbt_fin e_early_nil e_early_t e_early_f e_nob_nil e_nob_none e_nob_some isBox_dead isBox_v isBox_ref e_dnil e_dk e_ek e_finB vcOps_vc1 e_dcons e_tq e_ekt e_tearly e_talt e_dearly look_nil look_c proj_nil proj_c looks_nil looks_c zip_nil zip_c val_tmp val_const val_func slv_v slv_box slv_ref slot_tmp slot_const slot_func slotL_v slotL_box slotL_ref put_some put_none updBox_c boxSet_box gd_eq slotVals_nil slotVals_c slotVals_b boxV_box boxOn_box slotsOn_nil slotsOn_c slotsOn_b resV_one resV_two vals_nil vals_c allOn_nil allOn_c partOn_nil partOn_c partVals_nil partVals_c fits_nil fits_c fillL_nil fillL_c mkv_one mkv_agg cellsV_agg cellsV_int cellsV_bool cellsV_slice cellsV_string cellsV_pointer cellsV_func cellsV_nilf cellsV_map one'_nil one'_c oc_int oc_bool oc_slice oc_string oc_pointer oc_func oc_nilf oc_map setC_eq iv_add iv_sub iv_mul iv_eql iv_neq iv_lss iv_leq iv_gtr iv_geq iok_add iok_sub iok_mul iok_eql iok_neq iok_lss iok_leq iok_gtr iok_geq pickV_bool args0_nil args0_c bnd_none bnd_some imp_bt imp_bf imp_ebt imp_ebf imp_eb1 imp_np imp_pp beq_tt beq_tf beq_ft beq_ff cond_or cond_and e_round e_meet Int.le_refl Int.toNat_zero decide_true decide_false Bool.or_false Bool.false_or Bool.true_or Bool.or_true Bool.and_false Bool.false_and Bool.bne_false Bool.bne_true beq_iff_eq Int.cast_ofNat_Int not_false_eq_true not_true_eq_false false_and and_false false_implies true_implies true_and and_true Bool.true_and Bool.and_true Bool.not_true Bool.not_false forall_const implies_true List.take_zero List.drop_zero List.take_succ_cons List.drop_succ_cons List.take_nil List.drop_nil List.length_cons List.length_nil List.nil_append List.append_nil List.cons_append Int.toNat_natCast decide_eq_true_eq decide_eq_false_iff_not cond_true cond_false and_self List.getElem?_cons_zero List.getElem?_cons_succ List.set_cons_zero List.set_cons_succ Option.some.injEq exists_eq_left' Nat.zero_add Nat.add_zero Nat.mul_one imp_self true_or or_true or_false false_or Bool.or_eq_true Bool.or_eq_false_iff Bool.and_eq_true Bool.and_eq_false_iff Bool.not_eq_true' Bool.not_eq_false'

def stepD (d : Da) (s x : Int) : Int := (d.nx.getD s.toNat []).getD x.toNat 0
def accD (d : Da) (s : Int) : Int := d.ac.getD s.toNat 0
/-- where a word ends -/
def runD (d : Da) : Int → List Int → Int
  | s, [] => accD d s
  | s, x :: w => if stepD d s x < 0 then -1 else runD d (stepD d s x) w
def endsD (d : Da) : Int → List Int → Bool
  | s, [] => decide (0 ≤ s) && decide (0 ≤ accD d s)
  | s, x :: w => if s < 0 then false else endsD d (stepD d s x) w
theorem ends_neg {d : Da} {s : Int} (h : s < 0) : ∀ w, endsD d s w = false
  | [] => by simp [endsD]; omega
  | x :: w => by simp [endsD, h]
theorem run_ends {d : Da} : ∀ {w : List Int} {s : Int}, 0 ≤ s → (0 ≤ runD d s w ↔ endsD d s w = true)
  | [], s, h => by simp [runD, endsD, h]
  | x :: w, s, h => by
    simp only [runD, endsD]
    rw [if_neg (show ¬ s < 0 by omega)]
    split
    · rename_i hn
      rw [ends_neg hn]
      simp
    · rename_i hn
      exact run_ends (by omega)
theorem step_at {d : Da} {s x : Nat} (hs : s < d.nx.length) (hx : x < d.nx[s].length) : stepD d s x = d.nx[s][x] := by simp [stepD, hs, hx]
theorem VD.step {d : Da} (V : VD d) {s x : Int} (hs : 0 ≤ s ∧ s < d.nx.length) (hx : 0 ≤ x ∧ x < colsD d) : -1 ≤ stepD d s x ∧ stepD d s x < d.nx.length := by
  have h1 : s.toNat < d.nx.length := by omega
  have h2 := V.row _ (List.getElem_mem h1)
  have h3 : x.toNat < d.nx[s.toNat].length := by omega
  have e : stepD d s x = d.nx[s.toNat][x.toNat] := by simp [stepD, h1, h3]
  rw [e]
  exact V.to _ (List.getElem_mem h1) _ (List.getElem_mem h3)
/-- symbols of the automaton -/
def okW (d : Da) (w : List Int) : Prop := ∀ x ∈ w, 0 ≤ x ∧ x < colsD d
section
variable {Γr : Ctx} {d : Da} {A B : Option Addr} {c e : Nat}
theorem teach_step (hB : SlOk (lk Γr) B e d.nx) (V : VD d) {s x : Int} (hs : -1 ≤ s ∧ s < d.nx.length) (hx : 0 ≤ x ∧ x < colsD d) :
    Ret Try.prog 175 [.agg #[.int .i64 d.st, .slice A d.ac.length c, .slice B d.nx.length e], .int .i64 s, .int .i64 x] Γr [] (fun v Γ => Γ = [] ∧ v = .int .i64 (if s < 0 then -1 else stepD d s x)) := by
  generalize hR : (fun (v : Value) (Γ : Ctx) => Γ = [] ∧ v = Value.int .i64 _) = R
  refine ret_of_vc tr175 (Nat.le_of_ble_eq_true rfl) ?_
  simp -implicitDefEqProofs only [S175, S175_0, go_sem, Nat.reduceBEq, Nat.reduceAdd, Nat.reduceSub, Nat.reduceMul, Nat.reduceLeDiff, reduceCtorEq, ↓reduceIte, Int.reduceLT, Int.reduceLE, Int.reduceEq, Int.reduceNe]
  intro b
  refine ⟨fun h => Up.here ?_, fun h => ?_⟩
  · rw [if_pos h] at hR
    subst hR
    exact ⟨rfl, rfl⟩
  rw [if_neg h] at hR
  obtain ⟨sn, rfl⟩ : ∃ n : Nat, s = n := ⟨s.toNat, by omega⟩
  obtain ⟨xn, rfl⟩ : ∃ n : Nat, x = n := ⟨x.toNat, by omega⟩
  have hsl : sn < d.nx.length := by omega
  have hrl := V.row _ (List.getElem_mem hsl)
  have hxl : xn < d.nx[sn].length := by omega
  rw [step_at hsl hxl] at hR
  obtain ⟨b1, o1, hB1, A1, c1, hr1, hc1⟩ := hB.list hsl
  obtain ⟨b2, o2, hA2, hc2⟩ := hr1.int hxl
  refine s_idx hB1 (by omega) (by omega) ?_
  simp -implicitDefEqProofs only [go_sem, Nat.reduceBEq, Nat.reduceAdd, Nat.reduceSub, Nat.reduceMul, Nat.reduceLeDiff, reduceCtorEq, ↓reduceIte, Int.reduceLT, Int.reduceLE, Int.reduceEq, Int.reduceNe]
  refine s_ld0 (hc1 _ (lk_r _ _)) (by simp) (by simp) ?_
  simp -implicitDefEqProofs only [go_sem, Nat.reduceBEq, Nat.reduceAdd, Nat.reduceSub, Nat.reduceMul, Nat.reduceLeDiff, reduceCtorEq, ↓reduceIte, Int.reduceLT, Int.reduceLE, Int.reduceEq, Int.reduceNe]
  refine s_idx hA2 (by omega) (by omega) ?_
  simp -implicitDefEqProofs only [go_sem, Nat.reduceBEq, Nat.reduceAdd, Nat.reduceSub, Nat.reduceMul, Nat.reduceLeDiff, reduceCtorEq, ↓reduceIte, Int.reduceLT, Int.reduceLE, Int.reduceEq, Int.reduceNe]
  refine s_ld0 (hc2 _ (lk_r _ _)) (by simp) (by simp) ?_
  simp -implicitDefEqProofs only [go_sem, Nat.reduceBEq, Nat.reduceAdd, Nat.reduceSub, Nat.reduceMul, Nat.reduceLeDiff, reduceCtorEq, ↓reduceIte, Int.reduceLT, Int.reduceLE, Int.reduceEq, Int.reduceNe]
  refine Up.here ?_
  subst hR
  exact ⟨rfl, rfl⟩
theorem ref_ends (hA : SlOk (lk Γr) A c d.ac) (hB : SlOk (lk Γr) B e d.nx) (V : VD d) {w : List Int} {W : Option Addr} {cw : Nat} (hW : SlOk (lk Γr) W cw w) (hw : okW d w) :
    Ret Try.prog 50 [.agg #[.int .i64 d.st, .slice A d.ac.length c, .slice B d.nx.length e], .slice W w.length cw] Γr [] (fun v Γ => Γ = [] ∧ v = .bool (endsD d d.st w)) := by
  generalize hR : (fun (v : Value) (Γ : Ctx) => Γ = [] ∧ v = Value.bool _) = R
  refine ret_of_vc tr50 (Nat.le_of_ble_eq_true rfl) ?_
  have hsW := hW.short
  have hst := V.st
  simp -implicitDefEqProofs only [S50, S50_0, go_sem, Nat.reduceBEq, Nat.reduceAdd, Nat.reduceSub, Nat.reduceMul, Nat.reduceLeDiff, reduceCtorEq, ↓reduceIte, Int.reduceLT, Int.reduceLE, Int.reduceEq, Int.reduceNe]
  intro b
  refine s_loop (fun f vs Γ => Γ = [] ∧ ∃ (k : Nat) (s : Int), vs = [.v true (.int .i64 s), .v true (.int .i64 k)] ∧ k + f = w.length ∧ -1 ≤ s ∧ s < d.nx.length ∧ endsD d d.st w = endsD d s (w.drop k)) w.length
    (Up.here ⟨rfl, 0, d.st, rfl, by omega, by omega, by omega, by simp⟩) ?_
  rintro f vs Γ ⟨rfl, k, s, rfl, hkf, h0, h1, he⟩
  simp -implicitDefEqProofs only [S50_1, go_sem, Nat.reduceBEq, Nat.reduceAdd, Nat.reduceSub, Nat.reduceMul, Nat.reduceLeDiff, reduceCtorEq, ↓reduceIte, Int.reduceLT, Int.reduceLE, Int.reduceEq, Int.reduceNe]
  refine ⟨fun hlt => ?_, fun hge => ?_⟩
  · have hk : k < w.length := by omega
    obtain ⟨b1, o1, hA1, hc1⟩ := hW.int hk
    have hx := hw _ (List.getElem_mem hk)
    rw [List.drop_eq_getElem_cons hk] at he
    simp only [endsD] at he
    refine s_idx hA1 (by omega) (by omega) ?_
    simp -implicitDefEqProofs only [go_sem, Nat.reduceBEq, Nat.reduceAdd, Nat.reduceSub, Nat.reduceMul, Nat.reduceLeDiff, reduceCtorEq, ↓reduceIte, Int.reduceLT, Int.reduceLE, Int.reduceEq, Int.reduceNe]
    refine s_ld0 (hc1 _ (lk_r _ _)) (by simp) (by simp) ?_
    simp -implicitDefEqProofs only [go_sem, Nat.reduceBEq, Nat.reduceAdd, Nat.reduceSub, Nat.reduceMul, Nat.reduceLeDiff, reduceCtorEq, ↓reduceIte, Int.reduceLT, Int.reduceLE, Int.reduceEq, Int.reduceNe]
    generalize w[k] = x at *
    refine ⟨fun h => Up.here ?_, fun h => ?_⟩
    · rw [if_pos h] at he
      subst hR
      exact ⟨rfl, by rw [he]⟩
    rw [if_neg h] at he
    have hsp := V.step (s := s) (x := x) (by omega) hx
    obtain ⟨sn, rfl⟩ : ∃ n : Nat, s = n := ⟨s.toNat, by omega⟩
    obtain ⟨xn, rfl⟩ : ∃ n : Nat, x = n := ⟨x.toNat, by omega⟩
    have hsl : sn < d.nx.length := by omega
    have hrl := V.row _ (List.getElem_mem hsl)
    have hxl : xn < d.nx[sn].length := by omega
    rw [step_at hsl hxl] at he hsp
    obtain ⟨b2, o2, hB2, A2, c2, hr2, hc2⟩ := hB.list hsl
    obtain ⟨b3, o3, hA3, hc3⟩ := hr2.int hxl
    refine s_idx hB2 (by omega) (by omega) ?_
    simp -implicitDefEqProofs only [go_sem, Nat.reduceBEq, Nat.reduceAdd, Nat.reduceSub, Nat.reduceMul, Nat.reduceLeDiff, reduceCtorEq, ↓reduceIte, Int.reduceLT, Int.reduceLE, Int.reduceEq, Int.reduceNe]
    refine s_ld0 (hc2 _ (lk_r _ _)) (by simp) (by simp) ?_
    simp -implicitDefEqProofs only [go_sem, Nat.reduceBEq, Nat.reduceAdd, Nat.reduceSub, Nat.reduceMul, Nat.reduceLeDiff, reduceCtorEq, ↓reduceIte, Int.reduceLT, Int.reduceLE, Int.reduceEq, Int.reduceNe]
    refine s_idx hA3 (by omega) (by omega) ?_
    simp -implicitDefEqProofs only [go_sem, Nat.reduceBEq, Nat.reduceAdd, Nat.reduceSub, Nat.reduceMul, Nat.reduceLeDiff, reduceCtorEq, ↓reduceIte, Int.reduceLT, Int.reduceLE, Int.reduceEq, Int.reduceNe]
    refine s_ld0 (hc3 _ (lk_r _ _)) (by simp) (by simp) ?_
    simp -implicitDefEqProofs only [go_sem, Nat.reduceBEq, Nat.reduceAdd, Nat.reduceSub, Nat.reduceMul, Nat.reduceLeDiff, reduceCtorEq, ↓reduceIte, Int.reduceLT, Int.reduceLE, Int.reduceEq, Int.reduceNe]
    simp (disch := omega) only [wrap_id]
    exact ⟨f - 1, by omega, Up.here ⟨rfl, k + 1, _, rfl, by omega, hsp.1, hsp.2, he⟩⟩
  · have hk : k = w.length := by omega
    rw [hk, List.drop_length] at he
    simp only [endsD] at he
    by_cases h : 0 ≤ s
    · obtain ⟨sn, rfl⟩ : ∃ n : Nat, s = n := ⟨s.toNat, by omega⟩
      have hsl : sn < d.ac.length := by have := V.acc; omega
      have hac : accD d sn = d.ac[sn] := by simp [accD, hsl]
      obtain ⟨b3, o3, hA3, hc3⟩ := hA.int hsl
      have hd : decide ((0 : Int) ≤ (sn : Int)) = true := by simp
      simp only [hd]
      simp -implicitDefEqProofs only [go_sem, Nat.reduceBEq, Nat.reduceAdd, Nat.reduceSub, Nat.reduceMul, Nat.reduceLeDiff, reduceCtorEq, ↓reduceIte, Int.reduceLT, Int.reduceLE, Int.reduceEq, Int.reduceNe]
      refine s_idx hA3 (by omega) (by omega) ?_
      simp -implicitDefEqProofs only [go_sem, Nat.reduceBEq, Nat.reduceAdd, Nat.reduceSub, Nat.reduceMul, Nat.reduceLeDiff, reduceCtorEq, ↓reduceIte, Int.reduceLT, Int.reduceLE, Int.reduceEq, Int.reduceNe]
      refine s_ld0 (hc3 _ (lk_r _ _)) (by simp) (by simp) ?_
      simp -implicitDefEqProofs only [go_sem, Nat.reduceBEq, Nat.reduceAdd, Nat.reduceSub, Nat.reduceMul, Nat.reduceLeDiff, reduceCtorEq, ↓reduceIte, Int.reduceLT, Int.reduceLE, Int.reduceEq, Int.reduceNe]
      refine Up.here ?_
      subst hR
      rw [hac] at he
      exact ⟨rfl, by rw [he]; simp⟩
    · have hd : decide (0 ≤ s) = false := by simpa using h
      simp only [hd]
      simp -implicitDefEqProofs only [go_sem, Nat.reduceBEq, Nat.reduceAdd, Nat.reduceSub, Nat.reduceMul, Nat.reduceLeDiff, reduceCtorEq, ↓reduceIte, Int.reduceLT, Int.reduceLE, Int.reduceEq, Int.reduceNe]
      refine s_idxg (b := 0) (o := 0) (by simp) ?_
      simp -implicitDefEqProofs only [go_sem, Nat.reduceBEq, Nat.reduceAdd, Nat.reduceSub, Nat.reduceMul, Nat.reduceLeDiff, reduceCtorEq, ↓reduceIte, Int.reduceLT, Int.reduceLE, Int.reduceEq, Int.reduceNe]
      refine s_ldg0 (cs := [.int .i64 0]) (by simp) (by simp) (by simp) (by simp) ?_
      simp -implicitDefEqProofs only [go_sem, Nat.reduceBEq, Nat.reduceAdd, Nat.reduceSub, Nat.reduceMul, Nat.reduceLeDiff, reduceCtorEq, ↓reduceIte, Int.reduceLT, Int.reduceLE, Int.reduceEq, Int.reduceNe]
      refine Up.here ?_
      subst hR
      exact ⟨rfl, by rw [he, hd]; simp⟩
/-- what dfa.Run answers -/
def RunR (d : Da) (w : List Int) (k e : Int) : Prop := (dfF d ≠ 0 ∧ e = dfF d ∧ k = 0) ∨ (dfF d = 0 ∧ 4000 < w.length ∧ e = 2 ∧ k = 0) ∨ (dfF d = 0 ∧ w.length ≤ 4000 ∧ ¬ okW d w ∧ e = 1 ∧ k = 0) ∨ (dfF d = 0 ∧ w.length ≤ 4000 ∧ okW d w ∧ e = 0 ∧ k = runD d d.st w)
theorem dfa_run (hA : SlOk (lk Γr) A c d.ac) (hB : SlOk (lk Γr) B e d.nx) {w : List Int} {W : Option Addr} {cw : Nat} (hW : SlOk (lk Γr) W cw w) :
    Ret Try.prog 116 [.agg #[.int .i64 d.st, .slice A d.ac.length c, .slice B d.nx.length e], .slice W w.length cw] Γr [] (fun v Γ => Γ = [] ∧ ∃ k e, v = .tuple #[.int .i64 k, .int .i64 e] ∧ RunR d w k e) := by
  generalize hR : (fun (v : Value) (Γ : Ctx) => Γ = [] ∧ ∃ k e, _) = R
  refine ret_of_vc tr116 (Nat.le_of_ble_eq_true rfl) ?_
  have hsW := hW.short
  simp -implicitDefEqProofs only [S116, S116_0, go_sem, Nat.reduceBEq, Nat.reduceAdd, Nat.reduceSub, Nat.reduceMul, Nat.reduceLeDiff, reduceCtorEq, ↓reduceIte, Int.reduceLT, Int.reduceLE, Int.reduceEq, Int.reduceNe]
  intro b
  refine CallVC.read (dfa_check (hA.mono (lk_r _ _)) (hB.mono (lk_r _ _))) ?_
  rintro v Γ' ⟨rfl, rfl⟩
  simp -implicitDefEqProofs only [go_sem, Nat.reduceBEq, Nat.reduceAdd, Nat.reduceSub, Nat.reduceMul, Nat.reduceLeDiff, reduceCtorEq, ↓reduceIte, Int.reduceLT, Int.reduceLE, Int.reduceEq, Int.reduceNe]
  refine ⟨fun h => Up.here ?_, fun h1 => ⟨fun h => Up.here ?_, fun h2 => ?_⟩⟩
  · subst hR
    exact ⟨rfl, _, _, rfl, .inl ⟨h, rfl, rfl⟩⟩
  · subst hR
    exact ⟨rfl, _, _, rfl, .inr (.inl ⟨h1, by omega, rfl, rfl⟩)⟩
  have V := dfF_ok h1
  have hpos : 0 < d.nx.length := by have := V.len; omega
  have hst := V.st
  obtain ⟨b1, o1, hB1, A1, c1, hr1, hc1⟩ := hB.list hpos
  rw [cols_at hpos] at hc1
  have hc1' : ∀ Γ : Ctx, Mem.le (lk Γr) (lk Γ) → Cells Γ b1 o1 [.slice A1 (colsD d) c1] := fun Γ h => by simpa using hc1 Γ h
  refine s_loop (fun f vs Γ => Γ = [] ∧ ∃ k : Nat, vs = [.v true (.int .i64 k)] ∧ k + f = w.length ∧ ∀ (j : Nat) (hj : j < w.length), j < k → 0 ≤ w[j] ∧ w[j] < colsD d) w.length
    (Up.here ⟨rfl, 0, rfl, by omega, fun j _ h => by omega⟩) ?_
  rintro f vs Γ ⟨rfl, k, rfl, hkf, hok⟩
  simp -implicitDefEqProofs only [S116_1, go_sem, Nat.reduceBEq, Nat.reduceAdd, Nat.reduceSub, Nat.reduceMul, Nat.reduceLeDiff, reduceCtorEq, ↓reduceIte, Int.reduceLT, Int.reduceLE, Int.reduceEq, Int.reduceNe]
  refine ⟨fun hlt => ?_, fun hge => ?_⟩
  · have hk : k < w.length := by omega
    obtain ⟨b2, o2, hA2, hc2⟩ := hW.int hk
    refine s_idx hA2 (by omega) (by omega) ?_
    simp -implicitDefEqProofs only [go_sem, Nat.reduceBEq, Nat.reduceAdd, Nat.reduceSub, Nat.reduceMul, Nat.reduceLeDiff, reduceCtorEq, ↓reduceIte, Int.reduceLT, Int.reduceLE, Int.reduceEq, Int.reduceNe]
    refine s_ld0 (hc2 _ (lk_r _ _)) (by simp) (by simp) ?_
    simp -implicitDefEqProofs only [go_sem, Nat.reduceBEq, Nat.reduceAdd, Nat.reduceSub, Nat.reduceMul, Nat.reduceLeDiff, reduceCtorEq, ↓reduceIte, Int.reduceLT, Int.reduceLE, Int.reduceEq, Int.reduceNe]
    refine s_idxg (fun he => ⟨by first | exact he | rfl | simp_all, by first | exact he | rfl | simp_all, hB1, by omega, by omega⟩) ?_
    simp -implicitDefEqProofs only [go_sem, Nat.reduceBEq, Nat.reduceAdd, Nat.reduceSub, Nat.reduceMul, Nat.reduceLeDiff, reduceCtorEq, ↓reduceIte, Int.reduceLT, Int.reduceLE, Int.reduceEq, Int.reduceNe]
    refine s_ldg0 (fun he => by first | exact he | rfl | simp_all) (fun _ => hc1' _ (lk_r _ _)) (by simp) (by simp) ?_
    simp -implicitDefEqProofs only [go_sem, Nat.reduceBEq, Nat.reduceAdd, Nat.reduceSub, Nat.reduceMul, Nat.reduceLeDiff, reduceCtorEq, ↓reduceIte, Int.reduceLT, Int.reduceLE, Int.reduceEq, Int.reduceNe]
    refine ⟨fun h => Up.here ?_, fun h => ?_⟩
    · subst hR
      exact ⟨rfl, _, _, rfl, .inr (.inr (.inl ⟨h1, by omega, fun q => by have := q _ (List.getElem_mem hk); omega, rfl, rfl⟩))⟩
    · simp (disch := omega) only [wrap_id]
      refine ⟨f - 1, by omega, Up.here ⟨rfl, k + 1, rfl, by omega, fun j hj h2 => ?_⟩⟩
      by_cases e : j = k
      · subst e; omega
      · exact hok j hj (by omega)
  have hk : k = w.length := by omega
  have hw : okW d w := fun x hx => by
    obtain ⟨j, hj, rfl⟩ := List.getElem_of_mem hx
    exact hok j hj (by omega)
  refine s_loop (fun f vs Γ => Γ = [] ∧ ∃ (k : Nat) (s : Int), vs = [.v true (.int .i64 s), .v true (.int .i64 k)] ∧ k + f = w.length ∧ 0 ≤ s ∧ s < d.nx.length ∧ runD d d.st w = runD d s (w.drop k)) w.length
    (Up.here ⟨rfl, 0, d.st, rfl, by omega, by omega, by omega, by simp⟩) ?_
  rintro f vs Γ ⟨rfl, k, s, rfl, hkf, h3, h4, he⟩
  simp -implicitDefEqProofs only [S116_2, go_sem, Nat.reduceBEq, Nat.reduceAdd, Nat.reduceSub, Nat.reduceMul, Nat.reduceLeDiff, reduceCtorEq, ↓reduceIte, Int.reduceLT, Int.reduceLE, Int.reduceEq, Int.reduceNe]
  obtain ⟨sn, rfl⟩ : ∃ n : Nat, s = n := ⟨s.toNat, by omega⟩
  have hsl : sn < d.nx.length := by omega
  refine ⟨fun hlt => ?_, fun hge => ?_⟩
  · have hk : k < w.length := by omega
    obtain ⟨b2, o2, hA2, hc2⟩ := hW.int hk
    have hx := hw _ (List.getElem_mem hk)
    rw [List.drop_eq_getElem_cons hk] at he
    simp only [runD] at he
    refine s_idx hA2 (by omega) (by omega) ?_
    simp -implicitDefEqProofs only [go_sem, Nat.reduceBEq, Nat.reduceAdd, Nat.reduceSub, Nat.reduceMul, Nat.reduceLeDiff, reduceCtorEq, ↓reduceIte, Int.reduceLT, Int.reduceLE, Int.reduceEq, Int.reduceNe]
    refine s_ld0 (hc2 _ (lk_r _ _)) (by simp) (by simp) ?_
    simp -implicitDefEqProofs only [go_sem, Nat.reduceBEq, Nat.reduceAdd, Nat.reduceSub, Nat.reduceMul, Nat.reduceLeDiff, reduceCtorEq, ↓reduceIte, Int.reduceLT, Int.reduceLE, Int.reduceEq, Int.reduceNe]
    generalize w[k] = x at *
    have hsp := V.step (s := sn) (x := x) (by omega) hx
    obtain ⟨xn, rfl⟩ : ∃ n : Nat, x = n := ⟨x.toNat, by omega⟩
    have hrl := V.row _ (List.getElem_mem hsl)
    have hxl : xn < d.nx[sn].length := by omega
    rw [step_at hsl hxl] at he hsp
    obtain ⟨b4, o4, hB4, A4, c4, hr4, hc4⟩ := hB.list hsl
    obtain ⟨b3, o3, hA3, hc3⟩ := hr4.int hxl
    refine s_idx hB4 (by omega) (by omega) ?_
    simp -implicitDefEqProofs only [go_sem, Nat.reduceBEq, Nat.reduceAdd, Nat.reduceSub, Nat.reduceMul, Nat.reduceLeDiff, reduceCtorEq, ↓reduceIte, Int.reduceLT, Int.reduceLE, Int.reduceEq, Int.reduceNe]
    refine s_ld0 (hc4 _ (lk_r _ _)) (by simp) (by simp) ?_
    simp -implicitDefEqProofs only [go_sem, Nat.reduceBEq, Nat.reduceAdd, Nat.reduceSub, Nat.reduceMul, Nat.reduceLeDiff, reduceCtorEq, ↓reduceIte, Int.reduceLT, Int.reduceLE, Int.reduceEq, Int.reduceNe]
    refine s_idx hA3 (by omega) (by omega) ?_
    simp -implicitDefEqProofs only [go_sem, Nat.reduceBEq, Nat.reduceAdd, Nat.reduceSub, Nat.reduceMul, Nat.reduceLeDiff, reduceCtorEq, ↓reduceIte, Int.reduceLT, Int.reduceLE, Int.reduceEq, Int.reduceNe]
    refine s_ld0 (hc3 _ (lk_r _ _)) (by simp) (by simp) ?_
    simp -implicitDefEqProofs only [go_sem, Nat.reduceBEq, Nat.reduceAdd, Nat.reduceSub, Nat.reduceMul, Nat.reduceLeDiff, reduceCtorEq, ↓reduceIte, Int.reduceLT, Int.reduceLE, Int.reduceEq, Int.reduceNe]
    refine ⟨fun h => Up.here ?_, fun h => ?_⟩
    · rw [if_pos h] at he
      subst hR
      exact ⟨rfl, _, _, rfl, .inr (.inr (.inr ⟨h1, by omega, hw, rfl, he.symm⟩))⟩
    · rw [if_neg h] at he
      simp (disch := omega) only [wrap_id]
      exact ⟨f - 1, by omega, Up.here ⟨rfl, k + 1, _, rfl, by omega, by omega, hsp.2, he⟩⟩
  · have hk : k = w.length := by omega
    rw [hk, List.drop_length] at he
    simp only [runD] at he
    have hsa : sn < d.ac.length := by have := V.acc; omega
    have hac : accD d sn = d.ac[sn] := by simp [accD, hsa]
    obtain ⟨b3, o3, hA3, hc3⟩ := hA.int hsa
    refine s_idx hA3 (by omega) (by omega) ?_
    simp -implicitDefEqProofs only [go_sem, Nat.reduceBEq, Nat.reduceAdd, Nat.reduceSub, Nat.reduceMul, Nat.reduceLeDiff, reduceCtorEq, ↓reduceIte, Int.reduceLT, Int.reduceLE, Int.reduceEq, Int.reduceNe]
    refine s_ld0 (hc3 _ (lk_r _ _)) (by simp) (by simp) ?_
    simp -implicitDefEqProofs only [go_sem, Nat.reduceBEq, Nat.reduceAdd, Nat.reduceSub, Nat.reduceMul, Nat.reduceLeDiff, reduceCtorEq, ↓reduceIte, Int.reduceLT, Int.reduceLE, Int.reduceEq, Int.reduceNe]
    refine Up.here ?_
    subst hR
    exact ⟨rfl, _, _, rfl, .inr (.inr (.inr ⟨h1, by omega, hw, rfl, by rw [he, hac]⟩))⟩
end
/-- the cells of a list of numbers that is not empty -/
theorem ints_at {L : Mem} {A : Option Addr} {c : Nat} {l : List Int} (hA : SlOk L A c l) (h0 : 0 < l.length) : ∃ b o, A = some ⟨b, o, none⟩ ∧ ∀ j : Nat, j < l.length → ∀ Γ : Ctx, Mem.le L (lk Γ) → Cells Γ b (o + j) [.int .i64 (l.getD j 0)] := by
  obtain ⟨b, o, he, _⟩ := hA.int h0
  refine ⟨b, o, he, fun j hj Γ hΓ => ?_⟩
  obtain ⟨b', o', he', hc⟩ := hA.int hj
  rw [he] at he'
  simp only [Option.some.injEq, Addr.mk.injEq, and_true] at he'
  obtain ⟨rfl, rfl⟩ := he'
  rw [show l.getD j 0 = l[j] by simp [hj]]
  exact hc Γ hΓ
end Go.Proofs.Ytniobbepliknmaa.V
/- The text of cmp.Compare[int] as a statement (slots: 0 x, 1 y, 2 x, 3 y, 5 xNaN, 6 yNaN); no condition. -/
namespace Go.Proofs.Ytniobbepliknmaa.V
open Go
def S105_0 : Stmt :=
  Stmt.seq (Stmt.region [SOper.mk (some 4) none (SOp.mv (Operand.const (Value.int IntKind.i64 0)))] [0, 1])
  (Stmt.seq
    (Stmt.region
      [SOper.mk (some 7) none (SOp.mv (Operand.tmp 0)),
        SOper.mk (some 8) none (SOp.call (Operand.func 170) [Operand.tmp 7]),
        SOper.mk (some 5) none (SOp.mv (Operand.tmp 8))]
      [0, 1, 5])
    (Stmt.seq
      (Stmt.region
        [SOper.mk (some 9) none (SOp.mv (Operand.tmp 1)),
          SOper.mk (some 10) none (SOp.call (Operand.func 170) [Operand.tmp 9]),
          SOper.mk (some 6) none (SOp.mv (Operand.tmp 10))]
        [0, 1, 5, 6])
      (Stmt.seq
        (Stmt.seq (Stmt.region [SOper.mk (some 11) none (SOp.mv (Operand.tmp 5))] [0, 1, 6, 11])
          (Stmt.cond (Operand.tmp 11)
            (Stmt.seq
              (Stmt.seq (Stmt.region [SOper.mk (some 12) none (SOp.mv (Operand.tmp 6))] [12])
                (Stmt.cond (Operand.tmp 12)
                  (Stmt.seq
                    (Stmt.region [SOper.mk (some 4) none (SOp.mv (Operand.const (Value.int IntKind.i64 0)))] [4])
                    Stmt.ret)
                  Stmt.skip))
              (Stmt.seq (Stmt.region [SOper.mk (some 4) none (SOp.mv (Operand.const (Value.int IntKind.i64 (-1))))] [4])
                Stmt.ret))
            Stmt.skip))
        (Stmt.seq
          (Stmt.seq (Stmt.region [SOper.mk (some 13) none (SOp.mv (Operand.tmp 6))] [0, 1, 13])
            (Stmt.cond (Operand.tmp 13)
              (Stmt.seq (Stmt.region [SOper.mk (some 4) none (SOp.mv (Operand.const (Value.int IntKind.i64 1)))] [4])
                Stmt.ret)
              Stmt.skip))
          (Stmt.seq
            (Stmt.seq
              (Stmt.region
                [SOper.mk (some 14) none (SOp.mv (Operand.tmp 0)), SOper.mk (some 15) none (SOp.mv (Operand.tmp 1)),
                  SOper.mk (some 16) none (SOp.ibin BinOp.lss (Operand.tmp 14) (Operand.tmp 15))]
                [0, 1, 16])
              (Stmt.cond (Operand.tmp 16)
                (Stmt.seq
                  (Stmt.region [SOper.mk (some 4) none (SOp.mv (Operand.const (Value.int IntKind.i64 (-1))))] [4])
                  Stmt.ret)
                Stmt.skip))
            (Stmt.seq
              (Stmt.seq
                (Stmt.region
                  [SOper.mk (some 17) none (SOp.mv (Operand.tmp 0)), SOper.mk (some 18) none (SOp.mv (Operand.tmp 1)),
                    SOper.mk (some 19) none (SOp.ibin BinOp.gtr (Operand.tmp 17) (Operand.tmp 18))]
                  [19])
                (Stmt.cond (Operand.tmp 19)
                  (Stmt.seq
                    (Stmt.region [SOper.mk (some 4) none (SOp.mv (Operand.const (Value.int IntKind.i64 1)))] [4])
                    Stmt.ret)
                  Stmt.skip))
              (Stmt.seq (Stmt.region [SOper.mk (some 4) none (SOp.mv (Operand.const (Value.int IntKind.i64 0)))] [4])
                Stmt.ret)))))))
def S105 : FnS := ⟨20, [(4, none)], S105_0⟩
theorem tr105 : trFn Try.prog 105 [] [[0, 1], [0, 1, 5], [0, 1, 5, 6], [0, 1, 6, 11], [12], [4], [4], [0, 1, 13], [4], [0, 1, 16], [4], [19], [4], [4]] = some S105 := by kernel_rfl
end Go.Proofs.Ytniobbepliknmaa.V
/- The text of slices.Compare[[]int,int] as a statement (slots: 0 s1, 1 s2, 2 s1, 3 s2, 5 i, 6 v1, 7 v2, 8 c); no condition. -/
namespace Go.Proofs.Ytniobbepliknmaa.V
open Go
def S26_1 : Stmt :=
  Stmt.seq
  (Stmt.region [SOper.mk (some 12) none (SOp.ibin BinOp.lss (Operand.tmp 11) (Operand.tmp 10))] [0, 1, 9, 10, 11, 12])
  (Stmt.seq (Stmt.cond (Operand.tmp 12) Stmt.skip (Stmt.exit 0))
    (Stmt.seq
      (Stmt.block 1
        (Stmt.seq
          (Stmt.region
            [SOper.mk (some 13) none (SOp.mv (Operand.tmp 11)),
              SOper.mk (some 14) none (SOp.idx 1 (Operand.tmp 9) (Operand.tmp 11)),
              SOper.mk (some 15) none (SOp.load false 1 (Operand.tmp 14)),
              SOper.mk (some 5) none (SOp.mv (Operand.tmp 13)), SOper.mk (some 6) none (SOp.mv (Operand.tmp 15))]
            [0, 1, 5, 6, 9, 10, 11])
          (Stmt.seq
            (Stmt.seq
              (Stmt.region
                [SOper.mk (some 16) none (SOp.mv (Operand.tmp 5)), SOper.mk (some 17) none (SOp.mv (Operand.tmp 1)),
                  SOper.mk (some 18) none (SOp.len false (Operand.tmp 17)),
                  SOper.mk (some 19) none (SOp.ibin BinOp.geq (Operand.tmp 16) (Operand.tmp 18))]
                [0, 1, 5, 6, 9, 10, 11, 19])
              (Stmt.cond (Operand.tmp 19)
                (Stmt.seq (Stmt.region [SOper.mk (some 4) none (SOp.mv (Operand.const (Value.int IntKind.i64 1)))] [4])
                  Stmt.ret)
                Stmt.skip))
            (Stmt.seq
              (Stmt.region
                [SOper.mk (some 20) none (SOp.mv (Operand.tmp 1)), SOper.mk (some 21) none (SOp.mv (Operand.tmp 5)),
                  SOper.mk (some 22) none (SOp.idx 1 (Operand.tmp 20) (Operand.tmp 21)),
                  SOper.mk (some 23) none (SOp.load false 1 (Operand.tmp 22)),
                  SOper.mk (some 7) none (SOp.mv (Operand.tmp 23))]
                [0, 1, 6, 7, 9, 10, 11])
              (Stmt.seq
                (Stmt.region
                  [SOper.mk (some 24) none (SOp.mv (Operand.tmp 6)), SOper.mk (some 25) none (SOp.mv (Operand.tmp 7)),
                    SOper.mk (some 26) none (SOp.call (Operand.func 105) [Operand.tmp 24, Operand.tmp 25]),
                    SOper.mk (some 8) none (SOp.mv (Operand.tmp 26))]
                  [0, 1, 8, 9, 10, 11])
                (Stmt.seq
                  (Stmt.region
                    [SOper.mk (some 27) none (SOp.mv (Operand.tmp 8)),
                      SOper.mk (some 28) none
                        (SOp.ibin BinOp.neq (Operand.tmp 27) (Operand.const (Value.int IntKind.i64 0)))]
                    [0, 1, 8, 9, 10, 11, 28])
                  (Stmt.cond (Operand.tmp 28)
                    (Stmt.seq
                      (Stmt.region
                        [SOper.mk (some 29) none (SOp.mv (Operand.tmp 8)),
                          SOper.mk (some 4) none (SOp.mv (Operand.tmp 29))]
                        [4])
                      Stmt.ret)
                    Stmt.skip)))))))
      (Stmt.region
        [SOper.mk (some 30) none (SOp.ibin BinOp.add (Operand.tmp 11) (Operand.const (Value.int IntKind.i64 1))),
          SOper.mk (some 11) none (SOp.mv (Operand.tmp 30))]
        [0, 1, 9, 10, 11])))
def S26_0 : Stmt :=
  Stmt.seq (Stmt.region [SOper.mk (some 4) none (SOp.mv (Operand.const (Value.int IntKind.i64 0)))] [0, 1])
  (Stmt.seq
    (Stmt.seq
      (Stmt.region
        [SOper.mk (some 9) none (SOp.mv (Operand.tmp 0)), SOper.mk (some 10) none (SOp.len false (Operand.tmp 9)),
          SOper.mk (some 11) none (SOp.mv (Operand.const (Value.int IntKind.i64 0)))]
        [0, 1, 9, 10, 11])
      (Stmt.block 0 (Stmt.loop S26_1 [11] [0, 1, 9, 10])))
    (Stmt.seq
      (Stmt.seq
        (Stmt.region
          [SOper.mk (some 31) none (SOp.mv (Operand.tmp 0)), SOper.mk (some 32) none (SOp.len false (Operand.tmp 31)),
            SOper.mk (some 33) none (SOp.mv (Operand.tmp 1)), SOper.mk (some 34) none (SOp.len false (Operand.tmp 33)),
            SOper.mk (some 35) none (SOp.ibin BinOp.lss (Operand.tmp 32) (Operand.tmp 34))]
          [35])
        (Stmt.cond (Operand.tmp 35)
          (Stmt.seq (Stmt.region [SOper.mk (some 4) none (SOp.mv (Operand.const (Value.int IntKind.i64 (-1))))] [4])
            Stmt.ret)
          Stmt.skip))
      (Stmt.seq (Stmt.region [SOper.mk (some 4) none (SOp.mv (Operand.const (Value.int IntKind.i64 0)))] [4])
        Stmt.ret)))
def S26 : FnS := ⟨36, [(4, none)], S26_0⟩
theorem tr26 : trFn Try.prog 26 [] [[0, 1], [0, 1, 9, 10, 11], [11], [0, 1, 9, 10], [0, 1, 9, 10, 11, 12], [0, 1, 5, 6, 9, 10, 11], [0, 1, 5, 6, 9, 10, 11, 19], [4], [0, 1, 6, 7, 9, 10, 11], [0, 1, 8, 9, 10, 11], [0, 1, 8, 9, 10, 11, 28], [4], [0, 1, 9, 10, 11], [35], [4], [4]] = some S26 := by kernel_rfl
end Go.Proofs.Ytniobbepliknmaa.V
/- The text of cmp.isNaN[int] as a statement (slots: 0 x, 1 x); no condition. -/
namespace Go.Proofs.Ytniobbepliknmaa.V
open Go
def S170_0 : Stmt :=
  Stmt.seq (Stmt.region [SOper.mk (some 2) none (SOp.mv (Operand.const (Value.bool false)))] [0])
  (Stmt.seq
    (Stmt.region
      [SOper.mk (some 3) none (SOp.mv (Operand.tmp 0)), SOper.mk (some 4) none (SOp.mv (Operand.tmp 0)),
        SOper.mk (some 5) none (SOp.ibin BinOp.neq (Operand.tmp 3) (Operand.tmp 4)),
        SOper.mk (some 2) none (SOp.mv (Operand.tmp 5))]
      [2])
    Stmt.ret)
def S170 : FnS := ⟨6, [(2, none)], S170_0⟩
theorem tr170 : trFn Try.prog 170 [] [[0], [2]] = some S170 := by kernel_rfl
end Go.Proofs.Ytniobbepliknmaa.V
/- cmp.Compare and slices.Compare of whole numbers walked; no condition. -/
namespace Go.Proofs.Ytniobbepliknmaa.V
open Go
set_option linter.unusedVariables false
set_option linter.unusedSimpArgs false
attribute [local go_sem] e_seq e_region e_quiet e_join e_loop e_cond e_block e_exit e_ret e_skip e_fin e_kseq e_snrm e_sret e_sex e_bnrm e_bret e_bex e_rnrm e_rret e_res e_condC e_nil e_g e_mv g_mv e_pick g_pick pickC_eq e_ibin g_ibin ibinC_eq e_sbin g_sbin e_beq g_beq beqC_eq e_nilq g_nilq nilqC_sl nilqC_pt nilqC_mp e_un g_un unC_not unC_neg e_conv g_conv convC_eq e_fld g_fld fldC_ref fldC_ptr e_nilCheck g_nilCheck nilCheckC_ref nilCheckC_ptr nilCheckC_fun e_field g_field fieldC_eq e_len g_len lenC_sl lenC_str e_extract g_extract extractC_eq e_mkFunc e_build g_build e_idiv g_idiv idivC_eq e_ishift g_ishift ishiftC_eq e_idx g_idx e_idxA g_idxA e_load g_load loadC_ref loadC_ptr loadB_eq e_slc g_slc e_box boxC_loc boxC_esc e_alloc allocC_loc allocC_esc e_buildS e_store storeC_ref storeC_ptr storeB_eq e_append e_appz e_mk mkC_eq e_call callC_eq e_fn g_fn fnC_eq fnV_min' fnV_max' fnV_rune' e_q g_q e_a e_n g_call g_box g_alloc g_buildS g_store g_append g_mk g_a g_n g_dead e_dead e_callK e_drawn e_tree e_finJ e_tk e_tfin e_tno e_nbt_q e_nbt_qn e_nbt_a e_nbt_an e_nbt_fin e_early_nil e_early_t e_early_f e_nob_nil e_nob_none e_nob_some isBox_dead isBox_v isBox_ref e_dnil e_dk e_ek e_finB vcOps_vc1 e_dcons e_tq e_ekt e_tearly e_talt e_dearly look_nil look_c proj_nil proj_c looks_nil looks_c zip_nil zip_c val_tmp val_const val_func slv_v slv_box slv_ref slot_tmp slot_const slot_func slotL_v slotL_box slotL_ref put_some put_none updBox_c boxSet_box gd_eq slotVals_nil slotVals_c slotVals_b boxV_box boxOn_box slotsOn_nil slotsOn_c slotsOn_b resV_one resV_two vals_nil vals_c allOn_nil allOn_c partOn_nil partOn_c partVals_nil partVals_c fits_nil fits_c fillL_nil fillL_c mkv_one mkv_agg cellsV_agg cellsV_int cellsV_bool cellsV_slice cellsV_string cellsV_pointer cellsV_func cellsV_nilf cellsV_map one'_nil one'_c oc_int oc_bool oc_slice oc_string oc_pointer oc_func oc_nilf oc_map setC_eq iv_add iv_sub iv_mul iv_eql iv_neq iv_lss iv_leq iv_gtr iv_geq iok_add iok_sub iok_mul iok_eql iok_neq iok_lss iok_leq iok_gtr iok_geq pickV_bool args0_nil args0_c bnd_none bnd_some imp_bt imp_bf imp_ebt imp_ebf imp_eb1 imp_np imp_pp beq_tt beq_tf beq_ft beq_ff cond_or cond_and e_round e_meet Int.le_refl Int.toNat_zero decide_true decide_false Bool.or_false Bool.false_or Bool.true_or Bool.or_true Bool.and_false Bool.false_and Bool.bne_false Bool.bne_true beq_iff_eq Int.cast_ofNat_Int not_false_eq_true not_true_eq_false false_and and_false false_implies true_implies true_and and_true Bool.true_and Bool.and_true Bool.not_true Bool.not_false forall_const implies_true List.take_zero List.drop_zero List.take_succ_cons List.drop_succ_cons List.take_nil List.drop_nil List.length_cons List.length_nil List.nil_append List.append_nil List.cons_append Int.toNat_natCast decide_eq_true_eq decide_eq_false_iff_not cond_true cond_false and_self List.getElem?_cons_zero List.getElem?_cons_succ List.set_cons_zero List.set_cons_succ Option.some.injEq exists_eq_left' Nat.zero_add Nat.add_zero Nat.mul_one imp_self true_or or_true or_false false_or Bool.or_eq_true Bool.or_eq_false_iff Bool.and_eq_true Bool.and_eq_false_iff Bool.not_eq_true' Bool.not_eq_false'

def cmpI (a b : Int) : Int := if a < b then -1 else if b < a then 1 else 0
def cmpL : List Int → List Int → Int
  | [], [] => 0
  | [], _ :: _ => -1
  | _ :: _, [] => 1
  | a :: r, b :: s => if cmpI a b = 0 then cmpL r s else cmpI a b

theorem is_nan {Γr : Ctx} (a : Int) : Ret Try.prog 170 [.int .i64 a] Γr [] (fun v Γ => Γ = [] ∧ v = .bool false) := by
  generalize hR : (fun (v : Value) (Γ : Ctx) => Γ = [] ∧ _) = R
  refine ret_of_vc tr170 (Nat.le_of_ble_eq_true rfl) ?_
  simp only [S170, S170_0, go_sem, Nat.reduceBEq, Nat.reduceAdd, Nat.reduceSub, Nat.reduceMul, Nat.reduceLeDiff, reduceCtorEq, ↓reduceIte, Int.reduceLT, Int.reduceLE, Int.reduceEq, Int.reduceNe]
  refine Up.here ?_
  subst hR
  exact ⟨rfl, by simp⟩
theorem cmp_compare {Γr : Ctx} (a b : Int) : Ret Try.prog 105 [.int .i64 a, .int .i64 b] Γr [] (fun v Γ => Γ = [] ∧ v = .int .i64 (cmpI a b)) := by
  generalize hR : (fun (v : Value) (Γ : Ctx) => Γ = [] ∧ _) = R
  refine ret_of_vc tr105 (Nat.le_of_ble_eq_true rfl) ?_
  simp only [S105, S105_0, go_sem, Nat.reduceBEq, Nat.reduceAdd, Nat.reduceSub, Nat.reduceMul, Nat.reduceLeDiff, reduceCtorEq, ↓reduceIte, Int.reduceLT, Int.reduceLE, Int.reduceEq, Int.reduceNe]
  refine CallVC.read (is_nan a) ?_
  rintro v Γ' ⟨rfl, rfl⟩
  simp only [go_sem, Nat.reduceBEq, Nat.reduceAdd, Nat.reduceSub, Nat.reduceMul, Nat.reduceLeDiff, reduceCtorEq, ↓reduceIte, Int.reduceLT, Int.reduceLE, Int.reduceEq, Int.reduceNe]
  refine CallVC.read (is_nan b) ?_
  rintro v Γ' ⟨rfl, rfl⟩
  simp only [go_sem, Nat.reduceBEq, Nat.reduceAdd, Nat.reduceSub, Nat.reduceMul, Nat.reduceLeDiff, reduceCtorEq, ↓reduceIte, Int.reduceLT, Int.reduceLE, Int.reduceEq, Int.reduceNe]
  subst hR
  refine ⟨fun h => Up.here ⟨rfl, ?_⟩, fun h => ⟨fun h' => Up.here ⟨rfl, ?_⟩, fun h' => Up.here ⟨rfl, ?_⟩⟩⟩
  · simp [cmpI, h]
  · simp [cmpI, h, h']
  · simp [cmpI, h, h']

theorem slices_compare {Γr : Ctx} {A B : Option Addr} {c d : Nat} {xs ys : List Int} (hx : SlOk (lk Γr) A c xs) (hy : SlOk (lk Γr) B d ys) :
    Ret Try.prog 26 [.slice A xs.length c, .slice B ys.length d] Γr [] (fun v Γ => Γ = [] ∧ v = .int .i64 (cmpL xs ys)) := by
  generalize hR : (fun (v : Value) (Γ : Ctx) => Γ = [] ∧ _) = R
  refine ret_of_vc tr26 (Nat.le_of_ble_eq_true rfl) ?_
  have h1 := hx.short
  have h2 := hy.short
  simp only [S26, S26_0, go_sem, Nat.reduceBEq, Nat.reduceAdd, Nat.reduceSub, Nat.reduceMul, Nat.reduceLeDiff, reduceCtorEq, ↓reduceIte, Int.reduceLT, Int.reduceLE, Int.reduceEq, Int.reduceNe]
  refine s_loop (fun f vs Γ => Γ = [] ∧ ∃ k : Nat, vs = [.v true (.int .i64 k)] ∧ k + f = xs.length ∧ k ≤ ys.length ∧ cmpL xs ys = cmpL (xs.drop k) (ys.drop k)) xs.length (Up.here ⟨rfl, 0, rfl, by omega, by omega, by simp⟩) ?_
  rintro f vs Γ ⟨rfl, k, rfl, hkf, hky, he⟩
  simp only [S26_1, go_sem, Nat.reduceBEq, Nat.reduceAdd, Nat.reduceSub, Nat.reduceMul, Nat.reduceLeDiff, reduceCtorEq, ↓reduceIte, Int.reduceLT, Int.reduceLE, Int.reduceEq, Int.reduceNe]
  refine ⟨fun hlt => ?_, fun hge => ?_⟩
  · have hk : k < xs.length := by omega
    obtain ⟨b, o, hA, hc1⟩ := hx.int hk
    refine s_idx hA (by omega) (by omega) ?_
    simp only [go_sem, Nat.reduceBEq, Nat.reduceAdd, Nat.reduceSub, Nat.reduceMul, Nat.reduceLeDiff, reduceCtorEq, ↓reduceIte, Int.reduceLT, Int.reduceLE, Int.reduceEq, Int.reduceNe]
    refine s_ld0 (hc1 _ (Mem.le.refl _)) (by simp) (by simp) ?_
    simp only [go_sem, Nat.reduceBEq, Nat.reduceAdd, Nat.reduceSub, Nat.reduceMul, Nat.reduceLeDiff, reduceCtorEq, ↓reduceIte, Int.reduceLT, Int.reduceLE, Int.reduceEq, Int.reduceNe]
    rw [List.drop_eq_getElem_cons hk] at he
    refine ⟨fun hle => Up.here ?_, fun hlt2 => ?_⟩
    · have : ys.drop k = [] := List.drop_eq_nil_of_le (by omega)
      subst hR
      refine ⟨rfl, ?_⟩
      rw [he, this]
      rfl
    · have hk' : k < ys.length := by omega
      obtain ⟨b', o', hB, hc2⟩ := hy.int hk'
      refine s_idx hB (by omega) (by omega) ?_
      simp only [go_sem, Nat.reduceBEq, Nat.reduceAdd, Nat.reduceSub, Nat.reduceMul, Nat.reduceLeDiff, reduceCtorEq, ↓reduceIte, Int.reduceLT, Int.reduceLE, Int.reduceEq, Int.reduceNe]
      refine s_ld0 (hc2 _ (Mem.le.refl _)) (by simp) (by simp) ?_
      simp only [go_sem, Nat.reduceBEq, Nat.reduceAdd, Nat.reduceSub, Nat.reduceMul, Nat.reduceLeDiff, reduceCtorEq, ↓reduceIte, Int.reduceLT, Int.reduceLE, Int.reduceEq, Int.reduceNe]
      refine CallVC.read (cmp_compare _ _) ?_
      rintro v Γ' ⟨rfl, rfl⟩
      rw [List.drop_eq_getElem_cons hk', cmpL] at he
      simp only [go_sem, Nat.reduceBEq, Nat.reduceAdd, Nat.reduceSub, Nat.reduceMul, Nat.reduceLeDiff, reduceCtorEq, ↓reduceIte, Int.reduceLT, Int.reduceLE, Int.reduceEq, Int.reduceNe]
      refine ⟨fun hne => Up.here ?_, fun heq => ?_⟩
      · rw [if_neg hne] at he
        subst hR
        exact ⟨rfl, by rw [he]⟩
      · rw [if_pos heq] at he
        simp (disch := omega) only [wrap_id]
        exact ⟨f - 1, by omega, Up.here ⟨rfl, k + 1, rfl, by omega, by omega, he⟩⟩
  · have hk : k = xs.length := by omega
    rw [hk, List.drop_length] at he
    subst hR
    refine ⟨fun h => Up.here ⟨rfl, ?_⟩, fun h => Up.here ⟨rfl, ?_⟩⟩
    · rw [he, List.drop_eq_getElem_cons (by omega)]
      rfl
    · rw [he, List.drop_eq_nil_of_le (by omega)]
      rfl
end Go.Proofs.Ytniobbepliknmaa.V
/- The text of parlance/gram.Order as a statement (slots: 0 a, 1 b, 2 a, 3 b); no condition. -/
namespace Go.Proofs.Ytniobbepliknmaa.V
open Go
def S203_0 : Stmt :=
  Stmt.seq
  (Stmt.region
    [SOper.mk (some 2) none (SOp.box true 39 (Operand.tmp 0)), SOper.mk (some 3) none (SOp.box true 39 (Operand.tmp 1)),
      SOper.mk (some 4) none (SOp.mv (Operand.const (Value.int IntKind.i64 0)))]
    [2, 3])
  (Stmt.seq
    (Stmt.block 0
      (Stmt.seq
        (Stmt.region
          [SOper.mk (some 6) none (SOp.fld 0 (Operand.tmp 2)),
            SOper.mk (some 7) none (SOp.load false 1 (Operand.tmp 6)), SOper.mk (some 8) none (SOp.mv (Operand.tmp 7)),
            SOper.mk (some 9) (some (8, true)) (SOp.fld 0 (Operand.tmp 3)),
            SOper.mk (some 10) (some (8, true)) (SOp.load false 1 (Operand.tmp 9)),
            SOper.mk (some 11) (some (8, true)) (SOp.un UnOp.not (Operand.tmp 10)),
            SOper.mk (some 12) none (SOp.pick (Operand.tmp 8) (Operand.tmp 11) (Operand.const (Value.bool false))),
            SOper.mk (some 5) none (SOp.mv (Operand.tmp 12))]
          [2, 3, 5])
        (Stmt.cond (Operand.tmp 5)
          (Stmt.seq (Stmt.region [SOper.mk (some 4) none (SOp.mv (Operand.const (Value.int IntKind.i64 (-1))))] [4])
            Stmt.ret)
          (Stmt.seq
            (Stmt.region
              [SOper.mk (some 14) none (SOp.fld 0 (Operand.tmp 2)),
                SOper.mk (some 15) none (SOp.load false 1 (Operand.tmp 14)),
                SOper.mk (some 16) none (SOp.un UnOp.not (Operand.tmp 15)),
                SOper.mk (some 17) none (SOp.mv (Operand.tmp 16)),
                SOper.mk (some 18) (some (17, true)) (SOp.fld 0 (Operand.tmp 3)),
                SOper.mk (some 19) (some (17, true)) (SOp.load false 1 (Operand.tmp 18)),
                SOper.mk (some 20) none (SOp.pick (Operand.tmp 17) (Operand.tmp 19) (Operand.const (Value.bool false))),
                SOper.mk (some 13) none (SOp.mv (Operand.tmp 20))]
              [2, 3, 13])
            (Stmt.cond (Operand.tmp 13)
              (Stmt.seq (Stmt.region [SOper.mk (some 4) none (SOp.mv (Operand.const (Value.int IntKind.i64 1)))] [4])
                Stmt.ret)
              Stmt.skip)))))
    (Stmt.seq
      (Stmt.region
        [SOper.mk (some 21) none (SOp.fld 1 (Operand.tmp 2)),
          SOper.mk (some 22) none (SOp.load false 1 (Operand.tmp 21)),
          SOper.mk (some 23) none (SOp.fld 1 (Operand.tmp 3)),
          SOper.mk (some 24) none (SOp.load false 1 (Operand.tmp 23)),
          SOper.mk (some 25) none (SOp.call (Operand.func 105) [Operand.tmp 22, Operand.tmp 24]),
          SOper.mk (some 4) none (SOp.mv (Operand.tmp 25))]
        [4])
      Stmt.ret))
def S203 : FnS := ⟨26, [(4, none)], S203_0⟩
theorem tr203 : trFn Try.prog 203 [2, 3] [[2, 3], [2, 3, 5], [4], [2, 3, 13], [4], [4]] = some S203 := by kernel_rfl
end Go.Proofs.Ytniobbepliknmaa.V
/- The text of slices.CompareFunc[[]parlance/api.Sym,[]parlance/api.Sym,parlance/api.Sym,parlance/api.Sym] as a statement (slots: 0 s1, 1 s2, 2 cmp, 3 s1, 4 s2, 5 cmp, 7 i, 8 v1, 9 v2, 10 c); no condition. -/
namespace Go.Proofs.Ytniobbepliknmaa.V
open Go
def S202_1 : Stmt :=
  Stmt.seq
  (Stmt.region [SOper.mk (some 14) none (SOp.ibin BinOp.lss (Operand.tmp 13) (Operand.tmp 12))]
    [0, 1, 2, 11, 12, 13, 14])
  (Stmt.seq (Stmt.cond (Operand.tmp 14) Stmt.skip (Stmt.exit 0))
    (Stmt.seq
      (Stmt.block 1
        (Stmt.seq
          (Stmt.region
            [SOper.mk (some 15) none (SOp.mv (Operand.tmp 13)),
              SOper.mk (some 16) none (SOp.idx 2 (Operand.tmp 11) (Operand.tmp 13)),
              SOper.mk (some 17) none (SOp.load true 2 (Operand.tmp 16)),
              SOper.mk (some 8) none
                (SOp.alloc true 39 (Value.agg (Array.mk [Value.bool false, Value.int IntKind.i64 0]))),
              SOper.mk (some 7) none (SOp.mv (Operand.tmp 15)),
              SOper.mk none none (SOp.store 2 (Operand.tmp 8) (Operand.tmp 17))]
            [0, 1, 2, 7, 8, 11, 12, 13])
          (Stmt.seq
            (Stmt.seq
              (Stmt.region
                [SOper.mk (some 18) none (SOp.mv (Operand.tmp 7)), SOper.mk (some 19) none (SOp.mv (Operand.tmp 1)),
                  SOper.mk (some 20) none (SOp.len false (Operand.tmp 19)),
                  SOper.mk (some 21) none (SOp.ibin BinOp.geq (Operand.tmp 18) (Operand.tmp 20))]
                [0, 1, 2, 7, 8, 11, 12, 13, 21])
              (Stmt.cond (Operand.tmp 21)
                (Stmt.seq (Stmt.region [SOper.mk (some 6) none (SOp.mv (Operand.const (Value.int IntKind.i64 1)))] [6])
                  Stmt.ret)
                Stmt.skip))
            (Stmt.seq
              (Stmt.region
                [SOper.mk (some 22) none (SOp.mv (Operand.tmp 1)), SOper.mk (some 23) none (SOp.mv (Operand.tmp 7)),
                  SOper.mk (some 24) none (SOp.idx 2 (Operand.tmp 22) (Operand.tmp 23)),
                  SOper.mk (some 25) none (SOp.load true 2 (Operand.tmp 24)),
                  SOper.mk (some 9) none
                    (SOp.alloc true 39 (Value.agg (Array.mk [Value.bool false, Value.int IntKind.i64 0]))),
                  SOper.mk none none (SOp.store 2 (Operand.tmp 9) (Operand.tmp 25))]
                [0, 1, 2, 8, 9, 11, 12, 13])
              (Stmt.seq
                (Stmt.region
                  [SOper.mk (some 26) none (SOp.mv (Operand.tmp 2)),
                    SOper.mk (some 27) none (SOp.load true 2 (Operand.tmp 8)),
                    SOper.mk (some 28) none (SOp.load true 2 (Operand.tmp 9)),
                    SOper.mk (some 29) none (SOp.call (Operand.tmp 26) [Operand.tmp 27, Operand.tmp 28]),
                    SOper.mk (some 10) none (SOp.mv (Operand.tmp 29))]
                  [0, 1, 2, 10, 11, 12, 13])
                (Stmt.seq
                  (Stmt.region
                    [SOper.mk (some 30) none (SOp.mv (Operand.tmp 10)),
                      SOper.mk (some 31) none
                        (SOp.ibin BinOp.neq (Operand.tmp 30) (Operand.const (Value.int IntKind.i64 0)))]
                    [0, 1, 2, 10, 11, 12, 13, 31])
                  (Stmt.cond (Operand.tmp 31)
                    (Stmt.seq
                      (Stmt.region
                        [SOper.mk (some 32) none (SOp.mv (Operand.tmp 10)),
                          SOper.mk (some 6) none (SOp.mv (Operand.tmp 32))]
                        [6])
                      Stmt.ret)
                    Stmt.skip)))))))
      (Stmt.region
        [SOper.mk (some 33) none (SOp.ibin BinOp.add (Operand.tmp 13) (Operand.const (Value.int IntKind.i64 1))),
          SOper.mk (some 13) none (SOp.mv (Operand.tmp 33))]
        [0, 1, 2, 11, 12, 13])))
def S202_0 : Stmt :=
  Stmt.seq (Stmt.region [SOper.mk (some 6) none (SOp.mv (Operand.const (Value.int IntKind.i64 0)))] [0, 1, 2])
  (Stmt.seq
    (Stmt.seq
      (Stmt.region
        [SOper.mk (some 11) none (SOp.mv (Operand.tmp 0)), SOper.mk (some 12) none (SOp.len false (Operand.tmp 11)),
          SOper.mk (some 13) none (SOp.mv (Operand.const (Value.int IntKind.i64 0)))]
        [0, 1, 2, 11, 12, 13])
      (Stmt.block 0 (Stmt.loop S202_1 [13] [0, 1, 2, 11, 12])))
    (Stmt.seq
      (Stmt.seq
        (Stmt.region
          [SOper.mk (some 34) none (SOp.mv (Operand.tmp 0)), SOper.mk (some 35) none (SOp.len false (Operand.tmp 34)),
            SOper.mk (some 36) none (SOp.mv (Operand.tmp 1)), SOper.mk (some 37) none (SOp.len false (Operand.tmp 36)),
            SOper.mk (some 38) none (SOp.ibin BinOp.lss (Operand.tmp 35) (Operand.tmp 37))]
          [38])
        (Stmt.cond (Operand.tmp 38)
          (Stmt.seq (Stmt.region [SOper.mk (some 6) none (SOp.mv (Operand.const (Value.int IntKind.i64 (-1))))] [6])
            Stmt.ret)
          Stmt.skip))
      (Stmt.seq (Stmt.region [SOper.mk (some 6) none (SOp.mv (Operand.const (Value.int IntKind.i64 0)))] [6])
        Stmt.ret)))
def S202 : FnS := ⟨39, [(6, none)], S202_0⟩
theorem tr202 : trFn Try.prog 202 [8, 9] [[0, 1, 2], [0, 1, 2, 11, 12, 13], [13], [0, 1, 2, 11, 12], [0, 1, 2, 11, 12, 13, 14], [0, 1, 2, 7, 8, 11, 12, 13], [0, 1, 2, 7, 8, 11, 12, 13, 21], [6], [0, 1, 2, 8, 9, 11, 12, 13], [0, 1, 2, 10, 11, 12, 13], [0, 1, 2, 10, 11, 12, 13, 31], [6], [0, 1, 2, 11, 12, 13], [38], [6], [6]] = some S202 := by kernel_rfl
end Go.Proofs.Ytniobbepliknmaa.V
/- The text of parlance/gram.Compare as a statement (slots: 0 a, 1 b, 2 a, 3 b, 5 c); no condition. -/
namespace Go.Proofs.Ytniobbepliknmaa.V
open Go
def S172_0 : Stmt :=
  Stmt.seq
  (Stmt.region
    [SOper.mk (some 2) none (SOp.box true 37 (Operand.tmp 0)), SOper.mk (some 3) none (SOp.box true 37 (Operand.tmp 1)),
      SOper.mk (some 4) none (SOp.mv (Operand.const (Value.int IntKind.i64 0)))]
    [2, 3])
  (Stmt.seq
    (Stmt.seq
      (Stmt.region
        [SOper.mk (some 6) none (SOp.fld 0 (Operand.tmp 2)), SOper.mk (some 7) none (SOp.load false 1 (Operand.tmp 6)),
          SOper.mk (some 8) none (SOp.fld 0 (Operand.tmp 3)), SOper.mk (some 9) none (SOp.load false 1 (Operand.tmp 8)),
          SOper.mk (some 10) none (SOp.call (Operand.func 105) [Operand.tmp 7, Operand.tmp 9]),
          SOper.mk (some 5) none (SOp.mv (Operand.tmp 10))]
        [2, 3, 5])
      (Stmt.seq
        (Stmt.region
          [SOper.mk (some 11) none (SOp.mv (Operand.tmp 5)),
            SOper.mk (some 12) none (SOp.ibin BinOp.neq (Operand.tmp 11) (Operand.const (Value.int IntKind.i64 0)))]
          [2, 3, 5, 12])
        (Stmt.cond (Operand.tmp 12)
          (Stmt.seq
            (Stmt.region
              [SOper.mk (some 13) none (SOp.mv (Operand.tmp 5)), SOper.mk (some 4) none (SOp.mv (Operand.tmp 13))] [4])
            Stmt.ret)
          Stmt.skip)))
    (Stmt.seq
      (Stmt.region
        [SOper.mk (some 14) none (SOp.fld 1 (Operand.tmp 2)),
          SOper.mk (some 15) none (SOp.load false 1 (Operand.tmp 14)),
          SOper.mk (some 16) none (SOp.fld 1 (Operand.tmp 3)),
          SOper.mk (some 17) none (SOp.load false 1 (Operand.tmp 16)),
          SOper.mk (some 18) none (SOp.call (Operand.func 202) [Operand.tmp 15, Operand.tmp 17, Operand.func 203]),
          SOper.mk (some 4) none (SOp.mv (Operand.tmp 18))]
        [4])
      Stmt.ret))
def S172 : FnS := ⟨19, [(4, none)], S172_0⟩
theorem tr172 : trFn Try.prog 172 [2, 3] [[2, 3], [2, 3, 5], [2, 3, 5, 12], [4], [4]] = some S172 := by kernel_rfl
end Go.Proofs.Ytniobbepliknmaa.V
/- The text of parlance/gram.Check as a statement (slots: 0 g, 1 g, 3 i, 4 r, 5 _, 6 s, 7 _, 8 q); no condition. -/
namespace Go.Proofs.Ytniobbepliknmaa.V
open Go
def S112_1 : Stmt :=
  Stmt.seq
  (Stmt.region [SOper.mk (some 69) none (SOp.ibin BinOp.lss (Operand.tmp 68) (Operand.tmp 67))]
    [1, 3, 4, 44, 45, 46, 66, 67, 68, 69])
  (Stmt.seq (Stmt.cond (Operand.tmp 69) Stmt.skip (Stmt.exit 2))
    (Stmt.seq
      (Stmt.block 3
        (Stmt.seq
          (Stmt.region
            [SOper.mk (some 70) none (SOp.idx 2 (Operand.tmp 66) (Operand.tmp 68)),
              SOper.mk (some 71) none (SOp.load true 2 (Operand.tmp 70)),
              SOper.mk (some 6) none
                (SOp.alloc true 39 (Value.agg (Array.mk [Value.bool false, Value.int IntKind.i64 0]))),
              SOper.mk none none (SOp.store 2 (Operand.tmp 6) (Operand.tmp 71))]
            [1, 3, 4, 6, 44, 45, 46, 66, 67, 68])
          (Stmt.seq
            (Stmt.region
              [SOper.mk (some 72) none (SOp.fld 1 (Operand.tmp 6)),
                SOper.mk (some 73) none (SOp.load false 1 (Operand.tmp 72)),
                SOper.mk (some 74) none (SOp.ibin BinOp.lss (Operand.tmp 73) (Operand.const (Value.int IntKind.i64 0))),
                SOper.mk (some 75) none (SOp.mv (Operand.tmp 74)),
                SOper.mk (some 76) (some (75, false)) (SOp.fld 0 (Operand.tmp 6)),
                SOper.mk (some 77) (some (75, false)) (SOp.load false 1 (Operand.tmp 76)),
                SOper.mk (some 78) (some (75, false)) (SOp.mv (Operand.tmp 77)),
                SOper.mk (some 79) (some (78, true)) (SOp.fld 1 (Operand.tmp 6)),
                SOper.mk (some 80) (some (78, true)) (SOp.load false 1 (Operand.tmp 79)),
                SOper.mk (some 81) (some (78, true)) (SOp.fld 0 (Operand.tmp 1)),
                SOper.mk (some 82) (some (78, true)) (SOp.load false 1 (Operand.tmp 81)),
                SOper.mk (some 83) (some (78, true)) (SOp.ibin BinOp.geq (Operand.tmp 80) (Operand.tmp 82)),
                SOper.mk (some 84) (some (75, false))
                  (SOp.pick (Operand.tmp 78) (Operand.tmp 83) (Operand.const (Value.bool false))),
                SOper.mk (some 85) none (SOp.pick (Operand.tmp 75) (Operand.const (Value.bool true)) (Operand.tmp 84)),
                SOper.mk (some 86) none (SOp.mv (Operand.tmp 85)),
                SOper.mk (some 87) (some (86, false)) (SOp.fld 0 (Operand.tmp 6)),
                SOper.mk (some 88) (some (86, false)) (SOp.load false 1 (Operand.tmp 87)),
                SOper.mk (some 89) (some (86, false)) (SOp.un UnOp.not (Operand.tmp 88)),
                SOper.mk (some 90) (some (86, false)) (SOp.mv (Operand.tmp 89)),
                SOper.mk (some 91) (some (90, true)) (SOp.fld 1 (Operand.tmp 6)),
                SOper.mk (some 92) (some (90, true)) (SOp.load false 1 (Operand.tmp 91)),
                SOper.mk (some 93) (some (90, true)) (SOp.fld 1 (Operand.tmp 1)),
                SOper.mk (some 94) (some (90, true)) (SOp.load false 1 (Operand.tmp 93)),
                SOper.mk (some 95) (some (90, true)) (SOp.ibin BinOp.geq (Operand.tmp 92) (Operand.tmp 94)),
                SOper.mk (some 96) (some (86, false))
                  (SOp.pick (Operand.tmp 90) (Operand.tmp 95) (Operand.const (Value.bool false))),
                SOper.mk (some 97) none (SOp.pick (Operand.tmp 86) (Operand.const (Value.bool true)) (Operand.tmp 96))]
              [1, 3, 4, 44, 45, 46, 66, 67, 68, 97])
            (Stmt.cond (Operand.tmp 97)
              (Stmt.seq (Stmt.region [SOper.mk (some 2) none (SOp.mv (Operand.const (Value.int IntKind.i64 3)))] [2])
                Stmt.ret)
              Stmt.skip))))
      (Stmt.region
        [SOper.mk (some 98) none (SOp.ibin BinOp.add (Operand.tmp 68) (Operand.const (Value.int IntKind.i64 1))),
          SOper.mk (some 68) none (SOp.mv (Operand.tmp 98))]
        [1, 3, 4, 44, 45, 46, 66, 67, 68])))
def S112_2 : Stmt :=
  Stmt.seq
  (Stmt.region [SOper.mk (some 105) none (SOp.ibin BinOp.lss (Operand.tmp 104) (Operand.tmp 103))]
    [1, 4, 44, 45, 46, 102, 103, 104, 105])
  (Stmt.seq (Stmt.cond (Operand.tmp 105) Stmt.skip (Stmt.exit 4))
    (Stmt.seq
      (Stmt.block 5
        (Stmt.seq
          (Stmt.region
            [SOper.mk (some 106) none (SOp.idx 2 (Operand.tmp 102) (Operand.tmp 104)),
              SOper.mk (some 107) none (SOp.load true 2 (Operand.tmp 106)),
              SOper.mk (some 8) none
                (SOp.alloc true 37 (Value.agg (Array.mk [Value.int IntKind.i64 0, Value.slice none 0 0]))),
              SOper.mk none none (SOp.store 2 (Operand.tmp 8) (Operand.tmp 107))]
            [1, 4, 8, 44, 45, 46, 102, 103, 104])
          (Stmt.seq
            (Stmt.region
              [SOper.mk (some 108) none (SOp.load true 2 (Operand.tmp 8)),
                SOper.mk (some 109) none (SOp.load true 2 (Operand.tmp 4)),
                SOper.mk (some 110) none (SOp.call (Operand.func 172) [Operand.tmp 108, Operand.tmp 109]),
                SOper.mk (some 111) none
                  (SOp.ibin BinOp.eql (Operand.tmp 110) (Operand.const (Value.int IntKind.i64 0)))]
              [1, 4, 44, 45, 46, 102, 103, 104, 111])
            (Stmt.cond (Operand.tmp 111)
              (Stmt.seq (Stmt.region [SOper.mk (some 2) none (SOp.mv (Operand.const (Value.int IntKind.i64 6)))] [2])
                Stmt.ret)
              Stmt.skip))))
      (Stmt.region
        [SOper.mk (some 112) none (SOp.ibin BinOp.add (Operand.tmp 104) (Operand.const (Value.int IntKind.i64 1))),
          SOper.mk (some 104) none (SOp.mv (Operand.tmp 112))]
        [1, 4, 44, 45, 46, 102, 103, 104])))
def S112_3 : Stmt :=
  Stmt.seq
  (Stmt.region [SOper.mk (some 47) none (SOp.ibin BinOp.lss (Operand.tmp 46) (Operand.tmp 45))] [1, 44, 45, 46, 47])
  (Stmt.seq (Stmt.cond (Operand.tmp 47) Stmt.skip (Stmt.exit 0))
    (Stmt.seq
      (Stmt.block 1
        (Stmt.seq
          (Stmt.region
            [SOper.mk (some 48) none (SOp.mv (Operand.tmp 46)),
              SOper.mk (some 49) none (SOp.idx 2 (Operand.tmp 44) (Operand.tmp 46)),
              SOper.mk (some 50) none (SOp.load true 2 (Operand.tmp 49)),
              SOper.mk (some 4) none
                (SOp.alloc true 37 (Value.agg (Array.mk [Value.int IntKind.i64 0, Value.slice none 0 0]))),
              SOper.mk (some 3) none (SOp.mv (Operand.tmp 48)),
              SOper.mk none none (SOp.store 2 (Operand.tmp 4) (Operand.tmp 50))]
            [1, 3, 4, 44, 45, 46])
          (Stmt.seq
            (Stmt.seq
              (Stmt.region
                [SOper.mk (some 51) none (SOp.fld 0 (Operand.tmp 4)),
                  SOper.mk (some 52) none (SOp.load false 1 (Operand.tmp 51)),
                  SOper.mk (some 53) none
                    (SOp.ibin BinOp.lss (Operand.tmp 52) (Operand.const (Value.int IntKind.i64 0))),
                  SOper.mk (some 54) none (SOp.mv (Operand.tmp 53)),
                  SOper.mk (some 55) (some (54, false)) (SOp.fld 0 (Operand.tmp 4)),
                  SOper.mk (some 56) (some (54, false)) (SOp.load false 1 (Operand.tmp 55)),
                  SOper.mk (some 57) (some (54, false)) (SOp.fld 1 (Operand.tmp 1)),
                  SOper.mk (some 58) (some (54, false)) (SOp.load false 1 (Operand.tmp 57)),
                  SOper.mk (some 59) (some (54, false)) (SOp.ibin BinOp.geq (Operand.tmp 56) (Operand.tmp 58)),
                  SOper.mk (some 60) none
                    (SOp.pick (Operand.tmp 54) (Operand.const (Value.bool true)) (Operand.tmp 59))]
                [1, 3, 4, 44, 45, 46, 60])
              (Stmt.cond (Operand.tmp 60)
                (Stmt.seq (Stmt.region [SOper.mk (some 2) none (SOp.mv (Operand.const (Value.int IntKind.i64 3)))] [2])
                  Stmt.ret)
                Stmt.skip))
            (Stmt.seq
              (Stmt.seq
                (Stmt.region
                  [SOper.mk (some 61) none (SOp.fld 1 (Operand.tmp 4)),
                    SOper.mk (some 62) none (SOp.load false 1 (Operand.tmp 61)),
                    SOper.mk (some 63) none (SOp.len false (Operand.tmp 62)),
                    SOper.mk (some 64) none
                      (SOp.ibin BinOp.gtr (Operand.tmp 63) (Operand.const (Value.int IntKind.i64 4)))]
                  [1, 3, 4, 44, 45, 46, 64])
                (Stmt.cond (Operand.tmp 64)
                  (Stmt.seq
                    (Stmt.region [SOper.mk (some 2) none (SOp.mv (Operand.const (Value.int IntKind.i64 2)))] [2])
                    Stmt.ret)
                  Stmt.skip))
              (Stmt.seq
                (Stmt.seq
                  (Stmt.region
                    [SOper.mk (some 65) none (SOp.fld 1 (Operand.tmp 4)),
                      SOper.mk (some 66) none (SOp.load false 1 (Operand.tmp 65)),
                      SOper.mk (some 67) none (SOp.len false (Operand.tmp 66)),
                      SOper.mk (some 68) none (SOp.mv (Operand.const (Value.int IntKind.i64 0)))]
                    [1, 3, 4, 44, 45, 46, 66, 67, 68])
                  (Stmt.block 2 (Stmt.loop S112_1 [68] [1, 3, 4, 44, 45, 46, 66, 67])))
                (Stmt.seq
                  (Stmt.region
                    [SOper.mk (some 99) none (SOp.fld 3 (Operand.tmp 1)),
                      SOper.mk (some 100) none (SOp.load false 1 (Operand.tmp 99)),
                      SOper.mk (some 101) none (SOp.mv (Operand.tmp 3)),
                      SOper.mk (some 102) none (SOp.slc 2 (Operand.tmp 100) none (some (Operand.tmp 101)) none),
                      SOper.mk (some 103) none (SOp.len false (Operand.tmp 102)),
                      SOper.mk (some 104) none (SOp.mv (Operand.const (Value.int IntKind.i64 0)))]
                    [1, 4, 44, 45, 46, 102, 103, 104])
                  (Stmt.block 4 (Stmt.loop S112_2 [104] [1, 4, 44, 45, 46, 102, 103]))))))))
      (Stmt.region
        [SOper.mk (some 113) none (SOp.ibin BinOp.add (Operand.tmp 46) (Operand.const (Value.int IntKind.i64 1))),
          SOper.mk (some 46) none (SOp.mv (Operand.tmp 113))]
        [1, 44, 45, 46])))
def S112_0 : Stmt :=
  Stmt.seq
  (Stmt.region
    [SOper.mk (some 1) none (SOp.box true 57 (Operand.tmp 0)),
      SOper.mk (some 2) none (SOp.mv (Operand.const (Value.int IntKind.i64 0)))]
    [1])
  (Stmt.seq
    (Stmt.seq
      (Stmt.region
        [SOper.mk (some 9) none (SOp.fld 0 (Operand.tmp 1)), SOper.mk (some 10) none (SOp.load false 1 (Operand.tmp 9)),
          SOper.mk (some 11) none (SOp.ibin BinOp.lss (Operand.tmp 10) (Operand.const (Value.int IntKind.i64 1))),
          SOper.mk (some 12) none (SOp.mv (Operand.tmp 11)),
          SOper.mk (some 13) (some (12, false)) (SOp.fld 0 (Operand.tmp 1)),
          SOper.mk (some 14) (some (12, false)) (SOp.load false 1 (Operand.tmp 13)),
          SOper.mk (some 15) (some (12, false))
            (SOp.ibin BinOp.gtr (Operand.tmp 14) (Operand.const (Value.int IntKind.i64 8))),
          SOper.mk (some 16) none (SOp.pick (Operand.tmp 12) (Operand.const (Value.bool true)) (Operand.tmp 15)),
          SOper.mk (some 17) none (SOp.mv (Operand.tmp 16)),
          SOper.mk (some 18) (some (17, false)) (SOp.fld 1 (Operand.tmp 1)),
          SOper.mk (some 19) (some (17, false)) (SOp.load false 1 (Operand.tmp 18)),
          SOper.mk (some 20) (some (17, false))
            (SOp.ibin BinOp.lss (Operand.tmp 19) (Operand.const (Value.int IntKind.i64 1))),
          SOper.mk (some 21) none (SOp.pick (Operand.tmp 17) (Operand.const (Value.bool true)) (Operand.tmp 20)),
          SOper.mk (some 22) none (SOp.mv (Operand.tmp 21)),
          SOper.mk (some 23) (some (22, false)) (SOp.fld 1 (Operand.tmp 1)),
          SOper.mk (some 24) (some (22, false)) (SOp.load false 1 (Operand.tmp 23)),
          SOper.mk (some 25) (some (22, false))
            (SOp.ibin BinOp.gtr (Operand.tmp 24) (Operand.const (Value.int IntKind.i64 10))),
          SOper.mk (some 26) none (SOp.pick (Operand.tmp 22) (Operand.const (Value.bool true)) (Operand.tmp 25)),
          SOper.mk (some 27) none (SOp.mv (Operand.tmp 26)),
          SOper.mk (some 28) (some (27, false)) (SOp.fld 2 (Operand.tmp 1)),
          SOper.mk (some 29) (some (27, false)) (SOp.load false 1 (Operand.tmp 28)),
          SOper.mk (some 30) (some (27, false))
            (SOp.ibin BinOp.lss (Operand.tmp 29) (Operand.const (Value.int IntKind.i64 0))),
          SOper.mk (some 31) none (SOp.pick (Operand.tmp 27) (Operand.const (Value.bool true)) (Operand.tmp 30)),
          SOper.mk (some 32) none (SOp.mv (Operand.tmp 31)),
          SOper.mk (some 33) (some (32, false)) (SOp.fld 2 (Operand.tmp 1)),
          SOper.mk (some 34) (some (32, false)) (SOp.load false 1 (Operand.tmp 33)),
          SOper.mk (some 35) (some (32, false)) (SOp.fld 1 (Operand.tmp 1)),
          SOper.mk (some 36) (some (32, false)) (SOp.load false 1 (Operand.tmp 35)),
          SOper.mk (some 37) (some (32, false)) (SOp.ibin BinOp.geq (Operand.tmp 34) (Operand.tmp 36)),
          SOper.mk (some 38) none (SOp.pick (Operand.tmp 32) (Operand.const (Value.bool true)) (Operand.tmp 37))]
        [1, 38])
      (Stmt.cond (Operand.tmp 38)
        (Stmt.seq (Stmt.region [SOper.mk (some 2) none (SOp.mv (Operand.const (Value.int IntKind.i64 1)))] [2])
          Stmt.ret)
        Stmt.skip))
    (Stmt.seq
      (Stmt.seq
        (Stmt.region
          [SOper.mk (some 39) none (SOp.fld 3 (Operand.tmp 1)),
            SOper.mk (some 40) none (SOp.load false 1 (Operand.tmp 39)),
            SOper.mk (some 41) none (SOp.len false (Operand.tmp 40)),
            SOper.mk (some 42) none (SOp.ibin BinOp.gtr (Operand.tmp 41) (Operand.const (Value.int IntKind.i64 32)))]
          [1, 42])
        (Stmt.cond (Operand.tmp 42)
          (Stmt.seq (Stmt.region [SOper.mk (some 2) none (SOp.mv (Operand.const (Value.int IntKind.i64 2)))] [2])
            Stmt.ret)
          Stmt.skip))
      (Stmt.seq
        (Stmt.seq
          (Stmt.region
            [SOper.mk (some 43) none (SOp.fld 3 (Operand.tmp 1)),
              SOper.mk (some 44) none (SOp.load false 1 (Operand.tmp 43)),
              SOper.mk (some 45) none (SOp.len false (Operand.tmp 44)),
              SOper.mk (some 46) none (SOp.mv (Operand.const (Value.int IntKind.i64 0)))]
            [1, 44, 45, 46])
          (Stmt.block 0 (Stmt.loop S112_3 [46] [1, 44, 45])))
        (Stmt.seq (Stmt.region [SOper.mk (some 2) none (SOp.mv (Operand.const (Value.int IntKind.i64 0)))] [2])
          Stmt.ret))))
def S112 : FnS := ⟨114, [(2, none)], S112_0⟩
theorem tr112 : trFn Try.prog 112 [1, 4, 6, 8] [[1], [1, 38], [2], [1, 42], [2], [1, 44, 45, 46], [46], [1, 44, 45], [1, 44, 45, 46, 47], [1, 3, 4, 44, 45, 46], [1, 3, 4, 44, 45, 46, 60], [2], [1, 3, 4, 44, 45, 46, 64], [2], [1, 3, 4, 44, 45, 46, 66, 67, 68], [68], [1, 3, 4, 44, 45, 46, 66, 67], [1, 3, 4, 44, 45, 46, 66, 67, 68, 69], [1, 3, 4, 6, 44, 45, 46, 66, 67, 68], [1, 3, 4, 44, 45, 46, 66, 67, 68, 97], [2], [1, 3, 4, 44, 45, 46, 66, 67, 68], [1, 4, 44, 45, 46, 102, 103, 104], [104], [1, 4, 44, 45, 46, 102, 103], [1, 4, 44, 45, 46, 102, 103, 104, 105], [1, 4, 8, 44, 45, 46, 102, 103, 104], [1, 4, 44, 45, 46, 102, 103, 104, 111], [2], [1, 4, 44, 45, 46, 102, 103, 104], [1, 44, 45, 46], [2]] = some S112 := by kernel_rfl
end Go.Proofs.Ytniobbepliknmaa.V
/- Grammars are checked: gram.Order, gram.Compare and gram.Check walked; no condition. -/
namespace Go.Proofs.Ytniobbepliknmaa.V
open Go
set_option linter.unusedVariables false
set_option linter.unusedSimpArgs false
attribute [local go_sem] e_seq e_region e_quiet e_join e_loop e_cond e_block e_exit e_ret e_skip e_fin e_kseq e_snrm e_sret e_sex e_bnrm e_bret e_bex e_rnrm e_rret e_res e_condC e_nil e_g e_mv g_mv e_pick g_pick pickC_eq e_ibin g_ibin ibinC_eq e_sbin g_sbin e_beq g_beq beqC_eq e_nilq g_nilq nilqC_sl nilqC_pt nilqC_mp e_un g_un unC_not unC_neg e_conv g_conv convC_eq e_fld g_fld fldC_ref fldC_ptr e_nilCheck g_nilCheck nilCheckC_ref nilCheckC_ptr nilCheckC_fun e_field g_field fieldC_eq e_len g_len lenC_sl lenC_str e_extract g_extract extractC_eq e_mkFunc e_build g_build e_idiv g_idiv idivC_eq e_ishift g_ishift ishiftC_eq e_idx g_idx e_idxA g_idxA e_load g_load loadC_ref loadC_ptr loadB_eq e_slc g_slc e_box boxC_loc boxC_esc e_alloc allocC_loc allocC_esc e_buildS e_store storeC_ref storeC_ptr storeB_eq e_append e_appz e_mk mkC_eq e_call callC_eq e_fn g_fn fnC_eq fnV_min' fnV_max' fnV_rune' e_q g_q e_a e_n g_call g_box g_alloc g_buildS g_store g_append g_mk g_a g_n g_dead e_dead e_callK e_drawn e_tree e_finJ e_tk e_tfin e_tno e_nbt_q e_nbt_qn e_nbt_a e_nbt_an e_nbt_fin e_early_nil e_early_t e_early_f e_nob_nil e_nob_none e_nob_some isBox_dead isBox_v isBox_ref e_dnil e_dk e_ek e_finB vcOps_vc1 e_dcons e_tq e_ekt e_tearly e_talt e_dearly look_nil look_c proj_nil proj_c looks_nil looks_c zip_nil zip_c val_tmp val_const val_func slv_v slv_box slv_ref slot_tmp slot_const slot_func slotL_v slotL_box slotL_ref put_some put_none updBox_c boxSet_box gd_eq slotVals_nil slotVals_c slotVals_b boxV_box boxOn_box slotsOn_nil slotsOn_c slotsOn_b resV_one resV_two vals_nil vals_c allOn_nil allOn_c partOn_nil partOn_c partVals_nil partVals_c fits_nil fits_c fillL_nil fillL_c mkv_one mkv_agg cellsV_agg cellsV_int cellsV_bool cellsV_slice cellsV_string cellsV_pointer cellsV_func cellsV_nilf cellsV_map one'_nil one'_c oc_int oc_bool oc_slice oc_string oc_pointer oc_func oc_nilf oc_map setC_eq iv_add iv_sub iv_mul iv_eql iv_neq iv_lss iv_leq iv_gtr iv_geq iok_add iok_sub iok_mul iok_eql iok_neq iok_lss iok_leq iok_gtr iok_geq pickV_bool args0_nil args0_c bnd_none bnd_some imp_bt imp_bf imp_ebt imp_ebf imp_eb1 imp_np imp_pp beq_tt beq_tf beq_ft beq_ff cond_or cond_and e_round e_meet Int.le_refl Int.toNat_zero decide_true decide_false Bool.or_false Bool.false_or Bool.true_or Bool.or_true Bool.and_false Bool.false_and Bool.bne_false Bool.bne_true beq_iff_eq Int.cast_ofNat_Int not_false_eq_true not_true_eq_false false_and and_false false_implies true_implies true_and and_true Bool.true_and Bool.and_true Bool.not_true Bool.not_false forall_const implies_true List.take_zero List.drop_zero List.take_succ_cons List.drop_succ_cons List.take_nil List.drop_nil List.length_cons List.length_nil List.nil_append List.append_nil List.cons_append Int.toNat_natCast decide_eq_true_eq decide_eq_false_iff_not cond_true cond_false and_self List.getElem?_cons_zero List.getElem?_cons_succ List.set_cons_zero List.set_cons_succ Option.some.injEq exists_eq_left' Nat.zero_add Nat.add_zero Nat.mul_one imp_self true_or or_true or_false false_or Bool.or_eq_true Bool.or_eq_false_iff Bool.and_eq_true Bool.and_eq_false_iff Bool.not_eq_true' Bool.not_eq_false'

def symC (a b : Sy) : Int := if a.t = true ∧ b.t = false then -1 else if a.t = false ∧ b.t = true then 1 else cmpI a.n b.n
def symsC : List Sy → List Sy → Int
  | [], [] => 0
  | [], _ :: _ => -1
  | _ :: _, [] => 1
  | a :: r, b :: s => if symC a b = 0 then symsC r s else symC a b
def ruleC (a b : Ru) : Int := if cmpI a.l b.l = 0 then symsC a.r b.r else cmpI a.l b.l
theorem cmpI_zero {a b : Int} : cmpI a b = 0 ↔ a = b := by
  unfold cmpI
  constructor
  · intro h
    split at h
    · omega
    · split at h <;> omega
  · rintro rfl
    simp
theorem symC_zero {a b : Sy} : symC a b = 0 ↔ a = b := by
  obtain ⟨t, n⟩ := a
  obtain ⟨t', n'⟩ := b
  unfold symC
  cases t <;> cases t' <;> simp [cmpI_zero]
theorem symsC_zero : ∀ {a b : List Sy}, symsC a b = 0 ↔ a = b
  | [], [] => by simp [symsC]
  | [], _ :: _ => by simp [symsC]
  | _ :: _, [] => by simp [symsC]
  | a :: r, b :: s => by
    simp only [symsC, List.cons.injEq]
    by_cases h : symC a b = 0
    · rw [if_pos h, symsC_zero (a := r), symC_zero] at *
      exact ⟨fun q => ⟨h, q⟩, fun q => q.2⟩
    · rw [if_neg h]
      exact ⟨fun q => absurd q h, fun q => absurd (symC_zero.2 q.1) h⟩
theorem ruleC_zero {a b : Ru} : ruleC a b = 0 ↔ a = b := by
  obtain ⟨l, r⟩ := a
  obtain ⟨l', r'⟩ := b
  unfold ruleC
  by_cases h : cmpI l l' = 0
  · rw [if_pos h, symsC_zero]
    simp only [Ru.mk.injEq, cmpI_zero.1 h, true_and]
  · simp only [if_neg h, Ru.mk.injEq]
    exact ⟨fun q => absurd q h, fun q => absurd (cmpI_zero.2 q.1) h⟩

theorem gram_order {Γr : Ctx} (a b : Sy) : Ret Try.prog 203 [.agg #[.bool a.t, .int .i64 a.n], .agg #[.bool b.t, .int .i64 b.n]] Γr [] (fun v Γ => Γ = [] ∧ v = .int .i64 (symC a b)) := by
  generalize hR : (fun (v : Value) (Γ : Ctx) => Γ = [] ∧ _) = R
  refine ret_of_vc tr203 (Nat.le_of_ble_eq_true rfl) ?_
  obtain ⟨t, n⟩ := a
  obtain ⟨t', n'⟩ := b
  cases t <;> cases t'
  all_goals
    simp -implicitDefEqProofs only [S203, S203_0, go_sem, Nat.reduceBEq, Nat.reduceAdd, Nat.reduceSub, Nat.reduceMul, Nat.reduceLeDiff, reduceCtorEq, ↓reduceIte, Int.reduceLT, Int.reduceLE, Int.reduceEq, Int.reduceNe]
  · intro b b'
    refine CallVC.read (cmp_compare _ _) ?_
    rintro v Γ' ⟨rfl, rfl⟩
    simp -implicitDefEqProofs only [go_sem, Nat.reduceBEq, Nat.reduceAdd, Nat.reduceSub, Nat.reduceMul, Nat.reduceLeDiff, reduceCtorEq, ↓reduceIte, Int.reduceLT, Int.reduceLE, Int.reduceEq, Int.reduceNe]
    refine Up.here ?_
    subst hR
    exact ⟨rfl, rfl⟩
  · refine Up.here ?_
    subst hR
    exact ⟨rfl, rfl⟩
  · refine Up.here ?_
    subst hR
    exact ⟨rfl, rfl⟩
  · intro b b'
    refine CallVC.read (cmp_compare _ _) ?_
    rintro v Γ' ⟨rfl, rfl⟩
    simp -implicitDefEqProofs only [go_sem, Nat.reduceBEq, Nat.reduceAdd, Nat.reduceSub, Nat.reduceMul, Nat.reduceLeDiff, reduceCtorEq, ↓reduceIte, Int.reduceLT, Int.reduceLE, Int.reduceEq, Int.reduceNe]
    refine Up.here ?_
    subst hR
    exact ⟨rfl, rfl⟩

theorem compare_syms {Γr : Ctx} {A B : Option Addr} {c d : Nat} {xs ys : List Sy} (hx : SlOk (lk Γr) A c xs) (hy : SlOk (lk Γr) B d ys) :
    Ret Try.prog 202 [.slice A xs.length c, .slice B ys.length d, .func (.func 203) #[] #[]] Γr [] (fun v Γ => Γ = [] ∧ v = .int .i64 (symsC xs ys)) := by
  generalize hR : (fun (v : Value) (Γ : Ctx) => Γ = [] ∧ _) = R
  refine ret_of_vc tr202 (Nat.le_of_ble_eq_true rfl) ?_
  have h1 := hx.short
  have h2 := hy.short
  simp -implicitDefEqProofs only [S202, S202_0, go_sem, Nat.reduceBEq, Nat.reduceAdd, Nat.reduceSub, Nat.reduceMul, Nat.reduceLeDiff, reduceCtorEq, ↓reduceIte, Int.reduceLT, Int.reduceLE, Int.reduceEq, Int.reduceNe]
  refine s_loop (fun f vs Γ => Γ = [] ∧ ∃ k : Nat, vs = [.v true (.int .i64 k)] ∧ k + f = xs.length ∧ k ≤ ys.length ∧ symsC xs ys = symsC (xs.drop k) (ys.drop k)) xs.length (Up.here ⟨rfl, 0, rfl, by omega, by omega, by simp⟩) ?_
  rintro f vs Γ ⟨rfl, k, rfl, hkf, hky, he⟩
  simp -implicitDefEqProofs only [S202_1, go_sem, Nat.reduceBEq, Nat.reduceAdd, Nat.reduceSub, Nat.reduceMul, Nat.reduceLeDiff, reduceCtorEq, ↓reduceIte, Int.reduceLT, Int.reduceLE, Int.reduceEq, Int.reduceNe]
  refine ⟨fun hlt => ?_, fun hge => ?_⟩
  · have hk : k < xs.length := by omega
    obtain ⟨b, o, hA, hc1⟩ := hx.sy hk
    refine s_idx hA (by omega) (by omega) ?_
    simp -implicitDefEqProofs only [go_sem, Nat.reduceBEq, Nat.reduceAdd, Nat.reduceSub, Nat.reduceMul, Nat.reduceLeDiff, reduceCtorEq, ↓reduceIte, Int.reduceLT, Int.reduceLE, Int.reduceEq, Int.reduceNe]
    refine s_ld0 (hc1 _ (Mem.le.refl _)) (by simp) (by simp) ?_
    simp -implicitDefEqProofs only [go_sem, Nat.reduceBEq, Nat.reduceAdd, Nat.reduceSub, Nat.reduceMul, Nat.reduceLeDiff, reduceCtorEq, ↓reduceIte, Int.reduceLT, Int.reduceLE, Int.reduceEq, Int.reduceNe]
    rw [List.drop_eq_getElem_cons hk] at he
    intro b1
    refine ⟨fun hle => Up.here ?_, fun hlt2 => ?_⟩
    · have : ys.drop k = [] := List.drop_eq_nil_of_le (by omega)
      subst hR
      refine ⟨rfl, ?_⟩
      rw [he, this]
      rfl
    · have hk' : k < ys.length := by omega
      obtain ⟨b', o', hB, hc2⟩ := hy.sy hk'
      refine s_idx hB (by omega) (by omega) ?_
      simp -implicitDefEqProofs only [go_sem, Nat.reduceBEq, Nat.reduceAdd, Nat.reduceSub, Nat.reduceMul, Nat.reduceLeDiff, reduceCtorEq, ↓reduceIte, Int.reduceLT, Int.reduceLE, Int.reduceEq, Int.reduceNe]
      refine s_ld0 (hc2 _ (Mem.le.refl _)) (by simp) (by simp) ?_
      simp -implicitDefEqProofs only [go_sem, Nat.reduceBEq, Nat.reduceAdd, Nat.reduceSub, Nat.reduceMul, Nat.reduceLeDiff, reduceCtorEq, ↓reduceIte, Int.reduceLT, Int.reduceLE, Int.reduceEq, Int.reduceNe]
      intro b2
      refine CallVC.read (gram_order _ _) ?_
      rintro v Γ' ⟨rfl, rfl⟩
      rw [List.drop_eq_getElem_cons hk', symsC] at he
      simp -implicitDefEqProofs only [go_sem, Nat.reduceBEq, Nat.reduceAdd, Nat.reduceSub, Nat.reduceMul, Nat.reduceLeDiff, reduceCtorEq, ↓reduceIte, Int.reduceLT, Int.reduceLE, Int.reduceEq, Int.reduceNe]
      refine ⟨fun hne => Up.here ?_, fun heq => ?_⟩
      · rw [if_neg hne] at he
        subst hR
        exact ⟨rfl, by rw [he]⟩
      · rw [if_pos heq] at he
        simp (disch := omega) only [wrap_id]
        exact ⟨f - 1, by omega, Up.here ⟨rfl, k + 1, rfl, by omega, by omega, he⟩⟩
  · have hk : k = xs.length := by omega
    rw [hk, List.drop_length] at he
    subst hR
    refine ⟨fun h => Up.here ⟨rfl, ?_⟩, fun h => Up.here ⟨rfl, ?_⟩⟩
    · rw [he, List.drop_eq_getElem_cons (by omega)]
      rfl
    · rw [he, List.drop_eq_nil_of_le (by omega)]
      rfl

theorem gram_compare {Γr : Ctx} {a b : Ru} {A B : Option Addr} {c d : Nat} (hx : SlOk (lk Γr) A c a.r) (hy : SlOk (lk Γr) B d b.r) :
    Ret Try.prog 172 [.agg #[.int .i64 a.l, .slice A a.r.length c], .agg #[.int .i64 b.l, .slice B b.r.length d]] Γr [] (fun v Γ => Γ = [] ∧ v = .int .i64 (ruleC a b)) := by
  generalize hR : (fun (v : Value) (Γ : Ctx) => Γ = [] ∧ _) = R
  refine ret_of_vc tr172 (Nat.le_of_ble_eq_true rfl) ?_
  simp -implicitDefEqProofs only [S172, S172_0, go_sem, Nat.reduceBEq, Nat.reduceAdd, Nat.reduceSub, Nat.reduceMul, Nat.reduceLeDiff, reduceCtorEq, ↓reduceIte, Int.reduceLT, Int.reduceLE, Int.reduceEq, Int.reduceNe]
  intro b1 b2
  refine CallVC.read (cmp_compare _ _) ?_
  rintro v Γ' ⟨rfl, rfl⟩
  simp -implicitDefEqProofs only [go_sem, Nat.reduceBEq, Nat.reduceAdd, Nat.reduceSub, Nat.reduceMul, Nat.reduceLeDiff, reduceCtorEq, ↓reduceIte, Int.reduceLT, Int.reduceLE, Int.reduceEq, Int.reduceNe]
  refine ⟨fun hne => Up.here ?_, fun heq => ?_⟩
  · subst hR
    exact ⟨rfl, by rw [ruleC, if_neg hne]⟩
  · refine CallVC.read (compare_syms hx hy) ?_
    rintro v Γ' ⟨rfl, rfl⟩
    simp -implicitDefEqProofs only [go_sem, Nat.reduceBEq, Nat.reduceAdd, Nat.reduceSub, Nat.reduceMul, Nat.reduceLeDiff, reduceCtorEq, ↓reduceIte, Int.reduceLT, Int.reduceLE, Int.reduceEq, Int.reduceNe]
    refine Up.here ?_
    subst hR
    exact ⟨rfl, by rw [ruleC, if_pos heq]⟩

/-- a symbol that is none of the grammar -/
def badSy (ts ns : Int) (s : Sy) : Bool := decide (s.n < 0) || (s.t && decide (ts ≤ s.n)) || (!s.t && decide (ns ≤ s.n))
/-- the fault of rule k: the errors 3, 2, 3, 6, or none -/
def faultAt (g : Gr) (k : Nat) (r : Ru) : Int :=
  if r.l < 0 ∨ g.ns ≤ r.l then 3 else if 4 < r.r.length then 2 else if r.r.any (badSy g.ts g.ns) = true then 3 else if r ∈ g.rs.take k then 6 else 0
def ckR (g : Gr) : Nat → Int
  | 0 => 0
  | k + 1 => if ckR g k ≠ 0 then ckR g k else match g.rs[k]? with | some r => faultAt g k r | none => 0
def badHead (g : Gr) : Prop := g.ts < 1 ∨ 8 < g.ts ∨ g.ns < 1 ∨ 10 < g.ns ∨ g.st < 0 ∨ g.ns ≤ g.st
instance (g : Gr) : Decidable (badHead g) := by unfold badHead; infer_instance
def ckF (g : Gr) : Int := if badHead g then 1 else if 32 < g.rs.length then 2 else ckR g g.rs.length
theorem ckR_stays {g : Gr} {k : Nat} (h : ckR g k ≠ 0) : ∀ {m : Nat}, k ≤ m → ckR g m = ckR g k
  | m, hm => by
    induction m with
    | zero => have : k = 0 := by omega
              subst this; rfl
    | succ m ih =>
      by_cases e : k = m + 1
      · subst e; rfl
      · have := ih (by omega)
        rw [ckR, if_pos (by rw [this]; exact h), this]
theorem ckR_step {g : Gr} {k : Nat} (hk : k < g.rs.length) (h : ckR g k = 0) : ckR g (k + 1) = faultAt g k g.rs[k] := by
  rw [ckR, if_neg (by simp [h]), List.getElem?_eq_getElem hk]
theorem ckR_fault {g : Gr} {k : Nat} (hk : k < g.rs.length) (h : ckR g k = 0) (hf : faultAt g k g.rs[k] ≠ 0) : ckR g g.rs.length = faultAt g k g.rs[k] := by
  have := ckR_step hk h
  rw [← this] at hf ⊢
  exact ckR_stays hf (by omega)

theorem gram_check {Γr : Ctx} {g : Gr} {A : Option Addr} {c : Nat} (hx : SlOk (lk Γr) A c g.rs) :
    Ret Try.prog 112 [.agg #[.int .i64 g.ts, .int .i64 g.ns, .int .i64 g.st, .slice A g.rs.length c]] Γr [] (fun v Γ => Γ = [] ∧ v = .int .i64 (ckF g)) := by
  generalize hR : (fun (v : Value) (Γ : Ctx) => Γ = [] ∧ _) = R
  refine ret_of_vc tr112 (Nat.le_of_ble_eq_true rfl) ?_
  simp -implicitDefEqProofs only [S112, S112_0, go_sem, Nat.reduceBEq, Nat.reduceAdd, Nat.reduceSub, Nat.reduceMul, Nat.reduceLeDiff, reduceCtorEq, ↓reduceIte, Int.reduceLT, Int.reduceLE, Int.reduceEq, Int.reduceNe]
  intro b
  refine ⟨fun h => Up.here ?_, fun hok => ⟨fun h => Up.here ?_, fun h32 => ?_⟩⟩
  · subst hR
    exact ⟨rfl, by rw [ckF, if_pos (by unfold badHead; omega)]⟩
  · subst hR
    exact ⟨rfl, by rw [ckF, if_neg (by unfold badHead; omega), if_pos (by omega)]⟩
  have hck : ckF g = ckR g g.rs.length := by rw [ckF, if_neg (by unfold badHead; omega), if_neg (by omega)]
  refine s_loop (fun f vs Γ => Γ = [] ∧ ∃ k : Nat, vs = [.v true (.int .i64 k)] ∧ k + f = g.rs.length ∧ ckR g k = 0) g.rs.length (Up.here ⟨rfl, 0, rfl, by omega, rfl⟩) ?_
  rintro f vs Γ ⟨rfl, k, rfl, hkf, hck0⟩
  simp -implicitDefEqProofs only [S112_3, go_sem, Nat.reduceBEq, Nat.reduceAdd, Nat.reduceSub, Nat.reduceMul, Nat.reduceLeDiff, reduceCtorEq, ↓reduceIte, Int.reduceLT, Int.reduceLE, Int.reduceEq, Int.reduceNe]
  refine ⟨fun hlt => ?_, fun hge => ?_⟩
  · have hk : k < g.rs.length := by omega
    have hgen : ∀ x, faultAt g k g.rs[k] = x → x ≠ 0 → ckF g = x := fun x h1 h2 => by rw [hck, ckR_fault hk hck0 (by rw [h1]; exact h2), h1]
    have hzero : faultAt g k g.rs[k] = 0 → ckR g (k + 1) = 0 := fun h => by rw [ckR_step hk hck0, h]
    obtain ⟨b1, o1, hA, A', c', hr, hc1⟩ := hx.ru hk
    have hrl := hr.short
    refine s_idx hA (by omega) (by omega) ?_
    simp -implicitDefEqProofs only [go_sem, Nat.reduceBEq, Nat.reduceAdd, Nat.reduceSub, Nat.reduceMul, Nat.reduceLeDiff, reduceCtorEq, ↓reduceIte, Int.reduceLT, Int.reduceLE, Int.reduceEq, Int.reduceNe]
    refine s_ld0 (hc1 _ (Mem.le.refl _)) (by simp) (by simp) ?_
    simp -implicitDefEqProofs only [go_sem, Nat.reduceBEq, Nat.reduceAdd, Nat.reduceSub, Nat.reduceMul, Nat.reduceLeDiff, reduceCtorEq, ↓reduceIte, Int.reduceLT, Int.reduceLE, Int.reduceEq, Int.reduceNe]
    intro b2
    refine ⟨fun h => Up.here ?_, fun hl => ⟨fun h => Up.here ?_, fun h4 => ?_⟩⟩
    · subst hR
      exact ⟨rfl, by rw [hgen 3 (by rw [faultAt, if_pos h]) (by decide)]⟩
    · subst hR
      exact ⟨rfl, by rw [hgen 2 (by rw [faultAt, if_neg (by omega), if_pos (by omega)]) (by decide)]⟩
    have hf1 : faultAt g k g.rs[k] = if g.rs[k].r.any (badSy g.ts g.ns) = true then 3 else if g.rs[k] ∈ g.rs.take k then 6 else 0 := by
      rw [faultAt, if_neg (by omega), if_neg (by omega)]
    refine s_loop (fun f' vs Γ => Γ = [] ∧ ∃ j : Nat, vs = [.v true (.int .i64 j)] ∧ j + f' = g.rs[k].r.length ∧ ∀ (i : Nat) (h : i < g.rs[k].r.length), i < j → badSy g.ts g.ns g.rs[k].r[i] = false) g.rs[k].r.length (Up.here ⟨rfl, 0, rfl, by omega, by intro i _ h; omega⟩) ?_
    rintro f' vs Γ ⟨rfl, j, rfl, hjf, hno⟩
    simp -implicitDefEqProofs only [S112_1, go_sem, Nat.reduceBEq, Nat.reduceAdd, Nat.reduceSub, Nat.reduceMul, Nat.reduceLeDiff, reduceCtorEq, ↓reduceIte, Int.reduceLT, Int.reduceLE, Int.reduceEq, Int.reduceNe]
    refine ⟨fun hlt => ?_, fun hge => ?_⟩
    · have hj : j < g.rs[k].r.length := by omega
      obtain ⟨b3, o3, hA3, hc3⟩ := hr.sy hj
      refine s_idx hA3 (by omega) (by omega) ?_
      simp -implicitDefEqProofs only [go_sem, Nat.reduceBEq, Nat.reduceAdd, Nat.reduceSub, Nat.reduceMul, Nat.reduceLeDiff, reduceCtorEq, ↓reduceIte, Int.reduceLT, Int.reduceLE, Int.reduceEq, Int.reduceNe]
      refine s_ld0 (hc3 _ (Mem.le.refl _)) (by simp) (by simp) ?_
      simp -implicitDefEqProofs only [go_sem, Nat.reduceBEq, Nat.reduceAdd, Nat.reduceSub, Nat.reduceMul, Nat.reduceLeDiff, reduceCtorEq, ↓reduceIte, Int.reduceLT, Int.reduceLE, Int.reduceEq, Int.reduceNe]
      simp (disch := omega) only [wrap_id]
      refine ⟨fun h1 h2 => ⟨h1, h2⟩, fun h1 h2 => ⟨h1, h2⟩, fun h => Up.here ?_, fun h => ?_⟩
      · have hb : g.rs[k].r.any (badSy g.ts g.ns) = true := List.any_eq_true.2 ⟨g.rs[k].r[j], List.getElem_mem hj, by
          simp only [badSy, Bool.or_eq_true, Bool.and_eq_true, decide_eq_true_eq, Bool.not_eq_true']; exact h⟩
        subst hR
        exact ⟨rfl, by rw [hgen 3 (by rw [hf1, if_pos hb]) (by decide)]⟩
      · exact ⟨f' - 1, by omega, Up.here ⟨rfl, j + 1, rfl, by omega, fun i hi hij => by
          by_cases e : i = j
          · subst e
            simp only [badSy, Bool.or_eq_false_iff, Bool.and_eq_false_iff, decide_eq_false_iff_not, Bool.not_eq_false']; exact h
          · exact hno i hi (by omega)⟩⟩
    have hnb : ¬ (g.rs[k].r.any (badSy g.ts g.ns) = true) := by
      intro h
      obtain ⟨x, hx, hb⟩ := List.any_eq_true.1 h
      obtain ⟨i, hi, rfl⟩ := List.getElem_of_mem hx
      rw [hno i hi (by omega)] at hb
      cases hb
    have hf2 : faultAt g k g.rs[k] = if g.rs[k] ∈ g.rs.take k then 6 else 0 := by rw [hf1, if_neg hnb]
    refine s_hi k (by simp -implicitDefEqProofs only [go_sem, Nat.reduceBEq, Nat.reduceAdd, Nat.reduceSub, Nat.reduceMul, Nat.reduceLeDiff, reduceCtorEq, ↓reduceIte, Int.reduceLT, Int.reduceLE, Int.reduceEq, Int.reduceNe]; exact ⟨_, rfl⟩) (by have := hx.cap; omega) ?_
    simp -implicitDefEqProofs only [go_sem, Nat.reduceBEq, Nat.reduceAdd, Nat.reduceSub, Nat.reduceMul, Nat.reduceLeDiff, reduceCtorEq, ↓reduceIte, Int.reduceLT, Int.reduceLE, Int.reduceEq, Int.reduceNe]
    refine s_loop (fun f' vs Γ => Γ = [] ∧ ∃ j : Nat, vs = [.v true (.int .i64 j)] ∧ j + f' = k ∧ ∀ (i : Nat) (h : i < g.rs.length), i < j → g.rs[i] ≠ g.rs[k]) k (Up.here ⟨rfl, 0, rfl, by omega, by intro i _ h; omega⟩) ?_
    rintro f' vs Γ ⟨rfl, j, rfl, hjf, hne⟩
    simp -implicitDefEqProofs only [S112_2, go_sem, Nat.reduceBEq, Nat.reduceAdd, Nat.reduceSub, Nat.reduceMul, Nat.reduceLeDiff, reduceCtorEq, ↓reduceIte, Int.reduceLT, Int.reduceLE, Int.reduceEq, Int.reduceNe]
    refine ⟨fun hlt => ?_, fun hge => ?_⟩
    · have hj : j < g.rs.length := by omega
      obtain ⟨b3, o3, hA3, A4, c4, hr4, hc3⟩ := hx.ru hj
      refine s_idx hA3 (by omega) (by omega) ?_
      simp -implicitDefEqProofs only [go_sem, Nat.reduceBEq, Nat.reduceAdd, Nat.reduceSub, Nat.reduceMul, Nat.reduceLeDiff, reduceCtorEq, ↓reduceIte, Int.reduceLT, Int.reduceLE, Int.reduceEq, Int.reduceNe]
      refine s_ld0 (hc3 _ (Mem.le.refl _)) (by simp) (by simp) ?_
      simp -implicitDefEqProofs only [go_sem, Nat.reduceBEq, Nat.reduceAdd, Nat.reduceSub, Nat.reduceMul, Nat.reduceLeDiff, reduceCtorEq, ↓reduceIte, Int.reduceLT, Int.reduceLE, Int.reduceEq, Int.reduceNe]
      intro b5
      refine CallVC.read (gram_compare hr4 hr) ?_
      rintro v Γ' ⟨rfl, rfl⟩
      simp -implicitDefEqProofs only [go_sem, Nat.reduceBEq, Nat.reduceAdd, Nat.reduceSub, Nat.reduceMul, Nat.reduceLeDiff, reduceCtorEq, ↓reduceIte, Int.reduceLT, Int.reduceLE, Int.reduceEq, Int.reduceNe]
      refine ⟨fun h => Up.here ?_, fun h => ?_⟩
      · have hin : g.rs[k] ∈ g.rs.take k := by
          rw [← ruleC_zero.1 h, List.mem_take_iff_getElem]
          exact ⟨j, by omega, rfl⟩
        subst hR
        exact ⟨rfl, by rw [hgen 6 (by rw [hf2, if_pos hin]) (by decide)]⟩
      · simp (disch := omega) only [wrap_id]
        exact ⟨f' - 1, by omega, Up.here ⟨rfl, j + 1, rfl, by omega, fun i hi hij => by
          by_cases e : i = j
          · subst e; exact fun q => h (ruleC_zero.2 q)
          · exact hne i hi (by omega)⟩⟩
    · have hin : ¬ g.rs[k] ∈ g.rs.take k := by
        rw [List.mem_take_iff_getElem]
        rintro ⟨i, hi, e⟩
        exact hne i (by omega) (by omega) e
      simp (disch := omega) only [wrap_id]
      exact ⟨f - 1, by omega, Up.here ⟨rfl, k + 1, rfl, by omega, hzero (by rw [hf2, if_neg hin])⟩⟩
  · have hk : k = g.rs.length := by omega
    subst hk
    refine Up.here ?_
    subst hR
    exact ⟨rfl, by rw [hck, hck0]⟩
end Go.Proofs.Ytniobbepliknmaa.V
/- The text of parlance/parlref5.grid[bool] as a statement (slots: 0 a, 1 b, 2 a, 3 b, 5 out, 6 i); no condition. -/
namespace Go.Proofs.Ytniobbepliknmaa.V
open Go
def S151_1 : Stmt :=
  Stmt.seq
  (Stmt.region [SOper.mk (some 12) none (SOp.ibin BinOp.lss (Operand.tmp 11) (Operand.tmp 10))] [1, 5, 10, 11, 12])
  (Stmt.seq (Stmt.cond (Operand.tmp 12) Stmt.skip (Stmt.exit 0))
    (Stmt.seq
      (Stmt.block 1
        (Stmt.seq
          (Stmt.region
            [SOper.mk (some 13) none (SOp.mv (Operand.tmp 11)), SOper.mk (some 6) none (SOp.mv (Operand.tmp 13))]
            [1, 5, 6, 10, 11])
          (Stmt.region
            [SOper.mk (some 14) none (SOp.mv (Operand.tmp 5)), SOper.mk (some 15) none (SOp.mv (Operand.tmp 6)),
              SOper.mk (some 16) none (SOp.mv (Operand.tmp 1)),
              SOper.mk (some 17) none (SOp.mk 4 1 1 (Value.bool false) (Operand.tmp 16) (Operand.tmp 16)),
              SOper.mk (some 18) none (SOp.idx 1 (Operand.tmp 14) (Operand.tmp 15)),
              SOper.mk none none (SOp.store 1 (Operand.tmp 18) (Operand.tmp 17))]
            [1, 5, 10, 11])))
      (Stmt.region
        [SOper.mk (some 19) none (SOp.ibin BinOp.add (Operand.tmp 11) (Operand.const (Value.int IntKind.i64 1))),
          SOper.mk (some 11) none (SOp.mv (Operand.tmp 19))]
        [1, 5, 10, 11])))
def S151_0 : Stmt :=
  Stmt.seq (Stmt.region [SOper.mk (some 4) none (SOp.mv (Operand.const (Value.slice none 0 0)))] [0, 1])
  (Stmt.seq
    (Stmt.region
      [SOper.mk (some 7) none (SOp.mv (Operand.tmp 0)),
        SOper.mk (some 8) none (SOp.mk 22 1 24 (Value.slice none 0 0) (Operand.tmp 7) (Operand.tmp 7)),
        SOper.mk (some 5) none (SOp.mv (Operand.tmp 8))]
      [1, 5])
    (Stmt.seq
      (Stmt.seq
        (Stmt.region
          [SOper.mk (some 9) none (SOp.mv (Operand.tmp 5)), SOper.mk (some 10) none (SOp.len false (Operand.tmp 9)),
            SOper.mk (some 11) none (SOp.mv (Operand.const (Value.int IntKind.i64 0)))]
          [1, 5, 10, 11])
        (Stmt.block 0 (Stmt.loop S151_1 [11] [1, 5, 10])))
      (Stmt.seq
        (Stmt.region
          [SOper.mk (some 20) none (SOp.mv (Operand.tmp 5)), SOper.mk (some 4) none (SOp.mv (Operand.tmp 20))] [4])
        Stmt.ret)))
def S151 : FnS := ⟨21, [(4, none)], S151_0⟩
theorem tr151 : trFn Try.prog 151 [] [[0, 1], [1, 5], [1, 5, 10, 11], [11], [1, 5, 10], [1, 5, 10, 11, 12], [1, 5, 6, 10, 11], [1, 5, 10, 11], [1, 5, 10, 11], [4]] = some S151 := by kernel_rfl
end Go.Proofs.Ytniobbepliknmaa.V
/- Grids that are made: parlref5.grid walked; no condition. -/
namespace Go.Proofs.Ytniobbepliknmaa.V
open Go
set_option linter.unusedVariables false
set_option linter.unusedSimpArgs false
attribute [local go_sem] e_seq e_region e_quiet e_join e_loop e_cond e_block e_exit e_ret e_skip e_fin e_kseq e_snrm e_sret e_sex e_bnrm e_bret e_bex e_rnrm e_rret e_res e_condC e_nil e_g e_mv g_mv e_pick g_pick pickC_eq e_ibin g_ibin ibinC_eq e_sbin g_sbin e_beq g_beq beqC_eq e_nilq g_nilq nilqC_sl nilqC_pt nilqC_mp e_un g_un unC_not unC_neg e_conv g_conv convC_eq e_fld g_fld fldC_ref fldC_ptr e_nilCheck g_nilCheck nilCheckC_ref nilCheckC_ptr nilCheckC_fun e_field g_field fieldC_eq e_len g_len lenC_sl lenC_str e_extract g_extract extractC_eq e_mkFunc e_build g_build e_idiv g_idiv idivC_eq e_ishift g_ishift ishiftC_eq e_idx g_idx e_idxA g_idxA e_load g_load loadC_ref loadC_ptr loadB_eq e_slc g_slc e_box boxC_loc boxC_esc e_alloc allocC_loc allocC_esc e_buildS e_store storeC_ref storeC_ptr storeB_eq e_append e_appz e_mk mkC_eq e_call callC_eq e_fn g_fn fnC_eq fnV_min' fnV_max' fnV_rune' e_q g_q e_a e_n g_call g_box g_alloc g_buildS g_store g_append g_mk g_a g_n g_dead e_dead e_callK e_drawn e_tree e_finJ e_tk e_tfin e_tno e_nbt_q e_nbt_qn e_nbt_a e_nbt_an e_nbt_fin e_early_nil e_early_t e_early_f e_nob_nil e_nob_none e_nob_some isBox_dead isBox_v isBox_ref e_dnil e_dk e_ek e_finB vcOps_vc1 e_dcons e_tq e_ekt e_tearly e_talt e_dearly look_nil look_c proj_nil proj_c looks_nil looks_c zip_nil zip_c val_tmp val_const val_func slv_v slv_box slv_ref slot_tmp slot_const slot_func slotL_v slotL_box slotL_ref put_some put_none updBox_c boxSet_box gd_eq slotVals_nil slotVals_c slotVals_b boxV_box boxOn_box slotsOn_nil slotsOn_c slotsOn_b resV_one resV_two vals_nil vals_c allOn_nil allOn_c partOn_nil partOn_c partVals_nil partVals_c fits_nil fits_c fillL_nil fillL_c mkv_one mkv_agg cellsV_agg cellsV_int cellsV_bool cellsV_slice cellsV_string cellsV_pointer cellsV_func cellsV_nilf cellsV_map one'_nil one'_c oc_int oc_bool oc_slice oc_string oc_pointer oc_func oc_nilf oc_map setC_eq iv_add iv_sub iv_mul iv_eql iv_neq iv_lss iv_leq iv_gtr iv_geq iok_add iok_sub iok_mul iok_eql iok_neq iok_lss iok_leq iok_gtr iok_geq pickV_bool args0_nil args0_c bnd_none bnd_some imp_bt imp_bf imp_ebt imp_ebf imp_eb1 imp_np imp_pp beq_tt beq_tf beq_ft beq_ff cond_or cond_and e_round e_meet Int.le_refl Int.toNat_zero decide_true decide_false Bool.or_false Bool.false_or Bool.true_or Bool.or_true Bool.and_false Bool.false_and Bool.bne_false Bool.bne_true beq_iff_eq Int.cast_ofNat_Int not_false_eq_true not_true_eq_false false_and and_false false_implies true_implies true_and and_true Bool.true_and Bool.and_true Bool.not_true Bool.not_false forall_const implies_true List.take_zero List.drop_zero List.take_succ_cons List.drop_succ_cons List.take_nil List.drop_nil List.length_cons List.length_nil List.nil_append List.append_nil List.cons_append Int.toNat_natCast decide_eq_true_eq decide_eq_false_iff_not cond_true cond_false and_self List.getElem?_cons_zero List.getElem?_cons_succ List.set_cons_zero List.set_cons_succ Option.some.injEq exists_eq_left' Nat.zero_add Nat.add_zero Nat.mul_one imp_self true_or or_true or_false false_or Bool.or_eq_true Bool.or_eq_false_iff Bool.and_eq_true Bool.and_eq_false_iff Bool.not_eq_true' Bool.not_eq_false'

/-- m rows of n noughts, of which k are made -/
def part {α : Type} (z : α) (m n k : Nat) : List (List α) := List.replicate k (List.replicate n z) ++ List.replicate (m - k) []
theorem part_len {α : Type} (z : α) {m n k : Nat} (h : k ≤ m) : (part z m n k).length = m := by simp [part]; omega
theorem part_set {α : Type} (z : α) {m n k : Nat} (h : k < m) : (part z m n k).set k (List.replicate n z) = part z m n (k + 1) := by
  unfold part
  obtain ⟨d, hd⟩ : ∃ d, m - k = d + 1 := ⟨m - k - 1, by omega⟩
  rw [hd, show m - (k + 1) = d by omega, List.replicate_succ, List.set_append_right _ _ (by simp), List.replicate_succ']
  simp

theorem grid_bool {Γr : Ctx} (a n : Nat) (ha : a ≤ 1000) (hn : n ≤ 100000) :
    Ret Try.prog 151 [.int .i64 a, .int .i64 n] Γr [] (fun v Γ => ∃ g b, Γ = [g] ∧ v = .slice (some ⟨b, 0, none⟩) a a ∧ Grid g b 22 4 (List.replicate a (List.replicate n false))) := by
  generalize hR : (fun (v : Value) (Γ : Ctx) => ∃ g b, _) = R
  refine ret_of_vc tr151 (Nat.le_of_ble_eq_true rfl) ?_
  simp -implicitDefEqProofs only [S151, S151_0, go_sem, Nat.reduceBEq, Nat.reduceAdd, Nat.reduceSub, Nat.reduceMul, Nat.reduceLeDiff, reduceCtorEq, ↓reduceIte, Int.reduceLT, Int.reduceLE, Int.reduceEq, Int.reduceNe]
  refine ⟨by omega, by omega, fun b => ?_⟩
  refine s_loop (fun f vs Γ => ∃ g, Γ = [g] ∧ ∃ k : Nat, vs = [.v true (.int .i64 k)] ∧ k + f = a ∧ Grid g b 22 4 (part false a n k)) a
    (Up.here ⟨_, rfl, 0, rfl, by omega, by have := Grid.made (α := Bool) b 22 4 (m := a) (by omega); simpa [part] using this⟩) ?_
  rintro f vs Γ ⟨g, rfl, k, rfl, hkf, hG⟩
  simp -implicitDefEqProofs only [S151_1, go_sem, Nat.reduceBEq, Nat.reduceAdd, Nat.reduceSub, Nat.reduceMul, Nat.reduceLeDiff, reduceCtorEq, ↓reduceIte, Int.reduceLT, Int.reduceLE, Int.reduceEq, Int.reduceNe]
  refine ⟨fun hlt => ?_, fun hge => ?_⟩
  · have hk : k < a := by omega
    refine ⟨by omega, by omega, fun b2 => ?_⟩
    refine s_idx rfl (by omega) (by omega) ?_
    simp -implicitDefEqProofs only [go_sem, Nat.reduceBEq, Nat.reduceAdd, Nat.reduceSub, Nat.reduceMul, Nat.reduceLeDiff, reduceCtorEq, ↓reduceIte, Int.reduceLT, Int.reduceLE, Int.reduceEq, Int.reduceNe]
    refine s_storeG (ix := 1) (k := b2) (List.replicate n false) (by simp) rfl hG (by rw [part_len _ (by omega)]; omega) (by simp; omega) ?_
    intro g' hput
    simp -implicitDefEqProofs only [go_sem, Nat.reduceBEq, Nat.reduceAdd, Nat.reduceSub, Nat.reduceMul, Nat.reduceLeDiff, reduceCtorEq, ↓reduceIte, Int.reduceLT, Int.reduceLE, Int.reduceEq, Int.reduceNe]
    simp (disch := omega) only [wrap_id]
    refine ⟨f - 1, by omega, Up.apart fun hd => Up.one fun G hG' => ⟨_, rfl, k + 1, rfl, by omega, ?_⟩⟩
    rw [← part_set _ hk]
    exact hput _ _ (Arr.made false b2 4 n) ((List.pairwise_cons.1 hd).1 g' (by simp)) hG'
  · have hk : k = a := by omega
    subst hk
    refine Up.here ?_
    subst hR
    exact ⟨_, b, rfl, rfl, by simpa [part] using hG⟩
end Go.Proofs.Ytniobbepliknmaa.V
/- The text of parlance/lens.sums as a statement (slots: 0 l, 1 has, 2 n, 3 l, 4 has, 5 n, 7 at, 8 _, 9 s, 10 next, 11 k, 12 ok, 13 j); no condition. -/
namespace Go.Proofs.Ytniobbepliknmaa.V
open Go
def S113_1 : Stmt :=
  Stmt.seq
  (Stmt.region [SOper.mk (some 42) none (SOp.ibin BinOp.lss (Operand.tmp 41) (Operand.tmp 40))]
    [1, 2, 9, 10, 11, 19, 20, 21, 28, 29, 30, 40, 41, 42])
  (Stmt.seq (Stmt.cond (Operand.tmp 42) Stmt.skip (Stmt.exit 4))
    (Stmt.seq
      (Stmt.block 5
        (Stmt.seq
          (Stmt.region
            [SOper.mk (some 43) none (SOp.mv (Operand.tmp 41)), SOper.mk (some 13) none (SOp.mv (Operand.tmp 43))]
            [1, 2, 9, 10, 11, 13, 19, 20, 21, 28, 29, 30, 40, 41])
          (Stmt.region
            [SOper.mk (some 44) none (SOp.mv (Operand.tmp 10)), SOper.mk (some 45) none (SOp.mv (Operand.tmp 11)),
              SOper.mk (some 46) none (SOp.mv (Operand.tmp 13)),
              SOper.mk (some 47) none (SOp.ibin BinOp.add (Operand.tmp 45) (Operand.tmp 46)),
              SOper.mk (some 48) none (SOp.mv (Operand.tmp 10)), SOper.mk (some 49) none (SOp.mv (Operand.tmp 11)),
              SOper.mk (some 50) none (SOp.mv (Operand.tmp 13)),
              SOper.mk (some 51) none (SOp.ibin BinOp.add (Operand.tmp 49) (Operand.tmp 50)),
              SOper.mk (some 52) none (SOp.idx 1 (Operand.tmp 48) (Operand.tmp 51)),
              SOper.mk (some 53) none (SOp.load false 1 (Operand.tmp 52)),
              SOper.mk (some 54) none (SOp.mv (Operand.tmp 53)),
              SOper.mk (some 55) (some (54, false)) (SOp.fld 0 (Operand.tmp 9)),
              SOper.mk (some 56) (some (54, false)) (SOp.load false 1 (Operand.tmp 55)),
              SOper.mk (some 57) (some (54, false)) (SOp.mv (Operand.tmp 56)),
              SOper.mk (some 58) (some (57, true)) (SOp.mv (Operand.tmp 13)),
              SOper.mk (some 59) (some (57, true))
                (SOp.ibin BinOp.eql (Operand.tmp 58) (Operand.const (Value.int IntKind.i64 1))),
              SOper.mk (some 60) (some (54, false))
                (SOp.pick (Operand.tmp 57) (Operand.tmp 59) (Operand.const (Value.bool false))),
              SOper.mk (some 61) none (SOp.pick (Operand.tmp 54) (Operand.const (Value.bool true)) (Operand.tmp 60)),
              SOper.mk (some 62) none (SOp.mv (Operand.tmp 61)),
              SOper.mk (some 63) (some (62, false)) (SOp.fld 0 (Operand.tmp 9)),
              SOper.mk (some 64) (some (62, false)) (SOp.load false 1 (Operand.tmp 63)),
              SOper.mk (some 65) (some (62, false)) (SOp.un UnOp.not (Operand.tmp 64)),
              SOper.mk (some 66) (some (62, false)) (SOp.mv (Operand.tmp 65)),
              SOper.mk (some 67) (some (66, true)) (SOp.mv (Operand.tmp 1)),
              SOper.mk (some 68) (some (66, true)) (SOp.fld 1 (Operand.tmp 9)),
              SOper.mk (some 69) (some (66, true)) (SOp.load false 1 (Operand.tmp 68)),
              SOper.mk (some 70) (some (66, true)) (SOp.idx 1 (Operand.tmp 67) (Operand.tmp 69)),
              SOper.mk (some 71) (some (66, true)) (SOp.load false 1 (Operand.tmp 70)),
              SOper.mk (some 72) (some (66, true)) (SOp.mv (Operand.tmp 13)),
              SOper.mk (some 73) (some (66, true)) (SOp.idx 1 (Operand.tmp 71) (Operand.tmp 72)),
              SOper.mk (some 74) (some (66, true)) (SOp.load false 1 (Operand.tmp 73)),
              SOper.mk (some 75) (some (62, false))
                (SOp.pick (Operand.tmp 66) (Operand.tmp 74) (Operand.const (Value.bool false))),
              SOper.mk (some 76) none (SOp.pick (Operand.tmp 62) (Operand.const (Value.bool true)) (Operand.tmp 75)),
              SOper.mk (some 77) none (SOp.idx 1 (Operand.tmp 44) (Operand.tmp 47)),
              SOper.mk none none (SOp.store 1 (Operand.tmp 77) (Operand.tmp 76))]
            [1, 2, 9, 10, 11, 19, 20, 21, 28, 29, 30, 40, 41])))
      (Stmt.region
        [SOper.mk (some 78) none (SOp.ibin BinOp.add (Operand.tmp 41) (Operand.const (Value.int IntKind.i64 1))),
          SOper.mk (some 41) none (SOp.mv (Operand.tmp 78))]
        [1, 2, 9, 10, 11, 19, 20, 21, 28, 29, 30, 40, 41])))
def S113_2 : Stmt :=
  Stmt.block 3
  (Stmt.seq
    (Stmt.region
      [SOper.mk (some 32) none (SOp.mv (Operand.tmp 30)),
        SOper.mk (some 33) none (SOp.idx 1 (Operand.tmp 28) (Operand.tmp 30)),
        SOper.mk (some 34) none (SOp.load false 1 (Operand.tmp 33)), SOper.mk (some 11) none (SOp.mv (Operand.tmp 32)),
        SOper.mk (some 12) none (SOp.mv (Operand.tmp 34))]
      [1, 2, 9, 10, 11, 12, 19, 20, 21, 28, 29, 30])
    (Stmt.seq
      (Stmt.seq
        (Stmt.region
          [SOper.mk (some 35) none (SOp.mv (Operand.tmp 12)),
            SOper.mk (some 36) none (SOp.un UnOp.not (Operand.tmp 35))]
          [1, 2, 9, 10, 11, 19, 20, 21, 28, 29, 30, 36])
        (Stmt.cond (Operand.tmp 36) (Stmt.exit 3) Stmt.skip))
      (Stmt.seq
        (Stmt.region
          [SOper.mk (some 37) none (SOp.mv (Operand.tmp 2)),
            SOper.mk (some 38) none (SOp.ibin BinOp.add (Operand.tmp 37) (Operand.const (Value.int IntKind.i64 1))),
            SOper.mk (some 39) none (SOp.mv (Operand.tmp 11)),
            SOper.mk (some 40) none (SOp.ibin BinOp.sub (Operand.tmp 38) (Operand.tmp 39)),
            SOper.mk (some 41) none (SOp.mv (Operand.const (Value.int IntKind.i64 0)))]
          [1, 2, 9, 10, 11, 19, 20, 21, 28, 29, 30, 40, 41])
        (Stmt.block 4 (Stmt.loop S113_1 [41] [1, 2, 9, 10, 11, 19, 20, 21, 28, 29, 30, 40])))))
def S113_3 : Stmt :=
  Stmt.region
  [SOper.mk (some 79) none (SOp.ibin BinOp.add (Operand.tmp 30) (Operand.const (Value.int IntKind.i64 1))),
    SOper.mk (some 30) none (SOp.mv (Operand.tmp 79))]
  [1, 2, 9, 10, 19, 20, 21, 28, 29, 30]
def S113_4 : Stmt :=
  Stmt.seq
  (Stmt.region [SOper.mk (some 31) none (SOp.ibin BinOp.lss (Operand.tmp 30) (Operand.tmp 29))]
    [1, 2, 9, 10, 19, 20, 21, 28, 29, 30, 31])
  (Stmt.seq (Stmt.cond (Operand.tmp 31) Stmt.skip (Stmt.exit 2))
    (Stmt.join S113_2 S113_3 [] [1, 2, 9, 10, 19, 20, 21, 28, 29, 30]))
def S113_5 : Stmt :=
  Stmt.seq
  (Stmt.region [SOper.mk (some 22) none (SOp.ibin BinOp.lss (Operand.tmp 21) (Operand.tmp 20))]
    [1, 2, 7, 19, 20, 21, 22])
  (Stmt.seq (Stmt.cond (Operand.tmp 22) Stmt.skip (Stmt.exit 0))
    (Stmt.seq
      (Stmt.block 1
        (Stmt.seq
          (Stmt.region
            [SOper.mk (some 23) none (SOp.idx 2 (Operand.tmp 19) (Operand.tmp 21)),
              SOper.mk (some 24) none (SOp.load true 2 (Operand.tmp 23)),
              SOper.mk (some 9) none
                (SOp.alloc true 39 (Value.agg (Array.mk [Value.bool false, Value.int IntKind.i64 0]))),
              SOper.mk none none (SOp.store 2 (Operand.tmp 9) (Operand.tmp 24))]
            [1, 2, 7, 9, 19, 20, 21])
          (Stmt.seq
            (Stmt.region
              [SOper.mk (some 25) none (SOp.mv (Operand.tmp 2)),
                SOper.mk (some 26) none (SOp.ibin BinOp.add (Operand.tmp 25) (Operand.const (Value.int IntKind.i64 1))),
                SOper.mk (some 27) none (SOp.mk 4 1 1 (Value.bool false) (Operand.tmp 26) (Operand.tmp 26)),
                SOper.mk (some 10) none (SOp.mv (Operand.tmp 27))]
              [1, 2, 7, 9, 10, 19, 20, 21])
            (Stmt.seq
              (Stmt.seq
                (Stmt.region
                  [SOper.mk (some 28) none (SOp.mv (Operand.tmp 7)),
                    SOper.mk (some 29) none (SOp.len false (Operand.tmp 28)),
                    SOper.mk (some 30) none (SOp.mv (Operand.const (Value.int IntKind.i64 0)))]
                  [1, 2, 9, 10, 19, 20, 21, 28, 29, 30])
                (Stmt.block 2 (Stmt.loop S113_4 [30] [1, 2, 9, 10, 19, 20, 21, 28, 29])))
              (Stmt.region
                [SOper.mk (some 80) none (SOp.mv (Operand.tmp 10)), SOper.mk (some 7) none (SOp.mv (Operand.tmp 80))]
                [1, 2, 7, 19, 20, 21])))))
      (Stmt.region
        [SOper.mk (some 81) none (SOp.ibin BinOp.add (Operand.tmp 21) (Operand.const (Value.int IntKind.i64 1))),
          SOper.mk (some 21) none (SOp.mv (Operand.tmp 81))]
        [1, 2, 7, 19, 20, 21])))
def S113_0 : Stmt :=
  Stmt.seq (Stmt.region [SOper.mk (some 6) none (SOp.mv (Operand.const (Value.slice none 0 0)))] [0, 1, 2])
  (Stmt.seq
    (Stmt.region
      [SOper.mk (some 14) none (SOp.mv (Operand.tmp 2)),
        SOper.mk (some 15) none (SOp.ibin BinOp.add (Operand.tmp 14) (Operand.const (Value.int IntKind.i64 1))),
        SOper.mk (some 16) none (SOp.mk 4 1 1 (Value.bool false) (Operand.tmp 15) (Operand.tmp 15)),
        SOper.mk (some 7) none (SOp.mv (Operand.tmp 16))]
      [0, 1, 2, 7])
    (Stmt.seq
      (Stmt.region
        [SOper.mk (some 17) none (SOp.mv (Operand.tmp 7)),
          SOper.mk (some 18) none (SOp.idx 1 (Operand.tmp 17) (Operand.const (Value.int IntKind.i64 0))),
          SOper.mk none none (SOp.store 1 (Operand.tmp 18) (Operand.const (Value.bool true)))]
        [0, 1, 2, 7])
      (Stmt.seq
        (Stmt.seq
          (Stmt.region
            [SOper.mk (some 19) none (SOp.mv (Operand.tmp 0)), SOper.mk (some 20) none (SOp.len false (Operand.tmp 19)),
              SOper.mk (some 21) none (SOp.mv (Operand.const (Value.int IntKind.i64 0)))]
            [1, 2, 7, 19, 20, 21])
          (Stmt.block 0 (Stmt.loop S113_5 [7, 21] [1, 2, 19, 20])))
        (Stmt.seq
          (Stmt.region
            [SOper.mk (some 82) none (SOp.mv (Operand.tmp 7)), SOper.mk (some 6) none (SOp.mv (Operand.tmp 82))] [6])
          Stmt.ret))))
def S113 : FnS := ⟨83, [(6, none)], S113_0⟩
theorem tr113 : trFn Try.prog 113 [9] [[0, 1, 2], [0, 1, 2, 7], [0, 1, 2, 7], [1, 2, 7, 19, 20, 21], [7, 21], [1, 2, 19, 20], [1, 2, 7, 19, 20, 21, 22], [1, 2, 7, 9, 19, 20, 21], [1, 2, 7, 9, 10, 19, 20, 21], [1, 2, 9, 10, 19, 20, 21, 28, 29, 30], [30], [1, 2, 9, 10, 19, 20, 21, 28, 29], [1, 2, 9, 10, 19, 20, 21, 28, 29, 30, 31], [], [1, 2, 9, 10, 19, 20, 21, 28, 29, 30], [1, 2, 9, 10, 11, 12, 19, 20, 21, 28, 29, 30], [1, 2, 9, 10, 11, 19, 20, 21, 28, 29, 30, 36], [1, 2, 9, 10, 11, 19, 20, 21, 28, 29, 30, 40, 41], [41], [1, 2, 9, 10, 11, 19, 20, 21, 28, 29, 30, 40], [1, 2, 9, 10, 11, 19, 20, 21, 28, 29, 30, 40, 41, 42], [1, 2, 9, 10, 11, 13, 19, 20, 21, 28, 29, 30, 40, 41], [1, 2, 9, 10, 11, 19, 20, 21, 28, 29, 30, 40, 41], [1, 2, 9, 10, 11, 19, 20, 21, 28, 29, 30, 40, 41], [1, 2, 9, 10, 19, 20, 21, 28, 29, 30], [1, 2, 7, 19, 20, 21], [1, 2, 7, 19, 20, 21], [6]] = some S113 := by kernel_rfl
end Go.Proofs.Ytniobbepliknmaa.V
/- The text of parlance/lens.Set as a statement (slots: 0 g, 1 n, 2 g, 3 n, 6 e, 7 has, 8 a, 9 again, 10 _, 11 r, 12 k, 13 ok); no condition. -/
namespace Go.Proofs.Ytniobbepliknmaa.V
open Go
def S39_1 : Stmt :=
  Stmt.seq
  (Stmt.region [SOper.mk (some 31) none (SOp.ibin BinOp.lss (Operand.tmp 30) (Operand.tmp 29))] [1, 2, 7, 29, 30, 31])
  (Stmt.seq (Stmt.cond (Operand.tmp 31) Stmt.skip (Stmt.exit 0))
    (Stmt.seq
      (Stmt.block 1
        (Stmt.seq
          (Stmt.region
            [SOper.mk (some 32) none (SOp.mv (Operand.tmp 30)), SOper.mk (some 8) none (SOp.mv (Operand.tmp 32))]
            [1, 2, 7, 8, 29, 30])
          (Stmt.region
            [SOper.mk (some 33) none (SOp.mv (Operand.tmp 7)), SOper.mk (some 34) none (SOp.mv (Operand.tmp 8)),
              SOper.mk (some 35) none (SOp.mv (Operand.tmp 1)),
              SOper.mk (some 36) none (SOp.ibin BinOp.add (Operand.tmp 35) (Operand.const (Value.int IntKind.i64 1))),
              SOper.mk (some 37) none (SOp.mk 4 1 1 (Value.bool false) (Operand.tmp 36) (Operand.tmp 36)),
              SOper.mk (some 38) none (SOp.idx 1 (Operand.tmp 33) (Operand.tmp 34)),
              SOper.mk none none (SOp.store 1 (Operand.tmp 38) (Operand.tmp 37))]
            [1, 2, 7, 29, 30])))
      (Stmt.region
        [SOper.mk (some 39) none (SOp.ibin BinOp.add (Operand.tmp 30) (Operand.const (Value.int IntKind.i64 1))),
          SOper.mk (some 30) none (SOp.mv (Operand.tmp 39))]
        [1, 2, 7, 29, 30])))
def S39_2 : Stmt :=
  Stmt.block 7
  (Stmt.seq
    (Stmt.region
      [SOper.mk (some 56) none (SOp.mv (Operand.tmp 54)),
        SOper.mk (some 57) none (SOp.idx 1 (Operand.tmp 52) (Operand.tmp 54)),
        SOper.mk (some 58) none (SOp.load false 1 (Operand.tmp 57)), SOper.mk (some 12) none (SOp.mv (Operand.tmp 56)),
        SOper.mk (some 13) none (SOp.mv (Operand.tmp 58))]
      [1, 2, 7, 9, 11, 12, 13, 42, 43, 44, 52, 53, 54])
    (Stmt.seq
      (Stmt.region
        [SOper.mk (some 59) none (SOp.mv (Operand.tmp 13)), SOper.mk (some 60) none (SOp.mv (Operand.tmp 59)),
          SOper.mk (some 61) (some (60, true)) (SOp.mv (Operand.tmp 7)),
          SOper.mk (some 62) (some (60, true)) (SOp.fld 0 (Operand.tmp 11)),
          SOper.mk (some 63) (some (60, true)) (SOp.load false 1 (Operand.tmp 62)),
          SOper.mk (some 64) (some (60, true)) (SOp.idx 1 (Operand.tmp 61) (Operand.tmp 63)),
          SOper.mk (some 65) (some (60, true)) (SOp.load false 1 (Operand.tmp 64)),
          SOper.mk (some 66) (some (60, true)) (SOp.mv (Operand.tmp 12)),
          SOper.mk (some 67) (some (60, true)) (SOp.idx 1 (Operand.tmp 65) (Operand.tmp 66)),
          SOper.mk (some 68) (some (60, true)) (SOp.load false 1 (Operand.tmp 67)),
          SOper.mk (some 69) (some (60, true)) (SOp.un UnOp.not (Operand.tmp 68)),
          SOper.mk (some 70) none (SOp.pick (Operand.tmp 60) (Operand.tmp 69) (Operand.const (Value.bool false)))]
        [1, 2, 7, 9, 11, 12, 42, 43, 44, 52, 53, 54, 70])
      (Stmt.cond (Operand.tmp 70)
        (Stmt.region
          [SOper.mk (some 71) none (SOp.mv (Operand.tmp 7)), SOper.mk (some 72) none (SOp.fld 0 (Operand.tmp 11)),
            SOper.mk (some 73) none (SOp.load false 1 (Operand.tmp 72)),
            SOper.mk (some 74) none (SOp.idx 1 (Operand.tmp 71) (Operand.tmp 73)),
            SOper.mk (some 75) none (SOp.load false 1 (Operand.tmp 74)),
            SOper.mk (some 76) none (SOp.mv (Operand.tmp 12)),
            SOper.mk (some 77) none (SOp.idx 1 (Operand.tmp 75) (Operand.tmp 76)),
            SOper.mk none none (SOp.store 1 (Operand.tmp 77) (Operand.const (Value.bool true))),
            SOper.mk (some 9) none (SOp.mv (Operand.const (Value.bool true)))]
          [1, 2, 7, 9, 11, 42, 43, 44, 52, 53, 54])
        Stmt.skip)))
def S39_3 : Stmt :=
  Stmt.region
  [SOper.mk (some 78) none (SOp.ibin BinOp.add (Operand.tmp 54) (Operand.const (Value.int IntKind.i64 1))),
    SOper.mk (some 54) none (SOp.mv (Operand.tmp 78))]
  [1, 2, 7, 9, 11, 42, 43, 44, 52, 53, 54]
def S39_4 : Stmt :=
  Stmt.seq
  (Stmt.region [SOper.mk (some 55) none (SOp.ibin BinOp.lss (Operand.tmp 54) (Operand.tmp 53))]
    [1, 2, 7, 9, 11, 42, 43, 44, 52, 53, 54, 55])
  (Stmt.seq (Stmt.cond (Operand.tmp 55) Stmt.skip (Stmt.exit 6))
    (Stmt.join S39_2 S39_3 [9] [1, 2, 7, 11, 42, 43, 44, 52, 53, 54]))
def S39_5 : Stmt :=
  Stmt.seq
  (Stmt.region [SOper.mk (some 45) none (SOp.ibin BinOp.lss (Operand.tmp 44) (Operand.tmp 43))]
    [1, 2, 7, 9, 42, 43, 44, 45])
  (Stmt.seq (Stmt.cond (Operand.tmp 45) Stmt.skip (Stmt.exit 4))
    (Stmt.seq
      (Stmt.block 5
        (Stmt.seq
          (Stmt.region
            [SOper.mk (some 46) none (SOp.idx 2 (Operand.tmp 42) (Operand.tmp 44)),
              SOper.mk (some 47) none (SOp.load true 2 (Operand.tmp 46)),
              SOper.mk (some 11) none
                (SOp.alloc true 37 (Value.agg (Array.mk [Value.int IntKind.i64 0, Value.slice none 0 0]))),
              SOper.mk none none (SOp.store 2 (Operand.tmp 11) (Operand.tmp 47))]
            [1, 2, 7, 9, 11, 42, 43, 44])
          (Stmt.seq
            (Stmt.region
              [SOper.mk (some 48) none (SOp.fld 1 (Operand.tmp 11)),
                SOper.mk (some 49) none (SOp.load false 1 (Operand.tmp 48)),
                SOper.mk (some 50) none (SOp.mv (Operand.tmp 7)), SOper.mk (some 51) none (SOp.mv (Operand.tmp 1)),
                SOper.mk (some 52) none (SOp.call (Operand.func 113) [Operand.tmp 49, Operand.tmp 50, Operand.tmp 51]),
                SOper.mk (some 53) none (SOp.len false (Operand.tmp 52)),
                SOper.mk (some 54) none (SOp.mv (Operand.const (Value.int IntKind.i64 0)))]
              [1, 2, 7, 9, 11, 42, 43, 44, 52, 53, 54])
            (Stmt.block 6 (Stmt.loop S39_4 [9, 54] [1, 2, 7, 11, 42, 43, 44, 52, 53])))))
      (Stmt.region
        [SOper.mk (some 79) none (SOp.ibin BinOp.add (Operand.tmp 44) (Operand.const (Value.int IntKind.i64 1))),
          SOper.mk (some 44) none (SOp.mv (Operand.tmp 79))]
        [1, 2, 7, 9, 42, 43, 44])))
def S39_6 : Stmt :=
  Stmt.seq
  (Stmt.seq (Stmt.region [SOper.mk (some 40) none (SOp.mv (Operand.tmp 9))] [1, 2, 7, 40])
    (Stmt.cond (Operand.tmp 40) Stmt.skip (Stmt.exit 2)))
  (Stmt.block 3
    (Stmt.seq (Stmt.region [SOper.mk (some 9) none (SOp.mv (Operand.const (Value.bool false)))] [1, 2, 7, 9])
      (Stmt.seq
        (Stmt.region
          [SOper.mk (some 41) none (SOp.fld 3 (Operand.tmp 2)),
            SOper.mk (some 42) none (SOp.load false 1 (Operand.tmp 41)),
            SOper.mk (some 43) none (SOp.len false (Operand.tmp 42)),
            SOper.mk (some 44) none (SOp.mv (Operand.const (Value.int IntKind.i64 0)))]
          [1, 2, 7, 9, 42, 43, 44])
        (Stmt.block 4 (Stmt.loop S39_5 [9, 44] [1, 2, 7, 42, 43])))))
def S39_0 : Stmt :=
  Stmt.seq
  (Stmt.region
    [SOper.mk (some 2) none (SOp.box true 57 (Operand.tmp 0)),
      SOper.mk (some 4) none (SOp.mv (Operand.const (Value.slice none 0 0))),
      SOper.mk (some 5) none (SOp.mv (Operand.const (Value.int IntKind.i64 0)))]
    [1, 2])
  (Stmt.seq
    (Stmt.seq
      (Stmt.region
        [SOper.mk (some 14) none (SOp.load true 4 (Operand.tmp 2)),
          SOper.mk (some 15) none (SOp.call (Operand.func 112) [Operand.tmp 14]),
          SOper.mk (some 6) none (SOp.mv (Operand.tmp 15))]
        [1, 2, 6])
      (Stmt.seq
        (Stmt.region
          [SOper.mk (some 16) none (SOp.mv (Operand.tmp 6)),
            SOper.mk (some 17) none (SOp.ibin BinOp.neq (Operand.tmp 16) (Operand.const (Value.int IntKind.i64 0)))]
          [1, 2, 6, 17])
        (Stmt.cond (Operand.tmp 17)
          (Stmt.seq
            (Stmt.region
              [SOper.mk (some 18) none (SOp.mv (Operand.tmp 6)),
                SOper.mk (some 4) none (SOp.mv (Operand.const (Value.slice none 0 0))),
                SOper.mk (some 5) none (SOp.mv (Operand.tmp 18))]
              [4, 5])
            Stmt.ret)
          Stmt.skip)))
    (Stmt.seq
      (Stmt.seq
        (Stmt.region
          [SOper.mk (some 19) none (SOp.mv (Operand.tmp 1)),
            SOper.mk (some 20) none (SOp.ibin BinOp.lss (Operand.tmp 19) (Operand.const (Value.int IntKind.i64 0))),
            SOper.mk (some 21) none (SOp.mv (Operand.tmp 20)),
            SOper.mk (some 22) (some (21, false)) (SOp.mv (Operand.tmp 1)),
            SOper.mk (some 23) (some (21, false))
              (SOp.ibin BinOp.gtr (Operand.tmp 22) (Operand.const (Value.int IntKind.i64 200))),
            SOper.mk (some 24) none (SOp.pick (Operand.tmp 21) (Operand.const (Value.bool true)) (Operand.tmp 23))]
          [1, 2, 24])
        (Stmt.cond (Operand.tmp 24)
          (Stmt.seq
            (Stmt.region
              [SOper.mk (some 4) none (SOp.mv (Operand.const (Value.slice none 0 0))),
                SOper.mk (some 5) none (SOp.mv (Operand.const (Value.int IntKind.i64 1)))]
              [4, 5])
            Stmt.ret)
          Stmt.skip))
      (Stmt.seq
        (Stmt.region
          [SOper.mk (some 25) none (SOp.fld 1 (Operand.tmp 2)),
            SOper.mk (some 26) none (SOp.load false 1 (Operand.tmp 25)),
            SOper.mk (some 27) none (SOp.mk 22 1 24 (Value.slice none 0 0) (Operand.tmp 26) (Operand.tmp 26)),
            SOper.mk (some 7) none (SOp.mv (Operand.tmp 27))]
          [1, 2, 7])
        (Stmt.seq
          (Stmt.seq
            (Stmt.region
              [SOper.mk (some 28) none (SOp.mv (Operand.tmp 7)),
                SOper.mk (some 29) none (SOp.len false (Operand.tmp 28)),
                SOper.mk (some 30) none (SOp.mv (Operand.const (Value.int IntKind.i64 0)))]
              [1, 2, 7, 29, 30])
            (Stmt.block 0 (Stmt.loop S39_1 [30] [1, 2, 7, 29])))
          (Stmt.seq
            (Stmt.seq (Stmt.region [SOper.mk (some 9) none (SOp.mv (Operand.const (Value.bool true)))] [1, 2, 7, 9])
              (Stmt.block 2 (Stmt.loop S39_6 [9] [1, 2, 7])))
            (Stmt.seq
              (Stmt.region
                [SOper.mk (some 80) none (SOp.mv (Operand.tmp 7)), SOper.mk (some 81) none (SOp.fld 2 (Operand.tmp 2)),
                  SOper.mk (some 82) none (SOp.load false 1 (Operand.tmp 81)),
                  SOper.mk (some 83) none (SOp.idx 1 (Operand.tmp 80) (Operand.tmp 82)),
                  SOper.mk (some 84) none (SOp.load false 1 (Operand.tmp 83)),
                  SOper.mk (some 4) none (SOp.mv (Operand.tmp 84)),
                  SOper.mk (some 5) none (SOp.mv (Operand.const (Value.int IntKind.i64 0)))]
                [4, 5])
              Stmt.ret))))))
def S39 : FnS := ⟨85, [(4, none), (5, none)], S39_0⟩
theorem tr39 : trFn Try.prog 39 [2, 11] [[1, 2], [1, 2, 6], [1, 2, 6, 17], [4, 5], [1, 2, 24], [4, 5], [1, 2, 7], [1, 2, 7, 29, 30], [30], [1, 2, 7, 29], [1, 2, 7, 29, 30, 31], [1, 2, 7, 8, 29, 30], [1, 2, 7, 29, 30], [1, 2, 7, 29, 30], [1, 2, 7, 9], [9], [1, 2, 7], [1, 2, 7, 40], [1, 2, 7, 9], [1, 2, 7, 9, 42, 43, 44], [9, 44], [1, 2, 7, 42, 43], [1, 2, 7, 9, 42, 43, 44, 45], [1, 2, 7, 9, 11, 42, 43, 44], [1, 2, 7, 9, 11, 42, 43, 44, 52, 53, 54], [9, 54], [1, 2, 7, 11, 42, 43, 44, 52, 53], [1, 2, 7, 9, 11, 42, 43, 44, 52, 53, 54, 55], [9], [1, 2, 7, 11, 42, 43, 44, 52, 53, 54], [1, 2, 7, 9, 11, 12, 13, 42, 43, 44, 52, 53, 54], [1, 2, 7, 9, 11, 12, 42, 43, 44, 52, 53, 54, 70], [1, 2, 7, 9, 11, 42, 43, 44, 52, 53, 54], [1, 2, 7, 9, 11, 42, 43, 44, 52, 53, 54], [1, 2, 7, 9, 42, 43, 44], [4, 5]] = some S39 := by kernel_rfl
end Go.Proofs.Ytniobbepliknmaa.V
