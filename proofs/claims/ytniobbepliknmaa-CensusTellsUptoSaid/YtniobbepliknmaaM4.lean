/- Texts put together, in the order in which they build; each says what it proves; no condition. -/
import Derived.Test.YtniobbepliknmaaM2
import Derived.Maps.Keyed
import Derived.Test.YtniobbepliknmaaProg
import Derived.DeepKeys5
import Derived.MapFrom
import Derived.Maps.RangeRun
import Derived.Laws.BytesArg
/- Maps: a map as the list of its keys and values; no condition. -/
namespace Go.Proofs.Ytniobbepliknmaa.V
open Go
set_option linter.unusedVariables false
set_option linter.unusedSimpArgs false
set_option linter.unusedSectionVars false
attribute [local go_sem] e_seq e_region e_quiet e_join e_loop e_cond e_block e_exit e_ret e_skip e_fin e_kseq e_snrm e_sret e_sex e_bnrm e_bret e_bex e_rnrm e_rret e_res e_condC e_nil e_g e_mv g_mv e_pick g_pick pickC_eq e_ibin g_ibin ibinC_eq e_sbin g_sbin e_beq g_beq beqC_eq e_nilq g_nilq nilqC_sl nilqC_pt nilqC_mp e_un g_un unC_not unC_neg e_conv g_conv convC_eq e_fld g_fld fldC_ref fldC_ptr e_nilCheck g_nilCheck nilCheckC_ref nilCheckC_ptr nilCheckC_fun e_field g_field fieldC_eq e_len g_len lenC_sl lenC_str e_extract g_extract extractC_eq e_mkFunc e_build g_build e_idiv g_idiv idivC_eq e_ishift g_ishift ishiftC_eq e_idx g_idx e_idxA g_idxA e_load g_load e_loadB g_loadB atB_ref atB_v g_mkFunc loadC_ref loadC_ptr loadB_eq e_slc g_slc e_box boxC_loc boxC_esc e_alloc allocC_loc allocC_esc e_buildS e_store storeC_ref storeC_ptr storeB_eq e_append e_appz e_mk mkC_eq e_call callC_eq e_fn g_fn fnC_eq fnV_min' fnV_max' fnV_rune' e_q g_q e_a e_n g_call g_box g_alloc g_buildS g_store g_append g_mk g_a g_n g_dead e_dead e_callK e_drawn e_tree e_finJ e_tk e_tfin e_tno e_nbt_q e_nbt_qn e_nbt_a e_nbt_an e_nbt_fin e_drawnB e_bxb_nil e_bxb e_stB_none e_stB_some boxSt_store bs_mv bs_pick bs_ibin bs_idiv bs_ishift bs_sbin bs_beq bs_nilq bs_un bs_conv bs_box bs_alloc bs_build bs_buildS bs_load bs_fld bs_nilCheck bs_idx bs_idxA bs_field bs_slc bs_len bs_append bs_appz bs_mk bs_call bs_extract bs_mkFunc bs_fn bs_q bs_a bs_n bs_loadB bs_dead isBox_box e_early_nil e_early_t e_early_f e_nob_nil e_nob_none e_nob_some isBox_dead isBox_v isBox_ref e_dnil e_dk e_ek e_finB vcOps_vc1 e_dcons e_tq e_ekt e_tearly e_talt e_dearly look_nil look_c proj_nil proj_c looks_nil looks_c zip_nil zip_c val_tmp val_const val_func slv_v slv_box slv_ref slot_tmp slot_const slot_func slotL_v slotL_box slotL_ref put_some put_none updBox_c boxSet_box gd_eq slotVals_nil slotVals_c slotVals_b boxV_box boxOn_box slotsOn_nil slotsOn_c slotsOn_b resV_one resV_two vals_nil vals_c allOn_nil allOn_c partOn_nil partOn_c partVals_nil partVals_c fits_nil fits_c fillL_nil fillL_c mkv_one mkv_agg cellsV_agg cellsV_int cellsV_bool cellsV_slice cellsV_string cellsV_pointer cellsV_func cellsV_nilf cellsV_map one'_nil one'_c oc_int oc_bool oc_slice oc_string oc_pointer oc_func oc_nilf oc_map setC_eq iv_add iv_sub iv_mul iv_eql iv_neq iv_lss iv_leq iv_gtr iv_geq iok_add iok_sub iok_mul iok_eql iok_neq iok_lss iok_leq iok_gtr iok_geq pickV_bool args0_nil args0_c bnd_none bnd_some imp_bt imp_bf imp_ebt imp_ebf imp_eb1 imp_np imp_pp beq_tt beq_tf beq_ft beq_ff cond_or cond_and e_round e_meet Int.le_refl Int.toNat_zero decide_true decide_false Bool.or_false Bool.false_or Bool.true_or Bool.or_true Bool.and_false Bool.false_and Bool.bne_false Bool.bne_true beq_iff_eq Int.cast_ofNat_Int not_false_eq_true not_true_eq_false false_and and_false false_implies true_implies true_and and_true Bool.true_and Bool.and_true Bool.not_true Bool.not_false forall_const implies_true List.take_zero List.drop_zero List.take_succ_cons List.drop_succ_cons List.take_nil List.drop_nil List.length_cons List.length_nil List.nil_append List.append_nil List.cons_append Int.toNat_natCast decide_eq_true_eq decide_eq_false_iff_not cond_true cond_false and_self List.getElem?_cons_zero List.getElem?_cons_succ List.set_cons_zero List.set_cons_succ Option.some.injEq exists_eq_left' Nat.zero_add Nat.add_zero Nat.mul_one imp_self true_or or_true or_false false_or Bool.or_eq_true Bool.or_eq_false_iff Bool.and_eq_true Bool.and_eq_false_iff Bool.not_eq_true' Bool.not_eq_false'

theorem zero_run {P : Program} {e : TypeId} {z : Value} (h : (P.info? e).bind (·.zero) = some z) (w : World) : (zeroValue e).run P w = .ok z w := by
  obtain ⟨i, hi, hz⟩ := Option.bind_eq_some_iff.1 h
  simp [zeroValue, typeInfo, hi, hz]
/-- what a map's operations need of the keys -/
structure KT (P : Program) (k : TypeId) {α : Type} (eK : α → Value) (good : α → Prop) : Prop where
  inj : ∀ a b, eK a = eK b → a = b
  check : ∀ (w : World) (em : Bool) a, good a → (Instr.checkKey em 10000 k (eK a)).run P w = .ok () w
  find : ∀ (w : World) a, good a → ∀ es : List MapEntry, (∀ e ∈ es, ∃ b, good b ∧ e.key = eK b) →
    ((Instr.findKey k (eK a) es).run P w = .ok none w ∧ ∀ e ∈ es, e.key ≠ eK a) ∨ ∃ j e, (Instr.findKey k (eK a) es).run P w = .ok (some (j, e.val)) w ∧ es[j]? = some e ∧ e.key = eK a
  stays : ∀ (w : World) a, good a → (Instr.keyThatStays (eK a) (eK a)).run P w = .ok (eK a) w
theorem KT.of {P : Program} {k : TypeId} {α : Type} {eK : α → Value} {good : α → Prop} (K : Maps.Keyed P k) (hi : ∀ a b, eK a = eK b → a = b) (h : ∀ a, good a → ∃ l, keyOf P k (eK a) = some l) : KT P k eK good where
  inj := hi
  check w em a ha := by obtain ⟨l, hl⟩ := h a ha; exact K.check w em hl
  find w a ha es he := by
    obtain ⟨l, hl⟩ := h a ha
    exact K.find w hl es fun e hm => by obtain ⟨b, hb, q⟩ := he e hm; rw [q]; exact h b hb
  stays w a ha := by obtain ⟨l, hl⟩ := h a ha; exact K.stays w hl

section
variable {α β : Type}
/-- each entry has its own time of birth, which is past -/
def Born (es : List MapEntry) (clock : Nat) : Prop := (∀ e ∈ es, e.born < clock) ∧ (es.map (·.born)).Nodup
/-- the map b lies in memory -/
structure MapL (L : Mem) (b : Nat) (eK : α → Value) (eV : β → Value) (good : α → Prop) (l : List (α × β)) : Prop where
  nodup : (l.map (·.1)).Nodup
  good : ∀ p ∈ l, good p.1
  at' : ∃ es clock, L b (.map es clock) ∧ es.toList.map (fun e => (e.key, e.val)) = l.map (fun p => (eK p.1, eV p.2)) ∧ Born es.toList clock
theorem MapL.mono {L L' : Mem} {b : Nat} {eK : α → Value} {eV : β → Value} {good : α → Prop} {l : List (α × β)} (h : MapL L b eK eV good l) (hl : Mem.le L L') : MapL L' b eK eV good l :=
  ⟨h.nodup, h.good, let ⟨es, c, q1, q2⟩ := h.at'; ⟨es, c, hl _ _ q1, q2⟩⟩
/-- the map b is a heap's -/
def MapM (g : PH) (b : Nat) (eK : α → Value) (eV : β → Value) (good : α → Prop) (l : List (α × β)) : Prop := MapL (fun b o => g b = some o) b eK eV good l
theorem MapM.l {g : PH} {Γ : Ctx} {b : Nat} {eK : α → Value} {eV : β → Value} {good : α → Prop} {l : List (α × β)} (h : MapM g b eK eV good l) (hg : g ∈ Γ) : MapL (lk Γ) b eK eV good l :=
  MapL.mono h fun _ _ q => ⟨g, hg, q⟩
theorem MapM.mono {g g' : PH} {b : Nat} {eK : α → Value} {eV : β → Value} {good : α → Prop} {l : List (α × β)} (h : MapM g b eK eV good l) (hg : Mem.le (lk [g]) (lk [g'])) : MapM g' b eK eV good l :=
  MapL.mono h fun b o q => by obtain ⟨x, hx, q'⟩ := hg b o ⟨g, by simp, q⟩; simp at hx; subst hx; exact q'
theorem MapM.new (b : Nat) (eK : α → Value) (eV : β → Value) (good : α → Prop) : MapM (one b (.map #[] 0)) b eK eV good ([] : List (α × β)) := ⟨by simp, by simp, #[], 0, one_self _ _, rfl, by simp [Born]⟩

theorem entry_of {es : Array MapEntry} {eK : α → Value} {eV : β → Value} {l : List (α × β)} (h : es.toList.map (fun e => (e.key, e.val)) = l.map (fun p => (eK p.1, eV p.2))) {j : Nat} {e : MapEntry} (hj : es.toList[j]? = some e) : ∃ p, l[j]? = some p ∧ e.key = eK p.1 ∧ e.val = eV p.2 := by
  have h1 := congrArg (·[j]?) h
  simp only [List.getElem?_map, hj, Option.map_some] at h1
  cases hp : l[j]? with
  | none => rw [hp] at h1; simp at h1
  | some p => rw [hp] at h1; simp at h1; exact ⟨p, rfl, h1.1, h1.2⟩
theorem entry_good {L : Mem} {b : Nat} {eK : α → Value} {eV : β → Value} {good : α → Prop} {l : List (α × β)} (hm : MapL L b eK eV good l) {es : Array MapEntry} (h : es.toList.map (fun e => (e.key, e.val)) = l.map (fun p => (eK p.1, eV p.2))) : ∀ e ∈ es.toList, ∃ b, good b ∧ e.key = eK b := by
  intro e he
  obtain ⟨j, hj⟩ := List.getElem?_of_mem he
  obtain ⟨p, hp, hk, _⟩ := entry_of h hj
  exact ⟨p.1, hm.good p (List.mem_of_getElem? hp), hk⟩
theorem entry_none {es : Array MapEntry} {eK : α → Value} {eV : β → Value} {l : List (α × β)} (h : es.toList.map (fun e => (e.key, e.val)) = l.map (fun p => (eK p.1, eV p.2))) {a : α} (hn : ∀ e ∈ es.toList, e.key ≠ eK a) : a ∉ l.map (·.1) := by
  intro ha
  obtain ⟨p, hp, rfl⟩ := List.mem_map.1 ha
  have : (eK p.1, eV p.2) ∈ es.toList.map (fun e => (e.key, e.val)) := by rw [h]; exact List.mem_map.2 ⟨p, hp, rfl⟩
  obtain ⟨e, he, q⟩ := List.mem_map.1 this
  simp at q
  exact hn e he q.1

end
section
variable {α β : Type} [DecidableEq α]
def mget (l : List (α × β)) (a : α) : Option β := (l.find? (fun p => decide (p.1 = a))).map (·.2)
def mput (l : List (α × β)) (a : α) (v : β) : List (α × β) := if a ∈ l.map (·.1) then l.map (fun p => if p.1 = a then (a, v) else p) else l ++ [(a, v)]
theorem mget_none {l : List (α × β)} {a : α} : mget l a = none ↔ a ∉ l.map (·.1) := by
  simp only [mget, Option.map_eq_none_iff, List.find?_eq_none, decide_eq_true_eq, List.mem_map, not_exists, not_and]
theorem mget_at {l : List (α × β)} (hn : (l.map (·.1)).Nodup) {j : Nat} {p : α × β} (h : l[j]? = some p) : mget l p.1 = some p.2 := by
  obtain ⟨hj, rfl⟩ := List.getElem?_eq_some_iff.1 h
  have : l.find? (fun q => decide (q.1 = l[j].1)) = some l[j] := by
    rw [List.find?_eq_some_iff_getElem]
    refine ⟨by simp, j, hj, rfl, fun i hi => ?_⟩
    simp only [Bool.not_eq_eq_eq_not, Bool.not_true, decide_eq_false_iff_not]
    intro e
    have := (List.pairwise_iff_getElem.1 hn) i j (by simp; omega) (by simpa using hj) hi
    simp at this
    exact this e
  rw [mget, this]
  rfl
theorem mput_keys (l : List (α × β)) (a : α) (v : β) : (mput l a v).map (·.1) = if a ∈ l.map (·.1) then l.map (·.1) else l.map (·.1) ++ [a] := by
  unfold mput
  split
  · rw [List.map_map]
    apply List.map_congr_left
    intro p _
    simp only [Function.comp]
    split
    · rename_i h; exact h.symm
    · rfl
  · simp
theorem mput_nodup {l : List (α × β)} (hn : (l.map (·.1)).Nodup) (a : α) (v : β) : ((mput l a v).map (·.1)).Nodup := by
  rw [mput_keys]
  split
  · exact hn
  · rw [List.nodup_append]
    refine ⟨hn, by simp, ?_⟩
    rintro x hx y hy rfl
    simp at hy
    subst hy
    contradiction
/-- a set -/
def mset {γ : Type} (f : γ → α) (l : List γ) : List (α × Bool) := l.map fun x => (f x, true)
theorem mset_keys {γ : Type} (f : γ → α) (l : List γ) : (mset f l).map (·.1) = l.map f := by simp [mset]
theorem mget_set {γ : Type} (f : γ → α) (l : List γ) (a : α) : mget (mset f l) a = if a ∈ l.map f then some true else none := by
  split
  · rename_i h
    have hne : mget (mset f l) a ≠ none := by rw [Ne, mget_none, mset_keys]; simpa using h
    cases hg : mget (mset f l) a with
    | none => exact absurd hg hne
    | some v =>
      simp only [mget, Option.map_eq_some_iff] at hg
      obtain ⟨p, hp, rfl⟩ := hg
      have := List.mem_of_find?_eq_some hp
      simp only [mset, List.mem_map] at this
      obtain ⟨x, _, rfl⟩ := this
      rfl
  · rename_i h
    rw [mget_none, mset_keys]
    exact h
theorem mput_set {γ : Type} (f : γ → α) (l : List γ) (x : γ) (h : f x ∉ l.map f) : mput (mset f l) (f x) true = mset f (l ++ [x]) := by
  rw [mput, mset_keys, if_neg h]
  simp [mset]
theorem qr_look {P : Program} {Γ : Ctx} {t kt et : TypeId} {eK : α → Value} {eV : β → Value} {good : α → Prop} {z : Value} (T : KT P kt eK good) (ht : P.underlying t = some (.map kt et)) (hz : ∀ w, (zeroValue et).run P w = .ok z w) (ok : Bool)
    {b : Nat} {l : List (α × β)} (hm : MapL (lk Γ) b eK eV good l) {a : α} (ha : good a) :
    QR P (.look t ok) [.map (some b), eK a] Γ (if ok then .tuple #[(mget l a).elim z eV, .bool (mget l a).isSome] else (mget l a).elim z eV) := by
  intro w hw
  obtain ⟨es, clock, hb, he, _⟩ := hm.at'
  obtain ⟨h, hh, hb⟩ := hb
  have hb := hw h hh b _ hb
  simp only [qsem]
  rcases T.find w a ha es.toList (entry_good hm he) with ⟨h1, h2⟩ | ⟨j, e, h1, h2, h3⟩
  · have hg : mget l a = none := mget_none.2 (entry_none he h2)
    cases ok <;> simp [Instr.lookup, run_underlying ht, MapKept.run_getObj_map hb, T.check w _ a ha, h1, hz w, hg, Result.andThen]
  · obtain ⟨p, hp, hk, hv⟩ := entry_of he h2
    have : p.1 = a := T.inj _ _ (by rw [← hk, h3])
    subst this
    have hg := mget_at hm.nodup hp
    cases ok <;> simp [Instr.lookup, run_underlying ht, MapKept.run_getObj_map hb, T.check w _ _ ha, h1, hg, hv, Result.andThen]

section
variable {P : Program} {Γr : Ctx} {d : Option Nat} {r : List SOper} {φ : Fr} {Γ : Ctx} {K : Fr → Ctx → Prop}
theorem s_mkmap {t : TypeId} (hk : ∀ b, vcOps P Γr r (put φ d (.v true (.map (some b)))) (one b (.map #[] 0) :: Γ) K) : nC P Γr d r φ Γ K (.mkmap t) [] := by
  intro w _
  exact ⟨_, _, by simp only [qsem, List.head?_nil]; rfl, hk _⟩
theorem entry_put {es : Array MapEntry} {eK : α → Value} {eV : β → Value} {l : List (α × β)} {i : Nat} {a : α} {v : β} (hn : (l.map (·.1)).Nodup) (h : es.toList.map (fun e => (e.key, e.val)) = l.map (fun p => (eK p.1, eV p.2))) {p : α × β} (hp : l[i]? = some p) (ha : p.1 = a) :
    (es.modify i fun e => { e with key := eK a, val := eV v }).toList.map (fun e => (e.key, e.val)) = (mput l a v).map (fun p => (eK p.1, eV p.2)) := by
  have hin : a ∈ l.map (·.1) := List.mem_map.2 ⟨p, List.mem_of_getElem? hp, ha⟩
  rw [mput, if_pos hin]
  apply List.ext_getElem?
  intro j
  have hj := congrArg (·[j]?) h
  simp only [List.getElem?_map, Array.getElem?_toList] at hj ⊢
  rw [Array.getElem?_modify]
  obtain ⟨hi, rfl⟩ := List.getElem?_eq_some_iff.1 hp
  by_cases e : i = j
  · subst e
    rw [hp] at hj ⊢
    simp only [if_true, Option.map_some, ha] at hj ⊢
    cases hq : es[i]? with
    | none => rw [hq] at hj; simp at hj
    | some q => simp
  · rw [if_neg e, hj]
    cases hq : l[j]? with
    | none => rfl
    | some q =>
      obtain ⟨hj', rfl⟩ := List.getElem?_eq_some_iff.1 hq
      have : ¬ l[j].1 = a := fun q => by
        rw [← q] at ha
        have hpw := List.pairwise_iff_getElem.1 hn
        rcases Nat.lt_or_ge i j with q1 | q1
        · have := hpw i j (by simpa using hi) (by simpa using hj') q1
          simp at this
          exact this ha
        · have := hpw j i (by simpa using hj') (by simpa using hi) (by omega)
          simp at this
          exact this ha.symm
      simp [this]
theorem born_put {es : Array MapEntry} {c : Nat} (h : Born es.toList c) {j : Nat} {x y : Value} : Born (es.modify j fun e => { e with key := x, val := y }).toList c := by
  have hm : (es.modify j fun e => { e with key := x, val := y }).toList.map (·.born) = es.toList.map (·.born) := by
    apply List.ext_getElem?
    intro i
    simp only [List.getElem?_map, Array.getElem?_toList, Array.getElem?_modify]
    split
    · cases es[i]? <;> rfl
    · rfl
  refine ⟨fun e he => ?_, by rw [hm]; exact h.2⟩
  have : e.born ∈ es.toList.map (·.born) := by rw [← hm]; exact List.mem_map.2 ⟨e, he, rfl⟩
  obtain ⟨e', h1, h2⟩ := List.mem_map.1 this
  rw [← h2]
  exact h.1 e' h1
theorem s_upd {t kt et : TypeId} {eK : α → Value} {eV : β → Value} {good : α → Prop} (T : KT P kt eK good) (ht : P.underlying t = some (.map kt et)) {g : PH} {ix b : Nat} {l : List (α × β)} (hg : Γ[ix]? = some g) (hm : MapM g b eK eV good l) {a : α} (v : β) (ha : good a)
    (hk : ∀ g', MapM g' b eK eV good (mput l a v) → (∀ k, k ≠ b → g' k = g k) → vcOps P Γr r (put φ d (.v true undef)) (Γ.set ix g') K) : aC P Γr d r φ Γ K (.upd t) [.map (some b), eK a, eV v] := by
  intro w hw
  obtain ⟨es, clock, hb0, he, hbo⟩ := hm.at'
  have hgΓ : g ∈ Γ := List.mem_of_getElem? hg
  have hb := hw g (by simp [hgΓ]) b _ hb0
  have hgood : ∀ p ∈ mput l a v, good p.1 := fun p hp => by
    have : p.1 ∈ (mput l a v).map (·.1) := List.mem_map.2 ⟨p, hp, rfl⟩
    rw [mput_keys] at this
    split at this
    · obtain ⟨q, hq, e⟩ := List.mem_map.1 this
      rw [← e]; exact hm.good q hq
    · simp only [List.mem_append, List.mem_singleton] at this
      rcases this with q | q
      · obtain ⟨q, hq, e⟩ := List.mem_map.1 q
        rw [← e]; exact hm.good q hq
      · rw [q]; exact ha
  have hc := T.check w false a ha
  rcases T.find w a ha es.toList (entry_good hm he) with ⟨h1, h2⟩ | ⟨j, e, h1, h2, h3⟩
  · have hno := entry_none he h2
    refine ⟨undef, setBlk w b (.map (es.push { key := eK a, val := eV v, born := clock }) (clock + 1)), 0, ?_, .inr ⟨ix, g, b, _, _, hg, hb0, rfl, hk _ ⟨mput_nodup hm.nodup a v, hgood, _, _, upd_self _ _ _, ?_, ?_⟩ fun k hne => upd_other hne⟩⟩
    · simp [qsem, Instr.mapUpdate, run_underlying ht, MapKept.run_getObj_map hb, hc, h1, MapKept.run_setObj_map _ hb, Result.andThen, setBlk]
    · rw [mput, if_neg hno, Array.toList_push, List.map_append, he, List.map_append]
      rfl
    · rw [Array.toList_push]
      refine ⟨fun e he => ?_, ?_⟩
      · rcases List.mem_append.1 he with he | he
        · have := hbo.1 e he; omega
        · simp at he; subst he; simp
      · rw [List.map_append, List.nodup_append]
        refine ⟨hbo.2, by simp, ?_⟩
        rintro x hx y hy rfl
        simp at hy
        obtain ⟨e, he, rfl⟩ := List.mem_map.1 hx
        have := hbo.1 e he
        omega
  · obtain ⟨p, hp, hk', hv⟩ := entry_of he h2
    have hpa : p.1 = a := T.inj _ _ (by rw [← hk', h3])
    have hj : es[j]? = some e := by simpa using h2
    refine ⟨undef, setBlk w b (.map (es.modify j fun e => { e with key := eK a, val := eV v }) clock), 0, ?_, .inr ⟨ix, g, b, _, _, hg, hb0, rfl, hk _ ⟨mput_nodup hm.nodup a v, hgood, _, _, upd_self _ _ _, entry_put hm.nodup he hp hpa, born_put hbo⟩ fun k hne => upd_other hne⟩⟩
    simp [qsem, Instr.mapUpdate, run_underlying ht, MapKept.run_getObj_map hb, hc, h1, hj, h3, T.stays w a ha, MapKept.run_setObj_map _ hb, Result.andThen, setBlk]
end
end
end Go.Proofs.Ytniobbepliknmaa.V
/- Grids: rows of rows that are made and changed; no condition. -/
namespace Go.Proofs.Ytniobbepliknmaa.V
open Go
set_option linter.unusedVariables false
set_option linter.unusedSimpArgs false
set_option linter.unusedSectionVars false
attribute [local go_sem] e_seq e_region e_quiet e_join e_loop e_cond e_block e_exit e_ret e_skip e_fin e_kseq e_snrm e_sret e_sex e_bnrm e_bret e_bex e_rnrm e_rret e_res e_condC e_nil e_g e_mv g_mv e_pick g_pick pickC_eq e_ibin g_ibin ibinC_eq e_sbin g_sbin e_beq g_beq beqC_eq e_nilq g_nilq nilqC_sl nilqC_pt nilqC_mp e_un g_un unC_not unC_neg e_conv g_conv convC_eq e_fld g_fld fldC_ref fldC_ptr e_nilCheck g_nilCheck nilCheckC_ref nilCheckC_ptr nilCheckC_fun e_field g_field fieldC_eq e_len g_len lenC_sl lenC_str e_extract g_extract extractC_eq e_mkFunc e_build g_build e_idiv g_idiv idivC_eq e_ishift g_ishift ishiftC_eq e_idx g_idx e_idxA g_idxA e_load g_load e_loadB g_loadB atB_ref atB_v g_mkFunc loadC_ref loadC_ptr loadB_eq e_slc g_slc e_box boxC_loc boxC_esc e_alloc allocC_loc allocC_esc e_buildS e_store storeC_ref storeC_ptr storeB_eq e_append e_appz e_mk mkC_eq e_call callC_eq e_fn g_fn fnC_eq fnV_min' fnV_max' fnV_rune' e_q g_q e_a e_n g_call g_box g_alloc g_buildS g_store g_append g_mk g_a g_n g_dead e_dead e_callK e_drawn e_tree e_finJ e_tk e_tfin e_tno e_nbt_q e_nbt_qn e_nbt_a e_nbt_an e_nbt_fin e_drawnB e_bxb_nil e_bxb e_stB_none e_stB_some boxSt_store bs_mv bs_pick bs_ibin bs_idiv bs_ishift bs_sbin bs_beq bs_nilq bs_un bs_conv bs_box bs_alloc bs_build bs_buildS bs_load bs_fld bs_nilCheck bs_idx bs_idxA bs_field bs_slc bs_len bs_append bs_appz bs_mk bs_call bs_extract bs_mkFunc bs_fn bs_q bs_a bs_n bs_loadB bs_dead isBox_box e_early_nil e_early_t e_early_f e_nob_nil e_nob_none e_nob_some isBox_dead isBox_v isBox_ref e_dnil e_dk e_ek e_finB vcOps_vc1 e_dcons e_tq e_ekt e_tearly e_talt e_dearly look_nil look_c proj_nil proj_c looks_nil looks_c zip_nil zip_c val_tmp val_const val_func slv_v slv_box slv_ref slot_tmp slot_const slot_func slotL_v slotL_box slotL_ref put_some put_none updBox_c boxSet_box gd_eq slotVals_nil slotVals_c slotVals_b boxV_box boxOn_box slotsOn_nil slotsOn_c slotsOn_b resV_one resV_two vals_nil vals_c allOn_nil allOn_c partOn_nil partOn_c partVals_nil partVals_c fits_nil fits_c fillL_nil fillL_c mkv_one mkv_agg cellsV_agg cellsV_int cellsV_bool cellsV_slice cellsV_string cellsV_pointer cellsV_func cellsV_nilf cellsV_map one'_nil one'_c oc_int oc_bool oc_slice oc_string oc_pointer oc_func oc_nilf oc_map setC_eq iv_add iv_sub iv_mul iv_eql iv_neq iv_lss iv_leq iv_gtr iv_geq iok_add iok_sub iok_mul iok_eql iok_neq iok_lss iok_leq iok_gtr iok_geq pickV_bool args0_nil args0_c bnd_none bnd_some imp_bt imp_bf imp_ebt imp_ebf imp_eb1 imp_np imp_pp beq_tt beq_tf beq_ft beq_ff cond_or cond_and e_round e_meet Int.le_refl Int.toNat_zero decide_true decide_false Bool.or_false Bool.false_or Bool.true_or Bool.or_true Bool.and_false Bool.false_and Bool.bne_false Bool.bne_true beq_iff_eq Int.cast_ofNat_Int not_false_eq_true not_true_eq_false false_and and_false false_implies true_implies true_and and_true Bool.true_and Bool.and_true Bool.not_true Bool.not_false forall_const implies_true List.take_zero List.drop_zero List.take_succ_cons List.drop_succ_cons List.take_nil List.drop_nil List.length_cons List.length_nil List.nil_append List.append_nil List.cons_append Int.toNat_natCast decide_eq_true_eq decide_eq_false_iff_not cond_true cond_false and_self List.getElem?_cons_zero List.getElem?_cons_succ List.set_cons_zero List.set_cons_succ Option.some.injEq exists_eq_left' Nat.zero_add Nat.add_zero Nat.mul_one imp_self true_or or_true or_false false_or Bool.or_eq_true Bool.or_eq_false_iff Bool.and_eq_true Bool.and_eq_false_iff Bool.not_eq_true' Bool.not_eq_false'

section
variable {α : Type} [Sc α]
def gcell (p : Option Nat × List α) : Value := match p.1 with
  | none => .slice none 0 0
  | some k => .slice (some ⟨k, 0, none⟩) p.2.length p.2.length
structure GridB (g : PH) (b : Nat) (T e : TypeId) (ps : List (Option Nat × List α)) : Prop where
  out : g b = some (.cells (ps.map gcell).toArray T (0, 0))
  row : ∀ (i k : Nat) xs, ps[i]? = some (some k, xs) → k ≠ b ∧ g k = some (.cells (xs.map Sc.enc).toArray e (0, 0)) ∧ xs.length ≤ 1000000
  nil : ∀ (i : Nat) xs, ps[i]? = some (none, xs) → xs = []
  apart : ∀ (i j k : Nat) xs ys, ps[i]? = some (some k, xs) → ps[j]? = some (some k, ys) → i = j
  short : ps.length ≤ 1000000
/-- the rows of a grid whose outer array is b -/
def Grid (g : PH) (b : Nat) (T e : TypeId) (rows : List (List α)) : Prop := ∃ ps, GridB g b T e ps ∧ rows = ps.map (·.2)

theorem Grid.made (b : Nat) (T e : TypeId) {m : Nat} (hm : m ≤ 1000000) : Grid (one b (.cells (zerosL [Value.slice none 0 0] m).toArray T)) b T e (List.replicate m ([] : List α)) := by
  refine ⟨List.replicate m (none, []), ⟨?_, ?_, ?_, ?_, by simpa using hm⟩, by simp⟩
  · rw [one_self]
    congr 3
    induction m with
    | zero => rfl
    | succ m ih => simp [zerosL, List.replicate_succ, gcell, ih (by omega)]
  · intro i k xs h
    rw [List.getElem?_replicate] at h
    split at h <;> simp at h
  · intro i xs h
    rw [List.getElem?_replicate] at h
    split at h <;> simp at h
    exact h
  · intro i j k xs ys h
    rw [List.getElem?_replicate] at h
    split at h <;> simp at h
theorem Grid.mono {g g' : PH} {b : Nat} {T e : TypeId} {rows : List (List α)} (h : Grid g b T e rows) (hl : Mem.le (lk [g]) (lk [g'])) : Grid g' b T e rows := by
  obtain ⟨ps, h, rfl⟩ := h
  have up : ∀ k o, g k = some o → g' k = some o := fun k o q => lk_one.1 (hl _ _ (lk_one.2 q))
  exact ⟨ps, ⟨up _ _ h.out, fun i k xs q => let ⟨a, b, c⟩ := h.row i k xs q; ⟨a, up _ _ b, c⟩, h.nil, h.apart, h.short⟩, rfl⟩
theorem Grid.short {g : PH} {b : Nat} {T e : TypeId} {rows : List (List α)} (h : Grid g b T e rows) : rows.length ≤ 1000000 := by
  obtain ⟨ps, h, rfl⟩ := h
  simpa using h.short
theorem Grid.slok {g : PH} {b : Nat} {T e : TypeId} {rows : List (List α)} {L : Mem} (h : Grid g b T e rows) (hL : Mem.le (lk [g]) L) : SlOk L (some ⟨b, 0, none⟩) rows.length rows := by
  have hs := h.short
  obtain ⟨ps, h, rfl⟩ := h
  refine ⟨Nat.le_refl _, by unfold maxLen; omega, by omega, .inr ⟨b, 0, _, T, _, rfl, hL _ _ (lk_one.2 h.out), fun i x hi => ?_⟩⟩
  rw [List.getElem?_map] at hi
  cases hp : ps[i]? with
  | none => rw [hp] at hi; simp at hi
  | some p =>
    obtain ⟨o, xs⟩ := p
    rw [hp] at hi
    simp only [Option.map_some, Option.some.injEq] at hi
    subst hi
    refine ⟨[gcell (o, xs)], ?_, fun j hj => ?_⟩
    · cases o with
      | none =>
        have := h.nil i xs hp
        subst this
        exact ⟨none, 0, rfl, SlOk.nil⟩
      | some k =>
        obtain ⟨h1, h2, h3⟩ := h.row i k xs hp
        exact ⟨_, _, rfl, Arr.slok (g := g) (b := k) (T := e) h2 hL (Nat.le_refl _) (by unfold maxLen; show xs.length ≤ _; omega) (by omega)⟩
    · have : j = 0 := by simp [Rep.sz] at hj; exact hj
      subst this
      simp [Rep.sz, hp]
/-- rows[i] is to be changed -/
theorem Grid.at' {g : PH} {b : Nat} {T e : TypeId} {rows : List (List α)} (h : Grid g b T e rows) {i : Nat} (hi : i < rows.length) (hpos : 0 < rows[i].length) :
    ∃ k, (∀ Γ : Ctx, g ∈ Γ → Cells Γ b i [.slice (some ⟨k, 0, none⟩) rows[i].length rows[i].length]) ∧ Arr g k e rows[i] ∧
      ∀ g' (xs : List α), Arr g' k e xs → xs.length = rows[i].length → (∀ x, x ≠ k → g' x = g x) → Grid g' b T e (rows.set i xs) := by
  obtain ⟨ps, h, rfl⟩ := h
  have hi' : i < ps.length := by simpa using hi
  obtain ⟨o, xs, hp⟩ : ∃ o xs, ps[i]? = some (o, xs) := ⟨_, _, List.getElem?_eq_getElem hi'⟩
  have hx : (ps.map (·.2))[i] = xs := by
    have := (List.getElem?_eq_some_iff.1 hp).2
    simp [this]
  simp only [hx] at hpos ⊢
  cases o with
  | none => have := h.nil i xs hp; subst this; simp at hpos
  | some k =>
    obtain ⟨h1, h2, h3⟩ := h.row i k xs hp
    refine ⟨k, fun Γ hg => ⟨g, hg, _, T, _, h.out, fun j hj => ?_⟩, h2, fun g' ys hA hl ho => ?_⟩
    · have : j = 0 := by simp at hj; exact hj
      subst this
      simp [hp, gcell]
    · have hset : ∀ j, (ps.set i (some k, ys))[j]? = if i = j then some (some k, ys) else ps[j]? := fun j => by
        rw [List.getElem?_set]
        by_cases e : i = j
        · subst e; simp [hi']
        · simp [e]
      refine ⟨ps.set i (some k, ys), ⟨?_, ?_, ?_, ?_, by simpa using h.short⟩, by simp [List.map_set]⟩
      · rw [ho b (fun q => h1 q.symm), h.out]
        congr 3
        apply List.ext_getElem?
        intro j
        rw [List.getElem?_map, List.getElem?_map, hset]
        by_cases e : i = j
        · subst e
          simp [hp, gcell, hl]
        · simp [e]
      · intro j m zs hj
        rw [hset] at hj
        by_cases e : i = j
        · subst e
          simp only [if_true, Option.some.injEq, Prod.mk.injEq] at hj
          obtain ⟨rfl, rfl⟩ := hj
          exact ⟨h1, hA, by omega⟩
        · rw [if_neg e] at hj
          obtain ⟨q1, q2, q3⟩ := h.row j m zs hj
          have hm : m ≠ k := fun q => by subst q; exact e (h.apart i j m xs zs hp hj)
          exact ⟨q1, by rw [ho m hm]; exact q2, q3⟩
      · intro j zs hj
        rw [hset] at hj
        by_cases e : i = j
        · subst e; simp at hj
        · rw [if_neg e] at hj; exact h.nil j zs hj
      · intro j j' m zs zs' hj hj'
        rw [hset] at hj hj'
        by_cases e : i = j
        · subst e
          simp only [if_true, Option.some.injEq, Prod.mk.injEq] at hj
          obtain ⟨rfl, rfl⟩ := hj
          by_cases e' : i = j'
          · exact e'
          · rw [if_neg e'] at hj'
            exact h.apart i j' k xs zs' hp hj'
        · rw [if_neg e] at hj
          by_cases e' : i = j'
          · subst e'
            simp only [if_true, Option.some.injEq, Prod.mk.injEq] at hj'
            obtain ⟨rfl, rfl⟩ := hj'
            exact h.apart j i k zs xs hj hp
          · rw [if_neg e'] at hj'
            exact h.apart j j' m zs zs' hj hj'
/-- a new row, whose array lies elsewhere, is put in -/
theorem Grid.put {g : PH} {b : Nat} {T e : TypeId} {rows : List (List α)} (h : Grid g b T e rows) {i : Nat} (hi : i < rows.length) (k : Nat) (xs : List α) (hl : xs.length ≤ 1000000) {cs : List Value} (hc : g b = some (.cells cs.toArray T (0, 0)))
    {x2 G : PH} (hA : Arr x2 k e xs) (hd : Disj x2 (upd g b (.cells (setC cs i 1 (.slice (some ⟨k, 0, none⟩) xs.length xs.length)).toArray T))) (hG : Mem.le (lk [x2, upd g b (.cells (setC cs i 1 (.slice (some ⟨k, 0, none⟩) xs.length xs.length)).toArray T)]) (lk [G])) :
    Grid G b T e (rows.set i xs) := by
  obtain ⟨ps, h, rfl⟩ := h
  have hi' : i < ps.length := by simpa using hi
  have hcs : cs = ps.map gcell := by
    have := h.out
    rw [hc] at this
    simpa using this
  subst hcs
  have up1 : ∀ j o, x2 j = some o → G j = some o := fun j o q => lk_one.1 (hG _ _ ⟨x2, by simp, q⟩)
  have up2 : ∀ j o, upd g b (.cells (setC (ps.map gcell) i 1 (.slice (some ⟨k, 0, none⟩) xs.length xs.length)).toArray T) j = some o → G j = some o := fun j o q => lk_one.1 (hG _ _ ⟨_, by simp, q⟩)
  have hkg : ∀ j, j = b ∨ g j ≠ none → j ≠ k := fun j hj q => by
    subst q
    rcases hd j with q | q
    · rw [Arr] at hA; rw [hA] at q; cases q
    · rcases hj with rfl | hj
      · rw [upd_self] at q; cases q
      · by_cases e : j = b
        · subst e; rw [upd_self] at q; cases q
        · rw [upd_other e] at q; exact hj q
  have hset : ∀ j, (ps.set i (some k, xs))[j]? = if i = j then some (some k, xs) else ps[j]? := fun j => by
    rw [List.getElem?_set]
    by_cases e : i = j
    · subst e; simp [hi']
    · simp [e]
  refine ⟨ps.set i (some k, xs), ⟨?_, ?_, ?_, ?_, by simpa using h.short⟩, by simp [List.map_set]⟩
  · rw [up2 b _ (upd_self _ _ _)]
    congr 3
    rw [List.map_set, List.set_eq_take_append_cons_drop, if_pos (by simpa using hi')]
    simp [setC, cellsV, gcell, Value.cells]
  · intro j m zs hj
    rw [hset] at hj
    by_cases e : i = j
    · subst e
      simp only [if_true, Option.some.injEq, Prod.mk.injEq] at hj
      obtain ⟨rfl, rfl⟩ := hj
      exact ⟨fun q => hkg b (.inl rfl) q.symm, up1 _ _ hA, hl⟩
    · rw [if_neg e] at hj
      obtain ⟨q1, q2, q3⟩ := h.row j m zs hj
      exact ⟨q1, up2 _ _ (by rw [upd_other q1]; exact q2), q3⟩
  · intro j zs hj
    rw [hset] at hj
    by_cases e : i = j
    · subst e; simp at hj
    · rw [if_neg e] at hj; exact h.nil j zs hj
  · intro j j' m zs zs' hj hj'
    rw [hset] at hj hj'
    by_cases e : i = j
    · subst e
      simp only [if_true, Option.some.injEq, Prod.mk.injEq] at hj
      obtain ⟨rfl, rfl⟩ := hj
      by_cases e' : i = j'
      · exact e'
      · rw [if_neg e'] at hj'
        have := (h.row j' k zs' hj').2.1
        exact absurd rfl (hkg k (.inr (by rw [this]; simp)))
    · rw [if_neg e] at hj
      by_cases e' : i = j'
      · subst e'
        simp only [if_true, Option.some.injEq, Prod.mk.injEq] at hj'
        obtain ⟨rfl, rfl⟩ := hj'
        have := (h.row j k zs hj).2.1
        exact absurd rfl (hkg k (.inr (by rw [this]; simp)))
      · rw [if_neg e'] at hj'
        exact h.apart j j' m zs zs' hj hj'
end
section
variable {P : Program} {Γr : Ctx} {d : Option Nat} {r : List SOper} {φ : Fr} {Γ : Ctx} {K : Fr → Ctx → Prop}
/-- rows[i] = make(..) -/
theorem s_storeG {α : Type} [Sc α] {g : PH} {b i ix k n : Nat} {T e : TypeId} {rows : List (List α)} (xs : List α) (hn : n = xs.length) (hg : Γ[ix]? = some g) (h : Grid g b T e rows) (hi : i < rows.length) (hl : xs.length ≤ 1000000)
    (hk : ∀ g', (∀ x2 G, Arr x2 k e xs → Disj x2 g' → Mem.le (lk [x2, g']) (lk [G]) → Grid G b T e (rows.set i xs)) → vcOps P Γr r φ (Γ.set ix g') K) : storeP P Γr r φ Γ K 1 b i (.slice (some ⟨k, 0, none⟩) n n) := by
  subst hn
  obtain ⟨ps, hB, hr⟩ := id h
  refine ⟨ix, g, _, T, hg, hB.out, by subst hr; simp at hi ⊢; omega, ?_⟩
  exact hk _ fun x2 G hA hd hG => h.put hi k xs hl hB.out hA hd hG
end
end Go.Proofs.Ytniobbepliknmaa.V
/- The text of parlance/parlref5.grid[bool] as a statement (slots: 0 a, 1 b, 2 a, 3 b, 5 out, 6 i); no condition. -/
namespace Go.Proofs.Ytniobbepliknmaa.V
open Go
def S151_1 : Stmt :=
 .seq
 (.region [.mk (some 12) none (.ibin .lss (.tmp 11) (.tmp 10))] [1,5,10,11,12])
 (.seq (.cond (.tmp 12) .skip (.exit 0))
 (.seq
 (.block 1
 (.seq
 (.region
 [.mk (some 13) none (.mv (.tmp 11)),.mk (some 6) none (.mv (.tmp 13))]
 [1,5,6,10,11])
 (.region
 [.mk (some 14) none (.mv (.tmp 5)),.mk (some 15) none (.mv (.tmp 6)),
 .mk (some 16) none (.mv (.tmp 1)),
 .mk (some 17) none (.mk 4 1 1 (.bool false) (.tmp 16) (.tmp 16)),
 .mk (some 18) none (.idx 1 (.tmp 14) (.tmp 15)),
 .mk none none (.store 1 (.tmp 18) (.tmp 17))]
 [1,5,10,11])))
 (.region
 [.mk (some 19) none (.ibin .add (.tmp 11) (.const (.int .i64 1))),
 .mk (some 11) none (.mv (.tmp 19))]
 [1,5,10,11])))
def S151_0 : Stmt :=
 .seq (.region [.mk (some 4) none (.mv (.const (.slice none 0 0)))] [0,1])
 (.seq
 (.region
 [.mk (some 7) none (.mv (.tmp 0)),
 .mk (some 8) none (.mk 22 1 24 (.slice none 0 0) (.tmp 7) (.tmp 7)),
 .mk (some 5) none (.mv (.tmp 8))]
 [1,5])
 (.seq
 (.seq
 (.region
 [.mk (some 9) none (.mv (.tmp 5)),.mk (some 10) none (.len false (.tmp 9)),
 .mk (some 11) none (.mv (.const (.int .i64 0)))]
 [1,5,10,11])
 (.block 0 (.loop S151_1 [11] [1,5,10])))
 (.seq
 (.region
 [.mk (some 20) none (.mv (.tmp 5)),.mk (some 4) none (.mv (.tmp 20))] [4])
 .ret)))
def S151 : FnS := ⟨21,[(4,none)],S151_0⟩
theorem tr151 : trFn Try.prog 151 [] [[0,1],[1,5],[1,5,10,11],[11],[1,5,10],[1,5,10,11,12],[1,5,6,10,11],[1,5,10,11],[1,5,10,11],[4]] = some S151 := by kernel_rfl
end Go.Proofs.Ytniobbepliknmaa.V
/- Grids that are made: parlref5.grid walked; no condition. -/
namespace Go.Proofs.Ytniobbepliknmaa.V
open Go
set_option linter.unusedVariables false
set_option linter.unusedSimpArgs false
attribute [local go_sem] e_seq e_region e_quiet e_join e_loop e_cond e_block e_exit e_ret e_skip e_fin e_kseq e_snrm e_sret e_sex e_bnrm e_bret e_bex e_rnrm e_rret e_res e_condC e_nil e_g e_mv g_mv e_pick g_pick pickC_eq e_ibin g_ibin ibinC_eq e_sbin g_sbin e_beq g_beq beqC_eq e_nilq g_nilq nilqC_sl nilqC_pt nilqC_mp e_un g_un unC_not unC_neg e_conv g_conv convC_eq e_fld g_fld fldC_ref fldC_ptr e_nilCheck g_nilCheck nilCheckC_ref nilCheckC_ptr nilCheckC_fun e_field g_field fieldC_eq e_len g_len lenC_sl lenC_str e_extract g_extract extractC_eq e_mkFunc e_build g_build e_idiv g_idiv idivC_eq e_ishift g_ishift ishiftC_eq e_idx g_idx e_idxA g_idxA e_load g_load e_loadB g_loadB atB_ref atB_v g_mkFunc loadC_ref loadC_ptr loadB_eq e_slc g_slc e_box boxC_loc boxC_esc e_alloc allocC_loc allocC_esc e_buildS e_store storeC_ref storeC_ptr storeB_eq e_append e_appz e_mk mkC_eq e_call callC_eq e_fn g_fn fnC_eq fnV_min' fnV_max' fnV_rune' e_q g_q e_a e_n g_call g_box g_alloc g_buildS g_store g_append g_mk g_a g_n g_dead e_dead e_callK e_drawn e_tree e_finJ e_tk e_tfin e_tno e_nbt_q e_nbt_qn e_nbt_a e_nbt_an e_nbt_fin e_drawnB e_bxb_nil e_bxb e_stB_none e_stB_some boxSt_store bs_mv bs_pick bs_ibin bs_idiv bs_ishift bs_sbin bs_beq bs_nilq bs_un bs_conv bs_box bs_alloc bs_build bs_buildS bs_load bs_fld bs_nilCheck bs_idx bs_idxA bs_field bs_slc bs_len bs_append bs_appz bs_mk bs_call bs_extract bs_mkFunc bs_fn bs_q bs_a bs_n bs_loadB bs_dead isBox_box e_early_nil e_early_t e_early_f e_nob_nil e_nob_none e_nob_some isBox_dead isBox_v isBox_ref e_dnil e_dk e_ek e_finB vcOps_vc1 e_dcons e_tq e_ekt e_tearly e_talt e_dearly look_nil look_c proj_nil proj_c looks_nil looks_c zip_nil zip_c val_tmp val_const val_func slv_v slv_box slv_ref slot_tmp slot_const slot_func slotL_v slotL_box slotL_ref put_some put_none updBox_c boxSet_box gd_eq slotVals_nil slotVals_c slotVals_b boxV_box boxOn_box slotsOn_nil slotsOn_c slotsOn_b resV_one resV_two vals_nil vals_c allOn_nil allOn_c partOn_nil partOn_c partVals_nil partVals_c fits_nil fits_c fillL_nil fillL_c mkv_one mkv_agg cellsV_agg cellsV_int cellsV_bool cellsV_slice cellsV_string cellsV_pointer cellsV_func cellsV_nilf cellsV_map one'_nil one'_c oc_int oc_bool oc_slice oc_string oc_pointer oc_func oc_nilf oc_map setC_eq iv_add iv_sub iv_mul iv_eql iv_neq iv_lss iv_leq iv_gtr iv_geq iok_add iok_sub iok_mul iok_eql iok_neq iok_lss iok_leq iok_gtr iok_geq pickV_bool args0_nil args0_c bnd_none bnd_some imp_bt imp_bf imp_ebt imp_ebf imp_eb1 imp_np imp_pp beq_tt beq_tf beq_ft beq_ff cond_or cond_and e_round e_meet Int.le_refl Int.toNat_zero decide_true decide_false Bool.or_false Bool.false_or Bool.true_or Bool.or_true Bool.and_false Bool.false_and Bool.bne_false Bool.bne_true beq_iff_eq Int.cast_ofNat_Int not_false_eq_true not_true_eq_false false_and and_false false_implies true_implies true_and and_true Bool.true_and Bool.and_true Bool.not_true Bool.not_false forall_const implies_true List.take_zero List.drop_zero List.take_succ_cons List.drop_succ_cons List.take_nil List.drop_nil List.length_cons List.length_nil List.nil_append List.append_nil List.cons_append Int.toNat_natCast decide_eq_true_eq decide_eq_false_iff_not cond_true cond_false and_self List.getElem?_cons_zero List.getElem?_cons_succ List.set_cons_zero List.set_cons_succ Option.some.injEq exists_eq_left' Nat.zero_add Nat.add_zero Nat.mul_one imp_self true_or or_true or_false false_or Bool.or_eq_true Bool.or_eq_false_iff Bool.and_eq_true Bool.and_eq_false_iff Bool.not_eq_true' Bool.not_eq_false'

/-- m rows of n noughts, of which k are made -/
def part {α : Type} (z : α) (m n k : Nat) : List (List α) := List.replicate k (List.replicate n z) ++ List.replicate (m - k) []
theorem part_len {α : Type} (z : α) {m n k : Nat} (h : k ≤ m) : (part z m n k).length = m := by simp [part]; omega
theorem part_set {α : Type} (z : α) {m n k : Nat} (h : k < m) : (part z m n k).set k (List.replicate n z) = part z m n (k + 1) := by
  unfold part
  obtain ⟨d, hd⟩ : ∃ d, m - k = d + 1 := ⟨m - k - 1, by omega⟩
  rw [hd, show m - (k + 1) = d by omega, List.replicate_succ, List.set_append_right _ _ (by simp), List.replicate_succ']
  simp

theorem grid_bool {Γr : Ctx} (a n : Nat) (ha : a ≤ 1000) (hn : n ≤ 100000) :
    Ret Try.prog 151 [.int .i64 a, .int .i64 n] Γr [] (fun v Γ => ∃ g b, Γ = [g] ∧ v = .slice (some ⟨b, 0, none⟩) a a ∧ Grid g b 22 4 (List.replicate a (List.replicate n false))) := by
  generalize hR : (fun (v : Value) (Γ : Ctx) => ∃ g b, _) = R
  refine ret_of_vc tr151 (Nat.le_of_ble_eq_true rfl) ?_
  simp -implicitDefEqProofs only [S151, S151_0, go_sem, Nat.reduceBEq, Nat.reduceAdd, Nat.reduceSub, Nat.reduceMul, Nat.reduceLeDiff, reduceCtorEq, ↓reduceIte, Int.reduceLT, Int.reduceLE, Int.reduceEq, Int.reduceNe]
  refine ⟨by omega, by omega, fun b => ?_⟩
  refine s_loop (fun f vs Γ => ∃ g, Γ = [g] ∧ ∃ k : Nat, vs = [.v true (.int .i64 k)] ∧ k + f = a ∧ Grid g b 22 4 (part false a n k)) a
    (Up.here ⟨_, rfl, 0, rfl, by omega, by have := Grid.made (α := Bool) b 22 4 (m := a) (by omega); simpa [part] using this⟩) ?_
  rintro f vs Γ ⟨g, rfl, k, rfl, hkf, hG⟩
  simp -implicitDefEqProofs only [S151_1, go_sem, Nat.reduceBEq, Nat.reduceAdd, Nat.reduceSub, Nat.reduceMul, Nat.reduceLeDiff, reduceCtorEq, ↓reduceIte, Int.reduceLT, Int.reduceLE, Int.reduceEq, Int.reduceNe]
  refine ⟨fun hlt => ?_, fun hge => ?_⟩
  · have hk : k < a := by omega
    refine ⟨by omega, by omega, fun b2 => ?_⟩
    refine s_idx rfl (by omega) (by omega) ?_
    simp -implicitDefEqProofs only [go_sem, Nat.reduceBEq, Nat.reduceAdd, Nat.reduceSub, Nat.reduceMul, Nat.reduceLeDiff, reduceCtorEq, ↓reduceIte, Int.reduceLT, Int.reduceLE, Int.reduceEq, Int.reduceNe]
    refine s_storeG (ix := 1) (k := b2) (List.replicate n false) (by simp) rfl hG (by rw [part_len _ (by omega)]; omega) (by simp; omega) ?_
    intro g' hput
    simp -implicitDefEqProofs only [go_sem, Nat.reduceBEq, Nat.reduceAdd, Nat.reduceSub, Nat.reduceMul, Nat.reduceLeDiff, reduceCtorEq, ↓reduceIte, Int.reduceLT, Int.reduceLE, Int.reduceEq, Int.reduceNe]
    simp (disch := omega) only [wrap_id]
    refine ⟨f - 1, by omega, Up.apart fun hd => Up.one fun G hG' => ⟨_, rfl, k + 1, rfl, by omega, ?_⟩⟩
    rw [← part_set _ hk]
    exact hput _ _ (Arr.made false b2 4 n) ((List.pairwise_cons.1 hd).1 g' (by simp)) hG'
  · have hk : k = a := by omega
    subst hk
    refine Up.here ?_
    subst hR
    exact ⟨_, b, rfl, rfl, by simpa [part] using hG⟩
end Go.Proofs.Ytniobbepliknmaa.V
/- Keys that are structs or arrays of whole numbers; no condition. -/
namespace Go.Proofs.Ytniobbepliknmaa.V
open Go
set_option linter.unusedVariables false
set_option linter.unusedSimpArgs false

/-- xs[k:] of a row -/
theorem Bld.drop {α : Type} [Rep α] {g : PH} {L : Mem} {e : TypeId} {A : Option Addr} {n c : Nat} {xs : List α} (h : Bld g L e (.slice A n c) xs) {k : Nat} (hk : k ≤ xs.length) :
    Bld g L e (.slice (if c = k then A else A.map (·.add (k * Rep.sz α))) (n - k) (c - k)) (xs.drop k) := by
  obtain ⟨cs, ⟨h1, h2⟩, h3⟩ := h
  have hkl : k * Rep.sz α ≤ xs.length * Rep.sz α := Nat.mul_le_mul_right _ hk
  have hl : (xs.drop k).length = xs.length - k := by simp
  have hmul : xs.length * Rep.sz α - k * Rep.sz α = (xs.length - k) * Rep.sz α := (Nat.sub_mul _ _ _).symm
  refine ⟨cs.drop (k * Rep.sz α), ⟨by rw [List.length_drop, h1, hl, hmul], ?_⟩, fun i x hi => ?_⟩
  · rcases h2 with ⟨q0, A', q⟩ | ⟨b, o, cap, cur, q1, q2, q3, q4, q5, q6⟩
    · left
      simp only [Value.slice.injEq] at q
      obtain ⟨rfl, rfl, rfl⟩ := q
      have : k = 0 := by omega
      subst this
      exact ⟨by rw [hl]; omega, A, by simp⟩
    · simp only [Value.slice.injEq] at q1
      obtain ⟨rfl, rfl, rfl⟩ := q1
      by_cases e1 : cap + 1 = k
      · left
        refine ⟨by rw [hl]; omega, some ⟨b, o, none⟩, ?_⟩
        rw [if_pos e1, show xs.length - k = 0 by omega, show cap + 1 - k = 0 by omega]
      · right
        rw [if_neg e1, hl]
        have hm2 : (cap - k + 1) * Rep.sz α + k * Rep.sz α = (cap + 1) * Rep.sz α := by rw [← Nat.add_mul]; congr 1; omega
        refine ⟨b, o + k * Rep.sz α, cap - k, cur, by rw [Option.map_some, add_mk, show cap + 1 - k = cap - k + 1 by omega], by omega, by omega, q4, by omega, ?_⟩
        rw [← q6, List.drop_take, List.drop_drop, hmul]
  · rw [List.getElem?_drop] at hi
    obtain ⟨c', r1, r2⟩ := h3 (k + i) x hi
    refine ⟨c', r1, fun j hj => ?_⟩
    rw [← r2 j hj, List.getElem?_drop]
    congr 1
    rw [Nat.add_mul]
    omega
end Go.Proofs.Ytniobbepliknmaa.V
/- Ways between numbers (Warshall's closure): the plain law; no condition. -/
namespace Go.Proofs.Ytniobbepliknmaa.V
open Go
set_option linter.unusedVariables false
set_option linter.unusedSimpArgs false

def mat (w : List (List Bool)) (b c : Nat) : Bool := (w.getD b []).getD c false
structure Sq (n : Nat) (w : List (List Bool)) : Prop where
  len : w.length = n
  row : ∀ r ∈ w, r.length = n
theorem Sq.at' {n : Nat} {w : List (List Bool)} (h : Sq n w) {b : Nat} (hb : b < w.length) : w[b].length = n := h.row _ (List.getElem_mem hb)
theorem mat_at {w : List (List Bool)} {b c : Nat} (hb : b < w.length) (hc : c < w[b].length) : mat w b c = w[b][c] := by simp [mat, hb, hc]
def mset2 (w : List (List Bool)) (b c : Nat) (v : Bool) : List (List Bool) := w.set b ((w.getD b []).set c v)
theorem Sq.set {n : Nat} {w : List (List Bool)} (h : Sq n w) (b c : Nat) (v : Bool) : Sq n (mset2 w b c v) := by
  refine ⟨by simp [mset2, h.len], fun r hr => ?_⟩
  unfold mset2 at hr
  rcases Nat.lt_or_ge b w.length with hb | hb
  · rcases List.mem_or_eq_of_mem_set hr with q | q
    · exact h.row r q
    · subst q
      simp [hb, h.at' hb]
  · rw [List.set_eq_of_length_le hb] at hr
    exact h.row r hr
theorem mat_set {n : Nat} {w : List (List Bool)} (h : Sq n w) {b c : Nat} (v : Bool) (hb : b < n) (hc : c < n) (x y : Nat) : mat (mset2 w b c v) x y = if x = b ∧ y = c then v else mat w x y := by
  have hl := h.len
  have hr := h.at' (b := b) (by omega)
  by_cases e : x = b
  · subst e
    simp only [mat, mset2, List.getD_eq_getElem?_getD, List.getElem?_set_self (show x < w.length by omega), Option.getD_some]
    rw [List.getElem?_eq_getElem (show x < w.length by omega)]
    simp only [Option.getD_some, List.getElem?_set]
    by_cases e' : c = y
    · subst e'
      simp [hr, hc]
    · have : ¬ y = c := fun q => e' q.symm
      simp [e', this]
  · have e'' : ¬ b = x := fun q => e q.symm
    simp [mat, mset2, List.getD_eq_getElem?_getD, List.getElem?_set, e, e'']
def wst (w : List (List Bool)) (a b c : Nat) : List (List Bool) := mset2 w b c (mat w b c || mat w b a && mat w a c)
def wN (w0 : List (List Bool)) (n : Nat) : Nat → List (List Bool)
  | 0 => w0
  | t + 1 => wst (wN w0 n t) (t / n / n) (t / n % n) (t % n)
theorem wN_step (w0 : List (List Bool)) {n a b c : Nat} (hb : b < n) (hc : c < n) : wN w0 n ((a * n + b) * n + c + 1) = wst (wN w0 n ((a * n + b) * n + c)) a b c := by
  have h1 : ((a * n + b) * n + c) / n = a * n + b := by
    rw [Nat.mul_comm, Nat.mul_add_div (by omega), Nat.div_eq_of_lt hc, Nat.add_zero]
  have h2 : ((a * n + b) * n + c) % n = c := by
    rw [Nat.mul_comm, Nat.mul_add_mod, Nat.mod_eq_of_lt hc]
  have h3 : (a * n + b) / n = a := by
    rw [Nat.mul_comm, Nat.mul_add_div (by omega), Nat.div_eq_of_lt hb, Nat.add_zero]
  have h4 : (a * n + b) % n = b := by
    rw [Nat.mul_comm, Nat.mul_add_mod, Nat.mod_eq_of_lt hb]
  rw [wN, h1, h2, h3, h4]
theorem wN_sq {w0 : List (List Bool)} {n : Nat} (h : Sq n w0) : ∀ t, Sq n (wN w0 n t)
  | 0 => h
  | t + 1 => (wN_sq h t).set _ _ _
/-- what is told stays -/
theorem wN_mono {w0 : List (List Bool)} {n : Nat} (hn : 0 < n) (h : Sq n w0) {x y : Nat} : ∀ t k, mat (wN w0 n t) x y = true → mat (wN w0 n (t + k)) x y = true
  | t, 0, hm => hm
  | t, k + 1, hm => by
    have ih := wN_mono hn h t k hm
    rw [← Nat.add_assoc, wN, wst, mat_set (wN_sq h _) _ (Nat.mod_lt _ hn) (Nat.mod_lt _ hn)]
    split
    · rename_i e
      obtain ⟨rfl, rfl⟩ := e
      rw [ih, Bool.true_or]
    · exact ih
inductive PathK (E : Nat → Nat → Prop) (k : Nat) : Nat → Nat → Prop
  | one {b c : Nat} : E b c → PathK E k b c
  | trans {b m c : Nat} : PathK E k b m → m < k → PathK E k m c → PathK E k b c
theorem PathK.split {E : Nat → Nat → Prop} {k b c : Nat} (h : PathK E (k + 1) b c) : PathK E k b c ∨ (PathK E k b k ∧ PathK E k k c) := by
  induction h with
  | one h => exact .inl (.one h)
  | @trans b m c _ hm _ ih1 ih2 =>
    by_cases e : m = k
    · subst e
      refine .inr ⟨?_, ?_⟩
      · rcases ih1 with q | q
        · exact q
        · exact q.1
      · rcases ih2 with q | q
        · exact q
        · exact q.2
    · have hm' : m < k := by omega
      rcases ih1 with q | q
      · rcases ih2 with q' | q'
        · exact .inl (.trans q hm' q')
        · exact .inr ⟨.trans q hm' q'.1, q'.2⟩
      · rcases ih2 with q' | q'
        · exact .inr ⟨q.1, .trans q.2 hm' q'⟩
        · exact .inr ⟨q.1, q'.2⟩
theorem PathK.zero {E : Nat → Nat → Prop} {b c : Nat} (h : PathK E 0 b c) : E b c := by
  induction h with
  | one h => exact h
  | trans _ hm _ _ _ => omega
/-- one number more to pass through -/
theorem wN_phase {w0 : List (List Bool)} {n : Nat} (h : Sq n w0) {a b c : Nat} (hb : b < n) (hc : c < n) (hv : mat (wN w0 n (a * n * n)) b c = true ∨ (mat (wN w0 n (a * n * n)) b a = true ∧ mat (wN w0 n (a * n * n)) a c = true)) : mat (wN w0 n ((a + 1) * n * n)) b c = true := by
  have hn : 0 < n := by omega
  have hle : (a * n + b) * n + c + 1 ≤ (a + 1) * n * n := by
    calc (a * n + b) * n + c + 1 ≤ (a * n + b) * n + n := by omega
      _ = (a * n + b + 1) * n := by rw [Nat.add_mul (a * n + b) 1 n, Nat.one_mul]
      _ ≤ (a + 1) * n * n := by
        refine Nat.mul_le_mul_right _ ?_
        rw [Nat.add_mul, Nat.one_mul]
        omega
  have hge : (a * n + b) * n + c = a * n * n + (b * n + c) := by rw [Nat.add_mul]; omega
  have up : ∀ x y, mat (wN w0 n (a * n * n)) x y = true → mat (wN w0 n ((a * n + b) * n + c)) x y = true := fun x y q => by
    rw [hge]; exact wN_mono hn h _ _ q
  have : mat (wN w0 n ((a * n + b) * n + c + 1)) b c = true := by
    rw [wN_step _ hb hc, wst, mat_set (wN_sq h _) _ hb hc, if_pos ⟨rfl, rfl⟩]
    rcases hv with q | ⟨q1, q2⟩
    · rw [up _ _ q, Bool.true_or]
    · rw [up _ _ q1, up _ _ q2]; simp
  have h2 := wN_mono hn h _ ((a + 1) * n * n - ((a * n + b) * n + c + 1)) this
  rwa [show (a * n + b) * n + c + 1 + ((a + 1) * n * n - ((a * n + b) * n + c + 1)) = (a + 1) * n * n by omega] at h2
theorem mat_lt {n : Nat} {w : List (List Bool)} (h : Sq n w) {b c : Nat} (hm : mat w b c = true) : b < n ∧ c < n := by
  have hl := h.len
  rcases Nat.lt_or_ge b w.length with hb | hb
  · refine ⟨by omega, ?_⟩
    have hr := h.at' hb
    rcases Nat.lt_or_ge c w[b].length with hc | hc
    · omega
    · simp [mat, hb, List.getD_eq_getElem?_getD, List.getElem?_eq_none hc] at hm
  · simp [mat, List.getD_eq_getElem?_getD, List.getElem?_eq_none hb] at hm
theorem PathK.lt {n : Nat} {w : List (List Bool)} (h : Sq n w) {k b c : Nat} (hp : PathK (fun b c => mat w b c = true) k b c) : b < n ∧ c < n := by
  induction hp with
  | one h' => exact mat_lt h h'
  | trans _ _ _ ih1 ih2 => exact ⟨ih1.1, ih2.2⟩
theorem wN_all {w0 : List (List Bool)} {n : Nat} (h : Sq n w0) : ∀ (k : Nat), k ≤ n → ∀ {b c : Nat}, PathK (fun b c => mat w0 b c = true) k b c → mat (wN w0 n (k * n * n)) b c = true
  | 0, _, b, c, hp => by simpa [wN] using hp.zero
  | k + 1, hk, b, c, hp => by
    obtain ⟨hb, hc⟩ := hp.lt h
    refine wN_phase h hb hc ?_
    rcases hp.split with q | ⟨q1, q2⟩
    · exact .inl (wN_all h k (by omega) q)
    · exact .inr ⟨wN_all h k (by omega) q1, wN_all h k (by omega) q2⟩
theorem wN_sound {w0 : List (List Bool)} {n : Nat} (h : Sq n w0) : ∀ (t : Nat) {b c : Nat}, mat (wN w0 n t) b c = true → PathK (fun b c => mat w0 b c = true) n b c
  | 0, b, c, hm => .one hm
  | t + 1, b, c, hm => by
    rcases Nat.eq_zero_or_pos n with hn | hn
    · subst hn
      have := mat_lt (wN_sq h (t + 1)) hm
      omega
    rw [wN, wst, mat_set (wN_sq h _) _ (Nat.mod_lt _ hn) (Nat.mod_lt _ hn)] at hm
    split at hm
    · rename_i e
      obtain ⟨rfl, rfl⟩ := e
      simp only [Bool.or_eq_true, Bool.and_eq_true] at hm
      rcases hm with q | ⟨q1, q2⟩
      · exact wN_sound h t q
      · have h1 := wN_sound h t q1
        exact .trans h1 (h1.lt h).2 (wN_sound h t q2)
    · exact wN_sound h t hm
/-- the closure tells just the ways -/
theorem wN_iff {w0 : List (List Bool)} {n : Nat} (h : Sq n w0) (b c : Nat) : mat (wN w0 n (n * n * n)) b c = true ↔ PathK (fun b c => mat w0 b c = true) n b c :=
  ⟨wN_sound h _, wN_all h n (Nat.le_refl _)⟩
end Go.Proofs.Ytniobbepliknmaa.V
/- The text of cmp.Compare[int] as a statement (slots: 0 x, 1 y, 2 x, 3 y, 5 xNaN, 6 yNaN); no condition. -/
namespace Go.Proofs.Ytniobbepliknmaa.V
open Go
def S105_0 : Stmt :=
 .seq (.region [.mk (some 4) none (.mv (.const (.int .i64 0)))] [0,1])
 (.seq
 (.region
 [.mk (some 7) none (.mv (.tmp 0)),
 .mk (some 8) none (.call (.func 170) [.tmp 7]),
 .mk (some 5) none (.mv (.tmp 8))]
 [0,1,5])
 (.seq
 (.region
 [.mk (some 9) none (.mv (.tmp 1)),
 .mk (some 10) none (.call (.func 170) [.tmp 9]),
 .mk (some 6) none (.mv (.tmp 10))]
 [0,1,5,6])
 (.seq
 (.seq (.region [.mk (some 11) none (.mv (.tmp 5))] [0,1,6,11])
 (.cond (.tmp 11)
 (.seq
 (.seq (.region [.mk (some 12) none (.mv (.tmp 6))] [12])
 (.cond (.tmp 12)
 (.seq
 (.region [.mk (some 4) none (.mv (.const (.int .i64 0)))] [4])
 .ret)
 .skip))
 (.seq (.region [.mk (some 4) none (.mv (.const (.int .i64 (-1))))] [4])
 .ret))
 .skip))
 (.seq
 (.seq (.region [.mk (some 13) none (.mv (.tmp 6))] [0,1,13])
 (.cond (.tmp 13)
 (.seq (.region [.mk (some 4) none (.mv (.const (.int .i64 1)))] [4])
 .ret)
 .skip))
 (.seq
 (.seq
 (.region
 [.mk (some 14) none (.mv (.tmp 0)),.mk (some 15) none (.mv (.tmp 1)),
 .mk (some 16) none (.ibin .lss (.tmp 14) (.tmp 15))]
 [0,1,16])
 (.cond (.tmp 16)
 (.seq
 (.region [.mk (some 4) none (.mv (.const (.int .i64 (-1))))] [4])
 .ret)
 .skip))
 (.seq
 (.seq
 (.region
 [.mk (some 17) none (.mv (.tmp 0)),.mk (some 18) none (.mv (.tmp 1)),
 .mk (some 19) none (.ibin .gtr (.tmp 17) (.tmp 18))]
 [19])
 (.cond (.tmp 19)
 (.seq
 (.region [.mk (some 4) none (.mv (.const (.int .i64 1)))] [4])
 .ret)
 .skip))
 (.seq (.region [.mk (some 4) none (.mv (.const (.int .i64 0)))] [4])
 .ret)))))))
def S105 : FnS := ⟨20,[(4,none)],S105_0⟩
theorem tr105 : trFn Try.prog 105 [] [[0,1],[0,1,5],[0,1,5,6],[0,1,6,11],[12],[4],[4],[0,1,13],[4],[0,1,16],[4],[19],[4],[4]] = some S105 := by kernel_rfl
end Go.Proofs.Ytniobbepliknmaa.V
/- The text of cmp.isNaN[int] as a statement (slots: 0 x, 1 x); no condition. -/
namespace Go.Proofs.Ytniobbepliknmaa.V
open Go
def S170_0 : Stmt :=
 .seq (.region [.mk (some 2) none (.mv (.const (.bool false)))] [0])
 (.seq
 (.region
 [.mk (some 3) none (.mv (.tmp 0)),.mk (some 4) none (.mv (.tmp 0)),
 .mk (some 5) none (.ibin .neq (.tmp 3) (.tmp 4)),
 .mk (some 2) none (.mv (.tmp 5))]
 [2])
 .ret)
def S170 : FnS := ⟨6,[(2,none)],S170_0⟩
theorem tr170 : trFn Try.prog 170 [] [[0],[2]] = some S170 := by kernel_rfl
end Go.Proofs.Ytniobbepliknmaa.V
/- cmp.Compare and slices.Compare of whole numbers walked; no condition. -/
namespace Go.Proofs.Ytniobbepliknmaa.V
open Go
set_option linter.unusedVariables false
set_option linter.unusedSimpArgs false
attribute [local go_sem] e_seq e_region e_quiet e_join e_loop e_cond e_block e_exit e_ret e_skip e_fin e_kseq e_snrm e_sret e_sex e_bnrm e_bret e_bex e_rnrm e_rret e_res e_condC e_nil e_g e_mv g_mv e_pick g_pick pickC_eq e_ibin g_ibin ibinC_eq e_sbin g_sbin e_beq g_beq beqC_eq e_nilq g_nilq nilqC_sl nilqC_pt nilqC_mp e_un g_un unC_not unC_neg e_conv g_conv convC_eq e_fld g_fld fldC_ref fldC_ptr e_nilCheck g_nilCheck nilCheckC_ref nilCheckC_ptr nilCheckC_fun e_field g_field fieldC_eq e_len g_len lenC_sl lenC_str e_extract g_extract extractC_eq e_mkFunc e_build g_build e_idiv g_idiv idivC_eq e_ishift g_ishift ishiftC_eq e_idx g_idx e_idxA g_idxA e_load g_load e_loadB g_loadB atB_ref atB_v g_mkFunc loadC_ref loadC_ptr loadB_eq e_slc g_slc e_box boxC_loc boxC_esc e_alloc allocC_loc allocC_esc e_buildS e_store storeC_ref storeC_ptr storeB_eq e_append e_appz e_mk mkC_eq e_call callC_eq e_fn g_fn fnC_eq fnV_min' fnV_max' fnV_rune' e_q g_q e_a e_n g_call g_box g_alloc g_buildS g_store g_append g_mk g_a g_n g_dead e_dead e_callK e_drawn e_tree e_finJ e_tk e_tfin e_tno e_nbt_q e_nbt_qn e_nbt_a e_nbt_an e_nbt_fin e_drawnB e_bxb_nil e_bxb e_stB_none e_stB_some boxSt_store bs_mv bs_pick bs_ibin bs_idiv bs_ishift bs_sbin bs_beq bs_nilq bs_un bs_conv bs_box bs_alloc bs_build bs_buildS bs_load bs_fld bs_nilCheck bs_idx bs_idxA bs_field bs_slc bs_len bs_append bs_appz bs_mk bs_call bs_extract bs_mkFunc bs_fn bs_q bs_a bs_n bs_loadB bs_dead isBox_box e_early_nil e_early_t e_early_f e_nob_nil e_nob_none e_nob_some isBox_dead isBox_v isBox_ref e_dnil e_dk e_ek e_finB vcOps_vc1 e_dcons e_tq e_ekt e_tearly e_talt e_dearly look_nil look_c proj_nil proj_c looks_nil looks_c zip_nil zip_c val_tmp val_const val_func slv_v slv_box slv_ref slot_tmp slot_const slot_func slotL_v slotL_box slotL_ref put_some put_none updBox_c boxSet_box gd_eq slotVals_nil slotVals_c slotVals_b boxV_box boxOn_box slotsOn_nil slotsOn_c slotsOn_b resV_one resV_two vals_nil vals_c allOn_nil allOn_c partOn_nil partOn_c partVals_nil partVals_c fits_nil fits_c fillL_nil fillL_c mkv_one mkv_agg cellsV_agg cellsV_int cellsV_bool cellsV_slice cellsV_string cellsV_pointer cellsV_func cellsV_nilf cellsV_map one'_nil one'_c oc_int oc_bool oc_slice oc_string oc_pointer oc_func oc_nilf oc_map setC_eq iv_add iv_sub iv_mul iv_eql iv_neq iv_lss iv_leq iv_gtr iv_geq iok_add iok_sub iok_mul iok_eql iok_neq iok_lss iok_leq iok_gtr iok_geq pickV_bool args0_nil args0_c bnd_none bnd_some imp_bt imp_bf imp_ebt imp_ebf imp_eb1 imp_np imp_pp beq_tt beq_tf beq_ft beq_ff cond_or cond_and e_round e_meet Int.le_refl Int.toNat_zero decide_true decide_false Bool.or_false Bool.false_or Bool.true_or Bool.or_true Bool.and_false Bool.false_and Bool.bne_false Bool.bne_true beq_iff_eq Int.cast_ofNat_Int not_false_eq_true not_true_eq_false false_and and_false false_implies true_implies true_and and_true Bool.true_and Bool.and_true Bool.not_true Bool.not_false forall_const implies_true List.take_zero List.drop_zero List.take_succ_cons List.drop_succ_cons List.take_nil List.drop_nil List.length_cons List.length_nil List.nil_append List.append_nil List.cons_append Int.toNat_natCast decide_eq_true_eq decide_eq_false_iff_not cond_true cond_false and_self List.getElem?_cons_zero List.getElem?_cons_succ List.set_cons_zero List.set_cons_succ Option.some.injEq exists_eq_left' Nat.zero_add Nat.add_zero Nat.mul_one imp_self true_or or_true or_false false_or Bool.or_eq_true Bool.or_eq_false_iff Bool.and_eq_true Bool.and_eq_false_iff Bool.not_eq_true' Bool.not_eq_false'

def cmpI (a b : Int) : Int := if a < b then -1 else if b < a then 1 else 0
theorem is_nan {Γr : Ctx} (a : Int) : Ret Try.prog 170 [.int .i64 a] Γr [] (fun v Γ => Γ = [] ∧ v = .bool false) := by
  generalize hR : (fun (v : Value) (Γ : Ctx) => Γ = [] ∧ _) = R
  refine ret_of_vc tr170 (Nat.le_of_ble_eq_true rfl) ?_
  simp only [S170, S170_0, go_sem, Nat.reduceBEq, Nat.reduceAdd, Nat.reduceSub, Nat.reduceMul, Nat.reduceLeDiff, reduceCtorEq, ↓reduceIte, Int.reduceLT, Int.reduceLE, Int.reduceEq, Int.reduceNe]
  refine Up.here ?_
  subst hR
  exact ⟨rfl, by simp⟩
theorem cmp_compare {Γr : Ctx} (a b : Int) : Ret Try.prog 105 [.int .i64 a, .int .i64 b] Γr [] (fun v Γ => Γ = [] ∧ v = .int .i64 (cmpI a b)) := by
  generalize hR : (fun (v : Value) (Γ : Ctx) => Γ = [] ∧ _) = R
  refine ret_of_vc tr105 (Nat.le_of_ble_eq_true rfl) ?_
  simp only [S105, S105_0, go_sem, Nat.reduceBEq, Nat.reduceAdd, Nat.reduceSub, Nat.reduceMul, Nat.reduceLeDiff, reduceCtorEq, ↓reduceIte, Int.reduceLT, Int.reduceLE, Int.reduceEq, Int.reduceNe]
  refine CallVC.read (is_nan a) ?_
  rintro v Γ' ⟨rfl, rfl⟩
  simp only [go_sem, Nat.reduceBEq, Nat.reduceAdd, Nat.reduceSub, Nat.reduceMul, Nat.reduceLeDiff, reduceCtorEq, ↓reduceIte, Int.reduceLT, Int.reduceLE, Int.reduceEq, Int.reduceNe]
  refine CallVC.read (is_nan b) ?_
  rintro v Γ' ⟨rfl, rfl⟩
  simp only [go_sem, Nat.reduceBEq, Nat.reduceAdd, Nat.reduceSub, Nat.reduceMul, Nat.reduceLeDiff, reduceCtorEq, ↓reduceIte, Int.reduceLT, Int.reduceLE, Int.reduceEq, Int.reduceNe]
  subst hR
  refine ⟨fun h => Up.here ⟨rfl, ?_⟩, fun h => ⟨fun h' => Up.here ⟨rfl, ?_⟩, fun h' => Up.here ⟨rfl, ?_⟩⟩⟩
  · simp [cmpI, h]
  · simp [cmpI, h, h']
  · simp [cmpI, h, h']

end Go.Proofs.Ytniobbepliknmaa.V
/- The text of parlance/gram.Order as a statement (slots: 0 a, 1 b, 2 a, 3 b); no condition. -/
namespace Go.Proofs.Ytniobbepliknmaa.V
open Go
def S203_0 : Stmt :=
 .seq
 (.region
 [.mk (some 2) none (.box true 39 (.tmp 0)),.mk (some 3) none (.box true 39 (.tmp 1)),
 .mk (some 4) none (.mv (.const (.int .i64 0)))]
 [2,3])
 (.seq
 (.block 0
 (.seq
 (.region
 [.mk (some 6) none (.fld 0 (.tmp 2)),
 .mk (some 7) none (.load false 1 (.tmp 6)),.mk (some 8) none (.mv (.tmp 7)),
 .mk (some 9) (some (8,true)) (.fld 0 (.tmp 3)),
 .mk (some 10) (some (8,true)) (.load false 1 (.tmp 9)),
 .mk (some 11) (some (8,true)) (.un .not (.tmp 10)),
 .mk (some 12) none (.pick (.tmp 8) (.tmp 11) (.const (.bool false))),
 .mk (some 5) none (.mv (.tmp 12))]
 [2,3,5])
 (.cond (.tmp 5)
 (.seq (.region [.mk (some 4) none (.mv (.const (.int .i64 (-1))))] [4])
 .ret)
 (.seq
 (.region
 [.mk (some 14) none (.fld 0 (.tmp 2)),
 .mk (some 15) none (.load false 1 (.tmp 14)),
 .mk (some 16) none (.un .not (.tmp 15)),
 .mk (some 17) none (.mv (.tmp 16)),
 .mk (some 18) (some (17,true)) (.fld 0 (.tmp 3)),
 .mk (some 19) (some (17,true)) (.load false 1 (.tmp 18)),
 .mk (some 20) none (.pick (.tmp 17) (.tmp 19) (.const (.bool false))),
 .mk (some 13) none (.mv (.tmp 20))]
 [2,3,13])
 (.cond (.tmp 13)
 (.seq (.region [.mk (some 4) none (.mv (.const (.int .i64 1)))] [4])
 .ret)
 .skip)))))
 (.seq
 (.region
 [.mk (some 21) none (.fld 1 (.tmp 2)),
 .mk (some 22) none (.load false 1 (.tmp 21)),
 .mk (some 23) none (.fld 1 (.tmp 3)),
 .mk (some 24) none (.load false 1 (.tmp 23)),
 .mk (some 25) none (.call (.func 105) [.tmp 22,.tmp 24]),
 .mk (some 4) none (.mv (.tmp 25))]
 [4])
 .ret))
def S203 : FnS := ⟨26,[(4,none)],S203_0⟩
theorem tr203 : trFn Try.prog 203 [2,3] [[2,3],[2,3,5],[4],[2,3,13],[4],[4]] = some S203 := by kernel_rfl
end Go.Proofs.Ytniobbepliknmaa.V
/- The text of slices.CompareFunc[[]parlance/api.Sym,[]parlance/api.Sym,parlance/api.Sym,parlance/api.Sym] as a statement (slots: 0 s1, 1 s2, 2 cmp, 3 s1, 4 s2, 5 cmp, 7 i, 8 v1, 9 v2, 10 c); no condition. -/
namespace Go.Proofs.Ytniobbepliknmaa.V
open Go
def S202_1 : Stmt :=
 .seq
 (.region [.mk (some 14) none (.ibin .lss (.tmp 13) (.tmp 12))]
 [0,1,2,11,12,13,14])
 (.seq (.cond (.tmp 14) .skip (.exit 0))
 (.seq
 (.block 1
 (.seq
 (.region
 [.mk (some 15) none (.mv (.tmp 13)),
 .mk (some 16) none (.idx 2 (.tmp 11) (.tmp 13)),
 .mk (some 17) none (.load true 2 (.tmp 16)),
 .mk (some 8) none
 (.alloc true 39 (.agg (Array.mk [.bool false,.int .i64 0]))),
 .mk (some 7) none (.mv (.tmp 15)),
 .mk none none (.store 2 (.tmp 8) (.tmp 17))]
 [0,1,2,7,8,11,12,13])
 (.seq
 (.seq
 (.region
 [.mk (some 18) none (.mv (.tmp 7)),.mk (some 19) none (.mv (.tmp 1)),
 .mk (some 20) none (.len false (.tmp 19)),
 .mk (some 21) none (.ibin .geq (.tmp 18) (.tmp 20))]
 [0,1,2,7,8,11,12,13,21])
 (.cond (.tmp 21)
 (.seq (.region [.mk (some 6) none (.mv (.const (.int .i64 1)))] [6])
 .ret)
 .skip))
 (.seq
 (.region
 [.mk (some 22) none (.mv (.tmp 1)),.mk (some 23) none (.mv (.tmp 7)),
 .mk (some 24) none (.idx 2 (.tmp 22) (.tmp 23)),
 .mk (some 25) none (.load true 2 (.tmp 24)),
 .mk (some 9) none
 (.alloc true 39 (.agg (Array.mk [.bool false,.int .i64 0]))),
 .mk none none (.store 2 (.tmp 9) (.tmp 25))]
 [0,1,2,8,9,11,12,13])
 (.seq
 (.region
 [.mk (some 26) none (.mv (.tmp 2)),
 .mk (some 27) none (.load true 2 (.tmp 8)),
 .mk (some 28) none (.load true 2 (.tmp 9)),
 .mk (some 29) none (.call (.tmp 26) [.tmp 27,.tmp 28]),
 .mk (some 10) none (.mv (.tmp 29))]
 [0,1,2,10,11,12,13])
 (.seq
 (.region
 [.mk (some 30) none (.mv (.tmp 10)),
 .mk (some 31) none
 (.ibin .neq (.tmp 30) (.const (.int .i64 0)))]
 [0,1,2,10,11,12,13,31])
 (.cond (.tmp 31)
 (.seq
 (.region
 [.mk (some 32) none (.mv (.tmp 10)),
 .mk (some 6) none (.mv (.tmp 32))]
 [6])
 .ret)
 .skip)))))))
 (.region
 [.mk (some 33) none (.ibin .add (.tmp 13) (.const (.int .i64 1))),
 .mk (some 13) none (.mv (.tmp 33))]
 [0,1,2,11,12,13])))
def S202_0 : Stmt :=
 .seq (.region [.mk (some 6) none (.mv (.const (.int .i64 0)))] [0,1,2])
 (.seq
 (.seq
 (.region
 [.mk (some 11) none (.mv (.tmp 0)),.mk (some 12) none (.len false (.tmp 11)),
 .mk (some 13) none (.mv (.const (.int .i64 0)))]
 [0,1,2,11,12,13])
 (.block 0 (.loop S202_1 [13] [0,1,2,11,12])))
 (.seq
 (.seq
 (.region
 [.mk (some 34) none (.mv (.tmp 0)),.mk (some 35) none (.len false (.tmp 34)),
 .mk (some 36) none (.mv (.tmp 1)),.mk (some 37) none (.len false (.tmp 36)),
 .mk (some 38) none (.ibin .lss (.tmp 35) (.tmp 37))]
 [38])
 (.cond (.tmp 38)
 (.seq (.region [.mk (some 6) none (.mv (.const (.int .i64 (-1))))] [6])
 .ret)
 .skip))
 (.seq (.region [.mk (some 6) none (.mv (.const (.int .i64 0)))] [6])
 .ret)))
def S202 : FnS := ⟨39,[(6,none)],S202_0⟩
theorem tr202 : trFn Try.prog 202 [8,9] [[0,1,2],[0,1,2,11,12,13],[13],[0,1,2,11,12],[0,1,2,11,12,13,14],[0,1,2,7,8,11,12,13],[0,1,2,7,8,11,12,13,21],[6],[0,1,2,8,9,11,12,13],[0,1,2,10,11,12,13],[0,1,2,10,11,12,13,31],[6],[0,1,2,11,12,13],[38],[6],[6]] = some S202 := by kernel_rfl
end Go.Proofs.Ytniobbepliknmaa.V
/- The text of parlance/gram.Compare as a statement (slots: 0 a, 1 b, 2 a, 3 b, 5 c); no condition. -/
namespace Go.Proofs.Ytniobbepliknmaa.V
open Go
def S172_0 : Stmt :=
 .seq
 (.region
 [.mk (some 2) none (.box true 37 (.tmp 0)),.mk (some 3) none (.box true 37 (.tmp 1)),
 .mk (some 4) none (.mv (.const (.int .i64 0)))]
 [2,3])
 (.seq
 (.seq
 (.region
 [.mk (some 6) none (.fld 0 (.tmp 2)),.mk (some 7) none (.load false 1 (.tmp 6)),
 .mk (some 8) none (.fld 0 (.tmp 3)),.mk (some 9) none (.load false 1 (.tmp 8)),
 .mk (some 10) none (.call (.func 105) [.tmp 7,.tmp 9]),
 .mk (some 5) none (.mv (.tmp 10))]
 [2,3,5])
 (.seq
 (.region
 [.mk (some 11) none (.mv (.tmp 5)),
 .mk (some 12) none (.ibin .neq (.tmp 11) (.const (.int .i64 0)))]
 [2,3,5,12])
 (.cond (.tmp 12)
 (.seq
 (.region
 [.mk (some 13) none (.mv (.tmp 5)),.mk (some 4) none (.mv (.tmp 13))] [4])
 .ret)
 .skip)))
 (.seq
 (.region
 [.mk (some 14) none (.fld 1 (.tmp 2)),
 .mk (some 15) none (.load false 1 (.tmp 14)),
 .mk (some 16) none (.fld 1 (.tmp 3)),
 .mk (some 17) none (.load false 1 (.tmp 16)),
 .mk (some 18) none (.call (.func 202) [.tmp 15,.tmp 17,.func 203]),
 .mk (some 4) none (.mv (.tmp 18))]
 [4])
 .ret))
def S172 : FnS := ⟨19,[(4,none)],S172_0⟩
theorem tr172 : trFn Try.prog 172 [2,3] [[2,3],[2,3,5],[2,3,5,12],[4],[4]] = some S172 := by kernel_rfl
end Go.Proofs.Ytniobbepliknmaa.V
/- The text of parlance/gram.Check as a statement (slots: 0 g, 1 g, 3 i, 4 r, 5 _, 6 s, 7 _, 8 q); no condition. -/
namespace Go.Proofs.Ytniobbepliknmaa.V
open Go
def S112_1 : Stmt :=
 .seq
 (.region [.mk (some 69) none (.ibin .lss (.tmp 68) (.tmp 67))]
 [1,3,4,44,45,46,66,67,68,69])
 (.seq (.cond (.tmp 69) .skip (.exit 2))
 (.seq
 (.block 3
 (.seq
 (.region
 [.mk (some 70) none (.idx 2 (.tmp 66) (.tmp 68)),
 .mk (some 71) none (.load true 2 (.tmp 70)),
 .mk (some 6) none
 (.alloc true 39 (.agg (Array.mk [.bool false,.int .i64 0]))),
 .mk none none (.store 2 (.tmp 6) (.tmp 71))]
 [1,3,4,6,44,45,46,66,67,68])
 (.seq
 (.region
 [.mk (some 72) none (.fld 1 (.tmp 6)),
 .mk (some 73) none (.load false 1 (.tmp 72)),
 .mk (some 74) none (.ibin .lss (.tmp 73) (.const (.int .i64 0))),
 .mk (some 75) none (.mv (.tmp 74)),
 .mk (some 76) (some (75,false)) (.fld 0 (.tmp 6)),
 .mk (some 77) (some (75,false)) (.load false 1 (.tmp 76)),
 .mk (some 78) (some (75,false)) (.mv (.tmp 77)),
 .mk (some 79) (some (78,true)) (.fld 1 (.tmp 6)),
 .mk (some 80) (some (78,true)) (.load false 1 (.tmp 79)),
 .mk (some 81) (some (78,true)) (.fld 0 (.tmp 1)),
 .mk (some 82) (some (78,true)) (.load false 1 (.tmp 81)),
 .mk (some 83) (some (78,true)) (.ibin .geq (.tmp 80) (.tmp 82)),
 .mk (some 84) (some (75,false))
 (.pick (.tmp 78) (.tmp 83) (.const (.bool false))),
 .mk (some 85) none (.pick (.tmp 75) (.const (.bool true)) (.tmp 84)),
 .mk (some 86) none (.mv (.tmp 85)),
 .mk (some 87) (some (86,false)) (.fld 0 (.tmp 6)),
 .mk (some 88) (some (86,false)) (.load false 1 (.tmp 87)),
 .mk (some 89) (some (86,false)) (.un .not (.tmp 88)),
 .mk (some 90) (some (86,false)) (.mv (.tmp 89)),
 .mk (some 91) (some (90,true)) (.fld 1 (.tmp 6)),
 .mk (some 92) (some (90,true)) (.load false 1 (.tmp 91)),
 .mk (some 93) (some (90,true)) (.fld 1 (.tmp 1)),
 .mk (some 94) (some (90,true)) (.load false 1 (.tmp 93)),
 .mk (some 95) (some (90,true)) (.ibin .geq (.tmp 92) (.tmp 94)),
 .mk (some 96) (some (86,false))
 (.pick (.tmp 90) (.tmp 95) (.const (.bool false))),
 .mk (some 97) none (.pick (.tmp 86) (.const (.bool true)) (.tmp 96))]
 [1,3,4,44,45,46,66,67,68,97])
 (.cond (.tmp 97)
 (.seq (.region [.mk (some 2) none (.mv (.const (.int .i64 3)))] [2])
 .ret)
 .skip))))
 (.region
 [.mk (some 98) none (.ibin .add (.tmp 68) (.const (.int .i64 1))),
 .mk (some 68) none (.mv (.tmp 98))]
 [1,3,4,44,45,46,66,67,68])))
def S112_2 : Stmt :=
 .seq
 (.region [.mk (some 105) none (.ibin .lss (.tmp 104) (.tmp 103))]
 [1,4,44,45,46,102,103,104,105])
 (.seq (.cond (.tmp 105) .skip (.exit 4))
 (.seq
 (.block 5
 (.seq
 (.region
 [.mk (some 106) none (.idx 2 (.tmp 102) (.tmp 104)),
 .mk (some 107) none (.load true 2 (.tmp 106)),
 .mk (some 8) none
 (.alloc true 37 (.agg (Array.mk [.int .i64 0,.slice none 0 0]))),
 .mk none none (.store 2 (.tmp 8) (.tmp 107))]
 [1,4,8,44,45,46,102,103,104])
 (.seq
 (.region
 [.mk (some 108) none (.load true 2 (.tmp 8)),
 .mk (some 109) none (.load true 2 (.tmp 4)),
 .mk (some 110) none (.call (.func 172) [.tmp 108,.tmp 109]),
 .mk (some 111) none
 (.ibin .eql (.tmp 110) (.const (.int .i64 0)))]
 [1,4,44,45,46,102,103,104,111])
 (.cond (.tmp 111)
 (.seq (.region [.mk (some 2) none (.mv (.const (.int .i64 6)))] [2])
 .ret)
 .skip))))
 (.region
 [.mk (some 112) none (.ibin .add (.tmp 104) (.const (.int .i64 1))),
 .mk (some 104) none (.mv (.tmp 112))]
 [1,4,44,45,46,102,103,104])))
def S112_3 : Stmt :=
 .seq
 (.region [.mk (some 47) none (.ibin .lss (.tmp 46) (.tmp 45))] [1,44,45,46,47])
 (.seq (.cond (.tmp 47) .skip (.exit 0))
 (.seq
 (.block 1
 (.seq
 (.region
 [.mk (some 48) none (.mv (.tmp 46)),
 .mk (some 49) none (.idx 2 (.tmp 44) (.tmp 46)),
 .mk (some 50) none (.load true 2 (.tmp 49)),
 .mk (some 4) none
 (.alloc true 37 (.agg (Array.mk [.int .i64 0,.slice none 0 0]))),
 .mk (some 3) none (.mv (.tmp 48)),
 .mk none none (.store 2 (.tmp 4) (.tmp 50))]
 [1,3,4,44,45,46])
 (.seq
 (.seq
 (.region
 [.mk (some 51) none (.fld 0 (.tmp 4)),
 .mk (some 52) none (.load false 1 (.tmp 51)),
 .mk (some 53) none
 (.ibin .lss (.tmp 52) (.const (.int .i64 0))),
 .mk (some 54) none (.mv (.tmp 53)),
 .mk (some 55) (some (54,false)) (.fld 0 (.tmp 4)),
 .mk (some 56) (some (54,false)) (.load false 1 (.tmp 55)),
 .mk (some 57) (some (54,false)) (.fld 1 (.tmp 1)),
 .mk (some 58) (some (54,false)) (.load false 1 (.tmp 57)),
 .mk (some 59) (some (54,false)) (.ibin .geq (.tmp 56) (.tmp 58)),
 .mk (some 60) none
 (.pick (.tmp 54) (.const (.bool true)) (.tmp 59))]
 [1,3,4,44,45,46,60])
 (.cond (.tmp 60)
 (.seq (.region [.mk (some 2) none (.mv (.const (.int .i64 3)))] [2])
 .ret)
 .skip))
 (.seq
 (.seq
 (.region
 [.mk (some 61) none (.fld 1 (.tmp 4)),
 .mk (some 62) none (.load false 1 (.tmp 61)),
 .mk (some 63) none (.len false (.tmp 62)),
 .mk (some 64) none
 (.ibin .gtr (.tmp 63) (.const (.int .i64 4)))]
 [1,3,4,44,45,46,64])
 (.cond (.tmp 64)
 (.seq
 (.region [.mk (some 2) none (.mv (.const (.int .i64 2)))] [2])
 .ret)
 .skip))
 (.seq
 (.seq
 (.region
 [.mk (some 65) none (.fld 1 (.tmp 4)),
 .mk (some 66) none (.load false 1 (.tmp 65)),
 .mk (some 67) none (.len false (.tmp 66)),
 .mk (some 68) none (.mv (.const (.int .i64 0)))]
 [1,3,4,44,45,46,66,67,68])
 (.block 2 (.loop S112_1 [68] [1,3,4,44,45,46,66,67])))
 (.seq
 (.region
 [.mk (some 99) none (.fld 3 (.tmp 1)),
 .mk (some 100) none (.load false 1 (.tmp 99)),
 .mk (some 101) none (.mv (.tmp 3)),
 .mk (some 102) none (.slc 2 (.tmp 100) none (some (.tmp 101)) none),
 .mk (some 103) none (.len false (.tmp 102)),
 .mk (some 104) none (.mv (.const (.int .i64 0)))]
 [1,4,44,45,46,102,103,104])
 (.block 4 (.loop S112_2 [104] [1,4,44,45,46,102,103]))))))))
 (.region
 [.mk (some 113) none (.ibin .add (.tmp 46) (.const (.int .i64 1))),
 .mk (some 46) none (.mv (.tmp 113))]
 [1,44,45,46])))
def S112_0 : Stmt :=
 .seq
 (.region
 [.mk (some 1) none (.box true 57 (.tmp 0)),
 .mk (some 2) none (.mv (.const (.int .i64 0)))]
 [1])
 (.seq
 (.seq
 (.region
 [.mk (some 9) none (.fld 0 (.tmp 1)),.mk (some 10) none (.load false 1 (.tmp 9)),
 .mk (some 11) none (.ibin .lss (.tmp 10) (.const (.int .i64 1))),
 .mk (some 12) none (.mv (.tmp 11)),
 .mk (some 13) (some (12,false)) (.fld 0 (.tmp 1)),
 .mk (some 14) (some (12,false)) (.load false 1 (.tmp 13)),
 .mk (some 15) (some (12,false))
 (.ibin .gtr (.tmp 14) (.const (.int .i64 8))),
 .mk (some 16) none (.pick (.tmp 12) (.const (.bool true)) (.tmp 15)),
 .mk (some 17) none (.mv (.tmp 16)),
 .mk (some 18) (some (17,false)) (.fld 1 (.tmp 1)),
 .mk (some 19) (some (17,false)) (.load false 1 (.tmp 18)),
 .mk (some 20) (some (17,false))
 (.ibin .lss (.tmp 19) (.const (.int .i64 1))),
 .mk (some 21) none (.pick (.tmp 17) (.const (.bool true)) (.tmp 20)),
 .mk (some 22) none (.mv (.tmp 21)),
 .mk (some 23) (some (22,false)) (.fld 1 (.tmp 1)),
 .mk (some 24) (some (22,false)) (.load false 1 (.tmp 23)),
 .mk (some 25) (some (22,false))
 (.ibin .gtr (.tmp 24) (.const (.int .i64 10))),
 .mk (some 26) none (.pick (.tmp 22) (.const (.bool true)) (.tmp 25)),
 .mk (some 27) none (.mv (.tmp 26)),
 .mk (some 28) (some (27,false)) (.fld 2 (.tmp 1)),
 .mk (some 29) (some (27,false)) (.load false 1 (.tmp 28)),
 .mk (some 30) (some (27,false))
 (.ibin .lss (.tmp 29) (.const (.int .i64 0))),
 .mk (some 31) none (.pick (.tmp 27) (.const (.bool true)) (.tmp 30)),
 .mk (some 32) none (.mv (.tmp 31)),
 .mk (some 33) (some (32,false)) (.fld 2 (.tmp 1)),
 .mk (some 34) (some (32,false)) (.load false 1 (.tmp 33)),
 .mk (some 35) (some (32,false)) (.fld 1 (.tmp 1)),
 .mk (some 36) (some (32,false)) (.load false 1 (.tmp 35)),
 .mk (some 37) (some (32,false)) (.ibin .geq (.tmp 34) (.tmp 36)),
 .mk (some 38) none (.pick (.tmp 32) (.const (.bool true)) (.tmp 37))]
 [1,38])
 (.cond (.tmp 38)
 (.seq (.region [.mk (some 2) none (.mv (.const (.int .i64 1)))] [2])
 .ret)
 .skip))
 (.seq
 (.seq
 (.region
 [.mk (some 39) none (.fld 3 (.tmp 1)),
 .mk (some 40) none (.load false 1 (.tmp 39)),
 .mk (some 41) none (.len false (.tmp 40)),
 .mk (some 42) none (.ibin .gtr (.tmp 41) (.const (.int .i64 32)))]
 [1,42])
 (.cond (.tmp 42)
 (.seq (.region [.mk (some 2) none (.mv (.const (.int .i64 2)))] [2])
 .ret)
 .skip))
 (.seq
 (.seq
 (.region
 [.mk (some 43) none (.fld 3 (.tmp 1)),
 .mk (some 44) none (.load false 1 (.tmp 43)),
 .mk (some 45) none (.len false (.tmp 44)),
 .mk (some 46) none (.mv (.const (.int .i64 0)))]
 [1,44,45,46])
 (.block 0 (.loop S112_3 [46] [1,44,45])))
 (.seq (.region [.mk (some 2) none (.mv (.const (.int .i64 0)))] [2])
 .ret))))
def S112 : FnS := ⟨114,[(2,none)],S112_0⟩
theorem tr112 : trFn Try.prog 112 [1,4,6,8] [[1],[1,38],[2],[1,42],[2],[1,44,45,46],[46],[1,44,45],[1,44,45,46,47],[1,3,4,44,45,46],[1,3,4,44,45,46,60],[2],[1,3,4,44,45,46,64],[2],[1,3,4,44,45,46,66,67,68],[68],[1,3,4,44,45,46,66,67],[1,3,4,44,45,46,66,67,68,69],[1,3,4,6,44,45,46,66,67,68],[1,3,4,44,45,46,66,67,68,97],[2],[1,3,4,44,45,46,66,67,68],[1,4,44,45,46,102,103,104],[104],[1,4,44,45,46,102,103],[1,4,44,45,46,102,103,104,105],[1,4,8,44,45,46,102,103,104],[1,4,44,45,46,102,103,104,111],[2],[1,4,44,45,46,102,103,104],[1,44,45,46],[2]] = some S112 := by kernel_rfl
end Go.Proofs.Ytniobbepliknmaa.V
/- Grammars are checked: gram.Order, gram.Compare and gram.Check walked; no condition. -/
namespace Go.Proofs.Ytniobbepliknmaa.V
open Go
set_option linter.unusedVariables false
set_option linter.unusedSimpArgs false
attribute [local go_sem] e_seq e_region e_quiet e_join e_loop e_cond e_block e_exit e_ret e_skip e_fin e_kseq e_snrm e_sret e_sex e_bnrm e_bret e_bex e_rnrm e_rret e_res e_condC e_nil e_g e_mv g_mv e_pick g_pick pickC_eq e_ibin g_ibin ibinC_eq e_sbin g_sbin e_beq g_beq beqC_eq e_nilq g_nilq nilqC_sl nilqC_pt nilqC_mp e_un g_un unC_not unC_neg e_conv g_conv convC_eq e_fld g_fld fldC_ref fldC_ptr e_nilCheck g_nilCheck nilCheckC_ref nilCheckC_ptr nilCheckC_fun e_field g_field fieldC_eq e_len g_len lenC_sl lenC_str e_extract g_extract extractC_eq e_mkFunc e_build g_build e_idiv g_idiv idivC_eq e_ishift g_ishift ishiftC_eq e_idx g_idx e_idxA g_idxA e_load g_load e_loadB g_loadB atB_ref atB_v g_mkFunc loadC_ref loadC_ptr loadB_eq e_slc g_slc e_box boxC_loc boxC_esc e_alloc allocC_loc allocC_esc e_buildS e_store storeC_ref storeC_ptr storeB_eq e_append e_appz e_mk mkC_eq e_call callC_eq e_fn g_fn fnC_eq fnV_min' fnV_max' fnV_rune' e_q g_q e_a e_n g_call g_box g_alloc g_buildS g_store g_append g_mk g_a g_n g_dead e_dead e_callK e_drawn e_tree e_finJ e_tk e_tfin e_tno e_nbt_q e_nbt_qn e_nbt_a e_nbt_an e_nbt_fin e_drawnB e_bxb_nil e_bxb e_stB_none e_stB_some boxSt_store bs_mv bs_pick bs_ibin bs_idiv bs_ishift bs_sbin bs_beq bs_nilq bs_un bs_conv bs_box bs_alloc bs_build bs_buildS bs_load bs_fld bs_nilCheck bs_idx bs_idxA bs_field bs_slc bs_len bs_append bs_appz bs_mk bs_call bs_extract bs_mkFunc bs_fn bs_q bs_a bs_n bs_loadB bs_dead isBox_box e_early_nil e_early_t e_early_f e_nob_nil e_nob_none e_nob_some isBox_dead isBox_v isBox_ref e_dnil e_dk e_ek e_finB vcOps_vc1 e_dcons e_tq e_ekt e_tearly e_talt e_dearly look_nil look_c proj_nil proj_c looks_nil looks_c zip_nil zip_c val_tmp val_const val_func slv_v slv_box slv_ref slot_tmp slot_const slot_func slotL_v slotL_box slotL_ref put_some put_none updBox_c boxSet_box gd_eq slotVals_nil slotVals_c slotVals_b boxV_box boxOn_box slotsOn_nil slotsOn_c slotsOn_b resV_one resV_two vals_nil vals_c allOn_nil allOn_c partOn_nil partOn_c partVals_nil partVals_c fits_nil fits_c fillL_nil fillL_c mkv_one mkv_agg cellsV_agg cellsV_int cellsV_bool cellsV_slice cellsV_string cellsV_pointer cellsV_func cellsV_nilf cellsV_map one'_nil one'_c oc_int oc_bool oc_slice oc_string oc_pointer oc_func oc_nilf oc_map setC_eq iv_add iv_sub iv_mul iv_eql iv_neq iv_lss iv_leq iv_gtr iv_geq iok_add iok_sub iok_mul iok_eql iok_neq iok_lss iok_leq iok_gtr iok_geq pickV_bool args0_nil args0_c bnd_none bnd_some imp_bt imp_bf imp_ebt imp_ebf imp_eb1 imp_np imp_pp beq_tt beq_tf beq_ft beq_ff cond_or cond_and e_round e_meet Int.le_refl Int.toNat_zero decide_true decide_false Bool.or_false Bool.false_or Bool.true_or Bool.or_true Bool.and_false Bool.false_and Bool.bne_false Bool.bne_true beq_iff_eq Int.cast_ofNat_Int not_false_eq_true not_true_eq_false false_and and_false false_implies true_implies true_and and_true Bool.true_and Bool.and_true Bool.not_true Bool.not_false forall_const implies_true List.take_zero List.drop_zero List.take_succ_cons List.drop_succ_cons List.take_nil List.drop_nil List.length_cons List.length_nil List.nil_append List.append_nil List.cons_append Int.toNat_natCast decide_eq_true_eq decide_eq_false_iff_not cond_true cond_false and_self List.getElem?_cons_zero List.getElem?_cons_succ List.set_cons_zero List.set_cons_succ Option.some.injEq exists_eq_left' Nat.zero_add Nat.add_zero Nat.mul_one imp_self true_or or_true or_false false_or Bool.or_eq_true Bool.or_eq_false_iff Bool.and_eq_true Bool.and_eq_false_iff Bool.not_eq_true' Bool.not_eq_false'

def symC (a b : Sy) : Int := if a.t = true ∧ b.t = false then -1 else if a.t = false ∧ b.t = true then 1 else cmpI a.n b.n
def symsC : List Sy → List Sy → Int
  | [], [] => 0
  | [], _ :: _ => -1
  | _ :: _, [] => 1
  | a :: r, b :: s => if symC a b = 0 then symsC r s else symC a b
def ruleC (a b : Ru) : Int := if cmpI a.l b.l = 0 then symsC a.r b.r else cmpI a.l b.l
theorem cmpI_zero {a b : Int} : cmpI a b = 0 ↔ a = b := by
  unfold cmpI
  constructor
  · intro h
    split at h
    · omega
    · split at h <;> omega
  · rintro rfl
    simp
theorem symC_zero {a b : Sy} : symC a b = 0 ↔ a = b := by
  obtain ⟨t, n⟩ := a
  obtain ⟨t', n'⟩ := b
  unfold symC
  cases t <;> cases t' <;> simp [cmpI_zero]
theorem symsC_zero : ∀ {a b : List Sy}, symsC a b = 0 ↔ a = b
  | [], [] => by simp [symsC]
  | [], _ :: _ => by simp [symsC]
  | _ :: _, [] => by simp [symsC]
  | a :: r, b :: s => by
    simp only [symsC, List.cons.injEq]
    by_cases h : symC a b = 0
    · rw [if_pos h, symsC_zero (a := r), symC_zero] at *
      exact ⟨fun q => ⟨h, q⟩, fun q => q.2⟩
    · rw [if_neg h]
      exact ⟨fun q => absurd q h, fun q => absurd (symC_zero.2 q.1) h⟩
theorem ruleC_zero {a b : Ru} : ruleC a b = 0 ↔ a = b := by
  obtain ⟨l, r⟩ := a
  obtain ⟨l', r'⟩ := b
  unfold ruleC
  by_cases h : cmpI l l' = 0
  · rw [if_pos h, symsC_zero]
    simp only [Ru.mk.injEq, cmpI_zero.1 h, true_and]
  · simp only [if_neg h, Ru.mk.injEq]
    exact ⟨fun q => absurd q h, fun q => absurd (cmpI_zero.2 q.1) h⟩

theorem gram_order {Γr : Ctx} (a b : Sy) : Ret Try.prog 203 [.agg #[.bool a.t, .int .i64 a.n], .agg #[.bool b.t, .int .i64 b.n]] Γr [] (fun v Γ => Γ = [] ∧ v = .int .i64 (symC a b)) := by
  generalize hR : (fun (v : Value) (Γ : Ctx) => Γ = [] ∧ _) = R
  refine ret_of_vc tr203 (Nat.le_of_ble_eq_true rfl) ?_
  obtain ⟨t, n⟩ := a
  obtain ⟨t', n'⟩ := b
  cases t <;> cases t'
  all_goals
    simp -implicitDefEqProofs only [S203, S203_0, go_sem, Nat.reduceBEq, Nat.reduceAdd, Nat.reduceSub, Nat.reduceMul, Nat.reduceLeDiff, reduceCtorEq, ↓reduceIte, Int.reduceLT, Int.reduceLE, Int.reduceEq, Int.reduceNe]
  · intro b b'
    refine CallVC.read (cmp_compare _ _) ?_
    rintro v Γ' ⟨rfl, rfl⟩
    simp -implicitDefEqProofs only [go_sem, Nat.reduceBEq, Nat.reduceAdd, Nat.reduceSub, Nat.reduceMul, Nat.reduceLeDiff, reduceCtorEq, ↓reduceIte, Int.reduceLT, Int.reduceLE, Int.reduceEq, Int.reduceNe]
    refine Up.here ?_
    subst hR
    exact ⟨rfl, rfl⟩
  · refine Up.here ?_
    subst hR
    exact ⟨rfl, rfl⟩
  · refine Up.here ?_
    subst hR
    exact ⟨rfl, rfl⟩
  · intro b b'
    refine CallVC.read (cmp_compare _ _) ?_
    rintro v Γ' ⟨rfl, rfl⟩
    simp -implicitDefEqProofs only [go_sem, Nat.reduceBEq, Nat.reduceAdd, Nat.reduceSub, Nat.reduceMul, Nat.reduceLeDiff, reduceCtorEq, ↓reduceIte, Int.reduceLT, Int.reduceLE, Int.reduceEq, Int.reduceNe]
    refine Up.here ?_
    subst hR
    exact ⟨rfl, rfl⟩

theorem compare_syms {Γr : Ctx} {A B : Option Addr} {c d : Nat} {xs ys : List Sy} (hx : SlOk (lk Γr) A c xs) (hy : SlOk (lk Γr) B d ys) :
    Ret Try.prog 202 [.slice A xs.length c, .slice B ys.length d, .func (.func 203) #[] #[]] Γr [] (fun v Γ => Γ = [] ∧ v = .int .i64 (symsC xs ys)) := by
  generalize hR : (fun (v : Value) (Γ : Ctx) => Γ = [] ∧ _) = R
  refine ret_of_vc tr202 (Nat.le_of_ble_eq_true rfl) ?_
  have h1 := hx.short
  have h2 := hy.short
  simp -implicitDefEqProofs only [S202, S202_0, go_sem, Nat.reduceBEq, Nat.reduceAdd, Nat.reduceSub, Nat.reduceMul, Nat.reduceLeDiff, reduceCtorEq, ↓reduceIte, Int.reduceLT, Int.reduceLE, Int.reduceEq, Int.reduceNe]
  refine s_loop (fun f vs Γ => Γ = [] ∧ ∃ k : Nat, vs = [.v true (.int .i64 k)] ∧ k + f = xs.length ∧ k ≤ ys.length ∧ symsC xs ys = symsC (xs.drop k) (ys.drop k)) xs.length (Up.here ⟨rfl, 0, rfl, by omega, by omega, by simp⟩) ?_
  rintro f vs Γ ⟨rfl, k, rfl, hkf, hky, he⟩
  simp -implicitDefEqProofs only [S202_1, go_sem, Nat.reduceBEq, Nat.reduceAdd, Nat.reduceSub, Nat.reduceMul, Nat.reduceLeDiff, reduceCtorEq, ↓reduceIte, Int.reduceLT, Int.reduceLE, Int.reduceEq, Int.reduceNe]
  refine ⟨fun hlt => ?_, fun hge => ?_⟩
  · have hk : k < xs.length := by omega
    obtain ⟨b, o, hA, hc1⟩ := hx.sy hk
    refine s_idx hA (by omega) (by omega) ?_
    simp -implicitDefEqProofs only [go_sem, Nat.reduceBEq, Nat.reduceAdd, Nat.reduceSub, Nat.reduceMul, Nat.reduceLeDiff, reduceCtorEq, ↓reduceIte, Int.reduceLT, Int.reduceLE, Int.reduceEq, Int.reduceNe]
    refine s_ld0 (hc1 _ (Mem.le.refl _)) (by simp) (by simp) ?_
    simp -implicitDefEqProofs only [go_sem, Nat.reduceBEq, Nat.reduceAdd, Nat.reduceSub, Nat.reduceMul, Nat.reduceLeDiff, reduceCtorEq, ↓reduceIte, Int.reduceLT, Int.reduceLE, Int.reduceEq, Int.reduceNe]
    rw [List.drop_eq_getElem_cons hk] at he
    intro b1
    refine ⟨fun hle => Up.here ?_, fun hlt2 => ?_⟩
    · have : ys.drop k = [] := List.drop_eq_nil_of_le (by omega)
      subst hR
      refine ⟨rfl, ?_⟩
      rw [he, this]
      rfl
    · have hk' : k < ys.length := by omega
      obtain ⟨b', o', hB, hc2⟩ := hy.sy hk'
      refine s_idx hB (by omega) (by omega) ?_
      simp -implicitDefEqProofs only [go_sem, Nat.reduceBEq, Nat.reduceAdd, Nat.reduceSub, Nat.reduceMul, Nat.reduceLeDiff, reduceCtorEq, ↓reduceIte, Int.reduceLT, Int.reduceLE, Int.reduceEq, Int.reduceNe]
      refine s_ld0 (hc2 _ (Mem.le.refl _)) (by simp) (by simp) ?_
      simp -implicitDefEqProofs only [go_sem, Nat.reduceBEq, Nat.reduceAdd, Nat.reduceSub, Nat.reduceMul, Nat.reduceLeDiff, reduceCtorEq, ↓reduceIte, Int.reduceLT, Int.reduceLE, Int.reduceEq, Int.reduceNe]
      intro b2
      refine CallVC.read (gram_order _ _) ?_
      rintro v Γ' ⟨rfl, rfl⟩
      rw [List.drop_eq_getElem_cons hk', symsC] at he
      simp -implicitDefEqProofs only [go_sem, Nat.reduceBEq, Nat.reduceAdd, Nat.reduceSub, Nat.reduceMul, Nat.reduceLeDiff, reduceCtorEq, ↓reduceIte, Int.reduceLT, Int.reduceLE, Int.reduceEq, Int.reduceNe]
      refine ⟨fun hne => Up.here ?_, fun heq => ?_⟩
      · rw [if_neg hne] at he
        subst hR
        exact ⟨rfl, by rw [he]⟩
      · rw [if_pos heq] at he
        simp (disch := omega) only [wrap_id]
        exact ⟨f - 1, by omega, Up.here ⟨rfl, k + 1, rfl, by omega, by omega, he⟩⟩
  · have hk : k = xs.length := by omega
    rw [hk, List.drop_length] at he
    subst hR
    refine ⟨fun h => Up.here ⟨rfl, ?_⟩, fun h => Up.here ⟨rfl, ?_⟩⟩
    · rw [he, List.drop_eq_getElem_cons (by omega)]
      rfl
    · rw [he, List.drop_eq_nil_of_le (by omega)]
      rfl

theorem gram_compare {Γr : Ctx} {a b : Ru} {A B : Option Addr} {c d : Nat} (hx : SlOk (lk Γr) A c a.r) (hy : SlOk (lk Γr) B d b.r) :
    Ret Try.prog 172 [.agg #[.int .i64 a.l, .slice A a.r.length c], .agg #[.int .i64 b.l, .slice B b.r.length d]] Γr [] (fun v Γ => Γ = [] ∧ v = .int .i64 (ruleC a b)) := by
  generalize hR : (fun (v : Value) (Γ : Ctx) => Γ = [] ∧ _) = R
  refine ret_of_vc tr172 (Nat.le_of_ble_eq_true rfl) ?_
  simp -implicitDefEqProofs only [S172, S172_0, go_sem, Nat.reduceBEq, Nat.reduceAdd, Nat.reduceSub, Nat.reduceMul, Nat.reduceLeDiff, reduceCtorEq, ↓reduceIte, Int.reduceLT, Int.reduceLE, Int.reduceEq, Int.reduceNe]
  intro b1 b2
  refine CallVC.read (cmp_compare _ _) ?_
  rintro v Γ' ⟨rfl, rfl⟩
  simp -implicitDefEqProofs only [go_sem, Nat.reduceBEq, Nat.reduceAdd, Nat.reduceSub, Nat.reduceMul, Nat.reduceLeDiff, reduceCtorEq, ↓reduceIte, Int.reduceLT, Int.reduceLE, Int.reduceEq, Int.reduceNe]
  refine ⟨fun hne => Up.here ?_, fun heq => ?_⟩
  · subst hR
    exact ⟨rfl, by rw [ruleC, if_neg hne]⟩
  · refine CallVC.read (compare_syms hx hy) ?_
    rintro v Γ' ⟨rfl, rfl⟩
    simp -implicitDefEqProofs only [go_sem, Nat.reduceBEq, Nat.reduceAdd, Nat.reduceSub, Nat.reduceMul, Nat.reduceLeDiff, reduceCtorEq, ↓reduceIte, Int.reduceLT, Int.reduceLE, Int.reduceEq, Int.reduceNe]
    refine Up.here ?_
    subst hR
    exact ⟨rfl, by rw [ruleC, if_pos heq]⟩

/-- a symbol that is none of the grammar -/
def badSy (ts ns : Int) (s : Sy) : Bool := decide (s.n < 0) || (s.t && decide (ts ≤ s.n)) || (!s.t && decide (ns ≤ s.n))
/-- the fault of rule k: the errors 3, 2, 3, 6, or none -/
def faultAt (g : Gr) (k : Nat) (r : Ru) : Int :=
  if r.l < 0 ∨ g.ns ≤ r.l then 3 else if 4 < r.r.length then 2 else if r.r.any (badSy g.ts g.ns) = true then 3 else if r ∈ g.rs.take k then 6 else 0
def ckR (g : Gr) : Nat → Int
  | 0 => 0
  | k + 1 => if ckR g k ≠ 0 then ckR g k else match g.rs[k]? with | some r => faultAt g k r | none => 0
def badHead (g : Gr) : Prop := g.ts < 1 ∨ 8 < g.ts ∨ g.ns < 1 ∨ 10 < g.ns ∨ g.st < 0 ∨ g.ns ≤ g.st
instance (g : Gr) : Decidable (badHead g) := by unfold badHead; infer_instance
def ckF (g : Gr) : Int := if badHead g then 1 else if 32 < g.rs.length then 2 else ckR g g.rs.length
theorem ckR_stays {g : Gr} {k : Nat} (h : ckR g k ≠ 0) : ∀ {m : Nat}, k ≤ m → ckR g m = ckR g k
  | m, hm => by
    induction m with
    | zero => have : k = 0 := by omega
              subst this; rfl
    | succ m ih =>
      by_cases e : k = m + 1
      · subst e; rfl
      · have := ih (by omega)
        rw [ckR, if_pos (by rw [this]; exact h), this]
theorem ckR_step {g : Gr} {k : Nat} (hk : k < g.rs.length) (h : ckR g k = 0) : ckR g (k + 1) = faultAt g k g.rs[k] := by
  rw [ckR, if_neg (by simp [h]), List.getElem?_eq_getElem hk]
theorem ckR_fault {g : Gr} {k : Nat} (hk : k < g.rs.length) (h : ckR g k = 0) (hf : faultAt g k g.rs[k] ≠ 0) : ckR g g.rs.length = faultAt g k g.rs[k] := by
  have := ckR_step hk h
  rw [← this] at hf ⊢
  exact ckR_stays hf (by omega)

theorem gram_check {Γr : Ctx} {g : Gr} {A : Option Addr} {c : Nat} (hx : SlOk (lk Γr) A c g.rs) :
    Ret Try.prog 112 [.agg #[.int .i64 g.ts, .int .i64 g.ns, .int .i64 g.st, .slice A g.rs.length c]] Γr [] (fun v Γ => Γ = [] ∧ v = .int .i64 (ckF g)) := by
  generalize hR : (fun (v : Value) (Γ : Ctx) => Γ = [] ∧ _) = R
  refine ret_of_vc tr112 (Nat.le_of_ble_eq_true rfl) ?_
  simp -implicitDefEqProofs only [S112, S112_0, go_sem, Nat.reduceBEq, Nat.reduceAdd, Nat.reduceSub, Nat.reduceMul, Nat.reduceLeDiff, reduceCtorEq, ↓reduceIte, Int.reduceLT, Int.reduceLE, Int.reduceEq, Int.reduceNe]
  intro b
  refine ⟨fun h => Up.here ?_, fun hok => ⟨fun h => Up.here ?_, fun h32 => ?_⟩⟩
  · subst hR
    exact ⟨rfl, by rw [ckF, if_pos (by unfold badHead; omega)]⟩
  · subst hR
    exact ⟨rfl, by rw [ckF, if_neg (by unfold badHead; omega), if_pos (by omega)]⟩
  have hck : ckF g = ckR g g.rs.length := by rw [ckF, if_neg (by unfold badHead; omega), if_neg (by omega)]
  refine s_loop (fun f vs Γ => Γ = [] ∧ ∃ k : Nat, vs = [.v true (.int .i64 k)] ∧ k + f = g.rs.length ∧ ckR g k = 0) g.rs.length (Up.here ⟨rfl, 0, rfl, by omega, rfl⟩) ?_
  rintro f vs Γ ⟨rfl, k, rfl, hkf, hck0⟩
  simp -implicitDefEqProofs only [S112_3, go_sem, Nat.reduceBEq, Nat.reduceAdd, Nat.reduceSub, Nat.reduceMul, Nat.reduceLeDiff, reduceCtorEq, ↓reduceIte, Int.reduceLT, Int.reduceLE, Int.reduceEq, Int.reduceNe]
  refine ⟨fun hlt => ?_, fun hge => ?_⟩
  · have hk : k < g.rs.length := by omega
    have hgen : ∀ x, faultAt g k g.rs[k] = x → x ≠ 0 → ckF g = x := fun x h1 h2 => by rw [hck, ckR_fault hk hck0 (by rw [h1]; exact h2), h1]
    have hzero : faultAt g k g.rs[k] = 0 → ckR g (k + 1) = 0 := fun h => by rw [ckR_step hk hck0, h]
    obtain ⟨b1, o1, hA, A', c', hr, hc1⟩ := hx.ru hk
    have hrl := hr.short
    refine s_idx hA (by omega) (by omega) ?_
    simp -implicitDefEqProofs only [go_sem, Nat.reduceBEq, Nat.reduceAdd, Nat.reduceSub, Nat.reduceMul, Nat.reduceLeDiff, reduceCtorEq, ↓reduceIte, Int.reduceLT, Int.reduceLE, Int.reduceEq, Int.reduceNe]
    refine s_ld0 (hc1 _ (Mem.le.refl _)) (by simp) (by simp) ?_
    simp -implicitDefEqProofs only [go_sem, Nat.reduceBEq, Nat.reduceAdd, Nat.reduceSub, Nat.reduceMul, Nat.reduceLeDiff, reduceCtorEq, ↓reduceIte, Int.reduceLT, Int.reduceLE, Int.reduceEq, Int.reduceNe]
    intro b2
    refine ⟨fun h => Up.here ?_, fun hl => ⟨fun h => Up.here ?_, fun h4 => ?_⟩⟩
    · subst hR
      exact ⟨rfl, by rw [hgen 3 (by rw [faultAt, if_pos h]) (by decide)]⟩
    · subst hR
      exact ⟨rfl, by rw [hgen 2 (by rw [faultAt, if_neg (by omega), if_pos (by omega)]) (by decide)]⟩
    have hf1 : faultAt g k g.rs[k] = if g.rs[k].r.any (badSy g.ts g.ns) = true then 3 else if g.rs[k] ∈ g.rs.take k then 6 else 0 := by
      rw [faultAt, if_neg (by omega), if_neg (by omega)]
    refine s_loop (fun f' vs Γ => Γ = [] ∧ ∃ j : Nat, vs = [.v true (.int .i64 j)] ∧ j + f' = g.rs[k].r.length ∧ ∀ (i : Nat) (h : i < g.rs[k].r.length), i < j → badSy g.ts g.ns g.rs[k].r[i] = false) g.rs[k].r.length (Up.here ⟨rfl, 0, rfl, by omega, by intro i _ h; omega⟩) ?_
    rintro f' vs Γ ⟨rfl, j, rfl, hjf, hno⟩
    simp -implicitDefEqProofs only [S112_1, go_sem, Nat.reduceBEq, Nat.reduceAdd, Nat.reduceSub, Nat.reduceMul, Nat.reduceLeDiff, reduceCtorEq, ↓reduceIte, Int.reduceLT, Int.reduceLE, Int.reduceEq, Int.reduceNe]
    refine ⟨fun hlt => ?_, fun hge => ?_⟩
    · have hj : j < g.rs[k].r.length := by omega
      obtain ⟨b3, o3, hA3, hc3⟩ := hr.sy hj
      refine s_idx hA3 (by omega) (by omega) ?_
      simp -implicitDefEqProofs only [go_sem, Nat.reduceBEq, Nat.reduceAdd, Nat.reduceSub, Nat.reduceMul, Nat.reduceLeDiff, reduceCtorEq, ↓reduceIte, Int.reduceLT, Int.reduceLE, Int.reduceEq, Int.reduceNe]
      refine s_ld0 (hc3 _ (Mem.le.refl _)) (by simp) (by simp) ?_
      simp -implicitDefEqProofs only [go_sem, Nat.reduceBEq, Nat.reduceAdd, Nat.reduceSub, Nat.reduceMul, Nat.reduceLeDiff, reduceCtorEq, ↓reduceIte, Int.reduceLT, Int.reduceLE, Int.reduceEq, Int.reduceNe]
      simp (disch := omega) only [wrap_id]
      refine ⟨fun h1 h2 => ⟨h1, h2⟩, fun h1 h2 => ⟨h1, h2⟩, fun h => Up.here ?_, fun h => ?_⟩
      · have hb : g.rs[k].r.any (badSy g.ts g.ns) = true := List.any_eq_true.2 ⟨g.rs[k].r[j], List.getElem_mem hj, by
          simp only [badSy, Bool.or_eq_true, Bool.and_eq_true, decide_eq_true_eq, Bool.not_eq_true']; exact h⟩
        subst hR
        exact ⟨rfl, by rw [hgen 3 (by rw [hf1, if_pos hb]) (by decide)]⟩
      · exact ⟨f' - 1, by omega, Up.here ⟨rfl, j + 1, rfl, by omega, fun i hi hij => by
          by_cases e : i = j
          · subst e
            simp only [badSy, Bool.or_eq_false_iff, Bool.and_eq_false_iff, decide_eq_false_iff_not, Bool.not_eq_false']; exact h
          · exact hno i hi (by omega)⟩⟩
    have hnb : ¬ (g.rs[k].r.any (badSy g.ts g.ns) = true) := by
      intro h
      obtain ⟨x, hx, hb⟩ := List.any_eq_true.1 h
      obtain ⟨i, hi, rfl⟩ := List.getElem_of_mem hx
      rw [hno i hi (by omega)] at hb
      cases hb
    have hf2 : faultAt g k g.rs[k] = if g.rs[k] ∈ g.rs.take k then 6 else 0 := by rw [hf1, if_neg hnb]
    refine s_hi k (by simp -implicitDefEqProofs only [go_sem, Nat.reduceBEq, Nat.reduceAdd, Nat.reduceSub, Nat.reduceMul, Nat.reduceLeDiff, reduceCtorEq, ↓reduceIte, Int.reduceLT, Int.reduceLE, Int.reduceEq, Int.reduceNe]; exact ⟨_, rfl⟩) (by have := hx.cap; omega) ?_
    simp -implicitDefEqProofs only [go_sem, Nat.reduceBEq, Nat.reduceAdd, Nat.reduceSub, Nat.reduceMul, Nat.reduceLeDiff, reduceCtorEq, ↓reduceIte, Int.reduceLT, Int.reduceLE, Int.reduceEq, Int.reduceNe]
    refine s_loop (fun f' vs Γ => Γ = [] ∧ ∃ j : Nat, vs = [.v true (.int .i64 j)] ∧ j + f' = k ∧ ∀ (i : Nat) (h : i < g.rs.length), i < j → g.rs[i] ≠ g.rs[k]) k (Up.here ⟨rfl, 0, rfl, by omega, by intro i _ h; omega⟩) ?_
    rintro f' vs Γ ⟨rfl, j, rfl, hjf, hne⟩
    simp -implicitDefEqProofs only [S112_2, go_sem, Nat.reduceBEq, Nat.reduceAdd, Nat.reduceSub, Nat.reduceMul, Nat.reduceLeDiff, reduceCtorEq, ↓reduceIte, Int.reduceLT, Int.reduceLE, Int.reduceEq, Int.reduceNe]
    refine ⟨fun hlt => ?_, fun hge => ?_⟩
    · have hj : j < g.rs.length := by omega
      obtain ⟨b3, o3, hA3, A4, c4, hr4, hc3⟩ := hx.ru hj
      refine s_idx hA3 (by omega) (by omega) ?_
      simp -implicitDefEqProofs only [go_sem, Nat.reduceBEq, Nat.reduceAdd, Nat.reduceSub, Nat.reduceMul, Nat.reduceLeDiff, reduceCtorEq, ↓reduceIte, Int.reduceLT, Int.reduceLE, Int.reduceEq, Int.reduceNe]
      refine s_ld0 (hc3 _ (Mem.le.refl _)) (by simp) (by simp) ?_
      simp -implicitDefEqProofs only [go_sem, Nat.reduceBEq, Nat.reduceAdd, Nat.reduceSub, Nat.reduceMul, Nat.reduceLeDiff, reduceCtorEq, ↓reduceIte, Int.reduceLT, Int.reduceLE, Int.reduceEq, Int.reduceNe]
      intro b5
      refine CallVC.read (gram_compare hr4 hr) ?_
      rintro v Γ' ⟨rfl, rfl⟩
      simp -implicitDefEqProofs only [go_sem, Nat.reduceBEq, Nat.reduceAdd, Nat.reduceSub, Nat.reduceMul, Nat.reduceLeDiff, reduceCtorEq, ↓reduceIte, Int.reduceLT, Int.reduceLE, Int.reduceEq, Int.reduceNe]
      refine ⟨fun h => Up.here ?_, fun h => ?_⟩
      · have hin : g.rs[k] ∈ g.rs.take k := by
          rw [← ruleC_zero.1 h, List.mem_take_iff_getElem]
          exact ⟨j, by omega, rfl⟩
        subst hR
        exact ⟨rfl, by rw [hgen 6 (by rw [hf2, if_pos hin]) (by decide)]⟩
      · simp (disch := omega) only [wrap_id]
        exact ⟨f' - 1, by omega, Up.here ⟨rfl, j + 1, rfl, by omega, fun i hi hij => by
          by_cases e : i = j
          · subst e; exact fun q => h (ruleC_zero.2 q)
          · exact hne i hi (by omega)⟩⟩
    · have hin : ¬ g.rs[k] ∈ g.rs.take k := by
        rw [List.mem_take_iff_getElem]
        rintro ⟨i, hi, e⟩
        exact hne i (by omega) (by omega) e
      simp (disch := omega) only [wrap_id]
      exact ⟨f - 1, by omega, Up.here ⟨rfl, k + 1, rfl, by omega, hzero (by rw [hf2, if_neg hin])⟩⟩
  · have hk : k = g.rs.length := by omega
    subst hk
    refine Up.here ?_
    subst hR
    exact ⟨rfl, by rw [hck, hck0]⟩
end Go.Proofs.Ytniobbepliknmaa.V
/- Lengths of words: lens.sums walked; no condition. -/
namespace Go.Proofs.Ytniobbepliknmaa.V
open Go
set_option linter.unusedVariables false
set_option linter.unusedSimpArgs false
attribute [local go_sem] e_seq e_region e_quiet e_join e_loop e_cond e_block e_exit e_ret e_skip e_fin e_kseq e_snrm e_sret e_sex e_bnrm e_bret e_bex e_rnrm e_rret e_res e_condC e_nil e_g e_mv g_mv e_pick g_pick pickC_eq e_ibin g_ibin ibinC_eq e_sbin g_sbin e_beq g_beq beqC_eq e_nilq g_nilq nilqC_sl nilqC_pt nilqC_mp e_un g_un unC_not unC_neg e_conv g_conv convC_eq e_fld g_fld fldC_ref fldC_ptr e_nilCheck g_nilCheck nilCheckC_ref nilCheckC_ptr nilCheckC_fun e_field g_field fieldC_eq e_len g_len lenC_sl lenC_str e_extract g_extract extractC_eq e_mkFunc e_build g_build e_idiv g_idiv idivC_eq e_ishift g_ishift ishiftC_eq e_idx g_idx e_idxA g_idxA e_load g_load e_loadB g_loadB atB_ref atB_v g_mkFunc loadC_ref loadC_ptr loadB_eq e_slc g_slc e_box boxC_loc boxC_esc e_alloc allocC_loc allocC_esc e_buildS e_store storeC_ref storeC_ptr storeB_eq e_append e_appz e_mk mkC_eq e_call callC_eq e_fn g_fn fnC_eq fnV_min' fnV_max' fnV_rune' e_q g_q e_a e_n g_call g_box g_alloc g_buildS g_store g_append g_mk g_a g_n g_dead e_dead e_callK e_drawn e_tree e_finJ e_tk e_tfin e_tno e_nbt_q e_nbt_qn e_nbt_a e_nbt_an e_nbt_fin e_drawnB e_bxb_nil e_bxb e_stB_none e_stB_some boxSt_store bs_mv bs_pick bs_ibin bs_idiv bs_ishift bs_sbin bs_beq bs_nilq bs_un bs_conv bs_box bs_alloc bs_build bs_buildS bs_load bs_fld bs_nilCheck bs_idx bs_idxA bs_field bs_slc bs_len bs_append bs_appz bs_mk bs_call bs_extract bs_mkFunc bs_fn bs_q bs_a bs_n bs_loadB bs_dead isBox_box e_early_nil e_early_t e_early_f e_nob_nil e_nob_none e_nob_some isBox_dead isBox_v isBox_ref e_dnil e_dk e_ek e_finB vcOps_vc1 e_dcons e_tq e_ekt e_tearly e_talt e_dearly look_nil look_c proj_nil proj_c looks_nil looks_c zip_nil zip_c val_tmp val_const val_func slv_v slv_box slv_ref slot_tmp slot_const slot_func slotL_v slotL_box slotL_ref put_some put_none updBox_c boxSet_box gd_eq slotVals_nil slotVals_c slotVals_b boxV_box boxOn_box slotsOn_nil slotsOn_c slotsOn_b resV_one resV_two vals_nil vals_c allOn_nil allOn_c partOn_nil partOn_c partVals_nil partVals_c fits_nil fits_c fillL_nil fillL_c mkv_one mkv_agg cellsV_agg cellsV_int cellsV_bool cellsV_slice cellsV_string cellsV_pointer cellsV_func cellsV_nilf cellsV_map one'_nil one'_c oc_int oc_bool oc_slice oc_string oc_pointer oc_func oc_nilf oc_map setC_eq iv_add iv_sub iv_mul iv_eql iv_neq iv_lss iv_leq iv_gtr iv_geq iok_add iok_sub iok_mul iok_eql iok_neq iok_lss iok_leq iok_gtr iok_geq pickV_bool args0_nil args0_c bnd_none bnd_some imp_bt imp_bf imp_ebt imp_ebf imp_eb1 imp_np imp_pp beq_tt beq_tf beq_ft beq_ff cond_or cond_and e_round e_meet Int.le_refl Int.toNat_zero decide_true decide_false Bool.or_false Bool.false_or Bool.true_or Bool.or_true Bool.and_false Bool.false_and Bool.bne_false Bool.bne_true beq_iff_eq Int.cast_ofNat_Int not_false_eq_true not_true_eq_false false_and and_false false_implies true_implies true_and and_true Bool.true_and Bool.and_true Bool.not_true Bool.not_false forall_const implies_true List.take_zero List.drop_zero List.take_succ_cons List.drop_succ_cons List.take_nil List.drop_nil List.length_cons List.length_nil List.nil_append List.append_nil List.cons_append Int.toNat_natCast decide_eq_true_eq decide_eq_false_iff_not cond_true cond_false and_self List.getElem?_cons_zero List.getElem?_cons_succ List.set_cons_zero List.set_cons_succ Option.some.injEq exists_eq_left' Nat.zero_add Nat.add_zero Nat.mul_one imp_self true_or or_true or_false false_or Bool.or_eq_true Bool.or_eq_false_iff Bool.and_eq_true Bool.and_eq_false_iff Bool.not_eq_true' Bool.not_eq_false'

/-- a row that tells which -/
def Tells (n : Nat) (xs : List Bool) (p : Nat → Prop) : Prop := xs.length = n + 1 ∧ ∀ m (h : m < xs.length), xs[m] = true ↔ p m
theorem Tells.congr {n : Nat} {xs : List Bool} {p q : Nat → Prop} (h : Tells n xs p) (hq : ∀ m, m ≤ n → (p m ↔ q m)) : Tells n xs q := ⟨h.1, fun m hm => (h.2 m hm).trans (hq m (by have := h.1; omega))⟩
theorem Tells.set {n : Nat} {xs : List Bool} {p q : Nat → Prop} (h : Tells n xs p) {i : Nat} (hi : i < xs.length) {x : Bool} (hx : x = true ↔ q i) (hq : ∀ m, m ≠ i → (p m ↔ q m)) : Tells n (xs.set i x) q := by
  refine ⟨by simpa using h.1, fun m hm => ?_⟩
  rw [List.getElem_set]
  split
  · rename_i e; subst e; exact hx
  · rename_i e; exact (h.2 m (by simpa using hm)).trans (hq m fun q => e q.symm)

theorem Arr.mono {α : Type} [Sc α] {g g' : PH} {b : Nat} {T : TypeId} {xs : List α} (h : Arr g b T xs) (hl : Mem.le (lk [g]) (lk [g'])) : Arr g' b T xs := lk_one.1 (hl _ _ (lk_one.2 h))
theorem Arr.bool {g : PH} {b : Nat} {T : TypeId} {xs : List Bool} (h : Arr g b T xs) {i : Nat} (hi : i < xs.length) {Γ : Ctx} (hg : g ∈ Γ) : Cells Γ b i [.bool xs[i]] := h.cell hi hg
end Go.Proofs.Ytniobbepliknmaa.V
/- Lengths of words: the plain law; no condition. -/
namespace Go.Proofs.Ytniobbepliknmaa.V
open Go
set_option linter.unusedVariables false
set_option linter.unusedSimpArgs false

/-- a grammar that is accepted -/
structure VG (g : Gr) : Prop where
  ts : 1 ≤ g.ts ∧ g.ts ≤ 8
  ns : 1 ≤ g.ns ∧ g.ns ≤ 10
  st : 0 ≤ g.st ∧ g.st < g.ns
  len : g.rs.length ≤ 32
  left : ∀ r ∈ g.rs, 0 ≤ r.l ∧ r.l < g.ns
  right : ∀ r ∈ g.rs, r.r.length ≤ 4
  sym : ∀ r ∈ g.rs, ∀ s ∈ r.r, 0 ≤ s.n ∧ (s.t = true → s.n < g.ts) ∧ (s.t = false → s.n < g.ns)
theorem ckF_ok {g : Gr} (h : ckF g = 0) : VG g := by
  unfold ckF at h
  split at h
  · cases h
  rename_i hb
  split at h
  · cases h
  rename_i h32
  unfold badHead at hb
  have hf : ∀ k (hk : k < g.rs.length), faultAt g k g.rs[k] = 0 := by
    intro k hk
    have h0 : ∀ m, m ≤ g.rs.length → ckR g m = 0 := by
      intro m hm
      apply Classical.byContradiction
      intro hn
      exact hn (by rw [← ckR_stays hn hm, h])
    rw [← ckR_step hk (h0 k (by omega))]
    exact h0 (k + 1) hk
  have hr : ∀ r ∈ g.rs, (0 ≤ r.l ∧ r.l < g.ns) ∧ r.r.length ≤ 4 ∧ ∀ s ∈ r.r, badSy g.ts g.ns s = false := by
    intro r hr
    obtain ⟨k, hk, rfl⟩ := List.getElem_of_mem hr
    have h1 := hf k hk
    unfold faultAt at h1
    split at h1
    · cases h1
    split at h1
    · cases h1
    split at h1
    · cases h1
    rename_i q1 q2 q3
    refine ⟨by omega, by omega, fun s hs => ?_⟩
    cases hb : badSy g.ts g.ns s with
    | false => rfl
    | true => exact absurd (List.any_eq_true.2 ⟨s, hs, hb⟩) q3
  refine ⟨by omega, by omega, by omega, by omega, fun r h => (hr r h).1, fun r h => (hr r h).2.1, fun r h s hs => ?_⟩
  have := (hr r h).2.2 s hs
  simp only [badSy, Bool.or_eq_false_iff, Bool.and_eq_false_iff, decide_eq_false_iff_not, Bool.not_eq_false'] at this
  obtain ⟨⟨h1, h2⟩, h3⟩ := this
  refine ⟨by omega, fun ht => ?_, fun ht => ?_⟩
  · rw [ht] at h2; simp at h2; exact h2
  · rw [ht] at h3; simp at h3; exact h3

/-- the lengths of words -/
inductive LenD (g : Gr) : List Sy → Nat → Prop
  | nil : LenD g [] 0
  | term {n : Int} {l : List Sy} {k : Nat} : LenD g l k → LenD g (⟨true, n⟩ :: l) (1 + k)
  | non {a : Int} {l : List Sy} {r : Ru} {j k : Nat} : r ∈ g.rs → r.l = a → LenD g r.r j → LenD g l k → LenD g (⟨false, a⟩ :: l) (j + k)
def HasD (g : Gr) (a : Int) (k : Nat) : Prop := ∃ r ∈ g.rs, r.l = a ∧ LenD g r.r k
/-- how much is told -/
def cntL (rows : List (List Bool)) : Nat := (rows.map (List.count true)).sum
theorem cntL_le : ∀ {rows : List (List Bool)} {m : Nat}, (∀ x ∈ rows, x.length = m) → cntL rows ≤ rows.length * m
  | [], m, _ => by simp [cntL]
  | x :: l, m, h => by
    have h1 := cntL_le (rows := l) (m := m) fun y hy => h y (by simp [hy])
    have h2 : x.count true ≤ m := by rw [← h x (by simp)]; exact List.count_le_length
    simp only [cntL, List.map_cons, List.sum_cons, List.length_cons, Nat.add_mul, Nat.one_mul] at h1 ⊢
    omega
theorem count_set : ∀ {x : List Bool} {k : Nat} (hk : k < x.length), x[k] = false → (x.set k true).count true = x.count true + 1
  | a :: x, 0, _, h => by simp at h; subst h; simp
  | a :: x, k + 1, hk, h => by
    have := count_set (x := x) (k := k) (by simpa using hk) (by simpa using h)
    simp only [List.set_cons_succ, List.count_cons, this]
    omega
theorem cntL_set : ∀ {rows : List (List Bool)} {a : Nat} (ha : a < rows.length) {y : List Bool}, y.count true = rows[a].count true + 1 → cntL (rows.set a y) = cntL rows + 1
  | x :: l, 0, _, y, h => by simp [cntL] at h ⊢; omega
  | x :: l, a + 1, ha, y, h => by
    have := cntL_set (rows := l) (a := a) (by simpa using ha) (by simpa using h)
    simp [cntL] at this ⊢
    omega
end Go.Proofs.Ytniobbepliknmaa.V
/- Components of a grammar: the plain law; no condition. -/
namespace Go.Proofs.Ytniobbepliknmaa.V
open Go
set_option linter.unusedVariables false
set_option linter.unusedSimpArgs false

/-- one nonterminal stands on a right side of another one -/
def Edg (g : Gr) (x y : Nat) : Prop := ∃ r ∈ g.rs, r.l = (x : Int) ∧ ∃ s ∈ r.r, s.t = false ∧ s.n = (y : Int)
inductive RT (E : Nat → Nat → Prop) : Nat → Nat → Prop
  | refl (a : Nat) : RT E a a
  | step {a b c : Nat} : RT E a b → E b c → RT E a c
theorem RT.trans {E : Nat → Nat → Prop} {a b c : Nat} (h : RT E a b) (h' : RT E b c) : RT E a c := by
  induction h' with
  | refl => exact h
  | step _ e ih => exact .step ih e
theorem Edg.lt {g : Gr} (V : VG g) {x y : Nat} (h : Edg g x y) : (x : Int) < g.ns ∧ (y : Int) < g.ns := by
  obtain ⟨r, hr, h1, s, hs, h2, h3⟩ := h
  have a1 := V.left r hr
  have a2 := (V.sym r hr s hs).2.2 h2
  omega
def Mut (g : Gr) (a b : Nat) : Prop := RT (Edg g) a b ∧ RT (Edg g) b a
theorem Mut.refl (g : Gr) (a : Nat) : Mut g a a := ⟨.refl a, .refl a⟩
theorem Mut.symm {g : Gr} {a b : Nat} (h : Mut g a b) : Mut g b a := ⟨h.2, h.1⟩
theorem Mut.trans {g : Gr} {a b c : Nat} (h : Mut g a b) (h' : Mut g b c) : Mut g a c := ⟨h.1.trans h'.1, h'.2.trans h.2⟩
/-! the kind of a component -/
/-! all components -/
/-! what lies under a nonterminal, round by round -/
def Und (g : Gr) (a : Nat) (m : List Int) : Prop := m.Nodup ∧ (a : Int) ∈ m ∧ ∀ x ∈ m, ∃ b : Nat, x = b ∧ RT (Edg g) a b
end Go.Proofs.Ytniobbepliknmaa.V
/- Components of a grammar: approx.kind, what lies under a nonterminal; no condition. -/
namespace Go.Proofs.Ytniobbepliknmaa.V
open Go
set_option linter.unusedVariables false
set_option linter.unusedSimpArgs false
attribute [local go_sem] e_seq e_region e_quiet e_join e_loop e_cond e_block e_exit e_ret e_skip e_fin e_kseq e_snrm e_sret e_sex e_bnrm e_bret e_bex e_rnrm e_rret e_res e_condC e_nil e_g e_mv g_mv e_pick g_pick pickC_eq e_ibin g_ibin ibinC_eq e_sbin g_sbin e_beq g_beq beqC_eq e_nilq g_nilq nilqC_sl nilqC_pt nilqC_mp e_un g_un unC_not unC_neg e_conv g_conv convC_eq e_fld g_fld fldC_ref fldC_ptr e_nilCheck g_nilCheck nilCheckC_ref nilCheckC_ptr nilCheckC_fun e_field g_field fieldC_eq e_len g_len lenC_sl lenC_str e_extract g_extract extractC_eq e_mkFunc e_build g_build e_idiv g_idiv idivC_eq e_ishift g_ishift ishiftC_eq e_idx g_idx e_idxA g_idxA e_load g_load e_loadB g_loadB atB_ref atB_v g_mkFunc loadC_ref loadC_ptr loadB_eq e_slc g_slc e_box boxC_loc boxC_esc e_alloc allocC_loc allocC_esc e_buildS e_store storeC_ref storeC_ptr storeB_eq e_append e_appz e_mk mkC_eq e_call callC_eq e_fn g_fn fnC_eq fnV_min' fnV_max' fnV_rune' e_q g_q e_a e_n g_call g_box g_alloc g_buildS g_store g_append g_mk g_a g_n g_dead e_dead e_callK e_drawn e_tree e_finJ e_tk e_tfin e_tno e_nbt_q e_nbt_qn e_nbt_a e_nbt_an e_nbt_fin e_drawnB e_bxb_nil e_bxb e_stB_none e_stB_some boxSt_store bs_mv bs_pick bs_ibin bs_idiv bs_ishift bs_sbin bs_beq bs_nilq bs_un bs_conv bs_box bs_alloc bs_build bs_buildS bs_load bs_fld bs_nilCheck bs_idx bs_idxA bs_field bs_slc bs_len bs_append bs_appz bs_mk bs_call bs_extract bs_mkFunc bs_fn bs_q bs_a bs_n bs_loadB bs_dead isBox_box e_early_nil e_early_t e_early_f e_nob_nil e_nob_none e_nob_some isBox_dead isBox_v isBox_ref e_dnil e_dk e_ek e_finB vcOps_vc1 e_dcons e_tq e_ekt e_tearly e_talt e_dearly look_nil look_c proj_nil proj_c looks_nil looks_c zip_nil zip_c val_tmp val_const val_func slv_v slv_box slv_ref slot_tmp slot_const slot_func slotL_v slotL_box slotL_ref put_some put_none updBox_c boxSet_box gd_eq slotVals_nil slotVals_c slotVals_b boxV_box boxOn_box slotsOn_nil slotsOn_c slotsOn_b resV_one resV_two vals_nil vals_c allOn_nil allOn_c partOn_nil partOn_c partVals_nil partVals_c fits_nil fits_c fillL_nil fillL_c mkv_one mkv_agg cellsV_agg cellsV_int cellsV_bool cellsV_slice cellsV_string cellsV_pointer cellsV_func cellsV_nilf cellsV_map one'_nil one'_c oc_int oc_bool oc_slice oc_string oc_pointer oc_func oc_nilf oc_map setC_eq iv_add iv_sub iv_mul iv_eql iv_neq iv_lss iv_leq iv_gtr iv_geq iok_add iok_sub iok_mul iok_eql iok_neq iok_lss iok_leq iok_gtr iok_geq pickV_bool args0_nil args0_c bnd_none bnd_some imp_bt imp_bf imp_ebt imp_ebf imp_eb1 imp_np imp_pp beq_tt beq_tf beq_ft beq_ff cond_or cond_and e_round e_meet Int.le_refl Int.toNat_zero decide_true decide_false Bool.or_false Bool.false_or Bool.true_or Bool.or_true Bool.and_false Bool.false_and Bool.bne_false Bool.bne_true beq_iff_eq Int.cast_ofNat_Int not_false_eq_true not_true_eq_false false_and and_false false_implies true_implies true_and and_true Bool.true_and Bool.and_true Bool.not_true Bool.not_false forall_const implies_true List.take_zero List.drop_zero List.take_succ_cons List.drop_succ_cons List.take_nil List.drop_nil List.length_cons List.length_nil List.nil_append List.append_nil List.cons_append Int.toNat_natCast decide_eq_true_eq decide_eq_false_iff_not cond_true cond_false and_self List.getElem?_cons_zero List.getElem?_cons_succ List.set_cons_zero List.set_cons_succ Option.some.injEq exists_eq_left' Nat.zero_add Nat.add_zero Nat.mul_one imp_self true_or or_true or_false false_or Bool.or_eq_true Bool.or_eq_false_iff Bool.and_eq_true Bool.and_eq_false_iff Bool.not_eq_true' Bool.not_eq_false'

def addS (l : List Int) (x : Int) : List Int := if x ∈ l then l else l ++ [x]
theorem addS_mem {l : List Int} {x y : Int} : y ∈ addS l x ↔ y ∈ l ∨ y = x := by
  unfold addS
  split
  · rename_i h
    exact ⟨.inl, fun q => q.elim id fun e => by rw [e]; exact h⟩
  · simp
theorem Und.add {g : Gr} {a : Nat} {m : List Int} (h : Und g a m) {r : Ru} (hr : r ∈ g.rs) (hl : r.l ∈ m) {s : Sy} (hs : s ∈ r.r) (ht : s.t = false) (hn : 0 ≤ s.n) : Und g a (addS m s.n) := by
  refine ⟨?_, addS_mem.2 (.inl h.2.1), fun x hx => ?_⟩
  · unfold addS
    split
    · exact h.1
    · rename_i q
      rw [List.nodup_append]
      refine ⟨h.1, by simp, ?_⟩
      rintro x hx y hy rfl
      simp at hy
      subst hy
      exact q hx
  · rcases addS_mem.1 hx with hx | rfl
    · exact h.2.2 x hx
    · obtain ⟨b, hb, hR⟩ := h.2.2 _ hl
      exact ⟨s.n.toNat, by omega, .step hR ⟨r, hr, hb, s, hs, ht, by omega⟩⟩
end Go.Proofs.Ytniobbepliknmaa.V
/- Components of a grammar: approx.Components walked; no condition. -/
namespace Go.Proofs.Ytniobbepliknmaa.V
open Go
set_option linter.unusedVariables false
set_option linter.unusedSimpArgs false
attribute [local go_sem] e_seq e_region e_quiet e_join e_loop e_cond e_block e_exit e_ret e_skip e_fin e_kseq e_snrm e_sret e_sex e_bnrm e_bret e_bex e_rnrm e_rret e_res e_condC e_nil e_g e_mv g_mv e_pick g_pick pickC_eq e_ibin g_ibin ibinC_eq e_sbin g_sbin e_beq g_beq beqC_eq e_nilq g_nilq nilqC_sl nilqC_pt nilqC_mp e_un g_un unC_not unC_neg e_conv g_conv convC_eq e_fld g_fld fldC_ref fldC_ptr e_nilCheck g_nilCheck nilCheckC_ref nilCheckC_ptr nilCheckC_fun e_field g_field fieldC_eq e_len g_len lenC_sl lenC_str e_extract g_extract extractC_eq e_mkFunc e_build g_build e_idiv g_idiv idivC_eq e_ishift g_ishift ishiftC_eq e_idx g_idx e_idxA g_idxA e_load g_load e_loadB g_loadB atB_ref atB_v g_mkFunc loadC_ref loadC_ptr loadB_eq e_slc g_slc e_box boxC_loc boxC_esc e_alloc allocC_loc allocC_esc e_buildS e_store storeC_ref storeC_ptr storeB_eq e_append e_appz e_mk mkC_eq e_call callC_eq e_fn g_fn fnC_eq fnV_min' fnV_max' fnV_rune' e_q g_q e_a e_n g_call g_box g_alloc g_buildS g_store g_append g_mk g_a g_n g_dead e_dead e_callK e_drawn e_tree e_finJ e_tk e_tfin e_tno e_nbt_q e_nbt_qn e_nbt_a e_nbt_an e_nbt_fin e_drawnB e_bxb_nil e_bxb e_stB_none e_stB_some boxSt_store bs_mv bs_pick bs_ibin bs_idiv bs_ishift bs_sbin bs_beq bs_nilq bs_un bs_conv bs_box bs_alloc bs_build bs_buildS bs_load bs_fld bs_nilCheck bs_idx bs_idxA bs_field bs_slc bs_len bs_append bs_appz bs_mk bs_call bs_extract bs_mkFunc bs_fn bs_q bs_a bs_n bs_loadB bs_dead isBox_box e_early_nil e_early_t e_early_f e_nob_nil e_nob_none e_nob_some isBox_dead isBox_v isBox_ref e_dnil e_dk e_ek e_finB vcOps_vc1 e_dcons e_tq e_ekt e_tearly e_talt e_dearly look_nil look_c proj_nil proj_c looks_nil looks_c zip_nil zip_c val_tmp val_const val_func slv_v slv_box slv_ref slot_tmp slot_const slot_func slotL_v slotL_box slotL_ref put_some put_none updBox_c boxSet_box gd_eq slotVals_nil slotVals_c slotVals_b boxV_box boxOn_box slotsOn_nil slotsOn_c slotsOn_b resV_one resV_two vals_nil vals_c allOn_nil allOn_c partOn_nil partOn_c partVals_nil partVals_c fits_nil fits_c fillL_nil fillL_c mkv_one mkv_agg cellsV_agg cellsV_int cellsV_bool cellsV_slice cellsV_string cellsV_pointer cellsV_func cellsV_nilf cellsV_map one'_nil one'_c oc_int oc_bool oc_slice oc_string oc_pointer oc_func oc_nilf oc_map setC_eq iv_add iv_sub iv_mul iv_eql iv_neq iv_lss iv_leq iv_gtr iv_geq iok_add iok_sub iok_mul iok_eql iok_neq iok_lss iok_leq iok_gtr iok_geq pickV_bool args0_nil args0_c bnd_none bnd_some imp_bt imp_bf imp_ebt imp_ebf imp_eb1 imp_np imp_pp beq_tt beq_tf beq_ft beq_ff cond_or cond_and e_round e_meet Int.le_refl Int.toNat_zero decide_true decide_false Bool.or_false Bool.false_or Bool.true_or Bool.or_true Bool.and_false Bool.false_and Bool.bne_false Bool.bne_true beq_iff_eq Int.cast_ofNat_Int not_false_eq_true not_true_eq_false false_and and_false false_implies true_implies true_and and_true Bool.true_and Bool.and_true Bool.not_true Bool.not_false forall_const implies_true List.take_zero List.drop_zero List.take_succ_cons List.drop_succ_cons List.take_nil List.drop_nil List.length_cons List.length_nil List.nil_append List.append_nil List.cons_append Int.toNat_natCast decide_eq_true_eq decide_eq_false_iff_not cond_true cond_false and_self List.getElem?_cons_zero List.getElem?_cons_succ List.set_cons_zero List.set_cons_succ Option.some.injEq exists_eq_left' Nat.zero_add Nat.add_zero Nat.mul_one imp_self true_or or_true or_false false_or Bool.or_eq_true Bool.or_eq_false_iff Bool.and_eq_true Bool.and_eq_false_iff Bool.not_eq_true' Bool.not_eq_false'

/-- rows[i] = make(..), and the row is looked at at once -/
theorem s_storeGc {P : Program} {Γr : Ctx} {r : List SOper} {φ : Fr} {Γ : Ctx} {K : Fr → Ctx → Prop} {α : Type} [Sc α] {g : PH} {b i ix k n : Nat} {T e : TypeId} {rows : List (List α)} (xs : List α) (hn : n = xs.length) (hg : Γ[ix]? = some g) (h : Grid g b T e rows) (hi : i < rows.length) (hl : xs.length ≤ 1000000)
    (hk : ∀ g', (∀ Γ : Ctx, g' ∈ Γ → Cells Γ b i [.slice (some ⟨k, 0, none⟩) n n]) → (∀ x2 G, Arr x2 k e xs → Disj x2 g' → Mem.le (lk [x2, g']) (lk [G]) → Grid G b T e (rows.set i xs)) → vcOps P Γr r φ (Γ.set ix g') K) : storeP P Γr r φ Γ K 1 b i (.slice (some ⟨k, 0, none⟩) n n) := by
  subst hn
  obtain ⟨ps, hB, hr⟩ := id h
  have hi' : i < ps.length := by subst hr; simpa using hi
  refine ⟨ix, g, _, T, hg, hB.out, by simp; omega, ?_⟩
  refine hk _ (fun Γ hg => ⟨_, hg, _, _, _, upd_self _ _ _, fun j hj => ?_⟩) fun x2 G hA hd hG => h.put hi k xs hl hB.out hA hd hG
  have : j = 0 := by simp at hj; exact hj
  subst this
  have h1 : (List.take i (List.map gcell ps)).length = i := by simp; omega
  simp [setC, cellsV, Value.cells, List.getElem?_append, h1]
def unit (n a : Nat) : List Bool := (List.replicate n false).set a true
/-- the first rows are made -/
def Begun (n k : Nat) (rows : List (List Bool)) : Prop := rows.length = n ∧ ∀ i, i < n → rows[i]? = some (if i < k then unit n i else [])
theorem Begun.next {n k : Nat} {rows : List (List Bool)} (h : Begun n k rows) (hk : k < n) : Begun n (k + 1) (rows.set k (unit n k)) := by
  refine ⟨by simp [h.1], fun i hi => ?_⟩
  rw [List.getElem?_set]
  by_cases e : k = i
  · subst e; simp [h.1, hk]
  · rw [if_neg e, h.2 i hi]
    have : (i < k + 1) = (i < k) := by rw [eq_iff_iff]; omega
    simp only [this]
theorem mset2_eq {n : Nat} {w : List (List Bool)} (h : Sq n w) {b c : Nat} (hb : b < w.length) (v : Bool) : mset2 w b c v = w.set b (w[b].set c v) := by
  simp [mset2, hb]
theorem pathK_cong {E F : Nat → Nat → Prop} (h : ∀ x y, E x y → F x y) {n a b : Nat} (hp : PathK E n a b) : PathK F n a b := by
  induction hp with
  | one e => exact .one (h _ _ e)
  | trans _ hm _ ih1 ih2 => exact .trans ih1 hm ih2
end Go.Proofs.Ytniobbepliknmaa.V
/- The text of parlance/census.rows[bool] as a statement (slots: 0 n, 1 k, 2 x, 3 n, 4 k, 5 x, 7 out, 8 i, 9 j); no condition. -/
namespace Go.Proofs.Ytniobbepliknmaa.V
open Go
def S184_1 : Stmt :=
 .seq
 (.region [.mk (some 28) none (.ibin .lss (.tmp 27) (.tmp 26))]
 [1,2,7,8,13,14,26,27,28])
 (.seq (.cond (.tmp 28) .skip (.exit 2))
 (.seq
 (.block 3
 (.seq
 (.region
 [.mk (some 29) none (.mv (.tmp 27)),.mk (some 9) none (.mv (.tmp 29))]
 [1,2,7,8,9,13,14,26,27])
 (.region
 [.mk (some 30) none (.mv (.tmp 7)),.mk (some 31) none (.mv (.tmp 8)),
 .mk (some 32) none (.idx 1 (.tmp 30) (.tmp 31)),
 .mk (some 33) none (.load false 1 (.tmp 32)),
 .mk (some 34) none (.mv (.tmp 9)),.mk (some 35) none (.mv (.tmp 2)),
 .mk (some 36) none (.idx 1 (.tmp 33) (.tmp 34)),
 .mk none none (.store 1 (.tmp 36) (.tmp 35))]
 [1,2,7,8,13,14,26,27])))
 (.region
 [.mk (some 37) none (.ibin .add (.tmp 27) (.const (.int .i64 1))),
 .mk (some 27) none (.mv (.tmp 37))]
 [1,2,7,8,13,14,26,27])))
def S184_2 : Stmt :=
 .seq
 (.region [.mk (some 15) none (.ibin .lss (.tmp 14) (.tmp 13))] [1,2,7,13,14,15])
 (.seq (.cond (.tmp 15) .skip (.exit 0))
 (.seq
 (.block 1
 (.seq
 (.region
 [.mk (some 16) none (.mv (.tmp 14)),.mk (some 8) none (.mv (.tmp 16))]
 [1,2,7,8,13,14])
 (.seq
 (.region
 [.mk (some 17) none (.mv (.tmp 7)),.mk (some 18) none (.mv (.tmp 8)),
 .mk (some 19) none (.mv (.tmp 1)),
 .mk (some 20) none (.mk 4 1 1 (.bool false) (.tmp 19) (.tmp 19)),
 .mk (some 21) none (.idx 1 (.tmp 17) (.tmp 18)),
 .mk none none (.store 1 (.tmp 21) (.tmp 20))]
 [1,2,7,8,13,14])
 (.seq
 (.region
 [.mk (some 22) none (.mv (.tmp 7)),.mk (some 23) none (.mv (.tmp 8)),
 .mk (some 24) none (.idx 1 (.tmp 22) (.tmp 23)),
 .mk (some 25) none (.load false 1 (.tmp 24)),
 .mk (some 26) none (.len false (.tmp 25)),
 .mk (some 27) none (.mv (.const (.int .i64 0)))]
 [1,2,7,8,13,14,26,27])
 (.block 2 (.loop S184_1 [27] [1,2,7,8,13,14,26]))))))
 (.region
 [.mk (some 38) none (.ibin .add (.tmp 14) (.const (.int .i64 1))),
 .mk (some 14) none (.mv (.tmp 38))]
 [1,2,7,13,14])))
def S184_0 : Stmt :=
 .seq (.region [.mk (some 6) none (.mv (.const (.slice none 0 0)))] [0,1,2])
 (.seq
 (.region
 [.mk (some 10) none (.mv (.tmp 0)),
 .mk (some 11) none (.mk 22 1 24 (.slice none 0 0) (.tmp 10) (.tmp 10)),
 .mk (some 7) none (.mv (.tmp 11))]
 [1,2,7])
 (.seq
 (.seq
 (.region
 [.mk (some 12) none (.mv (.tmp 7)),.mk (some 13) none (.len false (.tmp 12)),
 .mk (some 14) none (.mv (.const (.int .i64 0)))]
 [1,2,7,13,14])
 (.block 0 (.loop S184_2 [14] [1,2,7,13])))
 (.seq
 (.region
 [.mk (some 39) none (.mv (.tmp 7)),.mk (some 6) none (.mv (.tmp 39))] [6])
 .ret)))
def S184 : FnS := ⟨40,[(6,none)],S184_0⟩
theorem tr184 : trFn Try.prog 184 [] [[0,1,2],[1,2,7],[1,2,7,13,14],[14],[1,2,7,13],[1,2,7,13,14,15],[1,2,7,8,13,14],[1,2,7,8,13,14],[1,2,7,8,13,14,26,27],[27],[1,2,7,8,13,14,26],[1,2,7,8,13,14,26,27,28],[1,2,7,8,9,13,14,26,27],[1,2,7,8,13,14,26,27],[1,2,7,8,13,14,26,27],[1,2,7,13,14],[6]] = some S184 := by kernel_rfl
end Go.Proofs.Ytniobbepliknmaa.V
/- The text of parlance/census.rows[int] as a statement (slots: 0 n, 1 k, 2 x, 3 n, 4 k, 5 x, 7 out, 8 i, 9 j); no condition. -/
namespace Go.Proofs.Ytniobbepliknmaa.V
open Go
def S185_1 : Stmt :=
 .seq
 (.region [.mk (some 28) none (.ibin .lss (.tmp 27) (.tmp 26))]
 [1,2,7,8,13,14,26,27,28])
 (.seq (.cond (.tmp 28) .skip (.exit 2))
 (.seq
 (.block 3
 (.seq
 (.region
 [.mk (some 29) none (.mv (.tmp 27)),.mk (some 9) none (.mv (.tmp 29))]
 [1,2,7,8,9,13,14,26,27])
 (.region
 [.mk (some 30) none (.mv (.tmp 7)),.mk (some 31) none (.mv (.tmp 8)),
 .mk (some 32) none (.idx 1 (.tmp 30) (.tmp 31)),
 .mk (some 33) none (.load false 1 (.tmp 32)),
 .mk (some 34) none (.mv (.tmp 9)),.mk (some 35) none (.mv (.tmp 2)),
 .mk (some 36) none (.idx 1 (.tmp 33) (.tmp 34)),
 .mk none none (.store 1 (.tmp 36) (.tmp 35))]
 [1,2,7,8,13,14,26,27])))
 (.region
 [.mk (some 37) none (.ibin .add (.tmp 27) (.const (.int .i64 1))),
 .mk (some 27) none (.mv (.tmp 37))]
 [1,2,7,8,13,14,26,27])))
def S185_2 : Stmt :=
 .seq
 (.region [.mk (some 15) none (.ibin .lss (.tmp 14) (.tmp 13))] [1,2,7,13,14,15])
 (.seq (.cond (.tmp 15) .skip (.exit 0))
 (.seq
 (.block 1
 (.seq
 (.region
 [.mk (some 16) none (.mv (.tmp 14)),.mk (some 8) none (.mv (.tmp 16))]
 [1,2,7,8,13,14])
 (.seq
 (.region
 [.mk (some 17) none (.mv (.tmp 7)),.mk (some 18) none (.mv (.tmp 8)),
 .mk (some 19) none (.mv (.tmp 1)),
 .mk (some 20) none (.mk 3 1 8 (.int .i64 0) (.tmp 19) (.tmp 19)),
 .mk (some 21) none (.idx 1 (.tmp 17) (.tmp 18)),
 .mk none none (.store 1 (.tmp 21) (.tmp 20))]
 [1,2,7,8,13,14])
 (.seq
 (.region
 [.mk (some 22) none (.mv (.tmp 7)),.mk (some 23) none (.mv (.tmp 8)),
 .mk (some 24) none (.idx 1 (.tmp 22) (.tmp 23)),
 .mk (some 25) none (.load false 1 (.tmp 24)),
 .mk (some 26) none (.len false (.tmp 25)),
 .mk (some 27) none (.mv (.const (.int .i64 0)))]
 [1,2,7,8,13,14,26,27])
 (.block 2 (.loop S185_1 [27] [1,2,7,8,13,14,26]))))))
 (.region
 [.mk (some 38) none (.ibin .add (.tmp 14) (.const (.int .i64 1))),
 .mk (some 14) none (.mv (.tmp 38))]
 [1,2,7,13,14])))
def S185_0 : Stmt :=
 .seq (.region [.mk (some 6) none (.mv (.const (.slice none 0 0)))] [0,1,2])
 (.seq
 (.region
 [.mk (some 10) none (.mv (.tmp 0)),
 .mk (some 11) none (.mk 29 1 24 (.slice none 0 0) (.tmp 10) (.tmp 10)),
 .mk (some 7) none (.mv (.tmp 11))]
 [1,2,7])
 (.seq
 (.seq
 (.region
 [.mk (some 12) none (.mv (.tmp 7)),.mk (some 13) none (.len false (.tmp 12)),
 .mk (some 14) none (.mv (.const (.int .i64 0)))]
 [1,2,7,13,14])
 (.block 0 (.loop S185_2 [14] [1,2,7,13])))
 (.seq
 (.region
 [.mk (some 39) none (.mv (.tmp 7)),.mk (some 6) none (.mv (.tmp 39))] [6])
 .ret)))
def S185 : FnS := ⟨40,[(6,none)],S185_0⟩
theorem tr185 : trFn Try.prog 185 [] [[0,1,2],[1,2,7],[1,2,7,13,14],[14],[1,2,7,13],[1,2,7,13,14,15],[1,2,7,8,13,14],[1,2,7,8,13,14],[1,2,7,8,13,14,26,27],[27],[1,2,7,8,13,14,26],[1,2,7,8,13,14,26,27,28],[1,2,7,8,9,13,14,26,27],[1,2,7,8,13,14,26,27],[1,2,7,8,13,14,26,27],[1,2,7,13,14],[6]] = some S185 := by kernel_rfl
end Go.Proofs.Ytniobbepliknmaa.V
/- The text of parlance/parlref5.grid[int] as a statement (slots: 0 a, 1 b, 2 a, 3 b, 5 out, 6 i); no condition. -/
namespace Go.Proofs.Ytniobbepliknmaa.V
open Go
def S120_1 : Stmt :=
 .seq
 (.region [.mk (some 12) none (.ibin .lss (.tmp 11) (.tmp 10))] [1,5,10,11,12])
 (.seq (.cond (.tmp 12) .skip (.exit 0))
 (.seq
 (.block 1
 (.seq
 (.region
 [.mk (some 13) none (.mv (.tmp 11)),.mk (some 6) none (.mv (.tmp 13))]
 [1,5,6,10,11])
 (.region
 [.mk (some 14) none (.mv (.tmp 5)),.mk (some 15) none (.mv (.tmp 6)),
 .mk (some 16) none (.mv (.tmp 1)),
 .mk (some 17) none (.mk 3 1 8 (.int .i64 0) (.tmp 16) (.tmp 16)),
 .mk (some 18) none (.idx 1 (.tmp 14) (.tmp 15)),
 .mk none none (.store 1 (.tmp 18) (.tmp 17))]
 [1,5,10,11])))
 (.region
 [.mk (some 19) none (.ibin .add (.tmp 11) (.const (.int .i64 1))),
 .mk (some 11) none (.mv (.tmp 19))]
 [1,5,10,11])))
def S120_0 : Stmt :=
 .seq (.region [.mk (some 4) none (.mv (.const (.slice none 0 0)))] [0,1])
 (.seq
 (.region
 [.mk (some 7) none (.mv (.tmp 0)),
 .mk (some 8) none (.mk 29 1 24 (.slice none 0 0) (.tmp 7) (.tmp 7)),
 .mk (some 5) none (.mv (.tmp 8))]
 [1,5])
 (.seq
 (.seq
 (.region
 [.mk (some 9) none (.mv (.tmp 5)),.mk (some 10) none (.len false (.tmp 9)),
 .mk (some 11) none (.mv (.const (.int .i64 0)))]
 [1,5,10,11])
 (.block 0 (.loop S120_1 [11] [1,5,10])))
 (.seq
 (.region
 [.mk (some 20) none (.mv (.tmp 5)),.mk (some 4) none (.mv (.tmp 20))] [4])
 .ret)))
def S120 : FnS := ⟨21,[(4,none)],S120_0⟩
theorem tr120 : trFn Try.prog 120 [] [[0,1],[1,5],[1,5,10,11],[11],[1,5,10],[1,5,10,11,12],[1,5,6,10,11],[1,5,10,11],[1,5,10,11],[4]] = some S120 := by kernel_rfl
end Go.Proofs.Ytniobbepliknmaa.V
/- Grids that are filled: census.rows; parlref5.grid of numbers; no condition. -/
namespace Go.Proofs.Ytniobbepliknmaa.V
open Go
set_option linter.unusedVariables false
set_option linter.unusedSimpArgs false
attribute [local go_sem] e_seq e_region e_quiet e_join e_loop e_cond e_block e_exit e_ret e_skip e_fin e_kseq e_snrm e_sret e_sex e_bnrm e_bret e_bex e_rnrm e_rret e_res e_condC e_nil e_g e_mv g_mv e_pick g_pick pickC_eq e_ibin g_ibin ibinC_eq e_sbin g_sbin e_beq g_beq beqC_eq e_nilq g_nilq nilqC_sl nilqC_pt nilqC_mp e_un g_un unC_not unC_neg e_conv g_conv convC_eq e_fld g_fld fldC_ref fldC_ptr e_nilCheck g_nilCheck nilCheckC_ref nilCheckC_ptr nilCheckC_fun e_field g_field fieldC_eq e_len g_len lenC_sl lenC_str e_extract g_extract extractC_eq e_mkFunc e_build g_build e_idiv g_idiv idivC_eq e_ishift g_ishift ishiftC_eq e_idx g_idx e_idxA g_idxA e_load g_load e_loadB g_loadB atB_ref atB_v g_mkFunc loadC_ref loadC_ptr loadB_eq e_slc g_slc e_box boxC_loc boxC_esc e_alloc allocC_loc allocC_esc e_buildS e_store storeC_ref storeC_ptr storeB_eq e_append e_appz e_mk mkC_eq e_call callC_eq e_fn g_fn fnC_eq fnV_min' fnV_max' fnV_rune' e_q g_q e_a e_n g_call g_box g_alloc g_buildS g_store g_append g_mk g_a g_n g_dead e_dead e_callK e_drawn e_tree e_finJ e_tk e_tfin e_tno e_nbt_q e_nbt_qn e_nbt_a e_nbt_an e_nbt_fin e_drawnB e_bxb_nil e_bxb e_stB_none e_stB_some boxSt_store bs_mv bs_pick bs_ibin bs_idiv bs_ishift bs_sbin bs_beq bs_nilq bs_un bs_conv bs_box bs_alloc bs_build bs_buildS bs_load bs_fld bs_nilCheck bs_idx bs_idxA bs_field bs_slc bs_len bs_append bs_appz bs_mk bs_call bs_extract bs_mkFunc bs_fn bs_q bs_a bs_n bs_loadB bs_dead isBox_box e_early_nil e_early_t e_early_f e_nob_nil e_nob_none e_nob_some isBox_dead isBox_v isBox_ref e_dnil e_dk e_ek e_finB vcOps_vc1 e_dcons e_tq e_ekt e_tearly e_talt e_dearly look_nil look_c proj_nil proj_c looks_nil looks_c zip_nil zip_c val_tmp val_const val_func slv_v slv_box slv_ref slot_tmp slot_const slot_func slotL_v slotL_box slotL_ref put_some put_none updBox_c boxSet_box gd_eq slotVals_nil slotVals_c slotVals_b boxV_box boxOn_box slotsOn_nil slotsOn_c slotsOn_b resV_one resV_two vals_nil vals_c allOn_nil allOn_c partOn_nil partOn_c partVals_nil partVals_c fits_nil fits_c fillL_nil fillL_c mkv_one mkv_agg cellsV_agg cellsV_int cellsV_bool cellsV_slice cellsV_string cellsV_pointer cellsV_func cellsV_nilf cellsV_map one'_nil one'_c oc_int oc_bool oc_slice oc_string oc_pointer oc_func oc_nilf oc_map setC_eq iv_add iv_sub iv_mul iv_eql iv_neq iv_lss iv_leq iv_gtr iv_geq iok_add iok_sub iok_mul iok_eql iok_neq iok_lss iok_leq iok_gtr iok_geq pickV_bool args0_nil args0_c bnd_none bnd_some imp_bt imp_bf imp_ebt imp_ebf imp_eb1 imp_np imp_pp beq_tt beq_tf beq_ft beq_ff cond_or cond_and e_round e_meet Int.le_refl Int.toNat_zero decide_true decide_false Bool.or_false Bool.false_or Bool.true_or Bool.or_true Bool.and_false Bool.false_and Bool.bne_false Bool.bne_true beq_iff_eq Int.cast_ofNat_Int not_false_eq_true not_true_eq_false false_and and_false false_implies true_implies true_and and_true Bool.true_and Bool.and_true Bool.not_true Bool.not_false forall_const implies_true List.take_zero List.drop_zero List.take_succ_cons List.drop_succ_cons List.take_nil List.drop_nil List.length_cons List.length_nil List.nil_append List.append_nil List.cons_append Int.toNat_natCast decide_eq_true_eq decide_eq_false_iff_not cond_true cond_false and_self List.getElem?_cons_zero List.getElem?_cons_succ List.set_cons_zero List.set_cons_succ Option.some.injEq exists_eq_left' Nat.zero_add Nat.add_zero Nat.mul_one imp_self true_or or_true or_false false_or Bool.or_eq_true Bool.or_eq_false_iff Bool.and_eq_true Bool.and_eq_false_iff Bool.not_eq_true' Bool.not_eq_false'

/-- n values, of which j are x and the others z -/
def prow {α : Type} (x z : α) (n j : Nat) : List α := List.replicate j x ++ List.replicate (n - j) z
theorem prow_len {α : Type} (x z : α) {n j : Nat} (h : j ≤ n) : (prow x z n j).length = n := by simp [prow]; omega
theorem prow_set {α : Type} (x z : α) {n j : Nat} (h : j < n) : (prow x z n j).set j x = prow x z n (j + 1) := by
  unfold prow
  obtain ⟨d, hd⟩ : ∃ d, n - j = d + 1 := ⟨n - j - 1, by omega⟩
  rw [hd, show n - (j + 1) = d by omega, List.replicate_succ, List.set_append_right _ _ (by simp), List.replicate_succ']
  simp
theorem prow_zero {α : Type} (x z : α) (n : Nat) : prow x z n 0 = List.replicate n z := by simp [prow]
theorem prow_all {α : Type} (x z : α) (n : Nat) : prow x z n n = List.replicate n x := by simp [prow]
theorem rows_bool {Γr : Ctx} (a n : Nat) (x : Bool) (ha : a ≤ 1000) (hn : n ≤ 100000) :
    Ret Try.prog 184 [.int .i64 a, .int .i64 n, .bool x] Γr [] (fun v Γ => ∃ g b, Γ = [g] ∧ v = .slice (some ⟨b, 0, none⟩) a a ∧ Grid g b 22 4 (List.replicate a (List.replicate n x))) := by
  generalize hR : (fun (v : Value) (Γ : Ctx) => ∃ g b, _) = R
  refine ret_of_vc tr184 (Nat.le_of_ble_eq_true rfl) ?_
  simp -implicitDefEqProofs only [S184, S184_0, go_sem, Nat.reduceBEq, Nat.reduceAdd, Nat.reduceSub, Nat.reduceMul, Nat.reduceLeDiff, reduceCtorEq, ↓reduceIte, Int.reduceLT, Int.reduceLE, Int.reduceEq, Int.reduceNe]
  refine ⟨by omega, by omega, fun b => ?_⟩
  refine s_loop (fun f vs Γ => ∃ g, Γ = [g] ∧ ∃ k : Nat, vs = [.v true (.int .i64 k)] ∧ k + f = a ∧ Grid g b 22 4 (part x a n k)) a
    (Up.here ⟨_, rfl, 0, rfl, by omega, by have := Grid.made (α := Bool) b 22 4 (m := a) (by omega); simpa [part] using this⟩) ?_
  rintro f vs Γ ⟨g, rfl, k, rfl, hkf, hG⟩
  simp -implicitDefEqProofs only [S184_2, go_sem, Nat.reduceBEq, Nat.reduceAdd, Nat.reduceSub, Nat.reduceMul, Nat.reduceLeDiff, reduceCtorEq, ↓reduceIte, Int.reduceLT, Int.reduceLE, Int.reduceEq, Int.reduceNe]
  refine ⟨fun hlt => ?_, fun hge => ?_⟩
  · have hk : k < a := by omega
    have hpl := part_len x (m := a) (n := n) (k := k) (by omega)
    refine ⟨by omega, by omega, fun b2 => ?_⟩
    refine s_idx rfl (by omega) (by omega) ?_
    simp -implicitDefEqProofs only [go_sem, Nat.reduceBEq, Nat.reduceAdd, Nat.reduceSub, Nat.reduceMul, Nat.reduceLeDiff, reduceCtorEq, ↓reduceIte, Int.reduceLT, Int.reduceLE, Int.reduceEq, Int.reduceNe]
    refine s_storeGc (ix := 1) (k := b2) (List.replicate n x) (by simp) rfl hG (by omega) (by simp; omega) ?_
    intro g' hcell hput
    simp -implicitDefEqProofs only [go_sem, Nat.reduceBEq, Nat.reduceAdd, Nat.reduceSub, Nat.reduceMul, Nat.reduceLeDiff, reduceCtorEq, ↓reduceIte, Int.reduceLT, Int.reduceLE, Int.reduceEq, Int.reduceNe]
    refine s_idx rfl (by omega) (by omega) ?_
    simp -implicitDefEqProofs only [go_sem, Nat.reduceBEq, Nat.reduceAdd, Nat.reduceSub, Nat.reduceMul, Nat.reduceLeDiff, reduceCtorEq, ↓reduceIte, Int.reduceLT, Int.reduceLE, Int.reduceEq, Int.reduceNe]
    refine s_ld0 (hcell _ (by simp)) (by simp) (by simp) ?_
    simp -implicitDefEqProofs only [go_sem, Nat.reduceBEq, Nat.reduceAdd, Nat.reduceSub, Nat.reduceMul, Nat.reduceLeDiff, reduceCtorEq, ↓reduceIte, Int.reduceLT, Int.reduceLE, Int.reduceEq, Int.reduceNe]
    refine s_loop (fun f2 vs Γ => ∃ (x2 : PH) (j : Nat), Γ = [x2, g'] ∧ vs = [.v true (.int .i64 j)] ∧ j + f2 = n ∧ Arr x2 b2 4 (prow x false n j)) n
      (Up.here ⟨_, 0, rfl, rfl, by omega, by rw [prow_zero]; exact Arr.made false b2 4 n⟩) ?_
    rintro f2 vs Γ ⟨x2, j, rfl, rfl, hjf, hA⟩
    simp -implicitDefEqProofs only [S184_1, go_sem, Nat.reduceBEq, Nat.reduceAdd, Nat.reduceSub, Nat.reduceMul, Nat.reduceLeDiff, reduceCtorEq, ↓reduceIte, Int.reduceLT, Int.reduceLE, Int.reduceEq, Int.reduceNe]
    refine ⟨fun hlt => ?_, fun hge => ?_⟩
    · have hj : j < n := by omega
      have hrl := prow_len x false (n := n) (j := j) (by omega)
      refine s_idx rfl (by omega) (by omega) ?_
      simp -implicitDefEqProofs only [go_sem, Nat.reduceBEq, Nat.reduceAdd, Nat.reduceSub, Nat.reduceMul, Nat.reduceLeDiff, reduceCtorEq, ↓reduceIte, Int.reduceLT, Int.reduceLE, Int.reduceEq, Int.reduceNe]
      refine s_ld0 (hcell _ (by simp)) (by simp) (by simp) ?_
      simp -implicitDefEqProofs only [go_sem, Nat.reduceBEq, Nat.reduceAdd, Nat.reduceSub, Nat.reduceMul, Nat.reduceLeDiff, reduceCtorEq, ↓reduceIte, Int.reduceLT, Int.reduceLE, Int.reduceEq, Int.reduceNe]
      refine s_idx rfl (by omega) (by omega) ?_
      simp -implicitDefEqProofs only [go_sem, Nat.reduceBEq, Nat.reduceAdd, Nat.reduceSub, Nat.reduceMul, Nat.reduceLeDiff, reduceCtorEq, ↓reduceIte, Int.reduceLT, Int.reduceLE, Int.reduceEq, Int.reduceNe]
      refine s_storeA (ix := 0) (α := Bool) x rfl hA (i := j) (by omega) ?_
      intro x3 hA3 _
      rw [prow_set x false hj] at hA3
      simp -implicitDefEqProofs only [go_sem, Nat.reduceBEq, Nat.reduceAdd, Nat.reduceSub, Nat.reduceMul, Nat.reduceLeDiff, reduceCtorEq, ↓reduceIte, Int.reduceLT, Int.reduceLE, Int.reduceEq, Int.reduceNe]
      simp (disch := omega) only [wrap_id]
      exact ⟨f2 - 1, by omega, Up.here ⟨x3, j + 1, rfl, rfl, by omega, hA3⟩⟩
    · have hj : j = n := by omega
      subst hj
      rw [prow_all] at hA
      simp (disch := omega) only [wrap_id]
      refine ⟨f - 1, by omega, Up.apart fun hd => Up.one fun G hG' => ⟨_, rfl, k + 1, rfl, by omega, ?_⟩⟩
      rw [← part_set _ hk]
      exact hput _ _ hA ((List.pairwise_cons.1 hd).1 g' (by simp)) hG'
  · have hk : k = a := by omega
    subst hk
    refine Up.here ?_
    subst hR
    exact ⟨_, b, rfl, rfl, by simpa [part] using hG⟩
theorem rows_int {Γr : Ctx} (a n : Nat) (x : Int) (ha : a ≤ 1000) (hn : n ≤ 100000) :
    Ret Try.prog 185 [.int .i64 a, .int .i64 n, .int .i64 x] Γr [] (fun v Γ => ∃ g b, Γ = [g] ∧ v = .slice (some ⟨b, 0, none⟩) a a ∧ Grid g b 29 3 (List.replicate a (List.replicate n x))) := by
  generalize hR : (fun (v : Value) (Γ : Ctx) => ∃ g b, _) = R
  refine ret_of_vc tr185 (Nat.le_of_ble_eq_true rfl) ?_
  simp -implicitDefEqProofs only [S185, S185_0, go_sem, Nat.reduceBEq, Nat.reduceAdd, Nat.reduceSub, Nat.reduceMul, Nat.reduceLeDiff, reduceCtorEq, ↓reduceIte, Int.reduceLT, Int.reduceLE, Int.reduceEq, Int.reduceNe]
  refine ⟨by omega, by omega, fun b => ?_⟩
  refine s_loop (fun f vs Γ => ∃ g, Γ = [g] ∧ ∃ k : Nat, vs = [.v true (.int .i64 k)] ∧ k + f = a ∧ Grid g b 29 3 (part x a n k)) a
    (Up.here ⟨_, rfl, 0, rfl, by omega, by have := Grid.made (α := Int) b 29 3 (m := a) (by omega); simpa [part] using this⟩) ?_
  rintro f vs Γ ⟨g, rfl, k, rfl, hkf, hG⟩
  simp -implicitDefEqProofs only [S185_2, go_sem, Nat.reduceBEq, Nat.reduceAdd, Nat.reduceSub, Nat.reduceMul, Nat.reduceLeDiff, reduceCtorEq, ↓reduceIte, Int.reduceLT, Int.reduceLE, Int.reduceEq, Int.reduceNe]
  refine ⟨fun hlt => ?_, fun hge => ?_⟩
  · have hk : k < a := by omega
    have hpl := part_len x (m := a) (n := n) (k := k) (by omega)
    refine ⟨by omega, by omega, fun b2 => ?_⟩
    refine s_idx rfl (by omega) (by omega) ?_
    simp -implicitDefEqProofs only [go_sem, Nat.reduceBEq, Nat.reduceAdd, Nat.reduceSub, Nat.reduceMul, Nat.reduceLeDiff, reduceCtorEq, ↓reduceIte, Int.reduceLT, Int.reduceLE, Int.reduceEq, Int.reduceNe]
    refine s_storeGc (ix := 1) (k := b2) (List.replicate n x) (by simp) rfl hG (by omega) (by simp; omega) ?_
    intro g' hcell hput
    simp -implicitDefEqProofs only [go_sem, Nat.reduceBEq, Nat.reduceAdd, Nat.reduceSub, Nat.reduceMul, Nat.reduceLeDiff, reduceCtorEq, ↓reduceIte, Int.reduceLT, Int.reduceLE, Int.reduceEq, Int.reduceNe]
    refine s_idx rfl (by omega) (by omega) ?_
    simp -implicitDefEqProofs only [go_sem, Nat.reduceBEq, Nat.reduceAdd, Nat.reduceSub, Nat.reduceMul, Nat.reduceLeDiff, reduceCtorEq, ↓reduceIte, Int.reduceLT, Int.reduceLE, Int.reduceEq, Int.reduceNe]
    refine s_ld0 (hcell _ (by simp)) (by simp) (by simp) ?_
    simp -implicitDefEqProofs only [go_sem, Nat.reduceBEq, Nat.reduceAdd, Nat.reduceSub, Nat.reduceMul, Nat.reduceLeDiff, reduceCtorEq, ↓reduceIte, Int.reduceLT, Int.reduceLE, Int.reduceEq, Int.reduceNe]
    refine s_loop (fun f2 vs Γ => ∃ (x2 : PH) (j : Nat), Γ = [x2, g'] ∧ vs = [.v true (.int .i64 j)] ∧ j + f2 = n ∧ Arr x2 b2 3 (prow x (0 : Int) n j)) n
      (Up.here ⟨_, 0, rfl, rfl, by omega, by rw [prow_zero]; exact Arr.made (0 : Int) b2 3 n⟩) ?_
    rintro f2 vs Γ ⟨x2, j, rfl, rfl, hjf, hA⟩
    simp -implicitDefEqProofs only [S185_1, go_sem, Nat.reduceBEq, Nat.reduceAdd, Nat.reduceSub, Nat.reduceMul, Nat.reduceLeDiff, reduceCtorEq, ↓reduceIte, Int.reduceLT, Int.reduceLE, Int.reduceEq, Int.reduceNe]
    refine ⟨fun hlt => ?_, fun hge => ?_⟩
    · have hj : j < n := by omega
      have hrl := prow_len x (0 : Int) (n := n) (j := j) (by omega)
      refine s_idx rfl (by omega) (by omega) ?_
      simp -implicitDefEqProofs only [go_sem, Nat.reduceBEq, Nat.reduceAdd, Nat.reduceSub, Nat.reduceMul, Nat.reduceLeDiff, reduceCtorEq, ↓reduceIte, Int.reduceLT, Int.reduceLE, Int.reduceEq, Int.reduceNe]
      refine s_ld0 (hcell _ (by simp)) (by simp) (by simp) ?_
      simp -implicitDefEqProofs only [go_sem, Nat.reduceBEq, Nat.reduceAdd, Nat.reduceSub, Nat.reduceMul, Nat.reduceLeDiff, reduceCtorEq, ↓reduceIte, Int.reduceLT, Int.reduceLE, Int.reduceEq, Int.reduceNe]
      refine s_idx rfl (by omega) (by omega) ?_
      simp -implicitDefEqProofs only [go_sem, Nat.reduceBEq, Nat.reduceAdd, Nat.reduceSub, Nat.reduceMul, Nat.reduceLeDiff, reduceCtorEq, ↓reduceIte, Int.reduceLT, Int.reduceLE, Int.reduceEq, Int.reduceNe]
      refine s_storeA (ix := 0) (α := Int) x rfl hA (i := j) (by omega) ?_
      intro x3 hA3 _
      rw [prow_set x (0 : Int) hj] at hA3
      simp -implicitDefEqProofs only [go_sem, Nat.reduceBEq, Nat.reduceAdd, Nat.reduceSub, Nat.reduceMul, Nat.reduceLeDiff, reduceCtorEq, ↓reduceIte, Int.reduceLT, Int.reduceLE, Int.reduceEq, Int.reduceNe]
      simp (disch := omega) only [wrap_id]
      exact ⟨f2 - 1, by omega, Up.here ⟨x3, j + 1, rfl, rfl, by omega, hA3⟩⟩
    · have hj : j = n := by omega
      subst hj
      rw [prow_all] at hA
      simp (disch := omega) only [wrap_id]
      refine ⟨f - 1, by omega, Up.apart fun hd => Up.one fun G hG' => ⟨_, rfl, k + 1, rfl, by omega, ?_⟩⟩
      rw [← part_set _ hk]
      exact hput _ _ hA ((List.pairwise_cons.1 hd).1 g' (by simp)) hG'
  · have hk : k = a := by omega
    subst hk
    refine Up.here ?_
    subst hR
    exact ⟨_, b, rfl, rfl, by simpa [part] using hG⟩
theorem grid_int {Γr : Ctx} (a n : Nat) (ha : a ≤ 1000) (hn : n ≤ 100000) :
    Ret Try.prog 120 [.int .i64 a, .int .i64 n] Γr [] (fun v Γ => ∃ g b, Γ = [g] ∧ v = .slice (some ⟨b, 0, none⟩) a a ∧ Grid g b 29 3 (List.replicate a (List.replicate n (0 : Int)))) := by
  generalize hR : (fun (v : Value) (Γ : Ctx) => ∃ g b, _) = R
  refine ret_of_vc tr120 (Nat.le_of_ble_eq_true rfl) ?_
  simp -implicitDefEqProofs only [S120, S120_0, go_sem, Nat.reduceBEq, Nat.reduceAdd, Nat.reduceSub, Nat.reduceMul, Nat.reduceLeDiff, reduceCtorEq, ↓reduceIte, Int.reduceLT, Int.reduceLE, Int.reduceEq, Int.reduceNe]
  refine ⟨by omega, by omega, fun b => ?_⟩
  refine s_loop (fun f vs Γ => ∃ g, Γ = [g] ∧ ∃ k : Nat, vs = [.v true (.int .i64 k)] ∧ k + f = a ∧ Grid g b 29 3 (part (0 : Int) a n k)) a
    (Up.here ⟨_, rfl, 0, rfl, by omega, by have := Grid.made (α := Int) b 29 3 (m := a) (by omega); simpa [part] using this⟩) ?_
  rintro f vs Γ ⟨g, rfl, k, rfl, hkf, hG⟩
  simp -implicitDefEqProofs only [S120_1, go_sem, Nat.reduceBEq, Nat.reduceAdd, Nat.reduceSub, Nat.reduceMul, Nat.reduceLeDiff, reduceCtorEq, ↓reduceIte, Int.reduceLT, Int.reduceLE, Int.reduceEq, Int.reduceNe]
  refine ⟨fun hlt => ?_, fun hge => ?_⟩
  · have hk : k < a := by omega
    refine ⟨by omega, by omega, fun b2 => ?_⟩
    refine s_idx rfl (by omega) (by omega) ?_
    simp -implicitDefEqProofs only [go_sem, Nat.reduceBEq, Nat.reduceAdd, Nat.reduceSub, Nat.reduceMul, Nat.reduceLeDiff, reduceCtorEq, ↓reduceIte, Int.reduceLT, Int.reduceLE, Int.reduceEq, Int.reduceNe]
    refine s_storeG (ix := 1) (k := b2) (List.replicate n (0 : Int)) (by simp) rfl hG (by rw [part_len _ (by omega)]; omega) (by simp; omega) ?_
    intro g' hput
    simp -implicitDefEqProofs only [go_sem, Nat.reduceBEq, Nat.reduceAdd, Nat.reduceSub, Nat.reduceMul, Nat.reduceLeDiff, reduceCtorEq, ↓reduceIte, Int.reduceLT, Int.reduceLE, Int.reduceEq, Int.reduceNe]
    simp (disch := omega) only [wrap_id]
    refine ⟨f - 1, by omega, Up.apart fun hd => Up.one fun G hG' => ⟨_, rfl, k + 1, rfl, by omega, ?_⟩⟩
    rw [← part_set _ hk]
    exact hput _ _ (Arr.made (0 : Int) b2 3 n) ((List.pairwise_cons.1 hd).1 g' (by simp)) hG'
  · have hk : k = a := by omega
    subst hk
    refine Up.here ?_
    subst hR
    exact ⟨_, b, rfl, rfl, by simpa [part] using hG⟩
end Go.Proofs.Ytniobbepliknmaa.V
/- Trees as data; no condition. -/
namespace Go.Proofs.Ytniobbepliknmaa.V
open Go
set_option linter.unusedVariables false
set_option linter.unusedSimpArgs false

inductive Tr where
  | mk (rule term : Int) (kids : List Tr)
def Tr.rule : Tr → Int | ⟨r, _, _⟩ => r
def Tr.term : Tr → Int | ⟨_, t, _⟩ => t
def Tr.kids : Tr → List Tr | ⟨_, _, k⟩ => k
theorem Tr.ext {x y : Tr} (h1 : x.rule = y.rule) (h2 : x.term = y.term) (h3 : x.kids = y.kids) : x = y := by
  cases x; cases y
  simp only [Tr.rule, Tr.term, Tr.kids] at h1 h2 h3
  subst h1 h2 h3
  rfl
noncomputable instance : DecidableEq Tr := fun _ _ => Classical.propDecidable _
theorem Tr.lt {x : Tr} {k : Tr} (h : k ∈ x.kids) : SizeOf.sizeOf k < SizeOf.sizeOf x := by
  cases x with
  | mk r t ks =>
    have := List.sizeOf_lt_of_mem h
    simp only [Tr.kids] at this
    rw [Tr.mk.sizeOf_spec]
    omega
theorem Tr.ind {p : Tr → Prop} (h : ∀ x, (∀ k ∈ x.kids, p k) → p x) (x : Tr) : p x :=
  h x fun k hk => Tr.ind h k
termination_by SizeOf.sizeOf x
decreasing_by exact Tr.lt hk
/-- a tree lies in memory -/
inductive TrOk (L : Mem) : Tr → List Value → Prop
  | nil (r t : Int) (A : Option Addr) (c : Nat) (hc : c ≤ maxLen) : TrOk L ⟨r, t, []⟩ [.int .i64 r, .int .i64 t, .slice A 0 c]
  | kids (r t : Int) (ks : List Tr) (b o : Nat) (cells : Array Value) (T : TypeId) (fr : Nat × Nat) (c : Nat) (css : Nat → List Value) (h1 : ks.length ≤ c) (h2 : c ≤ maxLen) (h3 : ks.length ≤ 140737488355328)
      (hb : L b (.cells cells T fr)) (hk : ∀ (i : Nat) (x : Tr), ks[i]? = some x → TrOk L x (css i)) (hc : ∀ (i : Nat) (x : Tr), ks[i]? = some x → ∀ j, j < 3 → cells[o + i * 3 + j]? = (css i)[j]?) :
      TrOk L ⟨r, t, ks⟩ [.int .i64 r, .int .i64 t, .slice (some ⟨b, o, none⟩) ks.length c]
theorem TrOk.form {L : Mem} {x : Tr} {cs : List Value} (h : TrOk L x cs) : ∃ A c, cs = [.int .i64 x.rule, .int .i64 x.term, .slice A x.kids.length c] := by
  cases h with
  | nil r t A c hc => exact ⟨A, c, rfl⟩
  | kids r t ks b o cells T fr c css => exact ⟨_, c, rfl⟩
theorem TrOk.mono {L L' : Mem} (hL : Mem.le L L') {x : Tr} {cs : List Value} (h : TrOk L x cs) : TrOk L' x cs := by
  induction h with
  | nil r t A c hc => exact .nil r t A c hc
  | kids r t ks b o cells T fr c css h1 h2 h3 hb hk hc ih => exact .kids r t ks b o cells T fr c css h1 h2 h3 (hL _ _ hb) ih hc
instance : Rep Tr where
  sz := 3
  ok := TrOk
  len h := by obtain ⟨A, c, rfl⟩ := h.form; rfl
  one h := by obtain ⟨A, c, rfl⟩ := h.form; simp [one', Value.oneCell']
  mono h hh := h.mono hh
/-! numbers of nodes -/
end Go.Proofs.Ytniobbepliknmaa.V
/- Rows whose elements are changed one by one; no condition. -/
namespace Go.Proofs.Ytniobbepliknmaa.V
open Go
set_option linter.unusedVariables false
set_option linter.unusedSimpArgs false

theorem splice_get {cs new : List Value} {p m j : Nat} (hm : new.length = m) (hp : p + m ≤ cs.length) : (cs.take p ++ new ++ cs.drop (p + m))[j]? = if p ≤ j ∧ j < p + m then new[j - p]? else cs[j]? := by
  have h1 : (cs.take p).length = p := by simp; omega
  have h2 : (cs.take p ++ new).length = p + m := by rw [List.length_append, h1, hm]
  by_cases a : j < p
  · rw [if_neg (by omega), List.getElem?_append_left (by omega), List.getElem?_append_left (by omega), List.getElem?_take, if_pos a]
  · by_cases b : j < p + m
    · rw [if_pos ⟨by omega, b⟩, List.getElem?_append_left (by omega), List.getElem?_append_right (by omega), h1]
    · rw [if_neg (by omega), List.getElem?_append_right (by omega), h2, List.getElem?_drop]
      congr 1
      omega
theorem Row.put {g : PH} {e : TypeId} {sz n c i : Nat} {A : Option Addr} {cs : List Value} (h : Row g e sz (.slice A n c) n cs) (hi : i < n) :
    ∃ b o cur, A = some ⟨b, o, none⟩ ∧ g b = some (.cells cur e (0, 0)) ∧ o + i * sz + sz ≤ cur.size ∧ (∀ j, j < n * sz → cur[o + j]? = cs[j]?) ∧ cs.length = n * sz ∧
      ∀ x : Value, (cellsV x).length = sz → Row (upd g b (.cells (setC cur.toList (o + i * sz) sz x).toArray e)) e sz (.slice A n c) n (cs.take (i * sz) ++ cellsV x ++ cs.drop (i * sz + sz)) := by
  obtain ⟨h1, h2⟩ := h
  rcases h2 with ⟨q, _⟩ | ⟨b, o, cap, cur, q1, q2, q3, q4, q5, q6⟩
  · omega
  · simp only [Value.slice.injEq, true_and] at q1
    obtain ⟨rfl, rfl⟩ := q1
    have hle : (i + 1) * sz ≤ n * sz := Nat.mul_le_mul_right _ hi
    rw [Nat.add_mul, Nat.one_mul] at hle
    have hcap : n * sz ≤ (cap + 1) * sz := Nat.mul_le_mul_right _ q2
    have hcur : ∀ j, j < n * sz → cur[o + j]? = cs[j]? := fun j hj => by
      rw [← q6, List.getElem?_take, if_pos hj, List.getElem?_drop]
      simp
    refine ⟨b, o, cur, rfl, q4, by omega, hcur, h1, fun x hx => ⟨?_, .inr ⟨b, o, cap, _, rfl, q2, q3, upd_self _ _ _, ?_, ?_⟩⟩⟩
    · simp [hx]; omega
    · simp [setC, hx]; omega
    · apply List.ext_getElem?
      intro j
      rw [List.getElem?_take, List.getElem?_drop, splice_get hx (by omega)]
      simp only [List.toList_toArray, setC]
      rw [splice_get hx (by simp; omega)]
      by_cases a : j < n * sz
      · rw [if_pos a]
        by_cases b : i * sz ≤ j ∧ j < i * sz + sz
        · rw [if_pos (by omega), if_pos b]
          congr 1
          omega
        · rw [if_neg (by omega), if_neg b, ← hcur j a]
          simp
      · rw [if_neg a]
        split
        · omega
        · rw [List.getElem?_eq_none (by omega)]
/-- a row; what its elements lead to lies here and there -/
def BldM {α : Type} [Rep α] (g : PH) (Lf : Nat → Mem) (e : TypeId) (v : Value) (xs : List α) : Prop :=
  ∃ cs, Row g e (Rep.sz α) v xs.length cs ∧ ∀ i x, xs[i]? = some x → ∃ c, Rep.ok (Lf i) x c ∧ ∀ j, j < Rep.sz α → cs[i * Rep.sz α + j]? = c[j]?
theorem BldM.mono {α : Type} [Rep α] {g : PH} {Lf Lg : Nat → Mem} {e : TypeId} {v : Value} {xs : List α} (h : BldM g Lf e v xs) (hL : ∀ i, i < xs.length → Mem.le (Lf i) (Lg i)) : BldM g Lg e v xs := by
  obtain ⟨cs, h1, h2⟩ := h
  refine ⟨cs, h1, fun i x hi => ?_⟩
  obtain ⟨c, q1, q2⟩ := h2 i x hi
  exact ⟨c, Rep.mono q1 (hL i (List.getElem?_eq_some_iff.1 hi).1), q2⟩
/-- an element, its place and its cells -/
theorem BldM.get {α : Type} [Rep α] {g : PH} {Lf : Nat → Mem} {e : TypeId} {A : Option Addr} {c i : Nat} {xs : List α} (h : BldM g Lf e (.slice A xs.length c) xs) (hi : i < xs.length) :
    ∃ b o cs, A = some ⟨b, o, none⟩ ∧ Rep.ok (Lf i) xs[i] cs ∧ ∀ Γ : Ctx, g ∈ Γ → Cells Γ b (o + i * Rep.sz α) cs := by
  obtain ⟨cs, h1, h2⟩ := h
  obtain ⟨b, o, cur, rfl, hb, hsz, hcur, hlen, _⟩ := h1.put hi
  obtain ⟨c', q1, q2⟩ := h2 i _ (List.getElem?_eq_getElem hi)
  refine ⟨b, o, c', rfl, q1, fun Γ hg => ⟨g, hg, cur, e, (0, 0), hb, fun j hj => ?_⟩⟩
  have hj' : j < Rep.sz α := by rw [← Rep.len q1]; exact hj
  have hle : (i + 1) * Rep.sz α ≤ xs.length * Rep.sz α := Nat.mul_le_mul_right _ hi
  rw [Nat.add_mul, Nat.one_mul] at hle
  rw [Nat.add_assoc, hcur _ (by omega), q2 j hj']
/-- an element is changed -/
theorem BldM.put {α : Type} [Rep α] {g : PH} {Lf : Nat → Mem} {L : Mem} {e : TypeId} {A : Option Addr} {c i : Nat} {xs : List α} {x : α} {new : Value} (h : BldM g Lf e (.slice A xs.length c) xs) (hi : i < xs.length) (hx : Rep.ok L x (cellsV new)) :
    ∃ b o cur, A = some ⟨b, o, none⟩ ∧ g b = some (.cells cur e (0, 0)) ∧ o + i * Rep.sz α + Rep.sz α ≤ cur.size ∧
      BldM (upd g b (.cells (setC cur.toList (o + i * Rep.sz α) (Rep.sz α) new).toArray e)) (fun j => if j = i then L else Lf j) e (.slice A xs.length c) (xs.set i x) := by
  obtain ⟨cs, h1, h2⟩ := h
  obtain ⟨b, o, cur, rfl, hb, hsz, hcur, hlen, hput⟩ := h1.put hi
  have hn := Rep.len hx
  refine ⟨b, o, cur, rfl, hb, hsz, _, by rw [List.length_set]; exact hput new hn, fun k y hk => ?_⟩
  have hkl : k < xs.length := by simpa using (List.getElem?_eq_some_iff.1 hk).1
  have hle : (i + 1) * Rep.sz α ≤ xs.length * Rep.sz α := Nat.mul_le_mul_right _ hi
  have hlk : (k + 1) * Rep.sz α ≤ xs.length * Rep.sz α := Nat.mul_le_mul_right _ hkl
  rw [Nat.add_mul, Nat.one_mul] at hle hlk
  by_cases e : k = i
  · subst e
    rw [List.getElem?_set_self hi] at hk
    cases hk
    refine ⟨_, by show Rep.ok (if k = k then L else Lf k) x _; rw [if_pos rfl]; exact hx, fun j hj => ?_⟩
    rw [splice_get hn (by omega), if_pos (by omega)]
    congr 1
    omega
  · rw [List.getElem?_set_ne (fun q => e q.symm)] at hk
    obtain ⟨c', q1, q2⟩ := h2 k y hk
    refine ⟨c', by show Rep.ok (if k = i then L else Lf k) y c'; rw [if_neg e]; exact q1, fun j hj => ?_⟩
    rw [splice_get hn (by omega), if_neg, q2 j hj]
    intro ⟨a1, a2⟩
    rcases Nat.lt_or_gt_of_ne e with q | q
    · have : (k + 1) * Rep.sz α ≤ i * Rep.sz α := Nat.mul_le_mul_right _ q
      rw [Nat.add_mul, Nat.one_mul] at this
      omega
    · have : (i + 1) * Rep.sz α ≤ k * Rep.sz α := Nat.mul_le_mul_right _ q
      rw [Nat.add_mul, Nat.one_mul] at this
      omega
end Go.Proofs.Ytniobbepliknmaa.V
/- Automata: dfa.Check, dfa.Run, parlref5.DfaFault, parlref5.Ends walked; no condition. -/
namespace Go.Proofs.Ytniobbepliknmaa.V
open Go
set_option linter.unusedVariables false
set_option linter.unusedSimpArgs false
attribute [local go_sem] e_seq e_region e_quiet e_join e_loop e_cond e_block e_exit e_ret e_skip e_fin e_kseq e_snrm e_sret e_sex e_bnrm e_bret e_bex e_rnrm e_rret e_res e_condC e_nil e_g e_mv g_mv e_pick g_pick pickC_eq e_ibin g_ibin ibinC_eq e_sbin g_sbin e_beq g_beq beqC_eq e_nilq g_nilq nilqC_sl nilqC_pt nilqC_mp e_un g_un unC_not unC_neg e_conv g_conv convC_eq e_fld g_fld fldC_ref fldC_ptr e_nilCheck g_nilCheck nilCheckC_ref nilCheckC_ptr nilCheckC_fun e_field g_field fieldC_eq e_len g_len lenC_sl lenC_str e_extract g_extract extractC_eq e_mkFunc e_build g_build e_idiv g_idiv idivC_eq e_ishift g_ishift ishiftC_eq e_idx g_idx e_idxA g_idxA e_load g_load e_loadB g_loadB atB_ref atB_v g_mkFunc loadC_ref loadC_ptr loadB_eq e_slc g_slc e_box boxC_loc boxC_esc e_alloc allocC_loc allocC_esc e_buildS e_store storeC_ref storeC_ptr storeB_eq e_append e_appz e_mk mkC_eq e_call callC_eq e_fn g_fn fnC_eq fnV_min' fnV_max' fnV_rune' e_q g_q e_a e_n g_call g_box g_alloc g_buildS g_store g_append g_mk g_a g_n g_dead e_dead e_callK e_drawn e_tree e_finJ e_tk e_tfin e_tno e_nbt_q e_nbt_qn e_nbt_a e_nbt_an e_nbt_fin e_drawnB e_bxb_nil e_bxb e_stB_none e_stB_some boxSt_store bs_mv bs_pick bs_ibin bs_idiv bs_ishift bs_sbin bs_beq bs_nilq bs_un bs_conv bs_box bs_alloc bs_build bs_buildS bs_load bs_fld bs_nilCheck bs_idx bs_idxA bs_field bs_slc bs_len bs_append bs_appz bs_mk bs_call bs_extract bs_mkFunc bs_fn bs_q bs_a bs_n bs_loadB bs_dead isBox_box e_early_nil e_early_t e_early_f e_nob_nil e_nob_none e_nob_some isBox_dead isBox_v isBox_ref e_dnil e_dk e_ek e_finB vcOps_vc1 e_dcons e_tq e_ekt e_tearly e_talt e_dearly look_nil look_c proj_nil proj_c looks_nil looks_c zip_nil zip_c val_tmp val_const val_func slv_v slv_box slv_ref slot_tmp slot_const slot_func slotL_v slotL_box slotL_ref put_some put_none updBox_c boxSet_box gd_eq slotVals_nil slotVals_c slotVals_b boxV_box boxOn_box slotsOn_nil slotsOn_c slotsOn_b resV_one resV_two vals_nil vals_c allOn_nil allOn_c partOn_nil partOn_c partVals_nil partVals_c fits_nil fits_c fillL_nil fillL_c mkv_one mkv_agg cellsV_agg cellsV_int cellsV_bool cellsV_slice cellsV_string cellsV_pointer cellsV_func cellsV_nilf cellsV_map one'_nil one'_c oc_int oc_bool oc_slice oc_string oc_pointer oc_func oc_nilf oc_map setC_eq iv_add iv_sub iv_mul iv_eql iv_neq iv_lss iv_leq iv_gtr iv_geq iok_add iok_sub iok_mul iok_eql iok_neq iok_lss iok_leq iok_gtr iok_geq pickV_bool args0_nil args0_c bnd_none bnd_some imp_bt imp_bf imp_ebt imp_ebf imp_eb1 imp_np imp_pp beq_tt beq_tf beq_ft beq_ff cond_or cond_and e_round e_meet Int.le_refl Int.toNat_zero decide_true decide_false Bool.or_false Bool.false_or Bool.true_or Bool.or_true Bool.and_false Bool.false_and Bool.bne_false Bool.bne_true beq_iff_eq Int.cast_ofNat_Int not_false_eq_true not_true_eq_false false_and and_false false_implies true_implies true_and and_true Bool.true_and Bool.and_true Bool.not_true Bool.not_false forall_const implies_true List.take_zero List.drop_zero List.take_succ_cons List.drop_succ_cons List.take_nil List.drop_nil List.length_cons List.length_nil List.nil_append List.append_nil List.cons_append Int.toNat_natCast decide_eq_true_eq decide_eq_false_iff_not cond_true cond_false and_self List.getElem?_cons_zero List.getElem?_cons_succ List.set_cons_zero List.set_cons_succ Option.some.injEq exists_eq_left' Nat.zero_add Nat.add_zero Nat.mul_one imp_self true_or or_true or_false false_or Bool.or_eq_true Bool.or_eq_false_iff Bool.and_eq_true Bool.and_eq_false_iff Bool.not_eq_true' Bool.not_eq_false'

def colsD (d : Da) : Nat := (d.nx.headD []).length
/-- an automaton that is accepted -/
structure VD (d : Da) : Prop where
  len : 1 ≤ d.nx.length ∧ d.nx.length ≤ 200
  acc : d.ac.length = d.nx.length
  cols : 1 ≤ colsD d ∧ colsD d ≤ 16
  row : ∀ r ∈ d.nx, r.length = colsD d
  st : 0 ≤ d.st ∧ d.st < d.nx.length
  ac : ∀ x ∈ d.ac, -1 ≤ x
  to : ∀ r ∈ d.nx, ∀ t ∈ r, -1 ≤ t ∧ t < d.nx.length
section
variable {Γr : Ctx} {d : Da} {A B : Option Addr} {c e : Nat}
end
end Go.Proofs.Ytniobbepliknmaa.V
/- Automata: dfa.Run, parlref5.Ends, teach.step walked; no condition. -/
namespace Go.Proofs.Ytniobbepliknmaa.V
open Go
set_option linter.unusedVariables false
set_option linter.unusedSimpArgs false
attribute [local go_sem] e_seq e_region e_quiet e_join e_loop e_cond e_block e_exit e_ret e_skip e_fin e_kseq e_snrm e_sret e_sex e_bnrm e_bret e_bex e_rnrm e_rret e_res e_condC e_nil e_g e_mv g_mv e_pick g_pick pickC_eq e_ibin g_ibin ibinC_eq e_sbin g_sbin e_beq g_beq beqC_eq e_nilq g_nilq nilqC_sl nilqC_pt nilqC_mp e_un g_un unC_not unC_neg e_conv g_conv convC_eq e_fld g_fld fldC_ref fldC_ptr e_nilCheck g_nilCheck nilCheckC_ref nilCheckC_ptr nilCheckC_fun e_field g_field fieldC_eq e_len g_len lenC_sl lenC_str e_extract g_extract extractC_eq e_mkFunc e_build g_build e_idiv g_idiv idivC_eq e_ishift g_ishift ishiftC_eq e_idx g_idx e_idxA g_idxA e_load g_load e_loadB g_loadB atB_ref atB_v g_mkFunc loadC_ref loadC_ptr loadB_eq e_slc g_slc e_box boxC_loc boxC_esc e_alloc allocC_loc allocC_esc e_buildS e_store storeC_ref storeC_ptr storeB_eq e_append e_appz e_mk mkC_eq e_call callC_eq e_fn g_fn fnC_eq fnV_min' fnV_max' fnV_rune' e_q g_q e_a e_n g_call g_box g_alloc g_buildS g_store g_append g_mk g_a g_n g_dead e_dead e_callK e_drawn e_tree e_finJ e_tk e_tfin e_tno e_nbt_q e_nbt_qn e_nbt_a e_nbt_an e_nbt_fin e_drawnB e_bxb_nil e_bxb e_stB_none e_stB_some boxSt_store bs_mv bs_pick bs_ibin bs_idiv bs_ishift bs_sbin bs_beq bs_nilq bs_un bs_conv bs_box bs_alloc bs_build bs_buildS bs_load bs_fld bs_nilCheck bs_idx bs_idxA bs_field bs_slc bs_len bs_append bs_appz bs_mk bs_call bs_extract bs_mkFunc bs_fn bs_q bs_a bs_n bs_loadB bs_dead isBox_box e_early_nil e_early_t e_early_f e_nob_nil e_nob_none e_nob_some isBox_dead isBox_v isBox_ref e_dnil e_dk e_ek e_finB vcOps_vc1 e_dcons e_tq e_ekt e_tearly e_talt e_dearly look_nil look_c proj_nil proj_c looks_nil looks_c zip_nil zip_c val_tmp val_const val_func slv_v slv_box slv_ref slot_tmp slot_const slot_func slotL_v slotL_box slotL_ref put_some put_none updBox_c boxSet_box gd_eq slotVals_nil slotVals_c slotVals_b boxV_box boxOn_box slotsOn_nil slotsOn_c slotsOn_b resV_one resV_two vals_nil vals_c allOn_nil allOn_c partOn_nil partOn_c partVals_nil partVals_c fits_nil fits_c fillL_nil fillL_c mkv_one mkv_agg cellsV_agg cellsV_int cellsV_bool cellsV_slice cellsV_string cellsV_pointer cellsV_func cellsV_nilf cellsV_map one'_nil one'_c oc_int oc_bool oc_slice oc_string oc_pointer oc_func oc_nilf oc_map setC_eq iv_add iv_sub iv_mul iv_eql iv_neq iv_lss iv_leq iv_gtr iv_geq iok_add iok_sub iok_mul iok_eql iok_neq iok_lss iok_leq iok_gtr iok_geq pickV_bool args0_nil args0_c bnd_none bnd_some imp_bt imp_bf imp_ebt imp_ebf imp_eb1 imp_np imp_pp beq_tt beq_tf beq_ft beq_ff cond_or cond_and e_round e_meet Int.le_refl Int.toNat_zero decide_true decide_false Bool.or_false Bool.false_or Bool.true_or Bool.or_true Bool.and_false Bool.false_and Bool.bne_false Bool.bne_true beq_iff_eq Int.cast_ofNat_Int not_false_eq_true not_true_eq_false false_and and_false false_implies true_implies true_and and_true Bool.true_and Bool.and_true Bool.not_true Bool.not_false forall_const implies_true List.take_zero List.drop_zero List.take_succ_cons List.drop_succ_cons List.take_nil List.drop_nil List.length_cons List.length_nil List.nil_append List.append_nil List.cons_append Int.toNat_natCast decide_eq_true_eq decide_eq_false_iff_not cond_true cond_false and_self List.getElem?_cons_zero List.getElem?_cons_succ List.set_cons_zero List.set_cons_succ Option.some.injEq exists_eq_left' Nat.zero_add Nat.add_zero Nat.mul_one imp_self true_or or_true or_false false_or Bool.or_eq_true Bool.or_eq_false_iff Bool.and_eq_true Bool.and_eq_false_iff Bool.not_eq_true' Bool.not_eq_false'

def stepD (d : Da) (s x : Int) : Int := (d.nx.getD s.toNat []).getD x.toNat 0
def accD (d : Da) (s : Int) : Int := d.ac.getD s.toNat 0
theorem VD.step {d : Da} (V : VD d) {s x : Int} (hs : 0 ≤ s ∧ s < d.nx.length) (hx : 0 ≤ x ∧ x < colsD d) : -1 ≤ stepD d s x ∧ stepD d s x < d.nx.length := by
  have h1 : s.toNat < d.nx.length := by omega
  have h2 := V.row _ (List.getElem_mem h1)
  have h3 : x.toNat < d.nx[s.toNat].length := by omega
  have e : stepD d s x = d.nx[s.toNat][x.toNat] := by simp [stepD, h1, h3]
  rw [e]
  exact V.to _ (List.getElem_mem h1) _ (List.getElem_mem h3)
/-- symbols of the automaton -/
def okW (d : Da) (w : List Int) : Prop := ∀ x ∈ w, 0 ≤ x ∧ x < colsD d
section
variable {Γr : Ctx} {d : Da} {A B : Option Addr} {c e : Nat}
end
end Go.Proofs.Ytniobbepliknmaa.V
/- Lengths of words, item by item: the plain law; no condition. -/
namespace Go.Proofs.Ytniobbepliknmaa.V
open Go
set_option linter.unusedVariables false
set_option linter.unusedSimpArgs false

theorem nodup_bound : ∀ (M : Nat) (l : List Nat), l.Nodup → (∀ x ∈ l, x < M) → l.length ≤ M
  | 0, [], _, _ => Nat.le_refl _
  | 0, x :: l, _, h => by have := h x (by simp); omega
  | M + 1, l, hn, h => by
    have h1 := nodup_bound M (l.erase M) (hn.erase M) (fun x hx => by
      rw [hn.mem_erase_iff] at hx
      have := h x hx.2
      have := hx.1
      omega)
    rw [List.length_erase] at h1
    split at h1 <;> omega
end Go.Proofs.Ytniobbepliknmaa.V
/- Two automata side by side, the least word on which they differ: the plain law; no condition. -/
namespace Go.Proofs.Ytniobbepliknmaa.V
open Go
set_option linter.unusedVariables false
set_option linter.unusedSimpArgs false

/-! words, shorter ones first, then smaller ones -/
def lexLt : List Int → List Int → Prop
  | x :: v, y :: w => x < y ∨ (x = y ∧ lexLt v w)
  | _, _ => False
def LLt (v w : List Int) : Prop := v.length < w.length ∨ (v.length = w.length ∧ lexLt v w)
def LLe (v w : List Int) : Prop := v = w ∨ LLt v w
theorem lexLt_trans : ∀ {u v w : List Int}, lexLt u v → lexLt v w → lexLt u w
  | [], v, w, h, _ => by cases v <;> exact h.elim
  | x :: u, [], w, h, _ => h.elim
  | x :: u, y :: v, [], _, h => h.elim
  | x :: u, y :: v, z :: w, h1, h2 => by
    simp only [lexLt] at *
    rcases h1 with h1 | ⟨rfl, h1⟩
    · rcases h2 with h2 | ⟨rfl, h2⟩
      · exact .inl (by omega)
      · exact .inl h1
    · rcases h2 with h2 | ⟨rfl, h2⟩
      · exact .inl h2
      · exact .inr ⟨rfl, lexLt_trans h1 h2⟩
theorem lexLt_app : ∀ {v w : List Int} (a b : List Int), lexLt v w → v.length = w.length → lexLt (v ++ a) (w ++ b)
  | [], w, a, b, h, _ => by cases w <;> exact h.elim
  | x :: v, [], a, b, h, _ => h.elim
  | x :: v, y :: w, a, b, h, hl => by
    simp only [lexLt, List.cons_append] at *
    rcases h with h | ⟨rfl, h⟩
    · exact .inl h
    · exact .inr ⟨rfl, lexLt_app a b h (by simpa using hl)⟩
theorem lexLt_snoc : ∀ (v : List Int) {a b : Int}, a < b → lexLt (v ++ [a]) (v ++ [b])
  | [], a, b, h => by simp [lexLt, h]
  | x :: v, a, b, h => by simp only [lexLt, List.cons_append, true_and]; exact .inr (lexLt_snoc v h)
theorem LLt.trans {u v w : List Int} (h1 : LLt u v) (h2 : LLt v w) : LLt u w := by
  rcases h1 with h1 | ⟨h1, q1⟩
  · rcases h2 with h2 | ⟨h2, q2⟩
    · exact .inl (by omega)
    · exact .inl (by omega)
  · rcases h2 with h2 | ⟨h2, q2⟩
    · exact .inl (by omega)
    · exact .inr ⟨by omega, lexLt_trans q1 q2⟩
theorem LLe.trans {u v w : List Int} (h1 : LLe u v) (h2 : LLe v w) : LLe u w := by
  rcases h1 with rfl | h1
  · exact h2
  · rcases h2 with rfl | h2
    · exact .inr h1
    · exact .inr (h1.trans h2)
theorem LLe.pre (v u : List Int) : LLe v (v ++ u) := by
  cases u with
  | nil => exact .inl (by simp)
  | cons x u => exact .inr (.inl (by simp))
theorem LLt.snoc {v w : List Int} (h : LLt v w) (a b : Int) : LLt (v ++ [a]) (w ++ [b]) := by
  rcases h with h | ⟨h, q⟩
  · exact .inl (by simp; omega)
  · exact .inr ⟨by simp; omega, lexLt_app _ _ q h⟩
theorem LLt.last (v : List Int) {a b : Int} (h : a < b) : LLt (v ++ [a]) (v ++ [b]) := .inr ⟨by simp, lexLt_snoc v h⟩
theorem LLe.snoc {v w : List Int} (h : LLe v w) (a : Int) : LLe (v ++ [a]) (w ++ [a]) := by
  rcases h with rfl | h
  · exact .inl rfl
  · exact .inr (h.snoc a a)

/-! pairs of states -/
def nxt (d : Da) (s x : Int) : Int := if s < 0 then -1 else stepD d s x
def accP (d : Da) (s : Int) : Bool := decide (0 ≤ s) && decide (0 ≤ accD d s)
def goD (d : Da) (s : Int) (w : List Int) : Int := w.foldl (nxt d) s
theorem go_snoc (d : Da) (s : Int) (w : List Int) (x : Int) : goD d s (w ++ [x]) = nxt d (goD d s w) x := by simp [goD]
/-- after this word just one of them accepts -/
def Dif (x y : Da) (w : List Int) : Prop := accP x (goD x x.st w) ≠ accP y (goD y y.st w)
def NoW (x y : Da) : Prop := ∀ v, okW x v → ¬ Dif x y v
/-! pair by pair -/
structure PR where
  a : Int
  b : Int
  f : Int
  c : Int
def PR.key (r : PR) : List Int := [r.a, r.b]
structure BFS (x y : Da) (R : List PR) (Ws : List (List Int)) (i c : Nat) : Prop where
  len : Ws.length = R.length
  zero : R[0]? = some ⟨x.st, y.st, -1, 0⟩ ∧ Ws[0]? = some []
  chain : ∀ (j : Nat) r, R[j]? = some r → 0 < j → ∃ m : Nat, r.f = m ∧ m < j ∧ ∃ u, Ws[m]? = some u ∧ Ws[j]? = some (u ++ [r.c])
  st : ∀ (j : Nat) r w, R[j]? = some r → Ws[j]? = some w → r.a = goD x x.st w ∧ r.b = goD y y.st w ∧ okW x w
  inc : ∀ (j k : Nat) v w, j < k → Ws[j]? = some v → Ws[k]? = some w → LLt v w
  nod : (R.map PR.key).Nodup
  cl : ∀ (j : Nat) r w, R[j]? = some r → Ws[j]? = some w → j < i → ∀ s : Nat, (s : Int) < colsD x → ∃ (m : Nat) (r' : PR) (w' : List Int), R[m]? = some r' ∧ Ws[m]? = some w' ∧ r'.a = nxt x r.a s ∧ r'.b = nxt y r.b s ∧ LLe w' (w ++ [(s : Int)])
  cli : ∀ r w, R[i]? = some r → Ws[i]? = some w → ∀ s : Nat, s < c → ∃ (m : Nat) (r' : PR) (w' : List Int), R[m]? = some r' ∧ Ws[m]? = some w' ∧ r'.a = nxt x r.a s ∧ r'.b = nxt y r.b s ∧ LLe w' (w ++ [(s : Int)])
  last : ∀ wi, Ws[i]? = some wi → ∀ w ∈ Ws, LLt w (wi ++ [(c : Int)])
  nd : ∀ (j : Nat) r, R[j]? = some r → j < i → accP x r.a = accP y r.b
theorem BFS.at' {x y : Da} {R : List PR} {Ws : List (List Int)} {i c : Nat} (h : BFS x y R Ws i c) {j : Nat} (hj : j < R.length) : ∃ w, Ws[j]? = some w := ⟨Ws[j]'(by rw [h.len]; exact hj), List.getElem?_eq_getElem _⟩
/-- the entry is worked on: its next symbol -/
theorem BFS.seen {x y : Da} {R : List PR} {Ws : List (List Int)} {i c : Nat} (h : BFS x y R Ws i c) {r : PR} (hr : R[i]? = some r) (hs : [nxt x r.a c, nxt y r.b c] ∈ R.map PR.key) : BFS x y R Ws i (c + 1) := by
  obtain ⟨r', hr', hk⟩ := List.mem_map.1 hs
  obtain ⟨m, hm⟩ := List.getElem?_of_mem hr'
  obtain ⟨w', hw'⟩ := h.at' (List.getElem?_eq_some_iff.1 hm).1
  simp only [PR.key, List.cons.injEq, and_true] at hk
  refine { h with cli := fun r2 w hr2 hw s hsc => ?_, last := fun wi hwi w hw => ?_ }
  · by_cases e : s = c
    · subst e
      rw [hr] at hr2
      cases hr2
      exact ⟨m, r', w', hm, hw', hk.1, hk.2, .inr (h.last w hw w' (List.mem_of_getElem? hw'))⟩
    · exact h.cli r2 w hr2 hw s (by omega)
  · exact (h.last wi hwi w hw).trans (LLt.last wi (by omega))
theorem BFS.add {x y : Da} {R : List PR} {Ws : List (List Int)} {i c : Nat} (h : BFS x y R Ws i c) {r : PR} (hr : R[i]? = some r) (hc : (c : Int) < colsD x) (hs : [nxt x r.a c, nxt y r.b c] ∉ R.map PR.key) : ∃ w, BFS x y (R ++ [⟨nxt x r.a c, nxt y r.b c, i, c⟩]) (Ws ++ [w]) i (c + 1) := by
  have hil := (List.getElem?_eq_some_iff.1 hr).1
  obtain ⟨wi, hwi⟩ := h.at' hil
  have hl := h.len
  have hsti := h.st i r wi hr hwi
  have old : ∀ {α : Type} {l : List α} {z q : α} {j : Nat}, (l ++ [z])[j]? = some q → j < l.length → l[j]? = some q := fun h1 h2 => by rwa [List.getElem?_append_left h2] at h1
  have new : ∀ {α : Type} {l : List α} {z q : α} {j : Nat}, (l ++ [z])[j]? = some q → ¬ j < l.length → j = l.length ∧ q = z := fun h1 h2 => by
    rw [List.getElem?_append_right (by omega)] at h1
    rename_i l z q j
    have : j - l.length < 1 := by have := (List.getElem?_eq_some_iff.1 h1).1; simpa using this
    have e : j - l.length = 0 := by omega
    rw [e] at h1
    simp at h1
    exact ⟨by omega, h1.symm⟩
  have up : ∀ {α : Type} {l : List α} {z q : α} {j : Nat}, l[j]? = some q → (l ++ [z])[j]? = some q := fun h1 => by
    rw [List.getElem?_append_left (List.getElem?_eq_some_iff.1 h1).1]; exact h1
  refine ⟨wi ++ [(c : Int)], ?_⟩
  refine
    { len := by simp [hl]
      zero := ⟨up h.zero.1, up h.zero.2⟩
      chain := fun j q hq h0 => ?_
      st := fun j q w hq hw => ?_
      inc := fun j k v w hjk hv hw => ?_
      nod := ?_
      cl := fun j q w hq hw hji s hsc => ?_
      cli := fun q w hq hw s hsc => ?_
      last := fun w hw v hv => ?_
      nd := fun j q hq hji => h.nd j q (old hq (by omega)) hji }
  · by_cases hj : j < R.length
    · obtain ⟨m, h1, h2, u, h3, h4⟩ := h.chain j q (old hq hj) h0
      exact ⟨m, h1, h2, u, up h3, up h4⟩
    · obtain ⟨rfl, rfl⟩ := new hq hj
      exact ⟨i, rfl, hil, wi, up hwi, by rw [← hl]; simp⟩
  · by_cases hj : j < R.length
    · exact h.st j q w (old hq hj) (old hw (by omega))
    · obtain ⟨rfl, rfl⟩ := new hq hj
      obtain ⟨_, rfl⟩ := new hw (by omega)
      refine ⟨by rw [go_snoc, ← hsti.1], by rw [go_snoc, ← hsti.2.1], fun z hz => ?_⟩
      rcases List.mem_append.1 hz with hz | hz
      · exact hsti.2.2 z hz
      · simp at hz; subst hz; exact ⟨by omega, hc⟩
  · by_cases hk : k < R.length
    · exact h.inc j k v w hjk (old hv (by omega)) (old hw (by omega))
    · obtain ⟨_, rfl⟩ := new hw (by omega)
      exact h.last wi hwi v (List.mem_of_getElem? (old hv (by have := (List.getElem?_eq_some_iff.1 hw).1; simp at this; omega)))
  · rw [List.map_append, List.nodup_append]
    refine ⟨h.nod, by simp, ?_⟩
    rintro u hu v hv rfl
    simp only [List.map_cons, List.map_nil, List.mem_singleton] at hv
    subst hv
    exact hs hu
  · obtain ⟨m, r', w', h1, h2, h3⟩ := h.cl j q w (old hq (by omega)) (old hw (by omega)) hji s hsc
    exact ⟨m, r', w', up h1, up h2, h3⟩
  · have hq' := old hq hil
    have hw' := old hw (by omega)
    by_cases e : s = c
    · subst e
      rw [hr] at hq'
      cases hq'
      rw [hwi] at hw'
      cases hw'
      exact ⟨R.length, ⟨nxt x r.a s, nxt y r.b s, i, s⟩, wi ++ [(s : Int)], by simp, by rw [← hl]; simp, rfl, rfl, .inl rfl⟩
    · obtain ⟨m, r', w', h1, h2, h3⟩ := h.cli q w hq' hw' s (by omega)
      exact ⟨m, r', w', up h1, up h2, h3⟩
  · have hw' := old hw (by omega)
    rw [hwi] at hw'
    cases hw'
    rcases List.mem_append.1 hv with hv | hv
    · exact (h.last wi hwi v hv).trans (LLt.last wi (by omega))
    · simp at hv; subst hv; exact LLt.last wi (by omega)
theorem BFS.next {x y : Da} {R : List PR} {Ws : List (List Int)} {i : Nat} (h : BFS x y R Ws i (colsD x)) {r : PR} (hr : R[i]? = some r) (hnd : accP x r.a = accP y r.b) : BFS x y R Ws (i + 1) 0 := by
  have hil := (List.getElem?_eq_some_iff.1 hr).1
  obtain ⟨wi, hwi⟩ := h.at' hil
  refine { h with cl := fun j q w hq hw hji s hsc => ?_, cli := fun _ _ _ _ s h => by omega, last := fun w hw v hv => ?_, nd := fun j q hq hji => ?_ }
  · by_cases e : j = i
    · subst e; exact h.cli q w hq hw s (by omega)
    · exact h.cl j q w hq hw (by omega) s hsc
  · exact (h.last wi hwi v hv).trans ((h.inc i (i + 1) wi w (by omega) hwi hw).snoc _ _)
  · by_cases e : j = i
    · subst e; rw [hr] at hq; cases hq; exact hnd
    · exact h.nd j q hq (by omega)
/-- where each word leads -/
theorem BFS.reach {x y : Da} {R : List PR} {Ws : List (List Int)} {i : Nat} (h : BFS x y R Ws i 0) (v : List Int) : okW x v.reverse →
    (∃ (j : Nat) (r : PR) (w : List Int), j < i ∧ R[j]? = some r ∧ Ws[j]? = some w ∧ r.a = goD x x.st v.reverse ∧ r.b = goD y y.st v.reverse ∧ LLe w v.reverse) ∨
    (∃ (j : Nat) (w p u : List Int), i ≤ j ∧ Ws[j]? = some w ∧ v.reverse = p ++ u ∧ LLe w p) := by
  induction v with
  | nil =>
    intro _
    by_cases hi : 0 < i
    · exact .inl ⟨0, _, [], hi, h.zero.1, h.zero.2, rfl, rfl, .inl rfl⟩
    · exact .inr ⟨0, [], [], [], by omega, h.zero.2, rfl, .inl rfl⟩
  | cons c v ih =>
    intro hok
    rw [List.reverse_cons] at hok ⊢
    have hc := hok c (by simp)
    rcases ih (fun z hz => hok z (List.mem_append_left _ hz)) with ⟨j, r, w, hj, hr, hw, ha, hb, hle⟩ | ⟨j, w, p, u, hj, hw, he, hle⟩
    · obtain ⟨s, rfl⟩ : ∃ s : Nat, c = s := ⟨c.toNat, by omega⟩
      obtain ⟨m, r', w', h1, h2, h3, h4, h5⟩ := h.cl j r w hr hw hj s hc.2
      have hle2 : LLe w' (v.reverse ++ [(s : Int)]) := h5.trans (hle.snoc _)
      by_cases hm : m < i
      · exact .inl ⟨m, r', w', hm, h1, h2, by rw [go_snoc, ← ha, h3], by rw [go_snoc, ← hb, h4], hle2⟩
      · exact .inr ⟨m, w', _, [], by omega, h2, by simp, hle2⟩
    · exact .inr ⟨j, w, p, u ++ [c], hj, hw, by rw [he, List.append_assoc], hle⟩
theorem BFS.none {x y : Da} {R : List PR} {Ws : List (List Int)} {i : Nat} (h : BFS x y R Ws i 0) (hi : R.length ≤ i) : NoW x y := by
  intro v hv hdv
  have := h.reach v.reverse (by rwa [List.reverse_reverse])
  rw [List.reverse_reverse] at this
  rcases this with ⟨j, r', w', hj, h1, h2, h3, h4, h5⟩ | ⟨j, w', p, u, hj, h2, he, h5⟩
  · exact hdv (by have := h.nd j r' h1 hj; rw [h3, h4] at this; exact this)
  · have := (List.getElem?_eq_some_iff.1 h2).1
    rw [h.len] at this
    omega
/-! by how far they are from a difference -/
def fr (F : List (List Int)) (a b : Nat) : Int := (F.getD a []).getD b 0
theorem BFS.short {x y : Da} {R : List PR} {Ws : List (List Int)} {i c : Nat} (h : BFS x y R Ws i c) : ∀ (j : Nat) w, Ws[j]? = some w → w.length ≤ j := by
  intro j
  induction j using Nat.strongRecOn with
  | ind j ih =>
    intro w hw
    by_cases h0 : 0 < j
    · have hj : j < R.length := by rw [← h.len]; exact (List.getElem?_eq_some_iff.1 hw).1
      obtain ⟨m, _, hm, u, hu, hwu⟩ := h.chain j R[j] (List.getElem?_eq_getElem hj) h0
      rw [hw] at hwu
      cases hwu
      have := ih m hm u hu
      simp
      omega
    · have : j = 0 := by omega
      subst this
      rw [h.zero.2] at hw
      cases hw
      simp
end Go.Proofs.Ytniobbepliknmaa.V
/- Two automata side by side: teach.way, teach.Differ walked; no condition. -/
namespace Go.Proofs.Ytniobbepliknmaa.V
open Go
set_option linter.unusedVariables false
set_option linter.unusedSimpArgs false
attribute [local go_sem] e_seq e_region e_quiet e_join e_loop e_cond e_block e_exit e_ret e_skip e_fin e_kseq e_snrm e_sret e_sex e_bnrm e_bret e_bex e_rnrm e_rret e_res e_condC e_nil e_g e_mv g_mv e_pick g_pick pickC_eq e_ibin g_ibin ibinC_eq e_sbin g_sbin e_beq g_beq beqC_eq e_nilq g_nilq nilqC_sl nilqC_pt nilqC_mp e_un g_un unC_not unC_neg e_conv g_conv convC_eq e_fld g_fld fldC_ref fldC_ptr e_nilCheck g_nilCheck nilCheckC_ref nilCheckC_ptr nilCheckC_fun e_field g_field fieldC_eq e_len g_len lenC_sl lenC_str e_extract g_extract extractC_eq e_mkFunc e_build g_build e_idiv g_idiv idivC_eq e_ishift g_ishift ishiftC_eq e_idx g_idx e_idxA g_idxA e_load g_load e_loadB g_loadB atB_ref atB_v g_mkFunc loadC_ref loadC_ptr loadB_eq e_slc g_slc e_box boxC_loc boxC_esc e_alloc allocC_loc allocC_esc e_buildS e_store storeC_ref storeC_ptr storeB_eq e_append e_appz e_mk mkC_eq e_call callC_eq e_fn g_fn fnC_eq fnV_min' fnV_max' fnV_rune' e_q g_q e_a e_n g_call g_box g_alloc g_buildS g_store g_append g_mk g_a g_n g_dead e_dead e_callK e_drawn e_tree e_finJ e_tk e_tfin e_tno e_nbt_q e_nbt_qn e_nbt_a e_nbt_an e_nbt_fin e_drawnB e_bxb_nil e_bxb e_stB_none e_stB_some boxSt_store bs_mv bs_pick bs_ibin bs_idiv bs_ishift bs_sbin bs_beq bs_nilq bs_un bs_conv bs_box bs_alloc bs_build bs_buildS bs_load bs_fld bs_nilCheck bs_idx bs_idxA bs_field bs_slc bs_len bs_append bs_appz bs_mk bs_call bs_extract bs_mkFunc bs_fn bs_q bs_a bs_n bs_loadB bs_dead isBox_box e_early_nil e_early_t e_early_f e_nob_nil e_nob_none e_nob_some isBox_dead isBox_v isBox_ref e_dnil e_dk e_ek e_finB vcOps_vc1 e_dcons e_tq e_ekt e_tearly e_talt e_dearly look_nil look_c proj_nil proj_c looks_nil looks_c zip_nil zip_c val_tmp val_const val_func slv_v slv_box slv_ref slot_tmp slot_const slot_func slotL_v slotL_box slotL_ref put_some put_none updBox_c boxSet_box gd_eq slotVals_nil slotVals_c slotVals_b boxV_box boxOn_box slotsOn_nil slotsOn_c slotsOn_b resV_one resV_two vals_nil vals_c allOn_nil allOn_c partOn_nil partOn_c partVals_nil partVals_c fits_nil fits_c fillL_nil fillL_c mkv_one mkv_agg cellsV_agg cellsV_int cellsV_bool cellsV_slice cellsV_string cellsV_pointer cellsV_func cellsV_nilf cellsV_map one'_nil one'_c oc_int oc_bool oc_slice oc_string oc_pointer oc_func oc_nilf oc_map setC_eq iv_add iv_sub iv_mul iv_eql iv_neq iv_lss iv_leq iv_gtr iv_geq iok_add iok_sub iok_mul iok_eql iok_neq iok_lss iok_leq iok_gtr iok_geq pickV_bool args0_nil args0_c bnd_none bnd_some imp_bt imp_bf imp_ebt imp_ebf imp_eb1 imp_np imp_pp beq_tt beq_tf beq_ft beq_ff cond_or cond_and e_round e_meet Int.le_refl Int.toNat_zero decide_true decide_false Bool.or_false Bool.false_or Bool.true_or Bool.or_true Bool.and_false Bool.false_and Bool.bne_false Bool.bne_true beq_iff_eq Int.cast_ofNat_Int not_false_eq_true not_true_eq_false false_and and_false false_implies true_implies true_and and_true Bool.true_and Bool.and_true Bool.not_true Bool.not_false forall_const implies_true List.take_zero List.drop_zero List.take_succ_cons List.drop_succ_cons List.take_nil List.drop_nil List.length_cons List.length_nil List.nil_append List.append_nil List.cons_append Int.toNat_natCast decide_eq_true_eq decide_eq_false_iff_not cond_true cond_false and_self List.getElem?_cons_zero List.getElem?_cons_succ List.set_cons_zero List.set_cons_succ Option.some.injEq exists_eq_left' Nat.zero_add Nat.add_zero Nat.mul_one imp_self true_or or_true or_false false_or Bool.or_eq_true Bool.or_eq_false_iff Bool.and_eq_true Bool.and_eq_false_iff Bool.not_eq_true' Bool.not_eq_false'

instance : Rep PR where
  sz := 4
  ok _ x cs := cs = [.int .i64 x.a, .int .i64 x.b, .int .i64 x.f, .int .i64 x.c]
  len h := by subst h; rfl
  one h := by subst h; simp [one', Value.oneCell']
  mono h _ := h
end Go.Proofs.Ytniobbepliknmaa.V
/- A teacher: teach.New, Symbols, Member, Equal, Asked walked; no condition. -/
namespace Go.Proofs.Ytniobbepliknmaa.V
open Go
set_option linter.unusedVariables false
set_option linter.unusedSimpArgs false
attribute [local go_sem] e_seq e_region e_quiet e_join e_loop e_cond e_block e_exit e_ret e_skip e_fin e_kseq e_snrm e_sret e_sex e_bnrm e_bret e_bex e_rnrm e_rret e_res e_condC e_nil e_g e_mv g_mv e_pick g_pick pickC_eq e_ibin g_ibin ibinC_eq e_sbin g_sbin e_beq g_beq beqC_eq e_nilq g_nilq nilqC_sl nilqC_pt nilqC_mp e_un g_un unC_not unC_neg e_conv g_conv convC_eq e_fld g_fld fldC_ref fldC_ptr e_nilCheck g_nilCheck nilCheckC_ref nilCheckC_ptr nilCheckC_fun e_field g_field fieldC_eq e_len g_len lenC_sl lenC_str e_extract g_extract extractC_eq e_mkFunc e_build g_build e_idiv g_idiv idivC_eq e_ishift g_ishift ishiftC_eq e_idx g_idx e_idxA g_idxA e_load g_load e_loadB g_loadB atB_ref atB_v g_mkFunc loadC_ref loadC_ptr loadB_eq e_slc g_slc e_box boxC_loc boxC_esc e_alloc allocC_loc allocC_esc e_buildS e_store storeC_ref storeC_ptr storeB_eq e_append e_appz e_mk mkC_eq e_call callC_eq e_fn g_fn fnC_eq fnV_min' fnV_max' fnV_rune' e_q g_q e_a e_n g_call g_box g_alloc g_buildS g_store g_append g_mk g_a g_n g_dead e_dead e_callK e_drawn e_tree e_finJ e_tk e_tfin e_tno e_nbt_q e_nbt_qn e_nbt_a e_nbt_an e_nbt_fin e_drawnB e_bxb_nil e_bxb e_stB_none e_stB_some boxSt_store bs_mv bs_pick bs_ibin bs_idiv bs_ishift bs_sbin bs_beq bs_nilq bs_un bs_conv bs_box bs_alloc bs_build bs_buildS bs_load bs_fld bs_nilCheck bs_idx bs_idxA bs_field bs_slc bs_len bs_append bs_appz bs_mk bs_call bs_extract bs_mkFunc bs_fn bs_q bs_a bs_n bs_loadB bs_dead isBox_box e_early_nil e_early_t e_early_f e_nob_nil e_nob_none e_nob_some isBox_dead isBox_v isBox_ref e_dnil e_dk e_ek e_finB vcOps_vc1 e_dcons e_tq e_ekt e_tearly e_talt e_dearly look_nil look_c proj_nil proj_c looks_nil looks_c zip_nil zip_c val_tmp val_const val_func slv_v slv_box slv_ref slot_tmp slot_const slot_func slotL_v slotL_box slotL_ref put_some put_none updBox_c boxSet_box gd_eq slotVals_nil slotVals_c slotVals_b boxV_box boxOn_box slotsOn_nil slotsOn_c slotsOn_b resV_one resV_two vals_nil vals_c allOn_nil allOn_c partOn_nil partOn_c partVals_nil partVals_c fits_nil fits_c fillL_nil fillL_c mkv_one mkv_agg cellsV_agg cellsV_int cellsV_bool cellsV_slice cellsV_string cellsV_pointer cellsV_func cellsV_nilf cellsV_map one'_nil one'_c oc_int oc_bool oc_slice oc_string oc_pointer oc_func oc_nilf oc_map setC_eq iv_add iv_sub iv_mul iv_eql iv_neq iv_lss iv_leq iv_gtr iv_geq iok_add iok_sub iok_mul iok_eql iok_neq iok_lss iok_leq iok_gtr iok_geq pickV_bool args0_nil args0_c bnd_none bnd_some imp_bt imp_bf imp_ebt imp_ebf imp_eb1 imp_np imp_pp beq_tt beq_tf beq_ft beq_ff cond_or cond_and e_round e_meet Int.le_refl Int.toNat_zero decide_true decide_false Bool.or_false Bool.false_or Bool.true_or Bool.or_true Bool.and_false Bool.false_and Bool.bne_false Bool.bne_true beq_iff_eq Int.cast_ofNat_Int not_false_eq_true not_true_eq_false false_and and_false false_implies true_implies true_and and_true Bool.true_and Bool.and_true Bool.not_true Bool.not_false forall_const implies_true List.take_zero List.drop_zero List.take_succ_cons List.drop_succ_cons List.take_nil List.drop_nil List.length_cons List.length_nil List.nil_append List.append_nil List.cons_append Int.toNat_natCast decide_eq_true_eq decide_eq_false_iff_not cond_true cond_false and_self List.getElem?_cons_zero List.getElem?_cons_succ List.set_cons_zero List.set_cons_succ Option.some.injEq exists_eq_left' Nat.zero_add Nat.add_zero Nat.mul_one imp_self true_or or_true or_false false_or Bool.or_eq_true Bool.or_eq_false_iff Bool.and_eq_true Bool.and_eq_false_iff Bool.not_eq_true' Bool.not_eq_false'

/-- one part of a struct is stored -/
theorem s_storeF {P : Program} {Γr : Ctx} {r : List SOper} {φ : Fr} {Γ : Ctx} {K : Fr → Ctx → Prop} {g : PH} {b ix n o : Nat} {T : TypeId} {cs : List Value} {x : Value} (hg : Γ[ix]? = some g) (h : g b = some (.cells cs.toArray T (0, 0))) (ho : o + n ≤ cs.length)
    (hk : vcOps P Γr r φ (Γ.set ix (upd g b (.cells (setC cs o n x).toArray T))) K) : storeP P Γr r φ Γ K n b o x :=
  ⟨ix, g, _, T, hg, h, by simpa using ho, by simpa using hk⟩
theorem Ent.emp (Γ : Ctx) : Ent Γ (V.emp :: Γ) := by
  refine ⟨fun h hh k o hk => ?_, fun ha => List.pairwise_cons.2 ⟨fun x _ k => .inl rfl, ha⟩⟩
  rcases List.mem_cons.1 hh with rfl | hh
  · cases hk
  · exact ⟨h, hh, hk⟩
theorem Up.emp {Γ : Ctx} {Φ : Ctx → Prop} (h : Up (V.emp :: Γ) Φ) : Up Γ Φ := fun ha => by
  obtain ⟨Γ', h1, h2⟩ := h ((Ent.emp Γ).apart ha)
  exact ⟨Γ', (Ent.emp Γ).trans h1, h2⟩
section
variable {Γr : Ctx} {gp : PH} {p : Nat} {d : Da} {A B : Option Addr} {c e : Nat} {m q : Int}
end
end Go.Proofs.Ytniobbepliknmaa.V
/- A map is ranged over; how many keys it has; bytes that become a text; no condition. -/
namespace Go.Proofs.Ytniobbepliknmaa.V
open Go
set_option linter.unusedVariables false
set_option linter.unusedSimpArgs false
set_option linter.unusedSectionVars false
attribute [local go_sem] e_seq e_region e_quiet e_join e_loop e_cond e_block e_exit e_ret e_skip e_fin e_kseq e_snrm e_sret e_sex e_bnrm e_bret e_bex e_rnrm e_rret e_res e_condC e_nil e_g e_mv g_mv e_pick g_pick pickC_eq e_ibin g_ibin ibinC_eq e_sbin g_sbin e_beq g_beq beqC_eq e_nilq g_nilq nilqC_sl nilqC_pt nilqC_mp e_un g_un unC_not unC_neg e_conv g_conv convC_eq e_fld g_fld fldC_ref fldC_ptr e_nilCheck g_nilCheck nilCheckC_ref nilCheckC_ptr nilCheckC_fun e_field g_field fieldC_eq e_len g_len lenC_sl lenC_str e_extract g_extract extractC_eq e_mkFunc e_build g_build e_idiv g_idiv idivC_eq e_ishift g_ishift ishiftC_eq e_idx g_idx e_idxA g_idxA e_load g_load e_loadB g_loadB atB_ref atB_v g_mkFunc loadC_ref loadC_ptr loadB_eq e_slc g_slc e_box boxC_loc boxC_esc e_alloc allocC_loc allocC_esc e_buildS e_store storeC_ref storeC_ptr storeB_eq e_append e_appz e_mk mkC_eq e_call callC_eq e_fn g_fn fnC_eq fnV_min' fnV_max' fnV_rune' e_q g_q e_a e_n g_call g_box g_alloc g_buildS g_store g_append g_mk g_a g_n g_dead e_dead e_callK e_drawn e_tree e_finJ e_tk e_tfin e_tno e_nbt_q e_nbt_qn e_nbt_a e_nbt_an e_nbt_fin e_drawnB e_bxb_nil e_bxb e_stB_none e_stB_some boxSt_store bs_mv bs_pick bs_ibin bs_idiv bs_ishift bs_sbin bs_beq bs_nilq bs_un bs_conv bs_box bs_alloc bs_build bs_buildS bs_load bs_fld bs_nilCheck bs_idx bs_idxA bs_field bs_slc bs_len bs_append bs_appz bs_mk bs_call bs_extract bs_mkFunc bs_fn bs_q bs_a bs_n bs_loadB bs_dead isBox_box e_early_nil e_early_t e_early_f e_nob_nil e_nob_none e_nob_some isBox_dead isBox_v isBox_ref e_dnil e_dk e_ek e_finB vcOps_vc1 e_dcons e_tq e_ekt e_tearly e_talt e_dearly look_nil look_c proj_nil proj_c looks_nil looks_c zip_nil zip_c val_tmp val_const val_func slv_v slv_box slv_ref slot_tmp slot_const slot_func slotL_v slotL_box slotL_ref put_some put_none updBox_c boxSet_box gd_eq slotVals_nil slotVals_c slotVals_b boxV_box boxOn_box slotsOn_nil slotsOn_c slotsOn_b resV_one resV_two vals_nil vals_c allOn_nil allOn_c partOn_nil partOn_c partVals_nil partVals_c fits_nil fits_c fillL_nil fillL_c mkv_one mkv_agg cellsV_agg cellsV_int cellsV_bool cellsV_slice cellsV_string cellsV_pointer cellsV_func cellsV_nilf cellsV_map one'_nil one'_c oc_int oc_bool oc_slice oc_string oc_pointer oc_func oc_nilf oc_map setC_eq iv_add iv_sub iv_mul iv_eql iv_neq iv_lss iv_leq iv_gtr iv_geq iok_add iok_sub iok_mul iok_eql iok_neq iok_lss iok_leq iok_gtr iok_geq pickV_bool args0_nil args0_c bnd_none bnd_some imp_bt imp_bf imp_ebt imp_ebf imp_eb1 imp_np imp_pp beq_tt beq_tf beq_ft beq_ff cond_or cond_and e_round e_meet Int.le_refl Int.toNat_zero decide_true decide_false Bool.or_false Bool.false_or Bool.true_or Bool.or_true Bool.and_false Bool.false_and Bool.bne_false Bool.bne_true beq_iff_eq Int.cast_ofNat_Int not_false_eq_true not_true_eq_false false_and and_false false_implies true_implies true_and and_true Bool.true_and Bool.and_true Bool.not_true Bool.not_false forall_const implies_true List.take_zero List.drop_zero List.take_succ_cons List.drop_succ_cons List.take_nil List.drop_nil List.length_cons List.length_nil List.nil_append List.append_nil List.cons_append Int.toNat_natCast decide_eq_true_eq decide_eq_false_iff_not cond_true cond_false and_self List.getElem?_cons_zero List.getElem?_cons_succ List.set_cons_zero List.set_cons_succ Option.some.injEq exists_eq_left' Nat.zero_add Nat.add_zero Nat.mul_one imp_self true_or or_true or_false false_or Bool.or_eq_true Bool.or_eq_false_iff Bool.and_eq_true Bool.and_eq_false_iff Bool.not_eq_true' Bool.not_eq_false'

section
variable {α β : Type}
def kvs (es : List MapEntry) : List (Value × Value) := es.map fun e => (e.key, e.val)
def encs (eK : α → Value) (eV : β → Value) (l : List (α × β)) : List (Value × Value) := l.map fun p => (eK p.1, eV p.2)
/-- the iterator r over the map b: what is still to come -/
structure ItM (L : Mem) (g : PH) (r b : Nat) (eK : α → Value) (eV : β → Value) (left : List (α × β)) : Prop where
  at' : ∃ es clock seen, L b (.map es clock) ∧ Born es.toList clock ∧ g r = some (.mapIter (some b) clock seen clock) ∧ kvs (leftOf es seen).toList = encs eK eV left
theorem ItM.mono {L L' : Mem} {g g' : PH} {r b : Nat} {eK : α → Value} {eV : β → Value} {left : List (α × β)} (h : ItM L g r b eK eV left) (hl : Mem.le L L') (hg : Mem.le (lk [g]) (lk [g'])) : ItM L' g' r b eK eV left := by
  obtain ⟨es, c, s, h1, h2, h3, h4⟩ := h.at'
  exact ⟨es, c, s, hl _ _ h1, h2, lk_one.1 (hg _ _ (lk_one.2 h3)), h4⟩
end
section
variable {α β : Type}
variable {P : Program} {Γr : Ctx} {d : Option Nat} {rr : List SOper} {φ : Fr} {Γ : Ctx} {K : Fr → Ctx → Prop}
end
/-! m[k], .. = v, ..: the entry is laid first, and then written -/
section
variable {α β : Type} [DecidableEq α]
variable {P : Program} {Γr : Ctx} {d : Option Nat} {rr : List SOper} {φ : Fr} {Γ : Ctx} {K : Fr → Ctx → Prop}
end
/-! bytes -/
end Go.Proofs.Ytniobbepliknmaa.V
/- The text of parlance/parlref5.RuleFault as a statement (slots: 0 g, 1 g, 3 seen, 4 _, 5 r, 6 key, 7 _, 8 s, 9 most); no condition. -/
namespace Go.Proofs.Ytniobbepliknmaa.V
open Go
def S42_1 : Stmt :=
 .seq
 (.region
 [.mk (some 79) none (.fld 0 (.tmp 8)),.mk (some 80) none (.load false 1 (.tmp 79))]
 [1,3,6,8,9,46,47,48,71,72,73,80])
 (.cond (.tmp 80)
 (.seq
 (.region
 [.mk (some 81) none (.fld 0 (.tmp 1)),
 .mk (some 82) none (.load false 1 (.tmp 81)),.mk (some 9) none (.mv (.tmp 82))]
 [1,3,6,8,9,46,47,48,71,72,73])
 (.region
 [.mk (some 83) none (.mv (.tmp 6)),
 .mk (some 84) none
 (.fn Fk.cat [.tmp 83,.const (.string (ByteArray.mk (Array.mk [UInt8.ofNat 116])))]),
 .mk (some 6) none (.mv (.tmp 84))]
 [1,3,6,8,9,46,47,48,71,72,73]))
 (.region
 [.mk (some 85) none (.mv (.tmp 6)),
 .mk (some 86) none
 (.fn Fk.cat [.tmp 85,.const (.string (ByteArray.mk (Array.mk [UInt8.ofNat 110])))]),
 .mk (some 6) none (.mv (.tmp 86))]
 [1,3,6,8,9,46,47,48,71,72,73]))
def S42_2 : Stmt :=
 .seq
 (.seq
 (.region
 [.mk (some 87) none (.fld 1 (.tmp 8)),.mk (some 88) none (.load false 1 (.tmp 87)),
 .mk (some 89) none (.ibin .lss (.tmp 88) (.const (.int .i64 0))),
 .mk (some 90) none (.mv (.tmp 89)),
 .mk (some 91) (some (90,false)) (.fld 1 (.tmp 8)),
 .mk (some 92) (some (90,false)) (.load false 1 (.tmp 91)),
 .mk (some 93) (some (90,false)) (.mv (.tmp 9)),
 .mk (some 94) (some (90,false)) (.ibin .geq (.tmp 92) (.tmp 93)),
 .mk (some 95) none (.pick (.tmp 90) (.const (.bool true)) (.tmp 94))]
 [1,3,6,8,46,47,48,71,72,73,95])
 (.cond (.tmp 95)
 (.seq (.region [.mk (some 2) none (.mv (.const (.int .i64 3)))] [2]) .ret)
 .skip))
 (.region
 [.mk (some 96) none (.mv (.tmp 6)),.mk (some 97) none (.fld 1 (.tmp 8)),
 .mk (some 98) none (.load false 1 (.tmp 97)),
 .mk (some 99) none (.conv .i32 (.tmp 98)),
 .mk (some 100) none (.fn Fk.rune [.tmp 99]),
 .mk (some 101) none (.fn Fk.cat [.tmp 96,.tmp 100]),
 .mk (some 6) none (.mv (.tmp 101))]
 [1,3,6,46,47,48,71,72,73])
def S42_3 : Stmt :=
 .block 3
 (.seq
 (.region
 [.mk (some 75) none (.idx 2 (.tmp 71) (.tmp 73)),
 .mk (some 76) none (.load true 2 (.tmp 75)),
 .mk (some 8) none (.alloc true 39 (.agg (Array.mk [.bool false,.int .i64 0]))),
 .mk none none (.store 2 (.tmp 8) (.tmp 76))]
 [1,3,6,8,46,47,48,71,72,73])
 (.seq
 (.region
 [.mk (some 77) none (.fld 1 (.tmp 1)),
 .mk (some 78) none (.load false 1 (.tmp 77)),.mk (some 9) none (.mv (.tmp 78))]
 [1,3,6,8,9,46,47,48,71,72,73])
 (.join S42_1 S42_2 [6,9] [1,3,8,46,47,48,71,72,73])))
def S42_4 : Stmt :=
 .region
 [.mk (some 102) none (.ibin .add (.tmp 73) (.const (.int .i64 1))),
 .mk (some 73) none (.mv (.tmp 102))]
 [1,3,6,46,47,48,71,72,73]
def S42_5 : Stmt :=
 .seq
 (.region [.mk (some 74) none (.ibin .lss (.tmp 73) (.tmp 72))]
 [1,3,6,46,47,48,71,72,73,74])
 (.seq (.cond (.tmp 74) .skip (.exit 2))
 (.join S42_3 S42_4 [6] [1,3,46,47,48,71,72,73]))
def S42_6 : Stmt :=
 .seq
 (.region [.mk (some 49) none (.ibin .lss (.tmp 48) (.tmp 47))] [1,3,46,47,48,49])
 (.seq (.cond (.tmp 49) .skip (.exit 0))
 (.seq
 (.block 1
 (.seq
 (.region
 [.mk (some 50) none (.idx 2 (.tmp 46) (.tmp 48)),
 .mk (some 51) none (.load true 2 (.tmp 50)),
 .mk (some 5) none
 (.alloc true 37 (.agg (Array.mk [.int .i64 0,.slice none 0 0]))),
 .mk none none (.store 2 (.tmp 5) (.tmp 51))]
 [1,3,5,46,47,48])
 (.seq
 (.seq
 (.region
 [.mk (some 52) none (.fld 0 (.tmp 5)),
 .mk (some 53) none (.load false 1 (.tmp 52)),
 .mk (some 54) none
 (.ibin .lss (.tmp 53) (.const (.int .i64 0))),
 .mk (some 55) none (.mv (.tmp 54)),
 .mk (some 56) (some (55,false)) (.fld 0 (.tmp 5)),
 .mk (some 57) (some (55,false)) (.load false 1 (.tmp 56)),
 .mk (some 58) (some (55,false)) (.fld 1 (.tmp 1)),
 .mk (some 59) (some (55,false)) (.load false 1 (.tmp 58)),
 .mk (some 60) (some (55,false)) (.ibin .geq (.tmp 57) (.tmp 59)),
 .mk (some 61) none
 (.pick (.tmp 55) (.const (.bool true)) (.tmp 60))]
 [1,3,5,46,47,48,61])
 (.cond (.tmp 61)
 (.seq (.region [.mk (some 2) none (.mv (.const (.int .i64 3)))] [2])
 .ret)
 .skip))
 (.seq
 (.seq
 (.region
 [.mk (some 62) none (.fld 1 (.tmp 5)),
 .mk (some 63) none (.load false 1 (.tmp 62)),
 .mk (some 64) none (.len false (.tmp 63)),
 .mk (some 65) none
 (.ibin .gtr (.tmp 64) (.const (.int .i64 4)))]
 [1,3,5,46,47,48,65])
 (.cond (.tmp 65)
 (.seq
 (.region [.mk (some 2) none (.mv (.const (.int .i64 2)))] [2])
 .ret)
 .skip))
 (.seq
 (.region
 [.mk (some 66) none (.fld 0 (.tmp 5)),
 .mk (some 67) none (.load false 1 (.tmp 66)),
 .mk (some 68) none (.conv .i32 (.tmp 67)),
 .mk (some 69) none (.fn Fk.rune [.tmp 68]),
 .mk (some 6) none (.mv (.tmp 69))]
 [1,3,5,6,46,47,48])
 (.seq
 (.seq
 (.region
 [.mk (some 70) none (.fld 1 (.tmp 5)),
 .mk (some 71) none (.load false 1 (.tmp 70)),
 .mk (some 72) none (.len false (.tmp 71)),
 .mk (some 73) none (.mv (.const (.int .i64 0)))]
 [1,3,6,46,47,48,71,72,73])
 (.block 2 (.loop S42_5 [6,73] [1,3,46,47,48,71,72])))
 (.seq
 (.seq
 (.region
 [.mk (some 103) none (.mv (.tmp 3)),
 .mk (some 104) none (.mv (.tmp 6)),
 .mk (some 105) none (.q (Qk.look 118 false) [.tmp 103,.tmp 104])]
 [1,3,6,46,47,48,105])
 (.cond (.tmp 105)
 (.seq
 (.region [.mk (some 2) none (.mv (.const (.int .i64 6)))] [2])
 .ret)
 .skip))
 (.region
 [.mk (some 106) none (.mv (.tmp 3)),
 .mk (some 107) none (.mv (.tmp 6)),
 .mk none none
 (.a (Qk.upd 118) [.tmp 106,.tmp 107,.const (.bool true)])]
 [1,3,46,47,48]))))))))
 (.region
 [.mk (some 108) none (.ibin .add (.tmp 48) (.const (.int .i64 1))),
 .mk (some 48) none (.mv (.tmp 108))]
 [1,3,46,47,48])))
def S42_0 : Stmt :=
 .seq
 (.region
 [.mk (some 1) none (.box true 57 (.tmp 0)),
 .mk (some 2) none (.mv (.const (.int .i64 0)))]
 [1])
 (.seq
 (.seq
 (.region
 [.mk (some 10) none (.fld 0 (.tmp 1)),
 .mk (some 11) none (.load false 1 (.tmp 10)),
 .mk (some 12) none (.ibin .lss (.tmp 11) (.const (.int .i64 1))),
 .mk (some 13) none (.mv (.tmp 12)),
 .mk (some 14) (some (13,false)) (.fld 0 (.tmp 1)),
 .mk (some 15) (some (13,false)) (.load false 1 (.tmp 14)),
 .mk (some 16) (some (13,false))
 (.ibin .gtr (.tmp 15) (.const (.int .i64 8))),
 .mk (some 17) none (.pick (.tmp 13) (.const (.bool true)) (.tmp 16)),
 .mk (some 18) none (.mv (.tmp 17)),
 .mk (some 19) (some (18,false)) (.fld 1 (.tmp 1)),
 .mk (some 20) (some (18,false)) (.load false 1 (.tmp 19)),
 .mk (some 21) (some (18,false))
 (.ibin .lss (.tmp 20) (.const (.int .i64 1))),
 .mk (some 22) none (.pick (.tmp 18) (.const (.bool true)) (.tmp 21)),
 .mk (some 23) none (.mv (.tmp 22)),
 .mk (some 24) (some (23,false)) (.fld 1 (.tmp 1)),
 .mk (some 25) (some (23,false)) (.load false 1 (.tmp 24)),
 .mk (some 26) (some (23,false))
 (.ibin .gtr (.tmp 25) (.const (.int .i64 10))),
 .mk (some 27) none (.pick (.tmp 23) (.const (.bool true)) (.tmp 26)),
 .mk (some 28) none (.mv (.tmp 27)),
 .mk (some 29) (some (28,false)) (.fld 2 (.tmp 1)),
 .mk (some 30) (some (28,false)) (.load false 1 (.tmp 29)),
 .mk (some 31) (some (28,false))
 (.ibin .lss (.tmp 30) (.const (.int .i64 0))),
 .mk (some 32) none (.pick (.tmp 28) (.const (.bool true)) (.tmp 31)),
 .mk (some 33) none (.mv (.tmp 32)),
 .mk (some 34) (some (33,false)) (.fld 2 (.tmp 1)),
 .mk (some 35) (some (33,false)) (.load false 1 (.tmp 34)),
 .mk (some 36) (some (33,false)) (.fld 1 (.tmp 1)),
 .mk (some 37) (some (33,false)) (.load false 1 (.tmp 36)),
 .mk (some 38) (some (33,false)) (.ibin .geq (.tmp 35) (.tmp 37)),
 .mk (some 39) none (.pick (.tmp 33) (.const (.bool true)) (.tmp 38))]
 [1,39])
 (.cond (.tmp 39)
 (.seq (.region [.mk (some 2) none (.mv (.const (.int .i64 1)))] [2])
 .ret)
 .skip))
 (.seq
 (.seq
 (.region
 [.mk (some 40) none (.fld 3 (.tmp 1)),
 .mk (some 41) none (.load false 1 (.tmp 40)),
 .mk (some 42) none (.len false (.tmp 41)),
 .mk (some 43) none (.ibin .gtr (.tmp 42) (.const (.int .i64 32)))]
 [1,43])
 (.cond (.tmp 43)
 (.seq (.region [.mk (some 2) none (.mv (.const (.int .i64 2)))] [2])
 .ret)
 .skip))
 (.seq
 (.region
 [.mk (some 44) none (.n (Qk.mkmap 118) []),.mk (some 3) none (.mv (.tmp 44))] [1,3])
 (.seq
 (.seq
 (.region
 [.mk (some 45) none (.fld 3 (.tmp 1)),
 .mk (some 46) none (.load false 1 (.tmp 45)),
 .mk (some 47) none (.len false (.tmp 46)),
 .mk (some 48) none (.mv (.const (.int .i64 0)))]
 [1,3,46,47,48])
 (.block 0 (.loop S42_6 [48] [1,3,46,47])))
 (.seq (.region [.mk (some 2) none (.mv (.const (.int .i64 0)))] [2])
 .ret)))))
def S42 : FnS := ⟨109,[(2,none)],S42_0⟩
theorem tr42 : trFn Try.prog 42 [1,5,8] [[1],[1,39],[2],[1,43],[2],[1,3],[1,3,46,47,48],[48],[1,3,46,47],[1,3,46,47,48,49],[1,3,5,46,47,48],[1,3,5,46,47,48,61],[2],[1,3,5,46,47,48,65],[2],[1,3,5,6,46,47,48],[1,3,6,46,47,48,71,72,73],[6,73],[1,3,46,47,48,71,72],[1,3,6,46,47,48,71,72,73,74],[6],[1,3,46,47,48,71,72,73],[1,3,6,8,46,47,48,71,72,73],[1,3,6,8,9,46,47,48,71,72,73],[6,9],[1,3,8,46,47,48,71,72,73],[1,3,6,8,9,46,47,48,71,72,73,80],[1,3,6,8,9,46,47,48,71,72,73],[1,3,6,8,9,46,47,48,71,72,73],[1,3,6,8,9,46,47,48,71,72,73],[1,3,6,8,46,47,48,71,72,73,95],[2],[1,3,6,46,47,48,71,72,73],[1,3,6,46,47,48,71,72,73],[1,3,6,46,47,48,105],[2],[1,3,46,47,48],[1,3,46,47,48],[2]] = some S42 := by kernel_rfl
end Go.Proofs.Ytniobbepliknmaa.V
/- Grammars are checked once more: parlref5.RuleFault walked; no condition. -/
namespace Go.Proofs.Ytniobbepliknmaa.V
open Go
set_option linter.unusedVariables false
set_option linter.unusedSimpArgs false
attribute [local go_sem] e_seq e_region e_quiet e_join e_loop e_cond e_block e_exit e_ret e_skip e_fin e_kseq e_snrm e_sret e_sex e_bnrm e_bret e_bex e_rnrm e_rret e_res e_condC e_nil e_g e_mv g_mv e_pick g_pick pickC_eq e_ibin g_ibin ibinC_eq e_sbin g_sbin e_beq g_beq beqC_eq e_nilq g_nilq nilqC_sl nilqC_pt nilqC_mp e_un g_un unC_not unC_neg e_conv g_conv convC_eq e_fld g_fld fldC_ref fldC_ptr e_nilCheck g_nilCheck nilCheckC_ref nilCheckC_ptr nilCheckC_fun e_field g_field fieldC_eq e_len g_len lenC_sl lenC_str e_extract g_extract extractC_eq e_mkFunc e_build g_build e_idiv g_idiv idivC_eq e_ishift g_ishift ishiftC_eq e_idx g_idx e_idxA g_idxA e_load g_load e_loadB g_loadB atB_ref atB_v g_mkFunc loadC_ref loadC_ptr loadB_eq e_slc g_slc e_box boxC_loc boxC_esc e_alloc allocC_loc allocC_esc e_buildS e_store storeC_ref storeC_ptr storeB_eq e_append e_appz e_mk mkC_eq e_call callC_eq e_fn g_fn fnC_eq fnV_min' fnV_max' fnV_rune' e_q g_q e_a e_n g_call g_box g_alloc g_buildS g_store g_append g_mk g_a g_n g_dead e_dead e_callK e_drawn e_tree e_finJ e_tk e_tfin e_tno e_nbt_q e_nbt_qn e_nbt_a e_nbt_an e_nbt_fin e_drawnB e_bxb_nil e_bxb e_stB_none e_stB_some boxSt_store bs_mv bs_pick bs_ibin bs_idiv bs_ishift bs_sbin bs_beq bs_nilq bs_un bs_conv bs_box bs_alloc bs_build bs_buildS bs_load bs_fld bs_nilCheck bs_idx bs_idxA bs_field bs_slc bs_len bs_append bs_appz bs_mk bs_call bs_extract bs_mkFunc bs_fn bs_q bs_a bs_n bs_loadB bs_dead isBox_box e_early_nil e_early_t e_early_f e_nob_nil e_nob_none e_nob_some isBox_dead isBox_v isBox_ref e_dnil e_dk e_ek e_finB vcOps_vc1 e_dcons e_tq e_ekt e_tearly e_talt e_dearly look_nil look_c proj_nil proj_c looks_nil looks_c zip_nil zip_c val_tmp val_const val_func slv_v slv_box slv_ref slot_tmp slot_const slot_func slotL_v slotL_box slotL_ref put_some put_none updBox_c boxSet_box gd_eq slotVals_nil slotVals_c slotVals_b boxV_box boxOn_box slotsOn_nil slotsOn_c slotsOn_b resV_one resV_two vals_nil vals_c allOn_nil allOn_c partOn_nil partOn_c partVals_nil partVals_c fits_nil fits_c fillL_nil fillL_c mkv_one mkv_agg cellsV_agg cellsV_int cellsV_bool cellsV_slice cellsV_string cellsV_pointer cellsV_func cellsV_nilf cellsV_map one'_nil one'_c oc_int oc_bool oc_slice oc_string oc_pointer oc_func oc_nilf oc_map setC_eq iv_add iv_sub iv_mul iv_eql iv_neq iv_lss iv_leq iv_gtr iv_geq iok_add iok_sub iok_mul iok_eql iok_neq iok_lss iok_leq iok_gtr iok_geq pickV_bool args0_nil args0_c bnd_none bnd_some imp_bt imp_bf imp_ebt imp_ebf imp_eb1 imp_np imp_pp beq_tt beq_tf beq_ft beq_ff cond_or cond_and e_round e_meet Int.le_refl Int.toNat_zero decide_true decide_false Bool.or_false Bool.false_or Bool.true_or Bool.or_true Bool.and_false Bool.false_and Bool.bne_false Bool.bne_true beq_iff_eq Int.cast_ofNat_Int not_false_eq_true not_true_eq_false false_and and_false false_implies true_implies true_and and_true Bool.true_and Bool.and_true Bool.not_true Bool.not_false forall_const implies_true List.take_zero List.drop_zero List.take_succ_cons List.drop_succ_cons List.take_nil List.drop_nil List.length_cons List.length_nil List.nil_append List.append_nil List.cons_append Int.toNat_natCast decide_eq_true_eq decide_eq_false_iff_not cond_true cond_false and_self List.getElem?_cons_zero List.getElem?_cons_succ List.set_cons_zero List.set_cons_succ Option.some.injEq exists_eq_left' Nat.zero_add Nat.add_zero Nat.mul_one imp_self true_or or_true or_false false_or Bool.or_eq_true Bool.or_eq_false_iff Bool.and_eq_true Bool.and_eq_false_iff Bool.not_eq_true' Bool.not_eq_false'

def strB (l : List UInt8) : Value := .string ⟨l.toArray⟩
theorem strB_inj (a b : List UInt8) (h : strB a = strB b) : a = b := by
  simp only [strB, Value.string.injEq, ByteArray.mk.injEq] at h
  simpa using congrArg Array.toList h
theorem kt_str {P : Program} {k : TypeId} (hk : P.underlying k = some .string) : KT P k strB (fun l => l.length ≤ 1000) :=
  KT.of (Maps.string_keyed hk) strB_inj fun a ha => ⟨Lit.string a, by simp [strB, keyOf, hk, mapKey, ByteArray.size]; unfold maxLen; omega⟩
theorem rune_str {n : Int} (h0 : 0 ≤ n) (h1 : n < 10) : Value.string (Utf8.encode (IntKind.i32.wrap n)) = strB [UInt8.ofNat n.toNat] := by
  obtain ⟨m, rfl⟩ : ∃ m : Nat, n = m := ⟨n.toNat, by omega⟩
  have : m = 0 ∨ m = 1 ∨ m = 2 ∨ m = 3 ∨ m = 4 ∨ m = 5 ∨ m = 6 ∨ m = 7 ∨ m = 8 ∨ m = 9 := by omega
  rcases this with rfl | rfl | rfl | rfl | rfl | rfl | rfl | rfl | rfl | rfl <;> rfl
theorem fn_cat {a b : List UInt8} (h : a.length + b.length ≤ 1000000) : fnV .cat [strB a, strB b] = some (strB (a ++ b)) := by
  have : (ByteArray.mk a.toArray).size + (ByteArray.mk b.toArray).size ≤ 9223372036854775807 := by simp only [ByteArray.size, List.size_toArray]; omega
  simp only [fnV, strB, if_pos this]
  refine congrArg (fun x => some (Value.string x)) (ByteArray.ext ?_)
  simp

def symK (s : Sy) : List UInt8 := [if s.t then 116 else 110, UInt8.ofNat s.n.toNat]
def symsK (l : List Sy) : List UInt8 := l.flatMap symK
def keyK (r : Ru) : List UInt8 := UInt8.ofNat r.l.toNat :: symsK r.r
def okSy (s : Sy) : Prop := 0 ≤ s.n ∧ s.n < 10
theorem byte_inj {a b : Int} (h0 : 0 ≤ a) (h1 : a < 10) (h2 : 0 ≤ b) (h3 : b < 10) (h : UInt8.ofNat a.toNat = UInt8.ofNat b.toNat) : a = b := by
  have := congrArg UInt8.toNat h
  simp only [UInt8.toNat_ofNat'] at this
  omega
theorem symK_inj {s t : Sy} (hs : okSy s) (ht : okSy t) (h : symK s = symK t) : s = t := by
  obtain ⟨a, m⟩ := s
  obtain ⟨b, n⟩ := t
  simp only [symK, List.cons.injEq, and_true] at h
  have := byte_inj hs.1 hs.2 ht.1 ht.2 h.2
  simp only at this
  subst this
  cases a <;> cases b <;> simp at h ⊢
theorem symsK_inj : ∀ {l k : List Sy}, (∀ s ∈ l, okSy s) → (∀ s ∈ k, okSy s) → symsK l = symsK k → l = k
  | [], [], _, _, _ => rfl
  | [], t :: k, _, _, h => by simp [symsK, symK] at h
  | s :: l, [], _, _, h => by simp [symsK, symK] at h
  | s :: l, t :: k, hl, hk, h => by
    have e : symsK (s :: l) = symK s ++ symsK l := rfl
    have e' : symsK (t :: k) = symK t ++ symsK k := rfl
    rw [e, e'] at h
    have h1 := List.append_inj h rfl
    rw [symK_inj (hl s (by simp)) (hk t (by simp)) h1.1, symsK_inj (fun x hx => hl x (by simp [hx])) (fun x hx => hk x (by simp [hx])) h1.2]
theorem symsK_len (l : List Sy) : (symsK l).length = 2 * l.length := by
  induction l with
  | nil => rfl
  | cons s l ih => rw [show symsK (s :: l) = symK s ++ symsK l from rfl, List.length_append, ih]; simp [symK]; omega

theorem rule_fault {Γr : Ctx} {g : Gr} {A : Option Addr} {c : Nat} (hx : SlOk (lk Γr) A c g.rs) :
    Ret Try.prog 42 [.agg #[.int .i64 g.ts, .int .i64 g.ns, .int .i64 g.st, .slice A g.rs.length c]] Γr [] (fun v Γ => Γ = [] ∧ v = .int .i64 (ckF g)) := by
  generalize hR : (fun (v : Value) (Γ : Ctx) => Γ = [] ∧ _) = R
  refine ret_of_vc tr42 (Nat.le_of_ble_eq_true rfl) ?_
  simp -implicitDefEqProofs only [S42, S42_0, go_sem, Nat.reduceBEq, Nat.reduceAdd, Nat.reduceSub, Nat.reduceMul, Nat.reduceLeDiff, reduceCtorEq, ↓reduceIte, Int.reduceLT, Int.reduceLE, Int.reduceEq, Int.reduceNe]
  intro b
  refine ⟨fun h => Up.here ?_, fun hok => ⟨fun h => Up.here ?_, fun h32 => ?_⟩⟩
  · subst hR
    exact ⟨rfl, by rw [ckF, if_pos (by unfold badHead; omega)]⟩
  · subst hR
    exact ⟨rfl, by rw [ckF, if_neg (by unfold badHead; omega), if_pos (by omega)]⟩
  have hck : ckF g = ckR g g.rs.length := by rw [ckF, if_neg (by unfold badHead; omega), if_neg (by omega)]
  refine s_mkmap fun bm => ?_
  simp -implicitDefEqProofs only [go_sem, Nat.reduceBEq, Nat.reduceAdd, Nat.reduceSub, Nat.reduceMul, Nat.reduceLeDiff, reduceCtorEq, ↓reduceIte, Int.reduceLT, Int.reduceLE, Int.reduceEq, Int.reduceNe]
  have hkt : KT Try.prog 9 strB (fun l => l.length ≤ 1000) := kt_str (by kernel_rfl)
  refine s_loop (fun f vs Γ => ∃ gm, Γ = [gm] ∧ ∃ (k : Nat), vs = [.v true (.int .i64 k)] ∧ k + f = g.rs.length ∧ ckR g k = 0 ∧ (∀ r ∈ g.rs.take k, (0 ≤ r.l ∧ r.l < 10) ∧ r.r.length ≤ 4 ∧ ∀ s ∈ r.r, okSy s) ∧ MapM gm bm strB Value.bool (fun l => l.length ≤ 1000) (mset keyK (g.rs.take k))) g.rs.length
    (Up.here ⟨_, rfl, 0, rfl, by omega, rfl, by simp, MapM.new _ _ _ _⟩) ?_
  rintro f vs Γ ⟨gm, rfl, k, rfl, hkf, hck0, hall, hM⟩
  simp -implicitDefEqProofs only [S42_6, go_sem, Nat.reduceBEq, Nat.reduceAdd, Nat.reduceSub, Nat.reduceMul, Nat.reduceLeDiff, reduceCtorEq, ↓reduceIte, Int.reduceLT, Int.reduceLE, Int.reduceEq, Int.reduceNe]
  refine ⟨fun hlt => ?_, fun hge => ?_⟩
  · have hk : k < g.rs.length := by omega
    have hgen : ∀ x, faultAt g k g.rs[k] = x → x ≠ 0 → ckF g = x := fun x h1 h2 => by rw [hck, ckR_fault hk hck0 (by rw [h1]; exact h2), h1]
    have hzero : faultAt g k g.rs[k] = 0 → ckR g (k + 1) = 0 := fun h => by rw [ckR_step hk hck0, h]
    obtain ⟨b1, o1, hA, A', c', hr, hc1⟩ := hx.ru hk
    have hrl := hr.short
    refine s_idx hA (by omega) (by omega) ?_
    simp -implicitDefEqProofs only [go_sem, Nat.reduceBEq, Nat.reduceAdd, Nat.reduceSub, Nat.reduceMul, Nat.reduceLeDiff, reduceCtorEq, ↓reduceIte, Int.reduceLT, Int.reduceLE, Int.reduceEq, Int.reduceNe]
    refine s_ld0 (hc1 _ (lk_r _ _)) (by simp) (by simp) ?_
    simp -implicitDefEqProofs only [go_sem, Nat.reduceBEq, Nat.reduceAdd, Nat.reduceSub, Nat.reduceMul, Nat.reduceLeDiff, reduceCtorEq, ↓reduceIte, Int.reduceLT, Int.reduceLE, Int.reduceEq, Int.reduceNe]
    refine ⟨fun h => Up.to [] (Ent.nil _) ?_, fun hl => ⟨fun h => Up.to [] (Ent.nil _) ?_, fun h4 => ?_⟩⟩
    · subst hR
      exact ⟨rfl, by rw [hgen 3 (by rw [faultAt, if_pos h]) (by decide)]⟩
    · subst hR
      exact ⟨rfl, by rw [hgen 2 (by rw [faultAt, if_neg (by omega), if_pos (by omega)]) (by decide)]⟩
    have hf1 : faultAt g k g.rs[k] = if g.rs[k].r.any (badSy g.ts g.ns) = true then 3 else if g.rs[k] ∈ g.rs.take k then 6 else 0 := by
      rw [faultAt, if_neg (by omega), if_neg (by omega)]
    rw [rune_str (by omega) (by omega)]
    refine s_loop (fun f' vs Γ => ∃ gm, Γ = [gm] ∧ MapM gm bm strB Value.bool (fun l => l.length ≤ 1000) (mset keyK (g.rs.take k)) ∧ ∃ j : Nat, vs = [.v true (strB (UInt8.ofNat g.rs[k].l.toNat :: symsK (g.rs[k].r.take j))), .v true (.int .i64 j)] ∧ j + f' = g.rs[k].r.length ∧ ∀ (i : Nat) (h : i < g.rs[k].r.length), i < j → badSy g.ts g.ns g.rs[k].r[i] = false ∧ okSy g.rs[k].r[i]) g.rs[k].r.length
      (Up.here ⟨_, rfl, hM, 0, rfl, by omega, by intro i _ h; omega⟩) ?_
    rintro f' vs Γ ⟨gm, rfl, hM, j, rfl, hjf, hno⟩
    simp -implicitDefEqProofs only [S42_5, go_sem, Nat.reduceBEq, Nat.reduceAdd, Nat.reduceSub, Nat.reduceMul, Nat.reduceLeDiff, reduceCtorEq, ↓reduceIte, Int.reduceLT, Int.reduceLE, Int.reduceEq, Int.reduceNe]
    refine ⟨fun hlt => ?_, fun hge => ?_⟩
    · have hj : j < g.rs[k].r.length := by omega
      refine s_split ?_
      simp -implicitDefEqProofs only [S42_3, S42_4, go_sem, Nat.reduceBEq, Nat.reduceAdd, Nat.reduceSub, Nat.reduceMul, Nat.reduceLeDiff, reduceCtorEq, ↓reduceIte, Int.reduceLT, Int.reduceLE, Int.reduceEq, Int.reduceNe]
      obtain ⟨b3, o3, hA3, hc3⟩ := hr.sy hj
      refine s_idx hA3 (by omega) (by omega) ?_
      simp -implicitDefEqProofs only [go_sem, Nat.reduceBEq, Nat.reduceAdd, Nat.reduceSub, Nat.reduceMul, Nat.reduceLeDiff, reduceCtorEq, ↓reduceIte, Int.reduceLT, Int.reduceLE, Int.reduceEq, Int.reduceNe]
      refine s_ld0 (hc3 _ (lk_r _ _)) (by simp) (by simp) ?_
      simp -implicitDefEqProofs only [go_sem, Nat.reduceBEq, Nat.reduceAdd, Nat.reduceSub, Nat.reduceMul, Nat.reduceLeDiff, reduceCtorEq, ↓reduceIte, Int.reduceLT, Int.reduceLE, Int.reduceEq, Int.reduceNe]
      intro b4
      have hlen1 : (symsK (g.rs[k].r.take j)).length ≤ 8 := by rw [symsK_len, List.length_take]; omega
      refine s_join (fun vs Γ' => Γ' = [gm] ∧ vs = [.v true (strB (UInt8.ofNat g.rs[k].l.toNat :: symsK (g.rs[k].r.take j) ++ [if g.rs[k].r[j].t then 116 else 110])), .v true (.int .i64 (if g.rs[k].r[j].t then g.ts else g.ns))]) ?_ ?_
      · simp -implicitDefEqProofs only [S42_1, go_sem, Nat.reduceBEq, Nat.reduceAdd, Nat.reduceSub, Nat.reduceMul, Nat.reduceLeDiff, reduceCtorEq, ↓reduceIte, Int.reduceLT, Int.reduceLE, Int.reduceEq, Int.reduceNe]
        refine ⟨fun ht => ?_, fun ht => ?_⟩
        · rw [show Value.string (ByteArray.mk (Array.mk [UInt8.ofNat 116])) = strB [116] from rfl, fn_cat (by simp only [List.length_cons, List.length_nil]; omega)]
          simp -implicitDefEqProofs only [go_sem, Nat.reduceBEq, Nat.reduceAdd, Nat.reduceSub, Nat.reduceMul, Nat.reduceLeDiff, reduceCtorEq, ↓reduceIte, Int.reduceLT, Int.reduceLE, Int.reduceEq, Int.reduceNe]
          exact Up.here ⟨rfl, by rw [ht]; rfl⟩
        · rw [show Value.string (ByteArray.mk (Array.mk [UInt8.ofNat 110])) = strB [110] from rfl, fn_cat (by simp only [List.length_cons, List.length_nil]; omega)]
          simp -implicitDefEqProofs only [go_sem, Nat.reduceBEq, Nat.reduceAdd, Nat.reduceSub, Nat.reduceMul, Nat.reduceLeDiff, reduceCtorEq, ↓reduceIte, Int.reduceLT, Int.reduceLE, Int.reduceEq, Int.reduceNe]
          exact Up.here ⟨rfl, by rw [ht]; rfl⟩
      · rintro vs Γ' ⟨rfl, rfl⟩
        simp -implicitDefEqProofs only [S42_2, go_sem, Nat.reduceBEq, Nat.reduceAdd, Nat.reduceSub, Nat.reduceMul, Nat.reduceLeDiff, reduceCtorEq, ↓reduceIte, Int.reduceLT, Int.reduceLE, Int.reduceEq, Int.reduceNe]
        refine ⟨fun h => Up.to [] (Ent.nil _) ?_, fun h => ?_⟩
        · have hb : g.rs[k].r.any (badSy g.ts g.ns) = true := List.any_eq_true.2 ⟨g.rs[k].r[j], List.getElem_mem hj, by
            unfold badSy
            cases ht : g.rs[k].r[j].t <;> simp only [ht, if_true, if_false, Bool.false_eq_true] at h <;> simp <;> omega⟩
          subst hR
          exact ⟨rfl, by rw [hgen 3 (by rw [hf1, if_pos hb]) (by decide)]⟩
        · have hok2 : okSy g.rs[k].r[j] := by
            unfold okSy
            cases ht : g.rs[k].r[j].t <;> simp only [ht, if_true, if_false, Bool.false_eq_true] at h <;> omega
          have hnb : badSy g.ts g.ns g.rs[k].r[j] = false := by
            unfold badSy
            cases ht : g.rs[k].r[j].t <;> simp only [ht, if_true, if_false, Bool.false_eq_true] at h <;> simp <;> omega
          rw [rune_str hok2.1 hok2.2, fn_cat (by simp only [List.length_cons, List.length_append, List.length_nil]; omega)]
          simp -implicitDefEqProofs only [go_sem, Nat.reduceBEq, Nat.reduceAdd, Nat.reduceSub, Nat.reduceMul, Nat.reduceLeDiff, reduceCtorEq, ↓reduceIte, Int.reduceLT, Int.reduceLE, Int.reduceEq, Int.reduceNe]
          simp (disch := omega) only [wrap_id]
          refine Up.here ⟨f' - 1, by omega, Up.here ⟨_, rfl, hM, j + 1, ?_, by omega, fun i hi hij => ?_⟩⟩
          · have e : symsK (g.rs[k].r.take (j + 1)) = symsK (g.rs[k].r.take j) ++ symK g.rs[k].r[j] := by
              rw [List.take_succ_eq_append_getElem hj]
              simp only [symsK, List.flatMap_append, List.flatMap_cons, List.flatMap_nil, List.append_nil]
            rw [e]
            simp [symK]
          · by_cases e : i = j
            · subst e; exact ⟨hnb, hok2⟩
            · exact hno i hi (by omega)
    have hj : j = g.rs[k].r.length := by omega
    rw [hj, List.take_length]
    have hnb : ¬ (g.rs[k].r.any (badSy g.ts g.ns) = true) := by
      intro h
      obtain ⟨x, hx, hb⟩ := List.any_eq_true.1 h
      obtain ⟨i, hi, rfl⟩ := List.getElem_of_mem hx
      rw [(hno i hi (by omega)).1] at hb
      cases hb
    have hf2 : faultAt g k g.rs[k] = if g.rs[k] ∈ g.rs.take k then 6 else 0 := by rw [hf1, if_neg hnb]
    have hokr : (0 ≤ g.rs[k].l ∧ g.rs[k].l < 10) ∧ g.rs[k].r.length ≤ 4 ∧ ∀ s ∈ g.rs[k].r, okSy s := by
      refine ⟨by omega, by omega, fun s hs => ?_⟩
      obtain ⟨i, hi, rfl⟩ := List.getElem_of_mem hs
      exact (hno i hi (by omega)).2
    rw [show UInt8.ofNat g.rs[k].l.toNat :: symsK g.rs[k].r = keyK g.rs[k] from rfl]
    have hkl : (keyK g.rs[k]).length ≤ 1000 := by simp only [keyK, List.length_cons, symsK_len]; omega
    have hkinj : ∀ r ∈ g.rs.take k, keyK r = keyK g.rs[k] → r = g.rs[k] := by
      intro r hr he
      have h1 := hall r hr
      simp only [keyK, List.cons.injEq] at he
      have e1 := byte_inj h1.1.1 h1.1.2 hokr.1.1 hokr.1.2 he.1
      have e2 := symsK_inj h1.2.2 hokr.2.2 he.2
      cases r
      simp only at e1 e2
      rw [e1, e2]
    refine s_q trivial (qr_look hkt (et := 4) (z := .bool false) (by kernel_rfl) (zero_run (by kernel_rfl)) false (hM.l (by simp)) hkl) ?_
    simp -implicitDefEqProofs only [go_sem, Nat.reduceBEq, Nat.reduceAdd, Nat.reduceSub, Nat.reduceMul, Nat.reduceLeDiff, reduceCtorEq, ↓reduceIte, Int.reduceLT, Int.reduceLE, Int.reduceEq, Int.reduceNe]
    rw [mget_set]
    by_cases hin : g.rs[k] ∈ g.rs.take k
    · rw [if_pos (List.mem_map.2 ⟨_, hin, rfl⟩)]
      simp only [Option.elim_some]
      simp -implicitDefEqProofs only [go_sem, Nat.reduceBEq, Nat.reduceAdd, Nat.reduceSub, Nat.reduceMul, Nat.reduceLeDiff, reduceCtorEq, ↓reduceIte, Int.reduceLT, Int.reduceLE, Int.reduceEq, Int.reduceNe]
      refine Up.to [] (Ent.nil _) ?_
      subst hR
      exact ⟨rfl, by rw [hgen 6 (by rw [hf2, if_pos hin]) (by decide)]⟩
    · have hnk : keyK g.rs[k] ∉ (g.rs.take k).map keyK := by
        intro h
        obtain ⟨r, hr, he⟩ := List.mem_map.1 h
        exact hin (hkinj r hr he ▸ hr)
      rw [if_neg hnk]
      simp only [Option.elim_none]
      simp -implicitDefEqProofs only [go_sem, Nat.reduceBEq, Nat.reduceAdd, Nat.reduceSub, Nat.reduceMul, Nat.reduceLeDiff, reduceCtorEq, ↓reduceIte, Int.reduceLT, Int.reduceLE, Int.reduceEq, Int.reduceNe]
      refine s_upd hkt (et := 4) (ix := 0) (eV := Value.bool) (by kernel_rfl) rfl hM true hkl ?_
      intro g' hM' _
      rw [mput_set _ _ _ hnk, ← List.take_succ_eq_append_getElem hk] at hM'
      simp -implicitDefEqProofs only [go_sem, Nat.reduceBEq, Nat.reduceAdd, Nat.reduceSub, Nat.reduceMul, Nat.reduceLeDiff, reduceCtorEq, ↓reduceIte, Int.reduceLT, Int.reduceLE, Int.reduceEq, Int.reduceNe]
      simp (disch := omega) only [wrap_id]
      refine ⟨f - 1, by omega, Up.here ⟨_, rfl, k + 1, rfl, by omega, hzero (by rw [hf2, if_neg hin]), fun r hr => ?_, hM'⟩⟩
      rw [List.take_succ_eq_append_getElem hk, List.mem_append, List.mem_singleton] at hr
      rcases hr with hr | rfl
      · exact hall r hr
      · exact hokr
  · have hk : k = g.rs.length := by omega
    subst hk
    refine Up.to [] (Ent.nil _) ?_
    subst hR
    exact ⟨rfl, by rw [hck, hck0]⟩
end Go.Proofs.Ytniobbepliknmaa.V
/- Sets of texts, and rows of them; no condition. -/
namespace Go.Proofs.Ytniobbepliknmaa.V
open Go
set_option linter.unusedVariables false
set_option linter.unusedSimpArgs false
set_option linter.unusedSectionVars false
attribute [local go_sem] e_seq e_region e_quiet e_join e_loop e_cond e_block e_exit e_ret e_skip e_fin e_kseq e_snrm e_sret e_sex e_bnrm e_bret e_bex e_rnrm e_rret e_res e_condC e_nil e_g e_mv g_mv e_pick g_pick pickC_eq e_ibin g_ibin ibinC_eq e_sbin g_sbin e_beq g_beq beqC_eq e_nilq g_nilq nilqC_sl nilqC_pt nilqC_mp e_un g_un unC_not unC_neg e_conv g_conv convC_eq e_fld g_fld fldC_ref fldC_ptr e_nilCheck g_nilCheck nilCheckC_ref nilCheckC_ptr nilCheckC_fun e_field g_field fieldC_eq e_len g_len lenC_sl lenC_str e_extract g_extract extractC_eq e_mkFunc e_build g_build e_idiv g_idiv idivC_eq e_ishift g_ishift ishiftC_eq e_idx g_idx e_idxA g_idxA e_load g_load e_loadB g_loadB atB_ref atB_v g_mkFunc loadC_ref loadC_ptr loadB_eq e_slc g_slc e_box boxC_loc boxC_esc e_alloc allocC_loc allocC_esc e_buildS e_store storeC_ref storeC_ptr storeB_eq e_append e_appz e_mk mkC_eq e_call callC_eq e_fn g_fn fnC_eq fnV_min' fnV_max' fnV_rune' e_q g_q e_a e_n g_call g_box g_alloc g_buildS g_store g_append g_mk g_a g_n g_dead e_dead e_callK e_drawn e_tree e_finJ e_tk e_tfin e_tno e_nbt_q e_nbt_qn e_nbt_a e_nbt_an e_nbt_fin e_drawnB e_bxb_nil e_bxb e_stB_none e_stB_some boxSt_store bs_mv bs_pick bs_ibin bs_idiv bs_ishift bs_sbin bs_beq bs_nilq bs_un bs_conv bs_box bs_alloc bs_build bs_buildS bs_load bs_fld bs_nilCheck bs_idx bs_idxA bs_field bs_slc bs_len bs_append bs_appz bs_mk bs_call bs_extract bs_mkFunc bs_fn bs_q bs_a bs_n bs_loadB bs_dead isBox_box e_early_nil e_early_t e_early_f e_nob_nil e_nob_none e_nob_some isBox_dead isBox_v isBox_ref e_dnil e_dk e_ek e_finB vcOps_vc1 e_dcons e_tq e_ekt e_tearly e_talt e_dearly look_nil look_c proj_nil proj_c looks_nil looks_c zip_nil zip_c val_tmp val_const val_func slv_v slv_box slv_ref slot_tmp slot_const slot_func slotL_v slotL_box slotL_ref put_some put_none updBox_c boxSet_box gd_eq slotVals_nil slotVals_c slotVals_b boxV_box boxOn_box slotsOn_nil slotsOn_c slotsOn_b resV_one resV_two vals_nil vals_c allOn_nil allOn_c partOn_nil partOn_c partVals_nil partVals_c fits_nil fits_c fillL_nil fillL_c mkv_one mkv_agg cellsV_agg cellsV_int cellsV_bool cellsV_slice cellsV_string cellsV_pointer cellsV_func cellsV_nilf cellsV_map one'_nil one'_c oc_int oc_bool oc_slice oc_string oc_pointer oc_func oc_nilf oc_map setC_eq iv_add iv_sub iv_mul iv_eql iv_neq iv_lss iv_leq iv_gtr iv_geq iok_add iok_sub iok_mul iok_eql iok_neq iok_lss iok_leq iok_gtr iok_geq pickV_bool args0_nil args0_c bnd_none bnd_some imp_bt imp_bf imp_ebt imp_ebf imp_eb1 imp_np imp_pp beq_tt beq_tf beq_ft beq_ff cond_or cond_and e_round e_meet Int.le_refl Int.toNat_zero decide_true decide_false Bool.or_false Bool.false_or Bool.true_or Bool.or_true Bool.and_false Bool.false_and Bool.bne_false Bool.bne_true beq_iff_eq Int.cast_ofNat_Int not_false_eq_true not_true_eq_false false_and and_false false_implies true_implies true_and and_true Bool.true_and Bool.and_true Bool.not_true Bool.not_false forall_const implies_true List.take_zero List.drop_zero List.take_succ_cons List.drop_succ_cons List.take_nil List.drop_nil List.length_cons List.length_nil List.nil_append List.append_nil List.cons_append Int.toNat_natCast decide_eq_true_eq decide_eq_false_iff_not cond_true cond_false and_self List.getElem?_cons_zero List.getElem?_cons_succ List.set_cons_zero List.set_cons_succ Option.some.injEq exists_eq_left' Nat.zero_add Nat.add_zero Nat.mul_one imp_self true_or or_true or_false false_or Bool.or_eq_true Bool.or_eq_false_iff Bool.and_eq_true Bool.and_eq_false_iff Bool.not_eq_true' Bool.not_eq_false'

theorem Up.skip {g : PH} {Γ : Ctx} {Φ : Ctx → Prop} (h : Up Γ Φ) : Up (g :: Γ) Φ := fun ha => by
  obtain ⟨Γ', he, hp⟩ := h (List.pairwise_cons.1 ha).2
  exact ⟨Γ', (Ent.sub (List.sublist_cons_self _ _)).trans he, hp⟩
def good8 (l : List UInt8) : Prop := l.length ≤ 1000
/-- the map b is the set l of texts -/
def SetS (L : Mem) (b : Nat) (l : List (List UInt8)) : Prop := MapL L b strB Value.bool good8 (mset id l)
def StrM (g : PH) (b : Nat) (l : List (List UInt8)) : Prop := MapM g b strB Value.bool good8 (mset id l)
theorem StrM.l {g : PH} {Γ : Ctx} {b : Nat} {l : List (List UInt8)} (h : StrM g b l) (hg : g ∈ Γ) : SetS (lk Γ) b l := MapM.l h hg
theorem SetS.mono {L L' : Mem} {b : Nat} {l : List (List UInt8)} (h : SetS L b l) (hl : Mem.le L L') : SetS L' b l := MapL.mono h hl
theorem StrM.mono {g g' : PH} {b : Nat} {l : List (List UInt8)} (h : StrM g b l) (hg : Mem.le (lk [g]) (lk [g'])) : StrM g' b l := MapM.mono h hg
theorem SetS.nodup {L : Mem} {b : Nat} {l : List (List UInt8)} (h : SetS L b l) : l.Nodup := by
  have := MapL.nodup h
  rwa [mset_keys, List.map_id] at this
theorem SetS.good {L : Mem} {b : Nat} {l : List (List UInt8)} (h : SetS L b l) : ∀ x ∈ l, x.length ≤ 1000 := fun x hx => MapL.good h (x, true) (List.mem_map.2 ⟨x, hx, rfl⟩)
/-! a row of sets -/
structure RowS (g : PH) (bo : Nat) (T : TypeId) (maps : List (List (List UInt8))) (bs : List Nat) : Prop where
  len : bs.length = maps.length
  out : g bo = some (.cells (bs.map fun b => Value.map (some b)).toArray T (0, 0))
  nodup : bs.Nodup
  apart : bo ∉ bs
  map : ∀ (i b : Nat) l, bs[i]? = some b → maps[i]? = some l → StrM g b l
def GridS (g : PH) (bo : Nat) (T : TypeId) (maps : List (List (List UInt8))) : Prop := ∃ bs, RowS g bo T maps bs
theorem GridS.mono {g g' : PH} {bo : Nat} {T : TypeId} {maps : List (List (List UInt8))} (h : GridS g bo T maps) (hl : Mem.le (lk [g]) (lk [g'])) : GridS g' bo T maps := by
  obtain ⟨bs, h⟩ := h
  exact ⟨bs, h.len, lk_one.1 (hl _ _ (lk_one.2 h.out)), h.nodup, h.apart, fun i b l h1 h2 => (h.map i b l h1 h2).mono hl⟩
theorem nodup_inj {l : List Nat} (h : l.Nodup) {i j : Nat} (hi : i < l.length) (hj : j < l.length) (e : l[i] = l[j]) : i = j := by
  rcases Nat.lt_trichotomy i j with q | q | q
  · exact absurd e ((List.pairwise_iff_getElem.1 h) i j hi hj q)
  · exact q
  · exact absurd e.symm ((List.pairwise_iff_getElem.1 h) j i hj hi q)
/-- maps[i] -/
theorem GridS.at' {g : PH} {bo : Nat} {T : TypeId} {maps : List (List (List UInt8))} (h : GridS g bo T maps) {i : Nat} (hi : i < maps.length) :
    ∃ b, (∀ Γ : Ctx, g ∈ Γ → Cells Γ bo i [.map (some b)]) ∧ StrM g b maps[i] ∧ b ≠ bo ∧ ∀ g' l, StrM g' b l → (∀ k, k ≠ b → g' k = g k) → GridS g' bo T (maps.set i l) := by
  obtain ⟨bs, h⟩ := h
  have hib : i < bs.length := by rw [h.len]; exact hi
  refine ⟨bs[i], fun Γ hg => ⟨g, hg, _, T, _, h.out, fun j hj => ?_⟩, h.map i _ _ (List.getElem?_eq_getElem hib) (List.getElem?_eq_getElem hi), fun e => h.apart (e ▸ List.getElem_mem hib), fun g' l hl ho => ⟨bs, ?_, ?_, h.nodup, h.apart, fun j b l' h1 h2 => ?_⟩⟩
  · have : j = 0 := by simp at hj; exact hj
    subst this
    simp [hib]
  · rw [List.length_set]; exact h.len
  · rw [ho bo (fun e => h.apart (by rw [e]; exact List.getElem_mem hib))]; exact h.out
  · by_cases e : j = i
    · subst e
      rw [List.getElem?_eq_getElem hib] at h1
      rw [List.getElem?_set_self hi] at h2
      cases h1
      cases h2
      exact hl
    · rw [List.getElem?_set_ne (fun q => e q.symm)] at h2
      have hne : b ≠ bs[i] := fun q => by
        subst q
        obtain ⟨hj, h3⟩ := List.getElem?_eq_some_iff.1 h1
        exact e (nodup_inj h.nodup hj hib h3)
      have hm := h.map j b l' h1 h2
      obtain ⟨es, c, q1, q2⟩ := hm.at'
      exact ⟨MapL.nodup hm, MapL.good hm, es, c, by rw [ho b hne]; exact q1, q2⟩
/-- the sets that have been made so far -/
structure PartS (g : PH) (bo : Nat) (T : TypeId) (m : Nat) (bs : List Nat) : Prop where
  len : bs.length ≤ m
  out : g bo = some (.cells (bs.map (fun b => Value.map (some b)) ++ List.replicate (m - bs.length) (Value.map none)).toArray T (0, 0))
  nodup : bs.Nodup
  apart : bo ∉ bs
  map : ∀ b ∈ bs, StrM g b []
theorem PartS.made (bo : Nat) (T : TypeId) (m : Nat) : PartS (one bo (.cells (zerosL [Value.map none] m).toArray T)) bo T m [] := by
  refine ⟨by simp, ?_, by simp, by simp, by simp⟩
  rw [one_self]
  congr 3
  induction m with
  | zero => rfl
  | succ m ih => simp [zerosL, List.replicate_succ, ih]
end Go.Proofs.Ytniobbepliknmaa.V
