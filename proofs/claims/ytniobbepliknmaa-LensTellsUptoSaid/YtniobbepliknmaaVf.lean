/- The symbolic walk is sound: append and calls; no condition. -/
import Derived.Test.YtniobbepliknmaaVe
namespace Go.Proofs.Ytniobbepliknmaa.V
open Go
set_option linter.unusedVariables false
set_option linter.unusedSimpArgs false

section
variable {n : Nat} {Γr Γm : Ctx} {w0 : World} {φ : Fr} {Γ Γ' : Ctx} {a : Act} {w w' : World} {P : Program} {o : Oper} {k : Fr → Ctx → Prop}

theorem upd_self (g : PH) (b : Nat) (q : Obj) : upd g b q b = some q := by simp [upd]
/-- a new block joins a heap of the call's own -/
theorem St.joined (h : St n Γr Γm w0 φ Γ a w) {i : Nat} {g : PH} {q : Obj} (hi : Γ[i]? = some g) :
    St n Γr Γm w0 φ (Γ.set i (upd g w.heap.size q)) a (w.alloc q) := by
  have hg : g ∈ Γ := List.mem_of_getElem? hi
  have hlt : i < Γ.length := by
    rcases Nat.lt_or_ge i Γ.length with h | h
    · exact h
    · rw [List.getElem?_eq_none h] at hi; cases hi
  have hgi : Γ[i] = g := by rw [List.getElem?_eq_getElem hlt] at hi; exact Option.some.inj hi
  have hnone : ∀ x ∈ Γ ++ Γr, x w.heap.size = none := by
    intro x hx
    cases hxk : x w.heap.size with
    | none => rfl
    | some p => have := h.sat.lt hx (k := w.heap.size) (by rw [hxk]; simp); omega
  have hap := h.sat.apart
  have hlist : Γ.set i (upd g w.heap.size q) ++ Γr = (Γ ++ Γr).set i (upd g w.heap.size q) := by rw [List.set_append, if_pos hlt]
  have hmem : ∀ x ∈ (Γ ++ Γr).set i (upd g w.heap.size q), x = upd g w.heap.size q ∨ x ∈ Γ ++ Γr := by
    intro x hx
    rcases List.mem_or_eq_of_mem_set hx with q | q
    · exact .inr q
    · exact .inl q
  refine h.step ?_ ?_ rfl rfl rfl (by simp) (fun k hk _ => heap_old w q hk)
  · rw [hlist]
    refine ⟨?_, ?_⟩
    · intro x hx k p' hk
      have hold : x ∈ Γ ++ Γr → x k = some p' → (w.alloc q).heap[k]? = some p' := fun hx hk => by
        rw [heap_old w q (h.sat.lt hx (k := k) (by rw [hk]; simp))]
        exact h.sat.holds x hx k p' hk
      rcases hmem x hx with rfl | hx'
      · unfold upd at hk
        split at hk
        · rename_i e; subst e; rw [heap_new]; exact hk
        · exact by
            have := h.sat.lt (g := g) (by simp [hg]) (k := k) (by rw [hk]; simp)
            rw [heap_old w q this]
            exact h.sat.holds g (by simp [hg]) k p' hk
      · exact hold hx' hk
    · rw [List.pairwise_iff_getElem] at hap ⊢
      intro j l hj hl hjl k
      simp only [List.length_set] at hj hl
      have hgi2 : (Γ ++ Γr)[i]'(by simp; omega) = g := by rw [List.getElem_append_left hlt]; exact hgi
      have hu : ∀ k, k ≠ w.heap.size → upd g w.heap.size q k = g k := fun k hk => by simp [upd, hk]
      by_cases ek : k = w.heap.size
      · subst ek
        by_cases e1 : i = j
        · subst e1
          right
          rw [List.getElem_set_ne (by omega)]
          exact hnone _ (List.getElem_mem hl)
        · left
          rw [List.getElem_set_ne e1]
          exact hnone _ (List.getElem_mem hj)
      · by_cases e1 : i = j
        · subst e1
          rw [List.getElem_set_self, List.getElem_set_ne (by omega), hu k ek]
          have := hap i l hj hl hjl k
          rwa [hgi2] at this
        · by_cases e2 : i = l
          · subst e2
            rw [List.getElem_set_self, List.getElem_set_ne (by omega), hu k ek]
            have := hap j i hj hl hjl k
            rwa [hgi2] at this
          · rw [List.getElem_set_ne e1, List.getElem_set_ne e2]
            exact hap j l hj hl hjl k
  · intro x hx k hk
    rcases List.mem_or_eq_of_mem_set hx with q' | q'
    · exact .inr ⟨x, q', hk⟩
    · subst q'
      unfold upd at hk
      split at hk
      · rename_i e; subst e; exact .inl (Nat.le_refl _)
      · exact .inr ⟨g, hg, hk⟩

theorem run_append_at (w : World) (t ty e : TypeId) (i : TypeInfo) (ht : P.underlying t = some (.slice e)) (hi : P.info? e = some i)
    (g off sLen sCap : Nat) (cur : Array Value) (hg : w.heap[g]? = some (.cells cur e (0, 0)))
    (a : Addr) (m c : Nat) (news : List Value) (hl : news.length = m * i.size) (hnews : ∀ j u, news[j]? = some u → w.cell? (a.add j) = some u) (h1 : ∀ u ∈ news, u.oneCell' = true)
    (hroom : sLen + m ≤ sCap) (hfit : off + sLen * i.size + news.length ≤ cur.size) :
    (Builtin.append_ #[t, t] ty #[.slice (some ⟨g, off, none⟩) sLen sCap, .slice (some a) m c]).run P w =
      .ok (.slice (some ⟨g, off, none⟩) (sLen + m) sCap) (w.setRow g (cur.toList.take (off + sLen * i.size) ++ news ++ cur.toList.drop (off + sLen * i.size + news.length)).toArray) := by
  have hf := run_firstCells_some (P := P) w i.size m a m c news hl hnews
  have hst := run_storeCells_at P g (off + sLen * i.size) e news 0 cur w hg (by simpa using hfit) h1
  simp only [Nat.add_zero] at hst
  simp [Builtin.append_, run_underlying ht, sizeOf, typeInfo, hi, Builtin.lenOf, hroom, hf, Addr.add_lit, hst]

theorem ok_append {t el : TypeId} {z : Value} {i : TypeInfo} {s x : Operand} (h : St n Γr Γm w0 φ Γ a w) (hd : ∀ t, o.dst = some t → t < n)
    (ht : P.underlying t = some (.slice el)) (hi : P.info? el = some i) (hz : i.zero = some z) (h0 : 0 < i.size) (hzs : (cellsV z).length = i.size)
    (ho : o.op = .call { callee := .builtin .append, args := #[s, x], argTypes := #[t, t] })
    (hv : effV P Γr φ Γ o.dst (.append t el i.size i.bytes z s x) k) : Acts P n Γr Γm w0 o a w k := by
  simp only [effV] at hv
  obtain ⟨h1, h2, hv⟩ := hv
  have es := eval_of h.fits s h1
  have ex := eval_of h.fits x h2
  split at hv
  · rename_i A m c hx
    obtain ⟨ix, g, sl, xs, news, hgi, hrow, hl, hone, hA, hby, hmx, hk⟩ := hv
    have hg : g ∈ Γ := List.mem_of_getElem? hgi
    have hzc : z.cells.size = i.size := by rw [cells_eq]; simpa using hzs
    -- the run of the built-in function is the operation's
    have hexec : ∀ v' w1, (Builtin.append_ #[t, t] o.type #[(val φ s).2, .slice A m c]).run P w = .ok v' w1 → (execOp a.eval o).run P w = .ok (.value v') w1 := by
      intro v' w1 hr
      simp only [execOp, ho, resolve, invoke, builtin, Sem.run_bind, Sem.run_pure, Result.andThen_ok, List.map_toArray, List.map_cons, List.map_nil, es, ex, hx, hr]
    have hset : Γ.set ix g = Γ := by
      apply List.ext_getElem?
      intro j
      by_cases e : j = ix
      · subst e
        have hlt : j < Γ.length := by
          rcases Nat.lt_or_ge j Γ.length with h | h
          · exact h
          · rw [List.getElem?_eq_none h] at hgi; cases hgi
        rw [List.getElem?_set_self hlt]
        exact hgi.symm
      · rw [List.getElem?_set_ne (fun q => e q.symm)]
    have szz : ∀ q, (Builtin.zeroCells z.cells q).size = q * i.size := fun q => by rw [size_zeroCells, hzc]
    obtain ⟨hxl, hrow⟩ := hrow
    have hnc : ∀ b off, A = some ⟨b, off, none⟩ → Cells (Γ ++ Γr) b off news → ∀ j u, news[j]? = some u → w.cell? ((⟨b, off, none⟩ : Addr).add j) = some u := fun b off _ hc => hc.cell h.sat
    -- where a new array is made
    have grow : ∀ (old : Nat), 0 < sl + m → (∀ A n c, (val φ s).2 = .slice A n c → c < sl + m) → (Builtin.append_ #[t, t] o.type #[(val φ s).2, .slice A m c]).run P w =
        .ok (.slice (some ⟨w.heap.size, 0, none⟩) (sl + m) (grownCap w (sl + m) old el)) (w.drew.alloc (.cells (xs.toArray ++ news.toArray ++ Builtin.zeroCells z.cells (grownCap w (sl + m) old el - (sl + m))) el)) →
        Acts P n Γr Γm w0 o a w k := by
      intro old hold hroom hr
      have hge := grownCap_ge w (sl + m) old el
      have hcm := grownCap_le_maxLen w (sl + m) old el hmx
      have hst := (h.drew).joined (q := .cells (xs.toArray ++ news.toArray ++ Builtin.zeroCells z.cells (grownCap w (sl + m) old el - (sl + m))) el) hgi
      obtain ⟨gc, hgc⟩ : ∃ gc, grownCap w (sl + m) old el = gc + 1 := ⟨grownCap w (sl + m) old el - 1, by omega⟩
      rw [hgc] at hge hcm hst hr
      refine .value (hexec _ _ hr) (hk _ (upd g w.heap.size (.cells (xs.toArray ++ news.toArray ++ Builtin.zeroCells z.cells (gc + 1 - (sl + m))) el)) ?_ ?_ ?_) (hst.put hd trivial rfl)
      · refine ⟨by rw [List.length_append, hxl, hl, Nat.add_mul], .inr ⟨w.heap.size, 0, gc, _, rfl, hge, hcm, upd_self _ _ _, ?_, ?_⟩⟩
        · simp only [Array.size_append, List.size_toArray, szz, hxl, hl, ← Nat.add_mul]
          rw [Nat.zero_add]
          apply Nat.mul_le_mul_right
          omega
        · simp only [Array.toList_append, List.append_assoc, List.drop_zero]
          rw [← List.append_assoc, show (sl + m) * i.size = (xs ++ news).length by rw [List.length_append, hxl, hl, Nat.add_mul]]
          exact List.take_left
      · refine ⟨hxl, hrow.imp id fun ⟨b, off, cap, cur, q1, q2, q3, q4, q5, q6⟩ => ⟨b, off, cap, cur, q1, q2, q3, ?_, q5, q6⟩⟩
        have : b < w.heap.size := h.sat.lt (g := g) (by simp [hg]) (by rw [q4]; simp)
        simp [upd, Nat.ne_of_lt this, q4]
      · refine ⟨fun k' _ hk' => ?_, fun A' n' c' A2 m2 c2 e1 e2 => ⟨fun e3 => ?_, fun _ b hb => ?_⟩⟩
        · have : k' < w.heap.size := h.sat.lt (g := g) (by simp [hg]) hk'
          simp [upd, Nat.ne_of_lt this]
        · have := hroom _ _ _ e1
          simp only [Value.slice.injEq] at e2
          omega
        · simp only [rowBlk, Option.some.injEq] at hb
          subst hb
          cases hgb : g w.heap.size with
          | none => rfl
          | some q =>
            have : w.heap.size < w.heap.size := h.sat.lt (g := g) (by simp [hg]) (by rw [hgb]; simp)
            omega
    by_cases hm0 : m = 0
    · -- nothing is appended
      subst hm0
      have hn : news = [] := List.eq_nil_of_length_eq_zero (by simpa using hl)
      subst hn
      have hzero : ∀ W : World, (Builtin.firstCells i.size 0 (.slice A 0 c)).run P W = .ok #[] W := by
        intro W
        cases A <;> simp [Builtin.firstCells, loadCells, loadCellsFrom]
      have hrun : ∀ base cap, (val φ s).2 = .slice base sl cap → sl ≤ cap → (Builtin.append_ #[t, t] o.type #[.slice base sl cap, .slice A 0 c]).run P w = .ok (.slice base sl cap) w := by
        intro base cap _ hle
        cases base <;> simp [Builtin.append_, run_underlying ht, sizeOf, typeInfo, hi, Builtin.lenOf, hle, hzero, storeCells]
      rcases hrow with ⟨rfl, B, hv0⟩ | ⟨b, off, cap, cur, hv0, hle, hcm, hgb, hcs, htk⟩
      · rw [hv0] at hexec hk
        have hr := hrun B 0 hv0 (Nat.le_refl _)
        have hfin := hk (.slice B 0 0) g ⟨by simpa using hxl, .inl ⟨rfl, B, rfl⟩⟩ ⟨hxl, .inl ⟨rfl, B, rfl⟩⟩ ⟨fun _ _ _ => rfl, fun _ _ _ _ _ _ e1 e2 => ⟨fun _ => by simp only [Value.slice.injEq] at e1 e2; exact ⟨e2.1.symm.trans e1.1, e2.2.2.symm.trans e1.2.2⟩, fun q => by simp only [Value.slice.injEq] at e1 e2; omega⟩⟩
        rw [hset] at hfin
        exact .value (hexec _ _ hr) hfin (h.put hd trivial rfl)
      · rw [hv0] at hexec hk
        have hr := hrun _ (cap + 1) hv0 hle
        have hfin := hk (.slice (some ⟨b, off, none⟩) sl (cap + 1)) g ⟨by simpa using hxl, .inr ⟨b, off, cap, cur, rfl, hle, hcm, hgb, hcs, by simpa using htk⟩⟩ ⟨hxl, .inr ⟨b, off, cap, cur, rfl, hle, hcm, hgb, hcs, htk⟩⟩ ⟨fun _ _ _ => rfl, fun _ _ _ _ _ _ e1 e2 => ⟨fun _ => by simp only [Value.slice.injEq] at e1 e2; exact ⟨e2.1.symm.trans e1.1, e2.2.2.symm.trans e1.2.2⟩, fun q => by simp only [Value.slice.injEq] at e1 e2; omega⟩⟩
        rw [hset] at hfin
        exact .value (hexec _ _ hr) hfin (h.put hd trivial rfl)
    · obtain ⟨ab, aoff, rfl, hcells⟩ : ∃ b o, A = some ⟨b, o, none⟩ ∧ Cells (Γ ++ Γr) b o news := by
        rcases hA with q | q
        · exact absurd q hm0
        · exact q
      have hnews := hcells.cell h.sat
      rcases hrow with ⟨rfl, B, hv0⟩ | ⟨b, off, cap, cur, hv0, hle, hcm, hgb, hcs, htk⟩
      · have hx0 : xs = [] := List.eq_nil_of_length_eq_zero (by simpa using hxl)
        subst hx0
        refine grow 0 (by omega) (fun A' n' c' e => by rw [hv0] at e; simp only [Value.slice.injEq] at e; omega) ?_
        rw [hv0]
        rcases B with _ | ad
        · have hr := run_append_nil (P := P) w t o.type el i z ht hi hz ⟨ab, aoff, none⟩ m c news hl hnews (by omega) (by unfold maxLen at hmx; omega) (by simp only [Nat.zero_add] at hby; omega)
          simpa using hr
        · have hr := run_append_grow (P := P) w t o.type el i z ht hi hz ad 0 0 [] (by simp) (by simp) ⟨ab, aoff, none⟩ m c news hl hnews (by omega) (by unfold maxLen at hmx; omega) (growslice_fits (by omega) hby)
          simpa using hr
      · by_cases hroom : sl + m ≤ cap + 1
        · have hb := h.sat.holds g (by simp [hg]) b _ hgb
          have hmul : sl * i.size + news.length ≤ (cap + 1) * i.size := by rw [hl, ← Nat.add_mul]; exact Nat.mul_le_mul_right _ hroom
          have hfit : off + sl * i.size + news.length ≤ cur.size := by omega
          have hr := run_append_at (P := P) w t o.type el i ht hi b off sl (cap + 1) cur hb ⟨ab, aoff, none⟩ m c news hl hnews hone hroom hfit
          have hset2 := setRow_heap w b cur (cur.toList.take (off + sl * i.size) ++ news ++ cur.toList.drop (off + sl * i.size + news.length)).toArray el (0, 0) hb
          have hst := h.changed hgi hgb hset2 rfl rfl rfl (by simp [World.setRow]) (fun k' _ hne => setRow_old w b _ hne)
          have hex := hexec (.slice (some ⟨b, off, none⟩) (sl + m) (cap + 1)) (w.setRow b (cur.toList.take (off + sl * i.size) ++ news ++ cur.toList.drop (off + sl * i.size + news.length)).toArray) (by rw [hv0]; exact hr)
          refine .value hex (hk _ (upd g b (.cells (cur.toList.take (off + sl * i.size) ++ news ++ cur.toList.drop (off + sl * i.size + news.length)).toArray el (0, 0))) ?_ ?_ ?_) (hst.put hd trivial rfl)
          · refine ⟨by rw [List.length_append, hxl, hl, Nat.add_mul], .inr ⟨b, off, cap, _, rfl, hroom, hcm, upd_self _ _ _, ?_, ?_⟩⟩
            · simp only [List.size_toArray, List.length_append, List.length_take, List.length_drop, Array.length_toList]
              omega
            · have e1 : (cur.toList.take (off + sl * i.size) ++ news ++ cur.toList.drop (off + sl * i.size + news.length)).drop off = xs ++ news ++ cur.toList.drop (off + sl * i.size + news.length) := by
                rw [List.append_assoc, List.drop_append_of_le_length (by simp; omega), ← List.append_assoc]
                congr 2
                rw [← htk, List.drop_take]
                congr 1
                omega
              rw [e1, show (sl + m) * i.size = (xs ++ news).length by rw [List.length_append, hxl, hl, Nat.add_mul]]
              exact List.take_left
          · refine ⟨hxl, .inr ⟨b, off, cap, _, hv0, hle, hcm, upd_self _ _ _, ?_, ?_⟩⟩
            · simp only [List.size_toArray, List.length_append, List.length_take, List.length_drop, Array.length_toList]
              omega
            · simp only [List.toList_toArray]
              rw [List.append_assoc, List.drop_append_of_le_length (by simp; omega), List.take_append_of_le_length (by simp; omega), List.drop_take, ← htk, List.take_take]
              congr 1
              omega
          · refine ⟨fun k' hk' _ => ?_, fun A' n' c' A2 m2 c2 e1 e2 => ⟨fun _ => ?_, fun q => ?_⟩⟩
            · rw [hv0] at hk'
              have : k' ≠ b := fun e => hk' (by rw [e]; rfl)
              simp [upd, this]
            · rw [hv0] at e1
              simp only [Value.slice.injEq] at e1 e2
              exact ⟨e2.1.symm.trans e1.1, e2.2.2.symm.trans e1.2.2⟩
            · rw [hv0] at e1
              simp only [Value.slice.injEq] at e1 e2
              omega
        · refine grow (cap + 1) (by omega) (fun A' n' c' e => by rw [hv0] at e; simp only [Value.slice.injEq] at e; omega) ?_
          have hb := h.sat.holds g (by simp [hg]) b _ hgb
          have holds : ∀ j u, xs[j]? = some u → w.cell? ((⟨b, off, none⟩ : Addr).add j) = some u := by
            intro j u hu
            rw [add_mk]
            simp only [World.cell?, hb]
            rw [if_neg (by simp)]
            rw [← htk, List.getElem?_take] at hu
            split at hu
            · simpa using hu
            · cases hu
          have hr := run_append_grow (P := P) w t o.type el i z ht hi hz ⟨b, off, none⟩ sl (cap + 1) xs hxl holds ⟨ab, aoff, none⟩ m c news hl hnews (by omega) (by unfold maxLen at hmx; omega) (growslice_fits (by omega) hby)
          rw [hv0]
          exact hr
  · exact hv.elim

theorem ok_appz {t u el : TypeId} {z : Value} {i : TypeInfo} {s x : Operand} (h : St n Γr Γm w0 φ Γ a w) (hd : ∀ t, o.dst = some t → t < n)
    (ht : P.underlying t = some (.slice el)) (hu : P.underlying u = some (.int .i64)) (hi : P.info? el = some i) (hz : i.zero = some z) (h0 : 0 < i.size) (hby0 : 0 < i.bytes) (hzs : (cellsV z).length = i.size)
    (ho : o.op = .call { callee := .builtin .append, args := #[s, x], argTypes := #[t, u] })
    (hv : effV P Γr φ Γ o.dst (.appz t u el i.size i.bytes z s x) k) : Acts P n Γr Γm w0 o a w k := by
  simp only [effV] at hv
  obtain ⟨h1, h2, hv⟩ := hv
  have es := eval_of h.fits s h1
  have ex := eval_of h.fits x h2
  split at hv
  · rename_i A m hs hx
    obtain ⟨hm0, hby, hmx, ix, g, hgi, hk⟩ := hv
    rw [hs] at es
    rw [hx] at ex
    have hg : g ∈ Γ := List.mem_of_getElem? hgi
    have hzc : z.cells.size = i.size := by rw [cells_eq]; simpa using hzs
    obtain ⟨m, rfl⟩ : ∃ q : Nat, m = q := ⟨m.toNat, by omega⟩
    simp only [Int.toNat_natCast] at hk
    have hexec : ∀ v' w1, (Builtin.append_ #[t, u] o.type #[.slice A 0 0, .int .i64 m]).run P w = .ok v' w1 → (execOp a.eval o).run P w = .ok (.value v') w1 := by
      intro v' w1 hr
      simp only [execOp, ho, resolve, invoke, builtin, Sem.run_bind, Sem.run_pure, Result.andThen_ok, List.map_toArray, List.map_cons, List.map_nil, es, ex, hr]
    have hset : Γ.set ix g = Γ := by
      apply List.ext_getElem?
      intro j
      by_cases e : j = ix
      · subst e
        have hlt : j < Γ.length := by
          rcases Nat.lt_or_ge j Γ.length with h | h
          · exact h
          · rw [List.getElem?_eq_none h] at hgi; cases hgi
        rw [List.getElem?_set_self hlt]
        exact hgi.symm
      · rw [List.getElem?_set_ne (fun q => e q.symm)]
    have hmb : m * 1 ≤ m * i.bytes := Nat.mul_le_mul_left _ hby0
    have hbn : m * i.bytes ≤ 140737488355328 := by
      have : ((m * i.bytes : Nat) : Int) ≤ 140737488355328 := by simpa using hby
      omega
    have hw : IntKind.i64.wrap (m : Int) = m := by rw [IntKind.wrap_i64]; omega
    have hneg : ¬ ((m : Int) < 0) := by omega
    have hbig : ¬ (281474976710656 < (m : Int) * (i.bytes : Int)) := by omega
    by_cases hz0 : m = 0
    · subst hz0
      have hr : (Builtin.append_ #[t, u] o.type #[.slice A 0 0, .int .i64 (0 : Nat)]).run P w = .ok (.slice A 0 0) w := by
        cases A <;> simp [Builtin.append_, run_underlying ht, run_underlying hu, sizeOf, typeInfo, hi, asInt, asIntOf, IntKind.wrap_i64, storeCells]
      have hfin := hk (.slice A 0 0) g ⟨by simp [zerosL], .inl ⟨rfl, A, rfl⟩⟩ ⟨fun _ _ _ => rfl, fun _ _ _ _ _ _ e1 e2 => ⟨fun _ => by simp only [Value.slice.injEq] at e1 e2; exact ⟨e2.1.symm.trans e1.1, e2.2.2.symm.trans e1.2.2⟩, fun q => by simp only [Value.slice.injEq] at e1 e2; omega⟩⟩
      rw [hset] at hfin
      exact .value (hexec _ _ hr) hfin (h.put hd trivial rfl)
    · have hpos : 0 < m := by omega
      have hzr : (Builtin.zeroCells z.cells m) = (zerosL (cellsV z) m).toArray := by
        have := zerosL_made (cellsV z) (by omega) m
        rw [← this]
        simp [Builtin.zeroCells, cells_eq]
      have hsz : ¬ (m * i.size = 0) := by
        intro q
        rcases Nat.mul_eq_zero.1 q with q | q <;> omega
      have hcap48 : ¬ (281474976710656 < Builtin.nextslicecap m 0 * i.bytes) := by rw [nextslicecap_zero hpos]; omega
      have h63 : ¬ (9223372036854775807 < (m : Int)) := by unfold maxLen at hmx; omega
      have hge := grownCap_ge w m 0 el
      have hcm := grownCap_le_maxLen w m 0 el (by omega)
      have hf0 : ∀ W : World, (Builtin.firstCells i.size 0 (.slice A 0 0)).run P W = .ok #[] W := by
        intro W
        cases A <;> simp [Builtin.firstCells, loadCells, loadCellsFrom]
      have hr : (Builtin.append_ #[t, u] o.type #[.slice A 0 0, .int .i64 m]).run P w =
          .ok (.slice (some ⟨w.heap.size, 0, none⟩) m (grownCap w m 0 el)) (w.drew.alloc (.cells ((zerosL (cellsV z) m).toArray ++ Builtin.zeroCells z.cells (grownCap w m 0 el - m)) el)) := by
        simp [Builtin.append_, run_underlying ht, run_underlying hu, sizeOf, typeInfo, zeroValue, hi, hz, asInt, asIntOf, hw, hneg, hbig, hz0, h63, hcap48, Question.forced, hf0, hsz, newRow, grownCap, hzr]
      obtain ⟨gc, hgc⟩ : ∃ gc, grownCap w m 0 el = gc + 1 := ⟨grownCap w m 0 el - 1, by omega⟩
      rw [hgc] at hr hge hcm
      have hst := (h.drew).joined (q := .cells ((zerosL (cellsV z) m).toArray ++ Builtin.zeroCells z.cells (gc + 1 - m)) el) hgi
      have hzl := zerosL_length (cellsV z) m
      refine .value (hexec _ _ hr) (hk _ (upd g w.heap.size (.cells ((zerosL (cellsV z) m).toArray ++ Builtin.zeroCells z.cells (gc + 1 - m)) el)) ?_ ?_) (hst.put hd trivial rfl)
      · refine ⟨by rw [hzl, hzs], .inr ⟨w.heap.size, 0, gc, _, rfl, hge, hcm, upd_self _ _ _, ?_, ?_⟩⟩
        · simp only [Array.size_append, List.size_toArray, size_zeroCells, hzc, hzl, hzs, ← Nat.add_mul]
          rw [Nat.zero_add]
          apply Nat.mul_le_mul_right
          omega
        · simp only [Array.toList_append, List.drop_zero]
          rw [show m * i.size = (zerosL (cellsV z) m).length by rw [hzl, hzs]]
          exact List.take_left
      · refine ⟨fun k' _ hk' => ?_, fun A' n' c' A2 m2 c2 e1 e2 => ⟨fun e3 => ?_, fun _ b hb => ?_⟩⟩
        · have : k' < w.heap.size := h.sat.lt (g := g) (by simp [hg]) hk'
          simp [upd, Nat.ne_of_lt this]
        · simp only [Value.slice.injEq] at e1 e2
          omega
        · simp only [rowBlk, Option.some.injEq] at hb
          subst hb
          cases hgb : g w.heap.size with
          | none => rfl
          | some q =>
            have : w.heap.size < w.heap.size := h.sat.lt (g := g) (by simp [hg]) (by rw [hgb]; simp)
            omega
  · exact hv.elim

theorem St.drewN' (h : St n Γr Γm w0 φ Γ a w) (m : Nat) : St n Γr Γm w0 φ Γ a (w.drewN m) :=
  h.step ⟨h.sat.holds, h.sat.apart⟩ (fun g hg k hk => .inr ⟨g, hg, hk⟩) rfl rfl rfl (Nat.le_refl _) (fun _ _ _ => rfl)
theorem ok_a {c : Qk} {xs : List Operand} (hx : ∀ (a : Act) (w w' : World) (r : Value), (qsem c (xs.map a.eval)).run P w = .ok r w' → (execOp a.eval o).run P w = .ok (.value r) w' ∨ ((execOp a.eval o).run P w = .ok .skip w' ∧ r = undef))
    (h : St n Γr Γm w0 φ Γ a w) (hd : ∀ t, o.dst = some t → t < n) (hv : effV P Γr φ Γ o.dst (.a c xs) k) : Acts P n Γr Γm w0 o a w k := by
  simp only [effV] at hv
  obtain ⟨h1, h2⟩ := hv
  obtain ⟨v, w', m, hr, hk⟩ := h2 w h.sat.holds
  have ev := vals_of h.fits rfl xs h1
  rw [← ev] at hr
  have fin : ∀ Γ', k (V.put φ o.dst (.v true v)) Γ' → St n Γr Γm w0 φ Γ' a w' → Acts P n Γr Γm w0 o a w k := by
    intro Γ' hk' hst
    rcases hx a w w' v hr with q | ⟨q, rfl⟩
    · exact .value q hk' (hst.put hd trivial rfl)
    · exact .unit q hk' (hst.put hd trivial rfl)
  rcases hk with ⟨rfl, hk⟩ | ⟨i, g, b, p, q, hi, hgb, rfl, hk⟩
  · exact fin _ hk (h.drewN' m)
  · have hg : g ∈ Γ := List.mem_of_getElem? hi
    have hb := h.sat.holds g (by simp [hg]) b _ hgb
    have hlt : b < w.heap.size := (Array.getElem?_eq_some_iff.1 hb).1
    refine fin _ hk ((h.drewN' m).changed hi hgb ?_ rfl rfl rfl (by simp [setBlk, World.drewN]) (fun k' _ hne => ?_))
    · simp [setBlk, World.drewN, hlt]
    · simp [setBlk, World.drewN, Ne.symm hne]
theorem ok_n {c : Qk} {xs : List Operand} (hx : ∀ (a : Act) (w w' : World) (r : Value), (qsem c (xs.map a.eval)).run P w = .ok r w' → (execOp a.eval o).run P w = .ok (.value r) w')
    (h : St n Γr Γm w0 φ Γ a w) (hd : ∀ t, o.dst = some t → t < n) (hv : effV P Γr φ Γ o.dst (.n c xs) k) : Acts P n Γr Γm w0 o a w k := by
  simp only [effV] at hv
  obtain ⟨h1, h2⟩ := hv
  obtain ⟨v, q, hr, hk⟩ := h2 w h.sat.holds
  have ev := vals_of h.fits rfl xs h1
  rw [← ev] at hr
  exact .value (hx a w _ v hr) hk ((h.alloc _).put hd trivial rfl)

/-- behind a call -/
theorem St.called (h : St n Γr Γm w0 φ Γ a w) {Γr1 Γm1 Γf Γ' : Ctx} (hp : Γ.Perm (Γm1 ++ Γf)) (hr : ∀ g ∈ Γr1, g ∈ Γf ++ Γr) (hd : Done Γr1 Γm1 Γ' w w') : St n Γr Γm w0 φ (Γ' ++ Γf) a w' := by
  have hmΓ : ∀ g, g ∈ Γ ↔ g ∈ Γm1 ∨ g ∈ Γf := fun g => by rw [hp.mem_iff]; simp
  have hpp : (Γ ++ Γr).Perm (Γm1 ++ (Γf ++ Γr)) := by rw [← List.append_assoc]; exact hp.append_right Γr
  have hap := perm_apart hpp h.sat.apart
  obtain ⟨_, hapf, hmf⟩ := List.pairwise_append.1 hap
  have hfr : ∀ g ∈ Γf ++ Γr, g ∈ Γ ++ Γr := fun g hg => hpp.mem_iff.2 (by simp at hg ⊢; rcases hg with q | q <;> simp [q])
  have hown' : ∀ g ∈ Γ' ++ Γf, ∀ k, g k ≠ none → w.heap.size ≤ k ∨ ∃ q ∈ Γ, q k ≠ none := by
    intro g hg k hk
    rcases List.mem_append.1 hg with hg | hg
    · rcases hd.own g hg k hk with q | ⟨q, hq, hqk⟩
      · exact .inl q
      · exact .inr ⟨q, (hmΓ q).2 (.inl hq), hqk⟩
    · exact .inr ⟨g, (hmΓ g).2 (.inr hg), hk⟩
  have hsame : ∀ k, k < w.heap.size → (∀ g ∈ Γ, g k = none) → w'.heap[k]? = w.heap[k]? := fun k hk hno => hd.same k hk (fun g hg => hno g ((hmΓ g).2 (.inl hg)))
  refine h.step ?_ hown' hd.os hd.tape hd.output hd.size hsame
  refine ⟨?_, ?_⟩
  · intro g hg k p hk
    rw [List.append_assoc] at hg
    rcases List.mem_append.1 hg with hg | hg
    · exact hd.sat.holds g (by simp [hg]) k p hk
    · have hlt := h.sat.lt (hfr g hg) (k := k) (by rw [hk]; simp)
      rw [hd.same k hlt (fun q hq => by
        rcases hmf q hq g hg k with r | r
        · exact r
        · rw [hk] at r; cases r)]
      exact h.sat.holds g (hfr g hg) k p hk
  · rw [List.append_assoc]
    refine List.pairwise_append.2 ⟨(List.pairwise_append.1 hd.sat.apart).1, hapf, fun g hg q hq k => ?_⟩
    cases hgk : g k with
    | none => exact .inl rfl
    | some p =>
      right
      cases hqk : q k with
      | none => rfl
      | some p' =>
        rcases hd.own g hg k (by rw [hgk]; simp) with r | ⟨r, hr1, hr2⟩
        · have := h.sat.lt (hfr q hq) (k := k) (by rw [hqk]; simp); omega
        · rcases hmf r hr1 q hq k with r' | r'
          · exact absurd r' hr2
          · rw [hqk] at r'; cases r'

theorem ok_call {f : Operand} {args : Array Operand} {ats : Array TypeId} (h : St n Γr Γm w0 φ Γ a w) (hd : ∀ t, o.dst = some t → t < n)
    (ho : o.op = .call { callee := .value f, args := args, argTypes := ats })
    (hv : effV P Γr φ Γ o.dst (.call f args.toList) k) : Acts P n Γr Γm w0 o a w k := by
  simp only [effV] at hv
  obtain ⟨h1, hv⟩ := hv
  have ea := vals_of h.fits rfl _ h1
  split at hv
  · rename_i g c1 c2 hf
    have ef := eval_of h.fits f (by rw [hf])
    rw [hf] at ef
    obtain ⟨Γr1, Γm1, Γf, R, hret, hp, hsub, hk⟩ := hv
    have hr : ∀ h ∈ Γr1, h ∈ Γf ++ Γr := fun h hh => hsub.subset hh
    have hfn := hret.fn
    unfold isFn at hfn
    split at hfn
    · rename_i fn hfn2
      simp only [Bool.and_eq_true, Bool.not_eq_true'] at hfn
      have hargs : c1 ++ args.map a.eval ++ c2 = (c1.toList ++ vals φ args.toList ++ c2.toList).toArray := by
        apply Array.ext'
        simp [← ea]
      have hrun : (execOp a.eval o).run P w = .ok (.enter g (c1.toList ++ vals φ args.toList ++ c2.toList).toArray) w := by
        have hb : fn.body.isNone = false := by cases hb : fn.body <;> simp_all
        have hname : ¬ fn.name = "runtime.NumGoroutine" := by simpa using hfn.2
        have hb' : ¬ fn.body = none := by intro q; rw [q] at hfn; simp at hfn
        rw [← hargs]
        simp [execOp, ho, resolve, Deferred.ofValue, ef, invoke, callFunc, hfn2, hname, hb']
      intro next Q hn
      unfold Oper.wp
      rw [hrun, Oper.upon_enter]
      have hpp : (Γ ++ Γr).Perm (Γm1 ++ (Γf ++ Γr)) := by rw [← List.append_assoc]; exact hp.append_right Γr
      have hap := perm_apart hpp h.sat.apart
      obtain ⟨hapm, hapf, hmf⟩ := List.pairwise_append.1 hap
      have hra : Γr1.Pairwise Disj := hapf.sublist hsub
      have hsat : Sat (Γm1 ++ Γr1) w := by
        refine ⟨fun x hx k p hk => ?_, List.pairwise_append.2 ⟨hapm, hra, fun x hx y hy => hmf x hx y (hr y hy)⟩⟩
        refine h.sat.holds x (hpp.mem_iff.2 ?_) k p hk
        rcases List.mem_append.1 hx with q | q
        · simp [q]
        · have := hr x q; simp at this ⊢; rcases this with r | r <;> simp [r]
      intro cs
      obtain ⟨e, w', fr, hR, hc, hfr, hl⟩ := hret.calls w hsat cs
      obtain ⟨v, Γ', rfl, hRv, hdone⟩ := hR
      refine ⟨.returned v, w', fr, ?_, hc, hfr, hl⟩
      exact hn _ _ _ _ (hk v Γ' hRv) ((h.called hp hr hdone).put hd trivial rfl)
    · simp at hfn
  · exact hv.elim
end
end Go.Proofs.Ytniobbepliknmaa.V
