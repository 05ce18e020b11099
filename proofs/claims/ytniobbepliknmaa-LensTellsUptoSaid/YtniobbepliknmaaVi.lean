/- The symbolic walk: how what must be shown is computed, operation by operation; no condition. -/
import Derived.Test.YtniobbepliknmaaVh
namespace Go.Proofs.Ytniobbepliknmaa.V
open Go
set_option linter.unusedVariables false
set_option linter.unusedSimpArgs false

section
variable (P : Program) (Γr : Ctx)
def Kseq (b : Stmt) (Q : Post) : Fr → Ctx → Prop := fun φ Γ => vc P Γr b φ Γ Q
def condC (v : Bool × Value) (a b : Stmt) (φ : Fr) (Γ : Ctx) (Q : Post) : Prop := match v with
  | (e, .bool x) => e = true ∧ (x = true → vc P Γr a φ Γ Q) ∧ (x = false → vc P Γr b φ Γ Q)
  | _ => False
def joinC (a b : Stmt) (M N : List Nat) (φ : Fr) (Γ : Ctx) (Q : Post) : Prop := vc P Γr (.join a b M N) φ Γ Q
def loopC (a : Stmt) (M N : List Nat) (φ : Fr) (Γ : Ctx) (Q : Post) : Prop := vc P Γr (.loop a M N) φ Γ Q
variable (e : Bool) (d : Option Nat) (r : List SOper) (φ : Fr) (Γ : Ctx) (K : Fr → Ctx → Prop)
def gC (g : Option Bool) (op : SOp) : Prop := match g with
  | some e =>
    bif isPure op then pureV φ e op (fun x => vcOps P Γr r (put φ d x) Γ K)
    else bif isAsk op then askV P (Γ ++ Γr) φ e op (fun x => vcOps P Γr r (put φ d x) Γ K)
    else (e = true → effV P Γr φ Γ d op (fun φ' Γ' => vcOps P Γr r φ' Γ' K)) ∧ (e = false → ∃ x, vcOps P Γr r (put φ d (.v false x)) Γ K)
  | none => False
def pickC (c : Bool × Value) (a b : Bool × Value) : Prop := match c with
  | (ec, .bool cb) => (e = true → ec = true) ∧ (e = true → cb = true → a.1 = true) ∧ (e = true → cb = false → b.1 = true) ∧ vcOps P Γr r (put φ d (.v e (pickV cb a.2 b.2))) Γ K
  | _ => False
def ibinC (op : BinOp) (vx vy : Bool × Value) : Prop := match vx, vy with
  | (ex, .int kx a), (ey, .int ky b) => ibinOk op = true ∧ kx = ky ∧ (e = true → ex = true) ∧ (e = true → ey = true) ∧ vcOps P Γr r (put φ d (.v e (ibinV op kx a b))) Γ K
  | _, _ => False
def sbinC (op : BinOp) (vx vy : Bool × Value) : Prop := match vx, vy with
  | (ex, .string a), (ey, .string b) => ∃ q, sbinV op a b = some q ∧ (e = true → ex = true) ∧ (e = true → ey = true) ∧ vcOps P Γr r (put φ d (.v e q)) Γ K
  | _, _ => False
def beqC (neg : Bool) (vx vy : Bool × Value) : Prop := match vx, vy with
  | (ex, .bool a), (ey, .bool b) => (e = true → ex = true) ∧ (e = true → ey = true) ∧ vcOps P Γr r (put φ d (.v e (.bool ((a == b) != neg)))) Γ K
  | _, _ => False
def nilqC (kd : Nat) (neg : Bool) (vx vy : Bool × Value) : Prop :=
  isNil kd vy.2 = true ∧ (e = true → vy.1 = true) ∧ ∃ q, nilV kd vx.2 = some q ∧ (e = true → vx.1 = true) ∧ vcOps P Γr r (put φ d (.v e (.bool (q != neg)))) Γ K
def unC (op : UnOp) (vx : Bool × Value) : Prop := ∃ q, unV op vx.2 = some q ∧ (e = true → vx.1 = true) ∧ vcOps P Γr r (put φ d (.v e q)) Γ K
def convC (kd : IntKind) (vx : Bool × Value) : Prop := match vx with
  | (ex, .int _ n) => (e = true → ex = true) ∧ vcOps P Γr r (put φ d (.v e (.int kd (kd.wrap n)))) Γ K
  | _ => False
def fldC (off : Nat) (s : Sl) (on : Bool) : Prop := match s with
  | .ref _ s b o => (e = true → on = true) ∧ vcOps P Γr r (put φ d (.ref e s b (o + off))) Γ K
  | .v _ (.pointer (some ⟨b, o, none⟩)) => (e = true → on = true) ∧ vcOps P Γr r (put φ d (.v e (.pointer (some ⟨b, o + off, none⟩)))) Γ K
  | _ => False
def nilCheckC (s : Sl) (on : Bool) : Prop := match s with
  | .ref _ s b o => (e = true → on = true) ∧ vcOps P Γr r (put φ d (.ref e s b o)) Γ K
  | .v _ (.pointer (some a)) => (e = true → on = true) ∧ vcOps P Γr r (put φ d (.v e (.pointer (some a)))) Γ K
  | .v _ (.func (.func f) c1 c2) => (e = true → on = true) ∧ vcOps P Γr r (put φ d (.v e (.func (.func f) c1 c2))) Γ K
  | _ => False
def fieldC (agg : Bool) (off n : Nat) (vx : Bool × Value) : Prop := match vx with
  | (ex, .agg cs) => (e = true → ex = true) ∧ off + n ≤ cs.size ∧ (agg = false → n = 1) ∧ vcOps P Γr r (put φ d (.v e (mkv agg ((cs.toList.drop off).take n)))) Γ K
  | _ => False
def lenC (str : Bool) (vx : Bool × Value) : Prop := ∃ n, lenV str vx.2 = some n ∧ (e = true → vx.1 = true) ∧ vcOps P Γr r (put φ d (.v e (.int .i64 n))) Γ K
def extractC (i : Nat) (vx : Bool × Value) : Prop := match vx with
  | (ex, .tuple vs) => ∃ q, vs.toList[i]? = some q ∧ (e = true → ex = true) ∧ vcOps P Γr r (put φ d (.v e q)) Γ K
  | _ => False
def idivC (op : BinOp) (vx vy : Bool × Value) : Prop := match vx, vy with
  | (ex, .int kx a), (ey, .int ky b) => (op = .quo ∨ op = .rem) ∧ kx = ky ∧ (e = true → ex = true ∧ ey = true ∧ b ≠ 0) ∧ vcOps P Γr r (put φ d (.v e (idivV op kx a b))) Γ K
  | _, _ => False
def ishiftC (op : BinOp) (vx vy : Bool × Value) : Prop := match vx, vy with
  | (ex, .int kx a), (ey, .int ky b) => (op = .shl ∨ op = .shr) ∧ (e = true → ex = true ∧ ey = true ∧ 0 ≤ b) ∧ vcOps P Γr r (put φ d (.v e (ishiftV op kx a b))) Γ K
  | _, _ => False
def idxC (sz : Nat) (vx vy : Bool × Value) : Prop := match vx, vy with
  | (ex, .slice A n cap), (ei, .int ki j) => ∃ b o, (e = true → ex = true ∧ ei = true ∧ A = some ⟨b, o, none⟩ ∧ 0 ≤ j ∧ j < n) ∧ vcOps P Γr r (put φ d (.v e (.pointer (some ⟨b, o + j.toNat * sz, none⟩)))) Γ K
  | _, _ => False
def idxAC (len sz : Nat) (s : Sl) (on : Bool) (vy : Bool × Value) : Prop := match s, vy with
  | .ref _ s b o, (ei, .int ki j) => (e = true → on = true ∧ ei = true ∧ 0 ≤ j ∧ j < len) ∧ vcOps P Γr r (put φ d (.ref e s b (o + j.toNat * sz))) Γ K
  | .v _ (.pointer (some ⟨b, o, none⟩)), (ei, .int ki j) => (e = true → on = true ∧ ei = true ∧ 0 ≤ j ∧ j < len) ∧ vcOps P Γr r (put φ d (.v e (.pointer (some ⟨b, o + j.toNat * sz, none⟩)))) Γ K
  | _, _ => False
/-- a load out of a box -/
def loadB (agg : Bool) (n b o : Nat) (on : Bool) (s : Sl) : Prop := match s with
  | .box b' T cs => b' = b ∧ (e = true → on = true) ∧ o + n ≤ cs.length ∧ (agg = false → n = 1) ∧ vcOps P Γr r (put φ d (.v e (mkv agg ((cs.drop o).take n)))) Γ K
  | _ => False
/-- a load out of a heap -/
def loadP (agg : Bool) (n b o : Nat) (on : Bool) : Prop := (agg = false → n = 1) ∧ ∃ vs, vs.length = n ∧ (e = true → on = true ∧ Cells (Γ ++ Γr) b o vs) ∧ vcOps P Γr r (put φ d (.v e (mkv agg vs))) Γ K
def loadC (agg : Bool) (n : Nat) (s : Sl) (on : Bool) : Prop := match s with
  | .ref _ s b o => loadB P Γr e d r φ Γ K agg n b o on (look φ s)
  | .v _ (.pointer (some ⟨b, o, none⟩)) => loadP P Γr e d r φ Γ K agg n b o on
  | _ => False
def slcC (sz : Nat) (lo hi : Option Operand) (vx : Bool × Value) : Prop := match vx with
  | (ex, .slice A n cap) => ∃ l h, (e = true → ex = true ∧ bnd φ lo l 0 ∧ bnd φ hi h n ∧ l ≤ h ∧ h ≤ cap) ∧
        vcOps P Γr r (put φ d (.v e (.slice (if cap = l then A else A.map (·.add (l * sz))) (h - l) (cap - l)))) Γ K
  | _ => False
def boxC (loc : Bool) (T : TypeId) (vx : Bool × Value) : Prop := match loc with
  | true => vx.1 = true ∧ one' (cellsV vx.2) ∧ ∀ b, vcOps P Γr r (put φ d (.box b T (cellsV vx.2))) Γ K
  | false => vx.1 = true ∧ one' (cellsV vx.2) ∧ ∀ b, vcOps P Γr r (put φ d (.v true (.pointer (some ⟨b, 0, none⟩)))) (one b (.cells (cellsV vx.2).toArray T) :: Γ) K
def allocC (loc : Bool) (T : TypeId) (z : Value) : Prop := match loc with
  | true => ∀ b, vcOps P Γr r (put φ d (.box b T (cellsV z))) Γ K
  | false => ∀ b, vcOps P Γr r (put φ d (.v true (.pointer (some ⟨b, 0, none⟩)))) (one b (.cells (cellsV z).toArray T) :: Γ) K
def buildSC (t : TypeId) (n : Nat) (z : List Value) (parts : List (Nat × Nat × Operand)) : Prop :=
  partOn φ true parts ∧ fits (partVals φ parts) ∧ ∀ b, vcOps P Γr r (put φ d (.v true (.slice (some ⟨b, 0, none⟩) n n))) (one b (.cells (fillL z (partVals φ parts)).toArray t) :: Γ) K
def storeB (n s b o : Nat) (x : Value) (q : Sl) : Prop := match q with
  | .box b' T cs => b' = b ∧ o + n ≤ cs.length ∧ vcOps P Γr r (updBox φ s (setC cs o n x)) Γ K
  | _ => False
def storeP (n b o : Nat) (x : Value) : Prop := ∃ i h cells T, Γ[i]? = some h ∧ h b = some (.cells cells T (0, 0)) ∧ o + n ≤ cells.size ∧
        vcOps P Γr r φ (Γ.set i (upd h b (.cells (setC cells.toList o n x).toArray T))) K
def storeC (n : Nat) (s : Sl) (on : Bool) (vy : Bool × Value) : Prop := on = true ∧ vy.1 = true ∧ (cellsV vy.2).length = n ∧ one' (cellsV vy.2) ∧ (match s with
    | .ref _ s b o => storeB P Γr r φ Γ K n s b o vy.2 (look φ s)
    | .v _ (.pointer (some ⟨b, o, none⟩)) => storeP P Γr r φ Γ K n b o vy.2
    | _ => False)
def appendC (t e : TypeId) (sz bytes : Nat) (z : Value) (vs vx : Bool × Value) : Prop := vs.1 = true ∧ vx.1 = true ∧ (match vx.2 with
    | .slice A m c => ∃ i h n xs news, Γ[i]? = some h ∧ Row h e sz vs.2 n xs ∧ news.length = m * sz ∧ one' news ∧ (m = 0 ∨ ∃ b o, A = some ⟨b, o, none⟩ ∧ Cells (Γ ++ Γr) b o news) ∧
        (n + m) * bytes ≤ 140737488355328 ∧ n + m ≤ maxLen ∧
        ∀ v' h', Row h' e sz v' (n + m) (xs ++ news) → Row h' e sz vs.2 n xs → KeptBut vs.2 v' h h' → vcOps P Γr r (put φ d (.v true v')) (Γ.set i h') K
    | _ => False)
def appzC (t u e : TypeId) (sz bytes : Nat) (z : Value) (vs vx : Bool × Value) : Prop := vs.1 = true ∧ vx.1 = true ∧ (match vs.2, vx.2 with
    | .slice A 0 0, .int .i64 m => 0 ≤ m ∧ m * bytes ≤ 140737488355328 ∧ m ≤ maxLen ∧ ∃ i h, Γ[i]? = some h ∧
        ∀ v' h', Row h' e sz v' m.toNat (zerosL (cellsV z) m.toNat) → KeptBut (.slice A 0 0) v' h h' → vcOps P Γr r (put φ d (.v true v')) (Γ.set i h') K
    | _, _ => False)
def mkC (e : TypeId) (sz bytes : Nat) (z : Value) (vn vc : Bool × Value) : Prop := match vn, vc with
    | (true, .int .i64 m), (true, .int .i64 p) => 0 ≤ m ∧ m ≤ p ∧ p * bytes ≤ 140737488355328 ∧ ∀ b, vcOps P Γr r (put φ d (.v true (.slice (some ⟨b, 0, none⟩) m.toNat p.toNat))) (one b (.cells (zerosL (cellsV z) p.toNat).toArray e) :: Γ) K
    | _, _ => False
def fnC (on : Prop) (v : Option Value) : Prop := ∃ x, (e = true → on ∧ v = some x) ∧ vcOps P Γr r (put φ d (.v e x)) Γ K
def qC (c : Qk) (on : Prop) (vs : List Value) : Prop := ∃ x, (e = true → on ∧ QR P c vs (Γ ++ Γr) x) ∧ vcOps P Γr r (put φ d (.v e x)) Γ K
def aC (c : Qk) (vs : List Value) : Prop := ∀ w, Holds (Γ ++ Γr) w → ∃ v w' m, (qsem c vs).run P w = .ok v w' ∧
      ((w' = w.drewN m ∧ vcOps P Γr r (put φ d (.v true v)) Γ K) ∨ ∃ i h b p q, Γ[i]? = some h ∧ h b = some p ∧ w' = setBlk (w.drewN m) b q ∧ vcOps P Γr r (put φ d (.v true v)) (Γ.set i (upd h b q)) K)
def nC (c : Qk) (vs : List Value) : Prop := ∀ w, Holds (Γ ++ Γr) w → ∃ v q, (qsem c vs).run P w = .ok v (w.alloc q) ∧ vcOps P Γr r (put φ d (.v true v)) (one w.heap.size q :: Γ) K
def callK : Value → Ctx → Prop := fun v Γ' => vcOps P Γr r (put φ d (.v true v)) Γ' K
def callC (vf : Bool × Value) (args : List Value) : Prop := match vf with
    | (true, .func (.func g) c1 c2) => CallVC P Γr g (c1.toList ++ args ++ c2.toList) Γ (callK P Γr d r φ K)
    | _ => False
end

section
variable {P : Program} {Γr : Ctx} {a b : Stmt} {M N L : List Nat} {φ : Fr} {Γ : Ctx} {Q : Post} {ops r : List SOper} {K : Fr → Ctx → Prop} {e : Bool} {d : Option Nat} {id : Nat} {g : Nat × Bool}
theorem e_seq : vc P Γr (.seq a b) φ Γ Q = vc P Γr a φ Γ (Q.seq (Kseq P Γr b Q)) := rfl
theorem e_region : vc P Γr (.region ops L) φ Γ Q = vcOps P Γr ops φ Γ (Fin L Q.nrm) := rfl
theorem e_quiet : vc P Γr (.quiet ops L) φ Γ Q = vcOps P Γr ops φ Γ (Fin L Q.nrm) := rfl
theorem e_join : vc P Γr (.join a b M N) φ Γ Q = joinC P Γr a b M N φ Γ Q := rfl
theorem e_loop : vc P Γr (.loop a M N) φ Γ Q = loopC P Γr a M N φ Γ Q := rfl
theorem e_cond {c : Operand} : vc P Γr (.cond c a b) φ Γ Q = condC P Γr (val φ c) a b φ Γ Q := rfl
theorem e_block : vc P Γr (.block id a) φ Γ Q = vc P Γr a φ Γ (Q.inBlock id) := rfl
theorem e_exit : vc P Γr (.exit id) φ Γ Q = Q.ex id φ Γ := rfl
theorem e_ret : vc P Γr .ret φ Γ Q = Q.ret φ Γ := rfl
theorem e_skip : vc P Γr .skip φ Γ Q = Q.nrm φ Γ := rfl
theorem e_fin : Fin L K φ Γ = K (proj φ L) Γ := rfl
theorem e_kseq : Kseq P Γr b Q φ Γ = vc P Γr b φ Γ Q := rfl
theorem e_snrm : (Q.seq K).nrm = K := rfl
theorem e_sret : (Q.seq K).ret = Q.ret := rfl
theorem e_sex : (Q.seq K).ex = Q.ex := rfl
theorem e_bnrm : (Q.inBlock id).nrm = Q.nrm := rfl
theorem e_bret : (Q.inBlock id).ret = Q.ret := rfl
theorem e_bex {j : Nat} : (Q.inBlock id).ex j φ Γ = (bif j == id then Q.nrm φ Γ else Q.ex j φ Γ) := rfl
theorem e_rnrm {res : List (Nat × Option (Bool × Nat))} {R : Value → Ctx → Prop} : (PostR res R).nrm φ Γ = ResultP res R φ Γ := rfl
theorem e_rret {res : List (Nat × Option (Bool × Nat))} {R : Value → Ctx → Prop} : (PostR res R).ret φ Γ = ResultP res R φ Γ := rfl
theorem e_res {res : List (Nat × Option (Bool × Nat))} {R : Value → Ctx → Prop} : ResultP res R φ Γ = (slotsOn φ res ∧ Up Γ (R (resV (slotVals φ res)))) := rfl
theorem e_condC {x : Bool} : condC P Γr (true, .bool x) a b φ Γ Q = ((x = true → vc P Γr a φ Γ Q) ∧ (x = false → vc P Γr b φ Γ Q)) := by simp [condC]

theorem e_nil : vcOps P Γr [] φ Γ K = K φ Γ := rfl
theorem e_g {op : SOp} : vcOps P Γr (⟨d, some g, op⟩ :: r) φ Γ K = gC P Γr d r φ Γ K (gd φ (some g)) op := rfl
theorem e_mv {x : Operand} : vcOps P Γr (⟨d, none, .mv x⟩ :: r) φ Γ K = ((val φ x).1 = true ∧ vcOps P Γr r (put φ d (slotOf φ true x)) Γ K) := by
  show ((true = true → (val φ x).1 = true) ∧ _) = _
  simp
theorem g_mv {x : Operand} : gC P Γr d r φ Γ K (some e) (.mv x) = ((e = true → (val φ x).1 = true) ∧ vcOps P Γr r (put φ d (slotOf φ e x)) Γ K) := rfl
theorem e_pick {c x y : Operand} : vcOps P Γr (⟨d, none, .pick c x y⟩ :: r) φ Γ K = pickC P Γr true d r φ Γ K (val φ c) (val φ x) (val φ y) := rfl
theorem g_pick {c x y : Operand} : gC P Γr d r φ Γ K (some e) (.pick c x y) = pickC P Γr e d r φ Γ K (val φ c) (val φ x) (val φ y) := rfl
theorem pickC_eq {ec cb : Bool} {x y : Bool × Value} : pickC P Γr e d r φ Γ K (ec, .bool cb) x y = ((e = true → ec = true) ∧ (e = true → cb = true → x.1 = true) ∧ (e = true → cb = false → y.1 = true) ∧ vcOps P Γr r (put φ d (.v e (pickV cb x.2 y.2))) Γ K) := rfl
theorem e_ibin {op : BinOp} {x y : Operand} : vcOps P Γr (⟨d, none, .ibin op x y⟩ :: r) φ Γ K = ibinC P Γr true d r φ Γ K op (val φ x) (val φ y) := rfl
theorem g_ibin {op : BinOp} {x y : Operand} : gC P Γr d r φ Γ K (some e) (.ibin op x y) = ibinC P Γr e d r φ Γ K op (val φ x) (val φ y) := rfl
theorem ibinC_eq {op : BinOp} {ex ey : Bool} {k : IntKind} {m n : Int} : ibinC P Γr e d r φ Γ K op (ex, .int k m) (ey, .int k n) =
    (ibinOk op = true ∧ (e = true → ex = true) ∧ (e = true → ey = true) ∧ vcOps P Γr r (put φ d (.v e (ibinV op k m n))) Γ K) := by simp [ibinC]
theorem e_sbin {op : BinOp} {x y : Operand} : vcOps P Γr (⟨d, none, .sbin op x y⟩ :: r) φ Γ K = sbinC P Γr true d r φ Γ K op (val φ x) (val φ y) := rfl
theorem g_sbin {op : BinOp} {x y : Operand} : gC P Γr d r φ Γ K (some e) (.sbin op x y) = sbinC P Γr e d r φ Γ K op (val φ x) (val φ y) := rfl
theorem e_beq {neg : Bool} {x y : Operand} : vcOps P Γr (⟨d, none, .beq neg x y⟩ :: r) φ Γ K = beqC P Γr true d r φ Γ K neg (val φ x) (val φ y) := rfl
theorem g_beq {neg : Bool} {x y : Operand} : gC P Γr d r φ Γ K (some e) (.beq neg x y) = beqC P Γr e d r φ Γ K neg (val φ x) (val φ y) := rfl
theorem beqC_eq {neg ex ey m n : Bool} : beqC P Γr e d r φ Γ K neg (ex, .bool m) (ey, .bool n) = ((e = true → ex = true) ∧ (e = true → ey = true) ∧ vcOps P Γr r (put φ d (.v e (.bool ((m == n) != neg)))) Γ K) := rfl
theorem e_nilq {kd : Nat} {neg : Bool} {x y : Operand} : vcOps P Γr (⟨d, none, .nilq kd neg x y⟩ :: r) φ Γ K = nilqC P Γr true d r φ Γ K kd neg (val φ x) (val φ y) := rfl
theorem g_nilq {kd : Nat} {neg : Bool} {x y : Operand} : gC P Γr d r φ Γ K (some e) (.nilq kd neg x y) = nilqC P Γr e d r φ Γ K kd neg (val φ x) (val φ y) := rfl
theorem nilqC_sl {neg ex ey : Bool} {A : Option Addr} {n c : Nat} : nilqC P Γr e d r φ Γ K 0 neg (ex, .slice A n c) (ey, .slice none 0 0) = ((e = true → ey = true) ∧ (e = true → ex = true) ∧ vcOps P Γr r (put φ d (.v e (.bool (A.isNone != neg)))) Γ K) := by simp [nilqC, isNil, nilV]
theorem nilqC_pt {neg ex ey : Bool} {A : Option Addr} : nilqC P Γr e d r φ Γ K 1 neg (ex, .pointer A) (ey, .pointer none) = ((e = true → ey = true) ∧ (e = true → ex = true) ∧ vcOps P Γr r (put φ d (.v e (.bool (A.isNone != neg)))) Γ K) := by simp [nilqC, isNil, nilV]
theorem nilqC_mp {neg ex ey : Bool} {A : Option Nat} : nilqC P Γr e d r φ Γ K 2 neg (ex, .map A) (ey, .map none) = ((e = true → ey = true) ∧ (e = true → ex = true) ∧ vcOps P Γr r (put φ d (.v e (.bool (A.isNone != neg)))) Γ K) := by simp [nilqC, isNil, nilV]
theorem e_un {op : UnOp} {x : Operand} : vcOps P Γr (⟨d, none, .un op x⟩ :: r) φ Γ K = unC P Γr true d r φ Γ K op (val φ x) := rfl
theorem g_un {op : UnOp} {x : Operand} : gC P Γr d r φ Γ K (some e) (.un op x) = unC P Γr e d r φ Γ K op (val φ x) := rfl
theorem unC_not {ex m : Bool} : unC P Γr e d r φ Γ K .not (ex, .bool m) = ((e = true → ex = true) ∧ vcOps P Γr r (put φ d (.v e (.bool (!m)))) Γ K) := by simp [unC, unV]
theorem unC_neg {ex : Bool} {k : IntKind} {m : Int} : unC P Γr e d r φ Γ K .neg (ex, .int k m) = ((e = true → ex = true) ∧ vcOps P Γr r (put φ d (.v e (.int k (k.wrap (0 - m))))) Γ K) := by simp [unC, unV]
theorem e_conv {k : IntKind} {x : Operand} : vcOps P Γr (⟨d, none, .conv k x⟩ :: r) φ Γ K = convC P Γr true d r φ Γ K k (val φ x) := rfl
theorem g_conv {k : IntKind} {x : Operand} : gC P Γr d r φ Γ K (some e) (.conv k x) = convC P Γr e d r φ Γ K k (val φ x) := rfl
theorem convC_eq {k kx : IntKind} {ex : Bool} {m : Int} : convC P Γr e d r φ Γ K k (ex, .int kx m) = ((e = true → ex = true) ∧ vcOps P Γr r (put φ d (.v e (.int k (k.wrap m)))) Γ K) := rfl
theorem e_fld {off : Nat} {x : Operand} : vcOps P Γr (⟨d, none, .fld off x⟩ :: r) φ Γ K = fldC P Γr true d r φ Γ K off (slotOf φ true x) (val φ x).1 := rfl
theorem g_fld {off : Nat} {x : Operand} : gC P Γr d r φ Γ K (some e) (.fld off x) = fldC P Γr e d r φ Γ K off (slotOf φ e x) (val φ x).1 := rfl
theorem fldC_ref {off s b o : Nat} {e' on : Bool} : fldC P Γr e d r φ Γ K off (.ref e' s b o) on = ((e = true → on = true) ∧ vcOps P Γr r (put φ d (.ref e s b (o + off))) Γ K) := rfl
theorem fldC_ptr {off b o : Nat} {e' on : Bool} : fldC P Γr e d r φ Γ K off (.v e' (.pointer (some ⟨b, o, none⟩))) on = ((e = true → on = true) ∧ vcOps P Γr r (put φ d (.v e (.pointer (some ⟨b, o + off, none⟩)))) Γ K) := rfl
theorem e_nilCheck {x : Operand} : vcOps P Γr (⟨d, none, .nilCheck x⟩ :: r) φ Γ K = nilCheckC P Γr true d r φ Γ K (slotOf φ true x) (val φ x).1 := rfl
theorem g_nilCheck {x : Operand} : gC P Γr d r φ Γ K (some e) (.nilCheck x) = nilCheckC P Γr e d r φ Γ K (slotOf φ e x) (val φ x).1 := rfl
theorem nilCheckC_ref {s b o : Nat} {e' on : Bool} : nilCheckC P Γr e d r φ Γ K (.ref e' s b o) on = ((e = true → on = true) ∧ vcOps P Γr r (put φ d (.ref e s b o)) Γ K) := rfl
theorem nilCheckC_ptr {ad : Addr} {e' on : Bool} : nilCheckC P Γr e d r φ Γ K (.v e' (.pointer (some ad))) on = ((e = true → on = true) ∧ vcOps P Γr r (put φ d (.v e (.pointer (some ad)))) Γ K) := rfl
theorem nilCheckC_fun {f : FuncId} {c1 c2 : Array Value} {e' on : Bool} : nilCheckC P Γr e d r φ Γ K (.v e' (.func (.func f) c1 c2)) on = ((e = true → on = true) ∧ vcOps P Γr r (put φ d (.v e (.func (.func f) c1 c2))) Γ K) := rfl
theorem e_field {agg : Bool} {off n : Nat} {x : Operand} : vcOps P Γr (⟨d, none, .field agg off n x⟩ :: r) φ Γ K = fieldC P Γr true d r φ Γ K agg off n (val φ x) := rfl
theorem g_field {agg : Bool} {off n : Nat} {x : Operand} : gC P Γr d r φ Γ K (some e) (.field agg off n x) = fieldC P Γr e d r φ Γ K agg off n (val φ x) := rfl
theorem fieldC_eq {agg ex : Bool} {off n : Nat} {cs : List Value} : fieldC P Γr e d r φ Γ K agg off n (ex, .agg cs.toArray) =
    ((e = true → ex = true) ∧ off + n ≤ cs.length ∧ (agg = false → n = 1) ∧ vcOps P Γr r (put φ d (.v e (mkv agg ((cs.drop off).take n)))) Γ K) := by simp [fieldC]
theorem e_len {str : Bool} {x : Operand} : vcOps P Γr (⟨d, none, .len str x⟩ :: r) φ Γ K = lenC P Γr true d r φ Γ K str (val φ x) := rfl
theorem g_len {str : Bool} {x : Operand} : gC P Γr d r φ Γ K (some e) (.len str x) = lenC P Γr e d r φ Γ K str (val φ x) := rfl
theorem lenC_sl {ex : Bool} {A : Option Addr} {n c : Nat} : lenC P Γr e d r φ Γ K false (ex, .slice A n c) = ((e = true → ex = true) ∧ vcOps P Γr r (put φ d (.v e (.int .i64 n))) Γ K) := by simp [lenC, lenV]
theorem lenC_str {ex : Bool} {s : ByteArray} : lenC P Γr e d r φ Γ K true (ex, .string s) = ((e = true → ex = true) ∧ vcOps P Γr r (put φ d (.v e (.int .i64 s.size))) Γ K) := by simp [lenC, lenV]
theorem e_extract {i : Nat} {x : Operand} : vcOps P Γr (⟨d, none, .extract i x⟩ :: r) φ Γ K = extractC P Γr true d r φ Γ K i (val φ x) := rfl
theorem g_extract {i : Nat} {x : Operand} : gC P Γr d r φ Γ K (some e) (.extract i x) = extractC P Γr e d r φ Γ K i (val φ x) := rfl
theorem extractC_eq {ex : Bool} {i : Nat} {vs : List Value} : extractC P Γr e d r φ Γ K i (ex, .tuple vs.toArray) = (∃ q, vs[i]? = some q ∧ (e = true → ex = true) ∧ vcOps P Γr r (put φ d (.v e q)) Γ K) := rfl
theorem e_mkFunc {fn : FuncId} {caps : List Operand} : vcOps P Γr (⟨d, none, .mkFunc fn caps⟩ :: r) φ Γ K = (allOn φ true caps ∧ vcOps P Γr r (put φ d (.v true (.func (.func fn) #[] (vals φ caps).toArray))) Γ K) := rfl
theorem e_build {t : TypeId} {z : List Value} {parts : List (Nat × Nat × Operand)} : vcOps P Γr (⟨d, none, .build t z parts⟩ :: r) φ Γ K =
    (partOn φ true parts ∧ fits (partVals φ parts) ∧ vcOps P Γr r (put φ d (.v true (.agg (fillL z (partVals φ parts)).toArray))) Γ K) := rfl
theorem g_build {t : TypeId} {z : List Value} {parts : List (Nat × Nat × Operand)} : gC P Γr d r φ Γ K (some e) (.build t z parts) =
    (partOn φ e parts ∧ fits (partVals φ parts) ∧ vcOps P Γr r (put φ d (.v e (.agg (fillL z (partVals φ parts)).toArray))) Γ K) := rfl
theorem e_idiv {op : BinOp} {x y : Operand} : vcOps P Γr (⟨d, none, .idiv op x y⟩ :: r) φ Γ K = idivC P Γr true d r φ Γ K op (val φ x) (val φ y) := rfl
theorem g_idiv {op : BinOp} {x y : Operand} : gC P Γr d r φ Γ K (some e) (.idiv op x y) = idivC P Γr e d r φ Γ K op (val φ x) (val φ y) := rfl
theorem idivC_eq {op : BinOp} {ex ey : Bool} {k : IntKind} {m n : Int} : idivC P Γr e d r φ Γ K op (ex, .int k m) (ey, .int k n) =
    ((op = .quo ∨ op = .rem) ∧ (e = true → ex = true ∧ ey = true ∧ n ≠ 0) ∧ vcOps P Γr r (put φ d (.v e (idivV op k m n))) Γ K) := by simp [idivC]
theorem e_ishift {op : BinOp} {x y : Operand} : vcOps P Γr (⟨d, none, .ishift op x y⟩ :: r) φ Γ K = ishiftC P Γr true d r φ Γ K op (val φ x) (val φ y) := rfl
theorem g_ishift {op : BinOp} {x y : Operand} : gC P Γr d r φ Γ K (some e) (.ishift op x y) = ishiftC P Γr e d r φ Γ K op (val φ x) (val φ y) := rfl
theorem ishiftC_eq {op : BinOp} {ex ey : Bool} {k ky : IntKind} {m n : Int} : ishiftC P Γr e d r φ Γ K op (ex, .int k m) (ey, .int ky n) =
    ((op = .shl ∨ op = .shr) ∧ (e = true → ex = true ∧ ey = true ∧ 0 ≤ n) ∧ vcOps P Γr r (put φ d (.v e (ishiftV op k m n))) Γ K) := rfl
theorem e_idx {sz : Nat} {x i : Operand} : vcOps P Γr (⟨d, none, .idx sz x i⟩ :: r) φ Γ K = idxC P Γr true d r φ Γ K sz (val φ x) (val φ i) := rfl
theorem g_idx {sz : Nat} {x i : Operand} : gC P Γr d r φ Γ K (some e) (.idx sz x i) = idxC P Γr e d r φ Γ K sz (val φ x) (val φ i) := rfl
theorem e_idxA {len sz : Nat} {x i : Operand} : vcOps P Γr (⟨d, none, .idxA len sz x i⟩ :: r) φ Γ K = idxAC P Γr true d r φ Γ K len sz (slotOf φ true x) (val φ x).1 (val φ i) := rfl
theorem g_idxA {len sz : Nat} {x i : Operand} : gC P Γr d r φ Γ K (some e) (.idxA len sz x i) = idxAC P Γr e d r φ Γ K len sz (slotOf φ e x) (val φ x).1 (val φ i) := rfl
theorem e_load {agg : Bool} {n : Nat} {x : Operand} : vcOps P Γr (⟨d, none, .load agg n x⟩ :: r) φ Γ K = loadC P Γr true d r φ Γ K agg n (slotOf φ true x) (val φ x).1 := rfl
theorem g_load {agg : Bool} {n : Nat} {x : Operand} : gC P Γr d r φ Γ K (some e) (.load agg n x) = loadC P Γr e d r φ Γ K agg n (slotOf φ e x) (val φ x).1 := rfl
theorem loadC_ref {agg e' on : Bool} {n s b o : Nat} : loadC P Γr e d r φ Γ K agg n (.ref e' s b o) on = loadB P Γr e d r φ Γ K agg n b o on (look φ s) := rfl
theorem loadC_ptr {agg e' on : Bool} {n b o : Nat} : loadC P Γr e d r φ Γ K agg n (.v e' (.pointer (some ⟨b, o, none⟩))) on = loadP P Γr e d r φ Γ K agg n b o on := rfl
theorem loadB_eq {agg on : Bool} {n b o : Nat} {T : TypeId} {cs : List Value} : loadB P Γr e d r φ Γ K agg n b o on (.box b T cs) =
    ((e = true → on = true) ∧ o + n ≤ cs.length ∧ (agg = false → n = 1) ∧ vcOps P Γr r (put φ d (.v e (mkv agg ((cs.drop o).take n)))) Γ K) := by simp [loadB]
theorem e_slc {sz : Nat} {x : Operand} {lo hi : Option Operand} : vcOps P Γr (⟨d, none, .slc sz x lo hi none⟩ :: r) φ Γ K = slcC P Γr true d r φ Γ K sz lo hi (val φ x) := rfl
theorem g_slc {sz : Nat} {x : Operand} {lo hi : Option Operand} : gC P Γr d r φ Γ K (some e) (.slc sz x lo hi none) = slcC P Γr e d r φ Γ K sz lo hi (val φ x) := rfl
theorem e_box {loc : Bool} {T : TypeId} {x : Operand} : vcOps P Γr (⟨d, none, .box loc T x⟩ :: r) φ Γ K = boxC P Γr d r φ Γ K loc T (val φ x) := by cases loc <;> rfl
theorem boxC_loc {T : TypeId} {vx : Bool × Value} : boxC P Γr d r φ Γ K true T vx = (vx.1 = true ∧ one' (cellsV vx.2) ∧ ∀ b, vcOps P Γr r (put φ d (.box b T (cellsV vx.2))) Γ K) := rfl
theorem boxC_esc {T : TypeId} {vx : Bool × Value} : boxC P Γr d r φ Γ K false T vx = (vx.1 = true ∧ one' (cellsV vx.2) ∧ ∀ b, vcOps P Γr r (put φ d (.v true (.pointer (some ⟨b, 0, none⟩)))) (one b (.cells (cellsV vx.2).toArray T) :: Γ) K) := rfl
theorem e_alloc {loc : Bool} {T : TypeId} {z : Value} : vcOps P Γr (⟨d, none, .alloc loc T z⟩ :: r) φ Γ K = allocC P Γr d r φ Γ K loc T z := by cases loc <;> rfl
theorem allocC_loc {T : TypeId} {z : Value} : allocC P Γr d r φ Γ K true T z = (∀ b, vcOps P Γr r (put φ d (.box b T (cellsV z))) Γ K) := rfl
theorem allocC_esc {T : TypeId} {z : Value} : allocC P Γr d r φ Γ K false T z = (∀ b, vcOps P Γr r (put φ d (.v true (.pointer (some ⟨b, 0, none⟩)))) (one b (.cells (cellsV z).toArray T) :: Γ) K) := rfl
theorem e_buildS {t : TypeId} {n : Nat} {z : List Value} {parts : List (Nat × Nat × Operand)} : vcOps P Γr (⟨d, none, .buildS t n z parts⟩ :: r) φ Γ K =
    (partOn φ true parts ∧ fits (partVals φ parts) ∧ ∀ b, vcOps P Γr r (put φ d (.v true (.slice (some ⟨b, 0, none⟩) n n))) (one b (.cells (fillL z (partVals φ parts)).toArray t) :: Γ) K) := rfl
theorem e_store {n : Nat} {x y : Operand} : vcOps P Γr (⟨d, none, .store n x y⟩ :: r) φ Γ K = storeC P Γr r φ Γ K n (slotOf φ true x) (val φ x).1 (val φ y) := rfl
theorem storeC_ref {n s b o : Nat} {e' : Bool} {y : Value} : storeC P Γr r φ Γ K n (.ref e' s b o) true (true, y) = ((cellsV y).length = n ∧ one' (cellsV y) ∧ storeB P Γr r φ Γ K n s b o y (look φ s)) := by simp [storeC]
theorem storeC_ptr {n b o : Nat} {e' : Bool} {y : Value} : storeC P Γr r φ Γ K n (.v e' (.pointer (some ⟨b, o, none⟩))) true (true, y) = ((cellsV y).length = n ∧ one' (cellsV y) ∧ storeP P Γr r φ Γ K n b o y) := by simp [storeC]
theorem storeB_eq {n s b o : Nat} {y : Value} {T : TypeId} {cs : List Value} : storeB P Γr r φ Γ K n s b o y (.box b T cs) = (o + n ≤ cs.length ∧ vcOps P Γr r (updBox φ s (setC cs o n y)) Γ K) := by simp [storeB]
theorem e_append {t el : TypeId} {sz bytes : Nat} {z : Value} {s x : Operand} : vcOps P Γr (⟨d, none, .append t el sz bytes z s x⟩ :: r) φ Γ K = appendC P Γr d r φ Γ K t el sz bytes z (val φ s) (val φ x) := rfl
theorem e_appz {t u el : TypeId} {sz bytes : Nat} {z : Value} {s x : Operand} : vcOps P Γr (⟨d, none, .appz t u el sz bytes z s x⟩ :: r) φ Γ K = appzC P Γr d r φ Γ K t u el sz bytes z (val φ s) (val φ x) := rfl
theorem e_mk {el : TypeId} {sz bytes : Nat} {z : Value} {x y : Operand} : vcOps P Γr (⟨d, none, .mk el sz bytes z x y⟩ :: r) φ Γ K = mkC P Γr d r φ Γ K el sz bytes z (val φ x) (val φ y) := rfl
theorem mkC_eq {el : TypeId} {sz bytes : Nat} {z : Value} {m p : Int} : mkC P Γr d r φ Γ K el sz bytes z (true, .int .i64 m) (true, .int .i64 p) =
    (0 ≤ m ∧ m ≤ p ∧ p * bytes ≤ 140737488355328 ∧ ∀ b, vcOps P Γr r (put φ d (.v true (.slice (some ⟨b, 0, none⟩) m.toNat p.toNat))) (one b (.cells (zerosL (cellsV z) p.toNat).toArray el) :: Γ) K) := rfl
theorem e_call {f : Operand} {args : List Operand} : vcOps P Γr (⟨d, none, .call f args⟩ :: r) φ Γ K = (allOn φ true args ∧ callC P Γr d r φ Γ K (val φ f) (vals φ args)) := rfl
theorem callC_eq {f : FuncId} {c1 c2 : Array Value} {args : List Value} : callC P Γr d r φ Γ K (true, .func (.func f) c1 c2) args = CallVC P Γr f (c1.toList ++ args ++ c2.toList) Γ (callK P Γr d r φ K) := rfl
theorem e_fn {c : Fk} {xs : List Operand} : vcOps P Γr (⟨d, none, .fn c xs⟩ :: r) φ Γ K = fnC P Γr true d r φ Γ K (allOn φ true xs) (fnV c (vals φ xs)) := rfl
theorem g_fn {c : Fk} {xs : List Operand} : gC P Γr d r φ Γ K (some e) (.fn c xs) = fnC P Γr e d r φ Γ K (allOn φ true xs) (fnV c (vals φ xs)) := rfl
theorem fnC_eq {on : Prop} {x : Value} : fnC P Γr true d r φ Γ K on (some x) = (on ∧ vcOps P Γr r (put φ d (.v true x)) Γ K) := by
  apply propext
  simp only [fnC, true_implies, Option.some.injEq]
  exact ⟨fun ⟨y, ⟨h1, h2⟩, h3⟩ => by subst h2; exact ⟨h1, h3⟩, fun ⟨h1, h2⟩ => ⟨x, ⟨h1, rfl⟩, h2⟩⟩
theorem fnV_min' {k : IntKind} {m n : Int} : fnV .min [.int k m, .int k n] = some (.int k (if n < m then n else m)) := by simp [fnV]
theorem fnV_max' {k : IntKind} {m n : Int} : fnV .max [.int k m, .int k n] = some (.int k (if m < n then n else m)) := by simp [fnV]
theorem fnV_rune' {k : IntKind} {n : Int} : fnV .rune [.int k n] = some (.string (Utf8.encode n)) := rfl
theorem e_q {c : Qk} {xs : List Operand} : vcOps P Γr (⟨d, none, .q c xs⟩ :: r) φ Γ K = qC P Γr true d r φ Γ K c (allOn φ true xs) (vals φ xs) := rfl
theorem g_q {c : Qk} {xs : List Operand} : gC P Γr d r φ Γ K (some e) (.q c xs) = qC P Γr e d r φ Γ K c (allOn φ true xs) (vals φ xs) := rfl
theorem e_a {c : Qk} {xs : List Operand} : vcOps P Γr (⟨d, none, .a c xs⟩ :: r) φ Γ K = (allOn φ true xs ∧ aC P Γr d r φ Γ K c (vals φ xs)) := rfl
theorem e_n {c : Qk} {xs : List Operand} : vcOps P Γr (⟨d, none, .n c xs⟩ :: r) φ Γ K = (allOn φ true xs ∧ nC P Γr d r φ Γ K c (vals φ xs)) := rfl
theorem g_call {f : Operand} {args : List Operand} : gC P Γr d r φ Γ K (some e) (.call f args) =
    ((e = true → vcOps P Γr (⟨d, none, (.call f args)⟩ :: r) φ Γ K) ∧ (e = false → ∃ x, vcOps P Γr r (put φ d (.v false x)) Γ K)) := rfl
theorem g_box {loc : Bool} {T : TypeId} {x : Operand} : gC P Γr d r φ Γ K (some e) (.box loc T x) =
    ((e = true → vcOps P Γr (⟨d, none, (.box loc T x)⟩ :: r) φ Γ K) ∧ (e = false → ∃ x, vcOps P Γr r (put φ d (.v false x)) Γ K)) := rfl
theorem g_alloc {loc : Bool} {T : TypeId} {z : Value} : gC P Γr d r φ Γ K (some e) (.alloc loc T z) =
    ((e = true → vcOps P Γr (⟨d, none, (.alloc loc T z)⟩ :: r) φ Γ K) ∧ (e = false → ∃ x, vcOps P Γr r (put φ d (.v false x)) Γ K)) := rfl
theorem g_buildS {t : TypeId} {n : Nat} {z : List Value} {parts : List (Nat × Nat × Operand)} : gC P Γr d r φ Γ K (some e) (.buildS t n z parts) =
    ((e = true → vcOps P Γr (⟨d, none, (.buildS t n z parts)⟩ :: r) φ Γ K) ∧ (e = false → ∃ x, vcOps P Γr r (put φ d (.v false x)) Γ K)) := rfl
theorem g_store {n : Nat} {x y : Operand} : gC P Γr d r φ Γ K (some e) (.store n x y) =
    ((e = true → vcOps P Γr (⟨d, none, (.store n x y)⟩ :: r) φ Γ K) ∧ (e = false → ∃ x, vcOps P Γr r (put φ d (.v false x)) Γ K)) := rfl
theorem g_append {t el : TypeId} {sz bytes : Nat} {z : Value} {s x : Operand} : gC P Γr d r φ Γ K (some e) (.append t el sz bytes z s x) =
    ((e = true → vcOps P Γr (⟨d, none, (.append t el sz bytes z s x)⟩ :: r) φ Γ K) ∧ (e = false → ∃ x, vcOps P Γr r (put φ d (.v false x)) Γ K)) := rfl
theorem g_mk {el : TypeId} {sz bytes : Nat} {z : Value} {x y : Operand} : gC P Γr d r φ Γ K (some e) (.mk el sz bytes z x y) =
    ((e = true → vcOps P Γr (⟨d, none, (.mk el sz bytes z x y)⟩ :: r) φ Γ K) ∧ (e = false → ∃ x, vcOps P Γr r (put φ d (.v false x)) Γ K)) := rfl
theorem g_a {c : Qk} {xs : List Operand} : gC P Γr d r φ Γ K (some e) (.a c xs) =
    ((e = true → vcOps P Γr (⟨d, none, (.a c xs)⟩ :: r) φ Γ K) ∧ (e = false → ∃ x, vcOps P Γr r (put φ d (.v false x)) Γ K)) := rfl
theorem g_n {c : Qk} {xs : List Operand} : gC P Γr d r φ Γ K (some e) (.n c xs) =
    ((e = true → vcOps P Γr (⟨d, none, (.n c xs)⟩ :: r) φ Γ K) ∧ (e = false → ∃ x, vcOps P Γr r (put φ d (.v false x)) Γ K)) := rfl
theorem g_dead  : gC P Γr d r φ Γ K (some e) .dead =
    ((e = true → vcOps P Γr (⟨d, none, .dead⟩ :: r) φ Γ K) ∧ (e = false → ∃ x, vcOps P Γr r (put φ d (.v false x)) Γ K)) := rfl
theorem e_dead : vcOps P Γr (⟨d, none, .dead⟩ :: r) φ Γ K = False := rfl
theorem e_callK {v : Value} : callK P Γr d r φ K v Γ = vcOps P Γr r (put φ d (.v true v)) Γ K := rfl
end

/-! operations whose order is drawn -/
def DK (P : Program) (Γr : Ctx) (r : List (Bool × SOper)) (K : Fr → Ctx → Prop) : Fr → Ctx → Prop := fun φ Γ => vcD P Γr r φ Γ K
def EK (P : Program) (Γr : Ctx) (r : List (Bool × SOper)) (K : Fr → Ctx → Prop) (Γ : Ctx) : Fr → Ctx → Prop := fun φ _ => vcD P Γr r φ Γ K
def drawnC (P : Program) (Γr : Ctx) (ops : List (Bool × SOper)) (L : List Nat) (φ : Fr) (Γ : Ctx) (Q : Post) : Prop :=
  ∃ Γm Γf, Ent Γ (Γm ++ Γf) ∧ vcD P (Γf ++ Γr) ops φ Γm (fun φ' Γ' => Q.nrm (proj φ' L) (Γ' ++ Γf))
def FinB (L : List Nat) (K : Fr → Ctx → Prop) (Γf : Ctx) : Fr → Ctx → Prop := fun φ' Γ' => K (proj φ' L) (Γ' ++ Γf)
section
variable {P : Program} {Γr : Ctx} {L : List Nat} {φ : Fr} {Γ Γf : Ctx} {Q : Post} {ops r : List (Bool × SOper)} {K : Fr → Ctx → Prop} {o : SOper}
theorem e_drawn : vc P Γr (.drawn ops L) φ Γ Q = (noBoxes φ ops ∧ (bif anyEarly ops then drawnC P Γr ops L φ Γ Q else vcD P Γr ops φ Γ (Fin L Q.nrm))) := rfl
def TK (P : Program) (Γr : Ctx) (t : DT (Bool × SOper)) (K : Fr → Ctx → Prop) : Fr → Ctx → Prop := fun φ Γ => vcT P Γr t φ Γ K
def FinJ (L : List Nat) (Γf : Ctx) (J : Fr → Ctx → Prop) : Fr → Ctx → Prop := fun φ' Γ' => Up (Γ' ++ Γf) (J (proj φ' L))
def treeC (P : Program) (Γr : Ctx) (t : DT (Bool × SOper)) (L : List Nat) (φ : Fr) (Γ : Ctx) (Q : Post) : Prop := ∃ (Γm Γf : Ctx) (J : Fr → Ctx → Prop), Ent Γ (Γm ++ Γf) ∧ vcT P (Γf ++ Γr) t φ Γm (FinJ L Γf J) ∧ ∀ ψ Γ', J ψ Γ' → Q.nrm ψ Γ'
theorem e_tree {t : DT (Bool × SOper)} : vc P Γr (.tree t L) φ Γ Q = (noBoxesT φ t ∧ treeC P Γr t L φ Γ Q) := rfl
theorem e_finJ {J : Fr → Ctx → Prop} : FinJ L Γf J φ Γ = Up (Γ ++ Γf) (J (proj φ L)) := rfl
theorem e_tk {t : DT (Bool × SOper)} : TK P Γr t K φ Γ = vcT P Γr t φ Γ K := rfl
theorem e_tfin : vcT P Γr .fin φ Γ K = K φ Γ := rfl
theorem e_tno : vcT P Γr .no φ Γ K = True := rfl
theorem e_nbt_q {e : Bool} {t : DT (Bool × SOper)} {g : Option (Nat × Bool)} {op : SOp} {d : Nat} : noBoxesT φ (.q (e, ⟨some d, g, op⟩) t) = (isBox (look φ d) = false ∧ noBoxesT φ t) := rfl
theorem e_nbt_qn {e : Bool} {t : DT (Bool × SOper)} {g : Option (Nat × Bool)} {op : SOp} : noBoxesT φ (.q (e, ⟨none, g, op⟩) t) = noBoxesT φ t := by simp [noBoxesT]
theorem e_nbt_a {e : Bool} {t u : DT (Bool × SOper)} {g : Option (Nat × Bool)} {op : SOp} {d : Nat} : noBoxesT φ (.alt (e, ⟨some d, g, op⟩) t u) = (isBox (look φ d) = false ∧ noBoxesT φ t) := rfl
theorem e_nbt_an {e : Bool} {t u : DT (Bool × SOper)} {g : Option (Nat × Bool)} {op : SOp} : noBoxesT φ (.alt (e, ⟨none, g, op⟩) t u) = noBoxesT φ t := by simp [noBoxesT]
theorem e_nbt_fin : noBoxesT φ .fin = True := rfl
theorem e_early_nil : anyEarly [] = false := rfl
theorem e_early_t : anyEarly ((true, o) :: r) = true := rfl
theorem e_early_f : anyEarly ((false, o) :: r) = anyEarly r := rfl
theorem e_nob_nil : noBoxes φ [] = True := rfl
theorem e_nob_none {e : Bool} {g : Option (Nat × Bool)} {op : SOp} : noBoxes φ ((e, ⟨none, g, op⟩) :: r) = noBoxes φ r := by simp [noBoxes]
theorem e_nob_some {e : Bool} {g : Option (Nat × Bool)} {op : SOp} {d : Nat} : noBoxes φ ((e, ⟨some d, g, op⟩) :: r) = (isBox (look φ d) = false ∧ noBoxes φ r) := rfl
theorem isBox_dead : isBox .dead = false := rfl
theorem isBox_v {e : Bool} {x : Value} : isBox (.v e x) = false := rfl
theorem isBox_ref {e : Bool} {a b c : Nat} : isBox (.ref e a b c) = false := rfl
theorem e_dnil : vcD P Γr [] φ Γ K = K φ Γ := rfl
theorem e_dk : DK P Γr r K φ Γ = vcD P Γr r φ Γ K := rfl
theorem e_ek {Γ' : Ctx} : EK P Γr r K Γ φ Γ' = vcD P Γr r φ Γ K := rfl
theorem e_finB {Γ' : Ctx} : FinB L K Γf φ Γ' = K (proj φ L) (Γ' ++ Γf) := rfl
theorem vcOps_vc1 {k : Fr → Ctx → Prop} : vc1 P Γr false o φ Γ k = vcOps P Γr [o] φ Γ k := by
  apply propext
  refine ⟨vcOps_of_vc1, fun h => ?_⟩
  obtain ⟨d, g, op⟩ := o
  unfold vc1
  cases g with
  | none =>
    simp only [vcOps] at h
    simp only [gd]
    cases hp : isPure op with
    | true => simpa only [hp, cond_true] using h
    | false =>
      cases ha : isAsk op with
      | true => simp only [hp, ha, cond_true, cond_false] at h ⊢; exact h
      | false => simp only [hp, ha, cond_false] at h ⊢; exact ⟨fun _ => h, fun q => by cases q⟩
  | some g =>
    simp only [vcOps] at h
    split at h
    · rename_i e he
      simp only [he]
      exact h
    · exact h.elim
theorem e_dcons : vcD P Γr ((false, o) :: r) φ Γ K = vcOps P Γr [o] φ Γ (DK P Γr r K) := vcOps_vc1
theorem e_tq {t : DT (Bool × SOper)} : vcT P Γr (.q (false, o) t) φ Γ K = vcOps P Γr [o] φ Γ (TK P Γr t K) := vcOps_vc1
def EKT (P : Program) (Γr : Ctx) (t : DT (Bool × SOper)) (K : Fr → Ctx → Prop) (Γ : Ctx) : Fr → Ctx → Prop := fun φ _ => vcT P Γr t φ Γ K
theorem e_ekt {t : DT (Bool × SOper)} {Γ' : Ctx} : EKT P Γr t K Γ φ Γ' = vcT P Γr t φ Γ K := rfl
theorem e_tearly {t : DT (Bool × SOper)} {d : Option Nat} {g : Option (Nat × Bool)} {agg : Bool} {n : Nat} {x : Operand} : vcT P Γr (.q (true, ⟨d, g, .load agg n x⟩) t) φ Γ K = vcOps P Γr [⟨d, g, .load agg n x⟩] φ [] (EKT P Γr t K Γ) := by
  show vc1 P Γr true _ φ Γ _ = _
  rw [← vcOps_vc1]
  rfl
theorem e_talt {t u : DT (Bool × SOper)} : vcT P Γr (.alt (false, o) t u) φ Γ K = (vcOps P Γr [o] φ Γ (TK P Γr t K) ∧ vcT P Γr u φ Γ K) := by
  show (vc1 P Γr false o φ Γ _ ∧ _) = _
  rw [vcOps_vc1]
  rfl
theorem e_dearly {d : Option Nat} {g : Option (Nat × Bool)} {agg : Bool} {n : Nat} {x : Operand} : vcD P Γr ((true, ⟨d, g, .load agg n x⟩) :: r) φ Γ K = vcOps P Γr [⟨d, g, .load agg n x⟩] φ [] (EK P Γr r K Γ) := by
  show vc1 P Γr true _ φ Γ _ = _
  rw [← vcOps_vc1]
  rfl
end

/-! frames -/
theorem look_nil (t : Nat) : look [] t = .dead := rfl
theorem look_c (k : Nat) (x : Sl) (r : Fr) (t : Nat) : look ((k, x) :: r) t = bif k == t then x else look r t := rfl
theorem proj_nil (φ : Fr) : proj φ [] = [] := rfl
theorem proj_c (φ : Fr) (t : Nat) (L : List Nat) : proj φ (t :: L) = (t, look φ t) :: proj φ L := rfl
theorem looks_nil (φ : Fr) : looks φ [] = [] := rfl
theorem looks_c (φ : Fr) (t : Nat) (L : List Nat) : looks φ (t :: L) = look φ t :: looks φ L := rfl
theorem zip_nil (r : List Sl) : zipS [] r = [] := rfl
theorem zip_c (t : Nat) (L : List Nat) (x : Sl) (r : List Sl) : zipS (t :: L) (x :: r) = (t, x) :: zipS L r := rfl
theorem val_tmp (φ : Fr) (t : Nat) : val φ (.tmp t) = (look φ t).val := rfl
theorem val_const (φ : Fr) (x : Value) : val φ (.const x) = (true, x) := rfl
theorem val_func (φ : Fr) (f : FuncId) : val φ (.func f) = (true, .func (.func f) #[] #[]) := rfl
theorem slv_v (e : Bool) (x : Value) : (Sl.v e x).val = (e, x) := rfl
theorem slv_box (b : Nat) (T : TypeId) (cs : List Value) : (Sl.box b T cs).val = (true, .pointer (some ⟨b, 0, none⟩)) := rfl
theorem slv_ref (e : Bool) (s b o : Nat) : (Sl.ref e s b o).val = (e, .pointer (some ⟨b, o, none⟩)) := rfl
def slotL (t : Nat) (e : Bool) : Sl → Sl
  | .box b _ _ => .ref e t b 0
  | .ref _ s b off => .ref e s b off
  | x => .v e x.val.2
theorem slot_tmp (φ : Fr) (e : Bool) (t : Nat) : slotOf φ e (.tmp t) = slotL t e (look φ t) := by
  simp only [slotOf, slotL]
  cases look φ t <;> rfl
theorem slot_const (φ : Fr) (e : Bool) (x : Value) : slotOf φ e (.const x) = .v e x := rfl
theorem slot_func (φ : Fr) (e : Bool) (f : FuncId) : slotOf φ e (.func f) = .v e (.func (.func f) #[] #[]) := rfl
theorem slotL_v (t : Nat) (e e' : Bool) (x : Value) : slotL t e (.v e' x) = .v e x := rfl
theorem slotL_box (t : Nat) (e : Bool) (b : Nat) (T : TypeId) (cs : List Value) : slotL t e (.box b T cs) = .ref e t b 0 := rfl
theorem slotL_ref (t : Nat) (e e' : Bool) (s b o : Nat) : slotL t e (.ref e' s b o) = .ref e s b o := rfl
theorem put_some (φ : Fr) (t : Nat) (x : Sl) : put φ (some t) x = (t, x) :: φ := rfl
theorem put_none (φ : Fr) (x : Sl) : put φ none x = φ := rfl
def boxSet : Sl → List Value → Sl
  | .box b T _, cs => .box b T cs
  | x, _ => x
theorem updBox_c (k : Nat) (x : Sl) (r : Fr) (t : Nat) (cs : List Value) : updBox ((k, x) :: r) t cs = bif k == t then (k, boxSet x cs) :: r else (k, x) :: updBox r t cs := by
  simp only [updBox]
  cases x <;> rfl
theorem boxSet_box (b : Nat) (T : TypeId) (cs cs' : List Value) : boxSet (.box b T cs) cs' = .box b T cs' := rfl
theorem gd_eq (φ : Fr) (t : Nat) (want : Bool) : gd φ (some (t, want)) = (match look φ t with | .v ge (.bool b) => some (ge && (b == want)) | _ => none) := rfl
theorem slotVals_nil (φ : Fr) : slotVals φ [] = [] := rfl
theorem slotVals_c (φ : Fr) (t : Nat) (r : List (Nat × Option (Bool × Nat))) : slotVals φ ((t, none) :: r) = (look φ t).val.2 :: slotVals φ r := rfl
theorem slotVals_b (φ : Fr) (t : Nat) (agg : Bool) (n : Nat) (r : List (Nat × Option (Bool × Nat))) : slotVals φ ((t, some (agg, n)) :: r) = boxV agg n (look φ t) :: slotVals φ r := rfl
theorem boxV_box (agg : Bool) (n b : Nat) (T : TypeId) (cs : List Value) : boxV agg n (.box b T cs) = mkv agg (cs.take n) := rfl
theorem boxOn_box (agg : Bool) (n b : Nat) (T : TypeId) (cs : List Value) : boxOn agg n (.box b T cs) = (n ≤ cs.length ∧ (agg = false → n = 1)) := rfl
theorem slotsOn_nil (φ : Fr) : slotsOn φ [] = True := rfl
theorem slotsOn_c (φ : Fr) (t : Nat) (r : List (Nat × Option (Bool × Nat))) : slotsOn φ ((t, none) :: r) = ((look φ t).val.1 = true ∧ slotsOn φ r) := rfl
theorem slotsOn_b (φ : Fr) (t : Nat) (agg : Bool) (n : Nat) (r : List (Nat × Option (Bool × Nat))) : slotsOn φ ((t, some (agg, n)) :: r) = (boxOn agg n (look φ t) ∧ slotsOn φ r) := rfl
theorem resV_one (x : Value) : resV [x] = x := rfl
theorem resV_two (x y : Value) (r : List Value) : resV (x :: y :: r) = .tuple (x :: y :: r).toArray := rfl
theorem vals_nil (φ : Fr) : vals φ [] = [] := rfl
theorem vals_c (φ : Fr) (x : Operand) (r : List Operand) : vals φ (x :: r) = (val φ x).2 :: vals φ r := rfl
theorem allOn_nil (φ : Fr) (e : Bool) : allOn φ e [] = True := rfl
theorem allOn_c (φ : Fr) (e : Bool) (x : Operand) (r : List Operand) : allOn φ e (x :: r) = ((e = true → (val φ x).1 = true) ∧ allOn φ e r) := rfl
theorem partOn_nil (φ : Fr) (e : Bool) : partOn φ e [] = True := rfl
theorem partOn_c (φ : Fr) (e : Bool) (o n : Nat) (x : Operand) (r : List (Nat × Nat × Operand)) : partOn φ e ((o, n, x) :: r) = ((e = true → (val φ x).1 = true) ∧ partOn φ e r) := rfl
theorem partVals_nil (φ : Fr) : partVals φ [] = [] := rfl
theorem partVals_c (φ : Fr) (o n : Nat) (x : Operand) (r : List (Nat × Nat × Operand)) : partVals φ ((o, n, x) :: r) = (o, n, (val φ x).2) :: partVals φ r := rfl
theorem fits_nil : fits [] = True := rfl
theorem fits_c (o n : Nat) (x : Value) (r : List (Nat × Nat × Value)) : fits ((o, n, x) :: r) = ((cellsV x).length = n ∧ fits r) := rfl
theorem fillL_nil (z : List Value) : fillL z [] = z := rfl
theorem fillL_c (z : List Value) (o n : Nat) (x : Value) (r : List (Nat × Nat × Value)) : fillL z ((o, n, x) :: r) = fillL (z.take o ++ cellsV x ++ z.drop (o + n)) r := rfl
theorem mkv_one (x : Value) (r : List Value) : mkv false (x :: r) = x := rfl
theorem mkv_agg (l : List Value) : mkv true l = .agg l.toArray := rfl
theorem cellsV_agg (l : List Value) : cellsV (.agg l.toArray) = l := rfl
theorem cellsV_int (k : IntKind) (x : Int) : cellsV (.int k x) = [.int k x] := rfl
theorem cellsV_bool (x : Bool) : cellsV (.bool x) = [.bool x] := rfl
theorem cellsV_slice (A : Option Addr) (n c : Nat) : cellsV (.slice A n c) = [.slice A n c] := rfl
theorem cellsV_string (s : ByteArray) : cellsV (.string s) = [.string s] := rfl
theorem cellsV_pointer (a : Option Addr) : cellsV (.pointer a) = [.pointer a] := rfl
theorem cellsV_func (f : Fn) (a b : Array Value) : cellsV (.func f a b) = [.func f a b] := rfl
theorem cellsV_nilf : cellsV .nilFunc = [.nilFunc] := rfl
theorem cellsV_map (a : Option Nat) : cellsV (.map a) = [.map a] := rfl
theorem one'_nil : one' [] = True := by simp [one']
theorem one'_c (x : Value) (r : List Value) : one' (x :: r) = (x.oneCell' = true ∧ one' r) := by simp [one']
theorem oc_int (k : IntKind) (x : Int) : (Value.int k x).oneCell' = true := rfl
theorem oc_bool (x : Bool) : (Value.bool x).oneCell' = true := rfl
theorem oc_slice (A : Option Addr) (n c : Nat) : (Value.slice A n c).oneCell' = true := rfl
theorem oc_string (s : ByteArray) : (Value.string s).oneCell' = true := rfl
theorem oc_pointer (a : Option Addr) : (Value.pointer a).oneCell' = true := rfl
theorem oc_func (f : Fn) (a b : Array Value) : (Value.func f a b).oneCell' = true := rfl
theorem oc_nilf : (Value.nilFunc).oneCell' = true := rfl
theorem oc_map (a : Option Nat) : (Value.map a).oneCell' = true := rfl
theorem setC_eq (cs : List Value) (o n : Nat) (x : Value) : setC cs o n x = cs.take o ++ cellsV x ++ cs.drop (o + n) := rfl
theorem iv_add (k : IntKind) (a b : Int) : ibinV .add k a b = .int k (k.wrap (a + b)) := rfl
theorem iv_sub (k : IntKind) (a b : Int) : ibinV .sub k a b = .int k (k.wrap (a - b)) := rfl
theorem iv_mul (k : IntKind) (a b : Int) : ibinV .mul k a b = .int k (k.wrap (a * b)) := rfl
theorem iv_eql (k : IntKind) (a b : Int) : ibinV .eql k a b = .bool (decide (a = b)) := rfl
theorem iv_neq (k : IntKind) (a b : Int) : ibinV .neq k a b = .bool (!decide (a = b)) := rfl
theorem iv_lss (k : IntKind) (a b : Int) : ibinV .lss k a b = .bool (decide (a < b)) := rfl
theorem iv_leq (k : IntKind) (a b : Int) : ibinV .leq k a b = .bool (decide (a ≤ b)) := rfl
theorem iv_gtr (k : IntKind) (a b : Int) : ibinV .gtr k a b = .bool (decide (b < a)) := rfl
theorem iv_geq (k : IntKind) (a b : Int) : ibinV .geq k a b = .bool (decide (b ≤ a)) := rfl
theorem iok_add : ibinOk .add = true := rfl
theorem iok_sub : ibinOk .sub = true := rfl
theorem iok_mul : ibinOk .mul = true := rfl
theorem iok_eql : ibinOk .eql = true := rfl
theorem iok_neq : ibinOk .neq = true := rfl
theorem iok_lss : ibinOk .lss = true := rfl
theorem iok_leq : ibinOk .leq = true := rfl
theorem iok_gtr : ibinOk .gtr = true := rfl
theorem iok_geq : ibinOk .geq = true := rfl
theorem pickV_bool (c x y : Bool) : pickV c (.bool x) (.bool y) = .bool (bif c then x else y) := rfl
theorem args0_nil (i : Nat) : args0 i [] = [] := rfl
theorem args0_c (i : Nat) (x : Value) (r : List Value) : args0 i (x :: r) = (i, .v true x) :: args0 (i + 1) r := rfl
theorem bnd_none (φ : Fr) (l d : Nat) : bnd φ none l d = (l = d) := rfl
theorem bnd_some (φ : Fr) (y : Operand) (l d : Nat) : bnd φ (some y) l d = ((val φ y).1 = true ∧ ∃ ki, (val φ y).2 = .int ki (l : Nat)) := rfl
theorem imp_bt (b : Bool) : (b = true → (b == true) = true) = True := by simp
theorem imp_bf (b : Bool) : (b = false → (b == false) = true) = True := by simp
theorem imp_ebt (e b : Bool) : (e = true → b = true → (e && (b == true)) = true) = True := by cases e <;> cases b <;> simp
theorem imp_ebf (e b : Bool) : (e = true → b = false → (e && (b == false)) = true) = True := by cases e <;> cases b <;> simp
theorem imp_eb1 (e b : Bool) : ((e && b) = true → e = true) = True := by cases e <;> simp
theorem imp_np (p : Prop) [Decidable p] : (¬ p → (decide p == false) = true) = True := by simp
theorem imp_pp (p : Prop) [Decidable p] : (p → (decide p == true) = true) = True := by simp
theorem beq_tt : (true == true) = true := rfl
theorem beq_tf : (true == false) = false := rfl
theorem beq_ft : (false == true) = false := rfl
theorem beq_ff : (false == false) = true := rfl
theorem cond_or (b c : Bool) : (bif b then true else c) = (b || c) := by cases b <;> rfl
theorem cond_and (b c : Bool) : (bif b then c else false) = (b && c) := by cases b <;> rfl
def RoundK (M N : List Nat) (q : List Sl) (I : Nat → List Sl → Ctx → Prop) (n : Nat) : Fr → Ctx → Prop := fun φ Γ => looks φ N = q ∧ ∃ n', n' < n ∧ Up Γ (I n' (looks φ M))
def JoinK (M N : List Nat) (q : List Sl) (J : List Sl → Ctx → Prop) : Fr → Ctx → Prop := fun φ Γ => looks φ N = q ∧ Up Γ (J (looks φ M))
theorem e_round (M N : List Nat) (q : List Sl) (I : Nat → List Sl → Ctx → Prop) (n : Nat) (φ : Fr) (Γ : Ctx) : RoundK M N q I n φ Γ = (looks φ N = q ∧ ∃ n', n' < n ∧ Up Γ (I n' (looks φ M))) := rfl
theorem e_meet (M N : List Nat) (q : List Sl) (J : List Sl → Ctx → Prop) (φ : Fr) (Γ : Ctx) : JoinK M N q J φ Γ = (looks φ N = q ∧ Up Γ (J (looks φ M))) := rfl
end Go.Proofs.Ytniobbepliknmaa.V
