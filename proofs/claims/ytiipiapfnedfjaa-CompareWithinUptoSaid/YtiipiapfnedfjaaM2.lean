/- Texts put together, in the order in which they build; each says what it proves; no condition. -/
import Derived.Test.YtiipiapfnedfjaaM1
import Derived.Test.YtiipiapfnedfjaaRows
import Derived.WalkKit
import Derived.ProofKit
import Derived.OpenShut
import Derived.JoinedCond
import Derived.Carry
namespace Go.Proofs.Ytiipiapfnedfjaa.V
open Go
set_option linter.unusedVariables false
set_option linter.unusedSimpArgs false
open Nat renaming reduceBEq → zA, reduceAdd → zB, reduceSub → zC, reduceMul → zD, reduceLeDiff → zE
open Int renaming reduceLT → zF, reduceLE → zG, reduceEq → zH, reduceNe → zI
/- The symbolic walk: how what must be shown is computed, operation by operation; no condition. -/
section
variable (P : Program) (Γr : Ctx)
def Kseq (b : Stmt) (Q : Post) : Fr → Ctx → Prop := fun φ Γ => vc P Γr b φ Γ Q
def condC (v : Bool × Value) (a b : Stmt) (φ : Fr) (Γ : Ctx) (Q : Post) : Prop := match v with
 | (e, .bool x) => e = true ∧ (x = true → vc P Γr a φ Γ Q) ∧ (x = false → vc P Γr b φ Γ Q)
 | _ => False
def joinC (a b : Stmt) (M N : List Nat) (φ : Fr) (Γ : Ctx) (Q : Post) : Prop := vc P Γr (.join a b M N) φ Γ Q
def loopC (a : Stmt) (M N : List Nat) (φ : Fr) (Γ : Ctx) (Q : Post) : Prop := vc P Γr (.loop a M N) φ Γ Q
variable (e : Bool) (d : Option Nat) (r : List SOper) (φ : Fr) (Γ : Ctx) (K : Fr → Ctx → Prop)
def gC (g : Option Bool) (op : SOp) : Prop := match g with
 | some e =>
  bif isPure op then pureV φ e op (fun x => vcOps P Γr r (put φ d x) Γ K)
  else bif isAsk op then askV P (Γ ++ Γr) φ e op (fun x => vcOps P Γr r (put φ d x) Γ K)
  else (e = true → effV P Γr φ Γ d op (fun φ' Γ' => vcOps P Γr r φ' Γ' K)) ∧ (e = false → ∃ x, vcOps P Γr r (put φ d (.v false x)) Γ K)
 | none => False
def pickC (c : Bool × Value) (a b : Bool × Value) : Prop := match c with
 | (ec, .bool cb) => (e = true → ec = true) ∧ (e = true → cb = true → a.1 = true) ∧ (e = true → cb = false → b.1 = true) ∧ vcOps P Γr r (put φ d (.v e (pickV cb a.2 b.2))) Γ K
 | _ => False
def ibinC (op : BinOp) (vx vy : Bool × Value) : Prop := match vx, vy with
 | (ex, .int kx a), (ey, .int ky b) => ibinOk op = true ∧ kx = ky ∧ (e = true → ex = true) ∧ (e = true → ey = true) ∧ vcOps P Γr r (put φ d (.v e (ibinV op kx a b))) Γ K
 | _, _ => False
def sbinC (op : BinOp) (vx vy : Bool × Value) : Prop := match vx, vy with
 | (ex, .string a), (ey, .string b) => ∃ q, sbinV op a b = some q ∧ (e = true → ex = true) ∧ (e = true → ey = true) ∧ vcOps P Γr r (put φ d (.v e q)) Γ K
 | _, _ => False
def beqC (neg : Bool) (vx vy : Bool × Value) : Prop := match vx, vy with
 | (ex, .bool a), (ey, .bool b) => (e = true → ex = true) ∧ (e = true → ey = true) ∧ vcOps P Γr r (put φ d (.v e (.bool ((a == b) != neg)))) Γ K
 | _, _ => False
def nilqC (kd : Nat) (neg : Bool) (vx vy : Bool × Value) : Prop :=
 isNil kd vy.2 = true ∧ (e = true → vy.1 = true) ∧ ∃ q, nilV kd vx.2 = some q ∧ (e = true → vx.1 = true) ∧ vcOps P Γr r (put φ d (.v e (.bool (q != neg)))) Γ K
def unC (op : UnOp) (vx : Bool × Value) : Prop := ∃ q, unV op vx.2 = some q ∧ (e = true → vx.1 = true) ∧ vcOps P Γr r (put φ d (.v e q)) Γ K
def convC (kd : IntKind) (vx : Bool × Value) : Prop := match vx with
 | (ex, .int _ n) => (e = true → ex = true) ∧ vcOps P Γr r (put φ d (.v e (.int kd (kd.wrap n)))) Γ K
 | _ => False
def fldC (off : Nat) (s : Sl) (on : Bool) : Prop := match s with
 | .ref _ s b o => (e = true → on = true) ∧ vcOps P Γr r (put φ d (.ref e s b (o + off))) Γ K
 | .v _ (.pointer (some ⟨b, o, none⟩)) => (e = true → on = true) ∧ vcOps P Γr r (put φ d (.v e (.pointer (some ⟨b, o + off, none⟩)))) Γ K
 | _ => False
def nilCheckC (s : Sl) (on : Bool) : Prop := match s with
 | .ref _ s b o => (e = true → on = true) ∧ vcOps P Γr r (put φ d (.ref e s b o)) Γ K
 | .v _ (.pointer (some a)) => (e = true → on = true) ∧ vcOps P Γr r (put φ d (.v e (.pointer (some a)))) Γ K
 | .v _ (.func (.func f) c1 c2) => (e = true → on = true) ∧ vcOps P Γr r (put φ d (.v e (.func (.func f) c1 c2))) Γ K
 | _ => False
def fieldC (agg : Bool) (off n : Nat) (vx : Bool × Value) : Prop := match vx with
 | (ex, .agg cs) => (e = true → ex = true) ∧ off + n ≤ cs.size ∧ (agg = false → n = 1) ∧ vcOps P Γr r (put φ d (.v e (mkv agg ((cs.toList.drop off).take n)))) Γ K
 | _ => False
def lenC (str : Bool) (vx : Bool × Value) : Prop := ∃ n, lenV str vx.2 = some n ∧ (e = true → vx.1 = true) ∧ vcOps P Γr r (put φ d (.v e (.int .i64 n))) Γ K
def extractC (i : Nat) (vx : Bool × Value) : Prop := match vx with
 | (ex, .tuple vs) => ∃ q, vs.toList[i]? = some q ∧ (e = true → ex = true) ∧ vcOps P Γr r (put φ d (.v e q)) Γ K
 | _ => False
def idivC (op : BinOp) (vx vy : Bool × Value) : Prop := match vx, vy with
 | (ex, .int kx a), (ey, .int ky b) => (op = .quo ∨ op = .rem) ∧ kx = ky ∧ (e = true → ex = true ∧ ey = true ∧ b ≠ 0) ∧ vcOps P Γr r (put φ d (.v e (idivV op kx a b))) Γ K
 | _, _ => False
def ishiftC (op : BinOp) (vx vy : Bool × Value) : Prop := match vx, vy with
 | (ex, .int kx a), (ey, .int ky b) => (op = .shl ∨ op = .shr) ∧ (e = true → ex = true ∧ ey = true ∧ 0 ≤ b) ∧ vcOps P Γr r (put φ d (.v e (ishiftV op kx a b))) Γ K
 | _, _ => False
def idxC (sz : Nat) (vx vy : Bool × Value) : Prop := match vx, vy with
 | (ex, .slice A n cap), (ei, .int ki j) => ∃ b o, (e = true → ex = true ∧ ei = true ∧ A = some ⟨b, o, none⟩ ∧ 0 ≤ j ∧ j < n) ∧ vcOps P Γr r (put φ d (.v e (.pointer (some ⟨b, o + j.toNat * sz, none⟩)))) Γ K
 | _, _ => False
def idxAC (len sz : Nat) (s : Sl) (on : Bool) (vy : Bool × Value) : Prop := match s, vy with
 | .ref _ s b o, (ei, .int ki j) => (e = true → on = true ∧ ei = true ∧ 0 ≤ j ∧ j < len) ∧ vcOps P Γr r (put φ d (.ref e s b (o + j.toNat * sz))) Γ K
 | .v _ (.pointer (some ⟨b, o, none⟩)), (ei, .int ki j) => (e = true → on = true ∧ ei = true ∧ 0 ≤ j ∧ j < len) ∧ vcOps P Γr r (put φ d (.v e (.pointer (some ⟨b, o + j.toNat * sz, none⟩)))) Γ K
 | _, _ => False
/-- a load out of a box -/
def loadB (agg : Bool) (n b o : Nat) (on : Bool) (s : Sl) : Prop := match s with
 | .box b' T cs => b' = b ∧ (e = true → on = true) ∧ o + n ≤ cs.length ∧ (agg = false → n = 1) ∧ vcOps P Γr r (put φ d (.v e (mkv agg ((cs.drop o).take n)))) Γ K
 | _ => False
/-- a load out of a heap -/
def loadP (agg : Bool) (n b o : Nat) (on : Bool) : Prop := (agg = false → n = 1) ∧ ∃ vs, vs.length = n ∧ (e = true → on = true ∧ Cells (Γ ++ Γr) b o vs) ∧ vcOps P Γr r (put φ d (.v e (mkv agg vs))) Γ K
def loadC (agg : Bool) (n : Nat) (s : Sl) (on : Bool) : Prop := match s with
 | .ref _ s b o => loadB P Γr e d r φ Γ K agg n b o on (look φ s)
 | .v _ (.pointer (some ⟨b, o, none⟩)) => loadP P Γr e d r φ Γ K agg n b o on
 | _ => False
def slcC (sz : Nat) (lo hi : Option Operand) (vx : Bool × Value) : Prop := match vx with
 | (ex, .slice A n cap) => ∃ l h, (e = true → ex = true ∧ bnd φ lo l 0 ∧ bnd φ hi h n ∧ l ≤ h ∧ h ≤ cap) ∧
      vcOps P Γr r (put φ d (.v e (.slice (if cap = l then A else A.map (·.add (l * sz))) (h - l) (cap - l)))) Γ K
 | _ => False
def boxC (loc : Bool) (T : TypeId) (vx : Bool × Value) : Prop := match loc with
 | true => vx.1 = true ∧ one' (cellsV vx.2) ∧ ∀ b, vcOps P Γr r (put φ d (.box b T (cellsV vx.2))) Γ K
 | false => vx.1 = true ∧ one' (cellsV vx.2) ∧ ∀ b, vcOps P Γr r (put φ d (.v true (.pointer (some ⟨b, 0, none⟩)))) (one b (.cells (cellsV vx.2).toArray T) :: Γ) K
def allocC (loc : Bool) (T : TypeId) (z : Value) : Prop := match loc with
 | true => ∀ b, vcOps P Γr r (put φ d (.box b T (cellsV z))) Γ K
 | false => ∀ b, vcOps P Γr r (put φ d (.v true (.pointer (some ⟨b, 0, none⟩)))) (one b (.cells (cellsV z).toArray T) :: Γ) K
def buildSC (t : TypeId) (n : Nat) (z : List Value) (parts : List (Nat × Nat × Operand)) : Prop :=
 partOn φ true parts ∧ fits (partVals φ parts) ∧ ∀ b, vcOps P Γr r (put φ d (.v true (.slice (some ⟨b, 0, none⟩) n n))) (one b (.cells (fillL z (partVals φ parts)).toArray t) :: Γ) K
def storeB (n s b o : Nat) (x : Value) (q : Sl) : Prop := match q with
 | .box b' T cs => b' = b ∧ o + n ≤ cs.length ∧ vcOps P Γr r (updBox φ s (setC cs o n x)) Γ K
 | _ => False
def storeP (n b o : Nat) (x : Value) : Prop := ∃ i h cells T, Γ[i]? = some h ∧ h b = some (.cells cells T (0, 0)) ∧ o + n ≤ cells.size ∧
    vcOps P Γr r φ (Γ.set i (upd h b (.cells (setC cells.toList o n x).toArray T))) K
def storeC (n : Nat) (s : Sl) (on : Bool) (vy : Bool × Value) : Prop := on = true ∧ vy.1 = true ∧ (cellsV vy.2).length = n ∧ one' (cellsV vy.2) ∧ (match s with
  | .ref _ s b o => storeB P Γr r φ Γ K n s b o vy.2 (look φ s)
  | .v _ (.pointer (some ⟨b, o, none⟩)) => storeP P Γr r φ Γ K n b o vy.2
  | _ => False)
def appendC (t e : TypeId) (sz bytes : Nat) (z : Value) (vs vx : Bool × Value) : Prop := vs.1 = true ∧ vx.1 = true ∧ (match vx.2 with
  | .slice A m c => ∃ i h n xs news, Γ[i]? = some h ∧ Row h e sz vs.2 n xs ∧ news.length = m * sz ∧ one' news ∧ (m = 0 ∨ ∃ b o, A = some ⟨b, o, none⟩ ∧ Cells (Γ ++ Γr) b o news) ∧
    (n + m) * bytes ≤ 140737488355328 ∧ n + m ≤ maxLen ∧
    ∀ v' h', Row h' e sz v' (n + m) (xs ++ news) → Row h' e sz vs.2 n xs → KeptBut vs.2 v' h h' → vcOps P Γr r (put φ d (.v true v')) (Γ.set i h') K
  | _ => False)
def appzC (t u e : TypeId) (sz bytes : Nat) (z : Value) (vs vx : Bool × Value) : Prop := vs.1 = true ∧ vx.1 = true ∧ (match vs.2, vx.2 with
  | .slice A 0 0, .int .i64 m => 0 ≤ m ∧ m * bytes ≤ 140737488355328 ∧ m ≤ maxLen ∧ ∃ i h, Γ[i]? = some h ∧
    ∀ v' h', Row h' e sz v' m.toNat (zerosL (cellsV z) m.toNat) → KeptBut (.slice A 0 0) v' h h' → vcOps P Γr r (put φ d (.v true v')) (Γ.set i h') K
  | _, _ => False)
def mkC (e : TypeId) (sz bytes : Nat) (z : Value) (vn vc : Bool × Value) : Prop := match vn, vc with
  | (true, .int .i64 m), (true, .int .i64 p) => 0 ≤ m ∧ m ≤ p ∧ p * bytes ≤ 140737488355328 ∧ ∀ b, vcOps P Γr r (put φ d (.v true (.slice (some ⟨b, 0, none⟩) m.toNat p.toNat))) (one b (.cells (zerosL (cellsV z) p.toNat).toArray e) :: Γ) K
  | _, _ => False
def fnC (on : Prop) (v : Option Value) : Prop := ∃ x, (e = true → on ∧ v = some x) ∧ vcOps P Γr r (put φ d (.v e x)) Γ K
def qC (c : Qk) (on : Prop) (vs : List Value) : Prop := ∃ x, (e = true → on ∧ QR P c vs (Γ ++ Γr) x) ∧ vcOps P Γr r (put φ d (.v e x)) Γ K
def aC (c : Qk) (vs : List Value) : Prop := ∀ w, Holds (Γ ++ Γr) w → ∃ v w' m, (qsem c vs).run P w = .ok v w' ∧
   ((w' = w.drewN m ∧ vcOps P Γr r (put φ d (.v true v)) Γ K) ∨ ∃ i h b p q, Γ[i]? = some h ∧ h b = some p ∧ w' = setBlk (w.drewN m) b q ∧ vcOps P Γr r (put φ d (.v true v)) (Γ.set i (upd h b q)) K)
def nC (c : Qk) (vs : List Value) : Prop := ∀ w, Holds (Γ ++ Γr) w → ∃ v q, (qsem c vs).run P w = .ok v (w.alloc q) ∧ vcOps P Γr r (put φ d (.v true v)) (one w.heap.size q :: Γ) K
def callK : Value → Ctx → Prop := fun v Γ' => vcOps P Γr r (put φ d (.v true v)) Γ' K
def callC (vf : Bool × Value) (args : List Value) : Prop := match vf with
  | (true, .func (.func g) c1 c2) => CallVC P Γr g (c1.toList ++ args ++ c2.toList) Γ (callK P Γr d r φ K)
  | _ => False
end

section
variable {P : Program} {Γr : Ctx} {a b : Stmt} {M N L : List Nat} {φ : Fr} {Γ : Ctx} {Q : Post} {ops r : List SOper} {K : Fr → Ctx → Prop} {e : Bool} {d : Option Nat} {id : Nat} {g : Nat × Bool}
theorem e_seq : vc P Γr (.seq a b) φ Γ Q = vc P Γr a φ Γ (Q.seq (Kseq P Γr b Q)) := rfl
theorem e_region : vc P Γr (.region ops L) φ Γ Q = vcOps P Γr ops φ Γ (Fin L Q.nrm) := rfl
theorem e_quiet : vc P Γr (.quiet ops L) φ Γ Q = vcOps P Γr ops φ Γ (Fin L Q.nrm) := rfl
theorem e_join : vc P Γr (.join a b M N) φ Γ Q = joinC P Γr a b M N φ Γ Q := rfl
theorem e_loop : vc P Γr (.loop a M N) φ Γ Q = loopC P Γr a M N φ Γ Q := rfl
theorem e_cond {c : Operand} : vc P Γr (.cond c a b) φ Γ Q = condC P Γr (val φ c) a b φ Γ Q := rfl
theorem e_block : vc P Γr (.block id a) φ Γ Q = vc P Γr a φ Γ (Q.inBlock id) := rfl
theorem e_exit : vc P Γr (.exit id) φ Γ Q = Q.ex id φ Γ := rfl
theorem e_ret : vc P Γr .ret φ Γ Q = Q.ret φ Γ := rfl
theorem e_skip : vc P Γr .skip φ Γ Q = Q.nrm φ Γ := rfl
theorem e_fin : Fin L K φ Γ = K (proj φ L) Γ := rfl
theorem e_kseq : Kseq P Γr b Q φ Γ = vc P Γr b φ Γ Q := rfl
theorem e_snrm : (Q.seq K).nrm = K := rfl
theorem e_sret : (Q.seq K).ret = Q.ret := rfl
theorem e_sex : (Q.seq K).ex = Q.ex := rfl
theorem e_bnrm : (Q.inBlock id).nrm = Q.nrm := rfl
theorem e_bret : (Q.inBlock id).ret = Q.ret := rfl
theorem e_bex {j : Nat} : (Q.inBlock id).ex j φ Γ = (bif j == id then Q.nrm φ Γ else Q.ex j φ Γ) := rfl
theorem e_rnrm {res : List (Nat × Option (Bool × Nat))} {R : Value → Ctx → Prop} : (PostR res R).nrm φ Γ = ResultP res R φ Γ := rfl
theorem e_rret {res : List (Nat × Option (Bool × Nat))} {R : Value → Ctx → Prop} : (PostR res R).ret φ Γ = ResultP res R φ Γ := rfl
theorem e_res {res : List (Nat × Option (Bool × Nat))} {R : Value → Ctx → Prop} : ResultP res R φ Γ = (slotsOn φ res ∧ Up Γ (R (resV (slotVals φ res)))) := rfl
theorem e_condC {x : Bool} : condC P Γr (true, .bool x) a b φ Γ Q = ((x = true → vc P Γr a φ Γ Q) ∧ (x = false → vc P Γr b φ Γ Q)) := by simp [condC]

theorem e_nil : vcOps P Γr [] φ Γ K = K φ Γ := rfl
theorem e_g {op : SOp} : vcOps P Γr (⟨d, some g, op⟩ :: r) φ Γ K = gC P Γr d r φ Γ K (gd φ (some g)) op := rfl
theorem e_mv {x : Operand} : vcOps P Γr (⟨d, none, .mv x⟩ :: r) φ Γ K = ((val φ x).1 = true ∧ vcOps P Γr r (put φ d (slotOf φ true x)) Γ K) := by
 show ((true = true → (val φ x).1 = true) ∧ _) = _
 simp
theorem g_mv {x : Operand} : gC P Γr d r φ Γ K (some e) (.mv x) = ((e = true → (val φ x).1 = true) ∧ vcOps P Γr r (put φ d (slotOf φ e x)) Γ K) := rfl
theorem e_pick {c x y : Operand} : vcOps P Γr (⟨d, none, .pick c x y⟩ :: r) φ Γ K = pickC P Γr true d r φ Γ K (val φ c) (val φ x) (val φ y) := rfl
theorem g_pick {c x y : Operand} : gC P Γr d r φ Γ K (some e) (.pick c x y) = pickC P Γr e d r φ Γ K (val φ c) (val φ x) (val φ y) := rfl
theorem pickC_eq {ec cb : Bool} {x y : Bool × Value} : pickC P Γr e d r φ Γ K (ec, .bool cb) x y = ((e = true → ec = true) ∧ (e = true → cb = true → x.1 = true) ∧ (e = true → cb = false → y.1 = true) ∧ vcOps P Γr r (put φ d (.v e (pickV cb x.2 y.2))) Γ K) := rfl
theorem e_ibin {op : BinOp} {x y : Operand} : vcOps P Γr (⟨d, none, .ibin op x y⟩ :: r) φ Γ K = ibinC P Γr true d r φ Γ K op (val φ x) (val φ y) := rfl
theorem g_ibin {op : BinOp} {x y : Operand} : gC P Γr d r φ Γ K (some e) (.ibin op x y) = ibinC P Γr e d r φ Γ K op (val φ x) (val φ y) := rfl
theorem ibinC_eq {op : BinOp} {ex ey : Bool} {k : IntKind} {m n : Int} : ibinC P Γr e d r φ Γ K op (ex, .int k m) (ey, .int k n) =
  (ibinOk op = true ∧ (e = true → ex = true) ∧ (e = true → ey = true) ∧ vcOps P Γr r (put φ d (.v e (ibinV op k m n))) Γ K) := by simp [ibinC]
theorem e_sbin {op : BinOp} {x y : Operand} : vcOps P Γr (⟨d, none, .sbin op x y⟩ :: r) φ Γ K = sbinC P Γr true d r φ Γ K op (val φ x) (val φ y) := rfl
theorem g_sbin {op : BinOp} {x y : Operand} : gC P Γr d r φ Γ K (some e) (.sbin op x y) = sbinC P Γr e d r φ Γ K op (val φ x) (val φ y) := rfl
theorem e_beq {neg : Bool} {x y : Operand} : vcOps P Γr (⟨d, none, .beq neg x y⟩ :: r) φ Γ K = beqC P Γr true d r φ Γ K neg (val φ x) (val φ y) := rfl
theorem g_beq {neg : Bool} {x y : Operand} : gC P Γr d r φ Γ K (some e) (.beq neg x y) = beqC P Γr e d r φ Γ K neg (val φ x) (val φ y) := rfl
theorem beqC_eq {neg ex ey m n : Bool} : beqC P Γr e d r φ Γ K neg (ex, .bool m) (ey, .bool n) = ((e = true → ex = true) ∧ (e = true → ey = true) ∧ vcOps P Γr r (put φ d (.v e (.bool ((m == n) != neg)))) Γ K) := rfl
theorem e_nilq {kd : Nat} {neg : Bool} {x y : Operand} : vcOps P Γr (⟨d, none, .nilq kd neg x y⟩ :: r) φ Γ K = nilqC P Γr true d r φ Γ K kd neg (val φ x) (val φ y) := rfl
theorem g_nilq {kd : Nat} {neg : Bool} {x y : Operand} : gC P Γr d r φ Γ K (some e) (.nilq kd neg x y) = nilqC P Γr e d r φ Γ K kd neg (val φ x) (val φ y) := rfl
theorem nilqC_sl {neg ex ey : Bool} {A : Option Addr} {n c : Nat} : nilqC P Γr e d r φ Γ K 0 neg (ex, .slice A n c) (ey, .slice none 0 0) = ((e = true → ey = true) ∧ (e = true → ex = true) ∧ vcOps P Γr r (put φ d (.v e (.bool (A.isNone != neg)))) Γ K) := by simp [nilqC, isNil, nilV]
theorem nilqC_pt {neg ex ey : Bool} {A : Option Addr} : nilqC P Γr e d r φ Γ K 1 neg (ex, .pointer A) (ey, .pointer none) = ((e = true → ey = true) ∧ (e = true → ex = true) ∧ vcOps P Γr r (put φ d (.v e (.bool (A.isNone != neg)))) Γ K) := by simp [nilqC, isNil, nilV]
theorem nilqC_mp {neg ex ey : Bool} {A : Option Nat} : nilqC P Γr e d r φ Γ K 2 neg (ex, .map A) (ey, .map none) = ((e = true → ey = true) ∧ (e = true → ex = true) ∧ vcOps P Γr r (put φ d (.v e (.bool (A.isNone != neg)))) Γ K) := by simp [nilqC, isNil, nilV]
theorem e_un {op : UnOp} {x : Operand} : vcOps P Γr (⟨d, none, .un op x⟩ :: r) φ Γ K = unC P Γr true d r φ Γ K op (val φ x) := rfl
theorem g_un {op : UnOp} {x : Operand} : gC P Γr d r φ Γ K (some e) (.un op x) = unC P Γr e d r φ Γ K op (val φ x) := rfl
theorem unC_not {ex m : Bool} : unC P Γr e d r φ Γ K .not (ex, .bool m) = ((e = true → ex = true) ∧ vcOps P Γr r (put φ d (.v e (.bool (!m)))) Γ K) := by simp [unC, unV]
theorem unC_neg {ex : Bool} {k : IntKind} {m : Int} : unC P Γr e d r φ Γ K .neg (ex, .int k m) = ((e = true → ex = true) ∧ vcOps P Γr r (put φ d (.v e (.int k (k.wrap (0 - m))))) Γ K) := by simp [unC, unV]
theorem e_conv {k : IntKind} {x : Operand} : vcOps P Γr (⟨d, none, .conv k x⟩ :: r) φ Γ K = convC P Γr true d r φ Γ K k (val φ x) := rfl
theorem g_conv {k : IntKind} {x : Operand} : gC P Γr d r φ Γ K (some e) (.conv k x) = convC P Γr e d r φ Γ K k (val φ x) := rfl
theorem convC_eq {k kx : IntKind} {ex : Bool} {m : Int} : convC P Γr e d r φ Γ K k (ex, .int kx m) = ((e = true → ex = true) ∧ vcOps P Γr r (put φ d (.v e (.int k (k.wrap m)))) Γ K) := rfl
theorem e_fld {off : Nat} {x : Operand} : vcOps P Γr (⟨d, none, .fld off x⟩ :: r) φ Γ K = fldC P Γr true d r φ Γ K off (slotOf φ true x) (val φ x).1 := rfl
theorem g_fld {off : Nat} {x : Operand} : gC P Γr d r φ Γ K (some e) (.fld off x) = fldC P Γr e d r φ Γ K off (slotOf φ e x) (val φ x).1 := rfl
theorem fldC_ref {off s b o : Nat} {e' on : Bool} : fldC P Γr e d r φ Γ K off (.ref e' s b o) on = ((e = true → on = true) ∧ vcOps P Γr r (put φ d (.ref e s b (o + off))) Γ K) := rfl
theorem fldC_ptr {off b o : Nat} {e' on : Bool} : fldC P Γr e d r φ Γ K off (.v e' (.pointer (some ⟨b, o, none⟩))) on = ((e = true → on = true) ∧ vcOps P Γr r (put φ d (.v e (.pointer (some ⟨b, o + off, none⟩)))) Γ K) := rfl
theorem e_nilCheck {x : Operand} : vcOps P Γr (⟨d, none, .nilCheck x⟩ :: r) φ Γ K = nilCheckC P Γr true d r φ Γ K (slotOf φ true x) (val φ x).1 := rfl
theorem g_nilCheck {x : Operand} : gC P Γr d r φ Γ K (some e) (.nilCheck x) = nilCheckC P Γr e d r φ Γ K (slotOf φ e x) (val φ x).1 := rfl
theorem nilCheckC_ref {s b o : Nat} {e' on : Bool} : nilCheckC P Γr e d r φ Γ K (.ref e' s b o) on = ((e = true → on = true) ∧ vcOps P Γr r (put φ d (.ref e s b o)) Γ K) := rfl
theorem nilCheckC_ptr {ad : Addr} {e' on : Bool} : nilCheckC P Γr e d r φ Γ K (.v e' (.pointer (some ad))) on = ((e = true → on = true) ∧ vcOps P Γr r (put φ d (.v e (.pointer (some ad)))) Γ K) := rfl
theorem nilCheckC_fun {f : FuncId} {c1 c2 : Array Value} {e' on : Bool} : nilCheckC P Γr e d r φ Γ K (.v e' (.func (.func f) c1 c2)) on = ((e = true → on = true) ∧ vcOps P Γr r (put φ d (.v e (.func (.func f) c1 c2))) Γ K) := rfl
theorem e_field {agg : Bool} {off n : Nat} {x : Operand} : vcOps P Γr (⟨d, none, .field agg off n x⟩ :: r) φ Γ K = fieldC P Γr true d r φ Γ K agg off n (val φ x) := rfl
theorem g_field {agg : Bool} {off n : Nat} {x : Operand} : gC P Γr d r φ Γ K (some e) (.field agg off n x) = fieldC P Γr e d r φ Γ K agg off n (val φ x) := rfl
theorem fieldC_eq {agg ex : Bool} {off n : Nat} {cs : List Value} : fieldC P Γr e d r φ Γ K agg off n (ex, .agg cs.toArray) =
  ((e = true → ex = true) ∧ off + n ≤ cs.length ∧ (agg = false → n = 1) ∧ vcOps P Γr r (put φ d (.v e (mkv agg ((cs.drop off).take n)))) Γ K) := by simp [fieldC]
theorem e_len {str : Bool} {x : Operand} : vcOps P Γr (⟨d, none, .len str x⟩ :: r) φ Γ K = lenC P Γr true d r φ Γ K str (val φ x) := rfl
theorem g_len {str : Bool} {x : Operand} : gC P Γr d r φ Γ K (some e) (.len str x) = lenC P Γr e d r φ Γ K str (val φ x) := rfl
theorem lenC_sl {ex : Bool} {A : Option Addr} {n c : Nat} : lenC P Γr e d r φ Γ K false (ex, .slice A n c) = ((e = true → ex = true) ∧ vcOps P Γr r (put φ d (.v e (.int .i64 n))) Γ K) := by simp [lenC, lenV]
theorem lenC_str {ex : Bool} {s : ByteArray} : lenC P Γr e d r φ Γ K true (ex, .string s) = ((e = true → ex = true) ∧ vcOps P Γr r (put φ d (.v e (.int .i64 s.size))) Γ K) := by simp [lenC, lenV]
theorem e_extract {i : Nat} {x : Operand} : vcOps P Γr (⟨d, none, .extract i x⟩ :: r) φ Γ K = extractC P Γr true d r φ Γ K i (val φ x) := rfl
theorem g_extract {i : Nat} {x : Operand} : gC P Γr d r φ Γ K (some e) (.extract i x) = extractC P Γr e d r φ Γ K i (val φ x) := rfl
theorem extractC_eq {ex : Bool} {i : Nat} {vs : List Value} : extractC P Γr e d r φ Γ K i (ex, .tuple vs.toArray) = (∃ q, vs[i]? = some q ∧ (e = true → ex = true) ∧ vcOps P Γr r (put φ d (.v e q)) Γ K) := rfl
theorem e_mkFunc {fn : FuncId} {caps : List Operand} : vcOps P Γr (⟨d, none, .mkFunc fn caps⟩ :: r) φ Γ K = (allOn φ true caps ∧ vcOps P Γr r (put φ d (.v true (.func (.func fn) #[] (vals φ caps).toArray))) Γ K) := rfl
theorem e_build {t : TypeId} {z : List Value} {parts : List (Nat × Nat × Operand)} : vcOps P Γr (⟨d, none, .build t z parts⟩ :: r) φ Γ K =
  (partOn φ true parts ∧ fits (partVals φ parts) ∧ vcOps P Γr r (put φ d (.v true (.agg (fillL z (partVals φ parts)).toArray))) Γ K) := rfl
theorem g_build {t : TypeId} {z : List Value} {parts : List (Nat × Nat × Operand)} : gC P Γr d r φ Γ K (some e) (.build t z parts) =
  (partOn φ e parts ∧ fits (partVals φ parts) ∧ vcOps P Γr r (put φ d (.v e (.agg (fillL z (partVals φ parts)).toArray))) Γ K) := rfl
theorem e_idiv {op : BinOp} {x y : Operand} : vcOps P Γr (⟨d, none, .idiv op x y⟩ :: r) φ Γ K = idivC P Γr true d r φ Γ K op (val φ x) (val φ y) := rfl
theorem g_idiv {op : BinOp} {x y : Operand} : gC P Γr d r φ Γ K (some e) (.idiv op x y) = idivC P Γr e d r φ Γ K op (val φ x) (val φ y) := rfl
theorem idivC_eq {op : BinOp} {ex ey : Bool} {k : IntKind} {m n : Int} : idivC P Γr e d r φ Γ K op (ex, .int k m) (ey, .int k n) =
  ((op = .quo ∨ op = .rem) ∧ (e = true → ex = true ∧ ey = true ∧ n ≠ 0) ∧ vcOps P Γr r (put φ d (.v e (idivV op k m n))) Γ K) := by simp [idivC]
theorem e_ishift {op : BinOp} {x y : Operand} : vcOps P Γr (⟨d, none, .ishift op x y⟩ :: r) φ Γ K = ishiftC P Γr true d r φ Γ K op (val φ x) (val φ y) := rfl
theorem g_ishift {op : BinOp} {x y : Operand} : gC P Γr d r φ Γ K (some e) (.ishift op x y) = ishiftC P Γr e d r φ Γ K op (val φ x) (val φ y) := rfl
theorem ishiftC_eq {op : BinOp} {ex ey : Bool} {k ky : IntKind} {m n : Int} : ishiftC P Γr e d r φ Γ K op (ex, .int k m) (ey, .int ky n) =
  ((op = .shl ∨ op = .shr) ∧ (e = true → ex = true ∧ ey = true ∧ 0 ≤ n) ∧ vcOps P Γr r (put φ d (.v e (ishiftV op k m n))) Γ K) := rfl
theorem e_idx {sz : Nat} {x i : Operand} : vcOps P Γr (⟨d, none, .idx sz x i⟩ :: r) φ Γ K = idxC P Γr true d r φ Γ K sz (val φ x) (val φ i) := rfl
theorem g_idx {sz : Nat} {x i : Operand} : gC P Γr d r φ Γ K (some e) (.idx sz x i) = idxC P Γr e d r φ Γ K sz (val φ x) (val φ i) := rfl
theorem e_idxA {len sz : Nat} {x i : Operand} : vcOps P Γr (⟨d, none, .idxA len sz x i⟩ :: r) φ Γ K = idxAC P Γr true d r φ Γ K len sz (slotOf φ true x) (val φ x).1 (val φ i) := rfl
theorem g_idxA {len sz : Nat} {x i : Operand} : gC P Γr d r φ Γ K (some e) (.idxA len sz x i) = idxAC P Γr e d r φ Γ K len sz (slotOf φ e x) (val φ x).1 (val φ i) := rfl
theorem e_load {agg : Bool} {n : Nat} {x : Operand} : vcOps P Γr (⟨d, none, .load agg n x⟩ :: r) φ Γ K = loadC P Γr true d r φ Γ K agg n (slotOf φ true x) (val φ x).1 := rfl
theorem g_load {agg : Bool} {n : Nat} {x : Operand} : gC P Γr d r φ Γ K (some e) (.load agg n x) = loadC P Γr e d r φ Γ K agg n (slotOf φ e x) (val φ x).1 := rfl
theorem e_loadB {q : Option Nat} {agg : Bool} {n : Nat} {x : Operand} : vcOps P Γr (⟨d, none, .loadB q agg n x⟩ :: r) φ Γ K = (atB q (slotOf φ true x) ∧ loadC P Γr true d r φ Γ K agg n (slotOf φ true x) (val φ x).1) := rfl
theorem g_loadB {q : Option Nat} {agg : Bool} {n : Nat} {x : Operand} : gC P Γr d r φ Γ K (some e) (.loadB q agg n x) = (atB q (slotOf φ e x) ∧ loadC P Γr e d r φ Γ K agg n (slotOf φ e x) (val φ x).1) := rfl
theorem atB_ref {q : Option Nat} {e : Bool} {s b o : Nat} : atB q (.ref e s b o) = (q = some s) := rfl
theorem atB_v {q : Option Nat} {e : Bool} {x : Value} : atB q (.v e x) = (q = none) := rfl
theorem g_mkFunc {fn : FuncId} {caps : List Operand} : gC P Γr d r φ Γ K (some e) (.mkFunc fn caps) = (allOn φ e caps ∧ vcOps P Γr r (put φ d (.v e (.func (.func fn) #[] (vals φ caps).toArray))) Γ K) := rfl
theorem loadC_ref {agg e' on : Bool} {n s b o : Nat} : loadC P Γr e d r φ Γ K agg n (.ref e' s b o) on = loadB P Γr e d r φ Γ K agg n b o on (look φ s) := rfl
theorem loadC_ptr {agg e' on : Bool} {n b o : Nat} : loadC P Γr e d r φ Γ K agg n (.v e' (.pointer (some ⟨b, o, none⟩))) on = loadP P Γr e d r φ Γ K agg n b o on := rfl
theorem loadB_eq {agg on : Bool} {n b o : Nat} {T : TypeId} {cs : List Value} : loadB P Γr e d r φ Γ K agg n b o on (.box b T cs) =
  ((e = true → on = true) ∧ o + n ≤ cs.length ∧ (agg = false → n = 1) ∧ vcOps P Γr r (put φ d (.v e (mkv agg ((cs.drop o).take n)))) Γ K) := by simp [loadB]
theorem e_slc {sz : Nat} {x : Operand} {lo hi : Option Operand} : vcOps P Γr (⟨d, none, .slc sz x lo hi none⟩ :: r) φ Γ K = slcC P Γr true d r φ Γ K sz lo hi (val φ x) := rfl
theorem g_slc {sz : Nat} {x : Operand} {lo hi : Option Operand} : gC P Γr d r φ Γ K (some e) (.slc sz x lo hi none) = slcC P Γr e d r φ Γ K sz lo hi (val φ x) := rfl
theorem e_box {loc : Bool} {T : TypeId} {x : Operand} : vcOps P Γr (⟨d, none, .box loc T x⟩ :: r) φ Γ K = boxC P Γr d r φ Γ K loc T (val φ x) := by cases loc <;> rfl
theorem boxC_loc {T : TypeId} {vx : Bool × Value} : boxC P Γr d r φ Γ K true T vx = (vx.1 = true ∧ one' (cellsV vx.2) ∧ ∀ b, vcOps P Γr r (put φ d (.box b T (cellsV vx.2))) Γ K) := rfl
theorem boxC_esc {T : TypeId} {vx : Bool × Value} : boxC P Γr d r φ Γ K false T vx = (vx.1 = true ∧ one' (cellsV vx.2) ∧ ∀ b, vcOps P Γr r (put φ d (.v true (.pointer (some ⟨b, 0, none⟩)))) (one b (.cells (cellsV vx.2).toArray T) :: Γ) K) := rfl
theorem e_alloc {loc : Bool} {T : TypeId} {z : Value} : vcOps P Γr (⟨d, none, .alloc loc T z⟩ :: r) φ Γ K = allocC P Γr d r φ Γ K loc T z := by cases loc <;> rfl
theorem allocC_loc {T : TypeId} {z : Value} : allocC P Γr d r φ Γ K true T z = (∀ b, vcOps P Γr r (put φ d (.box b T (cellsV z))) Γ K) := rfl
theorem allocC_esc {T : TypeId} {z : Value} : allocC P Γr d r φ Γ K false T z = (∀ b, vcOps P Γr r (put φ d (.v true (.pointer (some ⟨b, 0, none⟩)))) (one b (.cells (cellsV z).toArray T) :: Γ) K) := rfl
theorem e_buildS {t : TypeId} {n : Nat} {z : List Value} {parts : List (Nat × Nat × Operand)} : vcOps P Γr (⟨d, none, .buildS t n z parts⟩ :: r) φ Γ K =
  (partOn φ true parts ∧ fits (partVals φ parts) ∧ ∀ b, vcOps P Γr r (put φ d (.v true (.slice (some ⟨b, 0, none⟩) n n))) (one b (.cells (fillL z (partVals φ parts)).toArray t) :: Γ) K) := rfl
theorem e_store {n : Nat} {x y : Operand} : vcOps P Γr (⟨d, none, .store n x y⟩ :: r) φ Γ K = storeC P Γr r φ Γ K n (slotOf φ true x) (val φ x).1 (val φ y) := rfl
theorem storeC_ref {n s b o : Nat} {e' : Bool} {y : Value} : storeC P Γr r φ Γ K n (.ref e' s b o) true (true, y) = ((cellsV y).length = n ∧ one' (cellsV y) ∧ storeB P Γr r φ Γ K n s b o y (look φ s)) := by simp [storeC]
theorem storeC_ptr {n b o : Nat} {e' : Bool} {y : Value} : storeC P Γr r φ Γ K n (.v e' (.pointer (some ⟨b, o, none⟩))) true (true, y) = ((cellsV y).length = n ∧ one' (cellsV y) ∧ storeP P Γr r φ Γ K n b o y) := by simp [storeC]
theorem storeB_eq {n s b o : Nat} {y : Value} {T : TypeId} {cs : List Value} : storeB P Γr r φ Γ K n s b o y (.box b T cs) = (o + n ≤ cs.length ∧ vcOps P Γr r (updBox φ s (setC cs o n y)) Γ K) := by simp [storeB]
theorem e_append {t el : TypeId} {sz bytes : Nat} {z : Value} {s x : Operand} : vcOps P Γr (⟨d, none, .append t el sz bytes z s x⟩ :: r) φ Γ K = appendC P Γr d r φ Γ K t el sz bytes z (val φ s) (val φ x) := rfl
theorem e_appz {t u el : TypeId} {sz bytes : Nat} {z : Value} {s x : Operand} : vcOps P Γr (⟨d, none, .appz t u el sz bytes z s x⟩ :: r) φ Γ K = appzC P Γr d r φ Γ K t u el sz bytes z (val φ s) (val φ x) := rfl
theorem e_mk {el : TypeId} {sz bytes : Nat} {z : Value} {x y : Operand} : vcOps P Γr (⟨d, none, .mk el sz bytes z x y⟩ :: r) φ Γ K = mkC P Γr d r φ Γ K el sz bytes z (val φ x) (val φ y) := rfl
theorem mkC_eq {el : TypeId} {sz bytes : Nat} {z : Value} {m p : Int} : mkC P Γr d r φ Γ K el sz bytes z (true, .int .i64 m) (true, .int .i64 p) =
  (0 ≤ m ∧ m ≤ p ∧ p * bytes ≤ 140737488355328 ∧ ∀ b, vcOps P Γr r (put φ d (.v true (.slice (some ⟨b, 0, none⟩) m.toNat p.toNat))) (one b (.cells (zerosL (cellsV z) p.toNat).toArray el) :: Γ) K) := rfl
theorem e_call {f : Operand} {args : List Operand} : vcOps P Γr (⟨d, none, .call f args⟩ :: r) φ Γ K = (allOn φ true args ∧ callC P Γr d r φ Γ K (val φ f) (vals φ args)) := rfl
theorem callC_eq {f : FuncId} {c1 c2 : Array Value} {args : List Value} : callC P Γr d r φ Γ K (true, .func (.func f) c1 c2) args = CallVC P Γr f (c1.toList ++ args ++ c2.toList) Γ (callK P Γr d r φ K) := rfl
theorem e_fn {c : Fk} {xs : List Operand} : vcOps P Γr (⟨d, none, .fn c xs⟩ :: r) φ Γ K = fnC P Γr true d r φ Γ K (allOn φ true xs) (fnV c (vals φ xs)) := rfl
theorem g_fn {c : Fk} {xs : List Operand} : gC P Γr d r φ Γ K (some e) (.fn c xs) = fnC P Γr e d r φ Γ K (allOn φ true xs) (fnV c (vals φ xs)) := rfl
theorem fnC_eq {on : Prop} {x : Value} : fnC P Γr true d r φ Γ K on (some x) = (on ∧ vcOps P Γr r (put φ d (.v true x)) Γ K) := by
 apply propext
 simp only [fnC, true_implies, Option.some.injEq]
 exact ⟨fun ⟨y, ⟨h1, h2⟩, h3⟩ => by subst h2; exact ⟨h1, h3⟩, fun ⟨h1, h2⟩ => ⟨x, ⟨h1, rfl⟩, h2⟩⟩
theorem fnV_min' {k : IntKind} {m n : Int} : fnV .min [.int k m, .int k n] = some (.int k (if n < m then n else m)) := by simp [fnV]
theorem fnV_max' {k : IntKind} {m n : Int} : fnV .max [.int k m, .int k n] = some (.int k (if m < n then n else m)) := by simp [fnV]
theorem fnV_rune' {k : IntKind} {n : Int} : fnV .rune [.int k n] = some (.string (Utf8.encode n)) := rfl
theorem e_q {c : Qk} {xs : List Operand} : vcOps P Γr (⟨d, none, .q c xs⟩ :: r) φ Γ K = qC P Γr true d r φ Γ K c (allOn φ true xs) (vals φ xs) := rfl
theorem g_q {c : Qk} {xs : List Operand} : gC P Γr d r φ Γ K (some e) (.q c xs) = qC P Γr e d r φ Γ K c (allOn φ true xs) (vals φ xs) := rfl
theorem e_a {c : Qk} {xs : List Operand} : vcOps P Γr (⟨d, none, .a c xs⟩ :: r) φ Γ K = (allOn φ true xs ∧ aC P Γr d r φ Γ K c (vals φ xs)) := rfl
theorem e_n {c : Qk} {xs : List Operand} : vcOps P Γr (⟨d, none, .n c xs⟩ :: r) φ Γ K = (allOn φ true xs ∧ nC P Γr d r φ Γ K c (vals φ xs)) := rfl
theorem g_call {f : Operand} {args : List Operand} : gC P Γr d r φ Γ K (some e) (.call f args) =
  ((e = true → vcOps P Γr (⟨d, none, (.call f args)⟩ :: r) φ Γ K) ∧ (e = false → ∃ x, vcOps P Γr r (put φ d (.v false x)) Γ K)) := rfl
theorem g_box {loc : Bool} {T : TypeId} {x : Operand} : gC P Γr d r φ Γ K (some e) (.box loc T x) =
  ((e = true → vcOps P Γr (⟨d, none, (.box loc T x)⟩ :: r) φ Γ K) ∧ (e = false → ∃ x, vcOps P Γr r (put φ d (.v false x)) Γ K)) := rfl
theorem g_alloc {loc : Bool} {T : TypeId} {z : Value} : gC P Γr d r φ Γ K (some e) (.alloc loc T z) =
  ((e = true → vcOps P Γr (⟨d, none, (.alloc loc T z)⟩ :: r) φ Γ K) ∧ (e = false → ∃ x, vcOps P Γr r (put φ d (.v false x)) Γ K)) := rfl
theorem g_buildS {t : TypeId} {n : Nat} {z : List Value} {parts : List (Nat × Nat × Operand)} : gC P Γr d r φ Γ K (some e) (.buildS t n z parts) =
  ((e = true → vcOps P Γr (⟨d, none, (.buildS t n z parts)⟩ :: r) φ Γ K) ∧ (e = false → ∃ x, vcOps P Γr r (put φ d (.v false x)) Γ K)) := rfl
theorem g_store {n : Nat} {x y : Operand} : gC P Γr d r φ Γ K (some e) (.store n x y) =
  ((e = true → vcOps P Γr (⟨d, none, (.store n x y)⟩ :: r) φ Γ K) ∧ (e = false → ∃ x, vcOps P Γr r (put φ d (.v false x)) Γ K)) := rfl
theorem g_append {t el : TypeId} {sz bytes : Nat} {z : Value} {s x : Operand} : gC P Γr d r φ Γ K (some e) (.append t el sz bytes z s x) =
  ((e = true → vcOps P Γr (⟨d, none, (.append t el sz bytes z s x)⟩ :: r) φ Γ K) ∧ (e = false → ∃ x, vcOps P Γr r (put φ d (.v false x)) Γ K)) := rfl
theorem g_mk {el : TypeId} {sz bytes : Nat} {z : Value} {x y : Operand} : gC P Γr d r φ Γ K (some e) (.mk el sz bytes z x y) =
  ((e = true → vcOps P Γr (⟨d, none, (.mk el sz bytes z x y)⟩ :: r) φ Γ K) ∧ (e = false → ∃ x, vcOps P Γr r (put φ d (.v false x)) Γ K)) := rfl
theorem g_a {c : Qk} {xs : List Operand} : gC P Γr d r φ Γ K (some e) (.a c xs) =
  ((e = true → vcOps P Γr (⟨d, none, (.a c xs)⟩ :: r) φ Γ K) ∧ (e = false → ∃ x, vcOps P Γr r (put φ d (.v false x)) Γ K)) := rfl
theorem g_n {c : Qk} {xs : List Operand} : gC P Γr d r φ Γ K (some e) (.n c xs) =
  ((e = true → vcOps P Γr (⟨d, none, (.n c xs)⟩ :: r) φ Γ K) ∧ (e = false → ∃ x, vcOps P Γr r (put φ d (.v false x)) Γ K)) := rfl
theorem g_dead  : gC P Γr d r φ Γ K (some e) .dead =
  ((e = true → vcOps P Γr (⟨d, none, .dead⟩ :: r) φ Γ K) ∧ (e = false → ∃ x, vcOps P Γr r (put φ d (.v false x)) Γ K)) := rfl
theorem e_dead : vcOps P Γr (⟨d, none, .dead⟩ :: r) φ Γ K = False := rfl
theorem e_callK {v : Value} : callK P Γr d r φ K v Γ = vcOps P Γr r (put φ d (.v true v)) Γ K := rfl
end

/-! operations whose order is drawn -/
def DK (P : Program) (Γr : Ctx) (r : List (Bool × SOper)) (K : Fr → Ctx → Prop) : Fr → Ctx → Prop := fun φ Γ => vcD P Γr r φ Γ K
def EK (P : Program) (Γr : Ctx) (r : List (Bool × SOper)) (K : Fr → Ctx → Prop) (Γ : Ctx) : Fr → Ctx → Prop := fun φ _ => vcD P Γr r φ Γ K
def drawnC (P : Program) (Γr : Ctx) (ops : List (Bool × SOper)) (L : List Nat) (φ : Fr) (Γ : Ctx) (Q : Post) : Prop :=
 ∃ Γm Γf, Ent Γ (Γm ++ Γf) ∧ vcD P (Γf ++ Γr) ops φ Γm (fun φ' Γ' => Q.nrm (proj φ' L) (Γ' ++ Γf))
def stB (φ : Fr) : Option Nat → Prop
 | some d => isBox (look φ d) = true
 | none => True
def FinB (L : List Nat) (K : Fr → Ctx → Prop) (Γf : Ctx) : Fr → Ctx → Prop := fun φ' Γ' => K (proj φ' L) (Γ' ++ Γf)
section
variable {P : Program} {Γr : Ctx} {L : List Nat} {φ : Fr} {Γ Γf : Ctx} {Q : Post} {ops r : List (Bool × SOper)} {K : Fr → Ctx → Prop} {o : SOper}
theorem e_drawn : vc P Γr (.drawn ops L) φ Γ Q = (noBoxes φ ops ∧ (bif anyEarly ops then drawnC P Γr ops L φ Γ Q else vcD P Γr ops φ Γ (Fin L Q.nrm))) := rfl
def TK (P : Program) (Γr : Ctx) (t : DT (Bool × SOper)) (K : Fr → Ctx → Prop) : Fr → Ctx → Prop := fun φ Γ => vcT P Γr t φ Γ K
def FinJ (L : List Nat) (Γf : Ctx) (J : Fr → Ctx → Prop) : Fr → Ctx → Prop := fun φ' Γ' => Up (Γ' ++ Γf) (J (proj φ' L))
def treeC (P : Program) (Γr : Ctx) (t : DT (Bool × SOper)) (L : List Nat) (φ : Fr) (Γ : Ctx) (Q : Post) : Prop := ∃ (Γm Γf : Ctx) (J : Fr → Ctx → Prop), Ent Γ (Γm ++ Γf) ∧ vcT P (Γf ++ Γr) t φ Γm (FinJ L Γf J) ∧ ∀ ψ Γ', J ψ Γ' → Q.nrm ψ Γ'
theorem e_tree {t : DT (Bool × SOper)} : vc P Γr (.tree t L) φ Γ Q = (noBoxesT φ t ∧ treeC P Γr t L φ Γ Q) := rfl
theorem e_finJ {J : Fr → Ctx → Prop} : FinJ L Γf J φ Γ = Up (Γ ++ Γf) (J (proj φ L)) := rfl
theorem e_tk {t : DT (Bool × SOper)} : TK P Γr t K φ Γ = vcT P Γr t φ Γ K := rfl
theorem e_tfin : vcT P Γr .fin φ Γ K = K φ Γ := rfl
theorem e_tno : vcT P Γr .no φ Γ K = True := rfl
theorem e_nbt_q {e : Bool} {t : DT (Bool × SOper)} {g : Option (Nat × Bool)} {op : SOp} {d : Nat} : noBoxesT φ (.q (e, ⟨some d, g, op⟩) t) = (isBox (look φ d) = false ∧ noBoxesT φ t) := rfl
theorem e_nbt_qn {e : Bool} {t : DT (Bool × SOper)} {g : Option (Nat × Bool)} {op : SOp} : noBoxesT φ (.q (e, ⟨none, g, op⟩) t) = noBoxesT φ t := by simp [noBoxesT]
theorem e_nbt_a {e : Bool} {t u : DT (Bool × SOper)} {g : Option (Nat × Bool)} {op : SOp} {d : Nat} : noBoxesT φ (.alt (e, ⟨some d, g, op⟩) t u) = (isBox (look φ d) = false ∧ noBoxesT φ t) := rfl
theorem e_nbt_an {e : Bool} {t u : DT (Bool × SOper)} {g : Option (Nat × Bool)} {op : SOp} : noBoxesT φ (.alt (e, ⟨none, g, op⟩) t u) = noBoxesT φ t := by simp [noBoxesT]
theorem e_nbt_fin : noBoxesT φ .fin = True := rfl
theorem e_drawnB : vc P Γr (.drawnB ops L) φ Γ Q = (noBoxes φ ops ∧ boxesB φ ops ∧ vcD P Γr ops φ Γ (Fin L Q.nrm)) := rfl
theorem e_bxb_nil : boxesB φ [] = True := rfl
theorem e_bxb {e : Bool} : boxesB φ ((e, o) :: r) = (stB φ (boxSt o.op) ∧ boxesB φ r) := by
 show (_ ∧ _) = _
 unfold stB
 rfl
theorem e_stB_none : stB φ none = True := rfl
theorem e_stB_some {t : Nat} : stB φ (some t) = (isBox (look φ t) = true) := rfl
theorem boxSt_store {n t : Nat} {y : Operand} : boxSt (.store n (.tmp t) y) = some t := rfl
theorem bs_mv {x : Operand} : boxSt (.mv x) = none := rfl
theorem bs_pick {c a b : Operand} : boxSt (.pick c a b) = none := rfl
theorem bs_ibin {op : BinOp} {x y : Operand} : boxSt (.ibin op x y) = none := rfl
theorem bs_idiv {op : BinOp} {x y : Operand} : boxSt (.idiv op x y) = none := rfl
theorem bs_ishift {op : BinOp} {x y : Operand} : boxSt (.ishift op x y) = none := rfl
theorem bs_sbin {op : BinOp} {x y : Operand} : boxSt (.sbin op x y) = none := rfl
theorem bs_beq {neg : Bool} {x y : Operand} : boxSt (.beq neg x y) = none := rfl
theorem bs_nilq {kd : Nat} {neg : Bool} {x y : Operand} : boxSt (.nilq kd neg x y) = none := rfl
theorem bs_un {op : UnOp} {x : Operand} : boxSt (.un op x) = none := rfl
theorem bs_conv {k : IntKind} {x : Operand} : boxSt (.conv k x) = none := rfl
theorem bs_box {loc : Bool} {T : TypeId} {x : Operand} : boxSt (.box loc T x) = none := rfl
theorem bs_alloc {loc : Bool} {T : TypeId} {z : Value} : boxSt (.alloc loc T z) = none := rfl
theorem bs_build {t : TypeId} {z : List Value} {parts : List (Nat × Nat × Operand)} : boxSt (.build t z parts) = none := rfl
theorem bs_buildS {e : TypeId} {len : Nat} {z : List Value} {parts : List (Nat × Nat × Operand)} : boxSt (.buildS e len z parts) = none := rfl
theorem bs_load {agg : Bool} {n : Nat} {x : Operand} : boxSt (.load agg n x) = none := rfl
theorem bs_fld {off : Nat} {x : Operand} : boxSt (.fld off x) = none := rfl
theorem bs_nilCheck {x : Operand} : boxSt (.nilCheck x) = none := rfl
theorem bs_idx {sz : Nat} {x i : Operand} : boxSt (.idx sz x i) = none := rfl
theorem bs_idxA {len sz : Nat} {x i : Operand} : boxSt (.idxA len sz x i) = none := rfl
theorem bs_field {agg : Bool} {off n : Nat} {x : Operand} : boxSt (.field agg off n x) = none := rfl
theorem bs_slc {sz : Nat} {x : Operand} {lo hi mx : Option Operand} : boxSt (.slc sz x lo hi mx) = none := rfl
theorem bs_len {str : Bool} {x : Operand} : boxSt (.len str x) = none := rfl
theorem bs_append {t e : TypeId} {sz bytes : Nat} {z : Value} {s x : Operand} : boxSt (.append t e sz bytes z s x) = none := rfl
theorem bs_appz {t u e : TypeId} {sz bytes : Nat} {z : Value} {s x : Operand} : boxSt (.appz t u e sz bytes z s x) = none := rfl
theorem bs_mk {e : TypeId} {sz bytes : Nat} {z : Value} {n c : Operand} : boxSt (.mk e sz bytes z n c) = none := rfl
theorem bs_call {f : Operand} {args : List Operand} : boxSt (.call f args) = none := rfl
theorem bs_extract {i : Nat} {x : Operand} : boxSt (.extract i x) = none := rfl
theorem bs_mkFunc {fn : FuncId} {caps : List Operand} : boxSt (.mkFunc fn caps) = none := rfl
theorem bs_fn {c : Fk} {xs : List Operand} : boxSt (.fn c xs) = none := rfl
theorem bs_q {c : Qk} {xs : List Operand} : boxSt (.q c xs) = none := rfl
theorem bs_a {c : Qk} {xs : List Operand} : boxSt (.a c xs) = none := rfl
theorem bs_n {c : Qk} {xs : List Operand} : boxSt (.n c xs) = none := rfl
theorem bs_loadB {q : Option Nat} {agg : Bool} {n : Nat} {x : Operand} : boxSt (.loadB q agg n x) = none := rfl
theorem bs_dead  : boxSt (.dead ) = none := rfl
theorem isBox_box {b : Nat} {T : TypeId} {cs : List Value} : isBox (.box b T cs) = true := rfl
theorem e_early_nil : anyEarly [] = false := rfl
theorem e_early_t : anyEarly ((true, o) :: r) = true := rfl
theorem e_early_f : anyEarly ((false, o) :: r) = anyEarly r := rfl
theorem e_nob_nil : noBoxes φ [] = True := rfl
theorem e_nob_none {e : Bool} {g : Option (Nat × Bool)} {op : SOp} : noBoxes φ ((e, ⟨none, g, op⟩) :: r) = noBoxes φ r := by simp [noBoxes]
theorem e_nob_some {e : Bool} {g : Option (Nat × Bool)} {op : SOp} {d : Nat} : noBoxes φ ((e, ⟨some d, g, op⟩) :: r) = (isBox (look φ d) = false ∧ noBoxes φ r) := rfl
theorem isBox_dead : isBox .dead = false := rfl
theorem isBox_v {e : Bool} {x : Value} : isBox (.v e x) = false := rfl
theorem isBox_ref {e : Bool} {a b c : Nat} : isBox (.ref e a b c) = false := rfl
theorem e_dnil : vcD P Γr [] φ Γ K = K φ Γ := rfl
theorem e_dk : DK P Γr r K φ Γ = vcD P Γr r φ Γ K := rfl
theorem e_ek {Γ' : Ctx} : EK P Γr r K Γ φ Γ' = vcD P Γr r φ Γ K := rfl
theorem e_finB {Γ' : Ctx} : FinB L K Γf φ Γ' = K (proj φ L) (Γ' ++ Γf) := rfl
theorem vcOps_vc1 {k : Fr → Ctx → Prop} : vc1 P Γr false o φ Γ k = vcOps P Γr [o] φ Γ k := by
 apply propext
 refine ⟨vcOps_of_vc1, fun h => ?_⟩
 obtain ⟨d, g, op⟩ := o
 unfold vc1
 cases g with
 | none =>
  simp only [vcOps] at h
  simp only [gd]
  cases hp : isPure op with
  | true => simpa only [hp, cond_true] using h
  | false =>
   cases ha : isAsk op with
   | true => simp only [hp, ha, cond_true, cond_false] at h ⊢; exact h
   | false => simp only [hp, ha, cond_false] at h ⊢; exact ⟨fun _ => h, fun q => by cases q⟩
 | some g =>
  simp only [vcOps] at h
  split at h
  ·rename_i e he
   simp only [he]
   exact h
  ·exact h.elim
theorem e_dcons : vcD P Γr ((false, o) :: r) φ Γ K = vcOps P Γr [o] φ Γ (DK P Γr r K) := vcOps_vc1
theorem e_tq {t : DT (Bool × SOper)} : vcT P Γr (.q (false, o) t) φ Γ K = vcOps P Γr [o] φ Γ (TK P Γr t K) := vcOps_vc1
def EKT (P : Program) (Γr : Ctx) (t : DT (Bool × SOper)) (K : Fr → Ctx → Prop) (Γ : Ctx) : Fr → Ctx → Prop := fun φ _ => vcT P Γr t φ Γ K
theorem e_ekt {t : DT (Bool × SOper)} {Γ' : Ctx} : EKT P Γr t K Γ φ Γ' = vcT P Γr t φ Γ K := rfl
theorem e_tearly {t : DT (Bool × SOper)} {d : Option Nat} {g : Option (Nat × Bool)} {agg : Bool} {n : Nat} {x : Operand} : vcT P Γr (.q (true, ⟨d, g, .load agg n x⟩) t) φ Γ K = vcOps P Γr [⟨d, g, .load agg n x⟩] φ [] (EKT P Γr t K Γ) := by
 show vc1 P Γr true _ φ Γ _ = _
 rw [← vcOps_vc1]
 rfl
theorem e_talt {t u : DT (Bool × SOper)} : vcT P Γr (.alt (false, o) t u) φ Γ K = (vcOps P Γr [o] φ Γ (TK P Γr t K) ∧ vcT P Γr u φ Γ K) := by
 show (vc1 P Γr false o φ Γ _ ∧ _) = _
 rw [vcOps_vc1]
 rfl
theorem e_dearly {d : Option Nat} {g : Option (Nat × Bool)} {agg : Bool} {n : Nat} {x : Operand} : vcD P Γr ((true, ⟨d, g, .load agg n x⟩) :: r) φ Γ K = vcOps P Γr [⟨d, g, .load agg n x⟩] φ [] (EK P Γr r K Γ) := by
 show vc1 P Γr true _ φ Γ _ = _
 rw [← vcOps_vc1]
 rfl
end

/-! frames -/
theorem look_nil (t : Nat) : look [] t = .dead := rfl
theorem look_c (k : Nat) (x : Sl) (r : Fr) (t : Nat) : look ((k, x) :: r) t = bif k == t then x else look r t := rfl
theorem proj_nil (φ : Fr) : proj φ [] = [] := rfl
theorem proj_c (φ : Fr) (t : Nat) (L : List Nat) : proj φ (t :: L) = (t, look φ t) :: proj φ L := rfl
theorem looks_nil (φ : Fr) : looks φ [] = [] := rfl
theorem looks_c (φ : Fr) (t : Nat) (L : List Nat) : looks φ (t :: L) = look φ t :: looks φ L := rfl
theorem zip_nil (r : List Sl) : zipS [] r = [] := rfl
theorem zip_c (t : Nat) (L : List Nat) (x : Sl) (r : List Sl) : zipS (t :: L) (x :: r) = (t, x) :: zipS L r := rfl
theorem val_tmp (φ : Fr) (t : Nat) : val φ (.tmp t) = (look φ t).val := rfl
theorem val_const (φ : Fr) (x : Value) : val φ (.const x) = (true, x) := rfl
theorem val_func (φ : Fr) (f : FuncId) : val φ (.func f) = (true, .func (.func f) #[] #[]) := rfl
theorem slv_v (e : Bool) (x : Value) : (Sl.v e x).val = (e, x) := rfl
theorem slv_box (b : Nat) (T : TypeId) (cs : List Value) : (Sl.box b T cs).val = (true, .pointer (some ⟨b, 0, none⟩)) := rfl
theorem slv_ref (e : Bool) (s b o : Nat) : (Sl.ref e s b o).val = (e, .pointer (some ⟨b, o, none⟩)) := rfl
def slotL (t : Nat) (e : Bool) : Sl → Sl
 | .box b _ _ => .ref e t b 0
 | .ref _ s b off => .ref e s b off
 | x => .v e x.val.2
theorem slot_tmp (φ : Fr) (e : Bool) (t : Nat) : slotOf φ e (.tmp t) = slotL t e (look φ t) := by
 simp only [slotOf, slotL]
 cases look φ t <;> rfl
theorem slot_const (φ : Fr) (e : Bool) (x : Value) : slotOf φ e (.const x) = .v e x := rfl
theorem slot_func (φ : Fr) (e : Bool) (f : FuncId) : slotOf φ e (.func f) = .v e (.func (.func f) #[] #[]) := rfl
theorem slotL_v (t : Nat) (e e' : Bool) (x : Value) : slotL t e (.v e' x) = .v e x := rfl
theorem slotL_box (t : Nat) (e : Bool) (b : Nat) (T : TypeId) (cs : List Value) : slotL t e (.box b T cs) = .ref e t b 0 := rfl
theorem slotL_ref (t : Nat) (e e' : Bool) (s b o : Nat) : slotL t e (.ref e' s b o) = .ref e s b o := rfl
theorem put_some (φ : Fr) (t : Nat) (x : Sl) : put φ (some t) x = (t, x) :: φ := rfl
theorem put_none (φ : Fr) (x : Sl) : put φ none x = φ := rfl
def boxSet : Sl → List Value → Sl
 | .box b T _, cs => .box b T cs
 | x, _ => x
theorem updBox_c (k : Nat) (x : Sl) (r : Fr) (t : Nat) (cs : List Value) : updBox ((k, x) :: r) t cs = bif k == t then (k, boxSet x cs) :: r else (k, x) :: updBox r t cs := by
 simp only [updBox]
 cases x <;> rfl
theorem boxSet_box (b : Nat) (T : TypeId) (cs cs' : List Value) : boxSet (.box b T cs) cs' = .box b T cs' := rfl
theorem gd_eq (φ : Fr) (t : Nat) (want : Bool) : gd φ (some (t, want)) = (match look φ t with | .v ge (.bool b) => some (ge && (b == want)) | _ => none) := rfl
theorem slotVals_nil (φ : Fr) : slotVals φ [] = [] := rfl
theorem slotVals_c (φ : Fr) (t : Nat) (r : List (Nat × Option (Bool × Nat))) : slotVals φ ((t, none) :: r) = (look φ t).val.2 :: slotVals φ r := rfl
theorem slotVals_b (φ : Fr) (t : Nat) (agg : Bool) (n : Nat) (r : List (Nat × Option (Bool × Nat))) : slotVals φ ((t, some (agg, n)) :: r) = boxV agg n (look φ t) :: slotVals φ r := rfl
theorem boxV_box (agg : Bool) (n b : Nat) (T : TypeId) (cs : List Value) : boxV agg n (.box b T cs) = mkv agg (cs.take n) := rfl
theorem boxOn_box (agg : Bool) (n b : Nat) (T : TypeId) (cs : List Value) : boxOn agg n (.box b T cs) = (n ≤ cs.length ∧ (agg = false → n = 1)) := rfl
theorem slotsOn_nil (φ : Fr) : slotsOn φ [] = True := rfl
theorem slotsOn_c (φ : Fr) (t : Nat) (r : List (Nat × Option (Bool × Nat))) : slotsOn φ ((t, none) :: r) = ((look φ t).val.1 = true ∧ slotsOn φ r) := rfl
theorem slotsOn_b (φ : Fr) (t : Nat) (agg : Bool) (n : Nat) (r : List (Nat × Option (Bool × Nat))) : slotsOn φ ((t, some (agg, n)) :: r) = (boxOn agg n (look φ t) ∧ slotsOn φ r) := rfl
theorem resV_one (x : Value) : resV [x] = x := rfl
theorem resV_two (x y : Value) (r : List Value) : resV (x :: y :: r) = .tuple (x :: y :: r).toArray := rfl
theorem vals_nil (φ : Fr) : vals φ [] = [] := rfl
theorem vals_c (φ : Fr) (x : Operand) (r : List Operand) : vals φ (x :: r) = (val φ x).2 :: vals φ r := rfl
theorem allOn_nil (φ : Fr) (e : Bool) : allOn φ e [] = True := rfl
theorem allOn_c (φ : Fr) (e : Bool) (x : Operand) (r : List Operand) : allOn φ e (x :: r) = ((e = true → (val φ x).1 = true) ∧ allOn φ e r) := rfl
theorem partOn_nil (φ : Fr) (e : Bool) : partOn φ e [] = True := rfl
theorem partOn_c (φ : Fr) (e : Bool) (o n : Nat) (x : Operand) (r : List (Nat × Nat × Operand)) : partOn φ e ((o, n, x) :: r) = ((e = true → (val φ x).1 = true) ∧ partOn φ e r) := rfl
theorem partVals_nil (φ : Fr) : partVals φ [] = [] := rfl
theorem partVals_c (φ : Fr) (o n : Nat) (x : Operand) (r : List (Nat × Nat × Operand)) : partVals φ ((o, n, x) :: r) = (o, n, (val φ x).2) :: partVals φ r := rfl
theorem fits_nil : fits [] = True := rfl
theorem fits_c (o n : Nat) (x : Value) (r : List (Nat × Nat × Value)) : fits ((o, n, x) :: r) = ((cellsV x).length = n ∧ fits r) := rfl
theorem fillL_nil (z : List Value) : fillL z [] = z := rfl
theorem fillL_c (z : List Value) (o n : Nat) (x : Value) (r : List (Nat × Nat × Value)) : fillL z ((o, n, x) :: r) = fillL (z.take o ++ cellsV x ++ z.drop (o + n)) r := rfl
theorem mkv_one (x : Value) (r : List Value) : mkv false (x :: r) = x := rfl
theorem mkv_agg (l : List Value) : mkv true l = .agg l.toArray := rfl
theorem cellsV_agg (l : List Value) : cellsV (.agg l.toArray) = l := rfl
theorem cellsV_int (k : IntKind) (x : Int) : cellsV (.int k x) = [.int k x] := rfl
theorem cellsV_bool (x : Bool) : cellsV (.bool x) = [.bool x] := rfl
theorem cellsV_slice (A : Option Addr) (n c : Nat) : cellsV (.slice A n c) = [.slice A n c] := rfl
theorem cellsV_string (s : ByteArray) : cellsV (.string s) = [.string s] := rfl
theorem cellsV_pointer (a : Option Addr) : cellsV (.pointer a) = [.pointer a] := rfl
theorem cellsV_func (f : Fn) (a b : Array Value) : cellsV (.func f a b) = [.func f a b] := rfl
theorem cellsV_nilf : cellsV .nilFunc = [.nilFunc] := rfl
theorem cellsV_map (a : Option Nat) : cellsV (.map a) = [.map a] := rfl
theorem one'_nil : one' [] = True := by simp [one']
theorem one'_c (x : Value) (r : List Value) : one' (x :: r) = (x.oneCell' = true ∧ one' r) := by simp [one']
theorem oc_int (k : IntKind) (x : Int) : (Value.int k x).oneCell' = true := rfl
theorem oc_bool (x : Bool) : (Value.bool x).oneCell' = true := rfl
theorem oc_slice (A : Option Addr) (n c : Nat) : (Value.slice A n c).oneCell' = true := rfl
theorem oc_string (s : ByteArray) : (Value.string s).oneCell' = true := rfl
theorem oc_pointer (a : Option Addr) : (Value.pointer a).oneCell' = true := rfl
theorem oc_func (f : Fn) (a b : Array Value) : (Value.func f a b).oneCell' = true := rfl
theorem oc_nilf : (Value.nilFunc).oneCell' = true := rfl
theorem oc_map (a : Option Nat) : (Value.map a).oneCell' = true := rfl
theorem setC_eq (cs : List Value) (o n : Nat) (x : Value) : setC cs o n x = cs.take o ++ cellsV x ++ cs.drop (o + n) := rfl
theorem iv_add (k : IntKind) (a b : Int) : ibinV .add k a b = .int k (k.wrap (a + b)) := rfl
theorem iv_sub (k : IntKind) (a b : Int) : ibinV .sub k a b = .int k (k.wrap (a - b)) := rfl
theorem iv_mul (k : IntKind) (a b : Int) : ibinV .mul k a b = .int k (k.wrap (a * b)) := rfl
theorem iv_eql (k : IntKind) (a b : Int) : ibinV .eql k a b = .bool (decide (a = b)) := rfl
theorem iv_neq (k : IntKind) (a b : Int) : ibinV .neq k a b = .bool (!decide (a = b)) := rfl
theorem iv_lss (k : IntKind) (a b : Int) : ibinV .lss k a b = .bool (decide (a < b)) := rfl
theorem iv_leq (k : IntKind) (a b : Int) : ibinV .leq k a b = .bool (decide (a ≤ b)) := rfl
theorem iv_gtr (k : IntKind) (a b : Int) : ibinV .gtr k a b = .bool (decide (b < a)) := rfl
theorem iv_geq (k : IntKind) (a b : Int) : ibinV .geq k a b = .bool (decide (b ≤ a)) := rfl
theorem iok_add : ibinOk .add = true := rfl
theorem iok_sub : ibinOk .sub = true := rfl
theorem iok_mul : ibinOk .mul = true := rfl
theorem iok_eql : ibinOk .eql = true := rfl
theorem iok_neq : ibinOk .neq = true := rfl
theorem iok_lss : ibinOk .lss = true := rfl
theorem iok_leq : ibinOk .leq = true := rfl
theorem iok_gtr : ibinOk .gtr = true := rfl
theorem iok_geq : ibinOk .geq = true := rfl
theorem pickV_bool (c x y : Bool) : pickV c (.bool x) (.bool y) = .bool (bif c then x else y) := rfl
theorem args0_nil (i : Nat) : args0 i [] = [] := rfl
theorem args0_c (i : Nat) (x : Value) (r : List Value) : args0 i (x :: r) = (i, .v true x) :: args0 (i + 1) r := rfl
theorem bnd_none (φ : Fr) (l d : Nat) : bnd φ none l d = (l = d) := rfl
theorem bnd_some (φ : Fr) (y : Operand) (l d : Nat) : bnd φ (some y) l d = ((val φ y).1 = true ∧ ∃ ki, (val φ y).2 = .int ki (l : Nat)) := rfl
theorem imp_bt (b : Bool) : (b = true → (b == true) = true) = True := by simp
theorem imp_bf (b : Bool) : (b = false → (b == false) = true) = True := by simp
theorem imp_ebt (e b : Bool) : (e = true → b = true → (e && (b == true)) = true) = True := by cases e <;> cases b <;> simp
theorem imp_ebf (e b : Bool) : (e = true → b = false → (e && (b == false)) = true) = True := by cases e <;> cases b <;> simp
theorem imp_eb1 (e b : Bool) : ((e && b) = true → e = true) = True := by cases e <;> simp
theorem imp_np (p : Prop) [Decidable p] : (¬ p → (decide p == false) = true) = True := by simp
theorem imp_pp (p : Prop) [Decidable p] : (p → (decide p == true) = true) = True := by simp
theorem beq_tt : (true == true) = true := rfl
theorem beq_tf : (true == false) = false := rfl
theorem beq_ft : (false == true) = false := rfl
theorem beq_ff : (false == false) = true := rfl
theorem cond_or (b c : Bool) : (bif b then true else c) = (b || c) := by cases b <;> rfl
theorem cond_and (b c : Bool) : (bif b then c else false) = (b && c) := by cases b <;> rfl
def RoundK (M N : List Nat) (q : List Sl) (I : Nat → List Sl → Ctx → Prop) (n : Nat) : Fr → Ctx → Prop := fun φ Γ => looks φ N = q ∧ ∃ n', n' < n ∧ Up Γ (I n' (looks φ M))
def JoinK (M N : List Nat) (q : List Sl) (J : List Sl → Ctx → Prop) : Fr → Ctx → Prop := fun φ Γ => looks φ N = q ∧ Up Γ (J (looks φ M))
theorem e_round (M N : List Nat) (q : List Sl) (I : Nat → List Sl → Ctx → Prop) (n : Nat) (φ : Fr) (Γ : Ctx) : RoundK M N q I n φ Γ = (looks φ N = q ∧ ∃ n', n' < n ∧ Up Γ (I n' (looks φ M))) := rfl
theorem e_meet (M N : List Nat) (q : List Sl) (J : List Sl → Ctx → Prop) (φ : Fr) (Γ : Ctx) : JoinK M N q J φ Γ = (looks φ N = q ∧ Up Γ (J (looks φ M))) := rfl
/- What is used of the symbolic walk: contracts met at calls, data that read as lists and structs; no condition. -/
theorem Ent.refl (Γ : Ctx) : Ent Γ Γ := ⟨fun h hh k o hk => ⟨h, hh, hk⟩, id⟩
theorem Up.here {Γ : Ctx} {Φ : Ctx → Prop} (h : Φ Γ) : Up Γ Φ := fun _ => ⟨Γ, Ent.refl Γ, h⟩
theorem Up.to {Γ : Ctx} {Φ : Ctx → Prop} (Γ' : Ctx) (he : Ent Γ Γ') (h : Φ Γ') : Up Γ Φ := fun _ => ⟨Γ', he, h⟩
theorem Ent.sub {Γ Γ' : Ctx} (h : Γ'.Sublist Γ) : Ent Γ Γ' := ⟨fun g hg k o hk => ⟨g, h.subset hg, hk⟩, fun ha => ha.sublist h⟩
theorem Ent.nil (Γ : Ctx) : Ent Γ [] := Ent.sub (List.nil_sublist Γ)
theorem Ent.trans {Γ Γ' Γ'' : Ctx} (h : Ent Γ Γ') (h' : Ent Γ' Γ'') : Ent Γ Γ'' :=
 ⟨fun g hg k o hk => let ⟨g', hg', hk'⟩ := h'.cov g hg k o hk; h.cov g' hg' k o hk', fun ha => h'.apart (h.apart ha)⟩
theorem Ent.perm {Γ Γ' : Ctx} (h : Γ.Perm Γ') : Ent Γ Γ' := ⟨fun g hg k o hk => ⟨g, h.mem_iff.2 hg, hk⟩, perm_apart h⟩
theorem uni_some {h g : PH} {k : Nat} {o : Obj} (hk : uni h g k = some o) : h k = some o ∨ g k = some o := by
 unfold uni at hk
 split at hk
 ·rename_i p hp; left; rw [hp]; exact hk
 ·exact .inr hk
theorem uni_disj {h g x : PH} (h1 : Disj h x) (h2 : Disj g x) : Disj (uni h g) x := by
 intro k
 unfold uni
 rcases h1 k with q | q
 ·rcases h2 k with q' | q'
  ·left; rw [q]; exact q'
  ·exact .inr q'
 ·exact .inr q
/-- two heaps are one -/
theorem Ent.uni (h g : PH) (Γ : Ctx) : Ent (h :: g :: Γ) (V.uni h g :: Γ) := by
 refine ⟨fun x hx k o hk => ?_, fun ha => ?_⟩
 ·rcases List.mem_cons.1 hx with rfl | hx
  ·rcases uni_some hk with q | q
   ·exact ⟨h, by simp, q⟩
   ·exact ⟨g, by simp, q⟩
  ·exact ⟨x, by simp [hx], hk⟩
 ·obtain ⟨h1, h2⟩ := List.pairwise_cons.1 ha
  obtain ⟨h3, h4⟩ := List.pairwise_cons.1 h2
  exact List.pairwise_cons.2 ⟨fun x hx => uni_disj (h1 x (by simp [hx])) (h3 x hx), h4⟩
theorem Ent.cons {Γ Γ' : Ctx} (h : PH) (he : Ent Γ Γ') : Ent (h :: Γ) (h :: Γ') := by
 refine ⟨fun x hx k o hk => ?_, fun ha => ?_⟩
 ·rcases List.mem_cons.1 hx with rfl | hx
  ·exact ⟨x, by simp, hk⟩
  ·obtain ⟨g, hg, hgk⟩ := he.cov x hx k o hk; exact ⟨g, by simp [hg], hgk⟩
 ·obtain ⟨h1, h2⟩ := List.pairwise_cons.1 ha
  refine List.pairwise_cons.2 ⟨fun x hx k => ?_, he.apart h2⟩
  cases hxk : x k with
  | none => exact .inr rfl
  | some o =>
   obtain ⟨g, hg, hgk⟩ := he.cov x hx k o hxk
   rcases h1 g hg k with q | q
   ·exact .inl q
   ·rw [hgk] at q; cases q

/-! what memory holds -/
abbrev Mem := Nat → Obj → Prop
def lk (Γ : Ctx) : Mem := fun b o => ∃ h ∈ Γ, h b = some o
def Mem.le (L L' : Mem) : Prop := ∀ b o, L b o → L' b o
theorem Mem.le.refl (L : Mem) : Mem.le L L := fun _ _ h => h
theorem Mem.le.trans {L L' L'' : Mem} (h : Mem.le L L') (h' : Mem.le L' L'') : Mem.le L L'' := fun b o q => h' b o (h b o q)
theorem lk_sub {Γ Γ' : Ctx} (h : ∀ g ∈ Γ, g ∈ Γ') : Mem.le (lk Γ) (lk Γ') := fun b o ⟨g, hg, q⟩ => ⟨g, h g hg, q⟩
theorem lk_one {g : PH} {b : Nat} {o : Obj} : lk [g] b o ↔ g b = some o := by simp [lk]
def unis : Ctx → PH
 | [] => emp
 | [g] => g
 | g :: r => uni g (unis r)
theorem unis_some : ∀ {Γ : Ctx} {k : Nat} {o : Obj}, unis Γ k = some o → ∃ g ∈ Γ, g k = some o
 | [], k, o, h => by simp [unis, emp] at h
 | [g], k, o, h => ⟨g, by simp, h⟩
 | g :: g' :: r, k, o, h => by
  rcases uni_some (h := g) (g := unis (g' :: r)) h with q | q
  ·exact ⟨g, by simp, q⟩
  ·obtain ⟨x, hx, q'⟩ := unis_some q
   exact ⟨x, List.mem_cons_of_mem _ hx, q'⟩
theorem lk_unis : ∀ {Γ : Ctx}, Γ.Pairwise Disj → Mem.le (lk Γ) (lk [unis Γ])
 | [], _, b, o, h => by obtain ⟨g, hg, _⟩ := h; cases hg
 | [g], _, b, o, h => h
 | g :: g' :: r, ha, b, o, h => by
  obtain ⟨h1, h2⟩ := List.pairwise_cons.1 ha
  obtain ⟨x, hx, q⟩ := h
  refine lk_one.2 ?_
  show uni g (unis (g' :: r)) b = some o
  unfold uni
  rcases List.mem_cons.1 hx with rfl | hx
  ·rw [q]
  ·have := h1 x hx b
   rcases this with q' | q'
   ·rw [q']
    exact lk_one.1 (lk_unis h2 b o ⟨x, hx, q⟩)
   ·rw [q] at q'; cases q'
def sel (Γ : Ctx) (is : List Nat) : Ctx := is.filterMap (fun i => Γ[i]?)
theorem Ent.sel (Γ : Ctx) (is : List Nat) (hn : is.Nodup) : Ent Γ (sel Γ is) := by
 refine ⟨fun g hg k o hk => ?_, fun ha => ?_⟩
 ·obtain ⟨i, hi, q⟩ := List.mem_filterMap.1 hg
  exact ⟨g, List.mem_of_getElem? q, hk⟩
 ·induction is with
  | nil => exact List.Pairwise.nil
  | cons i is ih =>
   obtain ⟨h1, h2⟩ := List.nodup_cons.1 hn
   have ih := ih h2
   unfold V.sel
   cases hi : Γ[i]? with
   | none => rw [List.filterMap_cons_none hi]; exact ih
   | some g =>
    rw [List.filterMap_cons_some hi]
    refine List.pairwise_cons.2 ⟨fun x hx => ?_, ih⟩
    obtain ⟨j, hj, q⟩ := List.mem_filterMap.1 hx
    have hij : i ≠ j := fun e => by subst e; exact h1 hj
    obtain ⟨li, ei⟩ := List.getElem?_eq_some_iff.1 hi
    obtain ⟨lj, ej⟩ := List.getElem?_eq_some_iff.1 q
    rw [List.pairwise_iff_getElem] at ha
    rcases Nat.lt_or_gt_of_ne hij with r | r
    ·have := ha i j li lj r
     rw [ei, ej] at this
     exact this
    ·have := ha j i lj li r
     rw [ei, ej] at this
     exact this.symm
theorem disj_unis {x : PH} : ∀ {Γ : Ctx}, (∀ g ∈ Γ, Disj x g) → Disj x (unis Γ)
 | [], _ => fun k => .inr rfl
 | [g], h => h g (by simp)
 | g :: g' :: r, h => by
  have h1 := h g (by simp)
  have h2 := disj_unis (Γ := g' :: r) (fun y hy => h y (List.mem_cons_of_mem _ hy))
  exact (uni_disj h1.symm h2.symm).symm
theorem unis_pairwise : ∀ {Γs : List Ctx}, Γs.flatten.Pairwise Disj → (Γs.map unis).Pairwise Disj
 | [], _ => List.Pairwise.nil
 | Γ :: Γs, h => by
  simp only [List.flatten_cons] at h
  obtain ⟨h1, h2, h3⟩ := List.pairwise_append.1 h
  refine List.pairwise_cons.2 ⟨fun x hx => ?_, unis_pairwise h2⟩
  obtain ⟨Δ, hΔ, rfl⟩ := List.mem_map.1 hx
  exact disj_unis fun y hy => (disj_unis fun g hg => (h3 g hg y (List.mem_flatten.2 ⟨Δ, hΔ, hy⟩)).symm).symm
/-- heaps are put together, group by group -/
theorem Up.sel {Γ : Ctx} {Φ : Ctx → Prop} (iss : List (List Nat)) (hn : iss.flatten.Nodup) (h : Γ.Pairwise Disj → (∀ is ∈ iss, Mem.le (lk (V.sel Γ is)) (lk [unis (V.sel Γ is)])) → Φ (iss.map fun is => unis (V.sel Γ is))) : Up Γ Φ := by
 intro ha
 have hflat : (iss.map (V.sel Γ)).flatten = V.sel Γ iss.flatten := by
  clear hn h
  induction iss with
  | nil => rfl
  | cons i is ih => simp only [List.map_cons, List.flatten_cons, ih, V.sel, List.filterMap_append]
 have he := Ent.sel Γ iss.flatten hn
 have hp := he.apart ha
 rw [← hflat] at hp
 refine ⟨_, ⟨fun g hg k o hk => ?_, fun _ => ?_⟩, h ha fun is his => lk_unis ?_⟩
 ·obtain ⟨is, his, rfl⟩ := List.mem_map.1 hg
  obtain ⟨x, hx, q⟩ := unis_some hk
  obtain ⟨i, hi, r⟩ := List.mem_filterMap.1 hx
  exact ⟨x, List.mem_of_getElem? r, q⟩
 ·have := unis_pairwise hp
  rwa [List.map_map] at this
 ·exact ((Ent.sel Γ is ((List.sublist_flatten_of_mem his).nodup hn)).apart ha)
/-- all in one heap -/
theorem Up.one {Γ : Ctx} {Φ : Ctx → Prop} (h : ∀ g, Mem.le (lk Γ) (lk [g]) → Φ [g]) : Up Γ Φ := fun ha =>
 ⟨[unis Γ], ⟨fun g hg k o hk => by simp at hg; subst hg; exact unis_some hk, fun _ => by simp⟩, h _ (lk_unis ha)⟩
theorem Up.apart {Γ : Ctx} {Φ : Ctx → Prop} (h : Γ.Pairwise Disj → Up Γ Φ) : Up Γ Φ := fun ha => h ha ha
theorem Cells.lk {Γ : Ctx} {b o : Nat} {cells : Array Value} {T : TypeId} {fr : Nat × Nat} {vs : List Value} (h : V.lk Γ b (.cells cells T fr)) (hc : ∀ j, j < vs.length → cells[o + j]? = vs[j]?) : Cells Γ b o vs := by
 obtain ⟨g, hg, q⟩ := h
 exact ⟨g, hg, cells, T, fr, q, hc⟩

/-! a call, by its contract -/
/-- a callee that changes the heap at the head -/
theorem CallVC.head {P : Program} {Γr Γr1 Γ : Ctx} {g : PH} {f : FuncId} {args : List Value} {R : Value → Ctx → Prop} {k : Value → Ctx → Prop} (h : Ret P f args Γr1 [g] R)
  (hs : Γr1.Sublist (Γ ++ Γr)) (hk : ∀ v Γ', R v Γ' → k v (Γ' ++ Γ)) : CallVC P Γr f args (g :: Γ) k :=
 ⟨Γr1, [g], Γ, R, h, List.Perm.refl _, hs, hk⟩
theorem CallVC.perm {P : Program} {Γr Γr1 Γm Γf Γ : Ctx} {f : FuncId} {args : List Value} {R : Value → Ctx → Prop} {k : Value → Ctx → Prop} (h : Ret P f args Γr1 Γm R) (hp : Γ.Perm (Γm ++ Γf))
  (hs : Γr1.Sublist (Γf ++ Γr)) (hk : ∀ v Γ', R v Γ' → k v (Γ' ++ Γf)) : CallVC P Γr f args Γ k :=
 ⟨Γr1, Γm, Γf, R, h, hp, hs, hk⟩
/-- a callee that only reads -/
theorem CallVC.read {P : Program} {Γr Γ : Ctx} {f : FuncId} {args : List Value} {R : Value → Ctx → Prop} {k : Value → Ctx → Prop} (h : Ret P f args (Γ ++ Γr) [] R)
  (hk : ∀ v Γ', R v Γ' → k v (Γ' ++ Γ)) : CallVC P Γr f args Γ k :=
 ⟨Γ ++ Γr, [], Γ, R, h, List.Perm.refl _, List.Sublist.refl _, hk⟩
theorem Ret.mono {P : Program} {f : FuncId} {args : List Value} {Γr Γm : Ctx} {R R' : Value → Ctx → Prop} (h : Ret P f args Γr Γm R) (hr : ∀ v Γ, R v Γ → R' v Γ) : Ret P f args Γr Γm R' :=
 ⟨h.fn, fun w hs => (h.calls w hs).mono fun e w' ⟨v, Γ', he, hR, hd⟩ => ⟨v, Γ', he, hr _ _ hR, hd⟩⟩

section
variable {P : Program} {Γr : Ctx} {d : Option Nat} {r : List SOper} {φ : Fr} {Γ : Ctx} {K : Fr → Ctx → Prop}
/-- xs[i] -/
theorem s_idx {sz n cap b o : Nat} {A : Option Addr} {k : IntKind} {j : Int} (hA : A = some ⟨b, o, none⟩) (h0 : 0 ≤ j) (h1 : j < n)
  (hk : vcOps P Γr r (put φ d (.v true (.pointer (some ⟨b, o + j.toNat * sz, none⟩)))) Γ K) : idxC P Γr true d r φ Γ K sz (true, .slice A n cap) (true, .int k j) :=
 ⟨b, o, fun _ => ⟨rfl, rfl, hA, h0, h1⟩, hk⟩
/-- a load of a part of what lies there -/
theorem s_ld {agg : Bool} {n b o j : Nat} {cs : List Value} (hc : Cells (Γ ++ Γr) b o cs) (hn : j + n ≤ cs.length) (ha : agg = false → n = 1) (hk : vcOps P Γr r (put φ d (.v true (mkv agg ((cs.drop j).take n)))) Γ K) :
  loadP P Γr true d r φ Γ K agg n b (o + j) true := by
 refine ⟨ha, (cs.drop j).take n, by simp; omega, fun _ => ⟨rfl, ?_⟩, hk⟩
 obtain ⟨h, hh, cells, T, fr, hb, hx⟩ := hc
 refine ⟨h, hh, cells, T, fr, hb, fun i hi => ?_⟩
 simp at hi
 rw [Nat.add_assoc, hx (j + i) (by omega), List.getElem?_take, if_pos (by omega), List.getElem?_drop]
theorem s_ld0 {agg : Bool} {n b o : Nat} {cs : List Value} (hc : Cells (Γ ++ Γr) b o cs) (hn : n ≤ cs.length) (ha : agg = false → n = 1) (hk : vcOps P Γr r (put φ d (.v true (mkv agg (cs.take n)))) Γ K) :
  loadP P Γr true d r φ Γ K agg n b o true := s_ld (j := 0) hc (by omega) ha hk
/-- under a guard -/
theorem s_ldg {e on agg : Bool} {n b o j : Nat} {cs : List Value} (hon : e = true → on = true) (hc : e = true → Cells (Γ ++ Γr) b o cs) (hn : j + n ≤ cs.length) (ha : agg = false → n = 1) (hk : vcOps P Γr r (put φ d (.v e (mkv agg ((cs.drop j).take n)))) Γ K) :
  loadP P Γr e d r φ Γ K agg n b (o + j) on := by
 refine ⟨ha, (cs.drop j).take n, by simp; omega, fun he => ⟨hon he, ?_⟩, hk⟩
 obtain ⟨h, hh, cells, T, fr, hb, hx⟩ := hc he
 refine ⟨h, hh, cells, T, fr, hb, fun i hi => ?_⟩
 simp at hi
 rw [Nat.add_assoc, hx (j + i) (by omega), List.getElem?_take, if_pos (by omega), List.getElem?_drop]
theorem s_ldg0 {e on agg : Bool} {n b o : Nat} {cs : List Value} (hon : e = true → on = true) (hc : e = true → Cells (Γ ++ Γr) b o cs) (hn : n ≤ cs.length) (ha : agg = false → n = 1) (hk : vcOps P Γr r (put φ d (.v e (mkv agg (cs.take n)))) Γ K) :
  loadP P Γr e d r φ Γ K agg n b o on := s_ldg (j := 0) hon hc (by omega) ha hk
theorem s_idxg {e ex ei : Bool} {sz n cap b o : Nat} {A : Option Addr} {k : IntKind} {j : Int} (h : e = true → ex = true ∧ ei = true ∧ A = some ⟨b, o, none⟩ ∧ 0 ≤ j ∧ j < n)
  (hk : vcOps P Γr r (put φ d (.v e (.pointer (some ⟨b, o + j.toNat * sz, none⟩)))) Γ K) : idxC P Γr e d r φ Γ K sz (ex, .slice A n cap) (ei, .int k j) := ⟨b, o, h, hk⟩
theorem s_join {a b : Stmt} {M N : List Nat} {Q : Post} (J : List Sl → Ctx → Prop) (h1 : vc P Γr a φ Γ (Q.seq (JoinK M N (looks φ N) J)))
  (h2 : ∀ vs Γ', J vs Γ' → vc P Γr b (zipS M vs ++ proj φ N) Γ' Q) : joinC P Γr a b M N φ Γ Q := ⟨J, h1, h2⟩
/-- what follows is gone through on each way -/
theorem s_split {a b : Stmt} {M N : List Nat} {Q : Post} (h1 : vc P Γr a φ Γ (Q.seq (JoinK M N (looks φ N) (fun vs Γ' => vc P Γr b (zipS M vs ++ proj φ N) Γ' Q)))) : joinC P Γr a b M N φ Γ Q :=
 ⟨fun vs Γ' => vc P Γr b (zipS M vs ++ proj φ N) Γ' Q, h1, fun _ _ h => h⟩
theorem s_loop {a : Stmt} {M N : List Nat} {Q : Post} (I : Nat → List Sl → Ctx → Prop) (n : Nat) (h0 : Up Γ (I n (looks φ M)))
  (h1 : ∀ n vs Γ', I n vs Γ' → vc P Γr a (zipS M vs ++ proj φ N) Γ' (Q.seq (RoundK M N (looks φ N) I n))) : loopC P Γr a M N φ Γ Q := ⟨I, ⟨n, h0⟩, h1⟩
theorem s_slice {sz n cap : Nat} {A : Option Addr} {lo hi : Option Operand} (l h : Nat)
  (hlo : bnd φ lo l 0) (hhi : bnd φ hi h n)
  (h1 : l ≤ h) (h2 : h ≤ cap) (hk : vcOps P Γr r (put φ d (.v true (.slice (if cap = l then A else A.map (·.add (l * sz))) (h - l) (cap - l)))) Γ K) : slcC P Γr true d r φ Γ K sz lo hi (true, .slice A n cap) :=
 ⟨l, h, fun _ => ⟨rfl, hlo, hhi, h1, h2⟩, hk⟩
end

section
variable {P : Program} {Γr : Ctx} {d : Option Nat} {r : List SOper} {φ : Fr} {Γ : Ctx} {K : Fr → Ctx → Prop}
/-- one that reads -/
theorem s_q {c : Qk} {on : Prop} {vs : List Value} {x : Value} (ho : on) (hq : QR P c vs (Γ ++ Γr) x) (hk : vcOps P Γr r (put φ d (.v true x)) Γ K) : qC P Γr true d r φ Γ K c on vs := ⟨x, fun _ => ⟨ho, hq⟩, hk⟩
end

/-! ### what reads as data -/
class Rep (α : Type) where
 sz : Nat
 ok : Mem → α → List Value → Prop
 len : ∀ {h x cs}, ok h x cs → cs.length = sz
 one : ∀ {h x cs}, ok h x cs → one' cs
 mono : ∀ {h h' x cs}, ok h x cs → Mem.le h h' → ok h' x cs

/-- a slice's place, its capacity and what it holds -/
structure SlOk {α : Type} [Rep α] (h : Mem) (A : Option Addr) (c : Nat) (xs : List α) : Prop where
 cap : xs.length ≤ c
 max : c ≤ maxLen
 short : xs.length ≤ 140737488355328
 at' : xs = [] ∨ ∃ b o cells T fr, A = some ⟨b, o, none⟩ ∧ h b (.cells cells T fr) ∧
  ∀ i x, xs[i]? = some x → ∃ cs, Rep.ok h x cs ∧ ∀ j, j < Rep.sz α → cells[o + i * Rep.sz α + j]? = cs[j]?

theorem SlOk.mono {α : Type} [Rep α] {h h' : Mem} {A : Option Addr} {c : Nat} {xs : List α} (q : SlOk h A c xs) (hh : Mem.le h h') : SlOk h' A c xs := by
 refine ⟨q.cap, q.max, q.short, ?_⟩
 rcases q.at' with q | ⟨b, o, cells, T, fr, hA, hb, hx⟩
 ·exact .inl q
 ·exact .inr ⟨b, o, cells, T, fr, hA, hh _ _ hb, fun i x hi => let ⟨cs, h1, h2⟩ := hx i x hi; ⟨cs, Rep.mono h1 hh, h2⟩⟩
theorem SlOk.nil {α : Type} [Rep α] {h : Mem} : SlOk (α := α) h none 0 [] := ⟨by simp, by simp, by simp, .inl rfl⟩

theorem SlOk.elem {α : Type} [Rep α] {h : Mem} {A : Option Addr} {c : Nat} {xs : List α} (q : SlOk h A c xs) {i : Nat} {x : α} (hi : xs[i]? = some x) :
  ∃ b o, A = some ⟨b, o, none⟩ ∧ ∃ cs, Rep.ok h x cs ∧ ∀ Γ : Ctx, Mem.le h (lk Γ) → Cells Γ b (o + i * Rep.sz α) cs := by
 rcases q.at' with q | ⟨b, o, cells, T, fr, hA, hb, hx⟩
 ·subst q; simp at hi
 ·obtain ⟨cs, h1, h2⟩ := hx i x hi
  exact ⟨b, o, hA, cs, h1, fun Γ hΓ => Cells.lk (hΓ _ _ hb) fun j hj => h2 j (by rw [← Rep.len h1]; exact hj)⟩
/-- xs[i], its place and its cells -/
theorem SlOk.get {α : Type} [Rep α] {h : Mem} {A : Option Addr} {c : Nat} {xs : List α} (q : SlOk h A c xs) {i : Nat} (hi : i < xs.length) :
  ∃ b o, A = some ⟨b, o, none⟩ ∧ ∃ cs, Rep.ok h xs[i] cs ∧ ∀ Γ : Ctx, Mem.le h (lk Γ) → Cells Γ b (o + i * Rep.sz α) cs := q.elem (List.getElem?_eq_getElem hi)

/-- xs[l:m] -/
theorem SlOk.slice {α : Type} [Rep α] {h : Mem} {A : Option Addr} {c : Nat} {xs : List α} (q : SlOk h A c xs) {l m : Nat} (h1 : l ≤ m) (h2 : m ≤ xs.length) :
  SlOk h (if c = l then A else A.map (·.add (l * Rep.sz α))) (c - l) ((xs.take m).drop l) := by
 have hc := q.cap
 have hlen : ((xs.take m).drop l).length = m - l := by simp; omega
 refine ⟨by omega, by have := q.max; omega, by have := q.short; omega, ?_⟩
 by_cases e : m = l
 ·left
  exact List.eq_nil_of_length_eq_zero (by omega)
 ·rcases q.at' with q' | ⟨b, o, cells, T, fr, rfl, hb, hx⟩
  ·subst q'; simp at h2; omega
  ·right
   refine ⟨b, o + l * Rep.sz α, cells, T, fr, ?_, hb, ?_⟩
   ·rw [if_neg (by omega)]
    simp [add_mk]
   ·intro i x hi
    have hi' : xs[l + i]? = some x := by
     rw [List.getElem?_drop, List.getElem?_take] at hi
     split at hi
     ·exact hi
     ·cases hi
    obtain ⟨cs, h3, h4⟩ := hx _ _ hi'
    refine ⟨cs, h3, fun j hj => ?_⟩
    rw [← h4 j hj]
    congr 1
    rw [Nat.add_mul]
    omega

/-- what is one cell -/
class Sc (α : Type) where
 enc : α → Value
 one : ∀ x, (enc x).oneCell' = true
 cells : ∀ x, cellsV (enc x) = [enc x]
instance (priority := low) {α : Type} [Sc α] : Rep α where
 sz := 1
 ok _ x cs := cs = [Sc.enc x]
 len h := by subst h; rfl
 one h := by subst h; simp [one', Sc.one]
 mono h _ := h
instance : Sc Int := ⟨fun x => .int .i64 x, fun _ => rfl, fun _ => rfl⟩
instance : Sc Bool := ⟨fun x => .bool x, fun _ => rfl, fun _ => rfl⟩
instance : Sc ByteArray := ⟨fun x => .string x, fun _ => rfl, fun _ => rfl⟩
instance {α : Type} [Rep α] : Rep (List α) where
 sz := 1
 ok h xs cs := ∃ A c, cs = [.slice A xs.length c] ∧ SlOk h A c xs
 len h := by obtain ⟨A, c, rfl, _⟩ := h; rfl
 one h := by obtain ⟨A, c, rfl, _⟩ := h; simp [one', Value.oneCell']
 mono h hh := by obtain ⟨A, c, rfl, q⟩ := h; exact ⟨A, c, rfl, q.mono hh⟩

theorem ok_sc {α : Type} [Sc α] {h : Mem} {x : α} {cs : List Value} (q : Rep.ok h x cs) : cs = [Sc.enc x] := q
theorem ok_int {h : Mem} {x : Int} {cs : List Value} (q : Rep.ok h x cs) : cs = [.int .i64 x] := q
theorem ok_bool {h : Mem} {x : Bool} {cs : List Value} (q : Rep.ok h x cs) : cs = [.bool x] := q
theorem ok_list {α : Type} [Rep α] {h : Mem} {xs : List α} {cs : List Value} (q : Rep.ok h xs cs) : ∃ A c, cs = [.slice A xs.length c] ∧ SlOk h A c xs := q
theorem SlOk.int {h : Mem} {A : Option Addr} {c : Nat} {xs : List Int} (q : SlOk h A c xs) {i : Nat} (hi : i < xs.length) :
  ∃ b o, A = some ⟨b, o, none⟩ ∧ ∀ Γ : Ctx, Mem.le h (lk Γ) → Cells Γ b (o + i) [.int .i64 xs[i]] := by
 obtain ⟨b, o, hA, cs, h1, h2⟩ := q.get hi
 obtain rfl := ok_int h1
 exact ⟨b, o, hA, fun Γ h => by simpa [Rep.sz] using h2 Γ h⟩
theorem SlOk.bool {h : Mem} {A : Option Addr} {c : Nat} {xs : List Bool} (q : SlOk h A c xs) {i : Nat} (hi : i < xs.length) :
  ∃ b o, A = some ⟨b, o, none⟩ ∧ ∀ Γ : Ctx, Mem.le h (lk Γ) → Cells Γ b (o + i) [.bool xs[i]] := by
 obtain ⟨b, o, hA, cs, h1, h2⟩ := q.get hi
 obtain rfl := ok_bool h1
 exact ⟨b, o, hA, fun Γ h => by simpa [Rep.sz] using h2 Γ h⟩
theorem SlOk.list {α : Type} [Rep α] {h : Mem} {A : Option Addr} {c : Nat} {xs : List (List α)} (q : SlOk h A c xs) {i : Nat} (hi : i < xs.length) :
  ∃ b o, A = some ⟨b, o, none⟩ ∧ ∃ A' c', SlOk h A' c' xs[i] ∧ ∀ Γ : Ctx, Mem.le h (lk Γ) → Cells Γ b (o + i) [.slice A' xs[i].length c'] := by
 obtain ⟨b, o, hA, cs, h1, h2⟩ := q.get hi
 obtain ⟨A', c', rfl, h3⟩ := ok_list h1
 exact ⟨b, o, hA, A', c', h3, fun Γ h => by simpa [Rep.sz] using h2 Γ h⟩

/-! ### what is the call's own -/
/-- an array of scalars -/
def Arr {α : Type} [Sc α] (g : PH) (b : Nat) (T : TypeId) (xs : List α) : Prop := g b = some (.cells (xs.map Sc.enc).toArray T (0, 0))
theorem zerosL_enc {α : Type} [Sc α] (z : α) : ∀ m, zerosL [Sc.enc z] m = (List.replicate m z).map Sc.enc
 | 0 => rfl
 | m + 1 => by simp [zerosL, zerosL_enc z m, List.replicate_succ]
theorem Arr.made {α : Type} [Sc α] (z : α) (b : Nat) (T : TypeId) (m : Nat) : Arr (one b (.cells (zerosL [Sc.enc z] m).toArray T)) b T (List.replicate m z) := by
 unfold Arr
 rw [one_self, zerosL_enc]
theorem Arr.slok {α : Type} [Sc α] {g : PH} {b : Nat} {T : TypeId} {xs : List α} {L : Mem} (h : Arr g b T xs) (hL : Mem.le (lk [g]) L) {c : Nat} (hc : xs.length ≤ c) (hm : c ≤ maxLen) (hs : xs.length ≤ 140737488355328) :
  SlOk L (some ⟨b, 0, none⟩) c xs := by
 refine ⟨hc, hm, hs, .inr ⟨b, 0, _, T, _, rfl, hL _ _ (lk_one.2 h), fun i x hi => ⟨[Sc.enc x], rfl, fun j hj => ?_⟩⟩⟩
 have : j = 0 := by simp [Rep.sz] at hj; exact hj
 subst this
 simp [Rep.sz, hi]
theorem Arr.cell {α : Type} [Sc α] {g : PH} {b : Nat} {T : TypeId} {xs : List α} (h : Arr g b T xs) {i : Nat} (hi : i < xs.length) {Γ : Ctx} (hg : g ∈ Γ) : Cells Γ b i [Sc.enc xs[i]] := by
 refine ⟨g, hg, _, T, _, h, fun j hj => ?_⟩
 have : j = 0 := by simp at hj; exact hj
 subst this
 simp [hi]
theorem setC_sc {α : Type} [Sc α] (xs : List α) (i : Nat) (x : α) (hi : i < xs.length) : setC (xs.map Sc.enc) i 1 (Sc.enc x) = (xs.set i x).map Sc.enc := by
 unfold setC
 rw [Sc.cells, List.map_set, List.set_eq_take_append_cons_drop]
 simp [hi]
theorem Arr.upd {α : Type} [Sc α] {g : PH} {b : Nat} {T : TypeId} {xs : List α} (h : Arr g b T xs) {i : Nat} (hi : i < xs.length) (x : α) : Arr (V.upd g b (.cells (setC (xs.map Sc.enc) i 1 (Sc.enc x)).toArray T)) b T (xs.set i x) := by
 unfold Arr
 rw [upd_self, setC_sc xs i x hi]
theorem upd_other {g : PH} {b k : Nat} {o : Obj} (h : k ≠ b) : upd g b o k = g k := by simp [upd, h]

section
variable {P : Program} {Γr : Ctx} {d : Option Nat} {r : List SOper} {φ : Fr} {Γ : Ctx} {K : Fr → Ctx → Prop}
/-- xs[i] = x -/
theorem s_storeA {α : Type} [Sc α] {g : PH} {b i ix : Nat} {T : TypeId} {xs : List α} (x : α) (hg : Γ[ix]? = some g) (h : Arr g b T xs) (hi : i < xs.length)
  (hk : ∀ g', Arr g' b T (xs.set i x) → (∀ k, k ≠ b → g' k = g k) → vcOps P Γr r φ (Γ.set ix g') K) : storeP P Γr r φ Γ K 1 b i (Sc.enc x) := by
 refine ⟨ix, g, _, T, hg, h, by simp; omega, ?_⟩
 exact hk _ (h.upd hi x) (fun k hne => upd_other hne)
/-- &x of a variable that is captured -/
theorem s_storeV {g : PH} {b ix : Nat} {T : TypeId} {n : Nat} {cs : List Value} {x : Value} (hg : Γ[ix]? = some g) (h : g b = some (.cells cs.toArray T (0, 0))) (hn : cs.length = n)
  (hx : (cellsV x).length = n) (hk : vcOps P Γr r φ (Γ.set ix (upd g b (.cells (cellsV x).toArray T))) K) : storeP P Γr r φ Γ K n b 0 x := by
 refine ⟨ix, g, _, T, hg, h, by simp [hn], ?_⟩
 have : setC cs 0 n x = cellsV x := by simp [setC, ← hn]
 simp only [List.toList_toArray, this]
 exact hk
end

/-- a list that grows: its row lies in g, what its elements lead to in L -/
def Bld {α : Type} [Rep α] (g : PH) (L : Mem) (e : TypeId) (v : Value) (xs : List α) : Prop :=
 ∃ cs, Row g e (Rep.sz α) v xs.length cs ∧ ∀ i x, xs[i]? = some x → ∃ c, Rep.ok L x c ∧ ∀ j, j < Rep.sz α → cs[i * Rep.sz α + j]? = c[j]?
theorem Bld.nil {α : Type} [Rep α] (g : PH) (L : Mem) (e : TypeId) : Bld (α := α) g L e (.slice none 0 0) [] := ⟨[], ⟨by simp, .inl ⟨rfl, none, rfl⟩⟩, by simp⟩
theorem Bld.mono {α : Type} [Rep α] {g g' : PH} {L L' : Mem} {e : TypeId} {v : Value} {xs : List α} (h : Bld g L e v xs) (hg : Mem.le (lk [g]) (lk [g'])) (hL : Mem.le L L') : Bld g' L' e v xs := by
 obtain ⟨cs, ⟨h1, h2⟩, h3⟩ := h
 refine ⟨cs, ⟨h1, ?_⟩, fun i x hi => let ⟨c, q1, q2⟩ := h3 i x hi; ⟨c, Rep.mono q1 hL, q2⟩⟩
 rcases h2 with q | ⟨b, o, cap, cur, q1, q2, q3, q4, q5⟩
 ·exact .inl q
 ·exact .inr ⟨b, o, cap, cur, q1, q2, q3, lk_one.1 (hg _ _ (lk_one.2 q4)), q5⟩
theorem Bld.val {α : Type} [Rep α] {g : PH} {L : Mem} {e : TypeId} {v : Value} {xs : List α} (h : Bld g L e v xs) : ∃ A c, v = .slice A xs.length c := by
 obtain ⟨cs, ⟨h1, h2⟩, h3⟩ := h
 rcases h2 with ⟨q0, A, q⟩ | ⟨b, o, cap, cur, q1, _⟩
 ·exact ⟨A, 0, by rw [q, q0]⟩
 ·exact ⟨_, _, q1⟩
theorem Bld.slok {α : Type} [Rep α] {g : PH} {L L' : Mem} {e : TypeId} {v : Value} {xs : List α} (h : Bld g L e v xs) (hg : Mem.le (lk [g]) L') (hL : Mem.le L L') (hs : xs.length ≤ 140737488355328) :
  ∃ A c, v = .slice A xs.length c ∧ SlOk L' A c xs := by
 obtain ⟨cs, ⟨h1, h2⟩, h3⟩ := h
 rcases h2 with ⟨q0, A, rfl⟩ | ⟨b, o, cap, cur, rfl, q2, q3, q4, q5, q6⟩
 ·have hx : xs = [] := List.eq_nil_of_length_eq_zero q0
  subst hx
  exact ⟨A, 0, rfl, by simp, by simp, by simp, .inl rfl⟩
 ·refine ⟨_, _, rfl, q2, q3, hs, .inr ⟨b, o, cur, e, _, rfl, hg _ _ (lk_one.2 q4), fun i x hi => ?_⟩⟩
  obtain ⟨c, r1, r2⟩ := h3 i x hi
  refine ⟨c, Rep.mono r1 hL, fun j hj => ?_⟩
  rw [← r2 j hj, ← q6, List.getElem?_take, List.getElem?_drop]
  have hlt : i < xs.length := (List.getElem?_eq_some_iff.1 hi).1
  rw [if_pos]
  ·simp [Nat.add_assoc]
  ·calc i * Rep.sz α + j < i * Rep.sz α + Rep.sz α := by omega
    _ = (i + 1) * Rep.sz α := by rw [Nat.add_mul, Nat.one_mul]
    _ ≤ xs.length * Rep.sz α := Nat.mul_le_mul_right _ hlt
theorem Bld.snoc {α : Type} [Rep α] {g g' : PH} {L L' : Mem} {e : TypeId} {v v' : Value} {xs ys : List α} {cs ds : List Value} (h1 : Row g e (Rep.sz α) v xs.length cs) (h3 : ∀ i x, xs[i]? = some x → ∃ c, Rep.ok L x c ∧ ∀ j, j < Rep.sz α → cs[i * Rep.sz α + j]? = c[j]?)
  (h4 : ∀ i x, ys[i]? = some x → ∃ c, Rep.ok L' x c ∧ ∀ j, j < Rep.sz α → ds[i * Rep.sz α + j]? = c[j]?) (hL : Mem.le L L') (hr : Row g' e (Rep.sz α) v' (xs.length + ys.length) (cs ++ ds)) : Bld g' L' e v' (xs ++ ys) := by
 refine ⟨cs ++ ds, by rw [List.length_append]; exact hr, fun i x hi => ?_⟩
 have hl := h1.1
 by_cases hlt : i < xs.length
 ·rw [List.getElem?_append_left hlt] at hi
  obtain ⟨c, q1, q2⟩ := h3 i x hi
  refine ⟨c, Rep.mono q1 hL, fun j hj => ?_⟩
  rw [← q2 j hj, List.getElem?_append_left]
  rw [hl]
  calc i * Rep.sz α + j < i * Rep.sz α + Rep.sz α := by omega
    _ = (i + 1) * Rep.sz α := by rw [Nat.add_mul, Nat.one_mul]
    _ ≤ xs.length * Rep.sz α := Nat.mul_le_mul_right _ hlt
 ·rw [List.getElem?_append_right (by omega)] at hi
  obtain ⟨c, q1, q2⟩ := h4 _ x hi
  refine ⟨c, q1, fun j hj => ?_⟩
  have hge : xs.length * Rep.sz α ≤ i * Rep.sz α := Nat.mul_le_mul_right _ (by omega)
  rw [← q2 j hj, List.getElem?_append_right (by rw [hl]; omega), hl, Nat.sub_mul]
  congr 1
  omega
section
variable {P : Program} {Γr : Ctx} {d : Option Nat} {r : List SOper} {φ : Fr} {Γ : Ctx} {K : Fr → Ctx → Prop}
/-- xs = append(xs, x): x's cells lie at the begin of a block -/
theorem s_app1 {α : Type} [Rep α] {g : PH} {ix : Nat} {L L' : Mem} {t e : TypeId} {sz bytes : Nat} {z : Value} {v : Value} {xs : List α} {x : α} {b c : Nat} {cs : List Value}
  (hg : Γ[ix]? = some g) (h : Bld g L e v xs) (hL : Mem.le L L') (hx : Rep.ok L' x cs) (hc : Cells (Γ ++ Γr) b 0 cs) (hsz : sz = Rep.sz α) (hby : (xs.length + 1) * bytes ≤ 140737488355328) (hm : xs.length + 1 ≤ maxLen)
  (hk : ∀ v' g', Bld g' L' e v' (xs ++ [x]) → KeptBut v v' g g' → vcOps P Γr r (put φ d (.v true v')) (Γ.set ix g') K) :
  appendC P Γr d r φ Γ K t e sz bytes z (true, v) (true, .slice (some ⟨b, 0, none⟩) 1 c) := by
 obtain ⟨ds, h1, h3⟩ := h
 subst hsz
 refine ⟨rfl, rfl, ix, g, xs.length, ds, cs, hg, h1, by rw [Rep.len hx]; simp, Rep.one hx, .inr ⟨b, 0, rfl, hc⟩, hby, hm, fun v' g' hr _ hkp => hk v' g' ?_ hkp⟩
 refine Bld.snoc h1 h3 (fun i y hi => ?_) hL hr
 cases i with
 | zero => simp at hi; subst hi; exact ⟨cs, hx, fun j hj => by simp⟩
 | succ i => simp at hi
/-- xs = append(xs, ys...) -/
theorem s_appL {α : Type} [Rep α] {g : PH} {ix : Nat} {L L' L2 : Mem} {t e : TypeId} {sz bytes : Nat} {z : Value} {v : Value} {xs ys : List α} {A : Option Addr} {c : Nat}
  (hg : Γ[ix]? = some g) (h : Bld g L e v xs) (hL : Mem.le L L') (hy : SlOk L2 A c ys) (h2 : Mem.le L2 (lk (Γ ++ Γr))) (h2' : Mem.le L2 L') (hsz : sz = Rep.sz α) (hby : (xs.length + ys.length) * bytes ≤ 140737488355328) (hm : xs.length + ys.length ≤ maxLen)
  (hk : ∀ v' g', Bld g' L' e v' (xs ++ ys) → KeptBut v v' g g' → vcOps P Γr r (put φ d (.v true v')) (Γ.set ix g') K) :
  appendC P Γr d r φ Γ K t e sz bytes z (true, v) (true, .slice A ys.length c) := by
 obtain ⟨ds, h1, h3⟩ := h
 subst hsz
 rcases hy.at' with rfl | ⟨b, o, cells, T, fr, rfl, hb, hx⟩
 ·refine ⟨rfl, rfl, ix, g, xs.length, ds, [], hg, h1, by simp, by simp [one'], .inl rfl, hby, hm, fun v' g' hr _ hkp => hk v' g' ?_ hkp⟩
  exact Bld.snoc h1 h3 (by simp) hL hr
 ·let cs := (List.range (ys.length * Rep.sz α)).map fun k => (cells[o + k]?).getD undef
  have hcell : ∀ i y, ys[i]? = some y → ∃ c, Rep.ok L2 y c ∧ ∀ j, j < Rep.sz α → cs[i * Rep.sz α + j]? = c[j]? := by
   intro i y hi
   obtain ⟨c', q1, q2⟩ := hx i y hi
   refine ⟨c', q1, fun j hj => ?_⟩
   have hlt : i < ys.length := (List.getElem?_eq_some_iff.1 hi).1
   have hin : i * Rep.sz α + j < ys.length * Rep.sz α := by
    calc i * Rep.sz α + j < i * Rep.sz α + Rep.sz α := by omega
     _ = (i + 1) * Rep.sz α := by rw [Nat.add_mul, Nat.one_mul]
     _ ≤ ys.length * Rep.sz α := Nat.mul_le_mul_right _ hlt
   have := q2 j hj
   have hj' : j < c'.length := by rw [Rep.len q1]; exact hj
   rw [List.getElem?_eq_getElem hj'] at this ⊢
   simp only [cs]
   rw [List.getElem?_map, List.getElem?_range hin]
   simp only [Option.map_some, ← Nat.add_assoc, this, Option.getD_some]
  have hdiv : ∀ k, k < ys.length * Rep.sz α → ∃ i y, ys[i]? = some y ∧ ∃ j, j < Rep.sz α ∧ k = i * Rep.sz α + j := by
   intro k hk'
   have hpos : 0 < Rep.sz α := by
    rcases Nat.eq_zero_or_pos (Rep.sz α) with q | q
    ·rw [q] at hk'; simp at hk'
    ·exact q
   refine ⟨k / Rep.sz α, ys[k / Rep.sz α]'(Nat.div_lt_of_lt_mul (by rw [Nat.mul_comm]; exact hk')), List.getElem?_eq_getElem _, k % Rep.sz α, Nat.mod_lt _ hpos, ?_⟩
   rw [Nat.mul_comm]
   exact (Nat.div_add_mod k (Rep.sz α)).symm
  refine ⟨rfl, rfl, ix, g, xs.length, ds, cs, hg, h1, by simp [cs], fun u hu => ?_, .inr ⟨b, o, rfl, Cells.lk (h2 _ _ hb) fun k hk' => ?_⟩, hby, hm, fun v' g' hr _ hkp => hk v' g' ?_ hkp⟩
  ·obtain ⟨k, hk', rfl⟩ := List.mem_map.1 hu
   obtain ⟨i, y, hi, j, hj, rfl⟩ := hdiv k (by simpa using hk')
   obtain ⟨c', q1, q2⟩ := hx i y hi
   rw [← Nat.add_assoc, q2 j hj]
   have hj' : j < c'.length := by rw [Rep.len q1]; exact hj
   rw [List.getElem?_eq_getElem hj']
   exact Rep.one q1 _ (List.getElem_mem hj')
  ·have hk2 : k < ys.length * Rep.sz α := by simpa [cs] using hk'
   obtain ⟨i, y, hi, j, hj, rfl⟩ := hdiv k hk2
   obtain ⟨c', q1, q2⟩ := hx i y hi
   obtain ⟨c2, q3, q4⟩ := hcell i y hi
   have hj' : j < c'.length := by rw [Rep.len q1]; exact hj
   have e1 : cells[o + (i * Rep.sz α + j)]? = some c'[j] := by rw [← Nat.add_assoc, q2 j hj, List.getElem?_eq_getElem hj']
   simp only [cs]
   rw [List.getElem?_map, List.getElem?_range hk2]
   simp [e1]
  ·exact Bld.snoc h1 h3 (fun i y hi => let ⟨c', q1, q2⟩ := hcell i y hi; ⟨c', Rep.mono q1 h2', q2⟩) hL hr
end

/-- v0 was the row v earlier -/
structure Snap {α : Type} [Rep α] (g : PH) (L : Mem) (e : TypeId) (v0 v : Value) (xs0 xs : List α) : Prop where
 old : Bld g L e v0 xs0
 len : xs0.length ≤ xs.length
 same : ∀ b, rowBlk v0 = some b → rowBlk v = some b → ∃ A n0 n c, v0 = .slice A n0 c ∧ v = .slice A n c
theorem Snap.refl {α : Type} [Rep α] {g : PH} {L : Mem} {e : TypeId} {v : Value} {xs : List α} (h : Bld g L e v xs) : Snap g L e v v xs xs :=
 ⟨h, Nat.le_refl _, fun b _ _ => by obtain ⟨A, c, rfl⟩ := h.val; exact ⟨A, _, _, c, rfl, rfl⟩⟩
/-! parts of a row -/
theorem Bld.take {α : Type} [Rep α] {g : PH} {L : Mem} {e : TypeId} {A : Option Addr} {n c : Nat} {xs : List α} (h : Bld g L e (.slice A n c) xs) {k : Nat} (hk : k ≤ xs.length) : Bld g L e (.slice A k c) (xs.take k) := by
 obtain ⟨cs, ⟨h1, h2⟩, h3⟩ := h
 have hkl : k * Rep.sz α ≤ xs.length * Rep.sz α := Nat.mul_le_mul_right _ hk
 have hl : (xs.take k).length = k := by simp; omega
 refine ⟨cs.take (k * Rep.sz α), ⟨by rw [List.length_take, h1, hl]; omega, ?_⟩, fun i x hi => ?_⟩
 ·rcases h2 with ⟨q0, A', q⟩ | ⟨b, o, cap, cur, q1, q2, q3, q4, q5, q6⟩
  ·left
   simp only [Value.slice.injEq] at q
   obtain ⟨rfl, rfl, rfl⟩ := q
   have : k = 0 := by omega
   subst this
   exact ⟨by simp, _, rfl⟩
  ·right
   simp only [Value.slice.injEq] at q1
   obtain ⟨rfl, rfl, rfl⟩ := q1
   have hl : (xs.take k).length = k := by simp; omega
   rw [hl]
   refine ⟨b, o, cap, cur, rfl, by omega, q3, q4, q5, ?_⟩
   rw [← q6, List.take_take, Nat.min_eq_left hkl]
 ·rw [List.getElem?_take] at hi
  split at hi
  ·rename_i hlt
   obtain ⟨c', r1, r2⟩ := h3 i x hi
   refine ⟨c', r1, fun j hj => ?_⟩
   rw [← r2 j hj, List.getElem?_take, if_pos]
   calc i * Rep.sz α + j < i * Rep.sz α + Rep.sz α := by omega
    _ = (i + 1) * Rep.sz α := by rw [Nat.add_mul, Nat.one_mul]
    _ ≤ k * Rep.sz α := Nat.mul_le_mul_right _ hlt
  ·cases hi
section
variable {P : Program} {Γr : Ctx} {d : Option Nat} {r : List SOper} {φ : Fr} {Γ : Ctx} {K : Fr → Ctx → Prop}
/-- xs[:h] -/
theorem s_hi {sz n cap : Nat} {A : Option Addr} {hi : Operand} (h : Nat) (hb : bnd φ (some hi) h n) (hc : h ≤ cap) (hk : vcOps P Γr r (put φ d (.v true (.slice A h cap))) Γ K) :
  slcC P Γr true d r φ Γ K sz none (some hi) (true, .slice A n cap) := by
 refine s_slice 0 h rfl hb (by omega) hc ?_
 have : (if cap = 0 then A else A.map (·.add (0 * sz))) = A := by
  split
  ·rfl
  ·cases A <;> simp [Addr.add]
 rw [this]
 simpa using hk
/-- xs[l:] -/
theorem s_lo {sz n cap : Nat} {A : Option Addr} {lo : Operand} (l : Nat) (hb : bnd φ (some lo) l 0) (hl : l ≤ n) (hc : n ≤ cap) (hk : ∀ A', A' = (if cap = l then A else A.map (·.add (l * sz))) → vcOps P Γr r (put φ d (.v true (.slice A' (n - l) (cap - l)))) Γ K) :
  slcC P Γr true d r φ Γ K sz (some lo) none (true, .slice A n cap) := s_slice l n hb rfl hl hc (hk _ rfl)
/-- xs = append(xs, ys...), of scalars -/
theorem s_appS {α : Type} [Sc α] {g : PH} {ix : Nat} {L L2 : Mem} {t e : TypeId} {sz bytes : Nat} {z : Value} {v : Value} {xs ys : List α} {A : Option Addr} {c n : Nat}
  (hg : Γ[ix]? = some g) (h : Bld g L e v xs) (hy : SlOk L2 A c ys) (hn : n = ys.length) (h2 : Mem.le L2 (lk (Γ ++ Γr))) (hsz : sz = 1) (hby : (xs.length + ys.length) * bytes ≤ 140737488355328) (hm : xs.length + ys.length ≤ maxLen)
  (hk : ∀ v' g', Bld g' L e v' (xs ++ ys) → KeptBut v v' g g' → vcOps P Γr r (put φ d (.v true v')) (Γ.set ix g') K) :
  appendC P Γr d r φ Γ K t e sz bytes z (true, v) (true, .slice A n c) := by
 subst hn
 have any : ∀ {L1 L2 : Mem} {g : PH} {v : Value} {zs : List α}, Bld g L1 e v zs → Bld g L2 e v zs := fun ⟨cs, h1, h3⟩ => ⟨cs, h1, fun i x hi => let ⟨c, q1, q2⟩ := h3 i x hi; ⟨c, ok_sc q1 ▸ rfl, q2⟩⟩
 exact s_appL (L' := fun _ _ => True) hg h (fun _ _ _ => trivial) hy h2 (fun _ _ _ => trivial) hsz hby hm (fun v' g' hB hkp => hk v' g' (any hB) hkp)
/-- xs = append(xs, x), of scalars -/
theorem s_app1S {α : Type} [Sc α] {g : PH} {ix : Nat} {L : Mem} {t e : TypeId} {sz bytes : Nat} {z : Value} {v : Value} {xs : List α} {b c : Nat} (x : α)
  (hg : Γ[ix]? = some g) (h : Bld g L e v xs) (hc : Cells (Γ ++ Γr) b 0 [Sc.enc x]) (hsz : sz = 1) (hby : (xs.length + 1) * bytes ≤ 140737488355328) (hm : xs.length + 1 ≤ maxLen)
  (hk : ∀ v' g', Bld g' L e v' (xs ++ [x]) → KeptBut v v' g g' → vcOps P Γr r (put φ d (.v true v')) (Γ.set ix g') K) :
  appendC P Γr d r φ Γ K t e sz bytes z (true, v) (true, .slice (some ⟨b, 0, none⟩) 1 c) := s_app1 hg h (Mem.le.refl _) (x := x) rfl hc hsz hby hm hk
theorem cells_one {b : Nat} {T : TypeId} {cs : List Value} {Γ : Ctx} : Cells (one b (.cells cs.toArray T) :: Γ) b 0 cs := ⟨_, List.mem_cons_self .., cs.toArray, T, _, one_self _ _, fun j hj => by simp⟩
end
theorem SlOk.drop {α : Type} [Rep α] {h : Mem} {A : Option Addr} {c : Nat} {xs : List α} (q : SlOk h A c xs) {l : Nat} (hl : l ≤ xs.length) :
  SlOk h (if c = l then A else A.map (·.add (l * Rep.sz α))) (c - l) (xs.drop l) := by
 have := q.slice hl (Nat.le_refl _)
 rwa [List.take_length] at this
theorem Row.len {g : PH} {e : TypeId} {sz : Nat} {v : Value} {n : Nat} {xs : List Value} (h : Row g e sz v n xs) : ∃ A c, v = .slice A n c ∧ n ≤ c := by
 rcases h.2 with ⟨q0, A, q⟩ | ⟨b, o, cap, cur, q1, q2, _⟩
 ·exact ⟨A, 0, by rw [q, q0], by omega⟩
 ·exact ⟨_, _, q1, q2⟩

section
variable {P : Program} {Γr : Ctx} {d : Option Nat} {r : List SOper} {φ : Fr} {Γ : Ctx} {K : Fr → Ctx → Prop}
end
theorem qr_cap {P : Program} {Γ : Ctx} {t e : TypeId} {n c : Nat} {A : Option Addr} (ht : P.underlying t = some (.slice e)) : QR P (.bi 0 [t]) [.slice A n c] Γ (.int .i64 c) := by
 intro w _
 simp [qsem, Builtin.cap_, run_underlying ht, goInt]
theorem SlOk.ofNone {α : Type} [Rep α] {h : Mem} {c : Nat} {xs : List α} (q : SlOk h none c xs) : xs = [] := by
 rcases q.at' with q | ⟨b, o, _, _, _, q, _⟩
 ·exact q
 ·cases q
theorem cells_lk {Γ : Ctx} {b : Nat} {T : TypeId} {fr : Nat × Nat} {cs : List Value} (h : lk Γ b (.cells cs.toArray T fr)) : Cells Γ b 0 cs := Cells.lk h fun j hj => by simp
theorem lk_r (Γ Γr : Ctx) : Mem.le (lk Γr) (lk (Γ ++ Γr)) := lk_sub fun g hg => by simp [hg]
theorem lk_l (Γ Γr : Ctx) : Mem.le (lk Γ) (lk (Γ ++ Γr)) := lk_sub fun g hg => by simp [hg]
theorem SlOk.r {α : Type} [Rep α] {Γ Γr : Ctx} {A : Option Addr} {c : Nat} {xs : List α} (h : SlOk (lk Γr) A c xs) : SlOk (lk (Γ ++ Γr)) A c xs := h.mono (lk_r _ _)
/-! numbers -/
theorem wrap_id {x : Int} (h0 : -9223372036854775808 ≤ x) (h1 : x ≤ 9223372036854775807) : IntKind.i64.wrap x = x := by
 rw [IntKind.wrap_i64]; omega
end Go.Proofs.Ytiipiapfnedfjaa.V
/- From the reading of arguments to typed data, and from a contract to a row; no condition. -/
namespace Go.Proofs.Ytiipiapfnedfjaa.V
open Go Go.ChangeShapes Go.RowKit
set_option linter.unusedVariables false

/-- the whole memory as one heap -/
def phOf (w : World) : PH := fun k => w.heap[k]?
theorem sat_phOf (w : World) : Sat [phOf w] w := ⟨by intro h hh; simp at hh; subst hh; exact fun _ _ e => e, by simp⟩

theorem bulk_mem {H : Type} {d : DataW H} {l : List (DataW H)} (h : d ∈ l) : Rows.uptoBulk d ≤ Rows.uptoBulkAll l := by
 induction l with
 | nil => cases h
 | cons x r ih =>
  simp only [Rows.uptoBulkAll]
  cases List.mem_cons.1 h with
  | inl e => subst e; omega
  | inr e => have := ih e; omega

/-- how much there is of it -/
class Meas (α : Type) where
 meas : α → Nat
open Meas (meas)
def measL {α : Type} [Meas α] : List α → Nat
 | [] => 0
 | x :: r => meas x + measL r
instance : Meas Int := ⟨fun _ => 1⟩
instance : Meas Bool := ⟨fun _ => 1⟩
instance : Meas ByteArray := ⟨fun s => s.size + 1⟩
instance {α : Type} [Meas α] : Meas (List α) := ⟨fun l => measL l + 1⟩

/-- what is read as of type t is an α -/
def Reads (P : Program) (α : Type) [Rep α] [Meas α] (t : TypeId) : Prop :=
 ∀ (H : Type) (enc : TypeId × Value → H) (w : World) (fuel : Nat) (cs : List Value) (x : DataW H × List MemPlace),
  DataW.trod enc P w 0 (fun _ => true) true fuel t cs = some x → Rows.uptoBulk x.1 ≤ 1048576 → ∃ a : α, Rep.ok (lk [phOf w]) a cs ∧ meas a ≤ Rows.uptoBulk x.1

theorem wf_i64 {n : Int} (h : (Lit.int .i64 n).wf = true) : -9223372036854775808 ≤ n ∧ n ≤ 9223372036854775807 := by
 simpa [Lit.wf, IntKind.min, IntKind.max, IntKind.signed, IntKind.bits] using h

theorem reads_bool {P : Program} {t : TypeId} (ht : P.underlying t = some .bool) : Reads P Bool t := by
 intro H enc w fuel cs x hx _
 obtain ⟨b, rfl, rfl⟩ := DataW.trod_bool ht hx
 exact ⟨b, rfl, by simp [meas, Rows.uptoBulk]⟩
theorem reads_int {P : Program} {t : TypeId} (ht : P.underlying t = some (.int .i64)) : Reads P Int t := by
 intro H enc w fuel cs x hx _
 obtain ⟨n, rfl, rfl, hw⟩ := DataW.trod_int ht hx
 exact ⟨n, rfl, by simp [meas, Rows.uptoBulk]⟩
theorem reads_string {P : Program} {t : TypeId} (ht : P.underlying t = some .string) : Reads P ByteArray t := by
 intro H enc w fuel cs x hx _
 obtain ⟨n, rfl, rfl, hw⟩ := DataW.trod_string ht hx
 exact ⟨n, rfl, by show n.size + 1 ≤ _; simp only [Rows.uptoBulk, Array.length_toList]; exact Nat.le_refl _⟩

theorem exists_list {α : Type} (p : Nat → α → Prop) : ∀ n, (∀ i, i < n → ∃ a, p i a) → ∃ l : List α, l.length = n ∧ ∀ i a, l[i]? = some a → p i a
 | 0, _ => ⟨[], rfl, by simp⟩
 | n + 1, h => by
  obtain ⟨l, hl, hp⟩ := exists_list p n (fun i hi => h i (by omega))
  obtain ⟨a, ha⟩ := h n (by omega)
  refine ⟨l ++ [a], by simp [hl], fun i b hb => ?_⟩
  by_cases hi : i < n
  ·rw [List.getElem?_append_left (by omega)] at hb
   exact hp i b hb
  ·have : i = n := by
    have := (List.getElem?_eq_some_iff.1 hb).1
    simp at this
    omega
   subst this
   rw [List.getElem?_append_right (by omega), hl] at hb
   simp at hb
   subst hb
   exact ha
theorem measL_le {α H : Type} [Meas α] : ∀ (l : List α) (ys : List (DataW H)), l.length = ys.length → (∀ (i : Nat) (a : α) (y : DataW H), l[i]? = some a → ys[i]? = some y → meas a ≤ Rows.uptoBulk y) → measL l ≤ Rows.uptoBulkAll ys
 | [], _, _, _ => by simp [measL]
 | a :: l, [], h, _ => by simp at h
 | a :: l, y :: ys, h, k => by
  have h1 := measL_le l ys (by simpa using h) (fun i b z hb hz => k (i + 1) b z (by simpa using hb) (by simpa using hz))
  have h2 := k 0 a y rfl rfl
  simp only [measL, Rows.uptoBulkAll]
  omega
theorem one_le_bulk {H : Type} (d : DataW H) : 1 ≤ Rows.uptoBulk d := by
 cases d with
 | lit l => cases l <;> simp [Rows.uptoBulk]
 | _ => simp [Rows.uptoBulk]
theorem len_le_bulk {H : Type} : ∀ (l : List (DataW H)), l.length ≤ Rows.uptoBulkAll l
 | [] => by simp
 | x :: r => by have := one_le_bulk x; have := len_le_bulk r; simp only [Rows.uptoBulkAll, List.length_cons]; omega

theorem reads_list {P : Program} {t e : TypeId} {α : Type} [Rep α] [Meas α] (ht : P.underlying t = some (.slice e)) (hc : P.cellsOf e = Rep.sz α) (hpos : 0 < Rep.sz α) (he : Reads P α e) : Reads P (List α) t := by
 intro H enc w fuel cs x hx hbulk
 rcases DataW.trod_slice ht hx with ⟨rfl, rfl⟩ | ⟨a, len, cap, elems, rest, n, _, rfl, rfl, hb, hl, hm, hlen, hel, hsp, hns⟩
 ·exact ⟨[], ⟨none, 0, rfl, by simp, by simp, by simp, .inl rfl⟩, by simp [meas, measL, Rows.uptoBulk]⟩
 simp only [Rows.uptoBulk] at hbulk
 have key : ∀ i, i < len → ∃ a' : α, ∃ y cs', elems[i]? = some y ∧ w.cells? 0 (a.add (i * P.cellsOf e)) (P.cellsOf e) = some cs' ∧ Rep.ok (lk [phOf w]) a' cs' ∧ meas a' ≤ Rows.uptoBulk y.1 := by
  intro i hi
  have h1 := hel i hi
  rw [List.getElem?_eq_getElem (by omega), Option.bind_eq_some_iff] at h1
  obtain ⟨cs', hcs, hy⟩ := h1
  obtain ⟨a', h2, h3⟩ := he H enc w n cs' _ hy (by
   have : Rows.uptoBulk (elems[i]'(by omega)).1 ≤ Rows.uptoBulkAll (elems.map (·.1)) := bulk_mem (List.mem_map.2 ⟨_, List.getElem_mem _, rfl⟩)
   omega)
  exact ⟨a', _, cs', List.getElem?_eq_getElem (by omega), hcs, h2, h3⟩
 obtain ⟨xs, hxl, hxs⟩ := exists_list _ len key
 have hle := len_le_bulk (elems.map (·.1))
 simp only [List.length_map] at hle
 refine ⟨xs, ⟨some a, cap, by rw [hxl], by omega, hm, by omega, ?_⟩, ?_⟩
 ·by_cases h0 : len = 0
  ·left
   exact List.eq_nil_of_length_eq_zero (by omega)
  right
  obtain ⟨a0, y0, cs0, _, hcs0, _, _⟩ := key 0 (by omega)
  have hcell : w.cell? a ≠ none := by
   have h1 := (World.cells?_some hcs0).2.2 0 (by omega)
   have h2 := (World.cells?_some hcs0).2.1
   simp only [Nat.zero_mul, Addr.add, if_true] at h1
   rw [h1, List.getElem?_eq_getElem (by omega)]
   simp
  obtain ⟨b, o, sp⟩ := a
  simp only [World.cell?] at hcell
  split at hcell
  ·rename_i c T fr hheap
   cases sp with
   | some s => simp at hcell
   | none =>
    refine ⟨b, o, c, T, fr, rfl, lk_one.2 hheap, fun i x hi => ?_⟩
    obtain ⟨y, cs', _, hcs, hok, _⟩ := hxs i x hi
    refine ⟨cs', hok, fun j hj => ?_⟩
    have h1 := (World.cells?_some hcs).2.2 j (by omega)
    rw [← h1, hc]
    have e : ((⟨b, o, none⟩ : Addr).add (i * Rep.sz α)).add j = ⟨b, o + i * Rep.sz α + j, none⟩ := by
     unfold Addr.add
     split <;> split <;> simp_all
    rw [e]
    simp [World.cell?, hheap]
  ·exact absurd rfl hcell
 ·have : measL xs ≤ Rows.uptoBulkAll (elems.map (·.1)) := measL_le _ _ (by simp; omega) (fun i a' y h1 h2 => by
   obtain ⟨z, _, hz, _, _, hm⟩ := hxs i a' h1
   rw [List.getElem?_map, hz] at h2
   simp at h2
   subst h2
   exact hm)
  simp only [meas, Rows.uptoBulk]
  omega

/-- how an argument of basic kind or a slice is handed over: one cell -/
theorem reads_arg {P : Program} {t : TypeId} {α : Type} [Rep α] [Meas α] (h : Reads P α t) {H : Type} {enc : TypeId × Value → H} {w : World} {v : Value} {d : DataW H} {p : List MemPlace}
  (hd : DataW.Trod enc P w 0 (fun _ => true) true t v d p) (hb : Rows.uptoBulk d ≤ 1048576) : ∃ a : α, Rep.ok (lk [phOf w]) a v.cells.toList ∧ meas a ≤ Rows.uptoBulk d := by
 obtain ⟨fuel, hf⟩ := hd
 exact h H enc w fuel _ _ hf hb

theorem arg_int {P : Program} {t : TypeId} (ht : P.underlying t = some (.int .i64)) {r : Reach} {b0 : Nat} {w : World} {v : Value} {H : Type} {enc : TypeId × Value → H} {d : DataW H} {p : List MemPlace}
  (hval : Value.okWide P w r b0 t v) (hd : DataW.Trod enc P w 0 (fun _ => true) true t v d p) : ∃ n : Int, v = .int .i64 n ∧ -9223372036854775808 ≤ n ∧ n ≤ 9223372036854775807 := by
 obtain ⟨n, rfl, _, _, hw⟩ := open_int ht hval hd
 exact ⟨n, rfl, wf_i64 hw⟩
theorem arg_list {P : Program} {t e : TypeId} {α : Type} [Rep α] [Meas α] (ht : P.underlying t = some (.slice e)) (hr : Reads P (List α) t) {r : Reach} {b0 : Nat} {w : World} {v : Value} {H : Type} {enc : TypeId × Value → H} {d : DataW H} {p : List MemPlace}
  (hval : Value.okWide P w r b0 t v) (hd : DataW.Trod enc P w 0 (fun _ => true) true t v d p) (hb : Rows.uptoBulk d ≤ 1048576) :
  ∃ (xs : List α) (A : Option Addr) (c : Nat), v = .slice A xs.length c ∧ SlOk (lk [phOf w]) A c xs ∧ meas xs ≤ Rows.uptoBulk d := by
 obtain ⟨xs, ⟨A, c, he, hs⟩, hm⟩ := reads_arg hr hd hb
 refine ⟨xs, A, c, ?_, hs, hm⟩
 simp only [Value.okWide, ht, Cell.okWide, Cell.ok] at hval
 cases v <;> simp_all [Value.cells]
theorem arg_string {P : Program} {t : TypeId} (ht : P.underlying t = some .string) {r : Reach} {b0 : Nat} {w : World} {v : Value} {H : Type} {enc : TypeId × Value → H} {d : DataW H} {p : List MemPlace}
  (hval : Value.okWide P w r b0 t v) (hd : DataW.Trod enc P w 0 (fun _ => true) true t v d p) (hb : Rows.uptoBulk d ≤ 1048576) :
  ∃ s : ByteArray, v = .string s ∧ meas s ≤ Rows.uptoBulk d := by
 obtain ⟨s, he, hm⟩ := reads_arg (reads_string ht) hd hb
 have he : v.cells.toList = [.string s] := he
 refine ⟨s, ?_, hm⟩
 simp only [Value.okWide, ht, Cell.okWide, Cell.ok] at hval
 cases v <;> simp_all [Value.cells]
theorem arg_agg {P : Program} {t : TypeId} {fs : Array Field} {α : Type} [Rep α] [Meas α] (ht : P.underlying t = some (.struct fs)) (hr : Reads P α t) {r : Reach} {b0 : Nat} {w : World} {v : Value} {H : Type} {enc : TypeId × Value → H} {d : DataW H} {p : List MemPlace}
  (hval : Value.okWide P w r b0 t v) (hd : DataW.Trod enc P w 0 (fun _ => true) true t v d p) (hb : Rows.uptoBulk d ≤ 1048576) :
  ∃ (x : α) (cs : List Value), v = .agg cs.toArray ∧ Rep.ok (lk [phOf w]) x cs ∧ meas x ≤ Rows.uptoBulk d := by
 obtain ⟨x, hx, hm⟩ := reads_arg hr hd hb
 simp only [Value.okWide, ht] at hval
 obtain ⟨cs, rfl, _, _⟩ := hval
 exact ⟨x, cs.toList, by simp, by simpa [Value.cells] using hx, hm⟩

/-- the arguments read, after it, as they did -/
theorem trodAll_below {H : Type} {enc : TypeId × Value → H} {P : Program} (hl : laidOutB P = true) {W W' : World} (hb : Below W.heap.size W W') (sp : Nat → Bool) :
  ∀ (ts : List TypeId) (vs : List Value) (ds : List (DataW H)) (ps : List MemPlace), (∀ t ∈ ts, P.readableRec t = true ∧ t < P.types.size) → (∀ x ∈ ps, x.block < W.heap.size) → (∀ x ∈ ps, sp x.block = true) →
   DataW.TrodAll enc P W 0 (fun _ => true) true ts vs ds ps → DataW.TrodAll enc P W' 0 sp true ts vs ds ps
 | [], [], [], ps, _, _, _, h => h
 | t :: ts, v :: vs, d :: ds, ps, ht, hp, hs, ⟨p, q, h1, h2, e⟩ => by
  subst e
  exact ⟨p, q, WideElems.Trod_stays hl (ht t (by simp)).1 (ht t (by simp)).2 h1 (fun x hx => hb.same (hp x (by simp [hx]))) (fun x hx => hs x (by simp [hx])),
   trodAll_below hl hb sp ts vs ds q (fun u hu => ht u (by simp [hu])) (fun x hx => hp x (by simp [hx])) (fun x hx => hs x (by simp [hx])) h2, rfl⟩
 | [], [], _ :: _, _, _, _, _, h => h.elim
 | [], _ :: _, _, _, _, _, _, h => by cases h
 | _ :: _, [], _, _, _, _, _, h => by cases h
 | _ :: _, _ :: _, [], _, _, _, _, h => by cases h

theorem below_of_done {w w' : World} {Γ' : Ctx} (h : Done [phOf w] [] Γ' w w') : Below w.heap.size w w' :=
 ⟨h.os, h.tape.1, h.output, h.size, fun k hk => h.same k hk (by simp)⟩

theorem trodAll_len {H : Type} {enc : TypeId × Value → H} {P : Program} {w : World} {sp : Nat → Bool} : ∀ (ts : List TypeId) (vs : List Value) (ds : List (DataW H)) (ps : List MemPlace),
  DataW.TrodAll enc P w 0 sp true ts vs ds ps → ds.length = ts.length
 | [], [], [], ps, h => rfl
 | t :: ts, v :: vs, d :: ds, ps, ⟨p, q, h1, h2, e⟩ => by simp [trodAll_len ts vs ds q h2]
 | [], [], _ :: _, _, h => h.elim
 | [], _ :: _, _, _, h => by cases h
 | _ :: _, [], _, _, h => by cases h
 | _ :: _, _ :: _, [], _, h => by cases h

/-- A LAW's CONTRACT: called where the arguments so read, it answers true and makes only new memory. -/
theorem law_contract {P : Program} {f : FuncId} {fn : Func} {s : ChangeSpec} (hl : laidOutB P = true) (hvars : s.vars = [])
  (hs : ∀ (H : Type) (ds : List (DataW H)), ds.length = fn.params.toList.length → s.fn H ds = { results := [.lit (.bool true)], args := ds })
  (hts : ∀ t ∈ fn.params.toList, P.readableRec t = true ∧ t < P.types.size) {tb : TypeId} (hres : fn.resultTypes = #[tb]) (htb : P.underlying tb = some .bool)
  {H : Type} {enc : TypeId × Value → H} {W : World} {args : Array Value} {ds gs : List (DataW H)} {before : List MemPlace} {apart fresh handsOn again : Bool}
  (hW : DataW.Whole enc P fn.params.toList s.vars apart W args.toList ds gs before)
  (hr : Ret P f args.toList [phOf W] [] (fun v Γ => Γ = [] ∧ v = .bool true)) :
  Calls P f args W fun e W' => ∃ v, e = .returned v ∧ s.post enc P fn apart fresh handsOn again W args v W' := by
 have hlt := hW.lt
 have hW' := hW
 obtain ⟨p, q, hA, hV, hpq, hfz, hnd⟩ := hW
 rw [hvars] at hV
 obtain ⟨rfl, rfl⟩ := trodVars_none hV
 have hlen := trodAll_len _ _ _ _ hA
 have hsp := hs H ds hlen
 have hbef : before = p := by simp [hpq]
 subst hbef
 have hc := hr.calls W (by simpa using sat_phOf W)
 refine hc.mono fun e W' ⟨v, Γ', he, ⟨hΓ, hv⟩, hd⟩ => ?_
 subst he hv hΓ
 have hb := below_of_done hd
 have r1 : ∀ (b : Nat) (sp : Nat → Bool) (hd : Bool), DataW.TrodAll enc P W' b sp hd fn.resultTypes.toList ((Value.bool true).resultList fn.resultTypes.size) (s.fn H (ds ++ [])).results [] := by
  intro b sp hd
  rw [List.append_nil, hsp, hres]
  exact trodAll_cons_mk (shut_bool htb _) trodAll_mk0
 have r2 : ∀ sp : Nat → Bool, (∀ p ∈ before, sp p.block = true) → DataW.TrodAll enc P W' 0 sp true fn.params.toList args.toList (s.fn H (ds ++ [])).args before := by
  intro sp hh
  rw [List.append_nil, hsp]
  exact trodAll_below hl hb sp _ _ _ _ hts (fun x hx => hlt x hx) hh hA
 have r3 : ∀ sp : Nat → Bool, DataW.TrodVars enc P W' sp s.vars (s.fn H (ds ++ [])).vars [] := by
  intro sp
  rw [List.append_nil, hsp, hvars]
  rfl
 refine ⟨_, rfl, ds, [], before, [], before, [], hW', r1 _ _ _, r2 _ (fun p hp => by simpa using hlt p hp), r3 _, World.keptBut_mono (fun p hp => ⟨hp, Or.inr (Or.inl hp)⟩) (hb.frame (· ∈ before)), fun _ => ?_⟩
 refine ⟨ok_one (by rw [hres]) rfl (okWide_bool_mk htb _), _, _, ([] ++ before) ++ [], ⟨[] ++ before, [], trodAll_append (r2 _ (fun _ _ => rfl)) (r1 _ _ _), r3 _, rfl, ?_, ?_⟩, ?_⟩
 ·intro b off hp
  have hp' : MemPlace.cell b off ∈ before := by simpa using hp
  rw [hb.frozen (hlt _ hp')]
  exact hfz b off hp'
 ·intro ha
  simpa using hnd ha
 ·intro p hp _
  simpa using hp
end Go.Proofs.Ytiipiapfnedfjaa.V
namespace Go.Proofs.Ytiipiapfnedfjaa.V
open Go
set_option linter.unusedVariables false
set_option linter.unusedSimpArgs false
open Nat renaming reduceBEq → zA, reduceAdd → zB, reduceSub → zC, reduceMul → zD, reduceLeDiff → zE
open Int renaming reduceLT → zF, reduceLE → zG, reduceEq → zH, reduceNe → zI
/- Data of this program: symbols, rules, grammars, automata; literals that are made; no condition. -/
structure Sy where
 t : Bool
 n : Int
 deriving DecidableEq
structure Ru where
 l : Int
 r : List Sy
 deriving DecidableEq
structure Gr where
 ts : Int
 ns : Int
 st : Int
 rs : List Ru
 deriving DecidableEq
structure Da where
 st : Int
 ac : List Int
 nx : List (List Int)
 deriving DecidableEq
instance : Rep Sy where
 sz := 2
 ok _ x cs := cs = [.bool x.t, .int .i64 x.n]
 len h := by subst h; rfl
 one h := by subst h; simp [one', Value.oneCell']
 mono h _ := h
instance : Rep Ru where
 sz := 2
 ok L x cs := ∃ A c, cs = [.int .i64 x.l, .slice A x.r.length c] ∧ SlOk L A c x.r
 len h := by obtain ⟨A, c, rfl, _⟩ := h; rfl
 one h := by obtain ⟨A, c, rfl, _⟩ := h; simp [one', Value.oneCell']
 mono h hh := by obtain ⟨A, c, rfl, q⟩ := h; exact ⟨A, c, rfl, q.mono hh⟩
instance : Rep Gr where
 sz := 4
 ok L x cs := ∃ A c, cs = [.int .i64 x.ts, .int .i64 x.ns, .int .i64 x.st, .slice A x.rs.length c] ∧ SlOk L A c x.rs
 len h := by obtain ⟨A, c, rfl, _⟩ := h; rfl
 one h := by obtain ⟨A, c, rfl, _⟩ := h; simp [one', Value.oneCell']
 mono h hh := by obtain ⟨A, c, rfl, q⟩ := h; exact ⟨A, c, rfl, q.mono hh⟩
instance : Rep Da where
 sz := 3
 ok L x cs := ∃ A c B d, cs = [.int .i64 x.st, .slice A x.ac.length c, .slice B x.nx.length d] ∧ SlOk L A c x.ac ∧ SlOk L B d x.nx
 len h := by obtain ⟨A, c, B, d, rfl, _⟩ := h; rfl
 one h := by obtain ⟨A, c, B, d, rfl, _⟩ := h; simp [one', Value.oneCell']
 mono h hh := by obtain ⟨A, c, B, d, rfl, q, q'⟩ := h; exact ⟨A, c, B, d, rfl, q.mono hh, q'.mono hh⟩
theorem ok_sy {L : Mem} {x : Sy} {cs : List Value} (q : Rep.ok L x cs) : cs = [.bool x.t, .int .i64 x.n] := q
theorem ok_ru {L : Mem} {x : Ru} {cs : List Value} (q : Rep.ok L x cs) : ∃ A c, cs = [.int .i64 x.l, .slice A x.r.length c] ∧ SlOk L A c x.r := q
theorem ok_gr {L : Mem} {x : Gr} {cs : List Value} (q : Rep.ok L x cs) : ∃ A c, cs = [.int .i64 x.ts, .int .i64 x.ns, .int .i64 x.st, .slice A x.rs.length c] ∧ SlOk L A c x.rs := q
theorem ok_da {L : Mem} {x : Da} {cs : List Value} (q : Rep.ok L x cs) : ∃ A c B d, cs = [.int .i64 x.st, .slice A x.ac.length c, .slice B x.nx.length d] ∧ SlOk L A c x.ac ∧ SlOk L B d x.nx := q

theorem SlOk.sy {L : Mem} {A : Option Addr} {c : Nat} {xs : List Sy} (q : SlOk L A c xs) {i : Nat} (hi : i < xs.length) :
  ∃ b o, A = some ⟨b, o, none⟩ ∧ ∀ Γ : Ctx, Mem.le L (lk Γ) → Cells Γ b (o + i * 2) [.bool xs[i].t, .int .i64 xs[i].n] := by
 obtain ⟨b, o, hA, cs, h1, h2⟩ := q.get hi
 obtain rfl := ok_sy h1
 exact ⟨b, o, hA, h2⟩
theorem SlOk.ru {L : Mem} {A : Option Addr} {c : Nat} {xs : List Ru} (q : SlOk L A c xs) {i : Nat} (hi : i < xs.length) :
  ∃ b o, A = some ⟨b, o, none⟩ ∧ ∃ A' c', SlOk L A' c' xs[i].r ∧ ∀ Γ : Ctx, Mem.le L (lk Γ) → Cells Γ b (o + i * 2) [.int .i64 xs[i].l, .slice A' xs[i].r.length c'] := by
 obtain ⟨b, o, hA, cs, h1, h2⟩ := q.get hi
 obtain ⟨A', c', rfl, h3⟩ := ok_ru h1
 exact ⟨b, o, hA, A', c', h3, h2⟩

/-! literals -/
theorem Arr.one {α : Type} [Sc α] (b : Nat) (T : TypeId) (xs : List α) : Arr (V.one b (.cells (xs.map Sc.enc).toArray T)) b T xs := one_self _ _
theorem lit_slok {α : Type} [Sc α] {b : Nat} {T : TypeId} {cs : List Value} {Γ : Ctx} (xs : List α) (h : xs.map Sc.enc = cs) (hs : xs.length ≤ 1000) : SlOk (lk (V.one b (.cells cs.toArray T) :: Γ)) (some ⟨b, 0, none⟩) xs.length xs := by
 subst h
 exact (Arr.one b T xs).slok (lk_sub (by simp)) (Nat.le_refl _) (by unfold maxLen; omega) (by omega)
theorem lit_rep1 {α : Type} [Rep α] {L : Mem} {b : Nat} {T : TypeId} {cs : List Value} (x : α) (hb : L b (.cells cs.toArray T (0, 0))) (hx : Rep.ok L x cs) : SlOk L (some ⟨b, 0, none⟩) 1 [x] := by
 refine ⟨by simp, by simp [maxLen], by simp, .inr ⟨b, 0, _, T, _, rfl, hb, fun i y hi => ?_⟩⟩
 cases i with
 | zero => simp at hi; subst hi; exact ⟨cs, hx, fun j hj => by simp⟩
 | succ i => simp at hi
theorem lit_rep2 {α : Type} [Rep α] {L : Mem} {b : Nat} {T : TypeId} {cs ds es : List Value} (x y : α) (hb : L b (.cells es.toArray T (0, 0))) (he : es = cs ++ ds) (hx : Rep.ok L x cs) (hy : Rep.ok L y ds) : SlOk L (some ⟨b, 0, none⟩) 2 [x, y] := by
 subst he
 have h1 := Rep.len hx
 have h2 := Rep.len hy
 refine ⟨by simp, by simp [maxLen], by simp, .inr ⟨b, 0, _, T, _, rfl, hb, fun i z hi => ?_⟩⟩
 match i, hi with
 | 0, hi => simp at hi; subst hi; exact ⟨cs, hx, fun j hj => by simp; rw [List.getElem?_append_left (by omega)]⟩
 | 1, hi => simp at hi; subst hi; exact ⟨ds, hy, fun j hj => by simp; rw [List.getElem?_append_right (by omega)]; congr 1; omega⟩
 | i + 2, hi => simp at hi
theorem lk_head {b : Nat} {o : Obj} {Γ : Ctx} : lk (V.one b o :: Γ) b o := ⟨_, List.mem_cons_self .., one_self _ _⟩
theorem lk_tail {b : Nat} {o : Obj} {g : PH} {Γ : Ctx} (h : lk Γ b o) : lk (g :: Γ) b o := by obtain ⟨x, hx, q⟩ := h; exact ⟨x, List.mem_cons_of_mem _ hx, q⟩

theorem Bld.ofRow {α : Type} [Sc α] {g : PH} {L : Mem} {e : TypeId} {v : Value} {n : Nat} (xs : List α) (h : Row g e 1 v n (xs.map Sc.enc)) (hn : n = xs.length) : Bld g L e v xs := by
 subst hn
 refine ⟨xs.map Sc.enc, h, fun i x hi => ⟨[Sc.enc x], rfl, fun j hj => ?_⟩⟩
 have : j = 0 := by simp [Rep.sz] at hj; exact hj
 subst this
 simp [Rep.sz, hi]
theorem s_appz {P : Program} {Γr : Ctx} {d : Option Nat} {r : List SOper} {φ : Fr} {Γ : Ctx} {K : Fr → Ctx → Prop} {t u e : TypeId} {sz bytes ix : Nat} {z : Value} {A : Option Addr} {m : Int} {g : PH} (hg : Γ[ix]? = some g) (h0 : 0 ≤ m) (hby : m * bytes ≤ 140737488355328) (hmx : m ≤ maxLen)
  (hk : ∀ v' g', Row g' e sz v' m.toNat (zerosL (cellsV z) m.toNat) → vcOps P Γr r (put φ d (.v true v')) (Γ.set ix g') K) : appzC P Γr d r φ Γ K t u e sz bytes z (true, .slice A 0 0) (true, .int .i64 m) :=
 ⟨rfl, rfl, h0, hby, hmx, ix, g, hg, fun v' g' hr _ => hk v' g' hr⟩
/-- what a row of scalars is -/
theorem Bld.sc {α : Type} [Sc α] {g : PH} {L : Mem} {e : TypeId} {A : Option Addr} {n c : Nat} {xs : List α} (h : Bld g L e (.slice A n c) xs) : n = xs.length ∧ (xs = [] ∨ ∃ b o cap cur, A = some ⟨b, o, none⟩ ∧ c = cap + 1 ∧ n ≤ cap + 1 ∧ cap + 1 ≤ maxLen ∧ g b = some (.cells cur e (0, 0)) ∧ o + (cap + 1) ≤ cur.size ∧ (cur.toList.drop o).take xs.length = xs.map Sc.enc) := by
 obtain ⟨cs, ⟨h1, h2⟩, h3⟩ := h
 have hcs : cs = xs.map Sc.enc := by
  apply List.ext_getElem?
  intro i
  have hl : cs.length = xs.length := by simpa [Rep.sz] using h1
  by_cases hi : i < xs.length
  ·obtain ⟨c', q1, q2⟩ := h3 i xs[i] (List.getElem?_eq_getElem hi)
   have q1 := ok_sc q1
   subst q1
   have := q2 0 (by simp [Rep.sz])
   simpa [Rep.sz, hi] using this
  ·rw [List.getElem?_eq_none (by omega), List.getElem?_eq_none (by simp; omega)]
 rcases h2 with ⟨q0, A', q⟩ | ⟨b, o, cap, cur, q1, q2, q3, q4, q5, q6⟩
 ·simp only [Value.slice.injEq] at q
  exact ⟨by omega, .inl (List.eq_nil_of_length_eq_zero q0)⟩
 ·simp only [Value.slice.injEq] at q1
  obtain ⟨rfl, rfl, rfl⟩ := q1
  exact ⟨rfl, .inr ⟨b, o, cap, cur, rfl, rfl, q2, q3, q4, by simpa [Rep.sz] using q5, by rw [← hcs, ← q6]; simp [Rep.sz]⟩⟩
section
variable {P : Program} {Γr : Ctx} {d : Option Nat} {r : List SOper} {φ : Fr} {Γ : Ctx} {K : Fr → Ctx → Prop}
end

/-! heaps -/
/-- one part of a struct is stored -/
theorem s_storeF {P : Program} {Γr : Ctx} {r : List SOper} {φ : Fr} {Γ : Ctx} {K : Fr → Ctx → Prop} {g : PH} {b ix n o : Nat} {T : TypeId} {cs : List Value} {x : Value} (hg : Γ[ix]? = some g) (h : g b = some (.cells cs.toArray T (0, 0))) (ho : o + n ≤ cs.length)
  (hk : vcOps P Γr r φ (Γ.set ix (upd g b (.cells (setC cs o n x).toArray T))) K) : storeP P Γr r φ Γ K n b o x :=
 ⟨ix, g, _, T, hg, h, by simpa using ho, by simpa using hk⟩
theorem Ent.emp (Γ : Ctx) : Ent Γ (V.emp :: Γ) := by
 refine ⟨fun h hh k o hk => ?_, fun ha => List.pairwise_cons.2 ⟨fun x _ k => .inl rfl, ha⟩⟩
 rcases List.mem_cons.1 hh with rfl | hh
 ·cases hk
 ·exact ⟨h, hh, hk⟩
theorem Up.emp {Γ : Ctx} {Φ : Ctx → Prop} (h : Up (V.emp :: Γ) Φ) : Up Γ Φ := fun ha => by
 obtain ⟨Γ', h1, h2⟩ := h ((Ent.emp Γ).apart ha)
 exact ⟨Γ', (Ent.emp Γ).trans h1, h2⟩
theorem Up.skip {g : PH} {Γ : Ctx} {Φ : Ctx → Prop} (h : Up Γ Φ) : Up (g :: Γ) Φ := fun ha => by
 obtain ⟨Γ', he, hp⟩ := h (List.pairwise_cons.1 ha).2
 exact ⟨Γ', (Ent.sub (List.sublist_cons_self _ _)).trans he, hp⟩
theorem Up.perm {Γ Γ' : Ctx} {Φ : Ctx → Prop} (hp : Γ.Perm Γ') (h : Up Γ' Φ) : Up Γ Φ := fun ha => by
 obtain ⟨Γ2, q1, q2⟩ := h ((Ent.perm hp).apart ha)
 exact ⟨Γ2, (Ent.perm hp).trans q1, q2⟩
theorem lit_bldm {α : Type} [Rep α] {b : Nat} {T : TypeId} {L : Mem} {cs : List Value} (x : α) (hx : Rep.ok L x cs) : Bld (one b (.cells cs.toArray T)) L T (.slice (some ⟨b, 0, none⟩) 1 1) [x] := by
 have hl := Rep.len hx
 refine ⟨cs, ⟨by simp [hl], .inr ⟨b, 0, 0, _, rfl, by simp, by unfold maxLen; omega, one_self _ _, by simp [hl], by simp [← hl]⟩⟩, fun i y hi => ?_⟩
 cases i with
 | zero => simp at hi; subst hi; exact ⟨cs, hx, fun j hj => by simp⟩
 | succ i => simp at hi
end Go.Proofs.Ytiipiapfnedfjaa.V
/- Arguments that are grammars and automata, read; no condition. -/
namespace Go.Proofs.Ytiipiapfnedfjaa.V
open Go Go.ChangeShapes Go.RowKit
set_option linter.unusedVariables false
open Meas (meas)

/-- a struct with these fields: where they lie and of what type -/
def structIs (P : Program) (t : TypeId) (l : List (Nat × TypeId)) : Bool := match P.underlying t with
 | some (.struct fs) => fs.toList.map (fun f => (f.offset, f.type)) == l
 | _ => false
theorem structIs_some {P : Program} {t : TypeId} {l : List (Nat × TypeId)} (h : structIs P t l = true) : ∃ fs : Array Field, P.underlying t = some (.struct fs) ∧ fs.toList.map (fun f => (f.offset, f.type)) = l := by
 unfold structIs at h
 split at h
 ·rename_i fs hu
  exact ⟨fs, hu, by simpa using h⟩
 ·cases h
theorem trod_fields {P : Program} {t : TypeId} {l : List (Nat × TypeId)} (ht : structIs P t l = true) {H : Type} {enc : TypeId × Value → H} {w : World} {fuel : Nat} {cs : List Value} {x : DataW H × List MemPlace}
  (hx : DataW.trod enc P w 0 (fun _ => true) true fuel t cs = some x) :
  ∃ (xs : List (DataW H × List MemPlace)) (n : Nat), fuel = n + 1 ∧ x.1 = .agg (xs.map (·.1)) ∧ cs.length = P.cellsOf t ∧ xs.length = l.length ∧
   ∀ (i o : Nat) (ty : TypeId), l[i]? = some (o, ty) → DataW.trod enc P w 0 (fun _ => true) true n ty ((cs.drop o).take (P.cellsOf ty)) = xs[i]? := by
 obtain ⟨fs, hu, hl⟩ := structIs_some ht
 obtain ⟨xs, n, h0, rfl, h1, h2, h3⟩ := DataW.trod_struct hu hx
 refine ⟨xs, n, h0, rfl, h1, by rw [← hl, h2]; simp, fun i o ty hi => ?_⟩
 rw [← hl, List.getElem?_map, Option.map_eq_some_iff] at hi
 obtain ⟨f, hf, e⟩ := hi
 simp only [Prod.mk.injEq] at e
 obtain ⟨rfl, rfl⟩ := e
 exact h3 i f (by simpa using hf)
instance : Meas Sy := ⟨fun _ => 3⟩
instance : Meas Ru := ⟨fun r => measL r.r + 3⟩
instance : Meas Gr := ⟨fun g => measL g.rs + 5⟩
instance : Meas Da := ⟨fun d => measL d.ac + measL d.nx + 4⟩

theorem reads_sy {P : Program} {t tb ti : TypeId} (ht : structIs P t [(0, tb), (1, ti)] = true) (hc : P.cellsOf t = 2) (hb : P.underlying tb = some .bool) (hi : P.underlying ti = some (.int .i64)) (hcb : P.cellsOf tb = 1) (hci : P.cellsOf ti = 1) : Reads P Sy t := by
 intro H enc w fuel cs x hx hbulk
 obtain ⟨xs, n, rfl, hx1, hl, hxl, hf⟩ := trod_fields ht hx
 rw [hc] at hl
 match xs, hxl, cs, hl with
 | [y0, y1], _, [c0, c1], _ =>
  have h0 := hf 0 0 tb rfl
  have h1 := hf 1 1 ti rfl
  rw [hcb] at h0
  rw [hci] at h1
  obtain ⟨b, e0, q0⟩ := DataW.trod_bool hb h0
  obtain ⟨m, e1, q1, _⟩ := DataW.trod_int hi h1
  simp at e0 e1
  subst e0 e1
  refine ⟨⟨b, m⟩, rfl, ?_⟩
  rw [hx1, q0, q1]
  simp [meas, Rows.uptoBulk, Rows.uptoBulkAll]
theorem reads_ru {P : Program} {t ti tl : TypeId} (ht : structIs P t [(0, ti), (1, tl)] = true) (hc : P.cellsOf t = 2) (hi : P.underlying ti = some (.int .i64)) (hci : P.cellsOf ti = 1) (hcl : P.cellsOf tl = 1) (hl' : Reads P (List Sy) tl) : Reads P Ru t := by
 intro H enc w fuel cs x hx hbulk
 obtain ⟨xs, n, rfl, hx1, hl, hxl, hf⟩ := trod_fields ht hx
 rw [hc] at hl
 rw [hx1] at hbulk ⊢
 match xs, hxl, cs, hl with
 | [y0, y1], _, [c0, c1], _ =>
  have h0 := hf 0 0 ti rfl
  have h1 := hf 1 1 tl rfl
  rw [hci] at h0
  rw [hcl] at h1
  obtain ⟨m, e0, q0, _⟩ := DataW.trod_int hi h0
  simp only [List.map_cons, List.map_nil, Rows.uptoBulk, Rows.uptoBulkAll] at hbulk
  obtain ⟨ls, h2, h3⟩ := hl' H enc w n _ _ h1 (by omega)
  obtain ⟨A, c, e1, h4⟩ := h2
  simp at e0 e1
  subst e0 e1
  refine ⟨⟨m, ls⟩, ⟨A, c, rfl, h4⟩, ?_⟩
  rw [q0]
  simp only [meas, List.map_cons, List.map_nil, Rows.uptoBulk, Rows.uptoBulkAll] at h3 ⊢
  omega
theorem reads_gr {P : Program} {t ti tl : TypeId} (ht : structIs P t [(0, ti), (1, ti), (2, ti), (3, tl)] = true) (hc : P.cellsOf t = 4) (hi : P.underlying ti = some (.int .i64)) (hci : P.cellsOf ti = 1) (hcl : P.cellsOf tl = 1) (hl' : Reads P (List Ru) tl) : Reads P Gr t := by
 intro H enc w fuel cs x hx hbulk
 obtain ⟨xs, n, rfl, hx1, hl, hxl, hf⟩ := trod_fields ht hx
 rw [hc] at hl
 rw [hx1] at hbulk ⊢
 match xs, hxl, cs, hl with
 | [y0, y1, y2, y3], _, [c0, c1, c2, c3], _ =>
  have h0 := hf 0 0 ti rfl
  have h1 := hf 1 1 ti rfl
  have h2 := hf 2 2 ti rfl
  have h3 := hf 3 3 tl rfl
  rw [hci] at h0 h1 h2
  rw [hcl] at h3
  obtain ⟨m0, e0, q0, _⟩ := DataW.trod_int hi h0
  obtain ⟨m1, e1, q1, _⟩ := DataW.trod_int hi h1
  obtain ⟨m2, e2, q2, _⟩ := DataW.trod_int hi h2
  simp only [List.map_cons, List.map_nil, Rows.uptoBulk, Rows.uptoBulkAll] at hbulk
  obtain ⟨ls, h4, h5⟩ := hl' H enc w n _ _ h3 (by omega)
  obtain ⟨A, c, e3, h6⟩ := h4
  simp at e0 e1 e2 e3
  subst e0 e1 e2 e3
  refine ⟨⟨m0, m1, m2, ls⟩, ⟨A, c, rfl, h6⟩, ?_⟩
  rw [q0, q1, q2]
  simp only [meas, List.map_cons, List.map_nil, Rows.uptoBulk, Rows.uptoBulkAll] at h5 ⊢
  omega
theorem reads_da {P : Program} {t ti tl tn : TypeId} (ht : structIs P t [(0, ti), (1, tl), (2, tn)] = true) (hc : P.cellsOf t = 3) (hi : P.underlying ti = some (.int .i64)) (hci : P.cellsOf ti = 1) (hcl : P.cellsOf tl = 1) (hcn : P.cellsOf tn = 1) (hl' : Reads P (List Int) tl) (hn' : Reads P (List (List Int)) tn) : Reads P Da t := by
 intro H enc w fuel cs x hx hbulk
 obtain ⟨xs, n, rfl, hx1, hl, hxl, hf⟩ := trod_fields ht hx
 rw [hc] at hl
 rw [hx1] at hbulk ⊢
 match xs, hxl, cs, hl with
 | [y0, y1, y2], _, [c0, c1, c2], _ =>
  have h0 := hf 0 0 ti rfl
  have h1 := hf 1 1 tl rfl
  have h2 := hf 2 2 tn rfl
  rw [hci] at h0
  rw [hcl] at h1
  rw [hcn] at h2
  obtain ⟨m0, e0, q0, _⟩ := DataW.trod_int hi h0
  simp only [List.map_cons, List.map_nil, Rows.uptoBulk, Rows.uptoBulkAll] at hbulk
  obtain ⟨ls, h4, h5⟩ := hl' H enc w n _ _ h1 (by omega)
  obtain ⟨ns, h6, h7⟩ := hn' H enc w n _ _ h2 (by omega)
  obtain ⟨A, c, e1, h8⟩ := h4
  obtain ⟨B, d, e2, h9⟩ := h6
  simp at e0 e1 e2
  subst e0 e1 e2
  refine ⟨⟨m0, ls, ns⟩, ⟨A, c, B, d, rfl, h8, h9⟩, ?_⟩
  rw [q0]
  simp only [meas, List.map_cons, List.map_nil, Rows.uptoBulk, Rows.uptoBulkAll] at h5 h7 ⊢
  omega
def isStruct (P : Program) (t : TypeId) : Bool := match P.underlying t with
 | some (.struct _) => true
 | _ => false
theorem arg_st {P : Program} {t : TypeId} {α : Type} [Rep α] [Meas α] (ht : isStruct P t = true) (hr : Reads P α t) {r : Reach} {b0 : Nat} {w : World} {v : Value} {H : Type} {enc : TypeId × Value → H} {d : DataW H} {p : List MemPlace}
  (hval : Value.okWide P w r b0 t v) (hd : DataW.Trod enc P w 0 (fun _ => true) true t v d p) (hb : Rows.uptoBulk d ≤ 1048576) :
  ∃ (x : α) (cs : List Value), v = .agg cs.toArray ∧ Rep.ok (lk [phOf w]) x cs ∧ meas x ≤ Rows.uptoBulk d := by
 unfold isStruct at ht
 split at ht
 ·rename_i fs hu
  exact arg_agg hu hr hval hd hb
 ·cases ht
theorem try_ints : Reads Try.prog (List Int) 25 := reads_list (e := 3) (by kernel_rfl) (by kernel_rfl) (by decide) (reads_int (by kernel_rfl))
theorem try_intss : Reads Try.prog (List (List Int)) 28 := reads_list (e := 25) (by kernel_rfl) (by kernel_rfl) (by decide) try_ints
theorem try_sys : Reads Try.prog (List Sy) 58 := reads_list (e := 53) (by kernel_rfl) (by kernel_rfl) (by decide) (reads_sy (tb := 4) (ti := 3) (by kernel_rfl) (by kernel_rfl) (by kernel_rfl) (by kernel_rfl) (by kernel_rfl) (by kernel_rfl))
theorem try_rus : Reads Try.prog (List Ru) 22 := reads_list (e := 129) (by kernel_rfl) (by kernel_rfl) (by decide) (reads_ru (ti := 3) (tl := 58) (by kernel_rfl) (by kernel_rfl) (by kernel_rfl) (by kernel_rfl) (by kernel_rfl) try_sys)
theorem try_gr : Reads Try.prog Gr 24 := reads_gr (ti := 3) (tl := 22) (by kernel_rfl) (by kernel_rfl) (by kernel_rfl) (by kernel_rfl) (by kernel_rfl) try_rus
theorem try_da : Reads Try.prog Da 94 := reads_da (ti := 3) (tl := 25) (tn := 28) (by kernel_rfl) (by kernel_rfl) (by kernel_rfl) (by kernel_rfl) (by kernel_rfl) (by kernel_rfl) try_ints try_intss
end Go.Proofs.Ytiipiapfnedfjaa.V
