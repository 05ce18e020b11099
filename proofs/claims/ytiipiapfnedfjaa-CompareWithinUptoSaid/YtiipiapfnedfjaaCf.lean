/- What the rows ask of the whole program, each once; no condition. -/
import Derived.Test.YtiipiapfnedfjaaM2
namespace Go.Proofs.Ytiipiapfnedfjaa.V
open Go Go.ChangeShapes Go.RowKit
set_option linter.unusedVariables false

theorem try_laid : laidOutB Try.prog = true := by kernel_rfl
theorem try_maps : mapsRowed Try.prog = true := by kernel_rfl
theorem try_keys : Try.prog.plainKeys = false := by kernel_rfl
theorem try_heard : Try.prog.stopsHeard = true := by kernel_rfl
theorem try_enter : Try.prog.mayEnter = true := by kernel_rfl
theorem try_lifts : (Rows.meetFirstUptoRow.lifted == Try.prog.liftsFinal) = true := by kernel_rfl
theorem try_make : (Try.prog.make == some Rows.meetFirstUptoRow.make) = true := by kernel_rfl
/-- what is left of the row's closed facts -/
def restFacts (P : Program) (f : FuncId) (fn : Func) (s : ChangeSpec) (c : OpenClaim) : Bool :=
  c.wf (OpenSpec.ofChange s) &&
  fn.params.all (P.readableRec ·) && namedTie P c.named s.vars &&
  (c.stops == []) && (P.stops == []) && (c.knobs == []) && (P.stopKnobs == []) &&
  (c.maps == (fn.params.toList ++ s.plain.varTypes P).any (P.mapsRec ·)) && (c.ifaces == (fn.params.toList ++ s.plain.varTypes P).any (P.ifacesRec ·)) && (c.mapsOut == P.mapsAmong fn.resultTypes.toList) &&
  (c.loops == (fn.params.toList ++ s.plain.varTypes P).any (P.loopsFrom ·)) && (c.wideKeys == (fn.params.toList ++ s.plain.varTypes P ++ fn.resultTypes.toList).any (P.wideKeysFrom ·)) &&
  s.vars.all (P.varReadable ·) && fn.resultTypes.all (fun t => P.readableRec t && decide (t < P.types.size)) && (c.ifacesOut == fn.resultTypes.toList.any (P.ifacesRec ·)) && (c.loopsOut == fn.resultTypes.toList.any (P.loopsFrom ·)) && c.shortTexts.isNone && (c.kinds == (if c.domain.isEmpty then [] else fn.params.toList.map fun t => match P.underlying t with | some (.int k) => some k | _ => none)) && (c.pinned == c.pinnedBy) &&
  (c.veiled == (fn.params.toList ++ s.plain.varTypes P ++ fn.resultTypes.toList).any (P.veiledRec ·)) && c.veiledFits P fn.params.toList (fn.params.toList ++ s.plain.varTypes P ++ fn.resultTypes.toList)
theorem joined_split {P : Program} {f : FuncId} {fn : Func} {s : ChangeSpec} {c : OpenClaim} (h1 : laidOutB P = true) (h2 : mapsRowed P = true) (h3 : P.stopsHeard = true) (h4 : P.mayEnter = true) (h5 : (c.lifted == P.liftsFinal) = true) (h6 : (P.make == some c.make) = true)
    (h7 : (c.inPlace == P.inPlace f) = true) (h8 : (c.unfollowed == P.unfollowed f) = true) (h9 : (c.recurses == P.recurses f) = true) (h10 : (c.named == P.varsNamed f) = true) (h11 : (c.plainKeys == P.plainKeys) = true) (hr : restFacts P f fn s c = true) : joinedFacts P f fn s c = true := by
  unfold joinedFacts
  rw [h1, h2, h3, h4, h5, h6, h7, h8, h9, h10, h11]
  simp only [restFacts, Bool.and_true, Bool.and_eq_true, and_assoc] at hr ⊢
  exact hr
end Go.Proofs.Ytiipiapfnedfjaa.V
