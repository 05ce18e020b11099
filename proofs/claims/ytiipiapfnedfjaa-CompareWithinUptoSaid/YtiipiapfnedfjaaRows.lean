/-
  No cell of these rows narrows 'for every input' (looked for: loops, veiled, ifaces, maps, wideKeys, modest, calm, conditions, laid).
  DERIVED. THE GIVEN ROWS OF THIS SEAT. 10 by the template 'for every input the law returns true; each argument reads behind the call as it read before'; 0 by the template 'total and deterministic' (their statements: YtiipiapfnedfjaaTotals.lean).
  GIVEN WITH THE SEED: the statements are not yours to turn. If you find one false, say at which input.
  Laid BY PROGRAM, IN A SANDBOX (cutbox-rows.mjs): the forced cells as the released guide's own fill.sh prints them over the translation 3c81f131e6c2becd… (all of the seat's roots in one cut). By AI agents, Wed Nov 11 2026. No macro, syntax, notation, axiom, sorry.
-/
import Derived.Test.YtiipiapfnedfjaaChecked
import GoSem.Claim
import GoSem.ClaimJoined
import GoSem.ClaimMapViews
import Derived.JoinedTies
import Derived.KernelRfl
namespace Go.Proofs.Ytiipiapfnedfjaa
/- THE CELL 'sum', in the pinned program and in every row, IS THE sha256 OF THE DUMP (.gsa) THAT YtiipiapfnedfjaaProg.lean LOADS. Nothing in Lean hashes anything: it is a label: what it is worth is what the hold of that sum in a sandbox is worth. -/
noncomputable def Try.pinned : Pinned := { name := "ytiipiapfnedfjaa", sum := "3c81f131e6c2becd045ca9f8a6112d75267dc8c5d367330b3ba984d47c0d612d", checked := Try.checked }
namespace Rows
def none {H : Type} : Left H := { results := [], args := [] }

/-- 'parllaw3.PredictSays': WHATEVER THE INPUT: true; the input reads as it did. -/
def predictSaysSpec : ChangeSpec := { name := "predictSays", fn := fun _ => fun
  | [d1, d2, d3] => { results := [.lit (.bool true)], args := [d1, d2, d3] }
  | _ => none }
def predictSaysRow : OpenClaim := { program := "ytiipiapfnedfjaa", sum := "3c81f131e6c2becd045ca9f8a6112d75267dc8c5d367330b3ba984d47c0d612d", func := "parlance/parllaw3.PredictSays", spec := "predictSays", unfollowed := true, recurses := true, plainKeys := false, apart := false }
def PredictSaysSaid : Prop := predictSaysRow.holds Try.pinned (OpenSpec.ofChange predictSaysSpec)

/-- ITS FALSE NEIGHBOUR: 'it returns false'. Refute it at one input. -/
def predictSaysWrong : ChangeSpec := { name := "predictSays", fn := fun _ => fun
  | [d1, d2, d3] => { results := [.lit (.bool false)], args := [d1, d2, d3] }
  | _ => none }
def PredictSaysWrongFalsely : Prop := predictSaysRow.holds Try.pinned (OpenSpec.ofChange predictSaysWrong)

/-- 'parllaw3.ItemsSay': WHATEVER THE INPUT: true; the input reads as it did. -/
def itemsSaySpec : ChangeSpec := { name := "itemsSay", fn := fun _ => fun
  | [d1, d2, d3, d4, d5] => { results := [.lit (.bool true)], args := [d1, d2, d3, d4, d5] }
  | _ => none }
def itemsSayRow : OpenClaim := { program := "ytiipiapfnedfjaa", sum := "3c81f131e6c2becd045ca9f8a6112d75267dc8c5d367330b3ba984d47c0d612d", func := "parlance/parllaw3.ItemsSay", spec := "itemsSay", unfollowed := true, recurses := true, plainKeys := false, apart := false }
def ItemsSaySaid : Prop := itemsSayRow.holds Try.pinned (OpenSpec.ofChange itemsSaySpec)

/-- ITS FALSE NEIGHBOUR: 'it returns false'. Refute it at one input. -/
def itemsSayWrong : ChangeSpec := { name := "itemsSay", fn := fun _ => fun
  | [d1, d2, d3, d4, d5] => { results := [.lit (.bool false)], args := [d1, d2, d3, d4, d5] }
  | _ => none }
def ItemsSayWrongFalsely : Prop := itemsSayRow.holds Try.pinned (OpenSpec.ofChange itemsSayWrong)

/-- 'parllaw3.ItemsStates': WHATEVER THE INPUT: true; the input reads as it did. -/
def itemsStatesSpec : ChangeSpec := { name := "itemsStates", fn := fun _ => fun
  | [d1, d2] => { results := [.lit (.bool true)], args := [d1, d2] }
  | _ => none }
def itemsStatesRow : OpenClaim := { program := "ytiipiapfnedfjaa", sum := "3c81f131e6c2becd045ca9f8a6112d75267dc8c5d367330b3ba984d47c0d612d", func := "parlance/parllaw3.ItemsStates", spec := "itemsStates", unfollowed := true, recurses := true, plainKeys := false, apart := false }
def ItemsStatesSaid : Prop := itemsStatesRow.holds Try.pinned (OpenSpec.ofChange itemsStatesSpec)

/-- ITS FALSE NEIGHBOUR: 'it returns false'. Refute it at one input. -/
def itemsStatesWrong : ChangeSpec := { name := "itemsStates", fn := fun _ => fun
  | [d1, d2] => { results := [.lit (.bool false)], args := [d1, d2] }
  | _ => none }
def ItemsStatesWrongFalsely : Prop := itemsStatesRow.holds Try.pinned (OpenSpec.ofChange itemsStatesWrong)

/-- 'parllaw3.PackratSays': WHATEVER THE INPUT: true; the input reads as it did. -/
def packratSaysSpec : ChangeSpec := { name := "packratSays", fn := fun _ => fun
  | [d1, d2, d3] => { results := [.lit (.bool true)], args := [d1, d2, d3] }
  | _ => none }
def packratSaysRow : OpenClaim := { program := "ytiipiapfnedfjaa", sum := "3c81f131e6c2becd045ca9f8a6112d75267dc8c5d367330b3ba984d47c0d612d", func := "parlance/parllaw3.PackratSays", spec := "packratSays", unfollowed := true, recurses := true, plainKeys := false, apart := false }
def PackratSaysSaid : Prop := packratSaysRow.holds Try.pinned (OpenSpec.ofChange packratSaysSpec)

/-- ITS FALSE NEIGHBOUR: 'it returns false'. Refute it at one input. -/
def packratSaysWrong : ChangeSpec := { name := "packratSays", fn := fun _ => fun
  | [d1, d2, d3] => { results := [.lit (.bool false)], args := [d1, d2, d3] }
  | _ => none }
def PackratSaysWrongFalsely : Prop := packratSaysRow.holds Try.pinned (OpenSpec.ofChange packratSaysWrong)

/-- 'parllaw3.DescentSays': WHATEVER THE INPUT: true; the input reads as it did. -/
def descentSaysSpec : ChangeSpec := { name := "descentSays", fn := fun _ => fun
  | [d1, d2, d3] => { results := [.lit (.bool true)], args := [d1, d2, d3] }
  | _ => none }
def descentSaysRow : OpenClaim := { program := "ytiipiapfnedfjaa", sum := "3c81f131e6c2becd045ca9f8a6112d75267dc8c5d367330b3ba984d47c0d612d", func := "parlance/parllaw3.DescentSays", spec := "descentSays", unfollowed := true, recurses := true, plainKeys := false, apart := false }
def DescentSaysSaid : Prop := descentSaysRow.holds Try.pinned (OpenSpec.ofChange descentSaysSpec)

/-- ITS FALSE NEIGHBOUR: 'it returns false'. Refute it at one input. -/
def descentSaysWrong : ChangeSpec := { name := "descentSays", fn := fun _ => fun
  | [d1, d2, d3] => { results := [.lit (.bool false)], args := [d1, d2, d3] }
  | _ => none }
def DescentSaysWrongFalsely : Prop := descentSaysRow.holds Try.pinned (OpenSpec.ofChange descentSaysWrong)

/-- 'parllaw5.MergeTells': WHATEVER THE INPUT: true; the input reads as it did. -/
def mergeTellsSpec : ChangeSpec := { name := "mergeTells", fn := fun _ => fun
  | [d1, d2, d3] => { results := [.lit (.bool true)], args := [d1, d2, d3] }
  | _ => none }
def mergeTellsRow : OpenClaim := { program := "ytiipiapfnedfjaa", sum := "3c81f131e6c2becd045ca9f8a6112d75267dc8c5d367330b3ba984d47c0d612d", func := "parlance/parllaw5.MergeTells", spec := "mergeTells", unfollowed := true, recurses := true, plainKeys := false, apart := false }
def MergeTellsSaid : Prop := mergeTellsRow.holds Try.pinned (OpenSpec.ofChange mergeTellsSpec)

/-- ITS FALSE NEIGHBOUR: 'it returns false'. Refute it at one input. -/
def mergeTellsWrong : ChangeSpec := { name := "mergeTells", fn := fun _ => fun
  | [d1, d2, d3] => { results := [.lit (.bool false)], args := [d1, d2, d3] }
  | _ => none }
def MergeTellsWrongFalsely : Prop := mergeTellsRow.holds Try.pinned (OpenSpec.ofChange mergeTellsWrong)

/-- 'parllaw5.ApproxTells': WHATEVER THE INPUT: true; the input reads as it did. -/
def approxTellsSpec : ChangeSpec := { name := "approxTells", fn := fun _ => fun
  | [d] => { results := [.lit (.bool true)], args := [d] }
  | _ => none }
def approxTellsRow : OpenClaim := { program := "ytiipiapfnedfjaa", sum := "3c81f131e6c2becd045ca9f8a6112d75267dc8c5d367330b3ba984d47c0d612d", func := "parlance/parllaw5.ApproxTells", spec := "approxTells", unfollowed := true, recurses := true, plainKeys := false, apart := false }
def ApproxTellsSaid : Prop := approxTellsRow.holds Try.pinned (OpenSpec.ofChange approxTellsSpec)

/-- ITS FALSE NEIGHBOUR: 'it returns false'. Refute it at one input. -/
def approxTellsWrong : ChangeSpec := { name := "approxTells", fn := fun _ => fun
  | [d] => { results := [.lit (.bool false)], args := [d] }
  | _ => none }
def ApproxTellsWrongFalsely : Prop := approxTellsRow.holds Try.pinned (OpenSpec.ofChange approxTellsWrong)

/-- 'parllaw5.MeetTells': WHATEVER THE INPUT: true; the input reads as it did. -/
def meetTellsSpec : ChangeSpec := { name := "meetTells", fn := fun _ => fun
  | [d1, d2] => { results := [.lit (.bool true)], args := [d1, d2] }
  | _ => none }
def meetTellsRow : OpenClaim := { program := "ytiipiapfnedfjaa", sum := "3c81f131e6c2becd045ca9f8a6112d75267dc8c5d367330b3ba984d47c0d612d", func := "parlance/parllaw5.MeetTells", spec := "meetTells", unfollowed := true, recurses := true, plainKeys := false, apart := false }
def MeetTellsSaid : Prop := meetTellsRow.holds Try.pinned (OpenSpec.ofChange meetTellsSpec)

/-- ITS FALSE NEIGHBOUR: 'it returns false'. Refute it at one input. -/
def meetTellsWrong : ChangeSpec := { name := "meetTells", fn := fun _ => fun
  | [d1, d2] => { results := [.lit (.bool false)], args := [d1, d2] }
  | _ => none }
def MeetTellsWrongFalsely : Prop := meetTellsRow.holds Try.pinned (OpenSpec.ofChange meetTellsWrong)

/-- 'parllaw5.MeetFirst': WHATEVER THE INPUT: true; the input reads as it did. -/
def meetFirstSpec : ChangeSpec := { name := "meetFirst", fn := fun _ => fun
  | [d1, d2] => { results := [.lit (.bool true)], args := [d1, d2] }
  | _ => none }
def meetFirstRow : OpenClaim := { program := "ytiipiapfnedfjaa", sum := "3c81f131e6c2becd045ca9f8a6112d75267dc8c5d367330b3ba984d47c0d612d", func := "parlance/parllaw5.MeetFirst", spec := "meetFirst", unfollowed := true, recurses := true, plainKeys := false, apart := false }
def MeetFirstSaid : Prop := meetFirstRow.holds Try.pinned (OpenSpec.ofChange meetFirstSpec)

/-- ITS FALSE NEIGHBOUR: 'it returns false'. Refute it at one input. -/
def meetFirstWrong : ChangeSpec := { name := "meetFirst", fn := fun _ => fun
  | [d1, d2] => { results := [.lit (.bool false)], args := [d1, d2] }
  | _ => none }
def MeetFirstWrongFalsely : Prop := meetFirstRow.holds Try.pinned (OpenSpec.ofChange meetFirstWrong)

/-- 'parllaw5.CompareWithin': WHATEVER THE INPUT: true; the input reads as it did. -/
def compareWithinSpec : ChangeSpec := { name := "compareWithin", fn := fun _ => fun
  | [d1, d2] => { results := [.lit (.bool true)], args := [d1, d2] }
  | _ => none }
def compareWithinRow : OpenClaim := { program := "ytiipiapfnedfjaa", sum := "3c81f131e6c2becd045ca9f8a6112d75267dc8c5d367330b3ba984d47c0d612d", func := "parlance/parllaw5.CompareWithin", spec := "compareWithin", unfollowed := true, recurses := true, plainKeys := false, apart := false }
def CompareWithinSaid : Prop := compareWithinRow.holds Try.pinned (OpenSpec.ofChange compareWithinSpec)

/-- ITS FALSE NEIGHBOUR: 'it returns false'. Refute it at one input. -/
def compareWithinWrong : ChangeSpec := { name := "compareWithin", fn := fun _ => fun
  | [d1, d2] => { results := [.lit (.bool false)], args := [d1, d2] }
  | _ => none }
def CompareWithinWrongFalsely : Prop := compareWithinRow.holds Try.pinned (OpenSpec.ofChange compareWithinWrong)

/- THE SECOND FORM. 'bulk': how many values and letters a reading holds, each counted each time it is reached (what is shared counts as often as it is met; a slice's spare places count too). A statement '..UptoSaid' is the law's where the arguments, and the package variables that the reading takes, are together of bulk at most 1048576: NARROWER than '..Said'. Prove '..Said' where nothing that the law and all that it calls make is longer than what came in: it says more and counts as full. Else prove '..UptoSaid'. A law counts once. -/
mutual
def uptoBulk {H : Type} : DataW H → Nat
  | .lit (.string bytes) => bytes.length + 1
  | .lit _ => 1
  | .nil => 1
  | .ptr d => uptoBulk d + 1
  | .slice elems spare => uptoBulkAll elems + uptoBulkAll spare + 1
  | .agg parts => uptoBulkAll parts + 1
  | .iface _ d => uptoBulk d + 1
  | .map entries => uptoBulkEntries entries + 1
  | .held _ => 1
def uptoBulkAll {H : Type} : List (DataW H) → Nat
  | [] => 0
  | d :: r => uptoBulk d + uptoBulkAll r
def uptoBulkEntries {H : Type} : List (Lit × DataW H) → Nat
  | [] => 0
  | x :: r => uptoBulkEntry x + uptoBulkEntries r
def uptoBulkEntry {H : Type} : Lit × DataW H → Nat
  | (.string bytes, d) => bytes.length + uptoBulk d + 1
  | (_, d) => uptoBulk d + 1
 end
def uptoSmall : (H : Type) → List (DataW H) → Bool := fun _ ds => decide (uptoBulkAll ds ≤ 1048576)
def OpenSpec.upto (s : _root_.Go.ChangeSpec) : _root_.Go.OpenSpec := { _root_.Go.OpenSpec.ofChange s with cond := some uptoSmall }

/-- 'parllaw3.PredictSays', WHERE WHAT IT READS IS OF BULK AT MOST 1048576: true; the input reads as it did. -/
def predictSaysUptoRow : OpenClaim := { program := "ytiipiapfnedfjaa", sum := "3c81f131e6c2becd045ca9f8a6112d75267dc8c5d367330b3ba984d47c0d612d", func := "parlance/parllaw3.PredictSays", spec := "predictSays", unfollowed := true, recurses := true, plainKeys := false, apart := false, narrowed := true }
def PredictSaysUptoSaid : Prop := predictSaysUptoRow.holds Try.pinned (OpenSpec.upto predictSaysSpec)

/-- 'parllaw3.ItemsSay', WHERE WHAT IT READS IS OF BULK AT MOST 1048576: true; the input reads as it did. -/
def itemsSayUptoRow : OpenClaim := { program := "ytiipiapfnedfjaa", sum := "3c81f131e6c2becd045ca9f8a6112d75267dc8c5d367330b3ba984d47c0d612d", func := "parlance/parllaw3.ItemsSay", spec := "itemsSay", unfollowed := true, recurses := true, plainKeys := false, apart := false, narrowed := true }
def ItemsSayUptoSaid : Prop := itemsSayUptoRow.holds Try.pinned (OpenSpec.upto itemsSaySpec)

/-- 'parllaw3.ItemsStates', WHERE WHAT IT READS IS OF BULK AT MOST 1048576: true; the input reads as it did. -/
def itemsStatesUptoRow : OpenClaim := { program := "ytiipiapfnedfjaa", sum := "3c81f131e6c2becd045ca9f8a6112d75267dc8c5d367330b3ba984d47c0d612d", func := "parlance/parllaw3.ItemsStates", spec := "itemsStates", unfollowed := true, recurses := true, plainKeys := false, apart := false, narrowed := true }
def ItemsStatesUptoSaid : Prop := itemsStatesUptoRow.holds Try.pinned (OpenSpec.upto itemsStatesSpec)

/-- 'parllaw3.PackratSays', WHERE WHAT IT READS IS OF BULK AT MOST 1048576: true; the input reads as it did. -/
def packratSaysUptoRow : OpenClaim := { program := "ytiipiapfnedfjaa", sum := "3c81f131e6c2becd045ca9f8a6112d75267dc8c5d367330b3ba984d47c0d612d", func := "parlance/parllaw3.PackratSays", spec := "packratSays", unfollowed := true, recurses := true, plainKeys := false, apart := false, narrowed := true }
def PackratSaysUptoSaid : Prop := packratSaysUptoRow.holds Try.pinned (OpenSpec.upto packratSaysSpec)

/-- 'parllaw3.DescentSays', WHERE WHAT IT READS IS OF BULK AT MOST 1048576: true; the input reads as it did. -/
def descentSaysUptoRow : OpenClaim := { program := "ytiipiapfnedfjaa", sum := "3c81f131e6c2becd045ca9f8a6112d75267dc8c5d367330b3ba984d47c0d612d", func := "parlance/parllaw3.DescentSays", spec := "descentSays", unfollowed := true, recurses := true, plainKeys := false, apart := false, narrowed := true }
def DescentSaysUptoSaid : Prop := descentSaysUptoRow.holds Try.pinned (OpenSpec.upto descentSaysSpec)

/-- 'parllaw5.MergeTells', WHERE WHAT IT READS IS OF BULK AT MOST 1048576: true; the input reads as it did. -/
def mergeTellsUptoRow : OpenClaim := { program := "ytiipiapfnedfjaa", sum := "3c81f131e6c2becd045ca9f8a6112d75267dc8c5d367330b3ba984d47c0d612d", func := "parlance/parllaw5.MergeTells", spec := "mergeTells", unfollowed := true, recurses := true, plainKeys := false, apart := false, narrowed := true }
def MergeTellsUptoSaid : Prop := mergeTellsUptoRow.holds Try.pinned (OpenSpec.upto mergeTellsSpec)

/-- 'parllaw5.ApproxTells', WHERE WHAT IT READS IS OF BULK AT MOST 1048576: true; the input reads as it did. -/
def approxTellsUptoRow : OpenClaim := { program := "ytiipiapfnedfjaa", sum := "3c81f131e6c2becd045ca9f8a6112d75267dc8c5d367330b3ba984d47c0d612d", func := "parlance/parllaw5.ApproxTells", spec := "approxTells", unfollowed := true, recurses := true, plainKeys := false, apart := false, narrowed := true }
def ApproxTellsUptoSaid : Prop := approxTellsUptoRow.holds Try.pinned (OpenSpec.upto approxTellsSpec)

/-- 'parllaw5.MeetTells', WHERE WHAT IT READS IS OF BULK AT MOST 1048576: true; the input reads as it did. -/
def meetTellsUptoRow : OpenClaim := { program := "ytiipiapfnedfjaa", sum := "3c81f131e6c2becd045ca9f8a6112d75267dc8c5d367330b3ba984d47c0d612d", func := "parlance/parllaw5.MeetTells", spec := "meetTells", unfollowed := true, recurses := true, plainKeys := false, apart := false, narrowed := true }
def MeetTellsUptoSaid : Prop := meetTellsUptoRow.holds Try.pinned (OpenSpec.upto meetTellsSpec)

/-- 'parllaw5.MeetFirst', WHERE WHAT IT READS IS OF BULK AT MOST 1048576: true; the input reads as it did. -/
def meetFirstUptoRow : OpenClaim := { program := "ytiipiapfnedfjaa", sum := "3c81f131e6c2becd045ca9f8a6112d75267dc8c5d367330b3ba984d47c0d612d", func := "parlance/parllaw5.MeetFirst", spec := "meetFirst", unfollowed := true, recurses := true, plainKeys := false, apart := false, narrowed := true }
def MeetFirstUptoSaid : Prop := meetFirstUptoRow.holds Try.pinned (OpenSpec.upto meetFirstSpec)

/-- 'parllaw5.CompareWithin', WHERE WHAT IT READS IS OF BULK AT MOST 1048576: true; the input reads as it did. -/
def compareWithinUptoRow : OpenClaim := { program := "ytiipiapfnedfjaa", sum := "3c81f131e6c2becd045ca9f8a6112d75267dc8c5d367330b3ba984d47c0d612d", func := "parlance/parllaw5.CompareWithin", spec := "compareWithin", unfollowed := true, recurses := true, plainKeys := false, apart := false, narrowed := true }
def CompareWithinUptoSaid : Prop := compareWithinUptoRow.holds Try.pinned (OpenSpec.upto compareWithinSpec)

end Rows
end Go.Proofs.Ytiipiapfnedfjaa
