/-
  NARROWER THAN 'FOR EVERY INPUT', by the rows' own cells (each row's printed sentence says how): ShrinkTrees: loops · RankRefuses: loops.
  DERIVED. THE GIVEN ROWS OF THIS SEAT. 18 by the template 'for every input the law returns true; each argument reads behind the call as it read before'; 0 by the template 'total and deterministic' (their statements: YtniobbepliknmaaTotals.lean).
  GIVEN WITH THE SEED: the statements are not yours to turn. If you find one false, say at which input.
  Laid BY PROGRAM, IN A SANDBOX (cutbox-rows.mjs): the forced cells as the released guide's own fill.sh prints them over the translation b1133e901c4fd970… (all of the seat's roots in one cut). By AI agents, Wed Nov 11 2026. No macro, syntax, notation, axiom, sorry.
-/
import Derived.Test.YtniobbepliknmaaChecked
import GoSem.Claim
import GoSem.ClaimJoined
import GoSem.ClaimMapViews
import Derived.JoinedTies
import Derived.KernelRfl
namespace Go.Proofs.Ytniobbepliknmaa
/- THE CELL 'sum', in the pinned program and in every row, IS THE sha256 OF THE DUMP (.gsa) THAT YtniobbepliknmaaProg.lean LOADS. Nothing in Lean hashes anything: it is a label: what it is worth is what the hold of that sum in a sandbox is worth. -/
noncomputable def Try.pinned : Pinned := { name := "ytniobbepliknmaa", sum := "b1133e901c4fd970d1f657fd2cf912ee6b38e99e83b1a7fc91f0d15f79939890", checked := Try.checked }
namespace Rows
def none {H : Type} : Left H := { results := [], args := [] }

/-- 'parllaw5.DrawNumbers': WHATEVER THE INPUT: true; the input reads as it did. -/
def drawNumbersSpec : ChangeSpec := { name := "drawNumbers", fn := fun _ => fun
  | [d1, d2] => { results := [.lit (.bool true)], args := [d1, d2] }
  | _ => none }
def drawNumbersRow : OpenClaim := { program := "ytniobbepliknmaa", sum := "b1133e901c4fd970d1f657fd2cf912ee6b38e99e83b1a7fc91f0d15f79939890", func := "parlance/parllaw5.DrawNumbers", spec := "drawNumbers", plainKeys := false, apart := false }
def DrawNumbersSaid : Prop := drawNumbersRow.holds Try.pinned (OpenSpec.ofChange drawNumbersSpec)

/-- ITS FALSE NEIGHBOUR: 'it returns false'. Refute it at one input. -/
def drawNumbersWrong : ChangeSpec := { name := "drawNumbers", fn := fun _ => fun
  | [d1, d2] => { results := [.lit (.bool false)], args := [d1, d2] }
  | _ => none }
def DrawNumbersWrongFalsely : Prop := drawNumbersRow.holds Try.pinned (OpenSpec.ofChange drawNumbersWrong)

/-- 'parllaw5.DrawPicks': WHATEVER THE INPUT: true; the input reads as it did. -/
def drawPicksSpec : ChangeSpec := { name := "drawPicks", fn := fun _ => fun
  | [d1, d2] => { results := [.lit (.bool true)], args := [d1, d2] }
  | _ => none }
def drawPicksRow : OpenClaim := { program := "ytniobbepliknmaa", sum := "b1133e901c4fd970d1f657fd2cf912ee6b38e99e83b1a7fc91f0d15f79939890", func := "parlance/parllaw5.DrawPicks", spec := "drawPicks", plainKeys := false, apart := false }
def DrawPicksSaid : Prop := drawPicksRow.holds Try.pinned (OpenSpec.ofChange drawPicksSpec)

/-- ITS FALSE NEIGHBOUR: 'it returns false'. Refute it at one input. -/
def drawPicksWrong : ChangeSpec := { name := "drawPicks", fn := fun _ => fun
  | [d1, d2] => { results := [.lit (.bool false)], args := [d1, d2] }
  | _ => none }
def DrawPicksWrongFalsely : Prop := drawPicksRow.holds Try.pinned (OpenSpec.ofChange drawPicksWrong)

/-- 'parllaw5.GuessRules': WHATEVER THE INPUT: true; the input reads as it did. -/
def guessRulesSpec : ChangeSpec := { name := "guessRules", fn := fun _ => fun
  | [d1, d2] => { results := [.lit (.bool true)], args := [d1, d2] }
  | _ => none }
def guessRulesRow : OpenClaim := { program := "ytniobbepliknmaa", sum := "b1133e901c4fd970d1f657fd2cf912ee6b38e99e83b1a7fc91f0d15f79939890", func := "parlance/parllaw5.GuessRules", spec := "guessRules", unfollowed := true, recurses := true, plainKeys := false, apart := false }
def GuessRulesSaid : Prop := guessRulesRow.holds Try.pinned (OpenSpec.ofChange guessRulesSpec)

/-- ITS FALSE NEIGHBOUR: 'it returns false'. Refute it at one input. -/
def guessRulesWrong : ChangeSpec := { name := "guessRules", fn := fun _ => fun
  | [d1, d2] => { results := [.lit (.bool false)], args := [d1, d2] }
  | _ => none }
def GuessRulesWrongFalsely : Prop := guessRulesRow.holds Try.pinned (OpenSpec.ofChange guessRulesWrong)

/-- 'parllaw5.DrawOrders': WHATEVER THE INPUT: true; the input reads as it did. -/
def drawOrdersSpec : ChangeSpec := { name := "drawOrders", fn := fun _ => fun
  | [d1, d2] => { results := [.lit (.bool true)], args := [d1, d2] }
  | _ => none }
def drawOrdersRow : OpenClaim := { program := "ytniobbepliknmaa", sum := "b1133e901c4fd970d1f657fd2cf912ee6b38e99e83b1a7fc91f0d15f79939890", func := "parlance/parllaw5.DrawOrders", spec := "drawOrders", plainKeys := false, apart := false }
def DrawOrdersSaid : Prop := drawOrdersRow.holds Try.pinned (OpenSpec.ofChange drawOrdersSpec)

/-- ITS FALSE NEIGHBOUR: 'it returns false'. Refute it at one input. -/
def drawOrdersWrong : ChangeSpec := { name := "drawOrders", fn := fun _ => fun
  | [d1, d2] => { results := [.lit (.bool false)], args := [d1, d2] }
  | _ => none }
def DrawOrdersWrongFalsely : Prop := drawOrdersRow.holds Try.pinned (OpenSpec.ofChange drawOrdersWrong)

/-- 'parllaw5.ShrinkWords': WHATEVER THE INPUT: true; the input reads as it did. -/
def shrinkWordsSpec : ChangeSpec := { name := "shrinkWords", fn := fun _ => fun
  | [d1, d2, d3] => { results := [.lit (.bool true)], args := [d1, d2, d3] }
  | _ => none }
def shrinkWordsRow : OpenClaim := { program := "ytniobbepliknmaa", sum := "b1133e901c4fd970d1f657fd2cf912ee6b38e99e83b1a7fc91f0d15f79939890", func := "parlance/parllaw5.ShrinkWords", spec := "shrinkWords", unfollowed := true, recurses := true, plainKeys := false, apart := false }
def ShrinkWordsSaid : Prop := shrinkWordsRow.holds Try.pinned (OpenSpec.ofChange shrinkWordsSpec)

/-- ITS FALSE NEIGHBOUR: 'it returns false'. Refute it at one input. -/
def shrinkWordsWrong : ChangeSpec := { name := "shrinkWords", fn := fun _ => fun
  | [d1, d2, d3] => { results := [.lit (.bool false)], args := [d1, d2, d3] }
  | _ => none }
def ShrinkWordsWrongFalsely : Prop := shrinkWordsRow.holds Try.pinned (OpenSpec.ofChange shrinkWordsWrong)

/-- 'parllaw5.LensTells': WHATEVER THE INPUT: true; the input reads as it did. -/
def lensTellsSpec : ChangeSpec := { name := "lensTells", fn := fun _ => fun
  | [d1, d2] => { results := [.lit (.bool true)], args := [d1, d2] }
  | _ => none }
def lensTellsRow : OpenClaim := { program := "ytniobbepliknmaa", sum := "b1133e901c4fd970d1f657fd2cf912ee6b38e99e83b1a7fc91f0d15f79939890", func := "parlance/parllaw5.LensTells", spec := "lensTells", unfollowed := true, recurses := true, plainKeys := false, apart := false }
def LensTellsSaid : Prop := lensTellsRow.holds Try.pinned (OpenSpec.ofChange lensTellsSpec)

/-- ITS FALSE NEIGHBOUR: 'it returns false'. Refute it at one input. -/
def lensTellsWrong : ChangeSpec := { name := "lensTells", fn := fun _ => fun
  | [d1, d2] => { results := [.lit (.bool false)], args := [d1, d2] }
  | _ => none }
def LensTellsWrongFalsely : Prop := lensTellsRow.holds Try.pinned (OpenSpec.ofChange lensTellsWrong)

/-- 'parllaw5.TeachTells': WHATEVER THE INPUT: true; the input reads as it did. -/
def teachTellsSpec : ChangeSpec := { name := "teachTells", fn := fun _ => fun
  | [d1, d2, d3] => { results := [.lit (.bool true)], args := [d1, d2, d3] }
  | _ => none }
def teachTellsRow : OpenClaim := { program := "ytniobbepliknmaa", sum := "b1133e901c4fd970d1f657fd2cf912ee6b38e99e83b1a7fc91f0d15f79939890", func := "parlance/parllaw5.TeachTells", spec := "teachTells", unfollowed := true, recurses := true, plainKeys := false, apart := false }
def TeachTellsSaid : Prop := teachTellsRow.holds Try.pinned (OpenSpec.ofChange teachTellsSpec)

/-- ITS FALSE NEIGHBOUR: 'it returns false'. Refute it at one input. -/
def teachTellsWrong : ChangeSpec := { name := "teachTells", fn := fun _ => fun
  | [d1, d2, d3] => { results := [.lit (.bool false)], args := [d1, d2, d3] }
  | _ => none }
def TeachTellsWrongFalsely : Prop := teachTellsRow.holds Try.pinned (OpenSpec.ofChange teachTellsWrong)

/-- 'parllaw5.LensGreatest': WHATEVER THE INPUT: true; the input reads as it did. -/
def lensGreatestSpec : ChangeSpec := { name := "lensGreatest", fn := fun _ => fun
  | [d] => { results := [.lit (.bool true)], args := [d] }
  | _ => none }
def lensGreatestRow : OpenClaim := { program := "ytniobbepliknmaa", sum := "b1133e901c4fd970d1f657fd2cf912ee6b38e99e83b1a7fc91f0d15f79939890", func := "parlance/parllaw5.LensGreatest", spec := "lensGreatest", unfollowed := true, recurses := true, plainKeys := false, apart := false }
def LensGreatestSaid : Prop := lensGreatestRow.holds Try.pinned (OpenSpec.ofChange lensGreatestSpec)

/-- ITS FALSE NEIGHBOUR: 'it returns false'. Refute it at one input. -/
def lensGreatestWrong : ChangeSpec := { name := "lensGreatest", fn := fun _ => fun
  | [d] => { results := [.lit (.bool false)], args := [d] }
  | _ => none }
def LensGreatestWrongFalsely : Prop := lensGreatestRow.holds Try.pinned (OpenSpec.ofChange lensGreatestWrong)

/-- 'parllaw5.ApproxParts': WHATEVER THE INPUT: true; the input reads as it did. -/
def approxPartsSpec : ChangeSpec := { name := "approxParts", fn := fun _ => fun
  | [d] => { results := [.lit (.bool true)], args := [d] }
  | _ => none }
def approxPartsRow : OpenClaim := { program := "ytniobbepliknmaa", sum := "b1133e901c4fd970d1f657fd2cf912ee6b38e99e83b1a7fc91f0d15f79939890", func := "parlance/parllaw5.ApproxParts", spec := "approxParts", unfollowed := true, recurses := true, plainKeys := false, apart := false }
def ApproxPartsSaid : Prop := approxPartsRow.holds Try.pinned (OpenSpec.ofChange approxPartsSpec)

/-- ITS FALSE NEIGHBOUR: 'it returns false'. Refute it at one input. -/
def approxPartsWrong : ChangeSpec := { name := "approxParts", fn := fun _ => fun
  | [d] => { results := [.lit (.bool false)], args := [d] }
  | _ => none }
def ApproxPartsWrongFalsely : Prop := approxPartsRow.holds Try.pinned (OpenSpec.ofChange approxPartsWrong)

/-- 'parllaw5.GuessTells': WHATEVER THE INPUT: true; the input reads as it did. -/
def guessTellsSpec : ChangeSpec := { name := "guessTells", fn := fun _ => fun
  | [d1, d2, d3, d4] => { results := [.lit (.bool true)], args := [d1, d2, d3, d4] }
  | _ => none }
def guessTellsRow : OpenClaim := { program := "ytniobbepliknmaa", sum := "b1133e901c4fd970d1f657fd2cf912ee6b38e99e83b1a7fc91f0d15f79939890", func := "parlance/parllaw5.GuessTells", spec := "guessTells", unfollowed := true, recurses := true, plainKeys := false, apart := false }
def GuessTellsSaid : Prop := guessTellsRow.holds Try.pinned (OpenSpec.ofChange guessTellsSpec)

/-- ITS FALSE NEIGHBOUR: 'it returns false'. Refute it at one input. -/
def guessTellsWrong : ChangeSpec := { name := "guessTells", fn := fun _ => fun
  | [d1, d2, d3, d4] => { results := [.lit (.bool false)], args := [d1, d2, d3, d4] }
  | _ => none }
def GuessTellsWrongFalsely : Prop := guessTellsRow.holds Try.pinned (OpenSpec.ofChange guessTellsWrong)

/-- 'parllaw5.ShrinkTrees': WHATEVER THE INPUT: true; the input reads as it did. -/
def shrinkTreesSpec : ChangeSpec := { name := "shrinkTrees", fn := fun _ => fun
  | [d1, d2, d3] => { results := [.lit (.bool true)], args := [d1, d2, d3] }
  | _ => none }
def shrinkTreesRow : OpenClaim := { program := "ytniobbepliknmaa", sum := "b1133e901c4fd970d1f657fd2cf912ee6b38e99e83b1a7fc91f0d15f79939890", func := "parlance/parllaw5.ShrinkTrees", spec := "shrinkTrees", unfollowed := true, recurses := true, loops := true, plainKeys := false, apart := false }
def ShrinkTreesSaid : Prop := shrinkTreesRow.holds Try.pinned (OpenSpec.ofChange shrinkTreesSpec)

/-- ITS FALSE NEIGHBOUR: 'it returns false'. Refute it at one input. -/
def shrinkTreesWrong : ChangeSpec := { name := "shrinkTrees", fn := fun _ => fun
  | [d1, d2, d3] => { results := [.lit (.bool false)], args := [d1, d2, d3] }
  | _ => none }
def ShrinkTreesWrongFalsely : Prop := shrinkTreesRow.holds Try.pinned (OpenSpec.ofChange shrinkTreesWrong)

/-- 'parllaw5.CompareTells': WHATEVER THE INPUT: true; the input reads as it did. -/
def compareTellsSpec : ChangeSpec := { name := "compareTells", fn := fun _ => fun
  | [d1, d2, d3] => { results := [.lit (.bool true)], args := [d1, d2, d3] }
  | _ => none }
def compareTellsRow : OpenClaim := { program := "ytniobbepliknmaa", sum := "b1133e901c4fd970d1f657fd2cf912ee6b38e99e83b1a7fc91f0d15f79939890", func := "parlance/parllaw5.CompareTells", spec := "compareTells", unfollowed := true, recurses := true, plainKeys := false, apart := false }
def CompareTellsSaid : Prop := compareTellsRow.holds Try.pinned (OpenSpec.ofChange compareTellsSpec)

/-- ITS FALSE NEIGHBOUR: 'it returns false'. Refute it at one input. -/
def compareTellsWrong : ChangeSpec := { name := "compareTells", fn := fun _ => fun
  | [d1, d2, d3] => { results := [.lit (.bool false)], args := [d1, d2, d3] }
  | _ => none }
def CompareTellsWrongFalsely : Prop := compareTellsRow.holds Try.pinned (OpenSpec.ofChange compareTellsWrong)

/-- 'parllaw5.CensusTells': WHATEVER THE INPUT: true; the input reads as it did. -/
def censusTellsSpec : ChangeSpec := { name := "censusTells", fn := fun _ => fun
  | [d1, d2] => { results := [.lit (.bool true)], args := [d1, d2] }
  | _ => none }
def censusTellsRow : OpenClaim := { program := "ytniobbepliknmaa", sum := "b1133e901c4fd970d1f657fd2cf912ee6b38e99e83b1a7fc91f0d15f79939890", func := "parlance/parllaw5.CensusTells", spec := "censusTells", unfollowed := true, recurses := true, plainKeys := false, apart := false }
def CensusTellsSaid : Prop := censusTellsRow.holds Try.pinned (OpenSpec.ofChange censusTellsSpec)

/-- ITS FALSE NEIGHBOUR: 'it returns false'. Refute it at one input. -/
def censusTellsWrong : ChangeSpec := { name := "censusTells", fn := fun _ => fun
  | [d1, d2] => { results := [.lit (.bool false)], args := [d1, d2] }
  | _ => none }
def CensusTellsWrongFalsely : Prop := censusTellsRow.holds Try.pinned (OpenSpec.ofChange censusTellsWrong)

/-- 'parllaw5.LearnRefuses': WHATEVER THE INPUT: true; the input reads as it did. -/
def learnRefusesSpec : ChangeSpec := { name := "learnRefuses", fn := fun _ => fun
  | [d1, d2] => { results := [.lit (.bool true)], args := [d1, d2] }
  | _ => none }
def learnRefusesRow : OpenClaim := { program := "ytniobbepliknmaa", sum := "b1133e901c4fd970d1f657fd2cf912ee6b38e99e83b1a7fc91f0d15f79939890", func := "parlance/parllaw5.LearnRefuses", spec := "learnRefuses", unfollowed := true, recurses := true, plainKeys := false, apart := false }
def LearnRefusesSaid : Prop := learnRefusesRow.holds Try.pinned (OpenSpec.ofChange learnRefusesSpec)

/-- ITS FALSE NEIGHBOUR: 'it returns false'. Refute it at one input. -/
def learnRefusesWrong : ChangeSpec := { name := "learnRefuses", fn := fun _ => fun
  | [d1, d2] => { results := [.lit (.bool false)], args := [d1, d2] }
  | _ => none }
def LearnRefusesWrongFalsely : Prop := learnRefusesRow.holds Try.pinned (OpenSpec.ofChange learnRefusesWrong)

/-- 'parllaw5.LearnTells': WHATEVER THE INPUT: true; the input reads as it did. -/
def learnTellsSpec : ChangeSpec := { name := "learnTells", fn := fun _ => fun
  | [d1, d2] => { results := [.lit (.bool true)], args := [d1, d2] }
  | _ => none }
def learnTellsRow : OpenClaim := { program := "ytniobbepliknmaa", sum := "b1133e901c4fd970d1f657fd2cf912ee6b38e99e83b1a7fc91f0d15f79939890", func := "parlance/parllaw5.LearnTells", spec := "learnTells", unfollowed := true, recurses := true, plainKeys := false, apart := false }
def LearnTellsSaid : Prop := learnTellsRow.holds Try.pinned (OpenSpec.ofChange learnTellsSpec)

/-- ITS FALSE NEIGHBOUR: 'it returns false'. Refute it at one input. -/
def learnTellsWrong : ChangeSpec := { name := "learnTells", fn := fun _ => fun
  | [d1, d2] => { results := [.lit (.bool false)], args := [d1, d2] }
  | _ => none }
def LearnTellsWrongFalsely : Prop := learnTellsRow.holds Try.pinned (OpenSpec.ofChange learnTellsWrong)

/-- 'parllaw5.RankRefuses': WHATEVER THE INPUT: true; the input reads as it did. -/
def rankRefusesSpec : ChangeSpec := { name := "rankRefuses", fn := fun _ => fun
  | [d1, d2] => { results := [.lit (.bool true)], args := [d1, d2] }
  | _ => none }
def rankRefusesRow : OpenClaim := { program := "ytniobbepliknmaa", sum := "b1133e901c4fd970d1f657fd2cf912ee6b38e99e83b1a7fc91f0d15f79939890", func := "parlance/parllaw5.RankRefuses", spec := "rankRefuses", unfollowed := true, recurses := true, loops := true, plainKeys := false, apart := false }
def RankRefusesSaid : Prop := rankRefusesRow.holds Try.pinned (OpenSpec.ofChange rankRefusesSpec)

/-- ITS FALSE NEIGHBOUR: 'it returns false'. Refute it at one input. -/
def rankRefusesWrong : ChangeSpec := { name := "rankRefuses", fn := fun _ => fun
  | [d1, d2] => { results := [.lit (.bool false)], args := [d1, d2] }
  | _ => none }
def RankRefusesWrongFalsely : Prop := rankRefusesRow.holds Try.pinned (OpenSpec.ofChange rankRefusesWrong)

/-- 'parllaw5.DrawTrees': WHATEVER THE INPUT: true; the input reads as it did. -/
def drawTreesSpec : ChangeSpec := { name := "drawTrees", fn := fun _ => fun
  | [d1, d2, d3] => { results := [.lit (.bool true)], args := [d1, d2, d3] }
  | _ => none }
def drawTreesRow : OpenClaim := { program := "ytniobbepliknmaa", sum := "b1133e901c4fd970d1f657fd2cf912ee6b38e99e83b1a7fc91f0d15f79939890", func := "parlance/parllaw5.DrawTrees", spec := "drawTrees", unfollowed := true, recurses := true, plainKeys := false, apart := false }
def DrawTreesSaid : Prop := drawTreesRow.holds Try.pinned (OpenSpec.ofChange drawTreesSpec)

/-- ITS FALSE NEIGHBOUR: 'it returns false'. Refute it at one input. -/
def drawTreesWrong : ChangeSpec := { name := "drawTrees", fn := fun _ => fun
  | [d1, d2, d3] => { results := [.lit (.bool false)], args := [d1, d2, d3] }
  | _ => none }
def DrawTreesWrongFalsely : Prop := drawTreesRow.holds Try.pinned (OpenSpec.ofChange drawTreesWrong)

/-- 'parllaw5.RankTells': WHATEVER THE INPUT: true; the input reads as it did. -/
def rankTellsSpec : ChangeSpec := { name := "rankTells", fn := fun _ => fun
  | [d1, d2, d3] => { results := [.lit (.bool true)], args := [d1, d2, d3] }
  | _ => none }
def rankTellsRow : OpenClaim := { program := "ytniobbepliknmaa", sum := "b1133e901c4fd970d1f657fd2cf912ee6b38e99e83b1a7fc91f0d15f79939890", func := "parlance/parllaw5.RankTells", spec := "rankTells", unfollowed := true, recurses := true, plainKeys := false, apart := false }
def RankTellsSaid : Prop := rankTellsRow.holds Try.pinned (OpenSpec.ofChange rankTellsSpec)

/-- ITS FALSE NEIGHBOUR: 'it returns false'. Refute it at one input. -/
def rankTellsWrong : ChangeSpec := { name := "rankTells", fn := fun _ => fun
  | [d1, d2, d3] => { results := [.lit (.bool false)], args := [d1, d2, d3] }
  | _ => none }
def RankTellsWrongFalsely : Prop := rankTellsRow.holds Try.pinned (OpenSpec.ofChange rankTellsWrong)

/- THE SECOND FORM. 'bulk': how many values and letters a reading holds, each counted each time it is reached (what is shared counts as often as it is met; a slice's spare places count too). A statement '..UptoSaid' is the law's where the arguments, and the package variables that the reading takes, are together of bulk at most 1048576: NARROWER than '..Said'. Prove '..Said' where nothing that the law and all that it calls make is longer than what came in: it says more and counts as full. Else prove '..UptoSaid'. A law counts once. -/
mutual
def uptoBulk {H : Type} : DataW H → Nat
  | .lit (.string bytes) => bytes.length + 1
  | .lit _ => 1
  | .nil => 1
  | .ptr d => uptoBulk d + 1
  | .slice elems spare => uptoBulkAll elems + uptoBulkAll spare + 1
  | .agg parts => uptoBulkAll parts + 1
  | .iface _ d => uptoBulk d + 1
  | .map entries => uptoBulkEntries entries + 1
  | .held _ => 1
def uptoBulkAll {H : Type} : List (DataW H) → Nat
  | [] => 0
  | d :: r => uptoBulk d + uptoBulkAll r
def uptoBulkEntries {H : Type} : List (Lit × DataW H) → Nat
  | [] => 0
  | x :: r => uptoBulkEntry x + uptoBulkEntries r
def uptoBulkEntry {H : Type} : Lit × DataW H → Nat
  | (.string bytes, d) => bytes.length + uptoBulk d + 1
  | (_, d) => uptoBulk d + 1
 end
def uptoSmall : (H : Type) → List (DataW H) → Bool := fun _ ds => decide (uptoBulkAll ds ≤ 1048576)
def OpenSpec.upto (s : _root_.Go.ChangeSpec) : _root_.Go.OpenSpec := { _root_.Go.OpenSpec.ofChange s with cond := some uptoSmall }

/-- 'parllaw5.DrawNumbers', WHERE WHAT IT READS IS OF BULK AT MOST 1048576: true; the input reads as it did. -/
def drawNumbersUptoRow : OpenClaim := { program := "ytniobbepliknmaa", sum := "b1133e901c4fd970d1f657fd2cf912ee6b38e99e83b1a7fc91f0d15f79939890", func := "parlance/parllaw5.DrawNumbers", spec := "drawNumbers", plainKeys := false, apart := false, narrowed := true }
def DrawNumbersUptoSaid : Prop := drawNumbersUptoRow.holds Try.pinned (OpenSpec.upto drawNumbersSpec)

/-- 'parllaw5.DrawPicks', WHERE WHAT IT READS IS OF BULK AT MOST 1048576: true; the input reads as it did. -/
def drawPicksUptoRow : OpenClaim := { program := "ytniobbepliknmaa", sum := "b1133e901c4fd970d1f657fd2cf912ee6b38e99e83b1a7fc91f0d15f79939890", func := "parlance/parllaw5.DrawPicks", spec := "drawPicks", plainKeys := false, apart := false, narrowed := true }
def DrawPicksUptoSaid : Prop := drawPicksUptoRow.holds Try.pinned (OpenSpec.upto drawPicksSpec)

/-- 'parllaw5.GuessRules', WHERE WHAT IT READS IS OF BULK AT MOST 1048576: true; the input reads as it did. -/
def guessRulesUptoRow : OpenClaim := { program := "ytniobbepliknmaa", sum := "b1133e901c4fd970d1f657fd2cf912ee6b38e99e83b1a7fc91f0d15f79939890", func := "parlance/parllaw5.GuessRules", spec := "guessRules", unfollowed := true, recurses := true, plainKeys := false, apart := false, narrowed := true }
def GuessRulesUptoSaid : Prop := guessRulesUptoRow.holds Try.pinned (OpenSpec.upto guessRulesSpec)

/-- 'parllaw5.DrawOrders', WHERE WHAT IT READS IS OF BULK AT MOST 1048576: true; the input reads as it did. -/
def drawOrdersUptoRow : OpenClaim := { program := "ytniobbepliknmaa", sum := "b1133e901c4fd970d1f657fd2cf912ee6b38e99e83b1a7fc91f0d15f79939890", func := "parlance/parllaw5.DrawOrders", spec := "drawOrders", plainKeys := false, apart := false, narrowed := true }
def DrawOrdersUptoSaid : Prop := drawOrdersUptoRow.holds Try.pinned (OpenSpec.upto drawOrdersSpec)

/-- 'parllaw5.ShrinkWords', WHERE WHAT IT READS IS OF BULK AT MOST 1048576: true; the input reads as it did. -/
def shrinkWordsUptoRow : OpenClaim := { program := "ytniobbepliknmaa", sum := "b1133e901c4fd970d1f657fd2cf912ee6b38e99e83b1a7fc91f0d15f79939890", func := "parlance/parllaw5.ShrinkWords", spec := "shrinkWords", unfollowed := true, recurses := true, plainKeys := false, apart := false, narrowed := true }
def ShrinkWordsUptoSaid : Prop := shrinkWordsUptoRow.holds Try.pinned (OpenSpec.upto shrinkWordsSpec)

/-- 'parllaw5.LensTells', WHERE WHAT IT READS IS OF BULK AT MOST 1048576: true; the input reads as it did. -/
def lensTellsUptoRow : OpenClaim := { program := "ytniobbepliknmaa", sum := "b1133e901c4fd970d1f657fd2cf912ee6b38e99e83b1a7fc91f0d15f79939890", func := "parlance/parllaw5.LensTells", spec := "lensTells", unfollowed := true, recurses := true, plainKeys := false, apart := false, narrowed := true }
def LensTellsUptoSaid : Prop := lensTellsUptoRow.holds Try.pinned (OpenSpec.upto lensTellsSpec)

/-- 'parllaw5.TeachTells', WHERE WHAT IT READS IS OF BULK AT MOST 1048576: true; the input reads as it did. -/
def teachTellsUptoRow : OpenClaim := { program := "ytniobbepliknmaa", sum := "b1133e901c4fd970d1f657fd2cf912ee6b38e99e83b1a7fc91f0d15f79939890", func := "parlance/parllaw5.TeachTells", spec := "teachTells", unfollowed := true, recurses := true, plainKeys := false, apart := false, narrowed := true }
def TeachTellsUptoSaid : Prop := teachTellsUptoRow.holds Try.pinned (OpenSpec.upto teachTellsSpec)

/-- 'parllaw5.LensGreatest', WHERE WHAT IT READS IS OF BULK AT MOST 1048576: true; the input reads as it did. -/
def lensGreatestUptoRow : OpenClaim := { program := "ytniobbepliknmaa", sum := "b1133e901c4fd970d1f657fd2cf912ee6b38e99e83b1a7fc91f0d15f79939890", func := "parlance/parllaw5.LensGreatest", spec := "lensGreatest", unfollowed := true, recurses := true, plainKeys := false, apart := false, narrowed := true }
def LensGreatestUptoSaid : Prop := lensGreatestUptoRow.holds Try.pinned (OpenSpec.upto lensGreatestSpec)

/-- 'parllaw5.ApproxParts', WHERE WHAT IT READS IS OF BULK AT MOST 1048576: true; the input reads as it did. -/
def approxPartsUptoRow : OpenClaim := { program := "ytniobbepliknmaa", sum := "b1133e901c4fd970d1f657fd2cf912ee6b38e99e83b1a7fc91f0d15f79939890", func := "parlance/parllaw5.ApproxParts", spec := "approxParts", unfollowed := true, recurses := true, plainKeys := false, apart := false, narrowed := true }
def ApproxPartsUptoSaid : Prop := approxPartsUptoRow.holds Try.pinned (OpenSpec.upto approxPartsSpec)

/-- 'parllaw5.GuessTells', WHERE WHAT IT READS IS OF BULK AT MOST 1048576: true; the input reads as it did. -/
def guessTellsUptoRow : OpenClaim := { program := "ytniobbepliknmaa", sum := "b1133e901c4fd970d1f657fd2cf912ee6b38e99e83b1a7fc91f0d15f79939890", func := "parlance/parllaw5.GuessTells", spec := "guessTells", unfollowed := true, recurses := true, plainKeys := false, apart := false, narrowed := true }
def GuessTellsUptoSaid : Prop := guessTellsUptoRow.holds Try.pinned (OpenSpec.upto guessTellsSpec)

/-- 'parllaw5.ShrinkTrees', WHERE WHAT IT READS IS OF BULK AT MOST 1048576: true; the input reads as it did. -/
def shrinkTreesUptoRow : OpenClaim := { program := "ytniobbepliknmaa", sum := "b1133e901c4fd970d1f657fd2cf912ee6b38e99e83b1a7fc91f0d15f79939890", func := "parlance/parllaw5.ShrinkTrees", spec := "shrinkTrees", unfollowed := true, recurses := true, loops := true, plainKeys := false, apart := false, narrowed := true }
def ShrinkTreesUptoSaid : Prop := shrinkTreesUptoRow.holds Try.pinned (OpenSpec.upto shrinkTreesSpec)

/-- 'parllaw5.CompareTells', WHERE WHAT IT READS IS OF BULK AT MOST 1048576: true; the input reads as it did. -/
def compareTellsUptoRow : OpenClaim := { program := "ytniobbepliknmaa", sum := "b1133e901c4fd970d1f657fd2cf912ee6b38e99e83b1a7fc91f0d15f79939890", func := "parlance/parllaw5.CompareTells", spec := "compareTells", unfollowed := true, recurses := true, plainKeys := false, apart := false, narrowed := true }
def CompareTellsUptoSaid : Prop := compareTellsUptoRow.holds Try.pinned (OpenSpec.upto compareTellsSpec)

/-- 'parllaw5.CensusTells', WHERE WHAT IT READS IS OF BULK AT MOST 1048576: true; the input reads as it did. -/
def censusTellsUptoRow : OpenClaim := { program := "ytniobbepliknmaa", sum := "b1133e901c4fd970d1f657fd2cf912ee6b38e99e83b1a7fc91f0d15f79939890", func := "parlance/parllaw5.CensusTells", spec := "censusTells", unfollowed := true, recurses := true, plainKeys := false, apart := false, narrowed := true }
def CensusTellsUptoSaid : Prop := censusTellsUptoRow.holds Try.pinned (OpenSpec.upto censusTellsSpec)

/-- 'parllaw5.LearnRefuses', WHERE WHAT IT READS IS OF BULK AT MOST 1048576: true; the input reads as it did. -/
def learnRefusesUptoRow : OpenClaim := { program := "ytniobbepliknmaa", sum := "b1133e901c4fd970d1f657fd2cf912ee6b38e99e83b1a7fc91f0d15f79939890", func := "parlance/parllaw5.LearnRefuses", spec := "learnRefuses", unfollowed := true, recurses := true, plainKeys := false, apart := false, narrowed := true }
def LearnRefusesUptoSaid : Prop := learnRefusesUptoRow.holds Try.pinned (OpenSpec.upto learnRefusesSpec)

/-- 'parllaw5.LearnTells', WHERE WHAT IT READS IS OF BULK AT MOST 1048576: true; the input reads as it did. -/
def learnTellsUptoRow : OpenClaim := { program := "ytniobbepliknmaa", sum := "b1133e901c4fd970d1f657fd2cf912ee6b38e99e83b1a7fc91f0d15f79939890", func := "parlance/parllaw5.LearnTells", spec := "learnTells", unfollowed := true, recurses := true, plainKeys := false, apart := false, narrowed := true }
def LearnTellsUptoSaid : Prop := learnTellsUptoRow.holds Try.pinned (OpenSpec.upto learnTellsSpec)

/-- 'parllaw5.RankRefuses', WHERE WHAT IT READS IS OF BULK AT MOST 1048576: true; the input reads as it did. -/
def rankRefusesUptoRow : OpenClaim := { program := "ytniobbepliknmaa", sum := "b1133e901c4fd970d1f657fd2cf912ee6b38e99e83b1a7fc91f0d15f79939890", func := "parlance/parllaw5.RankRefuses", spec := "rankRefuses", unfollowed := true, recurses := true, loops := true, plainKeys := false, apart := false, narrowed := true }
def RankRefusesUptoSaid : Prop := rankRefusesUptoRow.holds Try.pinned (OpenSpec.upto rankRefusesSpec)

/-- 'parllaw5.DrawTrees', WHERE WHAT IT READS IS OF BULK AT MOST 1048576: true; the input reads as it did. -/
def drawTreesUptoRow : OpenClaim := { program := "ytniobbepliknmaa", sum := "b1133e901c4fd970d1f657fd2cf912ee6b38e99e83b1a7fc91f0d15f79939890", func := "parlance/parllaw5.DrawTrees", spec := "drawTrees", unfollowed := true, recurses := true, plainKeys := false, apart := false, narrowed := true }
def DrawTreesUptoSaid : Prop := drawTreesUptoRow.holds Try.pinned (OpenSpec.upto drawTreesSpec)

/-- 'parllaw5.RankTells', WHERE WHAT IT READS IS OF BULK AT MOST 1048576: true; the input reads as it did. -/
def rankTellsUptoRow : OpenClaim := { program := "ytniobbepliknmaa", sum := "b1133e901c4fd970d1f657fd2cf912ee6b38e99e83b1a7fc91f0d15f79939890", func := "parlance/parllaw5.RankTells", spec := "rankTells", unfollowed := true, recurses := true, plainKeys := false, apart := false, narrowed := true }
def RankTellsUptoSaid : Prop := rankTellsUptoRow.holds Try.pinned (OpenSpec.upto rankTellsSpec)

end Rows
end Go.Proofs.Ytniobbepliknmaa
