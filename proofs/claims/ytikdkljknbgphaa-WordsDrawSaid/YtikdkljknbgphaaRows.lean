/-
  No cell of these rows narrows 'for every input' (looked for: loops, veiled, ifaces, maps, wideKeys, modest, calm, conditions, laid).
  DERIVED. THE GIVEN ROWS OF THIS SEAT. 12 by the template 'for every input the law returns true; each argument reads behind the call as it read before'; 0 by the template 'total and deterministic' (their statements: YtikdkljknbgphaaTotals.lean).
  GIVEN WITH THE SEED: the statements are not yours to turn. If you find one false, say at which input.
  Laid BY PROGRAM, IN A SANDBOX (cutbox-rows.mjs): the forced cells as the released guide's own fill.sh prints them over the translation e89c4ca166f4de3c… (all of the seat's roots in one cut). By AI agents, Wed Nov 11 2026. No macro, syntax, notation, axiom, sorry.
-/
import Derived.Test.YtikdkljknbgphaaChecked
import GoSem.Claim
import GoSem.ClaimJoined
import GoSem.ClaimMapViews
import Derived.JoinedTies
import Derived.KernelRfl
namespace Go.Proofs.Ytikdkljknbgphaa
/- THE CELL 'sum', in the pinned program and in every row, IS THE sha256 OF THE DUMP (.gsa) THAT YtikdkljknbgphaaProg.lean LOADS. Nothing in Lean hashes anything: it is a label: what it is worth is what the hold of that sum in a sandbox is worth. -/
noncomputable def Try.pinned : Pinned := { name := "ytikdkljknbgphaa", sum := "e89c4ca166f4de3c4259e73edf77cb04daca9bb19d4dccf3157ef24ded9f7b3a", checked := Try.checked }
namespace Rows
def none {H : Type} : Left H := { results := [], args := [] }

/-- 'hoistwaylaw10.LcgJumps': WHATEVER THE INPUT: true; the input reads as it did. -/
def lcgJumpsSpec : ChangeSpec := { name := "lcgJumps", fn := fun _ => fun
  | [d1, d2, d3] => { results := [.lit (.bool true)], args := [d1, d2, d3] }
  | _ => none }
def lcgJumpsRow : OpenClaim := { program := "ytikdkljknbgphaa", sum := "e89c4ca166f4de3c4259e73edf77cb04daca9bb19d4dccf3157ef24ded9f7b3a", func := "hoistway/hoistwaylaw10.LcgJumps", spec := "lcgJumps", apart := false }
def LcgJumpsSaid : Prop := lcgJumpsRow.holds Try.pinned (OpenSpec.ofChange lcgJumpsSpec)

/-- ITS FALSE NEIGHBOUR: 'it returns false'. Refute it at one input. -/
def lcgJumpsWrong : ChangeSpec := { name := "lcgJumps", fn := fun _ => fun
  | [d1, d2, d3] => { results := [.lit (.bool false)], args := [d1, d2, d3] }
  | _ => none }
def LcgJumpsWrongFalsely : Prop := lcgJumpsRow.holds Try.pinned (OpenSpec.ofChange lcgJumpsWrong)

/-- 'hoistwaylaw64.EnergySteps': WHATEVER THE INPUT: true; the input reads as it did. -/
def energyStepsSpec : ChangeSpec := { name := "energySteps", fn := fun _ => fun
  | [d1, d2, d3] => { results := [.lit (.bool true)], args := [d1, d2, d3] }
  | _ => none }
def energyStepsRow : OpenClaim := { program := "ytikdkljknbgphaa", sum := "e89c4ca166f4de3c4259e73edf77cb04daca9bb19d4dccf3157ef24ded9f7b3a", func := "hoistway/hoistwaylaw64.EnergySteps", spec := "energySteps", apart := false }
def EnergyStepsSaid : Prop := energyStepsRow.holds Try.pinned (OpenSpec.ofChange energyStepsSpec)

/-- ITS FALSE NEIGHBOUR: 'it returns false'. Refute it at one input. -/
def energyStepsWrong : ChangeSpec := { name := "energySteps", fn := fun _ => fun
  | [d1, d2, d3] => { results := [.lit (.bool false)], args := [d1, d2, d3] }
  | _ => none }
def EnergyStepsWrongFalsely : Prop := energyStepsRow.holds Try.pinned (OpenSpec.ofChange energyStepsWrong)

/-- 'hoistwaylaw10.LcgMakes': WHATEVER THE INPUT: true; the input reads as it did. -/
def lcgMakesSpec : ChangeSpec := { name := "lcgMakes", fn := fun _ => fun
  | [d1, d2] => { results := [.lit (.bool true)], args := [d1, d2] }
  | _ => none }
def lcgMakesRow : OpenClaim := { program := "ytikdkljknbgphaa", sum := "e89c4ca166f4de3c4259e73edf77cb04daca9bb19d4dccf3157ef24ded9f7b3a", func := "hoistway/hoistwaylaw10.LcgMakes", spec := "lcgMakes", apart := false }
def LcgMakesSaid : Prop := lcgMakesRow.holds Try.pinned (OpenSpec.ofChange lcgMakesSpec)

/-- ITS FALSE NEIGHBOUR: 'it returns false'. Refute it at one input. -/
def lcgMakesWrong : ChangeSpec := { name := "lcgMakes", fn := fun _ => fun
  | [d1, d2] => { results := [.lit (.bool false)], args := [d1, d2] }
  | _ => none }
def LcgMakesWrongFalsely : Prop := lcgMakesRow.holds Try.pinned (OpenSpec.ofChange lcgMakesWrong)

/-- 'hoistwaylaw22.WhenTells': WHATEVER THE INPUT: true; the input reads as it did. -/
def whenTellsSpec : ChangeSpec := { name := "whenTells", fn := fun _ => fun
  | [d1, d2, d3] => { results := [.lit (.bool true)], args := [d1, d2, d3] }
  | _ => none }
def whenTellsRow : OpenClaim := { program := "ytikdkljknbgphaa", sum := "e89c4ca166f4de3c4259e73edf77cb04daca9bb19d4dccf3157ef24ded9f7b3a", func := "hoistway/hoistwaylaw22.WhenTells", spec := "whenTells", apart := false }
def WhenTellsSaid : Prop := whenTellsRow.holds Try.pinned (OpenSpec.ofChange whenTellsSpec)

/-- ITS FALSE NEIGHBOUR: 'it returns false'. Refute it at one input. -/
def whenTellsWrong : ChangeSpec := { name := "whenTells", fn := fun _ => fun
  | [d1, d2, d3] => { results := [.lit (.bool false)], args := [d1, d2, d3] }
  | _ => none }
def WhenTellsWrongFalsely : Prop := whenTellsRow.holds Try.pinned (OpenSpec.ofChange whenTellsWrong)

/-- 'hoistwaylaw22.WhenTicks': WHATEVER THE INPUT: true; the input reads as it did. -/
def whenTicksSpec : ChangeSpec := { name := "whenTicks", fn := fun _ => fun
  | [d] => { results := [.lit (.bool true)], args := [d] }
  | _ => none }
def whenTicksRow : OpenClaim := { program := "ytikdkljknbgphaa", sum := "e89c4ca166f4de3c4259e73edf77cb04daca9bb19d4dccf3157ef24ded9f7b3a", func := "hoistway/hoistwaylaw22.WhenTicks", spec := "whenTicks", apart := false }
def WhenTicksSaid : Prop := whenTicksRow.holds Try.pinned (OpenSpec.ofChange whenTicksSpec)

/-- ITS FALSE NEIGHBOUR: 'it returns false'. Refute it at one input. -/
def whenTicksWrong : ChangeSpec := { name := "whenTicks", fn := fun _ => fun
  | [d] => { results := [.lit (.bool false)], args := [d] }
  | _ => none }
def WhenTicksWrongFalsely : Prop := whenTicksRow.holds Try.pinned (OpenSpec.ofChange whenTicksWrong)

/-- 'hoistwaylaw12.DrawInverse': WHATEVER THE INPUT: true; the input reads as it did. -/
def drawInverseSpec : ChangeSpec := { name := "drawInverse", fn := fun _ => fun
  | [d1, d2] => { results := [.lit (.bool true)], args := [d1, d2] }
  | _ => none }
def drawInverseRow : OpenClaim := { program := "ytikdkljknbgphaa", sum := "e89c4ca166f4de3c4259e73edf77cb04daca9bb19d4dccf3157ef24ded9f7b3a", func := "hoistway/hoistwaylaw12.DrawInverse", spec := "drawInverse", apart := false }
def DrawInverseSaid : Prop := drawInverseRow.holds Try.pinned (OpenSpec.ofChange drawInverseSpec)

/-- ITS FALSE NEIGHBOUR: 'it returns false'. Refute it at one input. -/
def drawInverseWrong : ChangeSpec := { name := "drawInverse", fn := fun _ => fun
  | [d1, d2] => { results := [.lit (.bool false)], args := [d1, d2] }
  | _ => none }
def DrawInverseWrongFalsely : Prop := drawInverseRow.holds Try.pinned (OpenSpec.ofChange drawInverseWrong)

/-- 'hoistwaylaw12.DrawNext': WHATEVER THE INPUT: true; the input reads as it did. -/
def drawNextSpec : ChangeSpec := { name := "drawNext", fn := fun _ => fun
  | [d1, d2] => { results := [.lit (.bool true)], args := [d1, d2] }
  | _ => none }
def drawNextRow : OpenClaim := { program := "ytikdkljknbgphaa", sum := "e89c4ca166f4de3c4259e73edf77cb04daca9bb19d4dccf3157ef24ded9f7b3a", func := "hoistway/hoistwaylaw12.DrawNext", spec := "drawNext", apart := false }
def DrawNextSaid : Prop := drawNextRow.holds Try.pinned (OpenSpec.ofChange drawNextSpec)

/-- ITS FALSE NEIGHBOUR: 'it returns false'. Refute it at one input. -/
def drawNextWrong : ChangeSpec := { name := "drawNext", fn := fun _ => fun
  | [d1, d2] => { results := [.lit (.bool false)], args := [d1, d2] }
  | _ => none }
def DrawNextWrongFalsely : Prop := drawNextRow.holds Try.pinned (OpenSpec.ofChange drawNextWrong)

/-- 'hoistwaylaw13.PickTells': WHATEVER THE INPUT: true; the input reads as it did. -/
def pickTellsSpec : ChangeSpec := { name := "pickTells", fn := fun _ => fun
  | [d1, d2] => { results := [.lit (.bool true)], args := [d1, d2] }
  | _ => none }
def pickTellsRow : OpenClaim := { program := "ytikdkljknbgphaa", sum := "e89c4ca166f4de3c4259e73edf77cb04daca9bb19d4dccf3157ef24ded9f7b3a", func := "hoistway/hoistwaylaw13.PickTells", spec := "pickTells", apart := false }
def PickTellsSaid : Prop := pickTellsRow.holds Try.pinned (OpenSpec.ofChange pickTellsSpec)

/-- ITS FALSE NEIGHBOUR: 'it returns false'. Refute it at one input. -/
def pickTellsWrong : ChangeSpec := { name := "pickTells", fn := fun _ => fun
  | [d1, d2] => { results := [.lit (.bool false)], args := [d1, d2] }
  | _ => none }
def PickTellsWrongFalsely : Prop := pickTellsRow.holds Try.pinned (OpenSpec.ofChange pickTellsWrong)

/-- 'hoistwaylaw13.PickWeighs': WHATEVER THE INPUT: true; the input reads as it did. -/
def pickWeighsSpec : ChangeSpec := { name := "pickWeighs", fn := fun _ => fun
  | [d1, d2, d3] => { results := [.lit (.bool true)], args := [d1, d2, d3] }
  | _ => none }
def pickWeighsRow : OpenClaim := { program := "ytikdkljknbgphaa", sum := "e89c4ca166f4de3c4259e73edf77cb04daca9bb19d4dccf3157ef24ded9f7b3a", func := "hoistway/hoistwaylaw13.PickWeighs", spec := "pickWeighs", apart := false }
def PickWeighsSaid : Prop := pickWeighsRow.holds Try.pinned (OpenSpec.ofChange pickWeighsSpec)

/-- ITS FALSE NEIGHBOUR: 'it returns false'. Refute it at one input. -/
def pickWeighsWrong : ChangeSpec := { name := "pickWeighs", fn := fun _ => fun
  | [d1, d2, d3] => { results := [.lit (.bool false)], args := [d1, d2, d3] }
  | _ => none }
def PickWeighsWrongFalsely : Prop := pickWeighsRow.holds Try.pinned (OpenSpec.ofChange pickWeighsWrong)

/-- 'hoistwaylaw13.PickNext': WHATEVER THE INPUT: true; the input reads as it did. -/
def pickNextSpec : ChangeSpec := { name := "pickNext", fn := fun _ => fun
  | [d1, d2] => { results := [.lit (.bool true)], args := [d1, d2] }
  | _ => none }
def pickNextRow : OpenClaim := { program := "ytikdkljknbgphaa", sum := "e89c4ca166f4de3c4259e73edf77cb04daca9bb19d4dccf3157ef24ded9f7b3a", func := "hoistway/hoistwaylaw13.PickNext", spec := "pickNext", apart := false }
def PickNextSaid : Prop := pickNextRow.holds Try.pinned (OpenSpec.ofChange pickNextSpec)

/-- ITS FALSE NEIGHBOUR: 'it returns false'. Refute it at one input. -/
def pickNextWrong : ChangeSpec := { name := "pickNext", fn := fun _ => fun
  | [d1, d2] => { results := [.lit (.bool false)], args := [d1, d2] }
  | _ => none }
def PickNextWrongFalsely : Prop := pickNextRow.holds Try.pinned (OpenSpec.ofChange pickNextWrong)

/-- 'hoistwaylaw05.WordsBelow': WHATEVER THE INPUT: true; the input reads as it did. -/
def wordsBelowSpec : ChangeSpec := { name := "wordsBelow", fn := fun _ => fun
  | [d1, d2] => { results := [.lit (.bool true)], args := [d1, d2] }
  | _ => none }
def wordsBelowRow : OpenClaim := { program := "ytikdkljknbgphaa", sum := "e89c4ca166f4de3c4259e73edf77cb04daca9bb19d4dccf3157ef24ded9f7b3a", func := "hoistway/hoistwaylaw05.WordsBelow", spec := "wordsBelow", apart := false }
def WordsBelowSaid : Prop := wordsBelowRow.holds Try.pinned (OpenSpec.ofChange wordsBelowSpec)

/-- ITS FALSE NEIGHBOUR: 'it returns false'. Refute it at one input. -/
def wordsBelowWrong : ChangeSpec := { name := "wordsBelow", fn := fun _ => fun
  | [d1, d2] => { results := [.lit (.bool false)], args := [d1, d2] }
  | _ => none }
def WordsBelowWrongFalsely : Prop := wordsBelowRow.holds Try.pinned (OpenSpec.ofChange wordsBelowWrong)

/-- 'hoistwaylaw05.WordsDraw': WHATEVER THE INPUT: true; the input reads as it did. -/
def wordsDrawSpec : ChangeSpec := { name := "wordsDraw", fn := fun _ => fun
  | [d1, d2] => { results := [.lit (.bool true)], args := [d1, d2] }
  | _ => none }
def wordsDrawRow : OpenClaim := { program := "ytikdkljknbgphaa", sum := "e89c4ca166f4de3c4259e73edf77cb04daca9bb19d4dccf3157ef24ded9f7b3a", func := "hoistway/hoistwaylaw05.WordsDraw", spec := "wordsDraw", apart := false }
def WordsDrawSaid : Prop := wordsDrawRow.holds Try.pinned (OpenSpec.ofChange wordsDrawSpec)

/-- ITS FALSE NEIGHBOUR: 'it returns false'. Refute it at one input. -/
def wordsDrawWrong : ChangeSpec := { name := "wordsDraw", fn := fun _ => fun
  | [d1, d2] => { results := [.lit (.bool false)], args := [d1, d2] }
  | _ => none }
def WordsDrawWrongFalsely : Prop := wordsDrawRow.holds Try.pinned (OpenSpec.ofChange wordsDrawWrong)

/- THE SECOND FORM. 'bulk': how many values and letters a reading holds, each counted each time it is reached (what is shared counts as often as it is met; a slice's spare places count too). A statement '..UptoSaid' is the law's where the arguments, and the package variables that the reading takes, are together of bulk at most 1048576: NARROWER than '..Said'. Prove '..Said' where nothing that the law and all that it calls make is longer than what came in: it says more and counts as full. Else prove '..UptoSaid'. A law counts once. -/
mutual
def uptoBulk {H : Type} : DataW H → Nat
  | .lit (.string bytes) => bytes.length + 1
  | .lit _ => 1
  | .nil => 1
  | .ptr d => uptoBulk d + 1
  | .slice elems spare => uptoBulkAll elems + uptoBulkAll spare + 1
  | .agg parts => uptoBulkAll parts + 1
  | .iface _ d => uptoBulk d + 1
  | .map entries => uptoBulkEntries entries + 1
  | .held _ => 1
def uptoBulkAll {H : Type} : List (DataW H) → Nat
  | [] => 0
  | d :: r => uptoBulk d + uptoBulkAll r
def uptoBulkEntries {H : Type} : List (Lit × DataW H) → Nat
  | [] => 0
  | x :: r => uptoBulkEntry x + uptoBulkEntries r
def uptoBulkEntry {H : Type} : Lit × DataW H → Nat
  | (.string bytes, d) => bytes.length + uptoBulk d + 1
  | (_, d) => uptoBulk d + 1
 end
def uptoSmall : (H : Type) → List (DataW H) → Bool := fun _ ds => decide (uptoBulkAll ds ≤ 1048576)
def OpenSpec.upto (s : _root_.Go.ChangeSpec) : _root_.Go.OpenSpec := { _root_.Go.OpenSpec.ofChange s with cond := some uptoSmall }

/-- 'hoistwaylaw10.LcgJumps', WHERE WHAT IT READS IS OF BULK AT MOST 1048576: true; the input reads as it did. -/
def lcgJumpsUptoRow : OpenClaim := { program := "ytikdkljknbgphaa", sum := "e89c4ca166f4de3c4259e73edf77cb04daca9bb19d4dccf3157ef24ded9f7b3a", func := "hoistway/hoistwaylaw10.LcgJumps", spec := "lcgJumps", apart := false, narrowed := true }
def LcgJumpsUptoSaid : Prop := lcgJumpsUptoRow.holds Try.pinned (OpenSpec.upto lcgJumpsSpec)

/-- 'hoistwaylaw64.EnergySteps', WHERE WHAT IT READS IS OF BULK AT MOST 1048576: true; the input reads as it did. -/
def energyStepsUptoRow : OpenClaim := { program := "ytikdkljknbgphaa", sum := "e89c4ca166f4de3c4259e73edf77cb04daca9bb19d4dccf3157ef24ded9f7b3a", func := "hoistway/hoistwaylaw64.EnergySteps", spec := "energySteps", apart := false, narrowed := true }
def EnergyStepsUptoSaid : Prop := energyStepsUptoRow.holds Try.pinned (OpenSpec.upto energyStepsSpec)

/-- 'hoistwaylaw10.LcgMakes', WHERE WHAT IT READS IS OF BULK AT MOST 1048576: true; the input reads as it did. -/
def lcgMakesUptoRow : OpenClaim := { program := "ytikdkljknbgphaa", sum := "e89c4ca166f4de3c4259e73edf77cb04daca9bb19d4dccf3157ef24ded9f7b3a", func := "hoistway/hoistwaylaw10.LcgMakes", spec := "lcgMakes", apart := false, narrowed := true }
def LcgMakesUptoSaid : Prop := lcgMakesUptoRow.holds Try.pinned (OpenSpec.upto lcgMakesSpec)

/-- 'hoistwaylaw22.WhenTells', WHERE WHAT IT READS IS OF BULK AT MOST 1048576: true; the input reads as it did. -/
def whenTellsUptoRow : OpenClaim := { program := "ytikdkljknbgphaa", sum := "e89c4ca166f4de3c4259e73edf77cb04daca9bb19d4dccf3157ef24ded9f7b3a", func := "hoistway/hoistwaylaw22.WhenTells", spec := "whenTells", apart := false, narrowed := true }
def WhenTellsUptoSaid : Prop := whenTellsUptoRow.holds Try.pinned (OpenSpec.upto whenTellsSpec)

/-- 'hoistwaylaw22.WhenTicks', WHERE WHAT IT READS IS OF BULK AT MOST 1048576: true; the input reads as it did. -/
def whenTicksUptoRow : OpenClaim := { program := "ytikdkljknbgphaa", sum := "e89c4ca166f4de3c4259e73edf77cb04daca9bb19d4dccf3157ef24ded9f7b3a", func := "hoistway/hoistwaylaw22.WhenTicks", spec := "whenTicks", apart := false, narrowed := true }
def WhenTicksUptoSaid : Prop := whenTicksUptoRow.holds Try.pinned (OpenSpec.upto whenTicksSpec)

/-- 'hoistwaylaw12.DrawInverse', WHERE WHAT IT READS IS OF BULK AT MOST 1048576: true; the input reads as it did. -/
def drawInverseUptoRow : OpenClaim := { program := "ytikdkljknbgphaa", sum := "e89c4ca166f4de3c4259e73edf77cb04daca9bb19d4dccf3157ef24ded9f7b3a", func := "hoistway/hoistwaylaw12.DrawInverse", spec := "drawInverse", apart := false, narrowed := true }
def DrawInverseUptoSaid : Prop := drawInverseUptoRow.holds Try.pinned (OpenSpec.upto drawInverseSpec)

/-- 'hoistwaylaw12.DrawNext', WHERE WHAT IT READS IS OF BULK AT MOST 1048576: true; the input reads as it did. -/
def drawNextUptoRow : OpenClaim := { program := "ytikdkljknbgphaa", sum := "e89c4ca166f4de3c4259e73edf77cb04daca9bb19d4dccf3157ef24ded9f7b3a", func := "hoistway/hoistwaylaw12.DrawNext", spec := "drawNext", apart := false, narrowed := true }
def DrawNextUptoSaid : Prop := drawNextUptoRow.holds Try.pinned (OpenSpec.upto drawNextSpec)

/-- 'hoistwaylaw13.PickTells', WHERE WHAT IT READS IS OF BULK AT MOST 1048576: true; the input reads as it did. -/
def pickTellsUptoRow : OpenClaim := { program := "ytikdkljknbgphaa", sum := "e89c4ca166f4de3c4259e73edf77cb04daca9bb19d4dccf3157ef24ded9f7b3a", func := "hoistway/hoistwaylaw13.PickTells", spec := "pickTells", apart := false, narrowed := true }
def PickTellsUptoSaid : Prop := pickTellsUptoRow.holds Try.pinned (OpenSpec.upto pickTellsSpec)

/-- 'hoistwaylaw13.PickWeighs', WHERE WHAT IT READS IS OF BULK AT MOST 1048576: true; the input reads as it did. -/
def pickWeighsUptoRow : OpenClaim := { program := "ytikdkljknbgphaa", sum := "e89c4ca166f4de3c4259e73edf77cb04daca9bb19d4dccf3157ef24ded9f7b3a", func := "hoistway/hoistwaylaw13.PickWeighs", spec := "pickWeighs", apart := false, narrowed := true }
def PickWeighsUptoSaid : Prop := pickWeighsUptoRow.holds Try.pinned (OpenSpec.upto pickWeighsSpec)

/-- 'hoistwaylaw13.PickNext', WHERE WHAT IT READS IS OF BULK AT MOST 1048576: true; the input reads as it did. -/
def pickNextUptoRow : OpenClaim := { program := "ytikdkljknbgphaa", sum := "e89c4ca166f4de3c4259e73edf77cb04daca9bb19d4dccf3157ef24ded9f7b3a", func := "hoistway/hoistwaylaw13.PickNext", spec := "pickNext", apart := false, narrowed := true }
def PickNextUptoSaid : Prop := pickNextUptoRow.holds Try.pinned (OpenSpec.upto pickNextSpec)

/-- 'hoistwaylaw05.WordsBelow', WHERE WHAT IT READS IS OF BULK AT MOST 1048576: true; the input reads as it did. -/
def wordsBelowUptoRow : OpenClaim := { program := "ytikdkljknbgphaa", sum := "e89c4ca166f4de3c4259e73edf77cb04daca9bb19d4dccf3157ef24ded9f7b3a", func := "hoistway/hoistwaylaw05.WordsBelow", spec := "wordsBelow", apart := false, narrowed := true }
def WordsBelowUptoSaid : Prop := wordsBelowUptoRow.holds Try.pinned (OpenSpec.upto wordsBelowSpec)

/-- 'hoistwaylaw05.WordsDraw', WHERE WHAT IT READS IS OF BULK AT MOST 1048576: true; the input reads as it did. -/
def wordsDrawUptoRow : OpenClaim := { program := "ytikdkljknbgphaa", sum := "e89c4ca166f4de3c4259e73edf77cb04daca9bb19d4dccf3157ef24ded9f7b3a", func := "hoistway/hoistwaylaw05.WordsDraw", spec := "wordsDraw", apart := false, narrowed := true }
def WordsDrawUptoSaid : Prop := wordsDrawUptoRow.holds Try.pinned (OpenSpec.upto wordsDrawSpec)

end Rows
end Go.Proofs.Ytikdkljknbgphaa
