/-
  No cell of these rows narrows 'for every input' (looked for: loops, veiled, ifaces, maps, wideKeys, modest, calm, conditions, laid).
  DERIVED. THE GIVEN ROWS OF THIS SEAT. 12 by the template 'for every input the law returns true; each argument reads behind the call as it read before'; 0 by the template 'total and deterministic' (their statements: YtkgkilogjodccaaTotals.lean).
  GIVEN WITH THE SEED: the statements are not yours to turn. If you find one false, say at which input.
  Laid BY PROGRAM, IN A SANDBOX (cutbox-rows.mjs): the forced cells as the released guide's own fill.sh prints them over the translation cd6c9c8a1651766f… (all of the seat's roots in one cut). By AI agents, Wed Nov 11 2026. No macro, syntax, notation, axiom, sorry.
-/
import Derived.Test.YtkgkilogjodccaaChecked
import GoSem.Claim
import GoSem.ClaimJoined
import GoSem.ClaimMapViews
import Derived.JoinedTies
import Derived.KernelRfl
namespace Go.Proofs.Ytkgkilogjodccaa
/- THE CELL 'sum', in the pinned program and in every row, IS THE sha256 OF THE DUMP (.gsa) THAT YtkgkilogjodccaaProg.lean LOADS. Nothing in Lean hashes anything: it is a label: what it is worth is what the hold of that sum in a sandbox is worth. -/
noncomputable def Try.pinned : Pinned := { name := "ytkgkilogjodccaa", sum := "cd6c9c8a1651766fdf17b3dea6d4023e57a9f26f14ff5164cade147f3b8e8156", checked := Try.checked }
namespace Rows
def none {H : Type} : Left H := { results := [], args := [] }

/-- 'hoistwaylaw11.CumulTables': WHATEVER THE INPUT: true; the input reads as it did. -/
def cumulTablesSpec : ChangeSpec := { name := "cumulTables", fn := fun _ => fun
  | [d] => { results := [.lit (.bool true)], args := [d] }
  | _ => none }
def cumulTablesRow : OpenClaim := { program := "ytkgkilogjodccaa", sum := "cd6c9c8a1651766fdf17b3dea6d4023e57a9f26f14ff5164cade147f3b8e8156", func := "hoistway/hoistwaylaw11.CumulTables", spec := "cumulTables", apart := false }
def CumulTablesSaid : Prop := cumulTablesRow.holds Try.pinned (OpenSpec.ofChange cumulTablesSpec)

/-- ITS FALSE NEIGHBOUR: 'it returns false'. Refute it at one input. -/
def cumulTablesWrong : ChangeSpec := { name := "cumulTables", fn := fun _ => fun
  | [d] => { results := [.lit (.bool false)], args := [d] }
  | _ => none }
def CumulTablesWrongFalsely : Prop := cumulTablesRow.holds Try.pinned (OpenSpec.ofChange cumulTablesWrong)

/-- 'hoistwaylaw11.CumulTells': WHATEVER THE INPUT: true; the input reads as it did. -/
def cumulTellsSpec : ChangeSpec := { name := "cumulTells", fn := fun _ => fun
  | [d1, d2] => { results := [.lit (.bool true)], args := [d1, d2] }
  | _ => none }
def cumulTellsRow : OpenClaim := { program := "ytkgkilogjodccaa", sum := "cd6c9c8a1651766fdf17b3dea6d4023e57a9f26f14ff5164cade147f3b8e8156", func := "hoistway/hoistwaylaw11.CumulTells", spec := "cumulTells", apart := false }
def CumulTellsSaid : Prop := cumulTellsRow.holds Try.pinned (OpenSpec.ofChange cumulTellsSpec)

/-- ITS FALSE NEIGHBOUR: 'it returns false'. Refute it at one input. -/
def cumulTellsWrong : ChangeSpec := { name := "cumulTells", fn := fun _ => fun
  | [d1, d2] => { results := [.lit (.bool false)], args := [d1, d2] }
  | _ => none }
def CumulTellsWrongFalsely : Prop := cumulTellsRow.holds Try.pinned (OpenSpec.ofChange cumulTellsWrong)

/-- 'hoistwaylaw11.CumulFair': WHATEVER THE INPUT: true; the input reads as it did. -/
def cumulFairSpec : ChangeSpec := { name := "cumulFair", fn := fun _ => fun
  | [d] => { results := [.lit (.bool true)], args := [d] }
  | _ => none }
def cumulFairRow : OpenClaim := { program := "ytkgkilogjodccaa", sum := "cd6c9c8a1651766fdf17b3dea6d4023e57a9f26f14ff5164cade147f3b8e8156", func := "hoistway/hoistwaylaw11.CumulFair", spec := "cumulFair", apart := false }
def CumulFairSaid : Prop := cumulFairRow.holds Try.pinned (OpenSpec.ofChange cumulFairSpec)

/-- ITS FALSE NEIGHBOUR: 'it returns false'. Refute it at one input. -/
def cumulFairWrong : ChangeSpec := { name := "cumulFair", fn := fun _ => fun
  | [d] => { results := [.lit (.bool false)], args := [d] }
  | _ => none }
def CumulFairWrongFalsely : Prop := cumulFairRow.holds Try.pinned (OpenSpec.ofChange cumulFairWrong)

/-- 'hoistwaylaw14.HistCounts': WHATEVER THE INPUT: true; the input reads as it did. -/
def histCountsSpec : ChangeSpec := { name := "histCounts", fn := fun _ => fun
  | [d1, d2, d3] => { results := [.lit (.bool true)], args := [d1, d2, d3] }
  | _ => none }
def histCountsRow : OpenClaim := { program := "ytkgkilogjodccaa", sum := "cd6c9c8a1651766fdf17b3dea6d4023e57a9f26f14ff5164cade147f3b8e8156", func := "hoistway/hoistwaylaw14.HistCounts", spec := "histCounts", apart := false }
def HistCountsSaid : Prop := histCountsRow.holds Try.pinned (OpenSpec.ofChange histCountsSpec)

/-- ITS FALSE NEIGHBOUR: 'it returns false'. Refute it at one input. -/
def histCountsWrong : ChangeSpec := { name := "histCounts", fn := fun _ => fun
  | [d1, d2, d3] => { results := [.lit (.bool false)], args := [d1, d2, d3] }
  | _ => none }
def HistCountsWrongFalsely : Prop := histCountsRow.holds Try.pinned (OpenSpec.ofChange histCountsWrong)

/-- 'hoistwaylaw14.HistEdges': WHATEVER THE INPUT: true; the input reads as it did. -/
def histEdgesSpec : ChangeSpec := { name := "histEdges", fn := fun _ => fun
  | [d1, d2, d3] => { results := [.lit (.bool true)], args := [d1, d2, d3] }
  | _ => none }
def histEdgesRow : OpenClaim := { program := "ytkgkilogjodccaa", sum := "cd6c9c8a1651766fdf17b3dea6d4023e57a9f26f14ff5164cade147f3b8e8156", func := "hoistway/hoistwaylaw14.HistEdges", spec := "histEdges", apart := false }
def HistEdgesSaid : Prop := histEdgesRow.holds Try.pinned (OpenSpec.ofChange histEdgesSpec)

/-- ITS FALSE NEIGHBOUR: 'it returns false'. Refute it at one input. -/
def histEdgesWrong : ChangeSpec := { name := "histEdges", fn := fun _ => fun
  | [d1, d2, d3] => { results := [.lit (.bool false)], args := [d1, d2, d3] }
  | _ => none }
def HistEdgesWrongFalsely : Prop := histEdgesRow.holds Try.pinned (OpenSpec.ofChange histEdgesWrong)

/-- 'hoistwaylaw14.HistSums': WHATEVER THE INPUT: true; the input reads as it did. -/
def histSumsSpec : ChangeSpec := { name := "histSums", fn := fun _ => fun
  | [d1, d2, d3] => { results := [.lit (.bool true)], args := [d1, d2, d3] }
  | _ => none }
def histSumsRow : OpenClaim := { program := "ytkgkilogjodccaa", sum := "cd6c9c8a1651766fdf17b3dea6d4023e57a9f26f14ff5164cade147f3b8e8156", func := "hoistway/hoistwaylaw14.HistSums", spec := "histSums", apart := false }
def HistSumsSaid : Prop := histSumsRow.holds Try.pinned (OpenSpec.ofChange histSumsSpec)

/-- ITS FALSE NEIGHBOUR: 'it returns false'. Refute it at one input. -/
def histSumsWrong : ChangeSpec := { name := "histSums", fn := fun _ => fun
  | [d1, d2, d3] => { results := [.lit (.bool false)], args := [d1, d2, d3] }
  | _ => none }
def HistSumsWrongFalsely : Prop := histSumsRow.holds Try.pinned (OpenSpec.ofChange histSumsWrong)

/-- 'hoistwaylaw63.PulseCounts': WHATEVER THE INPUT: true; the input reads as it did. -/
def pulseCountsSpec : ChangeSpec := { name := "pulseCounts", fn := fun _ => fun
  | [d1, d2, d3] => { results := [.lit (.bool true)], args := [d1, d2, d3] }
  | _ => none }
def pulseCountsRow : OpenClaim := { program := "ytkgkilogjodccaa", sum := "cd6c9c8a1651766fdf17b3dea6d4023e57a9f26f14ff5164cade147f3b8e8156", func := "hoistway/hoistwaylaw63.PulseCounts", spec := "pulseCounts", apart := false }
def PulseCountsSaid : Prop := pulseCountsRow.holds Try.pinned (OpenSpec.ofChange pulseCountsSpec)

/-- ITS FALSE NEIGHBOUR: 'it returns false'. Refute it at one input. -/
def pulseCountsWrong : ChangeSpec := { name := "pulseCounts", fn := fun _ => fun
  | [d1, d2, d3] => { results := [.lit (.bool false)], args := [d1, d2, d3] }
  | _ => none }
def PulseCountsWrongFalsely : Prop := pulseCountsRow.holds Try.pinned (OpenSpec.ofChange pulseCountsWrong)

/-- 'hoistwaylaw63.PulsePeaks': WHATEVER THE INPUT: true; the input reads as it did. -/
def pulsePeaksSpec : ChangeSpec := { name := "pulsePeaks", fn := fun _ => fun
  | [d1, d2] => { results := [.lit (.bool true)], args := [d1, d2] }
  | _ => none }
def pulsePeaksRow : OpenClaim := { program := "ytkgkilogjodccaa", sum := "cd6c9c8a1651766fdf17b3dea6d4023e57a9f26f14ff5164cade147f3b8e8156", func := "hoistway/hoistwaylaw63.PulsePeaks", spec := "pulsePeaks", apart := false }
def PulsePeaksSaid : Prop := pulsePeaksRow.holds Try.pinned (OpenSpec.ofChange pulsePeaksSpec)

/-- ITS FALSE NEIGHBOUR: 'it returns false'. Refute it at one input. -/
def pulsePeaksWrong : ChangeSpec := { name := "pulsePeaks", fn := fun _ => fun
  | [d1, d2] => { results := [.lit (.bool false)], args := [d1, d2] }
  | _ => none }
def PulsePeaksWrongFalsely : Prop := pulsePeaksRow.holds Try.pinned (OpenSpec.ofChange pulsePeaksWrong)

/-- 'hoistwaylaw63.PulseQueues': WHATEVER THE INPUT: true; the input reads as it did. -/
def pulseQueuesSpec : ChangeSpec := { name := "pulseQueues", fn := fun _ => fun
  | [d1, d2] => { results := [.lit (.bool true)], args := [d1, d2] }
  | _ => none }
def pulseQueuesRow : OpenClaim := { program := "ytkgkilogjodccaa", sum := "cd6c9c8a1651766fdf17b3dea6d4023e57a9f26f14ff5164cade147f3b8e8156", func := "hoistway/hoistwaylaw63.PulseQueues", spec := "pulseQueues", apart := false }
def PulseQueuesSaid : Prop := pulseQueuesRow.holds Try.pinned (OpenSpec.ofChange pulseQueuesSpec)

/-- ITS FALSE NEIGHBOUR: 'it returns false'. Refute it at one input. -/
def pulseQueuesWrong : ChangeSpec := { name := "pulseQueues", fn := fun _ => fun
  | [d1, d2] => { results := [.lit (.bool false)], args := [d1, d2] }
  | _ => none }
def PulseQueuesWrongFalsely : Prop := pulseQueuesRow.holds Try.pinned (OpenSpec.ofChange pulseQueuesWrong)

/-- 'hoistwaylaw62.PeopleTurns': WHATEVER THE INPUT: true; the input reads as it did. -/
def peopleTurnsSpec : ChangeSpec := { name := "peopleTurns", fn := fun _ => fun
  | [d1, d2, d3] => { results := [.lit (.bool true)], args := [d1, d2, d3] }
  | _ => none }
def peopleTurnsRow : OpenClaim := { program := "ytkgkilogjodccaa", sum := "cd6c9c8a1651766fdf17b3dea6d4023e57a9f26f14ff5164cade147f3b8e8156", func := "hoistway/hoistwaylaw62.PeopleTurns", spec := "peopleTurns", apart := false }
def PeopleTurnsSaid : Prop := peopleTurnsRow.holds Try.pinned (OpenSpec.ofChange peopleTurnsSpec)

/-- ITS FALSE NEIGHBOUR: 'it returns false'. Refute it at one input. -/
def peopleTurnsWrong : ChangeSpec := { name := "peopleTurns", fn := fun _ => fun
  | [d1, d2, d3] => { results := [.lit (.bool false)], args := [d1, d2, d3] }
  | _ => none }
def PeopleTurnsWrongFalsely : Prop := peopleTurnsRow.holds Try.pinned (OpenSpec.ofChange peopleTurnsWrong)

/-- 'hoistwaylaw54.ParetoFronts': WHATEVER THE INPUT: true; the input reads as it did. -/
def paretoFrontsSpec : ChangeSpec := { name := "paretoFronts", fn := fun _ => fun
  | [d1, d2, d3] => { results := [.lit (.bool true)], args := [d1, d2, d3] }
  | _ => none }
def paretoFrontsRow : OpenClaim := { program := "ytkgkilogjodccaa", sum := "cd6c9c8a1651766fdf17b3dea6d4023e57a9f26f14ff5164cade147f3b8e8156", func := "hoistway/hoistwaylaw54.ParetoFronts", spec := "paretoFronts", apart := false }
def ParetoFrontsSaid : Prop := paretoFrontsRow.holds Try.pinned (OpenSpec.ofChange paretoFrontsSpec)

/-- ITS FALSE NEIGHBOUR: 'it returns false'. Refute it at one input. -/
def paretoFrontsWrong : ChangeSpec := { name := "paretoFronts", fn := fun _ => fun
  | [d1, d2, d3] => { results := [.lit (.bool false)], args := [d1, d2, d3] }
  | _ => none }
def ParetoFrontsWrongFalsely : Prop := paretoFrontsRow.holds Try.pinned (OpenSpec.ofChange paretoFrontsWrong)

/-- 'hoistwaylaw54.ParetoLayers': WHATEVER THE INPUT: true; the input reads as it did. -/
def paretoLayersSpec : ChangeSpec := { name := "paretoLayers", fn := fun _ => fun
  | [d] => { results := [.lit (.bool true)], args := [d] }
  | _ => none }
def paretoLayersRow : OpenClaim := { program := "ytkgkilogjodccaa", sum := "cd6c9c8a1651766fdf17b3dea6d4023e57a9f26f14ff5164cade147f3b8e8156", func := "hoistway/hoistwaylaw54.ParetoLayers", spec := "paretoLayers", apart := false }
def ParetoLayersSaid : Prop := paretoLayersRow.holds Try.pinned (OpenSpec.ofChange paretoLayersSpec)

/-- ITS FALSE NEIGHBOUR: 'it returns false'. Refute it at one input. -/
def paretoLayersWrong : ChangeSpec := { name := "paretoLayers", fn := fun _ => fun
  | [d] => { results := [.lit (.bool false)], args := [d] }
  | _ => none }
def ParetoLayersWrongFalsely : Prop := paretoLayersRow.holds Try.pinned (OpenSpec.ofChange paretoLayersWrong)

/- THE SECOND FORM. 'bulk': how many values and letters a reading holds, each counted each time it is reached (what is shared counts as often as it is met; a slice's spare places count too). A statement '..UptoSaid' is the law's where the arguments, and the package variables that the reading takes, are together of bulk at most 1048576: NARROWER than '..Said'. Prove '..Said' where nothing that the law and all that it calls make is longer than what came in: it says more and counts as full. Else prove '..UptoSaid'. A law counts once. -/
mutual
def uptoBulk {H : Type} : DataW H → Nat
  | .lit (.string bytes) => bytes.length + 1
  | .lit _ => 1
  | .nil => 1
  | .ptr d => uptoBulk d + 1
  | .slice elems spare => uptoBulkAll elems + uptoBulkAll spare + 1
  | .agg parts => uptoBulkAll parts + 1
  | .iface _ d => uptoBulk d + 1
  | .map entries => uptoBulkEntries entries + 1
  | .held _ => 1
def uptoBulkAll {H : Type} : List (DataW H) → Nat
  | [] => 0
  | d :: r => uptoBulk d + uptoBulkAll r
def uptoBulkEntries {H : Type} : List (Lit × DataW H) → Nat
  | [] => 0
  | x :: r => uptoBulkEntry x + uptoBulkEntries r
def uptoBulkEntry {H : Type} : Lit × DataW H → Nat
  | (.string bytes, d) => bytes.length + uptoBulk d + 1
  | (_, d) => uptoBulk d + 1
 end
def uptoSmall : (H : Type) → List (DataW H) → Bool := fun _ ds => decide (uptoBulkAll ds ≤ 1048576)
def OpenSpec.upto (s : _root_.Go.ChangeSpec) : _root_.Go.OpenSpec := { _root_.Go.OpenSpec.ofChange s with cond := some uptoSmall }

/-- 'hoistwaylaw11.CumulTables', WHERE WHAT IT READS IS OF BULK AT MOST 1048576: true; the input reads as it did. -/
def cumulTablesUptoRow : OpenClaim := { program := "ytkgkilogjodccaa", sum := "cd6c9c8a1651766fdf17b3dea6d4023e57a9f26f14ff5164cade147f3b8e8156", func := "hoistway/hoistwaylaw11.CumulTables", spec := "cumulTables", apart := false, narrowed := true }
def CumulTablesUptoSaid : Prop := cumulTablesUptoRow.holds Try.pinned (OpenSpec.upto cumulTablesSpec)

/-- 'hoistwaylaw11.CumulTells', WHERE WHAT IT READS IS OF BULK AT MOST 1048576: true; the input reads as it did. -/
def cumulTellsUptoRow : OpenClaim := { program := "ytkgkilogjodccaa", sum := "cd6c9c8a1651766fdf17b3dea6d4023e57a9f26f14ff5164cade147f3b8e8156", func := "hoistway/hoistwaylaw11.CumulTells", spec := "cumulTells", apart := false, narrowed := true }
def CumulTellsUptoSaid : Prop := cumulTellsUptoRow.holds Try.pinned (OpenSpec.upto cumulTellsSpec)

/-- 'hoistwaylaw11.CumulFair', WHERE WHAT IT READS IS OF BULK AT MOST 1048576: true; the input reads as it did. -/
def cumulFairUptoRow : OpenClaim := { program := "ytkgkilogjodccaa", sum := "cd6c9c8a1651766fdf17b3dea6d4023e57a9f26f14ff5164cade147f3b8e8156", func := "hoistway/hoistwaylaw11.CumulFair", spec := "cumulFair", apart := false, narrowed := true }
def CumulFairUptoSaid : Prop := cumulFairUptoRow.holds Try.pinned (OpenSpec.upto cumulFairSpec)

/-- 'hoistwaylaw14.HistCounts', WHERE WHAT IT READS IS OF BULK AT MOST 1048576: true; the input reads as it did. -/
def histCountsUptoRow : OpenClaim := { program := "ytkgkilogjodccaa", sum := "cd6c9c8a1651766fdf17b3dea6d4023e57a9f26f14ff5164cade147f3b8e8156", func := "hoistway/hoistwaylaw14.HistCounts", spec := "histCounts", apart := false, narrowed := true }
def HistCountsUptoSaid : Prop := histCountsUptoRow.holds Try.pinned (OpenSpec.upto histCountsSpec)

/-- 'hoistwaylaw14.HistEdges', WHERE WHAT IT READS IS OF BULK AT MOST 1048576: true; the input reads as it did. -/
def histEdgesUptoRow : OpenClaim := { program := "ytkgkilogjodccaa", sum := "cd6c9c8a1651766fdf17b3dea6d4023e57a9f26f14ff5164cade147f3b8e8156", func := "hoistway/hoistwaylaw14.HistEdges", spec := "histEdges", apart := false, narrowed := true }
def HistEdgesUptoSaid : Prop := histEdgesUptoRow.holds Try.pinned (OpenSpec.upto histEdgesSpec)

/-- 'hoistwaylaw14.HistSums', WHERE WHAT IT READS IS OF BULK AT MOST 1048576: true; the input reads as it did. -/
def histSumsUptoRow : OpenClaim := { program := "ytkgkilogjodccaa", sum := "cd6c9c8a1651766fdf17b3dea6d4023e57a9f26f14ff5164cade147f3b8e8156", func := "hoistway/hoistwaylaw14.HistSums", spec := "histSums", apart := false, narrowed := true }
def HistSumsUptoSaid : Prop := histSumsUptoRow.holds Try.pinned (OpenSpec.upto histSumsSpec)

/-- 'hoistwaylaw63.PulseCounts', WHERE WHAT IT READS IS OF BULK AT MOST 1048576: true; the input reads as it did. -/
def pulseCountsUptoRow : OpenClaim := { program := "ytkgkilogjodccaa", sum := "cd6c9c8a1651766fdf17b3dea6d4023e57a9f26f14ff5164cade147f3b8e8156", func := "hoistway/hoistwaylaw63.PulseCounts", spec := "pulseCounts", apart := false, narrowed := true }
def PulseCountsUptoSaid : Prop := pulseCountsUptoRow.holds Try.pinned (OpenSpec.upto pulseCountsSpec)

/-- 'hoistwaylaw63.PulsePeaks', WHERE WHAT IT READS IS OF BULK AT MOST 1048576: true; the input reads as it did. -/
def pulsePeaksUptoRow : OpenClaim := { program := "ytkgkilogjodccaa", sum := "cd6c9c8a1651766fdf17b3dea6d4023e57a9f26f14ff5164cade147f3b8e8156", func := "hoistway/hoistwaylaw63.PulsePeaks", spec := "pulsePeaks", apart := false, narrowed := true }
def PulsePeaksUptoSaid : Prop := pulsePeaksUptoRow.holds Try.pinned (OpenSpec.upto pulsePeaksSpec)

/-- 'hoistwaylaw63.PulseQueues', WHERE WHAT IT READS IS OF BULK AT MOST 1048576: true; the input reads as it did. -/
def pulseQueuesUptoRow : OpenClaim := { program := "ytkgkilogjodccaa", sum := "cd6c9c8a1651766fdf17b3dea6d4023e57a9f26f14ff5164cade147f3b8e8156", func := "hoistway/hoistwaylaw63.PulseQueues", spec := "pulseQueues", apart := false, narrowed := true }
def PulseQueuesUptoSaid : Prop := pulseQueuesUptoRow.holds Try.pinned (OpenSpec.upto pulseQueuesSpec)

/-- 'hoistwaylaw62.PeopleTurns', WHERE WHAT IT READS IS OF BULK AT MOST 1048576: true; the input reads as it did. -/
def peopleTurnsUptoRow : OpenClaim := { program := "ytkgkilogjodccaa", sum := "cd6c9c8a1651766fdf17b3dea6d4023e57a9f26f14ff5164cade147f3b8e8156", func := "hoistway/hoistwaylaw62.PeopleTurns", spec := "peopleTurns", apart := false, narrowed := true }
def PeopleTurnsUptoSaid : Prop := peopleTurnsUptoRow.holds Try.pinned (OpenSpec.upto peopleTurnsSpec)

/-- 'hoistwaylaw54.ParetoFronts', WHERE WHAT IT READS IS OF BULK AT MOST 1048576: true; the input reads as it did. -/
def paretoFrontsUptoRow : OpenClaim := { program := "ytkgkilogjodccaa", sum := "cd6c9c8a1651766fdf17b3dea6d4023e57a9f26f14ff5164cade147f3b8e8156", func := "hoistway/hoistwaylaw54.ParetoFronts", spec := "paretoFronts", apart := false, narrowed := true }
def ParetoFrontsUptoSaid : Prop := paretoFrontsUptoRow.holds Try.pinned (OpenSpec.upto paretoFrontsSpec)

/-- 'hoistwaylaw54.ParetoLayers', WHERE WHAT IT READS IS OF BULK AT MOST 1048576: true; the input reads as it did. -/
def paretoLayersUptoRow : OpenClaim := { program := "ytkgkilogjodccaa", sum := "cd6c9c8a1651766fdf17b3dea6d4023e57a9f26f14ff5164cade147f3b8e8156", func := "hoistway/hoistwaylaw54.ParetoLayers", spec := "paretoLayers", apart := false, narrowed := true }
def ParetoLayersUptoSaid : Prop := paretoLayersUptoRow.holds Try.pinned (OpenSpec.upto paretoLayersSpec)

end Rows
end Go.Proofs.Ytkgkilogjodccaa
