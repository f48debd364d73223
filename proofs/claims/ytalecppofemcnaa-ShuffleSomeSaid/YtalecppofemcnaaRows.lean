/-
  No cell of these rows narrows 'for every input' (looked for: loops, veiled, ifaces, maps, wideKeys, modest, calm, conditions, laid).
  DERIVED. THE GIVEN ROWS OF THIS SEAT. 9 by the template 'for every input the law returns true; each argument reads behind the call as it read before'; 0 by the template 'total and deterministic' (their statements: YtalecppofemcnaaTotals.lean).
  GIVEN WITH THE SEED: the statements are not yours to turn. If you find one false, say at which input.
  Laid BY PROGRAM, IN A SANDBOX (cutbox-rows.mjs): the forced cells as the released guide's own fill.sh prints them over the translation e103ed3f65de3737… (all of the seat's roots in one cut). By AI agents, Wed Nov 11 2026. No macro, syntax, notation, axiom, sorry.
-/
import Derived.Test.YtalecppofemcnaaChecked
import GoSem.Claim
import GoSem.ClaimJoined
import GoSem.ClaimMapViews
import Derived.JoinedTies
import Derived.KernelRfl
namespace Go.Proofs.Ytalecppofemcnaa
/- THE CELL 'sum', in the pinned program and in every row, IS THE sha256 OF THE DUMP (.gsa) THAT YtalecppofemcnaaProg.lean LOADS. Nothing in Lean hashes anything: it is a label: what it is worth is what the hold of that sum in a sandbox is worth. -/
noncomputable def Try.pinned : Pinned := { name := "ytalecppofemcnaa", sum := "e103ed3f65de37378d8cf18360edf65d19f38d3f62787a9c89d9d95fb72aa565", checked := Try.checked }
namespace Rows
def none {H : Type} : Left H := { results := [], args := [] }

/-- 'hoistwaylaw69.ShuffleOrders': WHATEVER THE INPUT: true; the input reads as it did. -/
def shuffleOrdersSpec : ChangeSpec := { name := "shuffleOrders", fn := fun _ => fun
  | [d1, d2, d3] => { results := [.lit (.bool true)], args := [d1, d2, d3] }
  | _ => none }
def shuffleOrdersRow : OpenClaim := { program := "ytalecppofemcnaa", sum := "e103ed3f65de37378d8cf18360edf65d19f38d3f62787a9c89d9d95fb72aa565", func := "hoistway/hoistwaylaw69.ShuffleOrders", spec := "shuffleOrders", apart := false }
def ShuffleOrdersSaid : Prop := shuffleOrdersRow.holds Try.pinned (OpenSpec.ofChange shuffleOrdersSpec)

/-- ITS FALSE NEIGHBOUR: 'it returns false'. Refute it at one input. -/
def shuffleOrdersWrong : ChangeSpec := { name := "shuffleOrders", fn := fun _ => fun
  | [d1, d2, d3] => { results := [.lit (.bool false)], args := [d1, d2, d3] }
  | _ => none }
def ShuffleOrdersWrongFalsely : Prop := shuffleOrdersRow.holds Try.pinned (OpenSpec.ofChange shuffleOrdersWrong)

/-- 'hoistwaylaw69.ShuffleBack': WHATEVER THE INPUT: true; the input reads as it did. -/
def shuffleBackSpec : ChangeSpec := { name := "shuffleBack", fn := fun _ => fun
  | [d] => { results := [.lit (.bool true)], args := [d] }
  | _ => none }
def shuffleBackRow : OpenClaim := { program := "ytalecppofemcnaa", sum := "e103ed3f65de37378d8cf18360edf65d19f38d3f62787a9c89d9d95fb72aa565", func := "hoistway/hoistwaylaw69.ShuffleBack", spec := "shuffleBack", apart := false }
def ShuffleBackSaid : Prop := shuffleBackRow.holds Try.pinned (OpenSpec.ofChange shuffleBackSpec)

/-- ITS FALSE NEIGHBOUR: 'it returns false'. Refute it at one input. -/
def shuffleBackWrong : ChangeSpec := { name := "shuffleBack", fn := fun _ => fun
  | [d] => { results := [.lit (.bool false)], args := [d] }
  | _ => none }
def ShuffleBackWrongFalsely : Prop := shuffleBackRow.holds Try.pinned (OpenSpec.ofChange shuffleBackWrong)

/-- 'hoistwaylaw69.ShuffleSome': WHATEVER THE INPUT: true; the input reads as it did. -/
def shuffleSomeSpec : ChangeSpec := { name := "shuffleSome", fn := fun _ => fun
  | [d1, d2, d3] => { results := [.lit (.bool true)], args := [d1, d2, d3] }
  | _ => none }
def shuffleSomeRow : OpenClaim := { program := "ytalecppofemcnaa", sum := "e103ed3f65de37378d8cf18360edf65d19f38d3f62787a9c89d9d95fb72aa565", func := "hoistway/hoistwaylaw69.ShuffleSome", spec := "shuffleSome", unfollowed := true, recurses := true, apart := false }
def ShuffleSomeSaid : Prop := shuffleSomeRow.holds Try.pinned (OpenSpec.ofChange shuffleSomeSpec)

/-- ITS FALSE NEIGHBOUR: 'it returns false'. Refute it at one input. -/
def shuffleSomeWrong : ChangeSpec := { name := "shuffleSome", fn := fun _ => fun
  | [d1, d2, d3] => { results := [.lit (.bool false)], args := [d1, d2, d3] }
  | _ => none }
def ShuffleSomeWrongFalsely : Prop := shuffleSomeRow.holds Try.pinned (OpenSpec.ofChange shuffleSomeWrong)

/-- 'hoistwaylaw60.ZoneLeast': WHATEVER THE INPUT: true; the input reads as it did. -/
def zoneLeastSpec : ChangeSpec := { name := "zoneLeast", fn := fun _ => fun
  | [d1, d2] => { results := [.lit (.bool true)], args := [d1, d2] }
  | _ => none }
def zoneLeastRow : OpenClaim := { program := "ytalecppofemcnaa", sum := "e103ed3f65de37378d8cf18360edf65d19f38d3f62787a9c89d9d95fb72aa565", func := "hoistway/hoistwaylaw60.ZoneLeast", spec := "zoneLeast", apart := false }
def ZoneLeastSaid : Prop := zoneLeastRow.holds Try.pinned (OpenSpec.ofChange zoneLeastSpec)

/-- ITS FALSE NEIGHBOUR: 'it returns false'. Refute it at one input. -/
def zoneLeastWrong : ChangeSpec := { name := "zoneLeast", fn := fun _ => fun
  | [d1, d2] => { results := [.lit (.bool false)], args := [d1, d2] }
  | _ => none }
def ZoneLeastWrongFalsely : Prop := zoneLeastRow.holds Try.pinned (OpenSpec.ofChange zoneLeastWrong)

/-- 'hoistwaylaw60.ZoneCuts': WHATEVER THE INPUT: true; the input reads as it did. -/
def zoneCutsSpec : ChangeSpec := { name := "zoneCuts", fn := fun _ => fun
  | [d1, d2] => { results := [.lit (.bool true)], args := [d1, d2] }
  | _ => none }
def zoneCutsRow : OpenClaim := { program := "ytalecppofemcnaa", sum := "e103ed3f65de37378d8cf18360edf65d19f38d3f62787a9c89d9d95fb72aa565", func := "hoistway/hoistwaylaw60.ZoneCuts", spec := "zoneCuts", apart := false }
def ZoneCutsSaid : Prop := zoneCutsRow.holds Try.pinned (OpenSpec.ofChange zoneCutsSpec)

/-- ITS FALSE NEIGHBOUR: 'it returns false'. Refute it at one input. -/
def zoneCutsWrong : ChangeSpec := { name := "zoneCuts", fn := fun _ => fun
  | [d1, d2] => { results := [.lit (.bool false)], args := [d1, d2] }
  | _ => none }
def ZoneCutsWrongFalsely : Prop := zoneCutsRow.holds Try.pinned (OpenSpec.ofChange zoneCutsWrong)

/-- 'hoistwaylaw60.ZoneWeighs': WHATEVER THE INPUT: true; the input reads as it did. -/
def zoneWeighsSpec : ChangeSpec := { name := "zoneWeighs", fn := fun _ => fun
  | [d1, d2, d3] => { results := [.lit (.bool true)], args := [d1, d2, d3] }
  | _ => none }
def zoneWeighsRow : OpenClaim := { program := "ytalecppofemcnaa", sum := "e103ed3f65de37378d8cf18360edf65d19f38d3f62787a9c89d9d95fb72aa565", func := "hoistway/hoistwaylaw60.ZoneWeighs", spec := "zoneWeighs", apart := false }
def ZoneWeighsSaid : Prop := zoneWeighsRow.holds Try.pinned (OpenSpec.ofChange zoneWeighsSpec)

/-- ITS FALSE NEIGHBOUR: 'it returns false'. Refute it at one input. -/
def zoneWeighsWrong : ChangeSpec := { name := "zoneWeighs", fn := fun _ => fun
  | [d1, d2, d3] => { results := [.lit (.bool false)], args := [d1, d2, d3] }
  | _ => none }
def ZoneWeighsWrongFalsely : Prop := zoneWeighsRow.holds Try.pinned (OpenSpec.ofChange zoneWeighsWrong)

/-- 'hoistwaylaw61.ParkLeast': WHATEVER THE INPUT: true; the input reads as it did. -/
def parkLeastSpec : ChangeSpec := { name := "parkLeast", fn := fun _ => fun
  | [d1, d2] => { results := [.lit (.bool true)], args := [d1, d2] }
  | _ => none }
def parkLeastRow : OpenClaim := { program := "ytalecppofemcnaa", sum := "e103ed3f65de37378d8cf18360edf65d19f38d3f62787a9c89d9d95fb72aa565", func := "hoistway/hoistwaylaw61.ParkLeast", spec := "parkLeast", apart := false }
def ParkLeastSaid : Prop := parkLeastRow.holds Try.pinned (OpenSpec.ofChange parkLeastSpec)

/-- ITS FALSE NEIGHBOUR: 'it returns false'. Refute it at one input. -/
def parkLeastWrong : ChangeSpec := { name := "parkLeast", fn := fun _ => fun
  | [d1, d2] => { results := [.lit (.bool false)], args := [d1, d2] }
  | _ => none }
def ParkLeastWrongFalsely : Prop := parkLeastRow.holds Try.pinned (OpenSpec.ofChange parkLeastWrong)

/-- 'hoistwaylaw61.ParkCosts': WHATEVER THE INPUT: true; the input reads as it did. -/
def parkCostsSpec : ChangeSpec := { name := "parkCosts", fn := fun _ => fun
  | [d1, d2] => { results := [.lit (.bool true)], args := [d1, d2] }
  | _ => none }
def parkCostsRow : OpenClaim := { program := "ytalecppofemcnaa", sum := "e103ed3f65de37378d8cf18360edf65d19f38d3f62787a9c89d9d95fb72aa565", func := "hoistway/hoistwaylaw61.ParkCosts", spec := "parkCosts", apart := false }
def ParkCostsSaid : Prop := parkCostsRow.holds Try.pinned (OpenSpec.ofChange parkCostsSpec)

/-- ITS FALSE NEIGHBOUR: 'it returns false'. Refute it at one input. -/
def parkCostsWrong : ChangeSpec := { name := "parkCosts", fn := fun _ => fun
  | [d1, d2] => { results := [.lit (.bool false)], args := [d1, d2] }
  | _ => none }
def ParkCostsWrongFalsely : Prop := parkCostsRow.holds Try.pinned (OpenSpec.ofChange parkCostsWrong)

/-- 'hoistwaylaw61.ParkFloors': WHATEVER THE INPUT: true; the input reads as it did. -/
def parkFloorsSpec : ChangeSpec := { name := "parkFloors", fn := fun _ => fun
  | [d1, d2] => { results := [.lit (.bool true)], args := [d1, d2] }
  | _ => none }
def parkFloorsRow : OpenClaim := { program := "ytalecppofemcnaa", sum := "e103ed3f65de37378d8cf18360edf65d19f38d3f62787a9c89d9d95fb72aa565", func := "hoistway/hoistwaylaw61.ParkFloors", spec := "parkFloors", apart := false }
def ParkFloorsSaid : Prop := parkFloorsRow.holds Try.pinned (OpenSpec.ofChange parkFloorsSpec)

/-- ITS FALSE NEIGHBOUR: 'it returns false'. Refute it at one input. -/
def parkFloorsWrong : ChangeSpec := { name := "parkFloors", fn := fun _ => fun
  | [d1, d2] => { results := [.lit (.bool false)], args := [d1, d2] }
  | _ => none }
def ParkFloorsWrongFalsely : Prop := parkFloorsRow.holds Try.pinned (OpenSpec.ofChange parkFloorsWrong)

/- THE SECOND FORM. 'bulk': how many values and letters a reading holds, each counted each time it is reached (what is shared counts as often as it is met; a slice's spare places count too). A statement '..UptoSaid' is the law's where the arguments, and the package variables that the reading takes, are together of bulk at most 1048576: NARROWER than '..Said'. Prove '..Said' where nothing that the law and all that it calls make is longer than what came in: it says more and counts as full. Else prove '..UptoSaid'. A law counts once. -/
mutual
def uptoBulk {H : Type} : DataW H → Nat
  | .lit (.string bytes) => bytes.length + 1
  | .lit _ => 1
  | .nil => 1
  | .ptr d => uptoBulk d + 1
  | .slice elems spare => uptoBulkAll elems + uptoBulkAll spare + 1
  | .agg parts => uptoBulkAll parts + 1
  | .iface _ d => uptoBulk d + 1
  | .map entries => uptoBulkEntries entries + 1
  | .held _ => 1
def uptoBulkAll {H : Type} : List (DataW H) → Nat
  | [] => 0
  | d :: r => uptoBulk d + uptoBulkAll r
def uptoBulkEntries {H : Type} : List (Lit × DataW H) → Nat
  | [] => 0
  | x :: r => uptoBulkEntry x + uptoBulkEntries r
def uptoBulkEntry {H : Type} : Lit × DataW H → Nat
  | (.string bytes, d) => bytes.length + uptoBulk d + 1
  | (_, d) => uptoBulk d + 1
 end
def uptoSmall : (H : Type) → List (DataW H) → Bool := fun _ ds => decide (uptoBulkAll ds ≤ 1048576)
def OpenSpec.upto (s : _root_.Go.ChangeSpec) : _root_.Go.OpenSpec := { _root_.Go.OpenSpec.ofChange s with cond := some uptoSmall }

/-- 'hoistwaylaw69.ShuffleOrders', WHERE WHAT IT READS IS OF BULK AT MOST 1048576: true; the input reads as it did. -/
def shuffleOrdersUptoRow : OpenClaim := { program := "ytalecppofemcnaa", sum := "e103ed3f65de37378d8cf18360edf65d19f38d3f62787a9c89d9d95fb72aa565", func := "hoistway/hoistwaylaw69.ShuffleOrders", spec := "shuffleOrders", apart := false, narrowed := true }
def ShuffleOrdersUptoSaid : Prop := shuffleOrdersUptoRow.holds Try.pinned (OpenSpec.upto shuffleOrdersSpec)

/-- 'hoistwaylaw69.ShuffleBack', WHERE WHAT IT READS IS OF BULK AT MOST 1048576: true; the input reads as it did. -/
def shuffleBackUptoRow : OpenClaim := { program := "ytalecppofemcnaa", sum := "e103ed3f65de37378d8cf18360edf65d19f38d3f62787a9c89d9d95fb72aa565", func := "hoistway/hoistwaylaw69.ShuffleBack", spec := "shuffleBack", apart := false, narrowed := true }
def ShuffleBackUptoSaid : Prop := shuffleBackUptoRow.holds Try.pinned (OpenSpec.upto shuffleBackSpec)

/-- 'hoistwaylaw69.ShuffleSome', WHERE WHAT IT READS IS OF BULK AT MOST 1048576: true; the input reads as it did. -/
def shuffleSomeUptoRow : OpenClaim := { program := "ytalecppofemcnaa", sum := "e103ed3f65de37378d8cf18360edf65d19f38d3f62787a9c89d9d95fb72aa565", func := "hoistway/hoistwaylaw69.ShuffleSome", spec := "shuffleSome", unfollowed := true, recurses := true, apart := false, narrowed := true }
def ShuffleSomeUptoSaid : Prop := shuffleSomeUptoRow.holds Try.pinned (OpenSpec.upto shuffleSomeSpec)

/-- 'hoistwaylaw60.ZoneLeast', WHERE WHAT IT READS IS OF BULK AT MOST 1048576: true; the input reads as it did. -/
def zoneLeastUptoRow : OpenClaim := { program := "ytalecppofemcnaa", sum := "e103ed3f65de37378d8cf18360edf65d19f38d3f62787a9c89d9d95fb72aa565", func := "hoistway/hoistwaylaw60.ZoneLeast", spec := "zoneLeast", apart := false, narrowed := true }
def ZoneLeastUptoSaid : Prop := zoneLeastUptoRow.holds Try.pinned (OpenSpec.upto zoneLeastSpec)

/-- 'hoistwaylaw60.ZoneCuts', WHERE WHAT IT READS IS OF BULK AT MOST 1048576: true; the input reads as it did. -/
def zoneCutsUptoRow : OpenClaim := { program := "ytalecppofemcnaa", sum := "e103ed3f65de37378d8cf18360edf65d19f38d3f62787a9c89d9d95fb72aa565", func := "hoistway/hoistwaylaw60.ZoneCuts", spec := "zoneCuts", apart := false, narrowed := true }
def ZoneCutsUptoSaid : Prop := zoneCutsUptoRow.holds Try.pinned (OpenSpec.upto zoneCutsSpec)

/-- 'hoistwaylaw60.ZoneWeighs', WHERE WHAT IT READS IS OF BULK AT MOST 1048576: true; the input reads as it did. -/
def zoneWeighsUptoRow : OpenClaim := { program := "ytalecppofemcnaa", sum := "e103ed3f65de37378d8cf18360edf65d19f38d3f62787a9c89d9d95fb72aa565", func := "hoistway/hoistwaylaw60.ZoneWeighs", spec := "zoneWeighs", apart := false, narrowed := true }
def ZoneWeighsUptoSaid : Prop := zoneWeighsUptoRow.holds Try.pinned (OpenSpec.upto zoneWeighsSpec)

/-- 'hoistwaylaw61.ParkLeast', WHERE WHAT IT READS IS OF BULK AT MOST 1048576: true; the input reads as it did. -/
def parkLeastUptoRow : OpenClaim := { program := "ytalecppofemcnaa", sum := "e103ed3f65de37378d8cf18360edf65d19f38d3f62787a9c89d9d95fb72aa565", func := "hoistway/hoistwaylaw61.ParkLeast", spec := "parkLeast", apart := false, narrowed := true }
def ParkLeastUptoSaid : Prop := parkLeastUptoRow.holds Try.pinned (OpenSpec.upto parkLeastSpec)

/-- 'hoistwaylaw61.ParkCosts', WHERE WHAT IT READS IS OF BULK AT MOST 1048576: true; the input reads as it did. -/
def parkCostsUptoRow : OpenClaim := { program := "ytalecppofemcnaa", sum := "e103ed3f65de37378d8cf18360edf65d19f38d3f62787a9c89d9d95fb72aa565", func := "hoistway/hoistwaylaw61.ParkCosts", spec := "parkCosts", apart := false, narrowed := true }
def ParkCostsUptoSaid : Prop := parkCostsUptoRow.holds Try.pinned (OpenSpec.upto parkCostsSpec)

/-- 'hoistwaylaw61.ParkFloors', WHERE WHAT IT READS IS OF BULK AT MOST 1048576: true; the input reads as it did. -/
def parkFloorsUptoRow : OpenClaim := { program := "ytalecppofemcnaa", sum := "e103ed3f65de37378d8cf18360edf65d19f38d3f62787a9c89d9d95fb72aa565", func := "hoistway/hoistwaylaw61.ParkFloors", spec := "parkFloors", apart := false, narrowed := true }
def ParkFloorsUptoSaid : Prop := parkFloorsUptoRow.holds Try.pinned (OpenSpec.upto parkFloorsSpec)

end Rows
end Go.Proofs.Ytalecppofemcnaa
