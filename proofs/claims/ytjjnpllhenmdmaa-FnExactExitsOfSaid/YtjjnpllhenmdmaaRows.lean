/-
  No cell of these rows narrows 'for every input' (looked for: loops, veiled, ifaces, maps, wideKeys, modest, calm, conditions, laid).
  DERIVED. THE GIVEN ROWS OF THIS SEAT. 12 by the template 'for every input the law returns true; each argument reads behind the call as it read before'; 0 by the template 'total and deterministic' (their statements: YtjjnpllhenmdmaaTotals.lean).
  GIVEN WITH THE SEED: the statements are not yours to turn. If you find one false, say at which input.
  Laid BY PROGRAM, IN A SANDBOX (cutbox-rows.mjs): the forced cells as the released guide's own fill.sh prints them over the translation 8f2814cdd43ad5db… (all of the seat's roots in one cut). By AI agents, Wed Nov 11 2026. No macro, syntax, notation, axiom, sorry.
-/
import Derived.Test.YtjjnpllhenmdmaaChecked
import GoSem.Claim
import GoSem.ClaimJoined
import GoSem.ClaimMapViews
import Derived.JoinedTies
import Derived.KernelRfl
namespace Go.Proofs.Ytjjnpllhenmdmaa
/- THE CELL 'sum', in the pinned program and in every row, IS THE sha256 OF THE DUMP (.gsa) THAT YtjjnpllhenmdmaaProg.lean LOADS. Nothing in Lean hashes anything: it is a label: what it is worth is what the hold of that sum in a sandbox is worth. -/
noncomputable def Try.pinned : Pinned := { name := "ytjjnpllhenmdmaa", sum := "8f2814cdd43ad5db54dfcf0f9ab6b0e4687a54e4f74b7bf8d8739ef474e5c9c8", checked := Try.checked }
namespace Rows
def none {H : Type} : Left H := { results := [], args := [] }

/-- 'laws.FnExactConstants': WHATEVER THE INPUT: true; the input reads as it did. -/
def fnExactConstantsSpec : ChangeSpec := { name := "fnExactConstants", fn := fun _ => fun
  | [] => { results := [.lit (.bool true)], args := [] }
  | _ => none }
def fnExactConstantsRow : OpenClaim := { program := "ytjjnpllhenmdmaa", sum := "8f2814cdd43ad5db54dfcf0f9ab6b0e4687a54e4f74b7bf8d8739ef474e5c9c8", func := "loop.example/g01162/laws.FnExactConstants", spec := "fnExactConstants", apart := false }
def FnExactConstantsSaid : Prop := fnExactConstantsRow.holds Try.pinned (OpenSpec.ofChange fnExactConstantsSpec)

/-- ITS FALSE NEIGHBOUR: 'it returns false'. Refute it at one input. -/
def fnExactConstantsWrong : ChangeSpec := { name := "fnExactConstants", fn := fun _ => fun
  | [] => { results := [.lit (.bool false)], args := [] }
  | _ => none }
def FnExactConstantsWrongFalsely : Prop := fnExactConstantsRow.holds Try.pinned (OpenSpec.ofChange fnExactConstantsWrong)

/-- 'laws.FnExactCycleGraph': WHATEVER THE INPUT: true; the input reads as it did. -/
def fnExactCycleGraphSpec : ChangeSpec := { name := "fnExactCycleGraph", fn := fun _ => fun
  | [d1, d2] => { results := [.lit (.bool true)], args := [d1, d2] }
  | _ => none }
def fnExactCycleGraphRow : OpenClaim := { program := "ytjjnpllhenmdmaa", sum := "8f2814cdd43ad5db54dfcf0f9ab6b0e4687a54e4f74b7bf8d8739ef474e5c9c8", func := "loop.example/g01162/laws.FnExactCycleGraph", spec := "fnExactCycleGraph", apart := false }
def FnExactCycleGraphSaid : Prop := fnExactCycleGraphRow.holds Try.pinned (OpenSpec.ofChange fnExactCycleGraphSpec)

/-- ITS FALSE NEIGHBOUR: 'it returns false'. Refute it at one input. -/
def fnExactCycleGraphWrong : ChangeSpec := { name := "fnExactCycleGraph", fn := fun _ => fun
  | [d1, d2] => { results := [.lit (.bool false)], args := [d1, d2] }
  | _ => none }
def FnExactCycleGraphWrongFalsely : Prop := fnExactCycleGraphRow.holds Try.pinned (OpenSpec.ofChange fnExactCycleGraphWrong)

/-- 'laws.FnExactIsGraph': WHATEVER THE INPUT: true; the input reads as it did. -/
def fnExactIsGraphSpec : ChangeSpec := { name := "fnExactIsGraph", fn := fun _ => fun
  | [d] => { results := [.lit (.bool true)], args := [d] }
  | _ => none }
def fnExactIsGraphRow : OpenClaim := { program := "ytjjnpllhenmdmaa", sum := "8f2814cdd43ad5db54dfcf0f9ab6b0e4687a54e4f74b7bf8d8739ef474e5c9c8", func := "loop.example/g01162/laws.FnExactIsGraph", spec := "fnExactIsGraph", unfollowed := true, recurses := true, apart := false }
def FnExactIsGraphSaid : Prop := fnExactIsGraphRow.holds Try.pinned (OpenSpec.ofChange fnExactIsGraphSpec)

/-- ITS FALSE NEIGHBOUR: 'it returns false'. Refute it at one input. -/
def fnExactIsGraphWrong : ChangeSpec := { name := "fnExactIsGraph", fn := fun _ => fun
  | [d] => { results := [.lit (.bool false)], args := [d] }
  | _ => none }
def FnExactIsGraphWrongFalsely : Prop := fnExactIsGraphRow.holds Try.pinned (OpenSpec.ofChange fnExactIsGraphWrong)

/-- 'laws.FnExactPlacesOf': WHATEVER THE INPUT: true; the input reads as it did. -/
def fnExactPlacesOfSpec : ChangeSpec := { name := "fnExactPlacesOf", fn := fun _ => fun
  | [d] => { results := [.lit (.bool true)], args := [d] }
  | _ => none }
def fnExactPlacesOfRow : OpenClaim := { program := "ytjjnpllhenmdmaa", sum := "8f2814cdd43ad5db54dfcf0f9ab6b0e4687a54e4f74b7bf8d8739ef474e5c9c8", func := "loop.example/g01162/laws.FnExactPlacesOf", spec := "fnExactPlacesOf", unfollowed := true, recurses := true, apart := false }
def FnExactPlacesOfSaid : Prop := fnExactPlacesOfRow.holds Try.pinned (OpenSpec.ofChange fnExactPlacesOfSpec)

/-- ITS FALSE NEIGHBOUR: 'it returns false'. Refute it at one input. -/
def fnExactPlacesOfWrong : ChangeSpec := { name := "fnExactPlacesOf", fn := fun _ => fun
  | [d] => { results := [.lit (.bool false)], args := [d] }
  | _ => none }
def FnExactPlacesOfWrongFalsely : Prop := fnExactPlacesOfRow.holds Try.pinned (OpenSpec.ofChange fnExactPlacesOfWrong)

/-- 'laws.FnExactDeterminantOf': WHATEVER THE INPUT: true; the input reads as it did. -/
def fnExactDeterminantOfSpec : ChangeSpec := { name := "fnExactDeterminantOf", fn := fun _ => fun
  | [d] => { results := [.lit (.bool true)], args := [d] }
  | _ => none }
def fnExactDeterminantOfRow : OpenClaim := { program := "ytjjnpllhenmdmaa", sum := "8f2814cdd43ad5db54dfcf0f9ab6b0e4687a54e4f74b7bf8d8739ef474e5c9c8", func := "loop.example/g01162/laws.FnExactDeterminantOf", spec := "fnExactDeterminantOf", unfollowed := true, recurses := true, apart := false }
def FnExactDeterminantOfSaid : Prop := fnExactDeterminantOfRow.holds Try.pinned (OpenSpec.ofChange fnExactDeterminantOfSpec)

/-- ITS FALSE NEIGHBOUR: 'it returns false'. Refute it at one input. -/
def fnExactDeterminantOfWrong : ChangeSpec := { name := "fnExactDeterminantOf", fn := fun _ => fun
  | [d] => { results := [.lit (.bool false)], args := [d] }
  | _ => none }
def FnExactDeterminantOfWrongFalsely : Prop := fnExactDeterminantOfRow.holds Try.pinned (OpenSpec.ofChange fnExactDeterminantOfWrong)

/-- 'laws.FnExactCountExits': WHATEVER THE INPUT: true; the input reads as it did. -/
def fnExactCountExitsSpec : ChangeSpec := { name := "fnExactCountExits", fn := fun _ => fun
  | [d] => { results := [.lit (.bool true)], args := [d] }
  | _ => none }
def fnExactCountExitsRow : OpenClaim := { program := "ytjjnpllhenmdmaa", sum := "8f2814cdd43ad5db54dfcf0f9ab6b0e4687a54e4f74b7bf8d8739ef474e5c9c8", func := "loop.example/g01162/laws.FnExactCountExits", spec := "fnExactCountExits", unfollowed := true, recurses := true, apart := false }
def FnExactCountExitsSaid : Prop := fnExactCountExitsRow.holds Try.pinned (OpenSpec.ofChange fnExactCountExitsSpec)

/-- ITS FALSE NEIGHBOUR: 'it returns false'. Refute it at one input. -/
def fnExactCountExitsWrong : ChangeSpec := { name := "fnExactCountExits", fn := fun _ => fun
  | [d] => { results := [.lit (.bool false)], args := [d] }
  | _ => none }
def FnExactCountExitsWrongFalsely : Prop := fnExactCountExitsRow.holds Try.pinned (OpenSpec.ofChange fnExactCountExitsWrong)

/-- 'laws.FnExactExitsOf': WHATEVER THE INPUT: true; the input reads as it did. -/
def fnExactExitsOfSpec : ChangeSpec := { name := "fnExactExitsOf", fn := fun _ => fun
  | [d1, d2] => { results := [.lit (.bool true)], args := [d1, d2] }
  | _ => none }
def fnExactExitsOfRow : OpenClaim := { program := "ytjjnpllhenmdmaa", sum := "8f2814cdd43ad5db54dfcf0f9ab6b0e4687a54e4f74b7bf8d8739ef474e5c9c8", func := "loop.example/g01162/laws.FnExactExitsOf", spec := "fnExactExitsOf", unfollowed := true, recurses := true, apart := false }
def FnExactExitsOfSaid : Prop := fnExactExitsOfRow.holds Try.pinned (OpenSpec.ofChange fnExactExitsOfSpec)

/-- ITS FALSE NEIGHBOUR: 'it returns false'. Refute it at one input. -/
def fnExactExitsOfWrong : ChangeSpec := { name := "fnExactExitsOf", fn := fun _ => fun
  | [d1, d2] => { results := [.lit (.bool false)], args := [d1, d2] }
  | _ => none }
def FnExactExitsOfWrongFalsely : Prop := fnExactExitsOfRow.holds Try.pinned (OpenSpec.ofChange fnExactExitsOfWrong)

/-- 'laws.FnExactIsWalk': WHATEVER THE INPUT: true; the input reads as it did. -/
def fnExactIsWalkSpec : ChangeSpec := { name := "fnExactIsWalk", fn := fun _ => fun
  | [d1, d2] => { results := [.lit (.bool true)], args := [d1, d2] }
  | _ => none }
def fnExactIsWalkRow : OpenClaim := { program := "ytjjnpllhenmdmaa", sum := "8f2814cdd43ad5db54dfcf0f9ab6b0e4687a54e4f74b7bf8d8739ef474e5c9c8", func := "loop.example/g01162/laws.FnExactIsWalk", spec := "fnExactIsWalk", unfollowed := true, recurses := true, apart := false }
def FnExactIsWalkSaid : Prop := fnExactIsWalkRow.holds Try.pinned (OpenSpec.ofChange fnExactIsWalkSpec)

/-- ITS FALSE NEIGHBOUR: 'it returns false'. Refute it at one input. -/
def fnExactIsWalkWrong : ChangeSpec := { name := "fnExactIsWalk", fn := fun _ => fun
  | [d1, d2] => { results := [.lit (.bool false)], args := [d1, d2] }
  | _ => none }
def FnExactIsWalkWrongFalsely : Prop := fnExactIsWalkRow.holds Try.pinned (OpenSpec.ofChange fnExactIsWalkWrong)

/-- 'laws.FnExactEntriesOf': WHATEVER THE INPUT: true; the input reads as it did. -/
def fnExactEntriesOfSpec : ChangeSpec := { name := "fnExactEntriesOf", fn := fun _ => fun
  | [d1, d2] => { results := [.lit (.bool true)], args := [d1, d2] }
  | _ => none }
def fnExactEntriesOfRow : OpenClaim := { program := "ytjjnpllhenmdmaa", sum := "8f2814cdd43ad5db54dfcf0f9ab6b0e4687a54e4f74b7bf8d8739ef474e5c9c8", func := "loop.example/g01162/laws.FnExactEntriesOf", spec := "fnExactEntriesOf", unfollowed := true, recurses := true, apart := false }
def FnExactEntriesOfSaid : Prop := fnExactEntriesOfRow.holds Try.pinned (OpenSpec.ofChange fnExactEntriesOfSpec)

/-- ITS FALSE NEIGHBOUR: 'it returns false'. Refute it at one input. -/
def fnExactEntriesOfWrong : ChangeSpec := { name := "fnExactEntriesOf", fn := fun _ => fun
  | [d1, d2] => { results := [.lit (.bool false)], args := [d1, d2] }
  | _ => none }
def FnExactEntriesOfWrongFalsely : Prop := fnExactEntriesOfRow.holds Try.pinned (OpenSpec.ofChange fnExactEntriesOfWrong)

/-- 'laws.FnExactIsBalanced': WHATEVER THE INPUT: true; the input reads as it did. -/
def fnExactIsBalancedSpec : ChangeSpec := { name := "fnExactIsBalanced", fn := fun _ => fun
  | [d] => { results := [.lit (.bool true)], args := [d] }
  | _ => none }
def fnExactIsBalancedRow : OpenClaim := { program := "ytjjnpllhenmdmaa", sum := "8f2814cdd43ad5db54dfcf0f9ab6b0e4687a54e4f74b7bf8d8739ef474e5c9c8", func := "loop.example/g01162/laws.FnExactIsBalanced", spec := "fnExactIsBalanced", unfollowed := true, recurses := true, apart := false }
def FnExactIsBalancedSaid : Prop := fnExactIsBalancedRow.holds Try.pinned (OpenSpec.ofChange fnExactIsBalancedSpec)

/-- ITS FALSE NEIGHBOUR: 'it returns false'. Refute it at one input. -/
def fnExactIsBalancedWrong : ChangeSpec := { name := "fnExactIsBalanced", fn := fun _ => fun
  | [d] => { results := [.lit (.bool false)], args := [d] }
  | _ => none }
def FnExactIsBalancedWrongFalsely : Prop := fnExactIsBalancedRow.holds Try.pinned (OpenSpec.ofChange fnExactIsBalancedWrong)

/-- 'laws.FnExactReverseGraph': WHATEVER THE INPUT: true; the input reads as it did. -/
def fnExactReverseGraphSpec : ChangeSpec := { name := "fnExactReverseGraph", fn := fun _ => fun
  | [d] => { results := [.lit (.bool true)], args := [d] }
  | _ => none }
def fnExactReverseGraphRow : OpenClaim := { program := "ytjjnpllhenmdmaa", sum := "8f2814cdd43ad5db54dfcf0f9ab6b0e4687a54e4f74b7bf8d8739ef474e5c9c8", func := "loop.example/g01162/laws.FnExactReverseGraph", spec := "fnExactReverseGraph", unfollowed := true, recurses := true, apart := false }
def FnExactReverseGraphSaid : Prop := fnExactReverseGraphRow.holds Try.pinned (OpenSpec.ofChange fnExactReverseGraphSpec)

/-- ITS FALSE NEIGHBOUR: 'it returns false'. Refute it at one input. -/
def fnExactReverseGraphWrong : ChangeSpec := { name := "fnExactReverseGraph", fn := fun _ => fun
  | [d] => { results := [.lit (.bool false)], args := [d] }
  | _ => none }
def FnExactReverseGraphWrongFalsely : Prop := fnExactReverseGraphRow.holds Try.pinned (OpenSpec.ofChange fnExactReverseGraphWrong)

/-- 'laws.FnExactWayLength': WHATEVER THE INPUT: true; the input reads as it did. -/
def fnExactWayLengthSpec : ChangeSpec := { name := "fnExactWayLength", fn := fun _ => fun
  | [d1, d2, d3] => { results := [.lit (.bool true)], args := [d1, d2, d3] }
  | _ => none }
def fnExactWayLengthRow : OpenClaim := { program := "ytjjnpllhenmdmaa", sum := "8f2814cdd43ad5db54dfcf0f9ab6b0e4687a54e4f74b7bf8d8739ef474e5c9c8", func := "loop.example/g01162/laws.FnExactWayLength", spec := "fnExactWayLength", unfollowed := true, recurses := true, apart := false }
def FnExactWayLengthSaid : Prop := fnExactWayLengthRow.holds Try.pinned (OpenSpec.ofChange fnExactWayLengthSpec)

/-- ITS FALSE NEIGHBOUR: 'it returns false'. Refute it at one input. -/
def fnExactWayLengthWrong : ChangeSpec := { name := "fnExactWayLength", fn := fun _ => fun
  | [d1, d2, d3] => { results := [.lit (.bool false)], args := [d1, d2, d3] }
  | _ => none }
def FnExactWayLengthWrongFalsely : Prop := fnExactWayLengthRow.holds Try.pinned (OpenSpec.ofChange fnExactWayLengthWrong)

/- THE SECOND FORM. 'bulk': how many values and letters a reading holds, each counted each time it is reached (what is shared counts as often as it is met; a slice's spare places count too). A statement '..UptoSaid' is the law's where the arguments, and the package variables that the reading takes, are together of bulk at most 1048576: NARROWER than '..Said'. Prove '..Said' where nothing that the law and all that it calls make is longer than what came in: it says more and counts as full. Else prove '..UptoSaid'. A law counts once. -/
mutual
def uptoBulk {H : Type} : DataW H → Nat
  | .lit (.string bytes) => bytes.length + 1
  | .lit _ => 1
  | .nil => 1
  | .ptr d => uptoBulk d + 1
  | .slice elems spare => uptoBulkAll elems + uptoBulkAll spare + 1
  | .agg parts => uptoBulkAll parts + 1
  | .iface _ d => uptoBulk d + 1
  | .map entries => uptoBulkEntries entries + 1
  | .held _ => 1
def uptoBulkAll {H : Type} : List (DataW H) → Nat
  | [] => 0
  | d :: r => uptoBulk d + uptoBulkAll r
def uptoBulkEntries {H : Type} : List (Lit × DataW H) → Nat
  | [] => 0
  | x :: r => uptoBulkEntry x + uptoBulkEntries r
def uptoBulkEntry {H : Type} : Lit × DataW H → Nat
  | (.string bytes, d) => bytes.length + uptoBulk d + 1
  | (_, d) => uptoBulk d + 1
 end
def uptoSmall : (H : Type) → List (DataW H) → Bool := fun _ ds => decide (uptoBulkAll ds ≤ 1048576)
def OpenSpec.upto (s : _root_.Go.ChangeSpec) : _root_.Go.OpenSpec := { _root_.Go.OpenSpec.ofChange s with cond := some uptoSmall }

/-- 'laws.FnExactConstants', WHERE WHAT IT READS IS OF BULK AT MOST 1048576: true; the input reads as it did. -/
def fnExactConstantsUptoRow : OpenClaim := { program := "ytjjnpllhenmdmaa", sum := "8f2814cdd43ad5db54dfcf0f9ab6b0e4687a54e4f74b7bf8d8739ef474e5c9c8", func := "loop.example/g01162/laws.FnExactConstants", spec := "fnExactConstants", apart := false, narrowed := true }
def FnExactConstantsUptoSaid : Prop := fnExactConstantsUptoRow.holds Try.pinned (OpenSpec.upto fnExactConstantsSpec)

/-- 'laws.FnExactCycleGraph', WHERE WHAT IT READS IS OF BULK AT MOST 1048576: true; the input reads as it did. -/
def fnExactCycleGraphUptoRow : OpenClaim := { program := "ytjjnpllhenmdmaa", sum := "8f2814cdd43ad5db54dfcf0f9ab6b0e4687a54e4f74b7bf8d8739ef474e5c9c8", func := "loop.example/g01162/laws.FnExactCycleGraph", spec := "fnExactCycleGraph", apart := false, narrowed := true }
def FnExactCycleGraphUptoSaid : Prop := fnExactCycleGraphUptoRow.holds Try.pinned (OpenSpec.upto fnExactCycleGraphSpec)

/-- 'laws.FnExactIsGraph', WHERE WHAT IT READS IS OF BULK AT MOST 1048576: true; the input reads as it did. -/
def fnExactIsGraphUptoRow : OpenClaim := { program := "ytjjnpllhenmdmaa", sum := "8f2814cdd43ad5db54dfcf0f9ab6b0e4687a54e4f74b7bf8d8739ef474e5c9c8", func := "loop.example/g01162/laws.FnExactIsGraph", spec := "fnExactIsGraph", unfollowed := true, recurses := true, apart := false, narrowed := true }
def FnExactIsGraphUptoSaid : Prop := fnExactIsGraphUptoRow.holds Try.pinned (OpenSpec.upto fnExactIsGraphSpec)

/-- 'laws.FnExactPlacesOf', WHERE WHAT IT READS IS OF BULK AT MOST 1048576: true; the input reads as it did. -/
def fnExactPlacesOfUptoRow : OpenClaim := { program := "ytjjnpllhenmdmaa", sum := "8f2814cdd43ad5db54dfcf0f9ab6b0e4687a54e4f74b7bf8d8739ef474e5c9c8", func := "loop.example/g01162/laws.FnExactPlacesOf", spec := "fnExactPlacesOf", unfollowed := true, recurses := true, apart := false, narrowed := true }
def FnExactPlacesOfUptoSaid : Prop := fnExactPlacesOfUptoRow.holds Try.pinned (OpenSpec.upto fnExactPlacesOfSpec)

/-- 'laws.FnExactDeterminantOf', WHERE WHAT IT READS IS OF BULK AT MOST 1048576: true; the input reads as it did. -/
def fnExactDeterminantOfUptoRow : OpenClaim := { program := "ytjjnpllhenmdmaa", sum := "8f2814cdd43ad5db54dfcf0f9ab6b0e4687a54e4f74b7bf8d8739ef474e5c9c8", func := "loop.example/g01162/laws.FnExactDeterminantOf", spec := "fnExactDeterminantOf", unfollowed := true, recurses := true, apart := false, narrowed := true }
def FnExactDeterminantOfUptoSaid : Prop := fnExactDeterminantOfUptoRow.holds Try.pinned (OpenSpec.upto fnExactDeterminantOfSpec)

/-- 'laws.FnExactCountExits', WHERE WHAT IT READS IS OF BULK AT MOST 1048576: true; the input reads as it did. -/
def fnExactCountExitsUptoRow : OpenClaim := { program := "ytjjnpllhenmdmaa", sum := "8f2814cdd43ad5db54dfcf0f9ab6b0e4687a54e4f74b7bf8d8739ef474e5c9c8", func := "loop.example/g01162/laws.FnExactCountExits", spec := "fnExactCountExits", unfollowed := true, recurses := true, apart := false, narrowed := true }
def FnExactCountExitsUptoSaid : Prop := fnExactCountExitsUptoRow.holds Try.pinned (OpenSpec.upto fnExactCountExitsSpec)

/-- 'laws.FnExactExitsOf', WHERE WHAT IT READS IS OF BULK AT MOST 1048576: true; the input reads as it did. -/
def fnExactExitsOfUptoRow : OpenClaim := { program := "ytjjnpllhenmdmaa", sum := "8f2814cdd43ad5db54dfcf0f9ab6b0e4687a54e4f74b7bf8d8739ef474e5c9c8", func := "loop.example/g01162/laws.FnExactExitsOf", spec := "fnExactExitsOf", unfollowed := true, recurses := true, apart := false, narrowed := true }
def FnExactExitsOfUptoSaid : Prop := fnExactExitsOfUptoRow.holds Try.pinned (OpenSpec.upto fnExactExitsOfSpec)

/-- 'laws.FnExactIsWalk', WHERE WHAT IT READS IS OF BULK AT MOST 1048576: true; the input reads as it did. -/
def fnExactIsWalkUptoRow : OpenClaim := { program := "ytjjnpllhenmdmaa", sum := "8f2814cdd43ad5db54dfcf0f9ab6b0e4687a54e4f74b7bf8d8739ef474e5c9c8", func := "loop.example/g01162/laws.FnExactIsWalk", spec := "fnExactIsWalk", unfollowed := true, recurses := true, apart := false, narrowed := true }
def FnExactIsWalkUptoSaid : Prop := fnExactIsWalkUptoRow.holds Try.pinned (OpenSpec.upto fnExactIsWalkSpec)

/-- 'laws.FnExactEntriesOf', WHERE WHAT IT READS IS OF BULK AT MOST 1048576: true; the input reads as it did. -/
def fnExactEntriesOfUptoRow : OpenClaim := { program := "ytjjnpllhenmdmaa", sum := "8f2814cdd43ad5db54dfcf0f9ab6b0e4687a54e4f74b7bf8d8739ef474e5c9c8", func := "loop.example/g01162/laws.FnExactEntriesOf", spec := "fnExactEntriesOf", unfollowed := true, recurses := true, apart := false, narrowed := true }
def FnExactEntriesOfUptoSaid : Prop := fnExactEntriesOfUptoRow.holds Try.pinned (OpenSpec.upto fnExactEntriesOfSpec)

/-- 'laws.FnExactIsBalanced', WHERE WHAT IT READS IS OF BULK AT MOST 1048576: true; the input reads as it did. -/
def fnExactIsBalancedUptoRow : OpenClaim := { program := "ytjjnpllhenmdmaa", sum := "8f2814cdd43ad5db54dfcf0f9ab6b0e4687a54e4f74b7bf8d8739ef474e5c9c8", func := "loop.example/g01162/laws.FnExactIsBalanced", spec := "fnExactIsBalanced", unfollowed := true, recurses := true, apart := false, narrowed := true }
def FnExactIsBalancedUptoSaid : Prop := fnExactIsBalancedUptoRow.holds Try.pinned (OpenSpec.upto fnExactIsBalancedSpec)

/-- 'laws.FnExactReverseGraph', WHERE WHAT IT READS IS OF BULK AT MOST 1048576: true; the input reads as it did. -/
def fnExactReverseGraphUptoRow : OpenClaim := { program := "ytjjnpllhenmdmaa", sum := "8f2814cdd43ad5db54dfcf0f9ab6b0e4687a54e4f74b7bf8d8739ef474e5c9c8", func := "loop.example/g01162/laws.FnExactReverseGraph", spec := "fnExactReverseGraph", unfollowed := true, recurses := true, apart := false, narrowed := true }
def FnExactReverseGraphUptoSaid : Prop := fnExactReverseGraphUptoRow.holds Try.pinned (OpenSpec.upto fnExactReverseGraphSpec)

/-- 'laws.FnExactWayLength', WHERE WHAT IT READS IS OF BULK AT MOST 1048576: true; the input reads as it did. -/
def fnExactWayLengthUptoRow : OpenClaim := { program := "ytjjnpllhenmdmaa", sum := "8f2814cdd43ad5db54dfcf0f9ab6b0e4687a54e4f74b7bf8d8739ef474e5c9c8", func := "loop.example/g01162/laws.FnExactWayLength", spec := "fnExactWayLength", unfollowed := true, recurses := true, apart := false, narrowed := true }
def FnExactWayLengthUptoSaid : Prop := fnExactWayLengthUptoRow.holds Try.pinned (OpenSpec.upto fnExactWayLengthSpec)

end Rows
end Go.Proofs.Ytjjnpllhenmdmaa
