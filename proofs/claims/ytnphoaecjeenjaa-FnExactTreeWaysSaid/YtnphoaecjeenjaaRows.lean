/-
  No cell of these rows narrows 'for every input' (looked for: loops, veiled, ifaces, maps, wideKeys, modest, calm, conditions, laid).
  DERIVED. THE GIVEN ROWS OF THIS SEAT. 12 by the template 'for every input the law returns true; each argument reads behind the call as it read before'; 0 by the template 'total and deterministic' (their statements: YtnphoaecjeenjaaTotals.lean).
  GIVEN WITH THE SEED: the statements are not yours to turn. If you find one false, say at which input.
  Laid BY PROGRAM, IN A SANDBOX (cutbox-rows.mjs): the forced cells as the released guide's own fill.sh prints them over the translation 61197dbfbf50e84e… (all of the seat's roots in one cut). By AI agents, Wed Nov 11 2026. No macro, syntax, notation, axiom, sorry.
-/
import Derived.Test.YtnphoaecjeenjaaChecked
import GoSem.Claim
import GoSem.ClaimJoined
import GoSem.ClaimMapViews
import Derived.JoinedTies
import Derived.KernelRfl
namespace Go.Proofs.Ytnphoaecjeenjaa
/- THE CELL 'sum', in the pinned program and in every row, IS THE sha256 OF THE DUMP (.gsa) THAT YtnphoaecjeenjaaProg.lean LOADS. Nothing in Lean hashes anything: it is a label: what it is worth is what the hold of that sum in a sandbox is worth. -/
noncomputable def Try.pinned : Pinned := { name := "ytnphoaecjeenjaa", sum := "61197dbfbf50e84e9ab6aee11354061b9f3e305fcf54100f50f02058b065bf12", checked := Try.checked }
namespace Rows
def none {H : Type} : Left H := { results := [], args := [] }

/-- 'laws.FnExactLaplaceOf': WHATEVER THE INPUT: true; the input reads as it did. -/
def fnExactLaplaceOfSpec : ChangeSpec := { name := "fnExactLaplaceOf", fn := fun _ => fun
  | [d1, d2] => { results := [.lit (.bool true)], args := [d1, d2] }
  | _ => none }
def fnExactLaplaceOfRow : OpenClaim := { program := "ytnphoaecjeenjaa", sum := "61197dbfbf50e84e9ab6aee11354061b9f3e305fcf54100f50f02058b065bf12", func := "loop.example/g01162/laws.FnExactLaplaceOf", spec := "fnExactLaplaceOf", unfollowed := true, recurses := true, apart := false }
def FnExactLaplaceOfSaid : Prop := fnExactLaplaceOfRow.holds Try.pinned (OpenSpec.ofChange fnExactLaplaceOfSpec)

/-- ITS FALSE NEIGHBOUR: 'it returns false'. Refute it at one input. -/
def fnExactLaplaceOfWrong : ChangeSpec := { name := "fnExactLaplaceOf", fn := fun _ => fun
  | [d1, d2] => { results := [.lit (.bool false)], args := [d1, d2] }
  | _ => none }
def FnExactLaplaceOfWrongFalsely : Prop := fnExactLaplaceOfRow.holds Try.pinned (OpenSpec.ofChange fnExactLaplaceOfWrong)

/-- 'laws.FnExactIsTree': WHATEVER THE INPUT: true; the input reads as it did. -/
def fnExactIsTreeSpec : ChangeSpec := { name := "fnExactIsTree", fn := fun _ => fun
  | [d1, d2, d3] => { results := [.lit (.bool true)], args := [d1, d2, d3] }
  | _ => none }
def fnExactIsTreeRow : OpenClaim := { program := "ytnphoaecjeenjaa", sum := "61197dbfbf50e84e9ab6aee11354061b9f3e305fcf54100f50f02058b065bf12", func := "loop.example/g01162/laws.FnExactIsTree", spec := "fnExactIsTree", unfollowed := true, recurses := true, apart := false }
def FnExactIsTreeSaid : Prop := fnExactIsTreeRow.holds Try.pinned (OpenSpec.ofChange fnExactIsTreeSpec)

/-- ITS FALSE NEIGHBOUR: 'it returns false'. Refute it at one input. -/
def fnExactIsTreeWrong : ChangeSpec := { name := "fnExactIsTree", fn := fun _ => fun
  | [d1, d2, d3] => { results := [.lit (.bool false)], args := [d1, d2, d3] }
  | _ => none }
def FnExactIsTreeWrongFalsely : Prop := fnExactIsTreeRow.holds Try.pinned (OpenSpec.ofChange fnExactIsTreeWrong)

/-- 'laws.FnExactLeadsTo': WHATEVER THE INPUT: true; the input reads as it did. -/
def fnExactLeadsToSpec : ChangeSpec := { name := "fnExactLeadsTo", fn := fun _ => fun
  | [d1, d2] => { results := [.lit (.bool true)], args := [d1, d2] }
  | _ => none }
def fnExactLeadsToRow : OpenClaim := { program := "ytnphoaecjeenjaa", sum := "61197dbfbf50e84e9ab6aee11354061b9f3e305fcf54100f50f02058b065bf12", func := "loop.example/g01162/laws.FnExactLeadsTo", spec := "fnExactLeadsTo", unfollowed := true, recurses := true, apart := false }
def FnExactLeadsToSaid : Prop := fnExactLeadsToRow.holds Try.pinned (OpenSpec.ofChange fnExactLeadsToSpec)

/-- ITS FALSE NEIGHBOUR: 'it returns false'. Refute it at one input. -/
def fnExactLeadsToWrong : ChangeSpec := { name := "fnExactLeadsTo", fn := fun _ => fun
  | [d1, d2] => { results := [.lit (.bool false)], args := [d1, d2] }
  | _ => none }
def FnExactLeadsToWrongFalsely : Prop := fnExactLeadsToRow.holds Try.pinned (OpenSpec.ofChange fnExactLeadsToWrong)

/-- 'laws.FnExactCountTrees': WHATEVER THE INPUT: true; the input reads as it did. -/
def fnExactCountTreesSpec : ChangeSpec := { name := "fnExactCountTrees", fn := fun _ => fun
  | [d1, d2] => { results := [.lit (.bool true)], args := [d1, d2] }
  | _ => none }
def fnExactCountTreesRow : OpenClaim := { program := "ytnphoaecjeenjaa", sum := "61197dbfbf50e84e9ab6aee11354061b9f3e305fcf54100f50f02058b065bf12", func := "loop.example/g01162/laws.FnExactCountTrees", spec := "fnExactCountTrees", unfollowed := true, recurses := true, apart := false }
def FnExactCountTreesSaid : Prop := fnExactCountTreesRow.holds Try.pinned (OpenSpec.ofChange fnExactCountTreesSpec)

/-- ITS FALSE NEIGHBOUR: 'it returns false'. Refute it at one input. -/
def fnExactCountTreesWrong : ChangeSpec := { name := "fnExactCountTrees", fn := fun _ => fun
  | [d1, d2] => { results := [.lit (.bool false)], args := [d1, d2] }
  | _ => none }
def FnExactCountTreesWrongFalsely : Prop := fnExactCountTreesRow.holds Try.pinned (OpenSpec.ofChange fnExactCountTreesWrong)

/-- 'laws.FnExactCountUnicycles': WHATEVER THE INPUT: true; the input reads as it did. -/
def fnExactCountUnicyclesSpec : ChangeSpec := { name := "fnExactCountUnicycles", fn := fun _ => fun
  | [d] => { results := [.lit (.bool true)], args := [d] }
  | _ => none }
def fnExactCountUnicyclesRow : OpenClaim := { program := "ytnphoaecjeenjaa", sum := "61197dbfbf50e84e9ab6aee11354061b9f3e305fcf54100f50f02058b065bf12", func := "loop.example/g01162/laws.FnExactCountUnicycles", spec := "fnExactCountUnicycles", unfollowed := true, recurses := true, apart := false }
def FnExactCountUnicyclesSaid : Prop := fnExactCountUnicyclesRow.holds Try.pinned (OpenSpec.ofChange fnExactCountUnicyclesSpec)

/-- ITS FALSE NEIGHBOUR: 'it returns false'. Refute it at one input. -/
def fnExactCountUnicyclesWrong : ChangeSpec := { name := "fnExactCountUnicycles", fn := fun _ => fun
  | [d] => { results := [.lit (.bool false)], args := [d] }
  | _ => none }
def FnExactCountUnicyclesWrongFalsely : Prop := fnExactCountUnicyclesRow.holds Try.pinned (OpenSpec.ofChange fnExactCountUnicyclesWrong)

/-- 'laws.FnExactIsStrong': WHATEVER THE INPUT: true; the input reads as it did. -/
def fnExactIsStrongSpec : ChangeSpec := { name := "fnExactIsStrong", fn := fun _ => fun
  | [d] => { results := [.lit (.bool true)], args := [d] }
  | _ => none }
def fnExactIsStrongRow : OpenClaim := { program := "ytnphoaecjeenjaa", sum := "61197dbfbf50e84e9ab6aee11354061b9f3e305fcf54100f50f02058b065bf12", func := "loop.example/g01162/laws.FnExactIsStrong", spec := "fnExactIsStrong", unfollowed := true, recurses := true, apart := false }
def FnExactIsStrongSaid : Prop := fnExactIsStrongRow.holds Try.pinned (OpenSpec.ofChange fnExactIsStrongSpec)

/-- ITS FALSE NEIGHBOUR: 'it returns false'. Refute it at one input. -/
def fnExactIsStrongWrong : ChangeSpec := { name := "fnExactIsStrong", fn := fun _ => fun
  | [d] => { results := [.lit (.bool false)], args := [d] }
  | _ => none }
def FnExactIsStrongWrongFalsely : Prop := fnExactIsStrongRow.holds Try.pinned (OpenSpec.ofChange fnExactIsStrongWrong)

/-- 'laws.FnExactTreeWays': WHATEVER THE INPUT: true; the input reads as it did. -/
def fnExactTreeWaysSpec : ChangeSpec := { name := "fnExactTreeWays", fn := fun _ => fun
  | [d1, d2, d3] => { results := [.lit (.bool true)], args := [d1, d2, d3] }
  | _ => none }
def fnExactTreeWaysRow : OpenClaim := { program := "ytnphoaecjeenjaa", sum := "61197dbfbf50e84e9ab6aee11354061b9f3e305fcf54100f50f02058b065bf12", func := "loop.example/g01162/laws.FnExactTreeWays", spec := "fnExactTreeWays", unfollowed := true, recurses := true, apart := false }
def FnExactTreeWaysSaid : Prop := fnExactTreeWaysRow.holds Try.pinned (OpenSpec.ofChange fnExactTreeWaysSpec)

/-- ITS FALSE NEIGHBOUR: 'it returns false'. Refute it at one input. -/
def fnExactTreeWaysWrong : ChangeSpec := { name := "fnExactTreeWays", fn := fun _ => fun
  | [d1, d2, d3] => { results := [.lit (.bool false)], args := [d1, d2, d3] }
  | _ => none }
def FnExactTreeWaysWrongFalsely : Prop := fnExactTreeWaysRow.holds Try.pinned (OpenSpec.ofChange fnExactTreeWaysWrong)

/-- 'laws.FnExactReachOf': WHATEVER THE INPUT: true; the input reads as it did. -/
def fnExactReachOfSpec : ChangeSpec := { name := "fnExactReachOf", fn := fun _ => fun
  | [d1, d2] => { results := [.lit (.bool true)], args := [d1, d2] }
  | _ => none }
def fnExactReachOfRow : OpenClaim := { program := "ytnphoaecjeenjaa", sum := "61197dbfbf50e84e9ab6aee11354061b9f3e305fcf54100f50f02058b065bf12", func := "loop.example/g01162/laws.FnExactReachOf", spec := "fnExactReachOf", unfollowed := true, recurses := true, apart := false }
def FnExactReachOfSaid : Prop := fnExactReachOfRow.holds Try.pinned (OpenSpec.ofChange fnExactReachOfSpec)

/-- ITS FALSE NEIGHBOUR: 'it returns false'. Refute it at one input. -/
def fnExactReachOfWrong : ChangeSpec := { name := "fnExactReachOf", fn := fun _ => fun
  | [d1, d2] => { results := [.lit (.bool false)], args := [d1, d2] }
  | _ => none }
def FnExactReachOfWrongFalsely : Prop := fnExactReachOfRow.holds Try.pinned (OpenSpec.ofChange fnExactReachOfWrong)

/-- 'laws.FnExactIsStableHeap': WHATEVER THE INPUT: true; the input reads as it did. -/
def fnExactIsStableHeapSpec : ChangeSpec := { name := "fnExactIsStableHeap", fn := fun _ => fun
  | [d1, d2, d3] => { results := [.lit (.bool true)], args := [d1, d2, d3] }
  | _ => none }
def fnExactIsStableHeapRow : OpenClaim := { program := "ytnphoaecjeenjaa", sum := "61197dbfbf50e84e9ab6aee11354061b9f3e305fcf54100f50f02058b065bf12", func := "loop.example/g01162/laws.FnExactIsStableHeap", spec := "fnExactIsStableHeap", unfollowed := true, recurses := true, apart := false }
def FnExactIsStableHeapSaid : Prop := fnExactIsStableHeapRow.holds Try.pinned (OpenSpec.ofChange fnExactIsStableHeapSpec)

/-- ITS FALSE NEIGHBOUR: 'it returns false'. Refute it at one input. -/
def fnExactIsStableHeapWrong : ChangeSpec := { name := "fnExactIsStableHeap", fn := fun _ => fun
  | [d1, d2, d3] => { results := [.lit (.bool false)], args := [d1, d2, d3] }
  | _ => none }
def FnExactIsStableHeapWrongFalsely : Prop := fnExactIsStableHeapRow.holds Try.pinned (OpenSpec.ofChange fnExactIsStableHeapWrong)

/-- 'laws.FnExactIsUnicycle': WHATEVER THE INPUT: true; the input reads as it did. -/
def fnExactIsUnicycleSpec : ChangeSpec := { name := "fnExactIsUnicycle", fn := fun _ => fun
  | [d1, d2] => { results := [.lit (.bool true)], args := [d1, d2] }
  | _ => none }
def fnExactIsUnicycleRow : OpenClaim := { program := "ytnphoaecjeenjaa", sum := "61197dbfbf50e84e9ab6aee11354061b9f3e305fcf54100f50f02058b065bf12", func := "loop.example/g01162/laws.FnExactIsUnicycle", spec := "fnExactIsUnicycle", unfollowed := true, recurses := true, apart := false }
def FnExactIsUnicycleSaid : Prop := fnExactIsUnicycleRow.holds Try.pinned (OpenSpec.ofChange fnExactIsUnicycleSpec)

/-- ITS FALSE NEIGHBOUR: 'it returns false'. Refute it at one input. -/
def fnExactIsUnicycleWrong : ChangeSpec := { name := "fnExactIsUnicycle", fn := fun _ => fun
  | [d1, d2] => { results := [.lit (.bool false)], args := [d1, d2] }
  | _ => none }
def FnExactIsUnicycleWrongFalsely : Prop := fnExactIsUnicycleRow.holds Try.pinned (OpenSpec.ofChange fnExactIsUnicycleWrong)

/-- 'laws.FnExactFullHeap': WHATEVER THE INPUT: true; the input reads as it did. -/
def fnExactFullHeapSpec : ChangeSpec := { name := "fnExactFullHeap", fn := fun _ => fun
  | [d1, d2] => { results := [.lit (.bool true)], args := [d1, d2] }
  | _ => none }
def fnExactFullHeapRow : OpenClaim := { program := "ytnphoaecjeenjaa", sum := "61197dbfbf50e84e9ab6aee11354061b9f3e305fcf54100f50f02058b065bf12", func := "loop.example/g01162/laws.FnExactFullHeap", spec := "fnExactFullHeap", unfollowed := true, recurses := true, apart := false }
def FnExactFullHeapSaid : Prop := fnExactFullHeapRow.holds Try.pinned (OpenSpec.ofChange fnExactFullHeapSpec)

/-- ITS FALSE NEIGHBOUR: 'it returns false'. Refute it at one input. -/
def fnExactFullHeapWrong : ChangeSpec := { name := "fnExactFullHeap", fn := fun _ => fun
  | [d1, d2] => { results := [.lit (.bool false)], args := [d1, d2] }
  | _ => none }
def FnExactFullHeapWrongFalsely : Prop := fnExactFullHeapRow.holds Try.pinned (OpenSpec.ofChange fnExactFullHeapWrong)

/-- 'laws.FnExactUnicycleOfTree': WHATEVER THE INPUT: true; the input reads as it did. -/
def fnExactUnicycleOfTreeSpec : ChangeSpec := { name := "fnExactUnicycleOfTree", fn := fun _ => fun
  | [d1, d2, d3, d4] => { results := [.lit (.bool true)], args := [d1, d2, d3, d4] }
  | _ => none }
def fnExactUnicycleOfTreeRow : OpenClaim := { program := "ytnphoaecjeenjaa", sum := "61197dbfbf50e84e9ab6aee11354061b9f3e305fcf54100f50f02058b065bf12", func := "loop.example/g01162/laws.FnExactUnicycleOfTree", spec := "fnExactUnicycleOfTree", unfollowed := true, recurses := true, apart := false }
def FnExactUnicycleOfTreeSaid : Prop := fnExactUnicycleOfTreeRow.holds Try.pinned (OpenSpec.ofChange fnExactUnicycleOfTreeSpec)

/-- ITS FALSE NEIGHBOUR: 'it returns false'. Refute it at one input. -/
def fnExactUnicycleOfTreeWrong : ChangeSpec := { name := "fnExactUnicycleOfTree", fn := fun _ => fun
  | [d1, d2, d3, d4] => { results := [.lit (.bool false)], args := [d1, d2, d3, d4] }
  | _ => none }
def FnExactUnicycleOfTreeWrongFalsely : Prop := fnExactUnicycleOfTreeRow.holds Try.pinned (OpenSpec.ofChange fnExactUnicycleOfTreeWrong)

/- THE SECOND FORM. 'bulk': how many values and letters a reading holds, each counted each time it is reached (what is shared counts as often as it is met; a slice's spare places count too). A statement '..UptoSaid' is the law's where the arguments, and the package variables that the reading takes, are together of bulk at most 1048576: NARROWER than '..Said'. Prove '..Said' where nothing that the law and all that it calls make is longer than what came in: it says more and counts as full. Else prove '..UptoSaid'. A law counts once. -/
mutual
def uptoBulk {H : Type} : DataW H → Nat
  | .lit (.string bytes) => bytes.length + 1
  | .lit _ => 1
  | .nil => 1
  | .ptr d => uptoBulk d + 1
  | .slice elems spare => uptoBulkAll elems + uptoBulkAll spare + 1
  | .agg parts => uptoBulkAll parts + 1
  | .iface _ d => uptoBulk d + 1
  | .map entries => uptoBulkEntries entries + 1
  | .held _ => 1
def uptoBulkAll {H : Type} : List (DataW H) → Nat
  | [] => 0
  | d :: r => uptoBulk d + uptoBulkAll r
def uptoBulkEntries {H : Type} : List (Lit × DataW H) → Nat
  | [] => 0
  | x :: r => uptoBulkEntry x + uptoBulkEntries r
def uptoBulkEntry {H : Type} : Lit × DataW H → Nat
  | (.string bytes, d) => bytes.length + uptoBulk d + 1
  | (_, d) => uptoBulk d + 1
 end
def uptoSmall : (H : Type) → List (DataW H) → Bool := fun _ ds => decide (uptoBulkAll ds ≤ 1048576)
def OpenSpec.upto (s : _root_.Go.ChangeSpec) : _root_.Go.OpenSpec := { _root_.Go.OpenSpec.ofChange s with cond := some uptoSmall }

/-- 'laws.FnExactLaplaceOf', WHERE WHAT IT READS IS OF BULK AT MOST 1048576: true; the input reads as it did. -/
def fnExactLaplaceOfUptoRow : OpenClaim := { program := "ytnphoaecjeenjaa", sum := "61197dbfbf50e84e9ab6aee11354061b9f3e305fcf54100f50f02058b065bf12", func := "loop.example/g01162/laws.FnExactLaplaceOf", spec := "fnExactLaplaceOf", unfollowed := true, recurses := true, apart := false, narrowed := true }
def FnExactLaplaceOfUptoSaid : Prop := fnExactLaplaceOfUptoRow.holds Try.pinned (OpenSpec.upto fnExactLaplaceOfSpec)

/-- 'laws.FnExactIsTree', WHERE WHAT IT READS IS OF BULK AT MOST 1048576: true; the input reads as it did. -/
def fnExactIsTreeUptoRow : OpenClaim := { program := "ytnphoaecjeenjaa", sum := "61197dbfbf50e84e9ab6aee11354061b9f3e305fcf54100f50f02058b065bf12", func := "loop.example/g01162/laws.FnExactIsTree", spec := "fnExactIsTree", unfollowed := true, recurses := true, apart := false, narrowed := true }
def FnExactIsTreeUptoSaid : Prop := fnExactIsTreeUptoRow.holds Try.pinned (OpenSpec.upto fnExactIsTreeSpec)

/-- 'laws.FnExactLeadsTo', WHERE WHAT IT READS IS OF BULK AT MOST 1048576: true; the input reads as it did. -/
def fnExactLeadsToUptoRow : OpenClaim := { program := "ytnphoaecjeenjaa", sum := "61197dbfbf50e84e9ab6aee11354061b9f3e305fcf54100f50f02058b065bf12", func := "loop.example/g01162/laws.FnExactLeadsTo", spec := "fnExactLeadsTo", unfollowed := true, recurses := true, apart := false, narrowed := true }
def FnExactLeadsToUptoSaid : Prop := fnExactLeadsToUptoRow.holds Try.pinned (OpenSpec.upto fnExactLeadsToSpec)

/-- 'laws.FnExactCountTrees', WHERE WHAT IT READS IS OF BULK AT MOST 1048576: true; the input reads as it did. -/
def fnExactCountTreesUptoRow : OpenClaim := { program := "ytnphoaecjeenjaa", sum := "61197dbfbf50e84e9ab6aee11354061b9f3e305fcf54100f50f02058b065bf12", func := "loop.example/g01162/laws.FnExactCountTrees", spec := "fnExactCountTrees", unfollowed := true, recurses := true, apart := false, narrowed := true }
def FnExactCountTreesUptoSaid : Prop := fnExactCountTreesUptoRow.holds Try.pinned (OpenSpec.upto fnExactCountTreesSpec)

/-- 'laws.FnExactCountUnicycles', WHERE WHAT IT READS IS OF BULK AT MOST 1048576: true; the input reads as it did. -/
def fnExactCountUnicyclesUptoRow : OpenClaim := { program := "ytnphoaecjeenjaa", sum := "61197dbfbf50e84e9ab6aee11354061b9f3e305fcf54100f50f02058b065bf12", func := "loop.example/g01162/laws.FnExactCountUnicycles", spec := "fnExactCountUnicycles", unfollowed := true, recurses := true, apart := false, narrowed := true }
def FnExactCountUnicyclesUptoSaid : Prop := fnExactCountUnicyclesUptoRow.holds Try.pinned (OpenSpec.upto fnExactCountUnicyclesSpec)

/-- 'laws.FnExactIsStrong', WHERE WHAT IT READS IS OF BULK AT MOST 1048576: true; the input reads as it did. -/
def fnExactIsStrongUptoRow : OpenClaim := { program := "ytnphoaecjeenjaa", sum := "61197dbfbf50e84e9ab6aee11354061b9f3e305fcf54100f50f02058b065bf12", func := "loop.example/g01162/laws.FnExactIsStrong", spec := "fnExactIsStrong", unfollowed := true, recurses := true, apart := false, narrowed := true }
def FnExactIsStrongUptoSaid : Prop := fnExactIsStrongUptoRow.holds Try.pinned (OpenSpec.upto fnExactIsStrongSpec)

/-- 'laws.FnExactTreeWays', WHERE WHAT IT READS IS OF BULK AT MOST 1048576: true; the input reads as it did. -/
def fnExactTreeWaysUptoRow : OpenClaim := { program := "ytnphoaecjeenjaa", sum := "61197dbfbf50e84e9ab6aee11354061b9f3e305fcf54100f50f02058b065bf12", func := "loop.example/g01162/laws.FnExactTreeWays", spec := "fnExactTreeWays", unfollowed := true, recurses := true, apart := false, narrowed := true }
def FnExactTreeWaysUptoSaid : Prop := fnExactTreeWaysUptoRow.holds Try.pinned (OpenSpec.upto fnExactTreeWaysSpec)

/-- 'laws.FnExactReachOf', WHERE WHAT IT READS IS OF BULK AT MOST 1048576: true; the input reads as it did. -/
def fnExactReachOfUptoRow : OpenClaim := { program := "ytnphoaecjeenjaa", sum := "61197dbfbf50e84e9ab6aee11354061b9f3e305fcf54100f50f02058b065bf12", func := "loop.example/g01162/laws.FnExactReachOf", spec := "fnExactReachOf", unfollowed := true, recurses := true, apart := false, narrowed := true }
def FnExactReachOfUptoSaid : Prop := fnExactReachOfUptoRow.holds Try.pinned (OpenSpec.upto fnExactReachOfSpec)

/-- 'laws.FnExactIsStableHeap', WHERE WHAT IT READS IS OF BULK AT MOST 1048576: true; the input reads as it did. -/
def fnExactIsStableHeapUptoRow : OpenClaim := { program := "ytnphoaecjeenjaa", sum := "61197dbfbf50e84e9ab6aee11354061b9f3e305fcf54100f50f02058b065bf12", func := "loop.example/g01162/laws.FnExactIsStableHeap", spec := "fnExactIsStableHeap", unfollowed := true, recurses := true, apart := false, narrowed := true }
def FnExactIsStableHeapUptoSaid : Prop := fnExactIsStableHeapUptoRow.holds Try.pinned (OpenSpec.upto fnExactIsStableHeapSpec)

/-- 'laws.FnExactIsUnicycle', WHERE WHAT IT READS IS OF BULK AT MOST 1048576: true; the input reads as it did. -/
def fnExactIsUnicycleUptoRow : OpenClaim := { program := "ytnphoaecjeenjaa", sum := "61197dbfbf50e84e9ab6aee11354061b9f3e305fcf54100f50f02058b065bf12", func := "loop.example/g01162/laws.FnExactIsUnicycle", spec := "fnExactIsUnicycle", unfollowed := true, recurses := true, apart := false, narrowed := true }
def FnExactIsUnicycleUptoSaid : Prop := fnExactIsUnicycleUptoRow.holds Try.pinned (OpenSpec.upto fnExactIsUnicycleSpec)

/-- 'laws.FnExactFullHeap', WHERE WHAT IT READS IS OF BULK AT MOST 1048576: true; the input reads as it did. -/
def fnExactFullHeapUptoRow : OpenClaim := { program := "ytnphoaecjeenjaa", sum := "61197dbfbf50e84e9ab6aee11354061b9f3e305fcf54100f50f02058b065bf12", func := "loop.example/g01162/laws.FnExactFullHeap", spec := "fnExactFullHeap", unfollowed := true, recurses := true, apart := false, narrowed := true }
def FnExactFullHeapUptoSaid : Prop := fnExactFullHeapUptoRow.holds Try.pinned (OpenSpec.upto fnExactFullHeapSpec)

/-- 'laws.FnExactUnicycleOfTree', WHERE WHAT IT READS IS OF BULK AT MOST 1048576: true; the input reads as it did. -/
def fnExactUnicycleOfTreeUptoRow : OpenClaim := { program := "ytnphoaecjeenjaa", sum := "61197dbfbf50e84e9ab6aee11354061b9f3e305fcf54100f50f02058b065bf12", func := "loop.example/g01162/laws.FnExactUnicycleOfTree", spec := "fnExactUnicycleOfTree", unfollowed := true, recurses := true, apart := false, narrowed := true }
def FnExactUnicycleOfTreeUptoSaid : Prop := fnExactUnicycleOfTreeUptoRow.holds Try.pinned (OpenSpec.upto fnExactUnicycleOfTreeSpec)

end Rows
end Go.Proofs.Ytnphoaecjeenjaa
