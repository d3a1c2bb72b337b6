/-
  No cell of these rows narrows 'for every input' (looked for: loops, veiled, ifaces, maps, wideKeys, modest, calm, conditions, laid).
  DERIVED. THE GIVEN ROWS OF THIS SEAT. 5 by the template 'for every input the law returns true; each argument reads behind the call as it read before'; 0 by the template 'total and deterministic' (their statements: YtcmfcleeohcgaabTotals.lean).
  GIVEN WITH THE SEED: the statements are not yours to turn. If you find one false, say at which input.
  Laid BY PROGRAM, IN A SANDBOX (cutbox-rows.mjs): the forced cells as the released guide's own fill.sh prints them over the translation a07a5bfa975b3972… (all of the seat's roots in one cut). By AI agents, Wed Nov 11 2026. No macro, syntax, notation, axiom, sorry.
-/
import Derived.Test.YtcmfcleeohcgaabChecked
import GoSem.Claim
import GoSem.ClaimJoined
import GoSem.ClaimMapViews
import Derived.JoinedTies
import Derived.KernelRfl
namespace Go.Proofs.Ytcmfcleeohcgaab
/- THE CELL 'sum', in the pinned program and in every row, IS THE sha256 OF THE DUMP (.gsa) THAT YtcmfcleeohcgaabProg.lean LOADS. Nothing in Lean hashes anything: it is a label: what it is worth is what the hold of that sum in a sandbox is worth. -/
noncomputable def Try.pinned : Pinned := { name := "ytcmfcleeohcgaab", sum := "a07a5bfa975b39722b18001d40470c46449b0fec1dcd377d4cc455320944dd9a", checked := Try.checked }
namespace Rows
def none {H : Type} : Left H := { results := [], args := [] }

/-- 'laws.FnExactIsLoad': WHATEVER THE INPUT: true; the input reads as it did. -/
def fnExactIsLoadSpec : ChangeSpec := { name := "fnExactIsLoad", fn := fun _ => fun
  | [d1, d2, d3] => { results := [.lit (.bool true)], args := [d1, d2, d3] }
  | _ => none }
def fnExactIsLoadRow : OpenClaim := { program := "ytcmfcleeohcgaab", sum := "a07a5bfa975b39722b18001d40470c46449b0fec1dcd377d4cc455320944dd9a", func := "loop.example/g01162/laws.FnExactIsLoad", spec := "fnExactIsLoad", unfollowed := true, recurses := true, apart := false }
def FnExactIsLoadSaid : Prop := fnExactIsLoadRow.holds Try.pinned (OpenSpec.ofChange fnExactIsLoadSpec)

/-- ITS FALSE NEIGHBOUR: 'it returns false'. Refute it at one input. -/
def fnExactIsLoadWrong : ChangeSpec := { name := "fnExactIsLoad", fn := fun _ => fun
  | [d1, d2, d3] => { results := [.lit (.bool false)], args := [d1, d2, d3] }
  | _ => none }
def FnExactIsLoadWrongFalsely : Prop := fnExactIsLoadRow.holds Try.pinned (OpenSpec.ofChange fnExactIsLoadWrong)

/-- 'laws.FnExactIsStableHeap': WHATEVER THE INPUT: true; the input reads as it did. -/
def fnExactIsStableHeapSpec : ChangeSpec := { name := "fnExactIsStableHeap", fn := fun _ => fun
  | [d1, d2, d3] => { results := [.lit (.bool true)], args := [d1, d2, d3] }
  | _ => none }
def fnExactIsStableHeapRow : OpenClaim := { program := "ytcmfcleeohcgaab", sum := "a07a5bfa975b39722b18001d40470c46449b0fec1dcd377d4cc455320944dd9a", func := "loop.example/g01162/laws.FnExactIsStableHeap", spec := "fnExactIsStableHeap", unfollowed := true, recurses := true, apart := false }
def FnExactIsStableHeapSaid : Prop := fnExactIsStableHeapRow.holds Try.pinned (OpenSpec.ofChange fnExactIsStableHeapSpec)

/-- ITS FALSE NEIGHBOUR: 'it returns false'. Refute it at one input. -/
def fnExactIsStableHeapWrong : ChangeSpec := { name := "fnExactIsStableHeap", fn := fun _ => fun
  | [d1, d2, d3] => { results := [.lit (.bool false)], args := [d1, d2, d3] }
  | _ => none }
def FnExactIsStableHeapWrongFalsely : Prop := fnExactIsStableHeapRow.holds Try.pinned (OpenSpec.ofChange fnExactIsStableHeapWrong)

/-- 'laws.FnExactTopplePlace': WHATEVER THE INPUT: true; the input reads as it did. -/
def fnExactTopplePlaceSpec : ChangeSpec := { name := "fnExactTopplePlace", fn := fun _ => fun
  | [d1, d2, d3, d4] => { results := [.lit (.bool true)], args := [d1, d2, d3, d4] }
  | _ => none }
def fnExactTopplePlaceRow : OpenClaim := { program := "ytcmfcleeohcgaab", sum := "a07a5bfa975b39722b18001d40470c46449b0fec1dcd377d4cc455320944dd9a", func := "loop.example/g01162/laws.FnExactTopplePlace", spec := "fnExactTopplePlace", unfollowed := true, recurses := true, apart := false }
def FnExactTopplePlaceSaid : Prop := fnExactTopplePlaceRow.holds Try.pinned (OpenSpec.ofChange fnExactTopplePlaceSpec)

/-- ITS FALSE NEIGHBOUR: 'it returns false'. Refute it at one input. -/
def fnExactTopplePlaceWrong : ChangeSpec := { name := "fnExactTopplePlace", fn := fun _ => fun
  | [d1, d2, d3, d4] => { results := [.lit (.bool false)], args := [d1, d2, d3, d4] }
  | _ => none }
def FnExactTopplePlaceWrongFalsely : Prop := fnExactTopplePlaceRow.holds Try.pinned (OpenSpec.ofChange fnExactTopplePlaceWrong)

/-- 'laws.FnExactStableHeap': WHATEVER THE INPUT: true; the input reads as it did. -/
def fnExactStableHeapSpec : ChangeSpec := { name := "fnExactStableHeap", fn := fun _ => fun
  | [d1, d2, d3] => { results := [.lit (.bool true)], args := [d1, d2, d3] }
  | _ => none }
def fnExactStableHeapRow : OpenClaim := { program := "ytcmfcleeohcgaab", sum := "a07a5bfa975b39722b18001d40470c46449b0fec1dcd377d4cc455320944dd9a", func := "loop.example/g01162/laws.FnExactStableHeap", spec := "fnExactStableHeap", unfollowed := true, recurses := true, apart := false }
def FnExactStableHeapSaid : Prop := fnExactStableHeapRow.holds Try.pinned (OpenSpec.ofChange fnExactStableHeapSpec)

/-- ITS FALSE NEIGHBOUR: 'it returns false'. Refute it at one input. -/
def fnExactStableHeapWrong : ChangeSpec := { name := "fnExactStableHeap", fn := fun _ => fun
  | [d1, d2, d3] => { results := [.lit (.bool false)], args := [d1, d2, d3] }
  | _ => none }
def FnExactStableHeapWrongFalsely : Prop := fnExactStableHeapRow.holds Try.pinned (OpenSpec.ofChange fnExactStableHeapWrong)

/-- 'laws.FnExactTopplesOf': WHATEVER THE INPUT: true; the input reads as it did. -/
def fnExactTopplesOfSpec : ChangeSpec := { name := "fnExactTopplesOf", fn := fun _ => fun
  | [d1, d2, d3] => { results := [.lit (.bool true)], args := [d1, d2, d3] }
  | _ => none }
def fnExactTopplesOfRow : OpenClaim := { program := "ytcmfcleeohcgaab", sum := "a07a5bfa975b39722b18001d40470c46449b0fec1dcd377d4cc455320944dd9a", func := "loop.example/g01162/laws.FnExactTopplesOf", spec := "fnExactTopplesOf", unfollowed := true, recurses := true, apart := false }
def FnExactTopplesOfSaid : Prop := fnExactTopplesOfRow.holds Try.pinned (OpenSpec.ofChange fnExactTopplesOfSpec)

/-- ITS FALSE NEIGHBOUR: 'it returns false'. Refute it at one input. -/
def fnExactTopplesOfWrong : ChangeSpec := { name := "fnExactTopplesOf", fn := fun _ => fun
  | [d1, d2, d3] => { results := [.lit (.bool false)], args := [d1, d2, d3] }
  | _ => none }
def FnExactTopplesOfWrongFalsely : Prop := fnExactTopplesOfRow.holds Try.pinned (OpenSpec.ofChange fnExactTopplesOfWrong)

/- THE SECOND FORM. 'bulk': how many values and letters a reading holds, each counted each time it is reached (what is shared counts as often as it is met; a slice's spare places count too). A statement '..UptoSaid' is the law's where the arguments, and the package variables that the reading takes, are together of bulk at most 1048576: NARROWER than '..Said'. Prove '..Said' where nothing that the law and all that it calls make is longer than what came in: it says more and counts as full. Else prove '..UptoSaid'. A law counts once. -/
mutual
def uptoBulk {H : Type} : DataW H → Nat
  | .lit (.string bytes) => bytes.length + 1
  | .lit _ => 1
  | .nil => 1
  | .ptr d => uptoBulk d + 1
  | .slice elems spare => uptoBulkAll elems + uptoBulkAll spare + 1
  | .agg parts => uptoBulkAll parts + 1
  | .iface _ d => uptoBulk d + 1
  | .map entries => uptoBulkEntries entries + 1
  | .held _ => 1
def uptoBulkAll {H : Type} : List (DataW H) → Nat
  | [] => 0
  | d :: r => uptoBulk d + uptoBulkAll r
def uptoBulkEntries {H : Type} : List (Lit × DataW H) → Nat
  | [] => 0
  | x :: r => uptoBulkEntry x + uptoBulkEntries r
def uptoBulkEntry {H : Type} : Lit × DataW H → Nat
  | (.string bytes, d) => bytes.length + uptoBulk d + 1
  | (_, d) => uptoBulk d + 1
 end
def uptoSmall : (H : Type) → List (DataW H) → Bool := fun _ ds => decide (uptoBulkAll ds ≤ 1048576)
def OpenSpec.upto (s : _root_.Go.ChangeSpec) : _root_.Go.OpenSpec := { _root_.Go.OpenSpec.ofChange s with cond := some uptoSmall }

/-- 'laws.FnExactIsLoad', WHERE WHAT IT READS IS OF BULK AT MOST 1048576: true; the input reads as it did. -/
def fnExactIsLoadUptoRow : OpenClaim := { program := "ytcmfcleeohcgaab", sum := "a07a5bfa975b39722b18001d40470c46449b0fec1dcd377d4cc455320944dd9a", func := "loop.example/g01162/laws.FnExactIsLoad", spec := "fnExactIsLoad", unfollowed := true, recurses := true, apart := false, narrowed := true }
def FnExactIsLoadUptoSaid : Prop := fnExactIsLoadUptoRow.holds Try.pinned (OpenSpec.upto fnExactIsLoadSpec)

/-- 'laws.FnExactIsStableHeap', WHERE WHAT IT READS IS OF BULK AT MOST 1048576: true; the input reads as it did. -/
def fnExactIsStableHeapUptoRow : OpenClaim := { program := "ytcmfcleeohcgaab", sum := "a07a5bfa975b39722b18001d40470c46449b0fec1dcd377d4cc455320944dd9a", func := "loop.example/g01162/laws.FnExactIsStableHeap", spec := "fnExactIsStableHeap", unfollowed := true, recurses := true, apart := false, narrowed := true }
def FnExactIsStableHeapUptoSaid : Prop := fnExactIsStableHeapUptoRow.holds Try.pinned (OpenSpec.upto fnExactIsStableHeapSpec)

/-- 'laws.FnExactTopplePlace', WHERE WHAT IT READS IS OF BULK AT MOST 1048576: true; the input reads as it did. -/
def fnExactTopplePlaceUptoRow : OpenClaim := { program := "ytcmfcleeohcgaab", sum := "a07a5bfa975b39722b18001d40470c46449b0fec1dcd377d4cc455320944dd9a", func := "loop.example/g01162/laws.FnExactTopplePlace", spec := "fnExactTopplePlace", unfollowed := true, recurses := true, apart := false, narrowed := true }
def FnExactTopplePlaceUptoSaid : Prop := fnExactTopplePlaceUptoRow.holds Try.pinned (OpenSpec.upto fnExactTopplePlaceSpec)

/-- 'laws.FnExactStableHeap', WHERE WHAT IT READS IS OF BULK AT MOST 1048576: true; the input reads as it did. -/
def fnExactStableHeapUptoRow : OpenClaim := { program := "ytcmfcleeohcgaab", sum := "a07a5bfa975b39722b18001d40470c46449b0fec1dcd377d4cc455320944dd9a", func := "loop.example/g01162/laws.FnExactStableHeap", spec := "fnExactStableHeap", unfollowed := true, recurses := true, apart := false, narrowed := true }
def FnExactStableHeapUptoSaid : Prop := fnExactStableHeapUptoRow.holds Try.pinned (OpenSpec.upto fnExactStableHeapSpec)

/-- 'laws.FnExactTopplesOf', WHERE WHAT IT READS IS OF BULK AT MOST 1048576: true; the input reads as it did. -/
def fnExactTopplesOfUptoRow : OpenClaim := { program := "ytcmfcleeohcgaab", sum := "a07a5bfa975b39722b18001d40470c46449b0fec1dcd377d4cc455320944dd9a", func := "loop.example/g01162/laws.FnExactTopplesOf", spec := "fnExactTopplesOf", unfollowed := true, recurses := true, apart := false, narrowed := true }
def FnExactTopplesOfUptoSaid : Prop := fnExactTopplesOfUptoRow.holds Try.pinned (OpenSpec.upto fnExactTopplesOfSpec)

end Rows
end Go.Proofs.Ytcmfcleeohcgaab
