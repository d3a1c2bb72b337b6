/-
  No cell of these rows narrows 'for every input' (looked for: loops, veiled, ifaces, maps, wideKeys, modest, calm, conditions, laid).
  DERIVED. THE GIVEN ROWS OF THIS SEAT. 3 by the template 'for every input the law returns true; each argument reads behind the call as it read before'; 0 by the template 'total and deterministic' (their statements: YtokmlipjicigcaaTotals.lean).
  GIVEN WITH THE SEED: the statements are not yours to turn. If you find one false, say at which input.
  Laid BY PROGRAM, IN A SANDBOX (cutbox-rows.mjs): the forced cells as the released guide's own fill.sh prints them over the translation c9550f80e208372c… (all of the seat's roots in one cut). By AI agents, Wed Nov 11 2026. No macro, syntax, notation, axiom, sorry.
-/
import Derived.Test.YtokmlipjicigcaaChecked
import GoSem.Claim
import GoSem.ClaimJoined
import GoSem.ClaimMapViews
import Derived.JoinedTies
import Derived.KernelRfl
namespace Go.Proofs.Ytokmlipjicigcaa
/- THE CELL 'sum', in the pinned program and in every row, IS THE sha256 OF THE DUMP (.gsa) THAT YtokmlipjicigcaaProg.lean LOADS. Nothing in Lean hashes anything: it is a label: what it is worth is what the hold of that sum in a sandbox is worth. -/
noncomputable def Try.pinned : Pinned := { name := "ytokmlipjicigcaa", sum := "c9550f80e208372c0a37f30855ec8fca1f88f90eacc388f958d181daf9edfdb6", checked := Try.checked }
namespace Rows
def none {H : Type} : Left H := { results := [], args := [] }

/-- 'laws.FnExactAllTrees': WHATEVER THE INPUT: true; the input reads as it did. -/
def fnExactAllTreesSpec : ChangeSpec := { name := "fnExactAllTrees", fn := fun _ => fun
  | [d1, d2] => { results := [.lit (.bool true)], args := [d1, d2] }
  | _ => none }
def fnExactAllTreesRow : OpenClaim := { program := "ytokmlipjicigcaa", sum := "c9550f80e208372c0a37f30855ec8fca1f88f90eacc388f958d181daf9edfdb6", func := "loop.example/g01162/laws.FnExactAllTrees", spec := "fnExactAllTrees", unfollowed := true, recurses := true, apart := false }
def FnExactAllTreesSaid : Prop := fnExactAllTreesRow.holds Try.pinned (OpenSpec.ofChange fnExactAllTreesSpec)

/-- ITS FALSE NEIGHBOUR: 'it returns false'. Refute it at one input. -/
def fnExactAllTreesWrong : ChangeSpec := { name := "fnExactAllTrees", fn := fun _ => fun
  | [d1, d2] => { results := [.lit (.bool false)], args := [d1, d2] }
  | _ => none }
def FnExactAllTreesWrongFalsely : Prop := fnExactAllTreesRow.holds Try.pinned (OpenSpec.ofChange fnExactAllTreesWrong)

/-- 'laws.FnExactFirstTree': WHATEVER THE INPUT: true; the input reads as it did. -/
def fnExactFirstTreeSpec : ChangeSpec := { name := "fnExactFirstTree", fn := fun _ => fun
  | [d1, d2] => { results := [.lit (.bool true)], args := [d1, d2] }
  | _ => none }
def fnExactFirstTreeRow : OpenClaim := { program := "ytokmlipjicigcaa", sum := "c9550f80e208372c0a37f30855ec8fca1f88f90eacc388f958d181daf9edfdb6", func := "loop.example/g01162/laws.FnExactFirstTree", spec := "fnExactFirstTree", unfollowed := true, recurses := true, apart := false }
def FnExactFirstTreeSaid : Prop := fnExactFirstTreeRow.holds Try.pinned (OpenSpec.ofChange fnExactFirstTreeSpec)

/-- ITS FALSE NEIGHBOUR: 'it returns false'. Refute it at one input. -/
def fnExactFirstTreeWrong : ChangeSpec := { name := "fnExactFirstTree", fn := fun _ => fun
  | [d1, d2] => { results := [.lit (.bool false)], args := [d1, d2] }
  | _ => none }
def FnExactFirstTreeWrongFalsely : Prop := fnExactFirstTreeRow.holds Try.pinned (OpenSpec.ofChange fnExactFirstTreeWrong)

/-- 'laws.FnExactRenamePlaces': WHATEVER THE INPUT: true; the input reads as it did. -/
def fnExactRenamePlacesSpec : ChangeSpec := { name := "fnExactRenamePlaces", fn := fun _ => fun
  | [d1, d2] => { results := [.lit (.bool true)], args := [d1, d2] }
  | _ => none }
def fnExactRenamePlacesRow : OpenClaim := { program := "ytokmlipjicigcaa", sum := "c9550f80e208372c0a37f30855ec8fca1f88f90eacc388f958d181daf9edfdb6", func := "loop.example/g01162/laws.FnExactRenamePlaces", spec := "fnExactRenamePlaces", unfollowed := true, recurses := true, apart := false }
def FnExactRenamePlacesSaid : Prop := fnExactRenamePlacesRow.holds Try.pinned (OpenSpec.ofChange fnExactRenamePlacesSpec)

/-- ITS FALSE NEIGHBOUR: 'it returns false'. Refute it at one input. -/
def fnExactRenamePlacesWrong : ChangeSpec := { name := "fnExactRenamePlaces", fn := fun _ => fun
  | [d1, d2] => { results := [.lit (.bool false)], args := [d1, d2] }
  | _ => none }
def FnExactRenamePlacesWrongFalsely : Prop := fnExactRenamePlacesRow.holds Try.pinned (OpenSpec.ofChange fnExactRenamePlacesWrong)

/- THE SECOND FORM. 'bulk': how many values and letters a reading holds, each counted each time it is reached (what is shared counts as often as it is met; a slice's spare places count too). A statement '..UptoSaid' is the law's where the arguments, and the package variables that the reading takes, are together of bulk at most 1048576: NARROWER than '..Said'. Prove '..Said' where nothing that the law and all that it calls make is longer than what came in: it says more and counts as full. Else prove '..UptoSaid'. A law counts once. -/
mutual
def uptoBulk {H : Type} : DataW H → Nat
  | .lit (.string bytes) => bytes.length + 1
  | .lit _ => 1
  | .nil => 1
  | .ptr d => uptoBulk d + 1
  | .slice elems spare => uptoBulkAll elems + uptoBulkAll spare + 1
  | .agg parts => uptoBulkAll parts + 1
  | .iface _ d => uptoBulk d + 1
  | .map entries => uptoBulkEntries entries + 1
  | .held _ => 1
def uptoBulkAll {H : Type} : List (DataW H) → Nat
  | [] => 0
  | d :: r => uptoBulk d + uptoBulkAll r
def uptoBulkEntries {H : Type} : List (Lit × DataW H) → Nat
  | [] => 0
  | x :: r => uptoBulkEntry x + uptoBulkEntries r
def uptoBulkEntry {H : Type} : Lit × DataW H → Nat
  | (.string bytes, d) => bytes.length + uptoBulk d + 1
  | (_, d) => uptoBulk d + 1
 end
def uptoSmall : (H : Type) → List (DataW H) → Bool := fun _ ds => decide (uptoBulkAll ds ≤ 1048576)
def OpenSpec.upto (s : _root_.Go.ChangeSpec) : _root_.Go.OpenSpec := { _root_.Go.OpenSpec.ofChange s with cond := some uptoSmall }

/-- 'laws.FnExactAllTrees', WHERE WHAT IT READS IS OF BULK AT MOST 1048576: true; the input reads as it did. -/
def fnExactAllTreesUptoRow : OpenClaim := { program := "ytokmlipjicigcaa", sum := "c9550f80e208372c0a37f30855ec8fca1f88f90eacc388f958d181daf9edfdb6", func := "loop.example/g01162/laws.FnExactAllTrees", spec := "fnExactAllTrees", unfollowed := true, recurses := true, apart := false, narrowed := true }
def FnExactAllTreesUptoSaid : Prop := fnExactAllTreesUptoRow.holds Try.pinned (OpenSpec.upto fnExactAllTreesSpec)

/-- 'laws.FnExactFirstTree', WHERE WHAT IT READS IS OF BULK AT MOST 1048576: true; the input reads as it did. -/
def fnExactFirstTreeUptoRow : OpenClaim := { program := "ytokmlipjicigcaa", sum := "c9550f80e208372c0a37f30855ec8fca1f88f90eacc388f958d181daf9edfdb6", func := "loop.example/g01162/laws.FnExactFirstTree", spec := "fnExactFirstTree", unfollowed := true, recurses := true, apart := false, narrowed := true }
def FnExactFirstTreeUptoSaid : Prop := fnExactFirstTreeUptoRow.holds Try.pinned (OpenSpec.upto fnExactFirstTreeSpec)

/-- 'laws.FnExactRenamePlaces', WHERE WHAT IT READS IS OF BULK AT MOST 1048576: true; the input reads as it did. -/
def fnExactRenamePlacesUptoRow : OpenClaim := { program := "ytokmlipjicigcaa", sum := "c9550f80e208372c0a37f30855ec8fca1f88f90eacc388f958d181daf9edfdb6", func := "loop.example/g01162/laws.FnExactRenamePlaces", spec := "fnExactRenamePlaces", unfollowed := true, recurses := true, apart := false, narrowed := true }
def FnExactRenamePlacesUptoSaid : Prop := fnExactRenamePlacesUptoRow.holds Try.pinned (OpenSpec.upto fnExactRenamePlacesSpec)

end Rows
end Go.Proofs.Ytokmlipjicigcaa
