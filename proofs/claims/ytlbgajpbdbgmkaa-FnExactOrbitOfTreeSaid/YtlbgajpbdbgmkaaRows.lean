/-
  No cell of these rows narrows 'for every input' (looked for: loops, veiled, ifaces, maps, wideKeys, modest, calm, conditions, laid).
  DERIVED. THE GIVEN ROWS OF THIS SEAT. 4 by the template 'for every input the law returns true; each argument reads behind the call as it read before'; 0 by the template 'total and deterministic' (their statements: YtlbgajpbdbgmkaaTotals.lean).
  GIVEN WITH THE SEED: the statements are not yours to turn. If you find one false, say at which input.
  Laid BY PROGRAM, IN A SANDBOX (cutbox-rows.mjs): the forced cells as the released guide's own fill.sh prints them over the translation 67740aca52312a02… (all of the seat's roots in one cut). By AI agents, Wed Nov 11 2026. No macro, syntax, notation, axiom, sorry.
-/
import Derived.Test.YtlbgajpbdbgmkaaChecked
import GoSem.Claim
import GoSem.ClaimJoined
import GoSem.ClaimMapViews
import Derived.JoinedTies
import Derived.KernelRfl
namespace Go.Proofs.Ytlbgajpbdbgmkaa
/- THE CELL 'sum', in the pinned program and in every row, IS THE sha256 OF THE DUMP (.gsa) THAT YtlbgajpbdbgmkaaProg.lean LOADS. Nothing in Lean hashes anything: it is a label: what it is worth is what the hold of that sum in a sandbox is worth. -/
noncomputable def Try.pinned : Pinned := { name := "ytlbgajpbdbgmkaa", sum := "67740aca52312a02ec3c90766a0bd0ba047e4bfd45c90ac2c6142ff506544995", checked := Try.checked }
namespace Rows
def none {H : Type} : Left H := { results := [], args := [] }

/-- 'laws.FnExactActOnTree': WHATEVER THE INPUT: true; the input reads as it did. -/
def fnExactActOnTreeSpec : ChangeSpec := { name := "fnExactActOnTree", fn := fun _ => fun
  | [d1, d2, d3, d4] => { results := [.lit (.bool true)], args := [d1, d2, d3, d4] }
  | _ => none }
def fnExactActOnTreeRow : OpenClaim := { program := "ytlbgajpbdbgmkaa", sum := "67740aca52312a02ec3c90766a0bd0ba047e4bfd45c90ac2c6142ff506544995", func := "loop.example/g01162/laws.FnExactActOnTree", spec := "fnExactActOnTree", unfollowed := true, recurses := true, apart := false }
def FnExactActOnTreeSaid : Prop := fnExactActOnTreeRow.holds Try.pinned (OpenSpec.ofChange fnExactActOnTreeSpec)

/-- ITS FALSE NEIGHBOUR: 'it returns false'. Refute it at one input. -/
def fnExactActOnTreeWrong : ChangeSpec := { name := "fnExactActOnTree", fn := fun _ => fun
  | [d1, d2, d3, d4] => { results := [.lit (.bool false)], args := [d1, d2, d3, d4] }
  | _ => none }
def FnExactActOnTreeWrongFalsely : Prop := fnExactActOnTreeRow.holds Try.pinned (OpenSpec.ofChange fnExactActOnTreeWrong)

/-- 'laws.FnExactArrivalPath': WHATEVER THE INPUT: true; the input reads as it did. -/
def fnExactArrivalPathSpec : ChangeSpec := { name := "fnExactArrivalPath", fn := fun _ => fun
  | [d1, d2, d3, d4] => { results := [.lit (.bool true)], args := [d1, d2, d3, d4] }
  | _ => none }
def fnExactArrivalPathRow : OpenClaim := { program := "ytlbgajpbdbgmkaa", sum := "67740aca52312a02ec3c90766a0bd0ba047e4bfd45c90ac2c6142ff506544995", func := "loop.example/g01162/laws.FnExactArrivalPath", spec := "fnExactArrivalPath", unfollowed := true, recurses := true, apart := false }
def FnExactArrivalPathSaid : Prop := fnExactArrivalPathRow.holds Try.pinned (OpenSpec.ofChange fnExactArrivalPathSpec)

/-- ITS FALSE NEIGHBOUR: 'it returns false'. Refute it at one input. -/
def fnExactArrivalPathWrong : ChangeSpec := { name := "fnExactArrivalPath", fn := fun _ => fun
  | [d1, d2, d3, d4] => { results := [.lit (.bool false)], args := [d1, d2, d3, d4] }
  | _ => none }
def FnExactArrivalPathWrongFalsely : Prop := fnExactArrivalPathRow.holds Try.pinned (OpenSpec.ofChange fnExactArrivalPathWrong)

/-- 'laws.FnExactOrbitOfTree': WHATEVER THE INPUT: true; the input reads as it did. -/
def fnExactOrbitOfTreeSpec : ChangeSpec := { name := "fnExactOrbitOfTree", fn := fun _ => fun
  | [d1, d2, d3, d4] => { results := [.lit (.bool true)], args := [d1, d2, d3, d4] }
  | _ => none }
def fnExactOrbitOfTreeRow : OpenClaim := { program := "ytlbgajpbdbgmkaa", sum := "67740aca52312a02ec3c90766a0bd0ba047e4bfd45c90ac2c6142ff506544995", func := "loop.example/g01162/laws.FnExactOrbitOfTree", spec := "fnExactOrbitOfTree", unfollowed := true, recurses := true, apart := false }
def FnExactOrbitOfTreeSaid : Prop := fnExactOrbitOfTreeRow.holds Try.pinned (OpenSpec.ofChange fnExactOrbitOfTreeSpec)

/-- ITS FALSE NEIGHBOUR: 'it returns false'. Refute it at one input. -/
def fnExactOrbitOfTreeWrong : ChangeSpec := { name := "fnExactOrbitOfTree", fn := fun _ => fun
  | [d1, d2, d3, d4] => { results := [.lit (.bool false)], args := [d1, d2, d3, d4] }
  | _ => none }
def FnExactOrbitOfTreeWrongFalsely : Prop := fnExactOrbitOfTreeRow.holds Try.pinned (OpenSpec.ofChange fnExactOrbitOfTreeWrong)

/-- 'laws.FnExactOrderOfPlace': WHATEVER THE INPUT: true; the input reads as it did. -/
def fnExactOrderOfPlaceSpec : ChangeSpec := { name := "fnExactOrderOfPlace", fn := fun _ => fun
  | [d1, d2, d3] => { results := [.lit (.bool true)], args := [d1, d2, d3] }
  | _ => none }
def fnExactOrderOfPlaceRow : OpenClaim := { program := "ytlbgajpbdbgmkaa", sum := "67740aca52312a02ec3c90766a0bd0ba047e4bfd45c90ac2c6142ff506544995", func := "loop.example/g01162/laws.FnExactOrderOfPlace", spec := "fnExactOrderOfPlace", unfollowed := true, recurses := true, apart := false }
def FnExactOrderOfPlaceSaid : Prop := fnExactOrderOfPlaceRow.holds Try.pinned (OpenSpec.ofChange fnExactOrderOfPlaceSpec)

/-- ITS FALSE NEIGHBOUR: 'it returns false'. Refute it at one input. -/
def fnExactOrderOfPlaceWrong : ChangeSpec := { name := "fnExactOrderOfPlace", fn := fun _ => fun
  | [d1, d2, d3] => { results := [.lit (.bool false)], args := [d1, d2, d3] }
  | _ => none }
def FnExactOrderOfPlaceWrongFalsely : Prop := fnExactOrderOfPlaceRow.holds Try.pinned (OpenSpec.ofChange fnExactOrderOfPlaceWrong)

/- THE SECOND FORM. 'bulk': how many values and letters a reading holds, each counted each time it is reached (what is shared counts as often as it is met; a slice's spare places count too). A statement '..UptoSaid' is the law's where the arguments, and the package variables that the reading takes, are together of bulk at most 1048576: NARROWER than '..Said'. Prove '..Said' where nothing that the law and all that it calls make is longer than what came in: it says more and counts as full. Else prove '..UptoSaid'. A law counts once. -/
mutual
def uptoBulk {H : Type} : DataW H → Nat
  | .lit (.string bytes) => bytes.length + 1
  | .lit _ => 1
  | .nil => 1
  | .ptr d => uptoBulk d + 1
  | .slice elems spare => uptoBulkAll elems + uptoBulkAll spare + 1
  | .agg parts => uptoBulkAll parts + 1
  | .iface _ d => uptoBulk d + 1
  | .map entries => uptoBulkEntries entries + 1
  | .held _ => 1
def uptoBulkAll {H : Type} : List (DataW H) → Nat
  | [] => 0
  | d :: r => uptoBulk d + uptoBulkAll r
def uptoBulkEntries {H : Type} : List (Lit × DataW H) → Nat
  | [] => 0
  | x :: r => uptoBulkEntry x + uptoBulkEntries r
def uptoBulkEntry {H : Type} : Lit × DataW H → Nat
  | (.string bytes, d) => bytes.length + uptoBulk d + 1
  | (_, d) => uptoBulk d + 1
 end
def uptoSmall : (H : Type) → List (DataW H) → Bool := fun _ ds => decide (uptoBulkAll ds ≤ 1048576)
def OpenSpec.upto (s : _root_.Go.ChangeSpec) : _root_.Go.OpenSpec := { _root_.Go.OpenSpec.ofChange s with cond := some uptoSmall }

/-- 'laws.FnExactActOnTree', WHERE WHAT IT READS IS OF BULK AT MOST 1048576: true; the input reads as it did. -/
def fnExactActOnTreeUptoRow : OpenClaim := { program := "ytlbgajpbdbgmkaa", sum := "67740aca52312a02ec3c90766a0bd0ba047e4bfd45c90ac2c6142ff506544995", func := "loop.example/g01162/laws.FnExactActOnTree", spec := "fnExactActOnTree", unfollowed := true, recurses := true, apart := false, narrowed := true }
def FnExactActOnTreeUptoSaid : Prop := fnExactActOnTreeUptoRow.holds Try.pinned (OpenSpec.upto fnExactActOnTreeSpec)

/-- 'laws.FnExactArrivalPath', WHERE WHAT IT READS IS OF BULK AT MOST 1048576: true; the input reads as it did. -/
def fnExactArrivalPathUptoRow : OpenClaim := { program := "ytlbgajpbdbgmkaa", sum := "67740aca52312a02ec3c90766a0bd0ba047e4bfd45c90ac2c6142ff506544995", func := "loop.example/g01162/laws.FnExactArrivalPath", spec := "fnExactArrivalPath", unfollowed := true, recurses := true, apart := false, narrowed := true }
def FnExactArrivalPathUptoSaid : Prop := fnExactArrivalPathUptoRow.holds Try.pinned (OpenSpec.upto fnExactArrivalPathSpec)

/-- 'laws.FnExactOrbitOfTree', WHERE WHAT IT READS IS OF BULK AT MOST 1048576: true; the input reads as it did. -/
def fnExactOrbitOfTreeUptoRow : OpenClaim := { program := "ytlbgajpbdbgmkaa", sum := "67740aca52312a02ec3c90766a0bd0ba047e4bfd45c90ac2c6142ff506544995", func := "loop.example/g01162/laws.FnExactOrbitOfTree", spec := "fnExactOrbitOfTree", unfollowed := true, recurses := true, apart := false, narrowed := true }
def FnExactOrbitOfTreeUptoSaid : Prop := fnExactOrbitOfTreeUptoRow.holds Try.pinned (OpenSpec.upto fnExactOrbitOfTreeSpec)

/-- 'laws.FnExactOrderOfPlace', WHERE WHAT IT READS IS OF BULK AT MOST 1048576: true; the input reads as it did. -/
def fnExactOrderOfPlaceUptoRow : OpenClaim := { program := "ytlbgajpbdbgmkaa", sum := "67740aca52312a02ec3c90766a0bd0ba047e4bfd45c90ac2c6142ff506544995", func := "loop.example/g01162/laws.FnExactOrderOfPlace", spec := "fnExactOrderOfPlace", unfollowed := true, recurses := true, apart := false, narrowed := true }
def FnExactOrderOfPlaceUptoSaid : Prop := fnExactOrderOfPlaceUptoRow.holds Try.pinned (OpenSpec.upto fnExactOrderOfPlaceSpec)

end Rows
end Go.Proofs.Ytlbgajpbdbgmkaa
