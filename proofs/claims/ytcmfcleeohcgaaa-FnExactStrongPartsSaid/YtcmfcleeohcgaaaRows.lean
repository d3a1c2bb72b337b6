/-
  No cell of these rows narrows 'for every input' (looked for: loops, veiled, ifaces, maps, wideKeys, modest, calm, conditions, laid).
  DERIVED. THE GIVEN ROWS OF THIS SEAT. 6 by the template 'for every input the law returns true; each argument reads behind the call as it read before'; 0 by the template 'total and deterministic' (their statements: YtcmfcleeohcgaaaTotals.lean).
  GIVEN WITH THE SEED: the statements are not yours to turn. If you find one false, say at which input.
  Laid BY PROGRAM, IN A SANDBOX (cutbox-rows.mjs): the forced cells as the released guide's own fill.sh prints them over the translation d6c2d1bb600bc0ad… (all of the seat's roots in one cut). By AI agents, Wed Nov 11 2026. No macro, syntax, notation, axiom, sorry.
-/
import Derived.Test.YtcmfcleeohcgaaaChecked
import GoSem.Claim
import GoSem.ClaimJoined
import GoSem.ClaimMapViews
import Derived.JoinedTies
import Derived.KernelRfl
namespace Go.Proofs.Ytcmfcleeohcgaaa
/- THE CELL 'sum', in the pinned program and in every row, IS THE sha256 OF THE DUMP (.gsa) THAT YtcmfcleeohcgaaaProg.lean LOADS. Nothing in Lean hashes anything: it is a label: what it is worth is what the hold of that sum in a sandbox is worth. -/
noncomputable def Try.pinned : Pinned := { name := "ytcmfcleeohcgaaa", sum := "d6c2d1bb600bc0ad37d82fd30fde7680337a5ac9a852584ec812a8c3777c6870", checked := Try.checked }
namespace Rows
def none {H : Type} : Left H := { results := [], args := [] }

/-- 'laws.FnExactCycleGraph': WHATEVER THE INPUT: true; the input reads as it did. -/
def fnExactCycleGraphSpec : ChangeSpec := { name := "fnExactCycleGraph", fn := fun _ => fun
  | [d1, d2] => { results := [.lit (.bool true)], args := [d1, d2] }
  | _ => none }
def fnExactCycleGraphRow : OpenClaim := { program := "ytcmfcleeohcgaaa", sum := "d6c2d1bb600bc0ad37d82fd30fde7680337a5ac9a852584ec812a8c3777c6870", func := "loop.example/g01162/laws.FnExactCycleGraph", spec := "fnExactCycleGraph", apart := false }
def FnExactCycleGraphSaid : Prop := fnExactCycleGraphRow.holds Try.pinned (OpenSpec.ofChange fnExactCycleGraphSpec)

/-- ITS FALSE NEIGHBOUR: 'it returns false'. Refute it at one input. -/
def fnExactCycleGraphWrong : ChangeSpec := { name := "fnExactCycleGraph", fn := fun _ => fun
  | [d1, d2] => { results := [.lit (.bool false)], args := [d1, d2] }
  | _ => none }
def FnExactCycleGraphWrongFalsely : Prop := fnExactCycleGraphRow.holds Try.pinned (OpenSpec.ofChange fnExactCycleGraphWrong)

/-- 'laws.FnExactUnicycleOfTree': WHATEVER THE INPUT: true; the input reads as it did. -/
def fnExactUnicycleOfTreeSpec : ChangeSpec := { name := "fnExactUnicycleOfTree", fn := fun _ => fun
  | [d1, d2, d3, d4] => { results := [.lit (.bool true)], args := [d1, d2, d3, d4] }
  | _ => none }
def fnExactUnicycleOfTreeRow : OpenClaim := { program := "ytcmfcleeohcgaaa", sum := "d6c2d1bb600bc0ad37d82fd30fde7680337a5ac9a852584ec812a8c3777c6870", func := "loop.example/g01162/laws.FnExactUnicycleOfTree", spec := "fnExactUnicycleOfTree", unfollowed := true, recurses := true, apart := false }
def FnExactUnicycleOfTreeSaid : Prop := fnExactUnicycleOfTreeRow.holds Try.pinned (OpenSpec.ofChange fnExactUnicycleOfTreeSpec)

/-- ITS FALSE NEIGHBOUR: 'it returns false'. Refute it at one input. -/
def fnExactUnicycleOfTreeWrong : ChangeSpec := { name := "fnExactUnicycleOfTree", fn := fun _ => fun
  | [d1, d2, d3, d4] => { results := [.lit (.bool false)], args := [d1, d2, d3, d4] }
  | _ => none }
def FnExactUnicycleOfTreeWrongFalsely : Prop := fnExactUnicycleOfTreeRow.holds Try.pinned (OpenSpec.ofChange fnExactUnicycleOfTreeWrong)

/-- 'laws.FnExactCycleFrom': WHATEVER THE INPUT: true; the input reads as it did. -/
def fnExactCycleFromSpec : ChangeSpec := { name := "fnExactCycleFrom", fn := fun _ => fun
  | [d1, d2] => { results := [.lit (.bool true)], args := [d1, d2] }
  | _ => none }
def fnExactCycleFromRow : OpenClaim := { program := "ytcmfcleeohcgaaa", sum := "d6c2d1bb600bc0ad37d82fd30fde7680337a5ac9a852584ec812a8c3777c6870", func := "loop.example/g01162/laws.FnExactCycleFrom", spec := "fnExactCycleFrom", unfollowed := true, recurses := true, apart := false }
def FnExactCycleFromSaid : Prop := fnExactCycleFromRow.holds Try.pinned (OpenSpec.ofChange fnExactCycleFromSpec)

/-- ITS FALSE NEIGHBOUR: 'it returns false'. Refute it at one input. -/
def fnExactCycleFromWrong : ChangeSpec := { name := "fnExactCycleFrom", fn := fun _ => fun
  | [d1, d2] => { results := [.lit (.bool false)], args := [d1, d2] }
  | _ => none }
def FnExactCycleFromWrongFalsely : Prop := fnExactCycleFromRow.holds Try.pinned (OpenSpec.ofChange fnExactCycleFromWrong)

/-- 'laws.FnExactTreeOfUnicycle': WHATEVER THE INPUT: true; the input reads as it did. -/
def fnExactTreeOfUnicycleSpec : ChangeSpec := { name := "fnExactTreeOfUnicycle", fn := fun _ => fun
  | [d1, d2] => { results := [.lit (.bool true)], args := [d1, d2] }
  | _ => none }
def fnExactTreeOfUnicycleRow : OpenClaim := { program := "ytcmfcleeohcgaaa", sum := "d6c2d1bb600bc0ad37d82fd30fde7680337a5ac9a852584ec812a8c3777c6870", func := "loop.example/g01162/laws.FnExactTreeOfUnicycle", spec := "fnExactTreeOfUnicycle", unfollowed := true, recurses := true, apart := false }
def FnExactTreeOfUnicycleSaid : Prop := fnExactTreeOfUnicycleRow.holds Try.pinned (OpenSpec.ofChange fnExactTreeOfUnicycleSpec)

/-- ITS FALSE NEIGHBOUR: 'it returns false'. Refute it at one input. -/
def fnExactTreeOfUnicycleWrong : ChangeSpec := { name := "fnExactTreeOfUnicycle", fn := fun _ => fun
  | [d1, d2] => { results := [.lit (.bool false)], args := [d1, d2] }
  | _ => none }
def FnExactTreeOfUnicycleWrongFalsely : Prop := fnExactTreeOfUnicycleRow.holds Try.pinned (OpenSpec.ofChange fnExactTreeOfUnicycleWrong)

/-- 'laws.FnExactStrongParts': WHATEVER THE INPUT: true; the input reads as it did. -/
def fnExactStrongPartsSpec : ChangeSpec := { name := "fnExactStrongParts", fn := fun _ => fun
  | [d] => { results := [.lit (.bool true)], args := [d] }
  | _ => none }
def fnExactStrongPartsRow : OpenClaim := { program := "ytcmfcleeohcgaaa", sum := "d6c2d1bb600bc0ad37d82fd30fde7680337a5ac9a852584ec812a8c3777c6870", func := "loop.example/g01162/laws.FnExactStrongParts", spec := "fnExactStrongParts", unfollowed := true, recurses := true, apart := false }
def FnExactStrongPartsSaid : Prop := fnExactStrongPartsRow.holds Try.pinned (OpenSpec.ofChange fnExactStrongPartsSpec)

/-- ITS FALSE NEIGHBOUR: 'it returns false'. Refute it at one input. -/
def fnExactStrongPartsWrong : ChangeSpec := { name := "fnExactStrongParts", fn := fun _ => fun
  | [d] => { results := [.lit (.bool false)], args := [d] }
  | _ => none }
def FnExactStrongPartsWrongFalsely : Prop := fnExactStrongPartsRow.holds Try.pinned (OpenSpec.ofChange fnExactStrongPartsWrong)

/-- 'laws.FnExactReverseGraph': WHATEVER THE INPUT: true; the input reads as it did. -/
def fnExactReverseGraphSpec : ChangeSpec := { name := "fnExactReverseGraph", fn := fun _ => fun
  | [d] => { results := [.lit (.bool true)], args := [d] }
  | _ => none }
def fnExactReverseGraphRow : OpenClaim := { program := "ytcmfcleeohcgaaa", sum := "d6c2d1bb600bc0ad37d82fd30fde7680337a5ac9a852584ec812a8c3777c6870", func := "loop.example/g01162/laws.FnExactReverseGraph", spec := "fnExactReverseGraph", unfollowed := true, recurses := true, apart := false }
def FnExactReverseGraphSaid : Prop := fnExactReverseGraphRow.holds Try.pinned (OpenSpec.ofChange fnExactReverseGraphSpec)

/-- ITS FALSE NEIGHBOUR: 'it returns false'. Refute it at one input. -/
def fnExactReverseGraphWrong : ChangeSpec := { name := "fnExactReverseGraph", fn := fun _ => fun
  | [d] => { results := [.lit (.bool false)], args := [d] }
  | _ => none }
def FnExactReverseGraphWrongFalsely : Prop := fnExactReverseGraphRow.holds Try.pinned (OpenSpec.ofChange fnExactReverseGraphWrong)

/- THE SECOND FORM. 'bulk': how many values and letters a reading holds, each counted each time it is reached (what is shared counts as often as it is met; a slice's spare places count too). A statement '..UptoSaid' is the law's where the arguments, and the package variables that the reading takes, are together of bulk at most 1048576: NARROWER than '..Said'. Prove '..Said' where nothing that the law and all that it calls make is longer than what came in: it says more and counts as full. Else prove '..UptoSaid'. A law counts once. -/
mutual
def uptoBulk {H : Type} : DataW H → Nat
  | .lit (.string bytes) => bytes.length + 1
  | .lit _ => 1
  | .nil => 1
  | .ptr d => uptoBulk d + 1
  | .slice elems spare => uptoBulkAll elems + uptoBulkAll spare + 1
  | .agg parts => uptoBulkAll parts + 1
  | .iface _ d => uptoBulk d + 1
  | .map entries => uptoBulkEntries entries + 1
  | .held _ => 1
def uptoBulkAll {H : Type} : List (DataW H) → Nat
  | [] => 0
  | d :: r => uptoBulk d + uptoBulkAll r
def uptoBulkEntries {H : Type} : List (Lit × DataW H) → Nat
  | [] => 0
  | x :: r => uptoBulkEntry x + uptoBulkEntries r
def uptoBulkEntry {H : Type} : Lit × DataW H → Nat
  | (.string bytes, d) => bytes.length + uptoBulk d + 1
  | (_, d) => uptoBulk d + 1
 end
def uptoSmall : (H : Type) → List (DataW H) → Bool := fun _ ds => decide (uptoBulkAll ds ≤ 1048576)
def OpenSpec.upto (s : _root_.Go.ChangeSpec) : _root_.Go.OpenSpec := { _root_.Go.OpenSpec.ofChange s with cond := some uptoSmall }

/-- 'laws.FnExactCycleGraph', WHERE WHAT IT READS IS OF BULK AT MOST 1048576: true; the input reads as it did. -/
def fnExactCycleGraphUptoRow : OpenClaim := { program := "ytcmfcleeohcgaaa", sum := "d6c2d1bb600bc0ad37d82fd30fde7680337a5ac9a852584ec812a8c3777c6870", func := "loop.example/g01162/laws.FnExactCycleGraph", spec := "fnExactCycleGraph", apart := false, narrowed := true }
def FnExactCycleGraphUptoSaid : Prop := fnExactCycleGraphUptoRow.holds Try.pinned (OpenSpec.upto fnExactCycleGraphSpec)

/-- 'laws.FnExactUnicycleOfTree', WHERE WHAT IT READS IS OF BULK AT MOST 1048576: true; the input reads as it did. -/
def fnExactUnicycleOfTreeUptoRow : OpenClaim := { program := "ytcmfcleeohcgaaa", sum := "d6c2d1bb600bc0ad37d82fd30fde7680337a5ac9a852584ec812a8c3777c6870", func := "loop.example/g01162/laws.FnExactUnicycleOfTree", spec := "fnExactUnicycleOfTree", unfollowed := true, recurses := true, apart := false, narrowed := true }
def FnExactUnicycleOfTreeUptoSaid : Prop := fnExactUnicycleOfTreeUptoRow.holds Try.pinned (OpenSpec.upto fnExactUnicycleOfTreeSpec)

/-- 'laws.FnExactCycleFrom', WHERE WHAT IT READS IS OF BULK AT MOST 1048576: true; the input reads as it did. -/
def fnExactCycleFromUptoRow : OpenClaim := { program := "ytcmfcleeohcgaaa", sum := "d6c2d1bb600bc0ad37d82fd30fde7680337a5ac9a852584ec812a8c3777c6870", func := "loop.example/g01162/laws.FnExactCycleFrom", spec := "fnExactCycleFrom", unfollowed := true, recurses := true, apart := false, narrowed := true }
def FnExactCycleFromUptoSaid : Prop := fnExactCycleFromUptoRow.holds Try.pinned (OpenSpec.upto fnExactCycleFromSpec)

/-- 'laws.FnExactTreeOfUnicycle', WHERE WHAT IT READS IS OF BULK AT MOST 1048576: true; the input reads as it did. -/
def fnExactTreeOfUnicycleUptoRow : OpenClaim := { program := "ytcmfcleeohcgaaa", sum := "d6c2d1bb600bc0ad37d82fd30fde7680337a5ac9a852584ec812a8c3777c6870", func := "loop.example/g01162/laws.FnExactTreeOfUnicycle", spec := "fnExactTreeOfUnicycle", unfollowed := true, recurses := true, apart := false, narrowed := true }
def FnExactTreeOfUnicycleUptoSaid : Prop := fnExactTreeOfUnicycleUptoRow.holds Try.pinned (OpenSpec.upto fnExactTreeOfUnicycleSpec)

/-- 'laws.FnExactStrongParts', WHERE WHAT IT READS IS OF BULK AT MOST 1048576: true; the input reads as it did. -/
def fnExactStrongPartsUptoRow : OpenClaim := { program := "ytcmfcleeohcgaaa", sum := "d6c2d1bb600bc0ad37d82fd30fde7680337a5ac9a852584ec812a8c3777c6870", func := "loop.example/g01162/laws.FnExactStrongParts", spec := "fnExactStrongParts", unfollowed := true, recurses := true, apart := false, narrowed := true }
def FnExactStrongPartsUptoSaid : Prop := fnExactStrongPartsUptoRow.holds Try.pinned (OpenSpec.upto fnExactStrongPartsSpec)

/-- 'laws.FnExactReverseGraph', WHERE WHAT IT READS IS OF BULK AT MOST 1048576: true; the input reads as it did. -/
def fnExactReverseGraphUptoRow : OpenClaim := { program := "ytcmfcleeohcgaaa", sum := "d6c2d1bb600bc0ad37d82fd30fde7680337a5ac9a852584ec812a8c3777c6870", func := "loop.example/g01162/laws.FnExactReverseGraph", spec := "fnExactReverseGraph", unfollowed := true, recurses := true, apart := false, narrowed := true }
def FnExactReverseGraphUptoSaid : Prop := fnExactReverseGraphUptoRow.holds Try.pinned (OpenSpec.upto fnExactReverseGraphSpec)

end Rows
end Go.Proofs.Ytcmfcleeohcgaaa
