/- Marks of a graph. -/
import Derived.Test.YtcmfcleeohcgaaaMBase
import Derived.Test.YtcmfcleeohcgaaaMMarkS
import Derived.Test.YtcmfcleeohcgaaaMMarkSS
import Derived.Test.YtcmfcleeohcgaaaMHeldSS
import Derived.Test.YtcmfcleeohcgaaaPlawsmarkGraph
import Derived.Test.YtcmfcleeohcgaaaPlawsheldGraph
import Derived.Test.YtcmfcleeohcgaaaRIn
namespace Go.Proofs.Ytcmfcleeohcgaaa.M
open Go.RowKit Go.Proofs.Ytcmfcleeohcgaaa.P Go.Proofs.Ytcmfcleeohcgaaa.In Go.Proofs.YtcmfcleeohcgaaaW.PrintWords Go.Proofs.YtcmfcleeohcgaaaW.PrintLast
set_option linter.unusedVariables false
set_option linter.unusedSimpArgs false
theorem markGG (x : List (List Int)) (hx : small x) : ∃ q x', Ev (fun k => laws_markGraph.f k x 1) (q, x') ∧ 0 ≤ q ∧ Ev (fun k => laws_heldGraph.f k x' 1) q ∧ True := by
  obtain ⟨e1, e2, e3⟩ := markIntSS x hx 1 (by omega) (by omega)
  refine ⟨_, _, e1, by omega, ?_, trivial⟩
  unfold laws_heldGraph.f
  exact Ev.bind (heldIntSS x hx 1 (by omega) (by omega)) (Ev.neg (by omega) (Ev.now _))
end Go.Proofs.Ytcmfcleeohcgaaa.M
