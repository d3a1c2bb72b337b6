/- What a good graph is. -/
import Derived.Test.YtfeakndpkloofaaDoorMBase
import Derived.Test.YtfeakndpkloofaaDoorRIn
namespace Go.Proofs.YtfeakndpkloofaaDoor.M
open Go.RowKit Go.Proofs.YtfeakndpkloofaaDoor.P Go.Proofs.YtfeakndpkloofaaDoor.In Go.Proofs.YtfeakndpkloofaaDoorW.PrintWords Go.Proofs.YtfeakndpkloofaaDoorW.PrintLast
set_option linter.unusedVariables false
set_option linter.unusedSimpArgs false
theorem good_iff {l : List (List Int)} (h : goodG l = true) : (1 ≤ l.length ∧ l.length ≤ 8) ∧ ∀ row ∈ l, row.length ≤ 5 ∧ ∀ q ∈ row, 0 ≤ q ∧ q < (l.length : Int) := by
  simp only [goodG, goodRow, Bool.and_eq_true, decide_eq_true_eq, List.all_eq_true] at h
  refine ⟨⟨h.1, h.2.1⟩, fun row hr => ⟨(h.2.2 row hr).1, fun q hq => ?_⟩⟩
  have := (h.2.2 row hr).2 q hq
  omega
end Go.Proofs.YtfeakndpkloofaaDoor.M
