/- Sizes of lists, as the laws count them. -/
import Derived.Test.YtfeakndpkloofaaDoorMBase
import Derived.Test.YtfeakndpkloofaaDoorPlawsszIntS
import Derived.Test.YtfeakndpkloofaaDoorRIn
namespace Go.Proofs.YtfeakndpkloofaaDoor.M
open Go.RowKit Go.Proofs.YtfeakndpkloofaaDoor.P Go.Proofs.YtfeakndpkloofaaDoor.In Go.Proofs.YtfeakndpkloofaaDoorW.PrintWords Go.Proofs.YtfeakndpkloofaaDoorW.PrintLast
set_option linter.unusedVariables false
set_option linter.unusedSimpArgs false
theorem szIntS (l : List Int) (hl : okIs l) (a : Int) (h0 : 0 ≤ a) (h1 : a ≤ 1048576) : ∃ r, laws_szIntS.f l a = some r ∧ r ≤ 1048576 ∧ (0 ≤ r → l.length ≤ 1048576) := by
  have := hl.1
  unfold laws_szIntS.f
  rw [wrap_id (by omega)]
  by_cases h : a - (l.length : Int) < 0
  · rw [if_pos h]; exact ⟨-1, rfl, by omega, fun h => by omega⟩
  · rw [if_neg h]; exact ⟨_, rfl, by omega, fun _ => by omega⟩
end Go.Proofs.YtfeakndpkloofaaDoor.M
