/- IsGraph: the program and the reference both tell what goodG tells. -/
import Derived.Test.YtjjnpllhenmdmaaPlawsFnExactIsGraph
import Derived.Test.YtjjnpllhenmdmaaMBase
import Derived.Test.YtjjnpllhenmdmaaRIn
namespace Go.Proofs.Ytjjnpllhenmdmaa.Pure
open Go.RowKit Go.Proofs.Ytjjnpllhenmdmaa.P Go.Proofs.Ytjjnpllhenmdmaa.In Go.Proofs.Ytjjnpllhenmdmaa.M Go.Proofs.YtjjnpllhenmdmaaW.PrintWords Go.Proofs.YtjjnpllhenmdmaaW.PrintLast
set_option linter.unusedVariables false
set_option linter.unusedSimpArgs false
theorem FnExactIsGraph (l : List (List Int)) (hl : okSS l) : ∃ k, laws_FnExactIsGraph.f k l = some true := by
  refine Ev.rounds (g := fun k => laws_FnExactIsGraph.f k l) ?_
  unfold laws_FnExactIsGraph.f
  obtain ⟨r, hr, _, hs⟩ := szGraph l hl
  refine Ev.bind hr ?_
  by_cases h : r < 0
  · exact Ev.pos h (Ev.now _)
  · have sm := hs (by omega)
    have hS : Ev (fun k => spec_IsGraph.f k l) (goodG l) := by
      unfold spec_IsGraph.f; exact Ev.bind (grGood l hl) (Ev.now _)
    have hI : impl_IsGraph.f l = some (goodG l) := rfl
    exact Ev.neg h (Ev.bind (toGraph l sm) (Ev.bind hS (Ev.bind (toGraph l sm) (Ev.bind0 hI (Ev.neg (by simp) (Ev.bind (toGraph l sm) (Ev.bind (small_eq l sm) (Ev.pos rfl (Ev.now _)))))))))
end Go.Proofs.Ytjjnpllhenmdmaa.Pure
