/- PlacesOf: the program and the reference return the same number. -/
import Derived.Test.YtjjnpllhenmdmaaPlawsFnExactPlacesOf
import Derived.Test.YtjjnpllhenmdmaaMBase
import Derived.Test.YtjjnpllhenmdmaaRIn
namespace Go.Proofs.Ytjjnpllhenmdmaa.Pure
open Go.RowKit Go.Proofs.Ytjjnpllhenmdmaa.P Go.Proofs.Ytjjnpllhenmdmaa.In Go.Proofs.Ytjjnpllhenmdmaa.M Go.Proofs.YtjjnpllhenmdmaaW.PrintWords Go.Proofs.YtjjnpllhenmdmaaW.PrintLast
set_option linter.unusedVariables false
set_option linter.unusedSimpArgs false
theorem FnExactPlacesOf (l : List (List Int)) (hl : okSS l) : ∃ k, laws_FnExactPlacesOf.f k l = some true := by
  refine Ev.rounds (g := fun k => laws_FnExactPlacesOf.f k l) ?_
  unfold laws_FnExactPlacesOf.f
  obtain ⟨r, hr, _, hs⟩ := szGraph l hl
  refine Ev.bind hr ?_
  by_cases h : r < 0
  · exact Ev.pos h (Ev.now _)
  · have sm := hs (by omega)
    have hS : Ev (fun k => spec_PlacesOf.f k l) (if goodG l = true then ((l.length : Int), true) else (0, false)) := by
      unfold spec_PlacesOf.f
      refine Ev.bind (grGood l hl) ?_
      by_cases hg : goodG l = true
      · simp only [hg, if_true]; exact Ev.now _
      · simp only [hg]; exact Ev.now _
    have hI : impl_PlacesOf.f l = some (if goodG l = true then ((l.length : Int), true) else (0, false)) := by
      unfold impl_PlacesOf.f impl_isGraph.f
      by_cases hg : goodG l = true
      · simp [hg]
      · simp [hg]
    refine Ev.neg h (Ev.bind (toGraph l sm) (Ev.bind hS (Ev.bind (toGraph l sm) (Ev.bind0 hI (Ev.pos rfl ?_)))))
    refine Ev.succ ?_
    simp only [laws_FnExactPlacesOf.j0]
    exact Ev.neg (by simp) (Ev.bind (toGraph l sm) (Ev.bind (small_eq l sm) (Ev.pos rfl (Ev.now _))))
end Go.Proofs.Ytjjnpllhenmdmaa.Pure
