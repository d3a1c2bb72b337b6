/- DeterminantOf: the program and the reference return the same, for all arguments. -/
import Derived.Test.YthbigmlpgoobiaaPlawsFnExactDeterminantOf
import Derived.Test.YthbigmlpgoobiaaMBase
import Derived.Test.YthbigmlpgoobiaaMGraph
import Derived.Test.YthbigmlpgoobiaaMDet
import Derived.Test.YthbigmlpgoobiaaMMat
import Derived.Test.YthbigmlpgoobiaaMTrDet
import Derived.Test.YthbigmlpgoobiaaMBareiss
import Derived.Test.YthbigmlpgoobiaaPimplDeterminantOf
import Derived.Test.YthbigmlpgoobiaaPspecDeterminantOf
import Derived.Test.YthbigmlpgoobiaaRIn
namespace Go.Proofs.Ythbigmlpgoobiaa.Pure
open Go.RowKit Go.Proofs.Ythbigmlpgoobiaa.P Go.Proofs.Ythbigmlpgoobiaa.In Go.Proofs.Ythbigmlpgoobiaa.M Go.Proofs.YthbigmlpgoobiaaW.PrintWords Go.Proofs.YthbigmlpgoobiaaW.PrintLast
set_option linter.unusedVariables false
set_option linter.unusedSimpArgs false
open DetKit
theorem szSS (l : List (List Int)) (hl : okSS l) : ∃ r, Ev (fun k => laws_szIntSS.f k l 1048576) r ∧ r ≤ 1048576 ∧ (0 ≤ r → small l) := by
  have hll := hl.1
  unfold laws_szIntSS.f
  rw [wrap_id (by omega)]
  by_cases h : (1048576 : Int) - (l.length : Int) < 0
  · exact ⟨-1, Ev.pos h (Ev.now _), by omega, fun h => by omega⟩
  · obtain ⟨r, h2, h3, h4⟩ := szIntSS_l0 l hl l.length 0 (1048576 - (l.length : Int)) (by omega) (by omega) (by omega) (by omega)
    refine ⟨r, Ev.neg h h2, h3, fun h0 => ⟨by omega, fun row hrow => ?_⟩⟩
    obtain ⟨j, hj, rfl⟩ := List.getElem_of_mem hrow
    exact h4 h0 j hj (Nat.zero_le _)
theorem sq_of {l : List (List Int)} (h : l.all (detRow l.length) = true) : Sq l.length l := by
  refine ⟨rfl, fun row hr => ?_⟩
  have := List.all_eq_true.1 h row hr
  unfold detRow at this
  simp only [Bool.and_eq_true, decide_eq_true_eq, List.all_eq_true] at this
  exact ⟨this.1, fun x hx => this.2 x hx⟩
theorem det_l0 (l : List (List Int)) (hl : okSS l) (h7 : l.length ≤ 7) (r : Int × Bool) (hr : l.all (detRow l.length) = true → Ev (fun k => (spec_trDet.f k l).bind fun t => some (t, true)) r) (hr0 : l.all (detRow l.length) = false → r = (0, false)) : ∀ (d i : Nat), l.length - i = d → i ≤ l.length → (l.all (detRow l.length) = (l.drop i).all (detRow l.length)) → Ev (fun k => spec_DeterminantOf.l0 k l l l.length i) r := by
  intro d
  induction d with
  | zero =>
    intro i hd hi ha
    rw [List.drop_of_length_le (by omega), List.all_nil] at ha
    refine Ev.succ ?_
    simp only [spec_DeterminantOf.l0]
    exact Ev.neg (by omega) (hr ha)
  | succ d ih =>
    intro i hd hi ha
    have hlt : i < l.length := by omega
    have e := rdL_at hlt
    have hok := hl.2 (rd_L1 l i) (by rw [e]; exact List.getElem_mem _)
    rw [List.drop_eq_getElem_cons hlt, List.all_cons, ← e] at ha
    refine Ev.succ ?_
    simp only [spec_DeterminantOf.l0]
    refine Ev.pos (by omega) (Ev.pos (by omega) (Ev.pos (by omega) ?_))
    by_cases hn : (rd_L1 l i).length = l.length
    · refine Ev.pos (by omega) (Ev.bind (l1All (rd_L1 l i) (-10) 10 hok.1) ?_)
      have hd2 : detRow l.length (rd_L1 l i) = (rd_L1 l i).all fun x => decide (-10 ≤ x) && decide (x ≤ 10) := by unfold detRow; rw [decide_eq_true hn, Bool.true_and]
      rw [← hd2]
      by_cases hrow : detRow l.length (rd_L1 l i) = true
      · refine Ev.pos hrow ?_
        rw [hrow, Bool.true_and] at ha
        rw [wrap_nat (by omega)]
        exact ih (i + 1) (by omega) (by omega) ha
      · have hf := Bool.eq_false_iff.mpr hrow
        rw [hf, Bool.false_and] at ha
        exact Ev.neg hrow ((Ev.now _).val (hr0 ha).symm)
    · have hf : detRow l.length (rd_L1 l i) = false := by unfold detRow; rw [decide_eq_false hn, Bool.false_and]
      rw [hf, Bool.false_and] at ha
      exact Ev.neg (by omega) ((Ev.now _).val (hr0 ha).symm)
theorem detOf_both (l : List (List Int)) (hl : okSS l) : ∃ v : Int × Bool, Ev (fun k => spec_DeterminantOf.f k l) v ∧ Ev (fun k => impl_DeterminantOf.f k l) v := by
  by_cases h7 : l.length ≤ 7
  · by_cases ha : l.all (detRow l.length) = true
    · have hsq := sq_of ha
      refine ⟨(D l.length (mat l), true), ?_, ?_⟩
      · unfold spec_DeterminantOf.f
        refine Ev.neg (by omega) (det_l0 l hl h7 _ (fun _ => Ev.bind (trDet_ev l.length l h7 hsq) (Ev.now _)) (fun h => by rw [ha] at h; cases h) l.length 0 (by omega) (by omega) (by simp))
      · unfold impl_DeterminantOf.f
        exact Ev.pos h7 (Ev.pos ha (Ev.bind (determinant_ev h7 l hsq) (Ev.now _)))
    · refine ⟨(0, false), ?_, ?_⟩
      · unfold spec_DeterminantOf.f
        exact Ev.neg (by omega) (det_l0 l hl h7 _ (fun h => absurd h ha) (fun _ => rfl) l.length 0 (by omega) (by omega) (by simp))
      · unfold impl_DeterminantOf.f
        exact Ev.pos h7 (Ev.neg ha (Ev.now _))
  · refine ⟨(0, false), ?_, ?_⟩
    · unfold spec_DeterminantOf.f
      exact Ev.pos (by omega) (Ev.now _)
    · unfold impl_DeterminantOf.f
      exact Ev.neg h7 (Ev.now _)
theorem FnExactDeterminantOf (l : List (List Int)) (hl : okSS l) : ∃ k, laws_FnExactDeterminantOf.f k l = some true := by
  refine Ev.rounds (g := fun k => laws_FnExactDeterminantOf.f k l) ?_
  unfold laws_FnExactDeterminantOf.f
  obtain ⟨r, hr, hr1, hs⟩ := szSS l hl
  refine Ev.bind hr ?_
  by_cases h : r < 0
  · exact Ev.pos h (Ev.now _)
  · have sm := hs (by omega)
    have tI := toIntSS l (by have := sm.1; omega) (fun row hr => by have := sm.2 row hr; omega)
    obtain ⟨v, hS, hI⟩ := detOf_both l hl
    refine Ev.neg h (Ev.bind tI (Ev.bind hS (Ev.bind tI (Ev.bind hI (Ev.pos rfl ?_)))))
    refine Ev.succ ?_
    simp only [laws_FnExactDeterminantOf.j0]
    exact Ev.neg (by simp) (Ev.bind tI (Ev.bind ((eqIntSS l l (by have := sm.1; omega) (fun row hr => by have := sm.2 row hr; omega)).val (decide_eq_true rfl)) (Ev.pos rfl (Ev.now _))))
end Go.Proofs.Ythbigmlpgoobiaa.Pure
