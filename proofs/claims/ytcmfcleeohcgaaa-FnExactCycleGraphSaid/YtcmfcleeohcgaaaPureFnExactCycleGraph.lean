/- CycleGraph: the program and the reference return the same, for all arguments. -/
import Derived.Test.YtcmfcleeohcgaaaPlawsFnExactCycleGraph
import Derived.Test.YtcmfcleeohcgaaaMBase
import Derived.Test.YtcmfcleeohcgaaaMMarkS
import Derived.Test.YtcmfcleeohcgaaaMMarkSS
import Derived.Test.YtcmfcleeohcgaaaMHeldSS
import Derived.Test.YtcmfcleeohcgaaaPspecgrCycle
import Derived.Test.YtcmfcleeohcgaaaPlawsheldGraph
import Derived.Test.YtcmfcleeohcgaaaMMarkG
import Derived.Test.YtcmfcleeohcgaaaRIn
namespace Go.Proofs.Ytcmfcleeohcgaaa.Pure
open Go.RowKit Go.Proofs.Ytcmfcleeohcgaaa.P Go.Proofs.Ytcmfcleeohcgaaa.In Go.Proofs.Ytcmfcleeohcgaaa.M Go.Proofs.YtcmfcleeohcgaaaW.PrintWords Go.Proofs.YtcmfcleeohcgaaaW.PrintLast
set_option linter.unusedVariables false
set_option linter.unusedSimpArgs false
def cycRow (n : Int) (both : Bool) (i : Nat) : List Int := if both = true then [Int.tmod ((i + 1 : Nat) : Int) n] ++ [Int.tmod ((i : Int) + n - 1) n] else [Int.tmod ((i + 1 : Nat) : Int) n]
def cycFrom (n : Int) (both : Bool) : Nat → Nat → List (List Int) → List (List Int)
  | 0, _, acc => acc
  | d + 1, i, acc => cycFrom n both d (i + 1) (acc ++ [cycRow n both i])
theorem cycFrom_small (n : Int) (both : Bool) : ∀ (d i : Nat) (acc : List (List Int)), acc.length = i → (∀ row ∈ acc, row.length ≤ 2) → (cycFrom n both d i acc).length = i + d ∧ ∀ row ∈ cycFrom n both d i acc, row.length ≤ 2 := by
  intro d
  induction d with
  | zero => intro i acc h1 h2; exact ⟨h1, h2⟩
  | succ d ih =>
    intro i acc h1 h2
    simp only [cycFrom]
    have := ih (i + 1) (acc ++ [cycRow n both i]) (by simp; omega) (fun row hr => by
      rcases List.mem_append.1 hr with h3 | h3
      · exact h2 row h3
      · simp only [List.mem_singleton] at h3; subst h3; unfold cycRow; split <;> simp)
    exact ⟨by have := this.1; omega, this.2⟩
theorem implCycle_l0 (n : Int) (both : Bool) (h0 : 1 ≤ n) (h8 : n ≤ 8) : ∀ (d i : Nat) (acc : List (List Int)), n.toNat - i = d → i ≤ n.toNat → acc.length = i → Ev (fun k => impl_CycleGraph.l0 k n both n i acc) (cycFrom n both d i acc, true) := by
  intro d
  induction d with
  | zero =>
    intro i acc hd hi ha
    refine Ev.succ ?_
    simp only [impl_CycleGraph.l0]
    exact Ev.neg (by omega) (Ev.now _)
  | succ d ih =>
    intro i acc hd hi ha
    refine Ev.succ ?_
    simp only [impl_CycleGraph.l0, cycFrom]
    refine Ev.pos (by omega) (Ev.neg (by omega) (Ev.bind0 rfl ?_))
    rw [wrap_nat (by omega), wrap_id (x := (i : Int) + n) (by omega), wrap_id (x := (i : Int) + n - 1) (by omega)]
    have hrec := ih (i + 1) (acc ++ [cycRow n both i]) (by omega) (by omega) (by simp; omega)
    by_cases hb : both = true
    · refine Ev.pos hb (Ev.pos (by simp) (Ev.pos (by omega) ?_))
      have e : cycRow n both i = [Int.tmod ((i + 1 : Nat) : Int) n] ++ [Int.tmod ((i : Int) + n - 1) n] := by unfold cycRow; rw [if_pos hb]
      rw [e] at hrec ⊢; exact hrec
    · refine Ev.neg hb (Ev.pos (by omega) ?_)
      have e : cycRow n both i = [Int.tmod ((i + 1 : Nat) : Int) n] := by unfold cycRow; rw [if_neg hb]
      rw [e] at hrec ⊢; exact hrec
theorem specCycle_l0 (n : Int) (both : Bool) (h0 : 1 ≤ n) (h8 : n ≤ 8) : ∀ (d i : Nat) (acc : List (List Int)), n.toNat - i = d → i ≤ n.toNat → acc.length = i → Ev (fun k => spec_grCycle.l0 k n both i acc) (cycFrom n both d i acc) := by
  intro d
  induction d with
  | zero =>
    intro i acc hd hi ha
    refine Ev.succ ?_
    simp only [spec_grCycle.l0]
    exact Ev.neg (by omega) (Ev.now _)
  | succ d ih =>
    intro i acc hd hi ha
    refine Ev.succ ?_
    simp only [spec_grCycle.l0, cycFrom]
    refine Ev.pos (by omega) (Ev.neg (by omega) (Ev.bind0 rfl ?_))
    rw [wrap_nat (by omega), wrap_id (x := (i : Int) + n) (by omega), wrap_id (x := (i : Int) + n - 1) (by omega)]
    have hrec := ih (i + 1) (acc ++ [cycRow n both i]) (by omega) (by omega) (by simp; omega)
    by_cases hb : both = true
    · refine Ev.pos hb (Ev.pos (by simp) (Ev.pos (by omega) ?_))
      have e : cycRow n both i = [Int.tmod ((i + 1 : Nat) : Int) n] ++ [Int.tmod ((i : Int) + n - 1) n] := by unfold cycRow; rw [if_pos hb]
      rw [e] at hrec ⊢; exact hrec
    · refine Ev.neg hb (Ev.pos (by omega) ?_)
      have e : cycRow n both i = [Int.tmod ((i + 1 : Nat) : Int) n] := by unfold cycRow; rw [if_neg hb]
      rw [e] at hrec ⊢; exact hrec
theorem FnExactCycleGraph (n : Int) (hn : okI n) (both : Bool) : laws_FnExactCycleGraph.f n both = some true := by
  unfold laws_FnExactCycleGraph.f
  rw [if_pos]
  unfold laws_FnExactCycleGraph.Good
  obtain ⟨v, b, hS, hI, hv⟩ : ∃ (v : List (List Int)) (b : Bool), Ev (fun k => spec_CycleGraph.f k n both) (v, b) ∧ Ev (fun k => impl_CycleGraph.f k n both) (v, b) ∧ small v := by
    by_cases hin : (decide (1 ≤ n) && decide (n ≤ 8)) = true
    · have h := hin
      simp only [Bool.and_eq_true, decide_eq_true_eq] at h
      obtain ⟨c1, c2⟩ := cycFrom_small n both n.toNat 0 [] rfl (fun row hr => by cases hr)
      refine ⟨cycFrom n both n.toNat 0 [], true, ?_, ?_, by omega, fun row hr => by have := c2 row hr; omega⟩
      · unfold spec_CycleGraph.f spec_grCycle.f
        exact Ev.bind0 (l1In n 1 8) (Ev.pos hin (Ev.bind (specCycle_l0 n both h.1 h.2 n.toNat 0 [] (by omega) (by omega) rfl) (Ev.now _)))
      · unfold impl_CycleGraph.f
        exact Ev.bind0 (implin n 1 8) (Ev.pos hin (implCycle_l0 n both h.1 h.2 n.toNat 0 [] (by omega) (by omega) rfl))
    · refine ⟨[], false, ?_, ?_, by simp [small]⟩
      · unfold spec_CycleGraph.f
        exact Ev.bind0 (l1In n 1 8) (Ev.neg hin (Ev.now _))
      · unfold impl_CycleGraph.f
        exact Ev.bind0 (implin n 1 8) (Ev.neg hin (Ev.now _))
  exact ⟨v, b, hS, hI, small_eq v hv, markGG v hv⟩
end Go.Proofs.Ytcmfcleeohcgaaa.Pure
