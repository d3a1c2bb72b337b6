/- Marks: what is held of marked rows. -/
import Derived.Test.YtcmfcleeohcgaaaMBase
import Derived.Test.YtcmfcleeohcgaaaMMarkS
import Derived.Test.YtcmfcleeohcgaaaMMarkSS
import Derived.Test.YtcmfcleeohcgaaaPlawsheldIntSS
import Derived.Test.YtcmfcleeohcgaaaRIn
namespace Go.Proofs.Ytcmfcleeohcgaaa.M
open Go.RowKit Go.Proofs.Ytcmfcleeohcgaaa.P Go.Proofs.Ytcmfcleeohcgaaa.In Go.Proofs.YtcmfcleeohcgaaaW.PrintWords Go.Proofs.YtcmfcleeohcgaaaW.PrintLast
set_option linter.unusedVariables false
set_option linter.unusedSimpArgs false
theorem heldIntSS_l0 (n : Nat) (hn : n ≤ 1048576) (y : List (List Int)) (hy : y.length = n) : ∀ (d i : Nat) (x : List (List Int)) (a : Int), x.length = d → (∀ row ∈ x, row.length ≤ 1048576) → n - i = d → i ≤ n → 0 ≤ a → a + 1048576 * d ≤ 4611686018427387904 → y.drop i = (markRows a x).2 → Ev (fun k => laws_heldIntSS.l0 k y a i) (markRows a x).1 := by
  intro d
  induction d with
  | zero =>
    intro i x a hx hr hd hi h0 h1 he
    have : x = [] := List.length_eq_zero_iff.1 hx
    subst this
    refine Ev.succ ?_
    simp only [laws_heldIntSS.l0]
    exact Ev.neg (by omega) (Ev.now _)
  | succ d ih =>
    intro i x a hx hr hd hi h0 h1 he
    have hlt : i < y.length := by omega
    cases x with
    | nil => simp at hx
    | cons row rest =>
      rw [List.drop_eq_getElem_cons hlt] at he
      simp only [markRows, List.cons.injEq] at he
      have hrow := hr row List.mem_cons_self
      refine Ev.succ ?_
      simp only [laws_heldIntSS.l0]
      refine Ev.pos (by omega) (Ev.pos (by omega) ?_)
      rw [rdL_at hlt, he.1]
      refine Ev.bind (heldIntS a row.length h0 (by omega)) (Ev.neg (by omega) ?_)
      rw [wrap_nat (by omega)]
      exact ih (i + 1) rest (a + row.length) (by simpa using hx) (fun r hm => hr r (List.mem_cons_of_mem _ hm)) (by omega) (by omega) (by omega) (by omega) he.2
theorem markRows_len (a : Int) (x : List (List Int)) : (markRows a x).2.length = x.length := by
  induction x generalizing a with
  | nil => rfl
  | cons r x ih => simp [markRows, ih]
theorem heldIntSS (x : List (List Int)) (hx : small x) (a : Int) (h0 : 0 ≤ a) (h1 : a ≤ 1099511627776) : Ev (fun k => laws_heldIntSS.f k (markRows a x).2 a) (markRows a x).1 := by
  have hl := hx.1
  exact heldIntSS_l0 x.length hx.1 _ (markRows_len a x) x.length 0 x a rfl hx.2 (by omega) (by omega) h0 (by omega) (by simp)
theorem markRR (x : List (List Int)) (hx : small x) : ∃ q x', Ev (fun k => laws_markIntSS.f k x 1) (q, x') ∧ 0 ≤ q ∧ Ev (fun k => laws_heldIntSS.f k x' 1) q ∧ True := by
  obtain ⟨e1, e2, e3⟩ := markIntSS x hx 1 (by omega) (by omega)
  exact ⟨_, _, e1, by omega, heldIntSS x hx 1 (by omega) (by omega), trivial⟩
end Go.Proofs.Ytcmfcleeohcgaaa.M
