-- Printed by a program of this session (pp.sh), out of the translation; Lean checks it.
import Derived.Test.YtcmfcleeohcgaabP0
import Derived.Test.YtcmfcleeohcgaabPimplin
import Derived.Test.YtcmfcleeohcgaabPimplisGraph
namespace Go.Proofs.Ytcmfcleeohcgaab.P
open Go.RowKit Go.Proofs.YtcmfcleeohcgaabW.PrintWords Go.Proofs.YtcmfcleeohcgaabW.PrintLast Go.Proofs.YtcmfcleeohcgaabW.PrintMore
attribute [local go_sem] max2_int min2_int max_two min_two max_three min_three max_four min_four   -- for this text's walks alone
set_option linter.unusedVariables false
set_option linter.unusedSimpArgs false

/-! ### impl_areChips: function 49 -/
set_option maxHeartbeats 8000000 in
set_option maxRecDepth 100000 in
theorem areChips_1.calls (q : Int) (w : World) :
    Calls Try.prog 65 #[.int .i64 q] w fun e w' => e = .returned (.bool (!decide (0 ≤ q) || !decide (q ≤ 20))) ∧ Below w.heap.size w w' := by
  have hi : impl_in.f q 0 20 = some (decide (0 ≤ q) && decide (q ≤ 20)) := by
    unfold impl_in.f; split
    · simp [*]
    · simp [*]
  have HI := Aside0.mk hi
  clear hi
  go_enter Try.func65, Try.ntmps65
  go_wp2_with (go_at_call 64; refine (impl_in.calls _ _ _ _ _ HI.out).mono ?_; rintro e w' ⟨rfl, ⟨nd, rfl⟩⟩)
  go_ret
  exact ⟨by first | rfl | (simp; done), by repeat (first | exact Below.refl _ _ | apply below_alloc | apply pw_below_drewN | apply below_drew1)⟩
def impl_areChips.f (l0_0 : List (List Int)) (l1 : List Int) : Option Bool := some (decide (l1.length = l0_0.length) && l1.all (fun q => decide (0 ≤ q) && decide (q ≤ 20)))
theorem areChips_any (l : List Int) : (l.all fun q => decide (0 ≤ q) && decide (q ≤ 20)) = !l.any (fun q => !decide (0 ≤ q) || !decide (q ≤ 20)) := by
  rw [List.all_eq_not_any_not]; simp only [Bool.not_and]
set_option maxHeartbeats 8000000 in
set_option maxRecDepth 100000 in
theorem impl_areChips.calls (A0_0 : Option Addr) (c0_0 : Nat) (l0_0 : List (List Int)) (A1 : Option Addr) (c1 : Nat) (l1 : List Int) (r : Bool) (w : World) (hr0_0 : Kd.C (Kd.slice 3 (Kd.int .i64)) w A0_0 l0_0.length l0_0) (hc0_0 : l0_0.length ≤ c0_0) (hr1 : Kd.C (Kd.int .i64) w A1 l1.length l1) (hc1 : l1.length ≤ c1) (h : impl_areChips.f l0_0 l1 = some r) :
    Calls Try.prog 49 #[.agg #[.slice A0_0 l0_0.length c0_0], .slice A1 l1.length c1] w fun e w' => e = .returned (.bool r) ∧ Below w.heap.size w w' := by
  have hu25 := Try.underlying32
  obtain rfl := Option.some.inj h
  clear h
  have hbig : l1.length ≤ 9223372036854775807 := hr1.2.1
  have HBIG := Aside0.mk hbig
  clear hbig
  have HR1 := Aside0.mk hr1
  have HC1 := Aside0.mk hc1
  clear hr0_0 hc0_0 hr1 hc1
  have HANY := Aside0.mk (areChips_any l1)
  by_cases hlen : l1.length = l0_0.length
  · have hb1 : decide ((l1.length : Int) = (l0_0.length : Int)) = true := decide_eq_true (by omega)
    have hb2 := Aside0.mk (show decide (l1.length = l0_0.length) = true from decide_eq_true hlen)
    clear hlen
    go_enter Try.func49, Try.ntmps49
    go_wp2_with (fail)
    rotate_left
    · exact absurd (of_decide_eq_true hb1) (by assumption)
    refine (slices_ContainsFunc.calls (fun q => !decide (0 ≤ q) || !decide (q ≤ 20)) 65 _ (fun args w => rfl) A1 c1 l1 _ (Kd.C_alloc HR1.out _) HC1.out HBIG.out ?hp).mono ?_
    case hp =>
      intro V q hV
      exact areChips_1.calls q V
    rintro e w2 ⟨rfl, hb2_⟩
    have HB2 := Aside0.mk hb2_
    clear hb2_
    go_wp2
    go_ret
    refine ⟨?_, ?_⟩
    · rw [HANY.out, hb2.out]; rfl
    · exact (below_alloc (Below.refl _ _) _).trans (HB2.out.mono (by simp))
  · have hb1 : decide ((l1.length : Int) = (l0_0.length : Int)) = false := decide_eq_false (by omega)
    have hb2 := Aside0.mk (show decide (l1.length = l0_0.length) = false from decide_eq_false hlen)
    clear hlen
    go_enter Try.func49, Try.ntmps49
    go_wp2_with (fail)
    · exact absurd (by assumption) (of_decide_eq_false hb1)
    go_ret
    refine ⟨?_, ?_⟩
    · rw [hb2.out]; rfl
    · exact below_alloc (Below.refl _ _) _


end Go.Proofs.Ytcmfcleeohcgaab.P
