-- Printed by a program of this session (pp.sh), out of the translation; Lean checks it.
-- (narrow)
import Derived.Test.YthjkhbfaenidpaaP0
import Derived.Test.YthjkhbfaenidpaaPimplin
import Derived.Test.YthjkhbfaenidpaaPimplisGraph
namespace Go.Proofs.Ythjkhbfaenidpaa.P
open Go.RowKit Go.Proofs.YthjkhbfaenidpaaW.PrintWords Go.Proofs.YthjkhbfaenidpaaW.PrintLast Go.Proofs.YthjkhbfaenidpaaW.PrintMore
attribute [local go_sem] max2_int min2_int max_two min_two max_three min_three max_four min_four   -- for this text's walks alone
set_option linter.unusedVariables false
set_option linter.unusedSimpArgs false

/-! ### impl_has: function 30 -/
set_option maxHeartbeats 8000000 in
set_option maxRecDepth 100000 in
theorem has_1.calls (b : Nat) (A : Option Addr) (n c : Nat) (q : Int) (w : World) (hc : w.cell? ⟨b, 0, none⟩ = some (.slice A n c)) :
  Calls Try.prog 46 #[.int .i64 q, .pointer (some ⟨b, 0, none⟩)] w fun e w' => e = .returned (.bool (!decide (0 ≤ q) || !decide (q ≤ wrap64 ((n : Int) - 1)))) ∧ Below w.heap.size w w' := by
 have hu := Try.underlying28
 have hi : impl_in.f q 0 (wrap64 ((n : Int) - 1)) = some (decide (0 ≤ q) && decide (q ≤ wrap64 ((n : Int) - 1))) := by
  unfold impl_in.f; split
  ·simp [*]
  ·simp [*]
 have HI := Aside0.mk hi
 clear hi
 go_enter Try.func46, Try.ntmps46
 go_wp2_with (go_at_call 47; refine (impl_in.calls _ _ _ _ _ HI.out).mono ?_; rintro e w' ⟨rfl, ⟨nd, rfl⟩⟩)
 go_ret
 exact ⟨rfl, by repeat (first | exact Below.refl _ _ | apply below_alloc | apply pw_below_drewN | apply below_drew1)⟩
def impl_has.f (l0_0 : List (List Int)) (l1 : List Int) : Option Bool := some (goodG l0_0 && l1.all (fun q => decide (0 ≤ q) && decide (q ≤ (l0_0.length : Int) - 1)))
theorem has_any (n : Int) (l : List Int) : (l.all fun q => decide (0 ≤ q) && decide (q ≤ n - 1)) = !l.any (fun q => !decide (0 ≤ q) || !decide (q ≤ n - 1)) := by
 rw [List.all_eq_not_any_not]; simp only [Bool.not_and]
set_option maxHeartbeats 8000000 in
set_option maxRecDepth 100000 in
theorem impl_has.calls (A0_0 : Option Addr) (c0_0 : Nat) (l0_0 : List (List Int)) (A1 : Option Addr) (c1 : Nat) (l1 : List Int) (r : Bool) (w : World) (hr0_0 : Kd.C (Kd.slice 3 (Kd.int .i64)) w A0_0 l0_0.length l0_0) (hc0_0 : l0_0.length ≤ c0_0) (hr1 : Kd.C (Kd.int .i64) w A1 l1.length l1) (hc1 : l1.length ≤ c1) (h : impl_has.f l0_0 l1 = some r) :
  Calls Try.prog 30 #[.agg #[.slice A0_0 l0_0.length c0_0], .slice A1 l1.length c1] w fun e w' => e = .returned (.bool r) ∧ Below w.heap.size w w' := by
 have hu25 := Try.underlying28
 obtain rfl := Option.some.inj h
 clear h
 have hbig : l1.length ≤ 9223372036854775807 := hr1.2.1
 have HBIG := Aside0.mk hbig
 clear hbig
 have HR0_0 := Aside0.mk hr0_0
 have HC0_0 := Aside0.mk hc0_0
 have HR1 := Aside0.mk hr1
 have HC1 := Aside0.mk hc1
 clear hr0_0 hc0_0 hr1 hc1
 by_cases hg : goodG l0_0 = true
 ·have HG := Aside0.mk hg
  have hlen : 1 ≤ l0_0.length ∧ l0_0.length ≤ 8 := by
   simp only [goodG, Bool.and_eq_true, decide_eq_true_eq] at hg; exact ⟨hg.1, hg.2.1⟩
  have HW := Aside0.mk (show wrap64 ((l0_0.length : Int) - 1) = (l0_0.length : Int) - 1 by unfold wrap64; omega)
  clear hg hlen
  have HA : Aside0 (goodG l0_0 && l1.all (fun q => decide (0 ≤ q) && decide (q ≤ (l0_0.length : Int) - 1))) = Aside0 (!l1.any (fun q => !decide (0 ≤ q) || !decide (q ≤ (l0_0.length : Int) - 1))) := by
   rw [HG.out, Bool.true_and, has_any]
  have hres : (goodG l0_0 && l1.all (fun q => decide (0 ≤ q) && decide (q ≤ (l0_0.length : Int) - 1))) = !l1.any (fun q => !decide (0 ≤ q) || !decide (q ≤ (l0_0.length : Int) - 1)) := by
   rw [HG.out, Bool.true_and, has_any]
  clear HA
  have HRES := Aside0.mk hres
  clear hres
  have hgr : impl_isGraph.f l0_0 = some true := by unfold impl_isGraph.f; rw [HG.out]
  have HGR := Aside0.mk hgr
  clear hgr
  go_enter Try.func30, Try.ntmps30
  go_wp2_with (fail)
  refine (impl_isGraph.calls A0_0 c0_0 l0_0 true _ (Kd.C_alloc HR0_0.out _) HC0_0.out HGR.out).mono ?_
  rintro e w1 ⟨rfl, hb1⟩
  have HB1 := Aside0.mk hb1
  clear hb1
  go_wp2_with (fail)
  refine (slices_ContainsFunc.calls (fun q => !decide (0 ≤ q) || !decide (q ≤ (l0_0.length : Int) - 1)) 46 _ (fun args w => rfl) A1 c1 l1 _ (Kd.C_below (Kd.C_alloc HR1.out _) HB1.out) HC1.out HBIG.out ?hp).mono ?_
  case hp =>
   intro V q hV
   have h0 := has_1.calls w.heap.size A0_0 l0_0.length c0_0 q V ((hV.cell (p := ⟨w.heap.size, 0, none⟩) (by have := HB1.out.size; simp at this; simp; omega)).trans ((HB1.out.cell (p := ⟨w.heap.size, 0, none⟩) (by simp)).trans (by simp)))
   rw [HW.out] at h0; exact h0
  rintro e w2 ⟨rfl, hb2⟩
  have HB2 := Aside0.mk hb2
  clear hb2
  go_wp2
  go_ret
  refine ⟨?_, ?_⟩
  ·rw [HRES.out]; rfl
  ·exact (below_alloc (Below.refl _ _) _).trans ((HB1.out.trans (HB2.out.mono HB1.out.size)).mono (by simp))
 ·have hg' : goodG l0_0 = false := Bool.eq_false_iff.mpr hg
  have HG := Aside0.mk hg'
  clear hg hg'
  have hgr : impl_isGraph.f l0_0 = some false := by unfold impl_isGraph.f; rw [HG.out]
  have HGR := Aside0.mk hgr
  clear hgr
  go_enter Try.func30, Try.ntmps30
  go_wp2_with (fail)
  refine (impl_isGraph.calls A0_0 c0_0 l0_0 false _ (Kd.C_alloc HR0_0.out _) HC0_0.out HGR.out).mono ?_
  rintro e w1 ⟨rfl, hb1⟩
  have HB1 := Aside0.mk hb1
  clear hb1
  go_wp2
  go_ret
  refine ⟨?_, ?_⟩
  ·rw [HG.out]; rfl
  ·exact (below_alloc (Below.refl _ _) _).trans (HB1.out.mono (by simp))


end Go.Proofs.Ythjkhbfaenidpaa.P
