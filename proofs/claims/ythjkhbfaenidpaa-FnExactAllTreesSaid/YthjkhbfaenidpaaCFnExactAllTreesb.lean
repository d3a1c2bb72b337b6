/- Merged texts of this session, for the law FnExactAllTrees. -/
import Derived.Test.YthjkhbfaenidpaaP0
import Derived.Test.YthjkhbfaenidpaaCFnExactAllTreesa
import Derived.Test.YthjkhbfaenidpaaWMore
import Derived.WalkKit
import Derived.ProofKit
import Derived.OpenShut
import Derived.ShutString
import Derived.ChangeOld
import Derived.Below
import Derived.SizedLaws
import Derived.Deep.Matrix
import Derived.Lib.SmallJoins
import Derived.Test.YthjkhbfaenidpaaPimplAllTrees
import Derived.Test.YthjkhbfaenidpaaPlawseqGraph
import Derived.Test.YthjkhbfaenidpaaPlawseqIntSS
import Derived.Test.YthjkhbfaenidpaaPlawseqIntS
import Derived.Test.YthjkhbfaenidpaaPimplisGraph
import Derived.Test.YthjkhbfaenidpaaPimplhas
import Derived.Test.YthjkhbfaenidpaaPimpllaplace
import Derived.Test.YthjkhbfaenidpaaPslicesDeleteintint
import Derived.Test.YthjkhbfaenidpaaPimpldeterminant
import Derived.Test.YthjkhbfaenidpaaPfakeswap
import Derived.Test.YthjkhbfaenidpaaPslicesCloneintint
import Derived.Test.YthjkhbfaenidpaaPimplGraphnext
import Derived.Test.YthjkhbfaenidpaaPimplGraphtreeWays
import Derived.Test.YthjkhbfaenidpaaPimplGraphisTree
namespace Go.Proofs.Ythjkhbfaenidpaa.P
open Go.RowKit Go.Proofs.YthjkhbfaenidpaaW.PrintWords Go.Proofs.YthjkhbfaenidpaaW.PrintLast Go.Proofs.YthjkhbfaenidpaaW.PrintMore
attribute [local go_sem] max2_int min2_int max_two min_two max_three min_three max_four min_four   -- for this text's walks alone
set_option linter.unusedVariables false
set_option linter.unusedSimpArgs false

/-! ### spec_trAll: function 28 -/
def loopsL (g : List (List Int)) (rot : List Int) (s p : Int) : Nat → Int → Int → Option Bool
 | 0, _, _ => none
 | k + 1, q, n => if n ≤ (g.length : Int) then (if q = s then some false else (if p < q then some false else ((spec_trNext.f g rot q).bind fun q2 => if q2 < 0 then some true else loopsL g rot s p k q2 (wrap64 (n + 1))))) else some true
set_option maxHeartbeats 8000000 in
set_option maxRecDepth 100000 in
theorem trSearch_loops.calls (k : Nat) (B c0 c2 : Nat) (A0 A2 : Option Addr) (l : List (List Int)) (s p : Int) (rot : List Int) (n2 : Nat) (hn2 : n2 = rot.length) (fv : Value) (most : Int) (r : Bool) (w : World)
  (hr0 : Kd.C (Kd.slice 3 (Kd.int .i64)) w A0 l.length l) (hc0 : l.length ≤ c0) (hr2 : Kd.C (Kd.int .i64) w A2 rot.length rot) (hc2 : rot.length ≤ c2)
  (hS : w.heap[B]? = some (.cells #[.slice A0 l.length c0, .int .i64 s, .slice A2 n2 c2, fv, .int .i64 most] 57 (0, 0)))
  (h : loopsL l rot s p k p 0 = some r) :
  Calls Try.prog 60 #[.pointer (some ⟨B, 0, none⟩), .int .i64 p] w fun e w' => e = .returned (.bool r) ∧ Below w.heap.size w w' := by
 subst hn2
 have hu1 := Try.underlying28
 have hu2 := Try.underlying57
 have HR0_0 := Aside0.mk hr0
 have HC0_0 := Aside0.mk hc0
 have HR2 := Aside0.mk hr2
 have HC2 := Aside0.mk hc2
 have BKS := Aside0.mk hS
 clear hr0 hc0 hr2 hc2 hS
 have HB := Aside0.mk (Below.refl w.heap.size w)
 have H' := Aside0.mk h
 clear h
 go_enter Try.func60, Try.ntmps60
 go_wp2_with (fail)
 go_loopg [5, 6] k (fun kq v5 v6 w' => ∃ (q : Int) (n : Int), v5 = .int .i64 q ∧ v6 = .int .i64 n ∧ Aside0 (loopsL l rot s p kq q n = some r) ∧ Aside0 (kq ≤ k) ∧ Aside0 (w'.heap[B]? = some (.cells #[.slice A0 l.length c0, .int .i64 s, .slice A2 rot.length c2, fv, .int .i64 most] 57 (0, 0))) ∧ Aside0 (Below w.heap.size w w'))
 case atStart => exact ⟨p, 0, rfl, rfl, H', ⟨Nat.le_refl _⟩, BKS, ⟨by repeat (first | (with_reducible first | exact HB.out | apply below_alloc | apply pw_below_drewN | apply below_drew1) | exact HB.out)⟩⟩
 case round =>
  clear H' BKS
  obtain ⟨q, n, rfl, rfl, HA, HK1, BKS, HB⟩ := hrel
  cases gk with
  | zero => exact absurd HA.out (by simp [loopsL])
  | succ k1 =>
   have H := HA.out
   clear HA
   simp only [loopsL] at H
   have hcz0 : wr.cell? ⟨B, 0, none⟩ = some (.slice A0 l.length c0) := (blk_cell BKS.out 0).trans rfl
   have hfz0 := blk_frozen BKS.out 0
   have hcz1 : wr.cell? ⟨B, 1, none⟩ = some (.int .i64 s) := (blk_cell BKS.out 1).trans rfl
   have hfz1 := blk_frozen BKS.out 1
   have hcz2 : wr.cell? ⟨B, 2, none⟩ = some (.slice A2 rot.length c2) := (blk_cell BKS.out 2).trans rfl
   have hfz2 := blk_frozen BKS.out 2
   by_cases c6 : n ≤ (l.length : Int)
   ·rw [if_pos c6] at H
    have c6b0 : decide (n ≤ (l.length : Int)) = true := decide_eq_true c6
    clear c6
    by_cases c7 : q = s
    ·rw [if_pos c7] at H
     have c7b0 : (q == s) = true := beq_iff_eq.mpr c7
     clear c7
     obtain rfl := Option.some.inj H
     go_wp2
     go_ret
     exact ⟨by first | rfl | (simp; done), by repeat (first | (with_reducible first | exact HB.out | apply below_alloc | apply pw_below_drewN | apply below_drew1) | exact HB.out)⟩
    ·rw [if_neg c7] at H
     have c7b0 : (q == s) = false := beq_eq_false_iff_ne.mpr c7
     clear c7
     by_cases c8 : p < q
     ·rw [if_pos c8] at H
      have c8b0 : decide (p < q) = true := decide_eq_true c8
      have c8b1 : decide (q > p) = true := decide_eq_true c8
      clear c8
      obtain rfl := Option.some.inj H
      go_wp2
      go_ret
      exact ⟨by first | rfl | (simp; done), by repeat (first | (with_reducible first | exact HB.out | apply below_alloc | apply pw_below_drewN | apply below_drew1) | exact HB.out)⟩
     ·rw [if_neg c8] at H
      have c8b0 : decide (p < q) = false := decide_eq_false c8
      have c8b1 : decide (q > p) = false := decide_eq_false c8
      clear c8
      replace H := Option.bind_eq_some_iff.mp H
      obtain ⟨q2, A90, H⟩ := H
      replace H : (if q2 < 0 then some true else loopsL l rot s p k1 q2 (wrap64 (n + 1))) = some r := H
      have A9 := Aside0.mk A90
      clear A90
      by_cases c10 : q2 < 0
      ·rw [if_pos c10] at H
       have c10b0 : decide (q2 < 0) = true := decide_eq_true c10
       clear c10
       obtain rfl := Option.some.inj H
       go_wp2
       refine start_ (n := 11) (S := fun w' => w'.cell? ⟨B, 0, none⟩ = some (.slice A0 l.length c0) ∧ w'.cell? ⟨B, 2, none⟩ = some (.slice A2 rot.length c2)) (ds := []) #[false, false, false, false, false, false, false, false, false, false, false] (by kernel_rfl) rfl rfl ⟨hcz0, hcz2⟩ (fun hHeld => ?_)
       refine pure_ (i := 0) (N := some 29) (v := ?_) (a' := ?_) #[true, false, false, false, false, false, false, false, false, false, false] rfl rfl (by kernel_rfl) (fun _ _ _ h => h) (Or.inl ⟨by rfl, ?_⟩) ?_ ?_
       rotate_left
       ·intro w'
        go_simp
        with_reducible rfl
       rotate_left
       ·simp only [Act.put, List.setIfInBounds_toArray, List.set_cons_zero, List.set_cons_succ, i64_w, i32_w]
        rfl
       refine pure_ (i := 1) (N := some 30) (v := ?_) (a' := ?_) #[true, true, false, false, false, false, false, false, false, false, false] rfl rfl (by kernel_rfl) (fun _ _ _ h => h) (Or.inl ⟨by rfl, ?_⟩) ?_ ?_
       rotate_left
       ·intro w'
        go_simp
        with_reducible rfl
       rotate_left
       ·simp only [Act.put, List.setIfInBounds_toArray, List.set_cons_zero, List.set_cons_succ, i64_w, i32_w]
        rfl
       refine pure_ (i := 2) (N := some 31) (v := ?_) (a' := ?_) #[true, true, true, false, false, false, false, false, false, false, false] rfl rfl (by kernel_rfl) (fun _ _ _ h => h) (Or.inl ⟨by rfl, ?_⟩) ?_ ?_
       rotate_left
       ·intro w'
        go_simp
        with_reducible rfl
       rotate_left
       ·simp only [Act.put, List.setIfInBounds_toArray, List.set_cons_zero, List.set_cons_succ, i64_w, i32_w]
        rfl
       refine take_ (i := 3) (N := some 32) (v := ?_) (a' := ?_) #[true, true, true, true, false, false, false, false, false, false, false] rfl rfl (by kernel_rfl) (fun _ _ _ h => h) (Or.inl ⟨by rfl, ?_⟩) hHeld ?_ ?_
       rotate_left
       ·rintro w' ⟨s0, s1⟩
        go_simp
        with_reducible rfl
       rotate_left
       ·simp only [Act.put, List.setIfInBounds_toArray, List.set_cons_zero, List.set_cons_succ, i64_w, i32_w]
        rfl
       refine pure_ (i := 4) (N := some 33) (v := ?_) (a' := ?_) #[true, true, true, true, true, false, false, false, false, false, false] rfl rfl (by kernel_rfl) (fun _ _ _ h => h) (Or.inl ⟨by rfl, ?_⟩) ?_ ?_
       rotate_left
       ·intro w'
        go_simp
        with_reducible rfl
       rotate_left
       ·simp only [Act.put, List.setIfInBounds_toArray, List.set_cons_zero, List.set_cons_succ, i64_w, i32_w]
        rfl
       refine pure_ (i := 5) (N := some 34) (v := ?_) (a' := ?_) #[true, true, true, true, true, true, false, false, false, false, false] rfl rfl (by kernel_rfl) (fun _ _ _ h => h) (Or.inl ⟨by rfl, ?_⟩) ?_ ?_
       rotate_left
       ·intro w'
        go_simp
        with_reducible rfl
       rotate_left
       ·simp only [Act.put, List.setIfInBounds_toArray, List.set_cons_zero, List.set_cons_succ, i64_w, i32_w]
        rfl
       refine pure_ (i := 6) (N := some 35) (v := ?_) (a' := ?_) #[true, true, true, true, true, true, true, false, false, false, false] rfl rfl (by kernel_rfl) (fun _ _ _ h => h) (Or.inl ⟨by rfl, ?_⟩) ?_ ?_
       rotate_left
       ·intro w'
        go_simp
        with_reducible rfl
       rotate_left
       ·simp only [Act.put, List.setIfInBounds_toArray, List.set_cons_zero, List.set_cons_succ, i64_w, i32_w]
        rfl
       refine take_ (i := 7) (N := some 36) (v := ?_) (a' := ?_) #[true, true, true, true, true, true, true, true, false, false, false] rfl rfl (by kernel_rfl) (fun _ _ _ h => h) (Or.inl ⟨by rfl, ?_⟩) hHeld ?_ ?_
       rotate_left
       ·rintro w' ⟨s0, s1⟩
        go_simp
        with_reducible rfl
       rotate_left
       ·simp only [Act.put, List.setIfInBounds_toArray, List.set_cons_zero, List.set_cons_succ, i64_w, i32_w]
        rfl
       refine pure_ (i := 8) (N := some 37) (v := ?_) (a' := ?_) #[true, true, true, true, true, true, true, true, true, false, false] rfl rfl (by kernel_rfl) (fun _ _ _ h => h) (Or.inl ⟨by rfl, ?_⟩) ?_ ?_
       rotate_left
       ·intro w'
        go_simp
        with_reducible rfl
       rotate_left
       ·simp only [Act.put, List.setIfInBounds_toArray, List.set_cons_zero, List.set_cons_succ, i64_w, i32_w]
        rfl
       refine one_ (i := 9) (N := some 38) #[true, true, true, true, true, true, true, true, true, true, false] rfl rfl (by kernel_rfl) (by decide) (fun K hK => ?_)
       refine goes_ Try.func67 (by kernel_rfl) rfl #[.agg #[.slice A0 l.length c0], .slice A2 rot.length c2, .int .i64 q] (by rfl) rfl rfl (by (try simp only [List.map_toArray, List.map_cons, List.map_nil]); first | done | rfl) ?_
       with_reducible refine (spec_trNext.calls _ _ l _ _ rot q q2 _ ?side1 ?side2 ?side3 ?side4 A9.out).mono ?_
       (case side1 => exact Kd.C_drew (Kd.C_below HR0_0.out HB.out))
       (case side2 => exact HC0_0.out)
       (case side3 => exact Kd.C_drew (Kd.C_below HR2.out HB.out))
       (case side4 => exact HC2.out)
       rintro e w12 ⟨rfl, hb⟩
       refine ⟨_, rfl, ?_⟩
       have n1_ := Aside0.mk (below_step (by repeat (first | (with_reducible first | exact HB.out | apply below_alloc | apply pw_below_drewN | apply below_drew1) | exact HB.out)) hb)
       have n2_ := Aside0.mk (blk_below (g := B) (by (with_reducible repeat (first | refine blk_drewN ?_ _ | refine blk_drew ?_ | refine blk_alloc ?_ _)); exact BKS.out) hb)
       clear HB BKS
       have HB := n1_
       have BKS := n2_
       clear n1_ n2_ hb
       refine hK.out _ _ ⟨(blk_cell BKS.out 0).trans rfl, (blk_cell BKS.out 2).trans rfl⟩ (fun hHeld => ?_)
       clear hK K
       refine norm_ (a' := ?_) ?_ ?_
       rotate_left
       ·show Act.put _ (some 38) _ = _
        simp only [Act.put, List.setIfInBounds_toArray, List.set_cons_zero, List.set_cons_succ, i64_w, i32_w]
        rfl
       refine pure_ (i := 10) (N := some 5) (v := ?_) (a' := ?_) #[true, true, true, true, true, true, true, true, true, true, true] rfl rfl (by kernel_rfl) (fun _ _ _ h => h) (Or.inl ⟨by rfl, ?_⟩) ?_ ?_
       rotate_left
       ·intro w'
        go_simp
        with_reducible rfl
       rotate_left
       ·simp only [Act.put, List.setIfInBounds_toArray, List.set_cons_zero, List.set_cons_succ, i64_w, i32_w]
        rfl
       refine done_ (by kernel_rfl) ?_
       go_wp2
       go_ret
       exact ⟨by first | rfl | (simp; done), by repeat (first | (with_reducible first | exact HB.out | apply below_alloc | apply pw_below_drewN | apply below_drew1) | exact HB.out)⟩
      ·rw [if_neg c10] at H
       have c10b0 : decide (q2 < 0) = false := decide_eq_false c10
       clear c10
       have H' := Aside0.mk H
       clear H
       go_wp2
       refine start_ (n := 11) (S := fun w' => w'.cell? ⟨B, 0, none⟩ = some (.slice A0 l.length c0) ∧ w'.cell? ⟨B, 2, none⟩ = some (.slice A2 rot.length c2)) (ds := []) #[false, false, false, false, false, false, false, false, false, false, false] (by kernel_rfl) rfl rfl ⟨hcz0, hcz2⟩ (fun hHeld => ?_)
       refine pure_ (i := 0) (N := some 29) (v := ?_) (a' := ?_) #[true, false, false, false, false, false, false, false, false, false, false] rfl rfl (by kernel_rfl) (fun _ _ _ h => h) (Or.inl ⟨by rfl, ?_⟩) ?_ ?_
       rotate_left
       ·intro w'
        go_simp
        with_reducible rfl
       rotate_left
       ·simp only [Act.put, List.setIfInBounds_toArray, List.set_cons_zero, List.set_cons_succ, i64_w, i32_w]
        rfl
       refine pure_ (i := 1) (N := some 30) (v := ?_) (a' := ?_) #[true, true, false, false, false, false, false, false, false, false, false] rfl rfl (by kernel_rfl) (fun _ _ _ h => h) (Or.inl ⟨by rfl, ?_⟩) ?_ ?_
       rotate_left
       ·intro w'
        go_simp
        with_reducible rfl
       rotate_left
       ·simp only [Act.put, List.setIfInBounds_toArray, List.set_cons_zero, List.set_cons_succ, i64_w, i32_w]
        rfl
       refine pure_ (i := 2) (N := some 31) (v := ?_) (a' := ?_) #[true, true, true, false, false, false, false, false, false, false, false] rfl rfl (by kernel_rfl) (fun _ _ _ h => h) (Or.inl ⟨by rfl, ?_⟩) ?_ ?_
       rotate_left
       ·intro w'
        go_simp
        with_reducible rfl
       rotate_left
       ·simp only [Act.put, List.setIfInBounds_toArray, List.set_cons_zero, List.set_cons_succ, i64_w, i32_w]
        rfl
       refine take_ (i := 3) (N := some 32) (v := ?_) (a' := ?_) #[true, true, true, true, false, false, false, false, false, false, false] rfl rfl (by kernel_rfl) (fun _ _ _ h => h) (Or.inl ⟨by rfl, ?_⟩) hHeld ?_ ?_
       rotate_left
       ·rintro w' ⟨s0, s1⟩
        go_simp
        with_reducible rfl
       rotate_left
       ·simp only [Act.put, List.setIfInBounds_toArray, List.set_cons_zero, List.set_cons_succ, i64_w, i32_w]
        rfl
       refine pure_ (i := 4) (N := some 33) (v := ?_) (a' := ?_) #[true, true, true, true, true, false, false, false, false, false, false] rfl rfl (by kernel_rfl) (fun _ _ _ h => h) (Or.inl ⟨by rfl, ?_⟩) ?_ ?_
       rotate_left
       ·intro w'
        go_simp
        with_reducible rfl
       rotate_left
       ·simp only [Act.put, List.setIfInBounds_toArray, List.set_cons_zero, List.set_cons_succ, i64_w, i32_w]
        rfl
       refine pure_ (i := 5) (N := some 34) (v := ?_) (a' := ?_) #[true, true, true, true, true, true, false, false, false, false, false] rfl rfl (by kernel_rfl) (fun _ _ _ h => h) (Or.inl ⟨by rfl, ?_⟩) ?_ ?_
       rotate_left
       ·intro w'
        go_simp
        with_reducible rfl
       rotate_left
       ·simp only [Act.put, List.setIfInBounds_toArray, List.set_cons_zero, List.set_cons_succ, i64_w, i32_w]
        rfl
       refine pure_ (i := 6) (N := some 35) (v := ?_) (a' := ?_) #[true, true, true, true, true, true, true, false, false, false, false] rfl rfl (by kernel_rfl) (fun _ _ _ h => h) (Or.inl ⟨by rfl, ?_⟩) ?_ ?_
       rotate_left
       ·intro w'
        go_simp
        with_reducible rfl
       rotate_left
       ·simp only [Act.put, List.setIfInBounds_toArray, List.set_cons_zero, List.set_cons_succ, i64_w, i32_w]
        rfl
       refine take_ (i := 7) (N := some 36) (v := ?_) (a' := ?_) #[true, true, true, true, true, true, true, true, false, false, false] rfl rfl (by kernel_rfl) (fun _ _ _ h => h) (Or.inl ⟨by rfl, ?_⟩) hHeld ?_ ?_
       rotate_left
       ·rintro w' ⟨s0, s1⟩
        go_simp
        with_reducible rfl
       rotate_left
       ·simp only [Act.put, List.setIfInBounds_toArray, List.set_cons_zero, List.set_cons_succ, i64_w, i32_w]
        rfl
       refine pure_ (i := 8) (N := some 37) (v := ?_) (a' := ?_) #[true, true, true, true, true, true, true, true, true, false, false] rfl rfl (by kernel_rfl) (fun _ _ _ h => h) (Or.inl ⟨by rfl, ?_⟩) ?_ ?_
       rotate_left
       ·intro w'
        go_simp
        with_reducible rfl
       rotate_left
       ·simp only [Act.put, List.setIfInBounds_toArray, List.set_cons_zero, List.set_cons_succ, i64_w, i32_w]
        rfl
       refine one_ (i := 9) (N := some 38) #[true, true, true, true, true, true, true, true, true, true, false] rfl rfl (by kernel_rfl) (by decide) (fun K hK => ?_)
       refine goes_ Try.func67 (by kernel_rfl) rfl #[.agg #[.slice A0 l.length c0], .slice A2 rot.length c2, .int .i64 q] (by rfl) rfl rfl (by (try simp only [List.map_toArray, List.map_cons, List.map_nil]); first | done | rfl) ?_
       with_reducible refine (spec_trNext.calls _ _ l _ _ rot q q2 _ ?side1 ?side2 ?side3 ?side4 A9.out).mono ?_
       (case side1 => exact Kd.C_drew (Kd.C_below HR0_0.out HB.out))
       (case side2 => exact HC0_0.out)
       (case side3 => exact Kd.C_drew (Kd.C_below HR2.out HB.out))
       (case side4 => exact HC2.out)
       rintro e w12 ⟨rfl, hb⟩
       refine ⟨_, rfl, ?_⟩
       have n1_ := Aside0.mk (below_step (by repeat (first | (with_reducible first | exact HB.out | apply below_alloc | apply pw_below_drewN | apply below_drew1) | exact HB.out)) hb)
       have n2_ := Aside0.mk (blk_below (g := B) (by (with_reducible repeat (first | refine blk_drewN ?_ _ | refine blk_drew ?_ | refine blk_alloc ?_ _)); exact BKS.out) hb)
       clear HB BKS
       have HB := n1_
       have BKS := n2_
       clear n1_ n2_ hb
       refine hK.out _ _ ⟨(blk_cell BKS.out 0).trans rfl, (blk_cell BKS.out 2).trans rfl⟩ (fun hHeld => ?_)
       clear hK K
       refine norm_ (a' := ?_) ?_ ?_
       rotate_left
       ·show Act.put _ (some 38) _ = _
        simp only [Act.put, List.setIfInBounds_toArray, List.set_cons_zero, List.set_cons_succ, i64_w, i32_w]
        rfl
       refine pure_ (i := 10) (N := some 5) (v := ?_) (a' := ?_) #[true, true, true, true, true, true, true, true, true, true, true] rfl rfl (by kernel_rfl) (fun _ _ _ h => h) (Or.inl ⟨by rfl, ?_⟩) ?_ ?_
       rotate_left
       ·intro w'
        go_simp
        with_reducible rfl
       rotate_left
       ·simp only [Act.put, List.setIfInBounds_toArray, List.set_cons_zero, List.set_cons_succ, i64_w, i32_w]
        rfl
       refine done_ (by kernel_rfl) ?_
       go_wp2
       go_roundg k1
       case measure => have := HK1.out; omega
       case rel => exact ⟨q2, (wrap64 (n + 1)), (by first | rfl | (simp; done) | (simp [*]; done)), (by first | rfl | (simp; done) | (simp [*]; done)), H', ⟨by have := HK1.out; omega⟩, ⟨by (with_reducible repeat (first | refine blk_drewN ?_ _ | refine blk_drew ?_ | refine blk_alloc ?_ _)); exact BKS.out⟩, ⟨by repeat (first | (with_reducible first | exact HB.out | apply below_alloc | apply pw_below_drewN | apply below_drew1) | exact HB.out)⟩⟩
   ·rw [if_neg c6] at H
    have c6b0 : decide (n ≤ (l.length : Int)) = false := decide_eq_false c6
    clear c6
    obtain rfl := Option.some.inj H
    go_wp2
    go_ret
    exact ⟨by first | rfl | (simp; done), by repeat (first | (with_reducible first | exact HB.out | apply below_alloc | apply pw_below_drewN | apply below_drew1) | exact HB.out)⟩

structure LookSt (w0 w : World) (B nb n cap c0 : Nat) (A0 : Option Addr) (m : Nat) (s most : Int) (rot : List Int) (found : List (List Int)) (Af : Option Addr) (cf : Nat) : Prop where
 hb : Below w0.heap.size w0 w
 hn : n = rot.length
 cap_ : n ≤ cap
 bk : w.heap[B]? = some (.cells #[.slice A0 m c0, .int .i64 s, .slice (some ⟨nb, 0, none⟩) n cap, .slice Af found.length cf, .int .i64 most] 57 (0, 0))
 rt : Kd.R (Kd.int .i64) 3 w w0.heap.size (fun k => k = nb) (.slice (some ⟨nb, 0, none⟩) n cap) rot
 fd : Kd.S (Kd.slice 3 (Kd.int .i64)) 35 w w0.heap.size (fun k => k ≠ nb) (.slice Af found.length cf) found
theorem LookSt.below {w0 w w1 : World} {B nb n cap c0 : Nat} {A0 : Option Addr} {m : Nat} {s most : Int} {rot : List Int} {found : List (List Int)} {Af : Option Addr} {cf : Nat} (h : LookSt w0 w B nb n cap c0 A0 m s most rot found Af cf) (hb : Below w.heap.size w w1) : LookSt w0 w1 B nb n cap c0 A0 m s most rot found Af cf :=
 ⟨below_step h.hb hb, h.hn, h.cap_, blk_below h.bk hb, Kd.R_below h.rt hb, Kd.S_below h.fd hb⟩
theorem LookSt.drew {w0 w : World} {B nb n cap c0 : Nat} {A0 : Option Addr} {m : Nat} {s most : Int} {rot : List Int} {found : List (List Int)} {Af : Option Addr} {cf : Nat} (h : LookSt w0 w B nb n cap c0 A0 m s most rot found Af cf) : LookSt w0 w.drew B nb n cap c0 A0 m s most rot found Af cf := h.below (below_drew (Below.refl _ _))
theorem LookSt.put {w0 w : World} {B nb n cap c0 : Nat} {A0 : Option Addr} {m : Nat} {s most : Int} {rot : List Int} {found : List (List Int)} {Af : Option Addr} {cf : Nat} (h : LookSt w0 w B nb n cap c0 A0 m s most rot found Af cf) (hnb : w0.heap.size ≤ nb) (hne : B ≠ nb) (i x : Int) : LookSt w0 (w.setCell ⟨nb, i.toNat, none⟩ (.int .i64 x)) B nb n cap c0 A0 m s most (rot.set i.toNat x) found Af cf :=
 ⟨below_set h.hb hnb, by rw [List.length_set]; exact h.hn, h.cap_, (Below.heap_setCell w ⟨nb, i.toNat, none⟩ _ B hne).trans h.bk, (Kd.R_putg h.rt i x).1, Kd.S_far h.fd (fun k hk => hk) _⟩
theorem blk_putS {w : World} {B j t : Nat} {cs : Array Value} {u : Value} (h : w.heap[B]? = some (.cells cs t (0, 0))) : (w.setCell ⟨B, j, none⟩ u).heap[B]? = some (.cells (cs.setIfInBounds j u) t (0, 0)) := by
 simp only [World.setCell, Array.getElem?_modify, if_true, h, Option.map_some]
 rfl
theorem LookSt.found {w0 w : World} {B nb n cap c0 : Nat} {A0 : Option Addr} {m : Nat} {s most : Int} {rot : List Int} {found found' : List (List Int)} {Af Af' : Option Addr} {cf cf' : Nat} (hB : w0.heap.size ≤ B) (hb : Below w0.heap.size w0 w) (hn : n = rot.length) (hc : n ≤ cap)
  (bk : w.heap[B]? = some (.cells #[.slice A0 m c0, .int .i64 s, .slice (some ⟨nb, 0, none⟩) n cap, .slice Af found.length cf, .int .i64 most] 57 (0, 0)))
  (rt : Kd.R (Kd.int .i64) 3 w w0.heap.size (fun k => k = nb) (.slice (some ⟨nb, 0, none⟩) n cap) rot)
  (fd : Kd.S (Kd.slice 3 (Kd.int .i64)) 35 w w0.heap.size (fun k => k ≠ nb) (.slice Af' found'.length cf') found') : LookSt w0 (w.setCell ⟨B, 3, none⟩ (.slice Af' found'.length cf')) B nb n cap c0 A0 m s most rot found' Af' cf' :=
 ⟨below_set hb hB, hn, hc, (blk_putS bk).trans rfl, Kd.R_set rt bk (by decide) 3 _, Kd.S_set fd bk (by decide) 3 _⟩
def lookF (g : List (List Int)) (s most : Int) : Nat → Option Int → Int → List Int → List (List Int) → Option (List Int × List (List Int))
 | 0, _, _, _, _ => none
 | k + 1, none, p, rot, found => if most < (found.length : Int) then some (rot, found) else (if p = (g.length : Int) then ((spec_l1Own.f rot).bind fun t => if (found.length + 1) * 24 ≤ 140737488355328 then some (rot, found ++ [t]) else none) else (if p = s then lookF g s most k none (wrap64 (p + 1)) rot found else (if 0 ≤ p then (if p < (g.length : Int) then lookF g s most k (some 0) p rot found else none) else none)))
 | k + 1, some j, p, rot, found => if j < ((rd_L1 g p).length : Int) then (if p < (rot.length : Int) then ((loopsL g (rot.set p.toNat j) s p k p 0).bind fun b => if b = true then lookF g s most k (some (wrap64 (j + 1))) p (rot.set p.toNat j) found else ((lookF g s most k none (wrap64 (p + 1)) (rot.set p.toNat j) found).bind fun x => lookF g s most k (some (wrap64 (j + 1))) p x.1 x.2)) else none) else (if p < (rot.length : Int) then some (rot.set p.toNat 0, found) else none)
set_option maxHeartbeats 8000000 in
set_option maxRecDepth 100000 in
theorem trSearch_look.calls (l : List (List Int)) (s most : Int) (A0 : Option Addr) (c0 B nb n cap : Nat) (w0 : World) (hr0 : Kd.C (Kd.slice 3 (Kd.int .i64)) w0 A0 l.length l) (hc0 : l.length ≤ c0) (hB : w0.heap.size ≤ B) (hnb : w0.heap.size ≤ nb) (hne : B ≠ nb) :
  ∀ (K k : Nat), k ≤ K → ∀ (p : Int) (rot : List Int) (found : List (List Int)) (Af : Option Addr) (cf : Nat) (r : List Int × List (List Int)) (w : World), LookSt w0 w B nb n cap c0 A0 l.length s most rot found Af cf → lookF l s most k none p rot found = some r →
  Calls Try.prog 44 #[.pointer (some ⟨B, 0, none⟩), .int .i64 p] w fun e w' => e = .returned (.tuple #[]) ∧ ∃ Af' cf', LookSt w0 w' B nb n cap c0 A0 l.length s most r.1 r.2 Af' cf' := by
 have hu1 := Try.underlying28
 have hu2 := Try.underlying57
 have hu3 := Try.underlying35
 have HR0 := Aside0.mk hr0
 have HC0 := Aside0.mk hc0
 have HNE := Aside0.mk hne
 have HNB := Aside0.mk hnb
 have HBB := Aside0.mk hB
 clear hr0 hc0 hne hnb hB
 intro K
 induction K with
 | zero =>
  intro k hk p rot found Af cf r w st h
  obtain rfl : k = 0 := by omega
  simp [lookF] at h
 | succ K ih =>
  intro k hk p rot found Af cf r w st h
  have IH := Aside0.mk ih
  clear ih
  cases k with
  | zero => simp [lookF] at h
  | succ k =>
   have HK := Aside0.mk hk
   clear hk
   have H := h
   clear h
   simp only [lookF] at H
   have ST := Aside0.mk st.drew
   have hcz2 : w.drew.cell? ⟨B, 3, none⟩ = some (.slice Af found.length cf) := (blk_cell ST.out.bk 3).trans rfl
   have hcz4 : w.drew.cell? ⟨B, 4, none⟩ = some (.int .i64 most) := (blk_cell ST.out.bk 4).trans rfl
   clear st
   by_cases c1 : most < (found.length : Int)
   ·rw [if_pos c1] at H
    have c1b0 : decide (most < (found.length : Int)) = true := decide_eq_true c1
    clear c1
    obtain rfl := Option.some.inj H
    go_enter Try.func44, Try.ntmps44
    go_wp2_with fail
    refine start_ (n := 10) (S := fun w' => w'.cell? ⟨B, 3, none⟩ = some (.slice Af found.length cf) ∧ w'.cell? ⟨B, 4, none⟩ = some (.int .i64 most)) (ds := []) #[false, false, false, false, false, false, false, false, false, false] (by kernel_rfl) rfl rfl ⟨hcz2, hcz4⟩ (fun hHeld => ?_)
    refine pure_ (i := 0) (N := some 5) (v := ?_) (a' := ?_) #[true, false, false, false, false, false, false, false, false, false] rfl rfl (by kernel_rfl) (fun _ _ _ h => h) (Or.inl ⟨by rfl, ?_⟩) ?_ ?_
    rotate_left
    ·intro w'
     go_simp
     with_reducible rfl
    rotate_left
    ·simp only [Act.put, List.setIfInBounds_toArray, List.set_cons_zero, List.set_cons_succ, i64_w, i32_w]
     rfl
    refine pure_ (i := 1) (N := some 6) (v := ?_) (a' := ?_) #[true, true, false, false, false, false, false, false, false, false] rfl rfl (by kernel_rfl) (fun _ _ _ h => h) (Or.inl ⟨by rfl, ?_⟩) ?_ ?_
    rotate_left
    ·intro w'
     go_simp
     with_reducible rfl
    rotate_left
    ·simp only [Act.put, List.setIfInBounds_toArray, List.set_cons_zero, List.set_cons_succ, i64_w, i32_w]
     rfl
    refine pure_ (i := 2) (N := some 7) (v := ?_) (a' := ?_) #[true, true, true, false, false, false, false, false, false, false] rfl rfl (by kernel_rfl) (fun _ _ _ h => h) (Or.inl ⟨by rfl, ?_⟩) ?_ ?_
    rotate_left
    ·intro w'
     go_simp
     with_reducible rfl
    rotate_left
    ·simp only [Act.put, List.setIfInBounds_toArray, List.set_cons_zero, List.set_cons_succ, i64_w, i32_w]
     rfl
    refine take_ (i := 3) (N := some 8) (v := ?_) (a' := ?_) #[true, true, true, true, false, false, false, false, false, false] rfl rfl (by kernel_rfl) (fun _ _ _ h => h) (Or.inl ⟨by rfl, ?_⟩) hHeld ?_ ?_
    rotate_left
    ·rintro w' ⟨s0, s1⟩
     go_simp
     with_reducible rfl
    rotate_left
    ·simp only [Act.put, List.setIfInBounds_toArray, List.set_cons_zero, List.set_cons_succ, i64_w, i32_w]
     rfl
    refine pure_ (i := 4) (N := some 9) (v := ?_) (a' := ?_) #[true, true, true, true, true, false, false, false, false, false] rfl rfl (by kernel_rfl) (fun _ _ _ h => h) (Or.inl ⟨by rfl, ?_⟩) ?_ ?_
    rotate_left
    ·intro w'
     go_simp
     with_reducible rfl
    rotate_left
    ·simp only [Act.put, List.setIfInBounds_toArray, List.set_cons_zero, List.set_cons_succ, i64_w, i32_w]
     rfl
    refine pure_ (i := 5) (N := some 10) (v := ?_) (a' := ?_) #[true, true, true, true, true, true, false, false, false, false] rfl rfl (by kernel_rfl) (fun _ _ _ h => h) (Or.inl ⟨by rfl, ?_⟩) ?_ ?_
    rotate_left
    ·intro w'
     go_simp
     with_reducible rfl
    rotate_left
    ·simp only [Act.put, List.setIfInBounds_toArray, List.set_cons_zero, List.set_cons_succ, i64_w, i32_w]
     rfl
    refine pure_ (i := 6) (N := some 11) (v := ?_) (a' := ?_) #[true, true, true, true, true, true, true, false, false, false] rfl rfl (by kernel_rfl) (fun _ _ _ h => h) (Or.inl ⟨by rfl, ?_⟩) ?_ ?_
    rotate_left
    ·intro w'
     go_simp
     with_reducible rfl
    rotate_left
    ·simp only [Act.put, List.setIfInBounds_toArray, List.set_cons_zero, List.set_cons_succ, i64_w, i32_w]
     rfl
    refine pure_ (i := 7) (N := some 12) (v := ?_) (a' := ?_) #[true, true, true, true, true, true, true, true, false, false] rfl rfl (by kernel_rfl) (fun _ _ _ h => h) (Or.inl ⟨by rfl, ?_⟩) ?_ ?_
    rotate_left
    ·intro w'
     go_simp
     with_reducible rfl
    rotate_left
    ·simp only [Act.put, List.setIfInBounds_toArray, List.set_cons_zero, List.set_cons_succ, i64_w, i32_w]
     rfl
    refine take_ (i := 8) (N := some 13) (v := ?_) (a' := ?_) #[true, true, true, true, true, true, true, true, true, false] rfl rfl (by kernel_rfl) (fun _ _ _ h => h) (Or.inl ⟨by rfl, ?_⟩) hHeld ?_ ?_
    rotate_left
    ·rintro w' ⟨s0, s1⟩
     go_simp
     with_reducible rfl
    rotate_left
    ·simp only [Act.put, List.setIfInBounds_toArray, List.set_cons_zero, List.set_cons_succ, i64_w, i32_w]
     rfl
    refine pure_ (i := 9) (N := some 14) (v := ?_) (a' := ?_) #[true, true, true, true, true, true, true, true, true, true] rfl rfl (by kernel_rfl) (fun _ _ _ h => h) (Or.inl ⟨by rfl, ?_⟩) ?_ ?_
    rotate_left
    ·intro w'
     go_simp
     with_reducible rfl
    rotate_left
    ·simp only [Act.put, List.setIfInBounds_toArray, List.set_cons_zero, List.set_cons_succ, i64_w, i32_w]
     rfl
    refine done_ (by kernel_rfl) ?_
    clear hHeld hcz2 hcz4
    generalize w.drew = w1 at ST ⊢
    go_wp2
    first | (refine bodyPost_ret (results_none rfl _ _ _) rfl ?_) | go_end0
    exact ⟨rfl, Af, cf, ST.out⟩
   ·rw [if_neg c1] at H
    have c1b0 : decide (most < (found.length : Int)) = false := decide_eq_false c1
    clear c1
    go_enter Try.func44, Try.ntmps44
    go_wp2_with fail
    refine start_ (n := 10) (S := fun w' => w'.cell? ⟨B, 3, none⟩ = some (.slice Af found.length cf) ∧ w'.cell? ⟨B, 4, none⟩ = some (.int .i64 most)) (ds := []) #[false, false, false, false, false, false, false, false, false, false] (by kernel_rfl) rfl rfl ⟨hcz2, hcz4⟩ (fun hHeld => ?_)
    refine pure_ (i := 0) (N := some 5) (v := ?_) (a' := ?_) #[true, false, false, false, false, false, false, false, false, false] rfl rfl (by kernel_rfl) (fun _ _ _ h => h) (Or.inl ⟨by rfl, ?_⟩) ?_ ?_
    rotate_left
    ·intro w'
     go_simp
     with_reducible rfl
    rotate_left
    ·simp only [Act.put, List.setIfInBounds_toArray, List.set_cons_zero, List.set_cons_succ, i64_w, i32_w]
     rfl
    refine pure_ (i := 1) (N := some 6) (v := ?_) (a' := ?_) #[true, true, false, false, false, false, false, false, false, false] rfl rfl (by kernel_rfl) (fun _ _ _ h => h) (Or.inl ⟨by rfl, ?_⟩) ?_ ?_
    rotate_left
    ·intro w'
     go_simp
     with_reducible rfl
    rotate_left
    ·simp only [Act.put, List.setIfInBounds_toArray, List.set_cons_zero, List.set_cons_succ, i64_w, i32_w]
     rfl
    refine pure_ (i := 2) (N := some 7) (v := ?_) (a' := ?_) #[true, true, true, false, false, false, false, false, false, false] rfl rfl (by kernel_rfl) (fun _ _ _ h => h) (Or.inl ⟨by rfl, ?_⟩) ?_ ?_
    rotate_left
    ·intro w'
     go_simp
     with_reducible rfl
    rotate_left
    ·simp only [Act.put, List.setIfInBounds_toArray, List.set_cons_zero, List.set_cons_succ, i64_w, i32_w]
     rfl
    refine take_ (i := 3) (N := some 8) (v := ?_) (a' := ?_) #[true, true, true, true, false, false, false, false, false, false] rfl rfl (by kernel_rfl) (fun _ _ _ h => h) (Or.inl ⟨by rfl, ?_⟩) hHeld ?_ ?_
    rotate_left
    ·rintro w' ⟨s0, s1⟩
     go_simp
     with_reducible rfl
    rotate_left
    ·simp only [Act.put, List.setIfInBounds_toArray, List.set_cons_zero, List.set_cons_succ, i64_w, i32_w]
     rfl
    refine pure_ (i := 4) (N := some 9) (v := ?_) (a' := ?_) #[true, true, true, true, true, false, false, false, false, false] rfl rfl (by kernel_rfl) (fun _ _ _ h => h) (Or.inl ⟨by rfl, ?_⟩) ?_ ?_
    rotate_left
    ·intro w'
     go_simp
     with_reducible rfl
    rotate_left
    ·simp only [Act.put, List.setIfInBounds_toArray, List.set_cons_zero, List.set_cons_succ, i64_w, i32_w]
     rfl
    refine pure_ (i := 5) (N := some 10) (v := ?_) (a' := ?_) #[true, true, true, true, true, true, false, false, false, false] rfl rfl (by kernel_rfl) (fun _ _ _ h => h) (Or.inl ⟨by rfl, ?_⟩) ?_ ?_
    rotate_left
    ·intro w'
     go_simp
     with_reducible rfl
    rotate_left
    ·simp only [Act.put, List.setIfInBounds_toArray, List.set_cons_zero, List.set_cons_succ, i64_w, i32_w]
     rfl
    refine pure_ (i := 6) (N := some 11) (v := ?_) (a' := ?_) #[true, true, true, true, true, true, true, false, false, false] rfl rfl (by kernel_rfl) (fun _ _ _ h => h) (Or.inl ⟨by rfl, ?_⟩) ?_ ?_
    rotate_left
    ·intro w'
     go_simp
     with_reducible rfl
    rotate_left
    ·simp only [Act.put, List.setIfInBounds_toArray, List.set_cons_zero, List.set_cons_succ, i64_w, i32_w]
     rfl
    refine pure_ (i := 7) (N := some 12) (v := ?_) (a' := ?_) #[true, true, true, true, true, true, true, true, false, false] rfl rfl (by kernel_rfl) (fun _ _ _ h => h) (Or.inl ⟨by rfl, ?_⟩) ?_ ?_
    rotate_left
    ·intro w'
     go_simp
     with_reducible rfl
    rotate_left
    ·simp only [Act.put, List.setIfInBounds_toArray, List.set_cons_zero, List.set_cons_succ, i64_w, i32_w]
     rfl
    refine take_ (i := 8) (N := some 13) (v := ?_) (a' := ?_) #[true, true, true, true, true, true, true, true, true, false] rfl rfl (by kernel_rfl) (fun _ _ _ h => h) (Or.inl ⟨by rfl, ?_⟩) hHeld ?_ ?_
    rotate_left
    ·rintro w' ⟨s0, s1⟩
     go_simp
     with_reducible rfl
    rotate_left
    ·simp only [Act.put, List.setIfInBounds_toArray, List.set_cons_zero, List.set_cons_succ, i64_w, i32_w]
     rfl
    refine pure_ (i := 9) (N := some 14) (v := ?_) (a' := ?_) #[true, true, true, true, true, true, true, true, true, true] rfl rfl (by kernel_rfl) (fun _ _ _ h => h) (Or.inl ⟨by rfl, ?_⟩) ?_ ?_
    rotate_left
    ·intro w'
     go_simp
     with_reducible rfl
    rotate_left
    ·simp only [Act.put, List.setIfInBounds_toArray, List.set_cons_zero, List.set_cons_succ, i64_w, i32_w]
     rfl
    refine done_ (by kernel_rfl) ?_
    clear hHeld hcz2 hcz4
    generalize w.drew = w1 at ST ⊢
    have hcz0 : w1.cell? ⟨B, 0, none⟩ = some (.slice A0 l.length c0) := (blk_cell ST.out.bk 0).trans rfl
    have hcz1 : w1.cell? ⟨B, 1, none⟩ = some (.int .i64 s) := (blk_cell ST.out.bk 1).trans rfl
    have hcz2 : w1.cell? ⟨B, 2, none⟩ = some (.slice (some ⟨nb, 0, none⟩) n cap) := (blk_cell ST.out.bk 2).trans rfl
    have hcz3 : w1.cell? ⟨B, 3, none⟩ = some (.slice Af found.length cf) := (blk_cell ST.out.bk 3).trans rfl
    by_cases c2 : p = (l.length : Int)
    ·rw [if_pos c2] at H
     have c2b0 : (p == (l.length : Int)) = true := beq_iff_eq.mpr c2
     clear c2
     replace H := Option.bind_eq_some_iff.mp H
     obtain ⟨t, A30, H⟩ := H
     have A3 := Aside0.mk A30
     clear A30
     by_cases c8 : (found.length + 1) * 24 ≤ 140737488355328
     ·rw [if_pos c8] at H
      have LM := Aside0.mk c8
      clear c8
      obtain rfl := Option.some.inj H
      have hn := ST.out.hn
      subst hn
      have ST1 := Aside0.mk ST.out.drew
      go_wp2
      have hcy2 : w1.drew.cell? ⟨B, 2, none⟩ = some (.slice (some ⟨nb, 0, none⟩) rot.length cap) := (blk_cell ST1.out.bk 2).trans rfl
      have hcy3 : w1.drew.cell? ⟨B, 3, none⟩ = some (.slice Af found.length cf) := (blk_cell ST1.out.bk 3).trans rfl
      clear hcz0 hcz1 hcz2 hcz3 ST
      refine start_ (n := 15) (S := fun w' => w'.cell? ⟨B, 2, none⟩ = some (.slice (some ⟨nb, 0, none⟩) rot.length cap) ∧ w'.cell? ⟨B, 3, none⟩ = some (.slice Af found.length cf)) (ds := [14]) #[false, false, false, false, false, false, false, false, false, false, false, false, false, false, false] (by kernel_rfl) rfl rfl ⟨hcy2, hcy3⟩ (fun hHeld => ?_)
      clear hcy2 hcy3
      refine pure_ (i := 0) (N := some 23) (v := ?_) (a' := ?_) #[true, false, false, false, false, false, false, false, false, false, false, false, false, false, false] rfl rfl (by kernel_rfl) (fun _ _ _ h => h) (Or.inl ⟨by rfl, ?_⟩) ?_ ?_
      rotate_left
      ·intro w'
       go_simp
       with_reducible rfl
      rotate_left
      ·simp only [Act.put, List.setIfInBounds_toArray, List.set_cons_zero, List.set_cons_succ, i64_w, i32_w]
       rfl
      refine pure_ (i := 1) (N := some 24) (v := ?_) (a' := ?_) #[true, true, false, false, false, false, false, false, false, false, false, false, false, false, false] rfl rfl (by kernel_rfl) (fun _ _ _ h => h) (Or.inl ⟨by rfl, ?_⟩) ?_ ?_
      rotate_left
      ·intro w'
       go_simp
       with_reducible rfl
      rotate_left
      ·simp only [Act.put, List.setIfInBounds_toArray, List.set_cons_zero, List.set_cons_succ, i64_w, i32_w]
       rfl
      refine pure_ (i := 2) (N := some 25) (v := ?_) (a' := ?_) #[true, true, true, false, false, false, false, false, false, false, false, false, false, false, false] rfl rfl (by kernel_rfl) (fun _ _ _ h => h) (Or.inl ⟨by rfl, ?_⟩) ?_ ?_
      rotate_left
      ·intro w'
       go_simp
       with_reducible rfl
      rotate_left
      ·simp only [Act.put, List.setIfInBounds_toArray, List.set_cons_zero, List.set_cons_succ, i64_w, i32_w]
       rfl
      refine pure_ (i := 3) (N := some 26) (v := ?_) (a' := ?_) #[true, true, true, true, false, false, false, false, false, false, false, false, false, false, false] rfl rfl (by kernel_rfl) (fun _ _ _ h => h) (Or.inl ⟨by rfl, ?_⟩) ?_ ?_
      rotate_left
      ·intro w'
       go_simp
       with_reducible rfl
      rotate_left
      ·simp only [Act.put, List.setIfInBounds_toArray, List.set_cons_zero, List.set_cons_succ, i64_w, i32_w]
       rfl
      refine take_ (i := 4) (N := some 27) (v := ?_) (a' := ?_) #[true, true, true, true, true, false, false, false, false, false, false, false, false, false, false] rfl rfl (by kernel_rfl) (fun _ _ _ h => h) (Or.inl ⟨by rfl, ?_⟩) hHeld ?_ ?_
      rotate_left
      ·rintro w' ⟨s0, s1⟩
       go_simp
       with_reducible rfl
      rotate_left
      ·simp only [Act.put, List.setIfInBounds_toArray, List.set_cons_zero, List.set_cons_succ, i64_w, i32_w]
       rfl
      refine pure_ (i := 5) (N := some 28) (v := ?_) (a' := ?_) #[true, true, true, true, true, true, false, false, false, false, false, false, false, false, false] rfl rfl (by kernel_rfl) (fun _ _ _ h => h) (Or.inl ⟨by rfl, ?_⟩) ?_ ?_
      rotate_left
      ·intro w'
       go_simp
       with_reducible rfl
      rotate_left
      ·simp only [Act.put, List.setIfInBounds_toArray, List.set_cons_zero, List.set_cons_succ, i64_w, i32_w]
       rfl
      refine pure_ (i := 6) (N := some 29) (v := ?_) (a' := ?_) #[true, true, true, true, true, true, true, false, false, false, false, false, false, false, false] rfl rfl (by kernel_rfl) (fun _ _ _ h => h) (Or.inl ⟨by rfl, ?_⟩) ?_ ?_
      rotate_left
      ·intro w'
       go_simp
       with_reducible rfl
      rotate_left
      ·simp only [Act.put, List.setIfInBounds_toArray, List.set_cons_zero, List.set_cons_succ, i64_w, i32_w]
       rfl
      refine pure_ (i := 7) (N := some 30) (v := ?_) (a' := ?_) #[true, true, true, true, true, true, true, true, false, false, false, false, false, false, false] rfl rfl (by kernel_rfl) (fun _ _ _ h => h) (Or.inl ⟨by rfl, ?_⟩) ?_ ?_
      rotate_left
      ·intro w'
       go_simp
       with_reducible rfl
      rotate_left
      ·simp only [Act.put, List.setIfInBounds_toArray, List.set_cons_zero, List.set_cons_succ, i64_w, i32_w]
       rfl
      refine take_ (i := 8) (N := some 31) (v := ?_) (a' := ?_) #[true, true, true, true, true, true, true, true, true, false, false, false, false, false, false] rfl rfl (by kernel_rfl) (fun _ _ _ h => h) (Or.inl ⟨by rfl, ?_⟩) hHeld ?_ ?_
      rotate_left
      ·rintro w' ⟨s0, s1⟩
       go_simp
       with_reducible rfl
      rotate_left
      ·simp only [Act.put, List.setIfInBounds_toArray, List.set_cons_zero, List.set_cons_succ, i64_w, i32_w]
       rfl
      refine one_ (i := 9) (N := some 32) #[true, true, true, true, true, true, true, true, true, true, false, false, false, false, false] rfl rfl (by kernel_rfl) (by decide) (fun K hK => ?_)
      refine goes_ Try.func43 (by kernel_rfl) rfl #[.slice (some ⟨nb, 0, none⟩) rot.length cap] (by rfl) rfl rfl (by (try simp only [List.map_toArray, List.map_cons, List.map_nil]); first | done | rfl) ?_
      refine (spec_l1Own.calls _ _ rot t _ (Kd.R_reads' ST1.out.rt).2.2 ST1.out.cap_ A3.out).mono ?_
      rintro e w3 ⟨v3, rfl, ho0, hb⟩
      refine ⟨_, rfl, ?_⟩
      have ST3 := Aside0.mk (ST1.out.below hb)
      have HF := Aside0.mk (Kd.S_elder' ST1.out.fd (Kd.R_base ho0) hb)
      have HW := Aside0.mk (Kd.R_lower (Kd.R_new' ho0 (Kd.R_lt ST1.out.rt)) (below_size ST1.out.hb))
      clear ho0 hb ST1
      obtain ⟨Ao, co, eo⟩ := Kd.R_slice HW.out
      subst eo
      refine hK.out _ _ ⟨(blk_cell ST3.out.bk 2).trans rfl, (blk_cell ST3.out.bk 3).trans rfl⟩ (fun hHeld => ?_)
      clear hK K
      refine norm_ (a' := ?_) ?_ ?_
      rotate_left
      ·show Act.put _ (some 32) _ = _
       simp only [Act.put, List.setIfInBounds_toArray, List.set_cons_zero, List.set_cons_succ, i64_w, i32_w]
       rfl
      refine one_ (i := 10) (N := some 33) #[true, true, true, true, true, true, true, true, true, true, true, false, false, false, false] rfl rfl (by kernel_rfl) (by decide) (fun K hK => ?_)
      refine value_ (w1 := ?_) (v := ?_) (by rfl) rfl ?_ ?_
      rotate_left 2
      ·go_simp
       constructor
       ·rfl
       ·rfl
      have BKA := Aside0.mk (blk_alloc ST3.out.bk (.cells #[.slice Ao t.length co] 35))
      refine hK.out _ _ ⟨(blk_cell BKA.out 2).trans rfl, (blk_cell BKA.out 3).trans rfl⟩ (fun hHeld => ?_)
      clear hK K
      refine norm_ (a' := ?_) ?_ ?_
      rotate_left
      ·show Act.put _ (some 33) _ = _
       simp only [Act.put, List.setIfInBounds_toArray, List.set_cons_zero, List.set_cons_succ, i64_w, i32_w]
       rfl
      refine one_ (i := 11) (N := some 34) #[true, true, true, true, true, true, true, true, true, true, true, true, false, false, false] rfl rfl (by kernel_rfl) (by decide) (fun K hK => ?_)
      refine Kd.S_append_step (Kd.slice 3 (Kd.int .i64)) (w0 := w0) w0.heap.size (by rfl) (.tmp 27) (.tmp 33) 22 35 (.slice none 0 0) 24 rfl Try.underlying22 info35 rfl (by decide) (by omega) (.slice Af found.length cf) found t [.slice Ao t.length co] (fun k_ => k_ ≠ nb) (fun k_ => some k_ = (.slice Ao t.length co : Value).ownBlock) rfl rfl ?aP ?aK ?aF ?aO ?aB ?aS ?aL ?_
      (case aP => exact Kd.M_row (Kd.R_mono (Kd.R_tight rfl HW.out) (fun _ h_ => h_)))
      (case aK => exact fun k_ hk_ => ⟨fun e_ => (HW.out.1 k_ hk_.symm).2 (by rw [e_]; rfl), ((Kd.R_apart' HW.out (Kd.S_typed ST3.out.fd) (by decide)).1 k_ hk_.symm).2⟩)
      (case aB => exact ST3.out.hb)
      (case aF => exact fun k_ hk e_ => by have := Kd.R_lt ST3.out.rt nb rfl; omega)
      (case aO => exact Kd.S_mono HF.out (fun k_ hk => ⟨hk.1, fun e_ => hk.2 e_⟩))
      (case aS => exact below_size ST3.out.hb)
      (case aL => exact LM.out)
      intro v9 w9 ho hb hg hat
      have BK9 := Aside0.mk (blk_grown ST3.out.bk hg (Kd.S_ne ST3.out.fd ST3.out.bk (by decide)))
      have RT9 := Aside0.mk (Kd.R_over' ST3.out.rt (Kd.S_typed ST3.out.fd) (by decide) hg)
      obtain ⟨Af9, cf9, e9⟩ := Kd.S_slice ho
      subst e9
      have ST9 := Aside0.mk (LookSt.found HBB.out hb rfl ST3.out.cap_ BK9.out RT9.out ho)
      have hcx : w9.cell? ⟨B, 3, none⟩ = some (.slice Af found.length cf) := (blk_cell BK9.out 3).trans rfl
      have hfx := blk_frozen BK9.out 3
      clear ho hb hg hat
      refine hK.out _ _ ⟨(blk_cell BK9.out 2).trans rfl, (blk_cell BK9.out 3).trans rfl⟩ (fun hHeld => ?_)
      clear hK K
      refine norm_ (a' := ?_) ?_ ?_
      rotate_left
      ·show Act.put _ (some 34) _ = _
       simp only [Act.put, List.setIfInBounds_toArray, List.set_cons_zero, List.set_cons_succ, i64_w, i32_w]
       rfl
      refine pure_ (i := 12) (N := some 35) (v := ?_) (a' := ?_) #[true, true, true, true, true, true, true, true, true, true, true, true, true, false, false] rfl rfl (by kernel_rfl) (fun _ _ _ h => h) (Or.inl ⟨by rfl, ?_⟩) ?_ ?_
      rotate_left
      ·intro w'
       go_simp
       with_reducible rfl
      rotate_left
      ·simp only [Act.put, List.setIfInBounds_toArray, List.set_cons_zero, List.set_cons_succ, i64_w, i32_w]
       rfl
      refine pure_ (i := 13) (N := some 36) (v := ?_) (a' := ?_) #[true, true, true, true, true, true, true, true, true, true, true, true, true, true, false] rfl rfl (by kernel_rfl) (fun _ _ _ h => h) (Or.inl ⟨by rfl, ?_⟩) ?_ ?_
      rotate_left
      ·intro w'
       go_simp
       with_reducible rfl
      rotate_left
      ·simp only [Act.put, List.setIfInBounds_toArray, List.set_cons_zero, List.set_cons_succ, i64_w, i32_w]
       rfl
      refine last_ (i := 14) (N := none) #[true, true, true, true, true, true, true, true, true, true, true, true, true, true, true] rfl rfl (by kernel_rfl) (by decide) (fun K hK => ?_)
      refine skip_ (w1 := ?_) (by rfl) rfl ?_ ?_
      rotate_left
      ·go_simp
       rfl
      refine hK.out _ _ ?_
      clear hK K
      refine done_ (by kernel_rfl) ?_
      go_wp2
      first | (refine bodyPost_ret (results_none rfl _ _ _) rfl ?_) | go_end0
      have h9 := ST9.out
      simp only [List.length_append, List.length_cons, List.length_nil, Nat.zero_add] at h9
      exact ⟨rfl, _, _, h9⟩
     ·rw [if_neg c8] at H; cases H
    ·rw [if_neg c2] at H
     have c2b0 : (p == (l.length : Int)) = false := beq_eq_false_iff_ne.mpr c2
     clear c2
     by_cases c3 : p = s
     ·rw [if_pos c3] at H
      have c3b0 : (p == s) = true := beq_iff_eq.mpr c3
      clear c3
      have H' := Aside0.mk H
      clear H
      go_wp2_with (go_at_call 44; refine (IH.out k (by have := HK.out; omega) (wrap64 (p + 1)) rot found Af cf r _ ST.out H'.out).mono ?_; rintro e w2 ⟨rfl, Af2, cf2, st2⟩)
      first | (refine bodyPost_ret (results_none rfl _ _ _) rfl ?_) | go_end0
      exact ⟨rfl, Af2, cf2, st2⟩
     ·rw [if_neg c3] at H
      have c3b0 : (p == s) = false := beq_eq_false_iff_ne.mpr c3
      clear c3
      by_cases c4 : 0 ≤ p
      ·rw [if_pos c4] at H
       by_cases c5 : p < (l.length : Int)
       ·rw [if_pos c5] at H
        have H' := Aside0.mk H
        clear H
        obtain ⟨ad, A1, c1_, e1, hx1, hl1, hi1⟩ := at_L1 HR0.out p c4 c5
        subst e1
        replace hx1 := (ST.out.hb.cell (World.block_lt_of_cell? _ _ hx1)).trans hx1
        replace c4 := eq_true c4
        replace c5 := eq_true c5
        clear hi1
        go_wp2
        go_loopg [56] k (fun kq v56 w' => ∃ (j : Int) (rot' : List Int) (found' : List (List Int)) (Af' : Option Addr) (cf' : Nat), v56 = .int .i64 j ∧ Aside0 (lookF l s most kq (some j) p rot' found' = some r) ∧ Aside0 (kq ≤ k) ∧ Aside0 (LookSt w0 w' B nb n cap c0 (some ad) l.length s most rot' found' Af' cf'))
        case atStart => exact ⟨0, rot, found, Af, cf, rfl, H', ⟨Nat.le_refl _⟩, ST⟩
        case round =>
         clear H' ST hcz0 hcz1 hcz2 hcz3
         obtain ⟨j, rot', found', Af', cf', rfl, HA, HK1, ST⟩ := hrel
         cases gk with
         | zero => exact absurd HA.out (by simp [lookF])
         | succ k1 =>
          have H := HA.out
          clear HA
          simp only [lookF] at H
          have hcz0 : wr.cell? ⟨B, 0, none⟩ = some (.slice (some ad) l.length c0) := (blk_cell ST.out.bk 0).trans rfl
          have hcz2 : wr.cell? ⟨B, 2, none⟩ = some (.slice (some ⟨nb, 0, none⟩) n cap) := (blk_cell ST.out.bk 2).trans rfl
          by_cases c6 : j < ((rd_L1 l p).length : Int)
          ·rw [if_pos c6] at H
           have c6b0 : decide (j < ((rd_L1 l p).length : Int)) = true := decide_eq_true c6
           clear c6
           by_cases c7 : p < (rot'.length : Int)
           ·rw [if_pos c7] at H
            have hcn : p < (n : Int) := by rw [ST.out.hn]; exact c7
            clear c7
            obtain ⟨hx2, hf2⟩ := Kd.R_celln 0 ST.out.rt p (of_eq_true c4) hcn
            replace hcn := eq_true hcn
            replace H := Option.bind_eq_some_iff.mp H
            obtain ⟨b, A80, H⟩ := H
            have A8 := Aside0.mk A80
            clear A80
            have ST2 := Aside0.mk (ST.out.put HNB.out HNE.out p j)
            clear ST
            cases b with
            | true =>
             replace H : lookF l s most k1 (some (wrap64 (j + 1))) p (rot'.set p.toNat j) found' = some r := H
             have H' := Aside0.mk H
             clear H
             go_wp2_with (go_at_call 60; refine (trSearch_loops.calls k1 B c0 cap (some ad) (some ⟨nb, 0, none⟩) l s p (rot'.set p.toNat j) n ST2.out.hn _ most true _ (Kd.C_below HR0.out ST2.out.hb) HC0.out (Kd.R_reads' ST2.out.rt).2.2 (ST2.out.hn ▸ ST2.out.cap_) ST2.out.bk A8.out).mono ?_; rintro e w2 ⟨rfl, hb⟩; have ST3 := Aside0.mk (ST2.out.below hb); clear hb)
             go_roundg k1
             case measure => have := HK1.out; omega
             case rel => exact ⟨_, _, _, _, _, rfl, H', ⟨by have := HK1.out; omega⟩, ST3⟩
            | false =>
             replace H : ((lookF l s most k1 none (wrap64 (p + 1)) (rot'.set p.toNat j) found').bind fun x => lookF l s most k1 (some (wrap64 (j + 1))) p x.1 x.2) = some r := H
             replace H := Option.bind_eq_some_iff.mp H
             obtain ⟨x, A90, H⟩ := H
             have A9 := Aside0.mk A90
             clear A90
             have H' := Aside0.mk H
             clear H
             go_wp2_with (first | (go_at_call 60; refine (trSearch_loops.calls k1 B c0 cap (some ad) (some ⟨nb, 0, none⟩) l s p (rot'.set p.toNat j) n ST2.out.hn _ most false _ (Kd.C_below HR0.out ST2.out.hb) HC0.out (Kd.R_reads' ST2.out.rt).2.2 (ST2.out.hn ▸ ST2.out.cap_) ST2.out.bk A8.out).mono ?_; rintro e w2 ⟨rfl, hb⟩; have ST3 := Aside0.mk (ST2.out.below hb); clear hb) | (go_at_call 44; refine (IH.out k1 (by have := HK.out; have := HK1.out; omega) (wrap64 (p + 1)) _ _ _ _ x _ ST3.out A9.out).mono ?_; rintro e w3 ⟨rfl, Af3, cf3, st3⟩; have ST4 := Aside0.mk st3; clear st3))
             go_roundg k1
             case measure => have := HK1.out; omega
             case rel => exact ⟨_, _, _, _, _, rfl, H', ⟨by have := HK1.out; omega⟩, ST4⟩
           ·rw [if_neg c7] at H; cases H
          ·rw [if_neg c6] at H
           have c6b0 : decide (j < ((rd_L1 l p).length : Int)) = false := decide_eq_false c6
           clear c6
           by_cases c7 : p < (rot'.length : Int)
           ·rw [if_pos c7] at H
            have hcn : p < (n : Int) := by rw [ST.out.hn]; exact c7
            clear c7
            obtain ⟨hx2, hf2⟩ := Kd.R_celln 0 ST.out.rt p (of_eq_true c4) hcn
            replace hcn := eq_true hcn
            obtain rfl := Option.some.inj H
            have ST2 := Aside0.mk (ST.out.put HNB.out HNE.out p 0)
            clear ST
            go_wp2
            first | go_end0 | (refine bodyPost_ret (results_none rfl _ _ _) rfl ?_)
            exact ⟨rfl, _, _, ST2.out⟩
           ·rw [if_neg c7] at H; cases H
       ·rw [if_neg c5] at H; cases H
      ·rw [if_neg c4] at H; cases H

theorem loopsL_mono (g : List (List Int)) (rot : List Int) (s p : Int) : ∀ k q n, LeO (loopsL g rot s p k q n) (loopsL g rot s p (k + 1) q n) := by
 intro k
 induction k with
 | zero => intro q n; exact LeO.none _
 | succ k ih =>
  intro q n
  rw [loopsL.eq_2, loopsL.eq_2]
  refine LeO.ite (LeO.ite (LeO.refl _) (LeO.ite (LeO.refl _) (LeO.bind (LeO.refl _) (fun q2 => LeO.ite (LeO.refl _) (ih _ _))))) (LeO.refl _)
theorem lookF_mono (g : List (List Int)) (s most : Int) : ∀ k m p rot found, LeO (lookF g s most k m p rot found) (lookF g s most (k + 1) m p rot found) := by
 intro k
 induction k with
 | zero => intro m p rot found; exact LeO.none _
 | succ k ih =>
  intro m p rot found
  cases m with
  | none =>
   rw [lookF.eq_2, lookF.eq_2]
   exact LeO.ite (LeO.refl _) (LeO.ite (LeO.refl _) (LeO.ite (ih _ _ _ _) (LeO.ite (LeO.ite (ih _ _ _ _) (LeO.refl _)) (LeO.refl _))))
  | some j =>
   rw [lookF.eq_3, lookF.eq_3]
   exact LeO.ite (LeO.ite (LeO.bind (loopsL_mono _ _ _ _ _ _ _) (fun b => LeO.ite (ih _ _ _ _) (LeO.bind (ih _ _ _ _) (fun x => ih _ _ _ _)))) (LeO.refl _)) (LeO.refl _)
def spec_trAll.f (k : Nat) (l0_0 : List (List Int)) (a1 a2 : Int) : Option (List (List Int)) := if 0 < l0_0.length then (if l0_0.length ≤ 1000 then ((lookF l0_0 a1 a2 k none 0 (List.replicate l0_0.length 0) []).bind fun x => some x.2) else none) else none
theorem spec_trAll.mono : ∀ a0 a1 a2 k, LeO (spec_trAll.f k a0 a1 a2) (spec_trAll.f (k + 1) a0 a1 a2) := by
 intro a0 a1 a2 k
 unfold spec_trAll.f
 exact LeO.ite (LeO.ite (LeO.bind (lookF_mono _ _ _ _ _ _ _ _) (fun _ => LeO.refl _)) (LeO.refl _)) (LeO.refl _)
set_option maxHeartbeats 8000000 in
set_option maxRecDepth 100000 in
theorem spec_trAll.calls (k : Nat) (A0_0 : Option Addr) (c0_0 : Nat) (l0_0 : List (List Int)) (a1 a2 : Int) (r : List (List Int)) (w : World) (hr0_0 : Kd.C (Kd.slice 3 (Kd.int .i64)) w A0_0 l0_0.length l0_0) (hc0_0 : l0_0.length ≤ c0_0) (h : spec_trAll.f k l0_0 a1 a2 = some r) :
  Calls Try.prog 28 #[.agg #[.slice A0_0 l0_0.length c0_0], .int .i64 a1, .int .i64 a2] w fun e w' => ∃ v0_ : Value, e = .returned v0_ ∧ Kd.S (Kd.slice 3 (Kd.int .i64)) 35 w' w.heap.size (fun _ => True) v0_ r ∧ Below w.heap.size w w' := by
 have hu1 := Try.underlying28
 have hu2 := Try.underlying57
 have hu3 := Try.underlying35
 unfold spec_trAll.f at h
 by_cases h1 : 0 < l0_0.length
 ·rw [if_pos h1] at h
  by_cases h2 : l0_0.length ≤ 1000
  ·rw [if_pos h2] at h
   obtain ⟨x, hx, h⟩ := Option.bind_eq_some_iff.mp h
   obtain rfl := Option.some.inj h
   clear h
   have HX := Aside0.mk hx
   have HR := Aside0.mk hr0_0
   have HC := Aside0.mk hc0_0
   have H1 := Aside0.mk h1
   have H2 := Aside0.mk h2
   clear hx hr0_0 hc0_0 h1 h2
   go_enter Try.func28, Try.ntmps28
   go_wp2_with fail
   have hcz : (w.alloc (.cells #[.slice A0_0 l0_0.length c0_0] 28)).drew.cell? ⟨w.heap.size, 0, none⟩ = some (.slice A0_0 l0_0.length c0_0) := by
    exact blk_cell (blk_new w (.cells #[.slice A0_0 l0_0.length c0_0] 28)) 0
   have HB := Aside0.mk (below_drew (below_alloc (Below.refl w.heap.size w) (.cells #[.slice A0_0 l0_0.length c0_0] 28)))
   have BK := Aside0.mk (show (w.alloc (.cells #[.slice A0_0 l0_0.length c0_0] 28)).drew.heap[w.heap.size]? = some (.cells #[.slice A0_0 l0_0.length c0_0] 28 (0, 0)) from blk_new w _)
   refine start_ (n := 10) (S := fun w' => w'.cell? ⟨w.heap.size, 0, none⟩ = some (.slice A0_0 l0_0.length c0_0)) (ds := []) #[false, false, false, false, false, false, false, false, false, false] (by kernel_rfl) rfl rfl hcz (fun hHeld => ?_)
   generalize (w.alloc (.cells #[.slice A0_0 l0_0.length c0_0] 28)).drew = w1 at hHeld BK HB hcz ⊢
   clear hcz
   refine take_ (i := 0) (N := some 8) (v := ?_) (a' := ?_) #[true, false, false, false, false, false, false, false, false, false] rfl rfl (by kernel_rfl) (fun _ _ _ h => h) (Or.inl ⟨by rfl, ?_⟩) hHeld ?_ ?_
   rotate_left
   ·rintro w' s0
    go_simp
    with_reducible rfl
   rotate_left
   ·simp only [Act.put, List.setIfInBounds_toArray, List.set_cons_zero, List.set_cons_succ, i64_w, i32_w]
    rfl
   refine pure_ (i := 1) (N := some 9) (v := ?_) (a' := ?_) #[true, true, false, false, false, false, false, false, false, false] rfl rfl (by kernel_rfl) (fun _ _ _ h => h) (Or.inl ⟨by rfl, ?_⟩) ?_ ?_
   rotate_left
   ·intro w'
    go_simp
    with_reducible rfl
   rotate_left
   ·simp only [Act.put, List.setIfInBounds_toArray, List.set_cons_zero, List.set_cons_succ, i64_w, i32_w]
    rfl
   refine pure_ (i := 2) (N := some 10) (v := ?_) (a' := ?_) #[true, true, true, false, false, false, false, false, false, false] rfl rfl (by kernel_rfl) (fun _ _ _ h => h) (Or.inl ⟨by rfl, ?_⟩) ?_ ?_
   rotate_left
   ·intro w'
    go_simp
    with_reducible rfl
   rotate_left
   ·simp only [Act.put, List.setIfInBounds_toArray, List.set_cons_zero, List.set_cons_succ, i64_w, i32_w]
    rfl
   refine take_ (i := 3) (N := some 11) (v := ?_) (a' := ?_) #[true, true, true, true, false, false, false, false, false, false] rfl rfl (by kernel_rfl) (fun _ _ _ h => h) (Or.inl ⟨by rfl, ?_⟩) hHeld ?_ ?_
   rotate_left
   ·rintro w' s0
    go_simp
    with_reducible rfl
   rotate_left
   ·simp only [Act.put, List.setIfInBounds_toArray, List.set_cons_zero, List.set_cons_succ, i64_w, i32_w]
    rfl
   refine pure_ (i := 4) (N := some 12) (v := ?_) (a' := ?_) #[true, true, true, true, true, false, false, false, false, false] rfl rfl (by kernel_rfl) (fun _ _ _ h => h) (Or.inl ⟨by rfl, ?_⟩) ?_ ?_
   rotate_left
   ·intro w'
    go_simp
    with_reducible rfl
   rotate_left
   ·simp only [Act.put, List.setIfInBounds_toArray, List.set_cons_zero, List.set_cons_succ, i64_w, i32_w]
    rfl
   refine pure_ (i := 6) (N := some 14) (v := ?_) (a' := ?_) #[true, true, true, true, true, false, true, false, false, false] rfl rfl (by kernel_rfl) (fun _ _ _ h => h) (Or.inl ⟨by rfl, ?_⟩) ?_ ?_
   rotate_left
   ·intro w'
    go_simp
    with_reducible rfl
   rotate_left
   ·simp only [Act.put, List.setIfInBounds_toArray, List.set_cons_zero, List.set_cons_succ, i64_w, i32_w]
    rfl
   refine one_ (i := 5) (N := some 13) #[true, true, true, true, true, true, true, false, false, false] rfl rfl (by kernel_rfl) (by decide) (fun K hK => ?_)
   refine Kd.R_make_step (Kd.int .i64) (w0 := w) w.heap.size 3 (by rfl) rfl 35 (.tmp 12) (.tmp 12) rfl (l0_0.length : Int) rfl rfl Try.underlying35 (.int .i64 0) 8 info3 rfl (by decide) (by omega) 0 (ok := fun _ => True) (okp := fun _ => False) rfl (fun _ _ => trivial) trivial (by omega) (by have := H2.out; omega) HB.out (below_size HB.out) ?_
   intro v2 w2 hr2 hb2 hg2 ho2
   rw [Int.toNat_natCast] at hr2
   obtain ⟨nb, cap, e2, hnb, _, _⟩ := Kd.R_form hr2 (by rw [List.length_replicate]; exact H1.out)
   rw [List.length_replicate] at e2
   subst e2
   have HRT := Aside0.mk (Kd.R_mono (ok' := fun k => k = nb) (Kd.R_tight rfl hr2) (fun k hk => by injection hk))
   have HNB := Aside0.mk hnb
   have BK2 := Aside0.mk (blk_grown BK.out hg2 (by simp))
   have HB2 := Aside0.mk hb2
   clear hr2 hb2 hg2 ho2 hnb BK HB
   refine hK.out _ _ ((blk_cell BK2.out 0).trans rfl) (fun hHeld => ?_)
   clear hK K
   refine norm_ (a' := ?_) ?_ ?_
   rotate_left
   ·show Act.put _ (some 13) _ = _
    simp only [Act.put, List.setIfInBounds_toArray, List.set_cons_zero, List.set_cons_succ, i64_w, i32_w]
    rfl
   refine pure_ (i := 7) (N := some 15) (v := ?_) (a' := ?_) #[true, true, true, true, true, true, true, true, false, false] rfl rfl (by kernel_rfl) (fun _ _ _ h => h) (Or.inl ⟨by rfl, ?_⟩) ?_ ?_
   rotate_left
   ·intro w'
    go_simp
    with_reducible rfl
   rotate_left
   ·simp only [Act.put, List.setIfInBounds_toArray, List.set_cons_zero, List.set_cons_succ, i64_w, i32_w]
    rfl
   refine one_ (i := 8) (N := some 16) #[true, true, true, true, true, true, true, true, true, false] rfl rfl (by kernel_rfl) (by decide) (fun K hK => ?_)
   refine value_ (w1 := ?_) (v := ?_) (by rfl) rfl ?_ ?_
   rotate_left 2
   ·go_simp
    constructor
    ·rfl
    ·rfl
   refine hK.out _ _ ((blk_cell (blk_alloc BK2.out _) 0).trans rfl) (fun hHeld => ?_)
   clear hK K
   refine norm_ (a' := ?_) ?_ ?_
   rotate_left
   ·show Act.put _ (some 16) _ = _
    simp only [Act.put, List.setIfInBounds_toArray, List.set_cons_zero, List.set_cons_succ, i64_w, i32_w]
    rfl
   refine pure_ (i := 9) (N := some 7) (v := ?_) (a' := ?_) #[true, true, true, true, true, true, true, true, true, true] rfl rfl (by kernel_rfl) (fun _ _ _ h => h) (Or.inl ⟨by rfl, ?_⟩) ?_ ?_
   rotate_left
   ·intro w'
    go_simp
    with_reducible rfl
   rotate_left
   ·simp only [Act.put, List.setIfInBounds_toArray, List.set_cons_zero, List.set_cons_succ, i64_w, i32_w]
    rfl
   refine done_ (by kernel_rfl) ?_
   have ST := Aside0.mk (show LookSt w (w2.alloc (.cells #[.slice A0_0 l0_0.length c0_0, .int .i64 a1, .slice (some ⟨nb, 0, none⟩) l0_0.length cap, .slice none 0 0, .int .i64 a2] 57)) w2.heap.size nb l0_0.length cap c0_0 A0_0 l0_0.length a1 a2 (List.replicate l0_0.length 0) [] none 0 from
    ⟨below_alloc HB2.out _, by simp, (Kd.R_reads' HRT.out).2.1, blk_new w2 _, Kd.R_alloc HRT.out _, Kd.S_nil _ _ _ _ _⟩)
   have HNE := Aside0.mk (show w2.heap.size ≠ nb from fun e => by have := Kd.R_lt HRT.out nb rfl; omega)
   clear BK2 HRT
   go_wp2_with (go_at_call 44; refine (trSearch_look.calls l0_0 a1 a2 A0_0 c0_0 w2.heap.size nb l0_0.length cap w HR.out HC.out (below_size HB2.out) HNB.out HNE.out k k (Nat.le_refl k) 0 _ _ _ _ x _ ST.out HX.out).mono ?_; rintro e w3 ⟨rfl, Af3, cf3, st3⟩; have hcz3 : w3.cell? ⟨w2.heap.size, 3, none⟩ = some (.slice Af3 x.2.length cf3) := (blk_cell st3.bk 3).trans rfl; have ST3 := Aside0.mk st3; clear st3 ST)
   go_ret
   exact ⟨_, rfl, Kd.S_mono ST3.out.fd (fun _ _ => trivial), ST3.out.hb⟩
  ·rw [if_neg h2] at h; cases h
 ·rw [if_neg h1] at h; cases h



/-! ### spec_AllTrees: function 7 -/
def spec_AllTrees.f (k : Nat) (l0_0 : List (List Int)) (a1 : Int) : Option ((List (List Int)) × Bool) := (spec_grPlace.f k l0_0 a1).bind fun t244 => (if t244 = true then ((spec_trLaplace.f k l0_0 a1).bind fun t245 => ((spec_trDet.f k t245).bind fun t248 => (if t248 > 300 then (some (([] : List (List Int)), false)) else ((spec_trAll.f k l0_0 a1 300).bind fun t249 => (some (t249, true)))))) else (some (([] : List (List Int)), false)))
theorem spec_AllTrees.mono : ∀ a0 a1 k, LeO (spec_AllTrees.f k a0 a1) (spec_AllTrees.f (k + 1) a0 a1) := by
 intro a0 a1 k
 unfold spec_AllTrees.f
 repeat' first
   | (with_reducible exact spec_grPlace.mono _ _ _)
   | (with_reducible exact spec_trAll.mono _ _ _ _)
   | (with_reducible exact spec_trDet.mono _ _)
   | (with_reducible exact spec_trLaplace.mono _ _ _)
   | (with_reducible exact LeO.refl _)
   | (with_reducible exact LeO.none _)
   | (with_reducible refine LeO.ite ?_ ?_)
   | (with_reducible refine LeO.bind ?_ (fun _ => ?_))
   | exact spec_grPlace.mono _ _ _
   | exact spec_trAll.mono _ _ _ _
   | exact spec_trDet.mono _ _
   | exact spec_trLaplace.mono _ _ _
   | exact LeO.none _
   | refine LeO.ite ?_ ?_
   | refine LeO.bind ?_ (fun _ => ?_)
set_option maxHeartbeats 8000000 in
set_option maxRecDepth 100000 in
theorem spec_AllTrees.calls (k : Nat) (A0_0 : Option Addr) (c0_0 : Nat) (l0_0 : List (List Int)) (a1 : Int) (r1 : List (List Int)) (r2 : Bool) (w : World) (hr0_0 : Kd.C (Kd.slice 3 (Kd.int .i64)) w A0_0 l0_0.length l0_0) (hc0_0 : l0_0.length ≤ c0_0) (h : spec_AllTrees.f k l0_0 a1 = some (r1, r2)) :
  Calls Try.prog 7 #[.agg #[.slice A0_0 l0_0.length c0_0], .int .i64 a1] w fun e w' => ∃ v0_ : Value, e = .returned (.tuple #[v0_, .bool r2]) ∧ Kd.S (Kd.slice 3 (Kd.int .i64)) 35 w' w.heap.size (fun _ => True) v0_ r1 ∧ Below w.heap.size w w' := by
 have hu28 := Try.underlying28
 have HR0_0 := Aside0.mk hr0_0
 have HC0_0 := Aside0.mk hc0_0
 clear hr0_0 hc0_0
 have HB := Aside0.mk (Below.refl w.heap.size w)
 have H : ((spec_grPlace.f k l0_0 a1).bind fun t244 => (if t244 = true then ((spec_trLaplace.f k l0_0 a1).bind fun t245 => ((spec_trDet.f k t245).bind fun t248 => (if t248 > 300 then (some (([] : List (List Int)), false)) else ((spec_trAll.f k l0_0 a1 300).bind fun t249 => (some (t249, true)))))) else (some (([] : List (List Int)), false)))) = some (r1, r2) := h
 clear h
 replace H := Option.bind_eq_some_iff.mp H
 obtain ⟨t244, A30, H⟩ := H
 replace H : (if t244 = true then ((spec_trLaplace.f k l0_0 a1).bind fun t245 => ((spec_trDet.f k t245).bind fun t248 => (if t248 > 300 then (some (([] : List (List Int)), false)) else ((spec_trAll.f k l0_0 a1 300).bind fun t249 => (some (t249, true)))))) else (some (([] : List (List Int)), false))) = some (r1, r2) := H
 have A3 := Aside0.mk A30
 clear A30
 by_cases c4 : t244 = true
 ·subst c4
  have H1 : ((spec_trLaplace.f k l0_0 a1).bind fun t245 => ((spec_trDet.f k t245).bind fun t248 => (if t248 > 300 then (some (([] : List (List Int)), false)) else ((spec_trAll.f k l0_0 a1 300).bind fun t249 => (some (t249, true)))))) = some (r1, r2) := by rw [if_pos rfl] at H; exact H
  clear H
  have H := H1
  clear H1
  replace H := Option.bind_eq_some_iff.mp H
  obtain ⟨t245, A50, H⟩ := H
  replace H : ((spec_trDet.f k t245).bind fun t248 => (if t248 > 300 then (some (([] : List (List Int)), false)) else ((spec_trAll.f k l0_0 a1 300).bind fun t249 => (some (t249, true))))) = some (r1, r2) := H
  have A5 := Aside0.mk A50
  clear A50
  replace H := Option.bind_eq_some_iff.mp H
  obtain ⟨t248, A60, H⟩ := H
  replace H : (if t248 > 300 then (some (([] : List (List Int)), false)) else ((spec_trAll.f k l0_0 a1 300).bind fun t249 => (some (t249, true)))) = some (r1, r2) := H
  have A6 := Aside0.mk A60
  clear A60
  by_cases c7 : t248 > 300
  ·rw [if_pos c7] at H
   have c7b0 : decide (300 < t248) = true := decide_eq_true c7
   clear c7
   simp only [Option.some.injEq, Prod.mk.injEq] at H
   obtain ⟨rfl, rfl⟩ := H
   go_enter Try.func7, Try.ntmps7
   go_wp2_with (first | ((with_reducible refine gate_dst (N := 2) rfl ?_); refine box_event ?hg (N := 2) ?hd (cs := #[.slice A0_0 l0_0.length c0_0]) (t := 28) ?hr ?_; (case hd => rfl); (case hg => rfl); (case hr => first | (go_simp; done) | (go_simp; rfl)); intro gb243 hg w8 hbox hb; have n0_ := Aside0.mk (below_step (by repeat (first | (with_reducible first | exact HB.out | apply below_alloc | apply pw_below_drewN | apply below_drew1) | exact HB.out)) hb); have n1_ := Aside0.mk (hbox); have n2_ := Aside0.mk ((by rw [hg]; exact (below_size (by repeat (first | (with_reducible first | exact HB.out | apply below_alloc | apply pw_below_drewN | apply below_drew1) | exact HB.out))) : w.heap.size ≤ gb243)); have n3_ := Aside0.mk ((by rw [hg]; exact (below_size (by repeat (first | (with_reducible first | exact HB.out | apply below_alloc | apply pw_below_drewN | apply below_drew1) | exact HB.out))) : w.heap.size ≤ gb243)); clear HB; have HB := n0_; have BK243 := n1_; have GW243 := n2_; have GE243 := n3_; clear n0_ n1_ n2_ n3_; clear hb hbox hg; have hcz9_0 : w8.cell? ⟨gb243, 0, none⟩ = some (.slice A0_0 l0_0.length c0_0) := (blk_cell BK243.out 0).trans rfl; have hfz9_0 := blk_frozen BK243.out 0) | ((with_reducible refine gate_callee (f := 25) rfl ?_); refine goesL_ (some 8) rfl rfl Try.func25 (by kernel_rfl) rfl #[.agg #[.slice A0_0 l0_0.length c0_0], .int .i64 a1] rfl (by (try simp only [List.map_toArray, List.map_cons, List.map_nil]); first | done | rfl | (simp only [List.length_drop, List.length_take]; rfl)) ?_; (with_reducible refine (spec_grPlace.calls k _ _ l0_0 a1 true _ ?side1 ?side2 A3.out).mono ?_); (case side1 => repeat (first | exact (Kd.C_below HR0_0.out HB.out) | (with_reducible refine Kd.C_alloc ?_ _) | (with_reducible refine Kd.C_drewN ?_ _) | (with_reducible refine Kd.C_drew ?_))); (case side2 => exact HC0_0.out); rintro e w10 ⟨rfl, hb⟩; refine ⟨_, rfl, ?_⟩; have n0_ := Aside0.mk (blk_below (g := gb243) (o := .cells #[.slice A0_0 l0_0.length c0_0] 28 (0, 0)) (by (with_reducible repeat (first | refine blk_drewN ?_ _ | refine blk_drew ?_ | refine blk_alloc ?_ _)); exact BK243.out) hb); have n1_ := Aside0.mk (below_step (by repeat (first | (with_reducible first | exact HB.out | apply below_alloc | apply pw_below_drewN | apply below_drew1 | refine below_set ?_ GE243.out) | exact HB.out)) hb); clear BK243; clear HB; have BK243 := n0_; have HB := n1_; clear n0_ n1_; (try clear hb); (try clear hb2); (try clear hk); (try clear hi); have hcz11_0 : w10.cell? ⟨gb243, 0, none⟩ = some (.slice A0_0 l0_0.length c0_0) := (blk_cell BK243.out 0).trans rfl; have hfz11_0 := blk_frozen BK243.out 0) | (go_at_call 27; (with_reducible refine (spec_trLaplace.calls k _ _ l0_0 a1 t245 _ ?side1 ?side2 A5.out).mono ?_); (case side1 => repeat (first | exact (Kd.C_below HR0_0.out HB.out) | (with_reducible refine Kd.C_alloc ?_ _) | (with_reducible refine Kd.C_drewN ?_ _) | (with_reducible refine Kd.C_drew ?_))); (case side2 => exact HC0_0.out); rintro e w12 ⟨v246, rfl, ho0, hb⟩; have n0_ := Aside0.mk (Kd.S_lower ho0 (below_size (by repeat (first | (with_reducible first | exact HB.out | apply below_alloc | apply pw_below_drewN | apply below_drew1 | refine below_set ?_ GE243.out) | exact HB.out)))); have n1_ := Aside0.mk (blk_below (g := gb243) (o := .cells #[.slice A0_0 l0_0.length c0_0] 28 (0, 0)) (by (with_reducible repeat (first | refine blk_drewN ?_ _ | refine blk_drew ?_ | refine blk_alloc ?_ _)); exact BK243.out) hb); have n2_ := Aside0.mk (below_step (by repeat (first | (with_reducible first | exact HB.out | apply below_alloc | apply pw_below_drewN | apply below_drew1 | refine below_set ?_ GE243.out) | exact HB.out)) hb); clear BK243; clear HB; have HO247 := n0_; have BK243 := n1_; have HB := n2_; clear n0_ n1_ n2_; (try clear hb); (try clear hb2); (try clear hk); (try clear hi); (try clear ho0); obtain ⟨Ao13, co13, eo13⟩ := Kd.S_slice HO247.out; subst eo13) | (go_at_call 26; (with_reducible refine (spec_trDet.calls k _ _ t245 t248 _ ?side1 ?side2 A6.out).mono ?_); (case side1 => repeat (first | exact (Kd.S_reads' HO247.out).2.2 | (with_reducible refine Kd.C_alloc ?_ _) | (with_reducible refine Kd.C_drewN ?_ _) | (with_reducible refine Kd.C_drew ?_))); (case side2 => exact (Kd.S_reads' HO247.out).2.1); rintro e w14 ⟨rfl, hb⟩; have n0_ := Aside0.mk (Kd.S_below (by (with_reducible repeat (first | apply Kd.S_alloc | apply Kd.S_drewN | apply Kd.S_drew)); exact HO247.out) hb); have n1_ := Aside0.mk (blk_below (g := gb243) (o := .cells #[.slice A0_0 l0_0.length c0_0] 28 (0, 0)) (by (with_reducible repeat (first | refine blk_drewN ?_ _ | refine blk_drew ?_ | refine blk_alloc ?_ _)); exact BK243.out) hb); have n2_ := Aside0.mk (below_step (by repeat (first | (with_reducible first | exact HB.out | apply below_alloc | apply pw_below_drewN | apply below_drew1 | refine below_set ?_ GE243.out) | exact HB.out)) hb); clear HO247; clear BK243; clear HB; have HO247 := n0_; have BK243 := n1_; have HB := n2_; clear n0_ n1_ n2_; (try clear hb); (try clear hb2); (try clear hk); (try clear hi)))
   go_ret2
   exact ⟨_, by first | rfl | (simp [errW_none, errW_some] <;> rfl) | (simp [*, errW_none, errW_some] <;> rfl), by first | exact Kd.S_nil _ _ _ _ _ | exact Kd.N_nil _ _ _ _ _ | exact Kd.V_nil _ _ _ _ _ | exact Kd.Q_nil _ _ _ _ _ | exact Kd.R_nil _ _ _ _ _, by repeat (first | (with_reducible first | exact HB.out | apply below_alloc | apply pw_below_drewN | apply below_drew1 | refine below_set ?_ GE243.out) | exact HB.out)⟩
  ·rw [if_neg c7] at H
   have c7b0 : decide (300 < t248) = false := decide_eq_false c7
   clear c7
   replace H := Option.bind_eq_some_iff.mp H
   obtain ⟨t249, A150, H⟩ := H
   replace H : (some (t249, true)) = some (r1, r2) := H
   have A15 := Aside0.mk A150
   clear A150
   simp only [Option.some.injEq, Prod.mk.injEq] at H
   obtain ⟨rfl, rfl⟩ := H
   go_enter Try.func7, Try.ntmps7
   go_wp2_with (first | ((with_reducible refine gate_dst (N := 2) rfl ?_); refine box_event ?hg (N := 2) ?hd (cs := #[.slice A0_0 l0_0.length c0_0]) (t := 28) ?hr ?_; (case hd => rfl); (case hg => rfl); (case hr => first | (go_simp; done) | (go_simp; rfl)); intro gb243 hg w16 hbox hb; have n0_ := Aside0.mk (below_step (by repeat (first | (with_reducible first | exact HB.out | apply below_alloc | apply pw_below_drewN | apply below_drew1) | exact HB.out)) hb); have n1_ := Aside0.mk (hbox); have n2_ := Aside0.mk ((by rw [hg]; exact (below_size (by repeat (first | (with_reducible first | exact HB.out | apply below_alloc | apply pw_below_drewN | apply below_drew1) | exact HB.out))) : w.heap.size ≤ gb243)); have n3_ := Aside0.mk ((by rw [hg]; exact (below_size (by repeat (first | (with_reducible first | exact HB.out | apply below_alloc | apply pw_below_drewN | apply below_drew1) | exact HB.out))) : w.heap.size ≤ gb243)); clear HB; have HB := n0_; have BK243 := n1_; have GW243 := n2_; have GE243 := n3_; clear n0_ n1_ n2_ n3_; clear hb hbox hg; have hcz17_0 : w16.cell? ⟨gb243, 0, none⟩ = some (.slice A0_0 l0_0.length c0_0) := (blk_cell BK243.out 0).trans rfl; have hfz17_0 := blk_frozen BK243.out 0) | ((with_reducible refine gate_callee (f := 25) rfl ?_); refine goesL_ (some 8) rfl rfl Try.func25 (by kernel_rfl) rfl #[.agg #[.slice A0_0 l0_0.length c0_0], .int .i64 a1] rfl (by (try simp only [List.map_toArray, List.map_cons, List.map_nil]); first | done | rfl | (simp only [List.length_drop, List.length_take]; rfl)) ?_; (with_reducible refine (spec_grPlace.calls k _ _ l0_0 a1 true _ ?side1 ?side2 A3.out).mono ?_); (case side1 => repeat (first | exact (Kd.C_below HR0_0.out HB.out) | (with_reducible refine Kd.C_alloc ?_ _) | (with_reducible refine Kd.C_drewN ?_ _) | (with_reducible refine Kd.C_drew ?_))); (case side2 => exact HC0_0.out); rintro e w18 ⟨rfl, hb⟩; refine ⟨_, rfl, ?_⟩; have n0_ := Aside0.mk (blk_below (g := gb243) (o := .cells #[.slice A0_0 l0_0.length c0_0] 28 (0, 0)) (by (with_reducible repeat (first | refine blk_drewN ?_ _ | refine blk_drew ?_ | refine blk_alloc ?_ _)); exact BK243.out) hb); have n1_ := Aside0.mk (below_step (by repeat (first | (with_reducible first | exact HB.out | apply below_alloc | apply pw_below_drewN | apply below_drew1 | refine below_set ?_ GE243.out) | exact HB.out)) hb); clear BK243; clear HB; have BK243 := n0_; have HB := n1_; clear n0_ n1_; (try clear hb); (try clear hb2); (try clear hk); (try clear hi); have hcz19_0 : w18.cell? ⟨gb243, 0, none⟩ = some (.slice A0_0 l0_0.length c0_0) := (blk_cell BK243.out 0).trans rfl; have hfz19_0 := blk_frozen BK243.out 0) | (go_at_call 27; (with_reducible refine (spec_trLaplace.calls k _ _ l0_0 a1 t245 _ ?side1 ?side2 A5.out).mono ?_); (case side1 => repeat (first | exact (Kd.C_below HR0_0.out HB.out) | (with_reducible refine Kd.C_alloc ?_ _) | (with_reducible refine Kd.C_drewN ?_ _) | (with_reducible refine Kd.C_drew ?_))); (case side2 => exact HC0_0.out); rintro e w20 ⟨v246, rfl, ho0, hb⟩; have n0_ := Aside0.mk (Kd.S_lower ho0 (below_size (by repeat (first | (with_reducible first | exact HB.out | apply below_alloc | apply pw_below_drewN | apply below_drew1 | refine below_set ?_ GE243.out) | exact HB.out)))); have n1_ := Aside0.mk (blk_below (g := gb243) (o := .cells #[.slice A0_0 l0_0.length c0_0] 28 (0, 0)) (by (with_reducible repeat (first | refine blk_drewN ?_ _ | refine blk_drew ?_ | refine blk_alloc ?_ _)); exact BK243.out) hb); have n2_ := Aside0.mk (below_step (by repeat (first | (with_reducible first | exact HB.out | apply below_alloc | apply pw_below_drewN | apply below_drew1 | refine below_set ?_ GE243.out) | exact HB.out)) hb); clear BK243; clear HB; have HO247 := n0_; have BK243 := n1_; have HB := n2_; clear n0_ n1_ n2_; (try clear hb); (try clear hb2); (try clear hk); (try clear hi); (try clear ho0); obtain ⟨Ao21, co21, eo21⟩ := Kd.S_slice HO247.out; subst eo21) | (go_at_call 26; (with_reducible refine (spec_trDet.calls k _ _ t245 t248 _ ?side1 ?side2 A6.out).mono ?_); (case side1 => repeat (first | exact (Kd.S_reads' HO247.out).2.2 | (with_reducible refine Kd.C_alloc ?_ _) | (with_reducible refine Kd.C_drewN ?_ _) | (with_reducible refine Kd.C_drew ?_))); (case side2 => exact (Kd.S_reads' HO247.out).2.1); rintro e w22 ⟨rfl, hb⟩; have n0_ := Aside0.mk (Kd.S_below (by (with_reducible repeat (first | apply Kd.S_alloc | apply Kd.S_drewN | apply Kd.S_drew)); exact HO247.out) hb); have n1_ := Aside0.mk (blk_below (g := gb243) (o := .cells #[.slice A0_0 l0_0.length c0_0] 28 (0, 0)) (by (with_reducible repeat (first | refine blk_drewN ?_ _ | refine blk_drew ?_ | refine blk_alloc ?_ _)); exact BK243.out) hb); have n2_ := Aside0.mk (below_step (by repeat (first | (with_reducible first | exact HB.out | apply below_alloc | apply pw_below_drewN | apply below_drew1 | refine below_set ?_ GE243.out) | exact HB.out)) hb); clear HO247; clear BK243; clear HB; have HO247 := n0_; have BK243 := n1_; have HB := n2_; clear n0_ n1_ n2_; (try clear hb); (try clear hb2); (try clear hk); (try clear hi); have hcz23_0 : w22.cell? ⟨gb243, 0, none⟩ = some (.slice A0_0 l0_0.length c0_0) := (blk_cell BK243.out 0).trans rfl; have hfz23_0 := blk_frozen BK243.out 0) | ((with_reducible refine gate_callee (f := 28) rfl ?_); refine goesL_ (some 19) rfl rfl Try.func28 (by kernel_rfl) rfl #[.agg #[.slice A0_0 l0_0.length c0_0], .int .i64 a1, .int .i64 300] rfl (by (try simp only [List.map_toArray, List.map_cons, List.map_nil]); first | done | rfl | (simp only [List.length_drop, List.length_take]; rfl)) ?_; (with_reducible refine (spec_trAll.calls k _ _ l0_0 a1 300 t249 _ ?side1 ?side2 A15.out).mono ?_); (case side1 => repeat (first | exact (Kd.C_below HR0_0.out HB.out) | (with_reducible refine Kd.C_alloc ?_ _) | (with_reducible refine Kd.C_drewN ?_ _) | (with_reducible refine Kd.C_drew ?_))); (case side2 => exact HC0_0.out); rintro e w24 ⟨v250, rfl, ho0, hb⟩; refine ⟨_, rfl, ?_⟩; have n0_ := Aside0.mk (Kd.S_elder' (by (with_reducible repeat (first | apply Kd.S_alloc | apply Kd.S_drewN | apply Kd.S_drew)); exact HO247.out) (Kd.S_base ho0) hb); have n1_ := Aside0.mk (Kd.S_lower (Kd.S_new' ho0 (Kd.S_lt (by (with_reducible repeat (first | apply Kd.S_alloc | apply Kd.S_drewN | apply Kd.S_drew)); exact HO247.out))) (below_size (by repeat (first | (with_reducible first | exact HB.out | apply below_alloc | apply pw_below_drewN | apply below_drew1 | refine below_set ?_ GE243.out) | exact HB.out)))); have n2_ := Aside0.mk (blk_below (g := gb243) (o := .cells #[.slice A0_0 l0_0.length c0_0] 28 (0, 0)) (by (with_reducible repeat (first | refine blk_drewN ?_ _ | refine blk_drew ?_ | refine blk_alloc ?_ _)); exact BK243.out) hb); have n3_ := Aside0.mk (below_step (by repeat (first | (with_reducible first | exact HB.out | apply below_alloc | apply pw_below_drewN | apply below_drew1 | refine below_set ?_ GE243.out) | exact HB.out)) hb); clear HO247; clear BK243; clear HB; have HO247 := n0_; have HO251 := n1_; have BK243 := n2_; have HB := n3_; clear n0_ n1_ n2_ n3_; (try clear hb); (try clear hb2); (try clear hk); (try clear hi); (try clear ho0)))
   go_ret2
   exact ⟨_, by first | rfl | (simp [errW_none, errW_some] <;> rfl) | (simp [*, errW_none, errW_some] <;> rfl), by (with_reducible repeat (first | apply Kd.S_alloc | apply Kd.S_drewN | apply Kd.S_drew)); exact Kd.S_mono HO251.out (fun _ hk => trivial), by repeat (first | (with_reducible first | exact HB.out | apply below_alloc | apply pw_below_drewN | apply below_drew1 | refine below_set ?_ GE243.out) | exact HB.out)⟩
 ·replace c4 := Bool.eq_false_iff.mpr c4
  subst c4
  have H1 : (some (([] : List (List Int)), false)) = some (r1, r2) := by rw [if_neg (show ¬ (false = true) by decide)] at H; exact H
  clear H
  have H := H1
  clear H1
  simp only [Option.some.injEq, Prod.mk.injEq] at H
  obtain ⟨rfl, rfl⟩ := H
  go_enter Try.func7, Try.ntmps7
  go_wp2_with (first | ((with_reducible refine gate_dst (N := 2) rfl ?_); refine box_event ?hg (N := 2) ?hd (cs := #[.slice A0_0 l0_0.length c0_0]) (t := 28) ?hr ?_; (case hd => rfl); (case hg => rfl); (case hr => first | (go_simp; done) | (go_simp; rfl)); intro gb243 hg w25 hbox hb; have n0_ := Aside0.mk (below_step (by repeat (first | (with_reducible first | exact HB.out | apply below_alloc | apply pw_below_drewN | apply below_drew1) | exact HB.out)) hb); have n1_ := Aside0.mk (hbox); have n2_ := Aside0.mk ((by rw [hg]; exact (below_size (by repeat (first | (with_reducible first | exact HB.out | apply below_alloc | apply pw_below_drewN | apply below_drew1) | exact HB.out))) : w.heap.size ≤ gb243)); have n3_ := Aside0.mk ((by rw [hg]; exact (below_size (by repeat (first | (with_reducible first | exact HB.out | apply below_alloc | apply pw_below_drewN | apply below_drew1) | exact HB.out))) : w.heap.size ≤ gb243)); clear HB; have HB := n0_; have BK243 := n1_; have GW243 := n2_; have GE243 := n3_; clear n0_ n1_ n2_ n3_; clear hb hbox hg; have hcz26_0 : w25.cell? ⟨gb243, 0, none⟩ = some (.slice A0_0 l0_0.length c0_0) := (blk_cell BK243.out 0).trans rfl; have hfz26_0 := blk_frozen BK243.out 0) | ((with_reducible refine gate_callee (f := 25) rfl ?_); refine goesL_ (some 8) rfl rfl Try.func25 (by kernel_rfl) rfl #[.agg #[.slice A0_0 l0_0.length c0_0], .int .i64 a1] rfl (by (try simp only [List.map_toArray, List.map_cons, List.map_nil]); first | done | rfl | (simp only [List.length_drop, List.length_take]; rfl)) ?_; (with_reducible refine (spec_grPlace.calls k _ _ l0_0 a1 false _ ?side1 ?side2 A3.out).mono ?_); (case side1 => repeat (first | exact (Kd.C_below HR0_0.out HB.out) | (with_reducible refine Kd.C_alloc ?_ _) | (with_reducible refine Kd.C_drewN ?_ _) | (with_reducible refine Kd.C_drew ?_))); (case side2 => exact HC0_0.out); rintro e w27 ⟨rfl, hb⟩; refine ⟨_, rfl, ?_⟩; have n0_ := Aside0.mk (blk_below (g := gb243) (o := .cells #[.slice A0_0 l0_0.length c0_0] 28 (0, 0)) (by (with_reducible repeat (first | refine blk_drewN ?_ _ | refine blk_drew ?_ | refine blk_alloc ?_ _)); exact BK243.out) hb); have n1_ := Aside0.mk (below_step (by repeat (first | (with_reducible first | exact HB.out | apply below_alloc | apply pw_below_drewN | apply below_drew1 | refine below_set ?_ GE243.out) | exact HB.out)) hb); clear BK243; clear HB; have BK243 := n0_; have HB := n1_; clear n0_ n1_; (try clear hb); (try clear hb2); (try clear hk); (try clear hi)))
  go_ret2
  exact ⟨_, by first | rfl | (simp [errW_none, errW_some] <;> rfl) | (simp [*, errW_none, errW_some] <;> rfl), by first | exact Kd.S_nil _ _ _ _ _ | exact Kd.N_nil _ _ _ _ _ | exact Kd.V_nil _ _ _ _ _ | exact Kd.Q_nil _ _ _ _ _ | exact Kd.R_nil _ _ _ _ _, by repeat (first | (with_reducible first | exact HB.out | apply below_alloc | apply pw_below_drewN | apply below_drew1 | refine below_set ?_ GE243.out) | exact HB.out)⟩

end Go.Proofs.Ythjkhbfaenidpaa.P
namespace Go.Proofs.Ythjkhbfaenidpaa.In
open Go.RowKit Go.Proofs.YthjkhbfaenidpaaW.PrintWords Go.Proofs.YthjkhbfaenidpaaW.PrintLast Go.Proofs.YthjkhbfaenidpaaW.PrintMore
set_option linter.unusedVariables false
/-- A row of numbers, as the reading of an argument tells it. -/
theorem in_ints {w : World} {A : Option Addr} {L C : Nat} {zs : List Int} (hl : L ≤ C) (hm : C ≤ maxLen) (hz : zs.length = C) (hn : A = none → C = 0) (hc : ∀ a', A = some a' → ∀ c, c < C → w.cell? (a'.add c) = some (.int .i64 (zs.getD c 0))) :
    Kd.C (Kd.int .i64) w A (zs.take L).length (zs.take L) := by
  have hlen : (zs.take L).length = L := by rw [List.length_take]; omega
  refine ⟨rfl, by rw [hlen]; unfold maxLen at hm; omega, fun h => ?_⟩
  rw [hlen] at h
  cases A with
  | none => have := hn rfl; omega
  | some a =>
    refine ⟨a, rfl, fun j p hj => ⟨[.int .i64 p], rfl, rfl, fun i u hi => ?_⟩⟩
    have hi0 : i = 0 := by
      cases i with
      | zero => rfl
      | succ i => simp at hi
    subst hi0
    obtain rfl := Option.some.inj hi
    show w.cell? (a.add (j * 1 + 0)) = _
    rw [List.getElem?_take] at hj
    split at hj
    · rename_i hjl
      have h2 : zs.getD j 0 = p := by rw [List.getD_eq_getElem?_getD, hj]; rfl
      rw [Nat.mul_one, Nat.add_zero, hc a rfl j (by omega), h2]
    · cases hj
/-- Rows of numbers. -/
theorem in_rows {w : World} {q : Nat} {a : Addr} {len cap : Nat} {A : Nat → Option Addr} {L C : Nat → Nat} {Z : Nat → List Int} (hl : len ≤ cap) (hm : cap ≤ maxLen)
    (h : ∀ r, r < cap → w.cell? (a.add r) = some (.slice (A r) (L r) (C r)) ∧ L r ≤ C r ∧ C r ≤ maxLen ∧ (Z r).length = C r ∧ (∀ n ∈ Z r, (Lit.int .i64 n).wf = true) ∧ (A r = none → C r = 0) ∧ ∀ a', A r = some a' → ∀ c, c < C r → w.cell? (a'.add c) = some (.int .i64 ((Z r).getD c 0))) :
    ∃ ll : List (List Int), len = ll.length ∧ Kd.C (Kd.slice q (Kd.int .i64)) w (some a) ll.length ll ∧ (∀ row ∈ ll, row.length ≤ maxLen ∧ ∀ x ∈ row, (Lit.int .i64 x).wf = true) := by
  refine ⟨(List.range len).map fun r => (Z r).take (L r), by simp, ⟨by simp, by simp; unfold maxLen at hm; omega, fun _ => ⟨a, rfl, fun j p hj => ?_⟩⟩, fun row hrow => ?_⟩
  · rw [List.getElem?_map] at hj
    have hjl : j < len := by
      rcases Nat.lt_or_ge j len with h1 | h1
      · exact h1
      · rw [List.getElem?_eq_none (by simpa using h1)] at hj; cases hj
    rw [List.getElem?_range hjl] at hj
    simp at hj
    subst hj
    obtain ⟨h1, h2, h3, h4, h5, h6, h7⟩ := h j (by omega)
    have hlen : ((Z j).take (L j)).length = L j := by rw [List.length_take]; omega
    refine ⟨[.slice (A j) ((Z j).take (L j)).length (C j)], rfl, ⟨A j, C j, rfl, by omega, in_ints h2 h3 h4 h6 h7⟩, fun i u hi => ?_⟩
    have hi0 : i = 0 := by
      cases i with
      | zero => rfl
      | succ i => simp at hi
    subst hi0
    obtain rfl := Option.some.inj hi
    show w.cell? (a.add (j * 1 + 0)) = _
    rw [Nat.mul_one, Nat.add_zero, h1, hlen]
  · simp only [List.mem_map, List.mem_range] at hrow
    obtain ⟨r, hr, rfl⟩ := hrow
    obtain ⟨h1, h2, h3, h4, h5, h6, h7⟩ := h r (by omega)
    exact ⟨by rw [List.length_take]; omega, fun x hx => h5 x (List.mem_of_mem_take hx)⟩
section
variable {H : Type} {enc : TypeId × Value → H} {P : Program} {w : World} {base : Nat} {held : Bool}
open Go.ChangeShapes Go.WideShapes Go.Deep in
/-- Rows of numbers, in a cell. -/
theorem in_rows_cell {t e q : TypeId} {fuel : Nat} {cs : List Value} {x : DataW H × List MemPlace} (ht : P.underlying t = some (.slice e)) (he : P.underlying e = some (.slice q)) (hq : P.underlying q = some (.int .i64))
    (ce : P.cellsOf e = 1) (cq : P.cellsOf q = 1) (h : DataW.trod enc P w base (fun _ => true) held fuel t cs = some x) :
    ∃ (A : Option Addr) (ll : List (List Int)) (cap : Nat), cs = [.slice A ll.length cap] ∧ ll.length ≤ cap ∧ Kd.C (Kd.slice q (Kd.int .i64)) w A ll.length ll ∧ (∀ row ∈ ll, row.length ≤ maxLen ∧ ∀ x ∈ row, (Lit.int .i64 x).wf = true) := by
  rcases open_int_rows ht he hq ce cq h with ⟨rfl, _⟩ | ⟨a, len, cap, A, L, C, Z, rfl, _, hl, hm, _, hr⟩
  · exact ⟨none, [], 0, rfl, Nat.le_refl _, Kd.C_nil _ _, by simp⟩
  · obtain ⟨ll, rfl, hc, hw⟩ := in_rows (q := q) hl hm (fun r hr' => by
      obtain ⟨h1, h2, h3, h4, h5, h6, h7⟩ := hr r hr'
      exact ⟨h1, h2, h3, h4, h5, h6, fun a' ha c hc => (h7 a' ha).2 c hc⟩)
    exact ⟨some a, ll, cap, rfl, hl, hc, hw⟩
open Go.ChangeShapes Go.WideShapes Go.Deep in
/-- Numbers, in a cell. -/
theorem in_ints_cell {t q : TypeId} {fuel : Nat} {cs : List Value} {x : DataW H × List MemPlace} (ht : P.underlying t = some (.slice q)) (hq : P.underlying q = some (.int .i64))
    (cq : P.cellsOf q = 1) (h : DataW.trod enc P w base (fun _ => true) held fuel t cs = some x) :
    ∃ (A : Option Addr) (l : List Int) (cap : Nat), cs = [.slice A l.length cap] ∧ l.length ≤ cap ∧ Kd.C (Kd.int .i64) w A l.length l ∧ (l.length ≤ maxLen ∧ ∀ x ∈ l, (Lit.int .i64 x).wf = true) := by
  rcases open_ints ht hq cq h with ⟨rfl, _⟩ | ⟨a, len, cap, zs, rfl, _, hl, hm, hz, _, hc, hw⟩
  · exact ⟨none, [], 0, rfl, Nat.le_refl _, Kd.C_nil _ _, by simp⟩
  · simp only [if_true] at hz
    have hlen : (zs.take len).length = len := by rw [List.length_take]; omega
    refine ⟨some a, zs.take len, cap, by rw [hlen], by omega, in_ints hl hm hz (fun e => by cases e) (fun a' e c hlt => by cases e; exact hc c (by omega)), by omega, fun x hx => hw x (List.mem_of_mem_take hx)⟩
theorem array1 {α : Type} {cs : Array α} (h : cs.size = 1) : ∃ c0, cs = #[c0] := by
  obtain ⟨l⟩ := cs
  match l, h with
  | [c0], _ => exact ⟨c0, rfl⟩
open Go.ChangeShapes Go.WideShapes Go.Deep in
/-- A struct of one field: rows of numbers. -/
theorem in_graph {r : Reach} {b0 : Nat} {t ts te q : TypeId} {f0 : Field} {v : Value} {d : DataW H} {p : List MemPlace} (hs : P.underlying t = some (.struct #[f0])) (hone : oneCellFields P #[f0] = true) (hC : P.cellsOf t = 1) (hf0 : f0.type = ts)
    (ht : P.underlying ts = some (.slice te)) (he : P.underlying te = some (.slice q)) (hq : P.underlying q = some (.int .i64)) (ce : P.cellsOf te = 1) (cq : P.cellsOf q = 1) (hv : Value.okWide P w r b0 t v) (h : DataW.Trod enc P w base (fun _ => true) held t v d p) :
    ∃ (A : Option Addr) (ll : List (List Int)) (cap : Nat), v = .agg #[.slice A ll.length cap] ∧ ll.length ≤ cap ∧ Kd.C (Kd.slice q (Kd.int .i64)) w A ll.length ll ∧ (∀ row ∈ ll, row.length ≤ maxLen ∧ ∀ x ∈ row, (Lit.int .i64 x).wf = true) := by
  subst hf0
  obtain ⟨cs, rfl, hsz⟩ := okWide_struct hs hv
  obtain ⟨c0, rfl⟩ := array1 (hsz.trans hC)
  obtain ⟨fuel, hf⟩ := h
  obtain ⟨y0, n, hx, _, h0⟩ := trod_struct1 hs hf
  obtain ⟨o0, k0⟩ := hone_of hone 0 f0 rfl
  obtain ⟨A, ll, cap, hcs, h1, h2, h3⟩ := in_rows_cell ht he hq ce cq h0
  simp [Value.cells, o0, k0] at hcs
  subst hcs
  exact ⟨A, ll, cap, rfl, h1, h2, h3⟩
end
section
variable {H : Type} {enc : TypeId × Value → H} {P : Program} {w : World} {base : Nat} {held : Bool}
open Go.ChangeShapes Go.WideShapes Go.Deep in
/-- A struct of numbers and a number. -/
theorem in_walk {r : Reach} {b0 : Nat} {t ts q tx : TypeId} {f0 f1 : Field} {v : Value} {d : DataW H} {p : List MemPlace} (hs : P.underlying t = some (.struct #[f0, f1])) (hone : oneCellFields P #[f0, f1] = true) (hC : P.cellsOf t = 2) (hf0 : f0.type = ts) (hf1 : f1.type = tx)
    (ht : P.underlying ts = some (.slice q)) (hq : P.underlying q = some (.int .i64)) (hx : P.underlying tx = some (.int .i64)) (cq : P.cellsOf q = 1) (hv : Value.okWide P w r b0 t v) (h : DataW.Trod enc P w base (fun _ => true) held t v d p) :
    ∃ (A : Option Addr) (l : List Int) (cap : Nat) (x : Int), v = .agg #[.slice A l.length cap, .int .i64 x] ∧ l.length ≤ cap ∧ Kd.C (Kd.int .i64) w A l.length l ∧ (l.length ≤ maxLen ∧ ∀ y ∈ l, (Lit.int .i64 y).wf = true) ∧ (Lit.int .i64 x).wf = true := by
  subst hf0 hf1
  obtain ⟨v0, v1, y0, y1, n, rfl, _, _, h0, h1⟩ := Go.Joins.open_agg2 hs hone hC hv h
  obtain ⟨A, l, cap, hcs, hl, hc, hw⟩ := in_ints_cell ht hq cq h0
  simp only [List.cons.injEq, and_true] at hcs
  subst hcs
  obtain ⟨x, hxs, _, hxw⟩ := DataW.trod_int hx h1
  simp only [List.cons.injEq, and_true] at hxs
  subst hxs
  exact ⟨A, l, cap, x, rfl, hl, hc, hw, hxw⟩
open Go.ChangeShapes Go.WideShapes Go.Deep in
/-- A struct of numbers and numbers. -/
theorem in_load {r : Reach} {b0 : Nat} {t ts q : TypeId} {f0 f1 : Field} {v : Value} {d : DataW H} {p : List MemPlace} (hs : P.underlying t = some (.struct #[f0, f1])) (hone : oneCellFields P #[f0, f1] = true) (hC : P.cellsOf t = 2) (hf0 : f0.type = ts) (hf1 : f1.type = ts)
    (ht : P.underlying ts = some (.slice q)) (hq : P.underlying q = some (.int .i64)) (cq : P.cellsOf q = 1) (hv : Value.okWide P w r b0 t v) (h : DataW.Trod enc P w base (fun _ => true) held t v d p) :
    ∃ (A : Option Addr) (l : List Int) (cap : Nat) (B : Option Addr) (m : List Int) (bcap : Nat), v = .agg #[.slice A l.length cap, .slice B m.length bcap] ∧ l.length ≤ cap ∧ Kd.C (Kd.int .i64) w A l.length l ∧ (l.length ≤ maxLen ∧ ∀ y ∈ l, (Lit.int .i64 y).wf = true) ∧ m.length ≤ bcap ∧ Kd.C (Kd.int .i64) w B m.length m ∧ (m.length ≤ maxLen ∧ ∀ y ∈ m, (Lit.int .i64 y).wf = true) := by
  subst hf0
  obtain ⟨v0, v1, y0, y1, n, rfl, _, _, h0, h1⟩ := Go.Joins.open_agg2 hs hone hC hv h
  obtain ⟨A, l, cap, hcs, hl, hc, hw⟩ := in_ints_cell ht hq cq h0
  simp only [List.cons.injEq, and_true] at hcs
  subst hcs
  rw [hf1] at h1
  obtain ⟨B, m, bcap, hcs, hm, hd, hx⟩ := in_ints_cell ht hq cq h1
  simp only [List.cons.injEq, and_true] at hcs
  subst hcs
  exact ⟨A, l, cap, B, m, bcap, rfl, hl, hc, hw, hm, hd, hx⟩
open Go.ChangeShapes Go.WideShapes Go.Deep in
theorem in_slice {r : Reach} {b0 : Nat} {t q : TypeId} {v : Value} {d : DataW H} {p : List MemPlace} (ht : P.underlying t = some (.slice q)) (hq : P.underlying q = some (.int .i64)) (cq : P.cellsOf q = 1) (hv : Value.okWide P w r b0 t v) (h : DataW.Trod enc P w base (fun _ => true) held t v d p) :
    ∃ (A : Option Addr) (l : List Int) (cap : Nat), v = .slice A l.length cap ∧ l.length ≤ cap ∧ Kd.C (Kd.int .i64) w A l.length l ∧ (l.length ≤ maxLen ∧ ∀ y ∈ l, (Lit.int .i64 y).wf = true) := by
  obtain ⟨A0, n0, c0, rfl⟩ := okWide_slice ht hv
  obtain ⟨fuel, hf⟩ := h
  obtain ⟨A, l, cap, hcs, hl, hc, hw⟩ := in_ints_cell ht hq cq hf
  simp [Value.cells] at hcs
  obtain ⟨rfl, rfl, rfl⟩ := hcs
  exact ⟨_, l, _, rfl, hl, hc, hw⟩
open Go.ChangeShapes Go.WideShapes Go.Deep in
theorem in_slices {r : Reach} {b0 : Nat} {t e q : TypeId} {v : Value} {d : DataW H} {p : List MemPlace} (ht : P.underlying t = some (.slice e)) (he : P.underlying e = some (.slice q)) (hq : P.underlying q = some (.int .i64)) (ce : P.cellsOf e = 1) (cq : P.cellsOf q = 1) (hv : Value.okWide P w r b0 t v) (h : DataW.Trod enc P w base (fun _ => true) held t v d p) :
    ∃ (A : Option Addr) (ll : List (List Int)) (cap : Nat), v = .slice A ll.length cap ∧ ll.length ≤ cap ∧ Kd.C (Kd.slice q (Kd.int .i64)) w A ll.length ll ∧ (∀ row ∈ ll, row.length ≤ maxLen ∧ ∀ x ∈ row, (Lit.int .i64 x).wf = true) := by
  obtain ⟨A0, n0, c0, rfl⟩ := okWide_slice ht hv
  obtain ⟨fuel, hf⟩ := h
  obtain ⟨A, ll, cap, hcs, hl, hc, hw⟩ := in_rows_cell ht he hq ce cq hf
  simp [Value.cells] at hcs
  obtain ⟨rfl, rfl, rfl⟩ := hcs
  exact ⟨_, ll, _, rfl, hl, hc, hw⟩
end
/-! What an argument's numbers are like. -/
def okI (x : Int) : Prop := -9223372036854775808 ≤ x ∧ x ≤ 9223372036854775807
def okIs (l : List Int) : Prop := l.length ≤ 9223372036854775807 ∧ ∀ x ∈ l, okI x
def okSS (ll : List (List Int)) : Prop := ll.length ≤ 9223372036854775807 ∧ ∀ row ∈ ll, okIs row
theorem okI_wf {x : Int} (h : (Lit.int .i64 x).wf = true) : okI x := by
  simp only [Lit.wf, Bool.and_eq_true, decide_eq_true_eq] at h
  exact h
theorem okIs_wf {l : List Int} (h : l.length ≤ maxLen ∧ ∀ x ∈ l, (Lit.int .i64 x).wf = true) : okIs l := ⟨h.1, fun x hx => okI_wf (h.2 x hx)⟩
theorem okSS_wf {w : World} {q : Nat} {A : Option Addr} {ll : List (List Int)} (hc : Kd.C (Kd.slice q (Kd.int .i64)) w A ll.length ll) (h : ∀ row ∈ ll, row.length ≤ maxLen ∧ ∀ x ∈ row, (Lit.int .i64 x).wf = true) : okSS ll := ⟨hc.2.1, fun row hr => okIs_wf (h row hr)⟩

end Go.Proofs.Ythjkhbfaenidpaa.In
namespace Go.Proofs.Ythjkhbfaenidpaa.M
open Go.RowKit Go.Proofs.Ythjkhbfaenidpaa.P Go.Proofs.Ythjkhbfaenidpaa.In Go.Proofs.YthjkhbfaenidpaaW.PrintWords Go.Proofs.YthjkhbfaenidpaaW.PrintLast
set_option linter.unusedVariables false
set_option linter.unusedSimpArgs false
theorem ev_kept {w wc W w' : World} {S : Nat → Prop} {s : Nat} (hs : s ≤ wc.heap.size) (hB : Below w.heap.size w wc) (hb : Below W.heap.size W w') (hk : Kept wc W S) : Kept wc w' S ∧ s ≤ W.heap.size ∧ W.heap.size ≤ w'.heap.size ∧ w.heap.size ≤ W.heap.size :=
 ⟨hk.below hb, Nat.le_trans hs hk.1, hb.size, Nat.le_trans hB.size hk.1⟩
theorem ev_mark {wc W w' : World} {S : Nat → Prop} {s : Nat} (hs : s ≤ wc.heap.size) (hm : Kept W w' S) (hk : Kept wc W S) : Kept wc w' S ∧ s ≤ w'.heap.size :=
 ⟨hk.then_ hm (fun _ h => .inl h), Nat.le_trans hs (Nat.le_trans hk.1 hm.1)⟩
theorem S_new {α : Type} {d : Kd α} {e : Nat} {W w' : World} {v : Value} {r : List α} {b0 s : Nat} (h : Kd.S d e w' W.heap.size (fun _ => True) v r) (hb : W.heap.size ≤ w'.heap.size) (h0 : b0 ≤ W.heap.size) (hs : s ≤ W.heap.size) :
  ∃ lo hi, s ≤ lo ∧ lo ≤ hi ∧ hi ≤ w'.heap.size ∧ Kd.S d e w' b0 (fun k => lo ≤ k ∧ k < hi) v r :=
 ⟨W.heap.size, w'.heap.size, hs, hb, Nat.le_refl _, Kd.S_lower (Kd.S_mono (Kd.S_bound h) (fun _ hk => ⟨hk.2.1, hk.2.2.1⟩)) h0⟩
theorem R_new {α : Type} {d : Kd α} {e : Nat} {W w' : World} {v : Value} {r : List α} {b0 s : Nat} (h : Kd.R d e w' W.heap.size (fun _ => True) v r) (hb : W.heap.size ≤ w'.heap.size) (h0 : b0 ≤ W.heap.size) (hs : s ≤ W.heap.size) :
  ∃ lo hi, s ≤ lo ∧ lo ≤ hi ∧ hi ≤ w'.heap.size ∧ Kd.R d e w' b0 (fun k => lo ≤ k ∧ k < hi) v r :=
 ⟨W.heap.size, w'.heap.size, hs, hb, Nat.le_refl _, Kd.R_lower (Kd.R_mono (Kd.R_bound h) (fun _ hk => ⟨hk.2.1, hk.2.2.1⟩)) h0⟩
theorem Q_new {α : Type} {d : Kd α} {e : Nat} {W w' : World} {v : Value} {r : List α} {b0 s : Nat} (h : Kd.Q d e w' W.heap.size (fun _ => True) v r) (hb : W.heap.size ≤ w'.heap.size) (h0 : b0 ≤ W.heap.size) (hs : s ≤ W.heap.size) :
  ∃ lo hi, s ≤ lo ∧ lo ≤ hi ∧ hi ≤ w'.heap.size ∧ Kd.Q d e w' b0 (fun k => lo ≤ k ∧ k < hi) v r :=
 ⟨W.heap.size, w'.heap.size, hs, hb, Nat.le_refl _, Kd.Q_lower (Kd.Q_mono (Kd.Q_bound h) (fun _ hk => ⟨hk.2.1, hk.2.2.1⟩)) h0⟩
theorem Q_now {α : Type} {d : Kd α} {e base : Nat} {wc W : World} {ok S : Nat → Prop} {A : Option Addr} {c : Nat} {xs : List α} (h : Kd.Q d e wc base ok (.slice A xs.length c) xs) (hk : Kept wc W S) (hne : ∀ k, ok k → ¬ S k) : Kd.C d W A xs.length xs :=
 (Kd.Q_reads' (Kd.Q_kept h hk hne)).2.2
theorem S_now {α : Type} {d : Kd α} {e base : Nat} {wc W : World} {ok S : Nat → Prop} {A : Option Addr} {c : Nat} {xs : List α} (h : Kd.S d e wc base ok (.slice A xs.length c) xs) (hk : Kept wc W S) (hne : ∀ k, ok k → ¬ S k) : Kd.C d W A xs.length xs :=
 (Kd.S_reads' (Kd.S_kept h hk hne)).2.2
theorem R_now {α : Type} {d : Kd α} {e base : Nat} {wc W : World} {ok S : Nat → Prop} {A : Option Addr} {c : Nat} {xs : List α} (h : Kd.R d e wc base ok (.slice A xs.length c) xs) (hk : Kept wc W S) (hne : ∀ k, ok k → ¬ S k) : Kd.C d W A xs.length xs :=
 (Kd.R_reads' (Kd.R_kept h hk hne)).2.2
theorem F_at {α : Type} {d : Kd α} {wc W : World} {ok S : Nat → Prop} {A : Option Addr} {n : Nat} {xs : List α} (h : Kd.F d wc ok A n xs) (hk : Kept wc W S) (hne : ∀ k, ok k → ¬ S k) : Kd.C d W A n xs :=
 Kd.F_now (Kd.F_kept h hk hne)
theorem box_in {w : World} {g : Nat} {o : Obj} (h : w.heap[g]? = some o) : g + 1 ≤ w.heap.size := blk_lt h
theorem calls_len {P : Program} {n : FuncId} {args args' : Array Value} {w : World} {Q : Ending → World → Prop} (e : args = args') (h : Calls P n args' w Q) : Calls P n args w Q := e ▸ h
end Go.Proofs.Ythjkhbfaenidpaa.M
namespace Go.Proofs.Ythjkhbfaenidpaa.P
open Go.RowKit Go.Proofs.YthjkhbfaenidpaaW.PrintWords Go.Proofs.YthjkhbfaenidpaaW.PrintLast Go.Proofs.YthjkhbfaenidpaaW.PrintMore Go.Proofs.Ythjkhbfaenidpaa.M
attribute [local go_sem] max2_int min2_int max_two min_two max_three min_three max_four min_four   -- for this text's walks alone
set_option linter.unusedVariables false
set_option linter.unusedSimpArgs false

/-- What the calls on the straight way answer. -/
def laws_FnExactAllTrees.Good (l0_0 : List (List Int)) (a1 : Int) : Prop :=
 ∃ x4 : Int, Ev (fun k => laws_szGraph.f k l0_0 1048576) x4 ∧ (0 ≤ x4 → Ev (fun k => laws_toGraph.f k l0_0) l0_0 ∧ ∃ x15 : List (List Int), ∃ x16 : Bool, Ev (fun k => spec_AllTrees.f k l0_0 a1) (x15, x16) ∧ Ev (fun k => impl_AllTrees.f k l0_0 a1) (x15, x16) ∧ Ev (fun k => laws_eqIntSS.f k x15 x15) true ∧ Ev (fun k => laws_eqGraph.f k l0_0 l0_0) true ∧ ∃ x54 : Int, ∃ x55 : List (List Int), Ev (fun k => laws_markGraph.f k l0_0 1) (x54, x55) ∧ 0 ≤ x54 ∧ ∃ x60 : Int, ∃ x61 : List (List Int), Ev (fun k => laws_markIntSS.f k x15 1) (x60, x61) ∧ 0 ≤ x60 ∧ Ev (fun k => laws_heldIntSS.f k x61 1) x60 ∧ True)
open Classical in
noncomputable def laws_FnExactAllTrees.f (l0_0 : List (List Int)) (a1 : Int) : Option Bool := if laws_FnExactAllTrees.Good l0_0 a1 then some true else none
set_option maxHeartbeats 16000000 in
set_option maxRecDepth 100000 in
theorem laws_FnExactAllTrees.calls (A0_0 : Option Addr) (c0_0 : Nat) (l0_0 : List (List Int)) (a1 : Int) (r : Bool) (w : World) (hr0_0 : Kd.C (Kd.slice 3 (Kd.int .i64)) w A0_0 l0_0.length l0_0) (hc0_0 : l0_0.length ≤ c0_0) (h : laws_FnExactAllTrees.f l0_0 a1 = some r) :
  Calls Try.prog 3 #[.agg #[.slice A0_0 l0_0.length c0_0], .int .i64 a1] w fun e w' => e = .returned (.bool r) ∧ Below w.heap.size w w' := by
 unfold laws_FnExactAllTrees.f at h
 by_cases hg : laws_FnExactAllTrees.Good l0_0 a1
 case neg => rw [if_neg hg] at h; cases h
 rw [if_pos hg] at h
 obtain rfl := Option.some.inj h
 clear h
 unfold laws_FnExactAllTrees.Good at hg
 have hu24 := Try.underlying24
 have hu28 := Try.underlying28
 obtain ⟨s0, hs0⟩ : ∃ s0, s0 = w.heap.size := ⟨_, rfl⟩
 have HS := Aside0.mk (Nat.le_of_eq hs0)
 have CH := Aside0.mk True.intro
 have HB := Aside0.mk (Below.refl w.heap.size w)
 have FA0_0 := Aside0.mk (show Kd.F (Kd.slice 3 (Kd.int .i64)) w (fun k_ => k_ < s0) A0_0 l0_0.length l0_0 by rw [hs0]; exact Kd.C_F (Kd.heap_slice 3 (Kd.heap_int .i64)) hr0_0)
 have HC0_0 := Aside0.mk hc0_0
 clear hr0_0 hc0_0
 clear hs0
 obtain ⟨x4, hg⟩ := hg
 obtain ⟨E_, hg⟩ := hg
 obtain ⟨KE5, E_⟩ := E_
 have E5 := Aside0.mk (E_ KE5 (Nat.le_refl _))
 clear E_
 by_cases hz : x4 < 0
 ·have hzb : decide (x4 < 0) = true := decide_eq_true hz
  clear hg hz
  go_enter Try.func3, Try.ntmps3
  go_wp2_with (first | ((with_reducible refine gate_dst (N := 2) rfl ?_); refine box_event ?hg (N := 2) ?hd (cs := #[.slice A0_0 l0_0.length c0_0]) (t := 24) ?hr ?_; (case hd => rfl); (case hg => rfl); (case hr => first | (go_simp; done) | (go_simp; rfl)); intro gb1 hg_ w2 hbox_ hb_; obtain ⟨hk_, hs1_, hs2_, hw0_⟩ := ev_kept (S := (fun _ => False)) HS.out HB.out hb_ (by repeat (first | (with_reducible first | exact Kept.refl _ _ | apply Kept.alloc | apply Kept.drewN | apply Kept.drew) | exact Kept.refl _ _)); have hw_ : w.heap.size ≤ gb1 := (by rw [hg_]; exact hw0_); have hB_ := below_step (by repeat (first | (with_reducible first | exact HB.out | apply below_alloc | apply pw_below_drewN | apply below_drew1) | exact HB.out)) hb_; have n0_ := Aside0.mk (Kd.F_kept FA0_0.out hk_ (fun _ _ hs_ => hs_.elim)); have hS_ : s0 ≤ gb1 := (by rw [hg_]; exact hs1_); have nb_ := Aside0.mk hbox_; have ns_ := Aside0.mk (box_in hbox_); have nc_ := Aside0.mk (And.intro hS_ CH.out); have ng_ := Aside0.mk hw_; have nB_ := Aside0.mk hB_; clear HB HS CH FA0_0; have FA0_0 := n0_; have HB := nB_; have HS := ns_; have CH := nc_; have BKgb1 := nb_; have GEgb1 := ng_; clear nB_ ns_ nc_ nb_ ng_ n0_; clear hk_ hs1_ hs2_ hw_ hw0_ hB_ hS_ hb_ hbox_ hg_; have hczgb1_0 : w2.cell? ⟨gb1, 0, none⟩ = some (.slice A0_0 l0_0.length c0_0) := (blk_cell BKgb1.out 0).trans rfl; have hfzgb1_0 := blk_frozen BKgb1.out 0) | ((with_reducible refine gate_callee (f := 6) rfl ?_); refine goesL_ (some 18) rfl rfl Try.func6 (by kernel_rfl) rfl #[.agg #[.slice A0_0 l0_0.length c0_0], .int .i64 1048576] rfl (by (try simp only [List.map_toArray, List.map_cons, List.map_nil]); first | done | rfl | (simp only [List.length_drop, List.length_take]; rfl)) ?_; (with_reducible refine (laws_szGraph.calls KE5 _ _ l0_0 1048576 x4 _ ?sidehr0_0 ?sidehc0_0 E5.out).mono ?_); (case sidehr0_0 => exact F_at (S := (fun _ => False)) FA0_0.out (by repeat (first | (with_reducible first | exact Kept.refl _ _ | apply Kept.alloc | apply Kept.drewN | apply Kept.drew) | exact Kept.refl _ _)) (fun _ _ hs_ => hs_.elim)); (case sidehc0_0 => exact HC0_0.out); rintro e w3 ⟨rfl, hb_⟩; refine ⟨_, rfl, ?_⟩; (try clear hczgb1_0); (try clear hfzgb1_0); obtain ⟨hk_, hs1_, hs2_, hw_⟩ := ev_kept (S := (fun _ => False)) HS.out HB.out hb_ (by repeat (first | (with_reducible first | exact Kept.refl _ _ | apply Kept.alloc | apply Kept.drewN | apply Kept.drew) | exact Kept.refl _ _)); have hB_ := below_step (by repeat (first | (with_reducible first | exact HB.out | apply below_alloc | apply pw_below_drewN | apply below_drew1 | refine below_set ?_ GEgb1.out) | exact HB.out)) hb_; have n0_ := Aside0.mk (Kd.F_kept FA0_0.out hk_ (fun _ _ hs_ => hs_.elim)); have n1_ := Aside0.mk (blk_below (g := gb1) (o := .cells #[.slice A0_0 l0_0.length c0_0] 24 (0, 0)) (by (with_reducible repeat (first | refine blk_drewN ?_ _ | refine blk_drew ?_ | refine blk_alloc ?_ _)); exact BKgb1.out) hb_); have ns_ := Aside0.mk (Nat.le_trans (Nat.le_trans hs1_ hs2_) (Nat.le_refl _)); have nB_ := Aside0.mk hB_; clear HB HS FA0_0 BKgb1; have FA0_0 := n0_; have BKgb1 := n1_; have HB := nB_; have HS := ns_; clear nB_ ns_ n0_ n1_; clear hk_ hs1_ hs2_ hw_ hB_ hb_; have hczgb1_0 : w3.cell? ⟨gb1, 0, none⟩ = some (.slice A0_0 l0_0.length c0_0) := (blk_cell BKgb1.out 0).trans rfl; have hfzgb1_0 := blk_frozen BKgb1.out 0))
  go_ret
  exact ⟨by first | rfl | (simp; done), by repeat (first | (with_reducible first | exact HB.out | apply below_alloc | apply pw_below_drewN | apply below_drew1 | refine below_set ?_ GEgb1.out | refine below_set ?_ GEgb31.out) | exact HB.out)⟩
 have hg := hg (by omega)
 have hzx4 : decide (x4 < 0) = false := decide_eq_false hz
 clear hz
 obtain ⟨E_, hg⟩ := hg
 obtain ⟨KE7, E_⟩ := E_
 have E7 := Aside0.mk (E_ KE7 (Nat.le_refl _))
 clear E_
 obtain ⟨x15, hg⟩ := hg
 obtain ⟨x16, hg⟩ := hg
 obtain ⟨E_, hg⟩ := hg
 obtain ⟨KE17, E_⟩ := E_
 have E17 := Aside0.mk (E_ KE17 (Nat.le_refl _))
 clear E_
 obtain ⟨E_, hg⟩ := hg
 obtain ⟨KE34, E_⟩ := E_
 have E34 := Aside0.mk (E_ KE34 (Nat.le_refl _))
 clear E_
 obtain ⟨E_, hg⟩ := hg
 obtain ⟨KE42, E_⟩ := E_
 have E42 := Aside0.mk (E_ KE42 (Nat.le_refl _))
 clear E_
 obtain ⟨E_, hg⟩ := hg
 obtain ⟨KE52, E_⟩ := E_
 have E52 := Aside0.mk (E_ KE52 (Nat.le_refl _))
 clear E_
 obtain ⟨x54, hg⟩ := hg
 obtain ⟨x55, hg⟩ := hg
 obtain ⟨E_, hg⟩ := hg
 obtain ⟨KE56, E_⟩ := E_
 have E56 := Aside0.mk (E_ KE56 (Nat.le_refl _))
 clear E_
 obtain ⟨hpx54, hg⟩ := hg
 have hnx54 : decide (x54 < 0) = false := decide_eq_false (by omega)
 have hex54 : (x54 != x54) = false := bne_self_eq_false _
 have hdx54 : decide (x54 = x54) = true := decide_eq_true rfl
 clear hpx54
 obtain ⟨x60, hg⟩ := hg
 obtain ⟨x61, hg⟩ := hg
 obtain ⟨E_, hg⟩ := hg
 obtain ⟨KE62, E_⟩ := E_
 have E62 := Aside0.mk (E_ KE62 (Nat.le_refl _))
 clear E_
 obtain ⟨hpx60, hg⟩ := hg
 have hnx60 : decide (x60 < 0) = false := decide_eq_false (by omega)
 have hex60 : (x60 != x60) = false := bne_self_eq_false _
 have hdx60 : decide (x60 = x60) = true := decide_eq_true rfl
 clear hpx60
 obtain ⟨E_, hg⟩ := hg
 obtain ⟨KE65, E_⟩ := E_
 have E65 := Aside0.mk (E_ KE65 (Nat.le_refl _))
 clear E_
 clear hg
 have hbx16 : (x16 != x16) = false := bne_self_eq_false _
 have hdx16 : (x16 == x16) = true := beq_self_eq_true _
 go_enter Try.func3, Try.ntmps3
 go_wp2_with (first | ((with_reducible refine gate_dst (N := 2) rfl ?_); refine box_event ?hg (N := 2) ?hd (cs := #[.slice A0_0 l0_0.length c0_0]) (t := 24) ?hr ?_; (case hd => rfl); (case hg => rfl); (case hr => first | (go_simp; done) | (go_simp; rfl)); intro gb1 hg_ w2 hbox_ hb_; obtain ⟨hk_, hs1_, hs2_, hw0_⟩ := ev_kept (S := (fun _ => False)) HS.out HB.out hb_ (by repeat (first | (with_reducible first | exact Kept.refl _ _ | apply Kept.alloc | apply Kept.drewN | apply Kept.drew) | exact Kept.refl _ _)); have hw_ : w.heap.size ≤ gb1 := (by rw [hg_]; exact hw0_); have hB_ := below_step (by repeat (first | (with_reducible first | exact HB.out | apply below_alloc | apply pw_below_drewN | apply below_drew1) | exact HB.out)) hb_; have n0_ := Aside0.mk (Kd.F_kept FA0_0.out hk_ (fun _ _ hs_ => hs_.elim)); have hS_ : s0 ≤ gb1 := (by rw [hg_]; exact hs1_); have nb_ := Aside0.mk hbox_; have ns_ := Aside0.mk (box_in hbox_); have nc_ := Aside0.mk (And.intro hS_ CH.out); have ng_ := Aside0.mk hw_; have nB_ := Aside0.mk hB_; clear HB HS CH FA0_0; have FA0_0 := n0_; have HB := nB_; have HS := ns_; have CH := nc_; have BKgb1 := nb_; have GEgb1 := ng_; clear nB_ ns_ nc_ nb_ ng_ n0_; clear hk_ hs1_ hs2_ hw_ hw0_ hB_ hS_ hb_ hbox_ hg_; have hczgb1_0 : w2.cell? ⟨gb1, 0, none⟩ = some (.slice A0_0 l0_0.length c0_0) := (blk_cell BKgb1.out 0).trans rfl; have hfzgb1_0 := blk_frozen BKgb1.out 0) | ((with_reducible refine gate_callee (f := 6) rfl ?_); refine goesL_ (some 18) rfl rfl Try.func6 (by kernel_rfl) rfl #[.agg #[.slice A0_0 l0_0.length c0_0], .int .i64 1048576] rfl (by (try simp only [List.map_toArray, List.map_cons, List.map_nil]); first | done | rfl | (simp only [List.length_drop, List.length_take]; rfl)) ?_; (with_reducible refine (laws_szGraph.calls KE5 _ _ l0_0 1048576 x4 _ ?sidehr0_0 ?sidehc0_0 E5.out).mono ?_); (case sidehr0_0 => exact F_at (S := (fun _ => False)) FA0_0.out (by repeat (first | (with_reducible first | exact Kept.refl _ _ | apply Kept.alloc | apply Kept.drewN | apply Kept.drew) | exact Kept.refl _ _)) (fun _ _ hs_ => hs_.elim)); (case sidehc0_0 => exact HC0_0.out); rintro e w3 ⟨rfl, hb_⟩; refine ⟨_, rfl, ?_⟩; (try clear hczgb1_0); (try clear hfzgb1_0); obtain ⟨hk_, hs1_, hs2_, hw_⟩ := ev_kept (S := (fun _ => False)) HS.out HB.out hb_ (by repeat (first | (with_reducible first | exact Kept.refl _ _ | apply Kept.alloc | apply Kept.drewN | apply Kept.drew) | exact Kept.refl _ _)); have hB_ := below_step (by repeat (first | (with_reducible first | exact HB.out | apply below_alloc | apply pw_below_drewN | apply below_drew1 | refine below_set ?_ GEgb1.out) | exact HB.out)) hb_; have n0_ := Aside0.mk (Kd.F_kept FA0_0.out hk_ (fun _ _ hs_ => hs_.elim)); have n1_ := Aside0.mk (blk_below (g := gb1) (o := .cells #[.slice A0_0 l0_0.length c0_0] 24 (0, 0)) (by (with_reducible repeat (first | refine blk_drewN ?_ _ | refine blk_drew ?_ | refine blk_alloc ?_ _)); exact BKgb1.out) hb_); have ns_ := Aside0.mk (Nat.le_trans (Nat.le_trans hs1_ hs2_) (Nat.le_refl _)); have nB_ := Aside0.mk hB_; clear HB HS FA0_0 BKgb1; have FA0_0 := n0_; have BKgb1 := n1_; have HB := nB_; have HS := ns_; clear nB_ ns_ n0_ n1_; clear hk_ hs1_ hs2_ hw_ hB_ hb_; have hczgb1_0 : w3.cell? ⟨gb1, 0, none⟩ = some (.slice A0_0 l0_0.length c0_0) := (blk_cell BKgb1.out 0).trans rfl; have hfzgb1_0 := blk_frozen BKgb1.out 0) | ((with_reducible refine gate_callee (f := 8) rfl ?_); refine goesL_ (some 23) rfl rfl Try.func8 (by kernel_rfl) rfl #[.agg #[.slice A0_0 l0_0.length c0_0]] rfl (by (try simp only [List.map_toArray, List.map_cons, List.map_nil]); first | done | rfl | (simp only [List.length_drop, List.length_take]; rfl)) ?_; (with_reducible refine (laws_toGraph.calls KE7 _ _ l0_0 l0_0 _ ?sidehr0_0 ?sidehc0_0 E7.out).mono ?_); (case sidehr0_0 => exact F_at (S := (fun _ => False)) FA0_0.out (by repeat (first | (with_reducible first | exact Kept.refl _ _ | apply Kept.alloc | apply Kept.drewN | apply Kept.drew) | exact Kept.refl _ _)) (fun _ _ hs_ => hs_.elim)); (case sidehc0_0 => exact HC0_0.out); rintro e w6 ⟨v8, rfl, hov0__, hb_⟩; refine ⟨_, rfl, ?_⟩; (try clear hczgb1_0); (try clear hfzgb1_0); obtain ⟨hk_, hs1_, hs2_, hw_⟩ := ev_kept (S := (fun _ => False)) HS.out HB.out hb_ (by repeat (first | (with_reducible first | exact Kept.refl _ _ | apply Kept.alloc | apply Kept.drewN | apply Kept.drew) | exact Kept.refl _ _)); have hB_ := below_step (by repeat (first | (with_reducible first | exact HB.out | apply below_alloc | apply pw_below_drewN | apply below_drew1 | refine below_set ?_ GEgb1.out) | exact HB.out)) hb_; have n0_ := Aside0.mk (Kd.F_kept FA0_0.out hk_ (fun _ _ hs_ => hs_.elim)); have n1_ := Aside0.mk (blk_below (g := gb1) (o := .cells #[.slice A0_0 l0_0.length c0_0] 24 (0, 0)) (by (with_reducible repeat (first | refine blk_drewN ?_ _ | refine blk_drew ?_ | refine blk_alloc ?_ _)); exact BKgb1.out) hb_); have ns_ := Aside0.mk (Nat.le_trans (Nat.le_trans hs1_ hs2_) (Nat.le_refl _)); have nB_ := Aside0.mk hB_; obtain ⟨lo9, hi10, c1_, c2_, c3_, h_⟩ := S_new hov0__ hs2_ hw_ hs1_; have HS11 := Aside0.mk h_; obtain ⟨Ao12, co13, eo_⟩ := Kd.S_slice HS11.out; subst eo_; have HCHS11 := Aside0.mk (Kd.S_reads' HS11.out).2.1; clear h_ hov0__; have nc_ := Aside0.mk (And.intro c1_ (And.intro c2_ CH.out)); clear CH ns_; have CH := nc_; have ns_ := Aside0.mk c3_; clear nc_ c1_ c2_ c3_; clear HB HS FA0_0 BKgb1; have FA0_0 := n0_; have BKgb1 := n1_; have HB := nB_; have HS := ns_; clear nB_ ns_ n0_ n1_; clear hk_ hs1_ hs2_ hw_ hB_ hb_; have hczgb1_0 : w6.cell? ⟨gb1, 0, none⟩ = some (.slice A0_0 l0_0.length c0_0) := (blk_cell BKgb1.out 0).trans rfl; have hfzgb1_0 := blk_frozen BKgb1.out 0) | ((with_reducible refine gate_callee (f := 7) rfl ?_); refine goesL_ (some 25) rfl rfl Try.func7 (by kernel_rfl) rfl #[.agg #[.slice Ao12 l0_0.length co13], .int .i64 a1] rfl (by (try simp only [List.map_toArray, List.map_cons, List.map_nil]); first | done | rfl | (simp only [List.length_drop, List.length_take]; rfl)) ?_; (with_reducible refine (spec_AllTrees.calls KE17 _ _ l0_0 a1 x15 x16 _ ?sidehr0_0 ?sidehc0_0 E17.out).mono ?_); (case sidehr0_0 => exact S_now (S := (fun _ => False)) HS11.out (by repeat (first | (with_reducible first | exact Kept.refl _ _ | apply Kept.alloc | apply Kept.drewN | apply Kept.drew) | exact Kept.refl _ _)) (fun _ _ hs_ => hs_.elim)); (case sidehc0_0 => exact HCHS11.out); rintro e w14 ⟨v18, rfl, hov0__, hb_⟩; refine ⟨_, rfl, ?_⟩; (try clear hczgb1_0); (try clear hfzgb1_0); obtain ⟨hk_, hs1_, hs2_, hw_⟩ := ev_kept (S := (fun _ => False)) HS.out HB.out hb_ (by repeat (first | (with_reducible first | exact Kept.refl _ _ | apply Kept.alloc | apply Kept.drewN | apply Kept.drew) | exact Kept.refl _ _)); have hB_ := below_step (by repeat (first | (with_reducible first | exact HB.out | apply below_alloc | apply pw_below_drewN | apply below_drew1 | refine below_set ?_ GEgb1.out) | exact HB.out)) hb_; have n0_ := Aside0.mk (Kd.F_kept FA0_0.out hk_ (fun _ _ hs_ => hs_.elim)); have n1_ := Aside0.mk (blk_below (g := gb1) (o := .cells #[.slice A0_0 l0_0.length c0_0] 24 (0, 0)) (by (with_reducible repeat (first | refine blk_drewN ?_ _ | refine blk_drew ?_ | refine blk_alloc ?_ _)); exact BKgb1.out) hb_); have n2_ := Aside0.mk (Kd.S_kept HS11.out hk_ (fun _ _ hs_ => hs_.elim)); have ns_ := Aside0.mk (Nat.le_trans (Nat.le_trans hs1_ hs2_) (Nat.le_refl _)); have nB_ := Aside0.mk hB_; obtain ⟨lo19, hi20, c1_, c2_, c3_, h_⟩ := S_new hov0__ hs2_ hw_ hs1_; have HS21 := Aside0.mk h_; obtain ⟨Ao22, co23, eo_⟩ := Kd.S_slice HS21.out; subst eo_; have HCHS21 := Aside0.mk (Kd.S_reads' HS21.out).2.1; clear h_ hov0__; have nc_ := Aside0.mk (And.intro c1_ (And.intro c2_ CH.out)); clear CH ns_; have CH := nc_; have ns_ := Aside0.mk c3_; clear nc_ c1_ c2_ c3_; clear HB HS FA0_0 BKgb1 HS11; have FA0_0 := n0_; have BKgb1 := n1_; have HS11 := n2_; have HB := nB_; have HS := ns_; clear nB_ ns_ n0_ n1_ n2_; clear hk_ hs1_ hs2_ hw_ hB_ hb_; have hczgb1_0 : w14.cell? ⟨gb1, 0, none⟩ = some (.slice A0_0 l0_0.length c0_0) := (blk_cell BKgb1.out 0).trans rfl; have hfzgb1_0 := blk_frozen BKgb1.out 0) | ((with_reducible refine gate_callee (f := 8) rfl ?_); refine goesL_ (some 29) rfl rfl Try.func8 (by kernel_rfl) rfl #[.agg #[.slice A0_0 l0_0.length c0_0]] rfl (by (try simp only [List.map_toArray, List.map_cons, List.map_nil]); first | done | rfl | (simp only [List.length_drop, List.length_take]; rfl)) ?_; (with_reducible refine (laws_toGraph.calls KE7 _ _ l0_0 l0_0 _ ?sidehr0_0 ?sidehc0_0 E7.out).mono ?_); (case sidehr0_0 => exact F_at (S := (fun _ => False)) FA0_0.out (by repeat (first | (with_reducible first | exact Kept.refl _ _ | apply Kept.alloc | apply Kept.drewN | apply Kept.drew) | exact Kept.refl _ _)) (fun _ _ hs_ => hs_.elim)); (case sidehc0_0 => exact HC0_0.out); rintro e w24 ⟨v25, rfl, hov0__, hb_⟩; refine ⟨_, rfl, ?_⟩; (try clear hczgb1_0); (try clear hfzgb1_0); obtain ⟨hk_, hs1_, hs2_, hw_⟩ := ev_kept (S := (fun _ => False)) HS.out HB.out hb_ (by repeat (first | (with_reducible first | exact Kept.refl _ _ | apply Kept.alloc | apply Kept.drewN | apply Kept.drew) | exact Kept.refl _ _)); have hB_ := below_step (by repeat (first | (with_reducible first | exact HB.out | apply below_alloc | apply pw_below_drewN | apply below_drew1 | refine below_set ?_ GEgb1.out) | exact HB.out)) hb_; have n0_ := Aside0.mk (Kd.F_kept FA0_0.out hk_ (fun _ _ hs_ => hs_.elim)); have n1_ := Aside0.mk (blk_below (g := gb1) (o := .cells #[.slice A0_0 l0_0.length c0_0] 24 (0, 0)) (by (with_reducible repeat (first | refine blk_drewN ?_ _ | refine blk_drew ?_ | refine blk_alloc ?_ _)); exact BKgb1.out) hb_); have n2_ := Aside0.mk (Kd.S_kept HS11.out hk_ (fun _ _ hs_ => hs_.elim)); have n3_ := Aside0.mk (Kd.S_kept HS21.out hk_ (fun _ _ hs_ => hs_.elim)); have ns_ := Aside0.mk (Nat.le_trans (Nat.le_trans hs1_ hs2_) (Nat.le_refl _)); have nB_ := Aside0.mk hB_; obtain ⟨lo26, hi27, c1_, c2_, c3_, h_⟩ := S_new hov0__ hs2_ hw_ hs1_; have HS28 := Aside0.mk h_; obtain ⟨Ao29, co30, eo_⟩ := Kd.S_slice HS28.out; subst eo_; have HCHS28 := Aside0.mk (Kd.S_reads' HS28.out).2.1; clear h_ hov0__; have nc_ := Aside0.mk (And.intro c1_ (And.intro c2_ CH.out)); clear CH ns_; have CH := nc_; have ns_ := Aside0.mk c3_; clear nc_ c1_ c2_ c3_; clear HB HS FA0_0 BKgb1 HS11 HS21; have FA0_0 := n0_; have BKgb1 := n1_; have HS11 := n2_; have HS21 := n3_; have HB := nB_; have HS := ns_; clear nB_ ns_ n0_ n1_ n2_ n3_; clear hk_ hs1_ hs2_ hw_ hB_ hb_; have hczgb1_0 : w24.cell? ⟨gb1, 0, none⟩ = some (.slice A0_0 l0_0.length c0_0) := (blk_cell BKgb1.out 0).trans rfl; have hfzgb1_0 := blk_frozen BKgb1.out 0) | ((with_reducible refine gate_dst (N := 8) rfl ?_); refine box_event ?hg (N := 8) ?hd (cs := #[.slice none 0 0]) (t := 28) ?hr ?_; (case hd => rfl); (case hg => rfl); (case hr => first | (go_simp; done) | (go_simp; rfl)); intro gb31 hg_ w32 hbox_ hb_; (try clear hczgb1_0); (try clear hfzgb1_0); obtain ⟨hk_, hs1_, hs2_, hw0_⟩ := ev_kept (S := (fun _ => False)) HS.out HB.out hb_ (by repeat (first | (with_reducible first | exact Kept.refl _ _ | apply Kept.alloc | apply Kept.drewN | apply Kept.drew) | exact Kept.refl _ _)); have hw_ : w.heap.size ≤ gb31 := (by rw [hg_]; exact hw0_); have hB_ := below_step (by repeat (first | (with_reducible first | exact HB.out | apply below_alloc | apply pw_below_drewN | apply below_drew1 | refine below_set ?_ GEgb1.out) | exact HB.out)) hb_; have n0_ := Aside0.mk (Kd.F_kept FA0_0.out hk_ (fun _ _ hs_ => hs_.elim)); have n1_ := Aside0.mk (blk_below (g := gb1) (o := .cells #[.slice A0_0 l0_0.length c0_0] 24 (0, 0)) (by (with_reducible repeat (first | refine blk_drewN ?_ _ | refine blk_drew ?_ | refine blk_alloc ?_ _)); exact BKgb1.out) hb_); have n2_ := Aside0.mk (Kd.S_kept HS11.out hk_ (fun _ _ hs_ => hs_.elim)); have n3_ := Aside0.mk (Kd.S_kept HS21.out hk_ (fun _ _ hs_ => hs_.elim)); have n4_ := Aside0.mk (Kd.S_kept HS28.out hk_ (fun _ _ hs_ => hs_.elim)); have hS_ : hi27 ≤ gb31 := (by rw [hg_]; exact hs1_); have nb_ := Aside0.mk hbox_; have ns_ := Aside0.mk (box_in hbox_); have nc_ := Aside0.mk (And.intro hS_ CH.out); have ng_ := Aside0.mk hw_; have nB_ := Aside0.mk hB_; clear HB HS CH FA0_0 BKgb1 HS11 HS21 HS28; have FA0_0 := n0_; have BKgb1 := n1_; have HS11 := n2_; have HS21 := n3_; have HS28 := n4_; have HB := nB_; have HS := ns_; have CH := nc_; have BKgb31 := nb_; have GEgb31 := ng_; clear nB_ ns_ nc_ nb_ ng_ n0_ n1_ n2_ n3_ n4_; clear hk_ hs1_ hs2_ hw_ hw0_ hB_ hS_ hb_ hbox_ hg_; have hczgb1_0 : w32.cell? ⟨gb1, 0, none⟩ = some (.slice A0_0 l0_0.length c0_0) := (blk_cell BKgb1.out 0).trans rfl; have hfzgb1_0 := blk_frozen BKgb1.out 0; have hczgb31_0 : w32.cell? ⟨gb31, 0, none⟩ = some (.slice none 0 0) := (blk_cell BKgb31.out 0).trans rfl; have hfzgb31_0 := blk_frozen BKgb31.out 0; have hnbgb1gb31 : gb1 ≠ gb31 := (by have := CH.out; omega); have hnbgb31gb1 : gb31 ≠ gb1 := (by have := CH.out; omega)) | ((with_reducible refine gate_callee (f := 9) rfl ?_); refine goesL_ (some 33) rfl rfl Try.func9 (by kernel_rfl) rfl #[.agg #[.slice Ao29 l0_0.length co30], .int .i64 a1] rfl (by (try simp only [List.map_toArray, List.map_cons, List.map_nil]); first | done | rfl | (simp only [List.length_drop, List.length_take]; rfl)) ?_; (with_reducible refine (impl_AllTrees.calls KE34 _ _ l0_0 a1 x15 x16 _ ?sidehr0_0 ?sidehc0_0 E34.out).mono ?_); (case sidehr0_0 => exact S_now (S := (fun k_ => k_ = gb31)) HS28.out (by repeat (first | (with_reducible first | exact Kept.refl _ _ | apply Kept.alloc | apply Kept.drewN | apply Kept.drew) | refine Kept.setCell ?_ (Or.inl (show gb31 = gb31 from rfl)) _ | exact Kept.refl _ _)) (fun k_ h_ hs_ => by obtain ⟨h1_, h2_⟩ := h_; have g1_ : k_ = gb31 := hs_; have := CH.out; omega)); (case sidehc0_0 => exact HCHS28.out); rintro e w33 ⟨v35, rfl, hov0__, hb_⟩; refine ⟨_, rfl, ?_⟩; (try clear hczgb1_0); (try clear hfzgb1_0); (try clear hczgb31_0); (try clear hfzgb31_0); obtain ⟨hk_, hs1_, hs2_, hw_⟩ := ev_kept (S := (fun k_ => k_ = gb31)) HS.out HB.out hb_ (by repeat (first | (with_reducible first | exact Kept.refl _ _ | apply Kept.alloc | apply Kept.drewN | apply Kept.drew) | refine Kept.setCell ?_ (Or.inl (show gb31 = gb31 from rfl)) _ | exact Kept.refl _ _)); have hB_ := below_step (by repeat (first | (with_reducible first | exact HB.out | apply below_alloc | apply pw_below_drewN | apply below_drew1 | refine below_set ?_ GEgb1.out | refine below_set ?_ GEgb31.out) | exact HB.out)) hb_; have n0_ := Aside0.mk (Kd.F_kept FA0_0.out hk_ (fun k_ h_ hs_ => by have h1_ : k_ < s0 := h_; have g1_ : k_ = gb31 := hs_; have := CH.out; omega)); have n1_ := Aside0.mk (blk_below (g := gb1) (o := .cells #[.slice A0_0 l0_0.length c0_0] 24 (0, 0)) (by (with_reducible repeat (first | refine blk_drewN ?_ _ | refine blk_drew ?_ | refine blk_alloc ?_ _)); refine blk_far ?_ (by have := CH.out; omega) _; (with_reducible repeat (first | refine blk_drewN ?_ _ | refine blk_drew ?_ | refine blk_alloc ?_ _)); exact BKgb1.out) hb_); have n2_ := Aside0.mk (Kd.S_kept HS11.out hk_ (fun k_ h_ hs_ => by obtain ⟨h1_, h2_⟩ := h_; have g1_ : k_ = gb31 := hs_; have := CH.out; omega)); have n3_ := Aside0.mk (Kd.S_kept HS21.out hk_ (fun k_ h_ hs_ => by obtain ⟨h1_, h2_⟩ := h_; have g1_ : k_ = gb31 := hs_; have := CH.out; omega)); have n4_ := Aside0.mk (Kd.S_kept HS28.out hk_ (fun k_ h_ hs_ => by obtain ⟨h1_, h2_⟩ := h_; have g1_ : k_ = gb31 := hs_; have := CH.out; omega)); have n5_ := Aside0.mk (blk_below (g := gb31) (o := .cells #[.slice Ao29 l0_0.length co30] 28 (0, 0)) (by (with_reducible repeat (first | refine blk_drewN ?_ _ | refine blk_drew ?_ | refine blk_alloc ?_ _)); refine blk_put (cs := #[.slice none 0 0]) ?_ 0 _ rfl; (with_reducible repeat (first | refine blk_drewN ?_ _ | refine blk_drew ?_ | refine blk_alloc ?_ _)); exact BKgb31.out) hb_); have ns_ := Aside0.mk (Nat.le_trans (Nat.le_trans hs1_ hs2_) (Nat.le_refl _)); have nB_ := Aside0.mk hB_; obtain ⟨lo36, hi37, c1_, c2_, c3_, h_⟩ := S_new hov0__ hs2_ hw_ hs1_; have HS38 := Aside0.mk h_; obtain ⟨Ao39, co40, eo_⟩ := Kd.S_slice HS38.out; subst eo_; have HCHS38 := Aside0.mk (Kd.S_reads' HS38.out).2.1; clear h_ hov0__; have nc_ := Aside0.mk (And.intro c1_ (And.intro c2_ CH.out)); clear CH ns_; have CH := nc_; have ns_ := Aside0.mk c3_; clear nc_ c1_ c2_ c3_; clear HB HS FA0_0 BKgb1 HS11 HS21 HS28 BKgb31; have FA0_0 := n0_; have BKgb1 := n1_; have HS11 := n2_; have HS21 := n3_; have HS28 := n4_; have BKgb31 := n5_; have HB := nB_; have HS := ns_; clear nB_ ns_ n0_ n1_ n2_ n3_ n4_ n5_; clear hk_ hs1_ hs2_ hw_ hB_ hb_; have hczgb1_0 : w33.cell? ⟨gb1, 0, none⟩ = some (.slice A0_0 l0_0.length c0_0) := (blk_cell BKgb1.out 0).trans rfl; have hfzgb1_0 := blk_frozen BKgb1.out 0; have hczgb31_0 : w33.cell? ⟨gb31, 0, none⟩ = some (.slice Ao29 l0_0.length co30) := (blk_cell BKgb31.out 0).trans rfl; have hfzgb31_0 := blk_frozen BKgb31.out 0; have hnbgb1gb31 : gb1 ≠ gb31 := (by have := CH.out; omega); have hnbgb31gb1 : gb31 ≠ gb1 := (by have := CH.out; omega)) | ((with_reducible refine gate_callee (f := 10) rfl ?_); refine goesL_ (some 38) rfl rfl Try.func10 (by kernel_rfl) rfl #[.slice Ao39 x15.length co40, .slice Ao22 x15.length co23] rfl (by (try simp only [List.map_toArray, List.map_cons, List.map_nil]); first | done | rfl | (simp only [List.length_drop, List.length_take]; rfl)) ?_; (with_reducible refine (laws_eqIntSS.calls KE42 _ _ x15 _ _ x15 true _ ?sidehr0 ?sidehc0 ?sidehr1 ?sidehc1 E42.out).mono ?_); (case sidehr0 => exact S_now (S := (fun _ => False)) HS38.out (by repeat (first | (with_reducible first | exact Kept.refl _ _ | apply Kept.alloc | apply Kept.drewN | apply Kept.drew) | exact Kept.refl _ _)) (fun _ _ hs_ => hs_.elim)); (case sidehc0 => exact HCHS38.out); (case sidehr1 => exact S_now (S := (fun _ => False)) HS21.out (by repeat (first | (with_reducible first | exact Kept.refl _ _ | apply Kept.alloc | apply Kept.drewN | apply Kept.drew) | exact Kept.refl _ _)) (fun _ _ hs_ => hs_.elim)); (case sidehc1 => exact HCHS21.out); rintro e w41 ⟨rfl, hd_⟩; refine ⟨_, rfl, ?_⟩; have hb_ := hd_.below; (try clear hczgb1_0); (try clear hfzgb1_0); (try clear hczgb31_0); (try clear hfzgb31_0); obtain ⟨hk_, hs1_, hs2_, hw_⟩ := ev_kept (S := (fun _ => False)) HS.out HB.out hb_ (by repeat (first | (with_reducible first | exact Kept.refl _ _ | apply Kept.alloc | apply Kept.drewN | apply Kept.drew) | exact Kept.refl _ _)); have hB_ := below_step (by repeat (first | (with_reducible first | exact HB.out | apply below_alloc | apply pw_below_drewN | apply below_drew1 | refine below_set ?_ GEgb1.out | refine below_set ?_ GEgb31.out) | exact HB.out)) hb_; have n0_ := Aside0.mk (Kd.F_kept FA0_0.out hk_ (fun _ _ hs_ => hs_.elim)); have n1_ := Aside0.mk (blk_below (g := gb1) (o := .cells #[.slice A0_0 l0_0.length c0_0] 24 (0, 0)) (by (with_reducible repeat (first | refine blk_drewN ?_ _ | refine blk_drew ?_ | refine blk_alloc ?_ _)); exact BKgb1.out) hb_); have n2_ := Aside0.mk (Kd.S_kept HS11.out hk_ (fun _ _ hs_ => hs_.elim)); have n3_ := Aside0.mk (Kd.S_kept HS21.out hk_ (fun _ _ hs_ => hs_.elim)); have n4_ := Aside0.mk (Kd.S_kept HS28.out hk_ (fun _ _ hs_ => hs_.elim)); have n5_ := Aside0.mk (blk_below (g := gb31) (o := .cells #[.slice Ao29 l0_0.length co30] 28 (0, 0)) (by (with_reducible repeat (first | refine blk_drewN ?_ _ | refine blk_drew ?_ | refine blk_alloc ?_ _)); exact BKgb31.out) hb_); have n6_ := Aside0.mk (Kd.S_kept HS38.out hk_ (fun _ _ hs_ => hs_.elim)); have ns_ := Aside0.mk (Nat.le_trans (Nat.le_trans hs1_ hs2_) (Nat.le_refl _)); have nB_ := Aside0.mk hB_; clear HB HS FA0_0 BKgb1 HS11 HS21 HS28 BKgb31 HS38; have FA0_0 := n0_; have BKgb1 := n1_; have HS11 := n2_; have HS21 := n3_; have HS28 := n4_; have BKgb31 := n5_; have HS38 := n6_; have HB := nB_; have HS := ns_; clear nB_ ns_ n0_ n1_ n2_ n3_ n4_ n5_ n6_; clear hk_ hs1_ hs2_ hw_ hB_ hb_; clear hd_; have hczgb1_0 : w41.cell? ⟨gb1, 0, none⟩ = some (.slice A0_0 l0_0.length c0_0) := (blk_cell BKgb1.out 0).trans rfl; have hfzgb1_0 := blk_frozen BKgb1.out 0; have hczgb31_0 : w41.cell? ⟨gb31, 0, none⟩ = some (.slice Ao29 l0_0.length co30) := (blk_cell BKgb31.out 0).trans rfl; have hfzgb31_0 := blk_frozen BKgb31.out 0; have hnbgb1gb31 : gb1 ≠ gb31 := (by have := CH.out; omega); have hnbgb31gb1 : gb31 ≠ gb1 := (by have := CH.out; omega)))
 try go_wp2
 (try clear hczgb1_0)
 (try clear hfzgb1_0)
 (try clear hczgb31_0)
 (try clear hfzgb31_0)
 have n0_ := Aside0.mk (Kd.F_drew FA0_0.out)
 have n1_ := Aside0.mk (blk_drew BKgb1.out)
 have n2_ := Aside0.mk (Kd.S_drew HS11.out)
 have n3_ := Aside0.mk (Kd.S_drew HS21.out)
 have n4_ := Aside0.mk (Kd.S_drew HS28.out)
 have n5_ := Aside0.mk (blk_drew BKgb31.out)
 have n6_ := Aside0.mk (Kd.S_drew HS38.out)
 have nB_ := Aside0.mk (below_drew1 HB.out)
 have nS_ : Aside0 (hi37 ≤ w41.drew.heap.size) := ⟨HS.out⟩
 clear HB HS FA0_0 BKgb1 HS11 HS21 HS28 BKgb31 HS38
 have FA0_0 := n0_
 have BKgb1 := n1_
 have HS11 := n2_
 have HS21 := n3_
 have HS28 := n4_
 have BKgb31 := n5_
 have HS38 := n6_
 have HB := nB_
 have HS := nS_
 clear nB_ nS_ n0_ n1_ n2_ n3_ n4_ n5_ n6_
 refine start_ (n := 5) (S := fun w' => w'.cell? ⟨gb1, 0, none⟩ = some (.slice A0_0 l0_0.length c0_0) ∧ w'.cell? ⟨gb31, 0, none⟩ = some (.slice Ao29 l0_0.length co30)) (ds := []) #[false, false, false, false, false] (by kernel_rfl) rfl rfl ⟨(blk_cell BKgb1.out 0).trans rfl, (blk_cell BKgb31.out 0).trans rfl⟩ (fun hHeld => ?_)
 generalize w41.drew = w43 at HB HS FA0_0 BKgb1 HS11 HS21 HS28 BKgb31 HS38 hHeld ⊢
 refine take_ (i := 0) (N := some 45) (v := ?_) (a' := ?_) #[true, false, false, false, false] rfl rfl (by kernel_rfl) (fun _ _ _ h => h) (Or.inl ⟨by rfl, ?_⟩) hHeld ?_ ?_
 rotate_left
 ·rintro w' ⟨s0_, s1_⟩
  go_simp
  with_reducible rfl
 rotate_left
 ·simp only [Act.put, List.setIfInBounds_toArray, List.set_cons_zero, List.set_cons_succ, i64_w, i32_w]
  rfl
 refine take_ (i := 1) (N := some 46) (v := ?_) (a' := ?_) #[true, true, false, false, false] rfl rfl (by kernel_rfl) (fun _ _ _ h => h) (Or.inl ⟨by rfl, ?_⟩) hHeld ?_ ?_
 rotate_left
 ·rintro w' ⟨s0_, s1_⟩
  go_simp
  with_reducible rfl
 rotate_left
 ·simp only [Act.put, List.setIfInBounds_toArray, List.set_cons_zero, List.set_cons_succ, i64_w, i32_w]
  rfl
 refine one_ (i := 2) (N := some 47) #[true, true, true, false, false] rfl rfl (by kernel_rfl) (by decide) (fun K hK => ?_)
 refine goes_ Try.func8 (by kernel_rfl) rfl #[.agg #[.slice A0_0 l0_0.length c0_0]] (by rfl) rfl rfl (by (try simp only [List.map_toArray, List.map_cons, List.map_nil]); first | done | rfl | (simp only [List.length_drop, List.length_take]; rfl)) ?_
 (with_reducible refine (laws_toGraph.calls KE7 _ _ l0_0 l0_0 _ ?sidehr0_0 ?sidehc0_0 E7.out).mono ?_)
 (case sidehr0_0 => exact F_at (S := (fun _ => False)) FA0_0.out (by repeat (first | (with_reducible first | exact Kept.refl _ _ | apply Kept.alloc | apply Kept.drewN | apply Kept.drew) | exact Kept.refl _ _)) (fun _ _ hs_ => hs_.elim))
 (case sidehc0_0 => exact HC0_0.out)
 rintro e w44 ⟨v45, rfl, hov0__, hb_⟩
 refine ⟨_, rfl, ?_⟩
 (try clear hczgb1_0)
 (try clear hfzgb1_0)
 (try clear hczgb31_0)
 (try clear hfzgb31_0)
 obtain ⟨hk_, hs1_, hs2_, hw_⟩ := ev_kept (S := (fun _ => False)) HS.out HB.out hb_ (by repeat (first | (with_reducible first | exact Kept.refl _ _ | apply Kept.alloc | apply Kept.drewN | apply Kept.drew) | exact Kept.refl _ _))
 have hB_ := below_step (by repeat (first | (with_reducible first | exact HB.out | apply below_alloc | apply pw_below_drewN | apply below_drew1 | refine below_set ?_ GEgb1.out | refine below_set ?_ GEgb31.out) | exact HB.out)) hb_
 have n0_ := Aside0.mk (Kd.F_kept FA0_0.out hk_ (fun _ _ hs_ => hs_.elim))
 have n1_ := Aside0.mk (blk_below (g := gb1) (o := .cells #[.slice A0_0 l0_0.length c0_0] 24 (0, 0)) (by (with_reducible repeat (first | refine blk_drewN ?_ _ | refine blk_drew ?_ | refine blk_alloc ?_ _)); exact BKgb1.out) hb_)
 have n2_ := Aside0.mk (Kd.S_kept HS11.out hk_ (fun _ _ hs_ => hs_.elim))
 have n3_ := Aside0.mk (Kd.S_kept HS21.out hk_ (fun _ _ hs_ => hs_.elim))
 have n4_ := Aside0.mk (Kd.S_kept HS28.out hk_ (fun _ _ hs_ => hs_.elim))
 have n5_ := Aside0.mk (blk_below (g := gb31) (o := .cells #[.slice Ao29 l0_0.length co30] 28 (0, 0)) (by (with_reducible repeat (first | refine blk_drewN ?_ _ | refine blk_drew ?_ | refine blk_alloc ?_ _)); exact BKgb31.out) hb_)
 have n6_ := Aside0.mk (Kd.S_kept HS38.out hk_ (fun _ _ hs_ => hs_.elim))
 have ns_ := Aside0.mk (Nat.le_trans (Nat.le_trans hs1_ hs2_) (Nat.le_refl _))
 have nB_ := Aside0.mk hB_
 obtain ⟨lo46, hi47, c1_, c2_, c3_, h_⟩ := S_new hov0__ hs2_ hw_ hs1_
 have HS48 := Aside0.mk h_
 obtain ⟨Ao49, co50, eo_⟩ := Kd.S_slice HS48.out
 subst eo_
 have HCHS48 := Aside0.mk (Kd.S_reads' HS48.out).2.1
 clear h_ hov0__
 have nc_ := Aside0.mk (And.intro c1_ (And.intro c2_ CH.out))
 clear CH ns_
 have CH := nc_
 have ns_ := Aside0.mk c3_
 clear nc_ c1_ c2_ c3_
 clear HB HS FA0_0 BKgb1 HS11 HS21 HS28 BKgb31 HS38
 have FA0_0 := n0_
 have BKgb1 := n1_
 have HS11 := n2_
 have HS21 := n3_
 have HS28 := n4_
 have BKgb31 := n5_
 have HS38 := n6_
 have HB := nB_
 have HS := ns_
 clear nB_ ns_ n0_ n1_ n2_ n3_ n4_ n5_ n6_
 clear hk_ hs1_ hs2_ hw_ hB_ hb_
 refine hK.out _ _ ⟨(blk_cell BKgb1.out 0).trans rfl, (blk_cell BKgb31.out 0).trans rfl⟩ (fun hHeld => ?_)
 clear hK K
 refine norm_ (a' := ?_) ?_ ?_
 rotate_left
 ·show Act.put _ (some 47) _ = _
  simp only [Act.put, List.setIfInBounds_toArray, List.set_cons_zero, List.set_cons_succ, i64_w, i32_w]
  rfl
 refine one_ (i := 3) (N := some 48) #[true, true, true, true, false] rfl rfl (by kernel_rfl) (by decide) (fun K hK => ?_)
 refine goes_ Try.func11 (by kernel_rfl) rfl #[.agg #[.slice Ao29 l0_0.length co30], .agg #[.slice Ao49 l0_0.length co50]] (by rfl) rfl rfl (by (try simp only [List.map_toArray, List.map_cons, List.map_nil]); first | done | rfl | (simp only [List.length_drop, List.length_take]; rfl)) ?_
 (with_reducible refine (laws_eqGraph.calls KE52 _ _ l0_0 _ _ l0_0 true _ ?sidehr0_0 ?sidehc0_0 ?sidehr1_0 ?sidehc1_0 E52.out).mono ?_)
 (case sidehr0_0 => exact S_now (S := (fun _ => False)) HS28.out (by repeat (first | (with_reducible first | exact Kept.refl _ _ | apply Kept.alloc | apply Kept.drewN | apply Kept.drew) | exact Kept.refl _ _)) (fun _ _ hs_ => hs_.elim))
 (case sidehc0_0 => exact HCHS28.out)
 (case sidehr1_0 => exact S_now (S := (fun _ => False)) HS48.out (by repeat (first | (with_reducible first | exact Kept.refl _ _ | apply Kept.alloc | apply Kept.drewN | apply Kept.drew) | exact Kept.refl _ _)) (fun _ _ hs_ => hs_.elim))
 (case sidehc1_0 => exact HCHS48.out)
 rintro e w51 ⟨rfl, hb_⟩
 refine ⟨_, rfl, ?_⟩
 (try clear hczgb1_0)
 (try clear hfzgb1_0)
 (try clear hczgb31_0)
 (try clear hfzgb31_0)
 obtain ⟨hk_, hs1_, hs2_, hw_⟩ := ev_kept (S := (fun _ => False)) HS.out HB.out hb_ (by repeat (first | (with_reducible first | exact Kept.refl _ _ | apply Kept.alloc | apply Kept.drewN | apply Kept.drew) | exact Kept.refl _ _))
 have hB_ := below_step (by repeat (first | (with_reducible first | exact HB.out | apply below_alloc | apply pw_below_drewN | apply below_drew1 | refine below_set ?_ GEgb1.out | refine below_set ?_ GEgb31.out) | exact HB.out)) hb_
 have n0_ := Aside0.mk (Kd.F_kept FA0_0.out hk_ (fun _ _ hs_ => hs_.elim))
 have n1_ := Aside0.mk (blk_below (g := gb1) (o := .cells #[.slice A0_0 l0_0.length c0_0] 24 (0, 0)) (by (with_reducible repeat (first | refine blk_drewN ?_ _ | refine blk_drew ?_ | refine blk_alloc ?_ _)); exact BKgb1.out) hb_)
 have n2_ := Aside0.mk (Kd.S_kept HS11.out hk_ (fun _ _ hs_ => hs_.elim))
 have n3_ := Aside0.mk (Kd.S_kept HS21.out hk_ (fun _ _ hs_ => hs_.elim))
 have n4_ := Aside0.mk (Kd.S_kept HS28.out hk_ (fun _ _ hs_ => hs_.elim))
 have n5_ := Aside0.mk (blk_below (g := gb31) (o := .cells #[.slice Ao29 l0_0.length co30] 28 (0, 0)) (by (with_reducible repeat (first | refine blk_drewN ?_ _ | refine blk_drew ?_ | refine blk_alloc ?_ _)); exact BKgb31.out) hb_)
 have n6_ := Aside0.mk (Kd.S_kept HS38.out hk_ (fun _ _ hs_ => hs_.elim))
 have n7_ := Aside0.mk (Kd.S_kept HS48.out hk_ (fun _ _ hs_ => hs_.elim))
 have ns_ := Aside0.mk (Nat.le_trans (Nat.le_trans hs1_ hs2_) (Nat.le_refl _))
 have nB_ := Aside0.mk hB_
 clear HB HS FA0_0 BKgb1 HS11 HS21 HS28 BKgb31 HS38 HS48
 have FA0_0 := n0_
 have BKgb1 := n1_
 have HS11 := n2_
 have HS21 := n3_
 have HS28 := n4_
 have BKgb31 := n5_
 have HS38 := n6_
 have HS48 := n7_
 have HB := nB_
 have HS := ns_
 clear nB_ ns_ n0_ n1_ n2_ n3_ n4_ n5_ n6_ n7_
 clear hk_ hs1_ hs2_ hw_ hB_ hb_
 refine hK.out _ _ ⟨(blk_cell BKgb1.out 0).trans rfl, (blk_cell BKgb31.out 0).trans rfl⟩ (fun hHeld => ?_)
 clear hK K
 refine norm_ (a' := ?_) ?_ ?_
 rotate_left
 ·show Act.put _ (some 48) _ = _
  simp only [Act.put, List.setIfInBounds_toArray, List.set_cons_zero, List.set_cons_succ, i64_w, i32_w]
  rfl
 refine pure_ (i := 4) (N := some 49) (v := ?_) (a' := ?_) #[true, true, true, true, true] rfl rfl (by kernel_rfl) (fun _ _ _ h => h) (Or.inl ⟨by rfl, ?_⟩) ?_ ?_
 rotate_left
 ·intro w'
  go_simp
  with_reducible rfl
 rotate_left
 ·simp only [Act.put, List.setIfInBounds_toArray, List.set_cons_zero, List.set_cons_succ, i64_w, i32_w]
  rfl
 refine done_ (by kernel_rfl) ?_
 go_wp2_with (first | ((with_reducible refine gate_callee (f := 12) rfl ?_); refine goesL_ (some 52) rfl rfl Try.func12 (by kernel_rfl) rfl #[.agg #[.slice Ao29 l0_0.length co30], .int .i64 1] rfl (by (try simp only [List.map_toArray, List.map_cons, List.map_nil]); first | done | rfl | (simp only [List.length_drop, List.length_take]; rfl)) ?_; (with_reducible refine (laws_markGraph.calls KE56 (fun k_ => lo26 ≤ k_ ∧ k_ < hi27) _ l0_0 1 x54 x55 w _ ?sideB ?sideO E56.out).mono ?_); (case sideB => exact (by repeat (first | (with_reducible first | exact HB.out | apply below_alloc | apply pw_below_drewN | apply below_drew1 | refine below_set ?_ GEgb1.out | refine below_set ?_ GEgb31.out) | exact HB.out))); (case sideO => exact Kd.S_kept (S := (fun _ => False)) HS28.out (by repeat (first | (with_reducible first | exact Kept.refl _ _ | apply Kept.alloc | apply Kept.drewN | apply Kept.drew) | exact Kept.refl _ _)) (fun _ _ hs_ => hs_.elim)); rintro e w53 ⟨rfl, ho_, hb_, hm_⟩; refine ⟨_, rfl, ?_⟩; (try clear hczgb1_0); (try clear hfzgb1_0); (try clear hczgb31_0); (try clear hfzgb31_0); obtain ⟨hk_, hs1_⟩ := ev_mark (S := (fun k_ => lo26 ≤ k_ ∧ k_ < hi27)) HS.out hm_ (by repeat (first | (with_reducible first | exact Kept.refl _ _ | apply Kept.alloc | apply Kept.drewN | apply Kept.drew) | exact Kept.refl _ _)); have n0_ := Aside0.mk (Kd.F_kept FA0_0.out hk_ (fun k_ h_ hs_ => by have h1_ : k_ < s0 := h_; obtain ⟨g1_, g2_⟩ := hs_; have := CH.out; omega)); have n1_ := Aside0.mk (blk_kept BKgb1.out hk_ (fun hs_ => by obtain ⟨g1_, g2_⟩ := hs_; have := CH.out; omega)); have n2_ := Aside0.mk (Kd.S_kept HS11.out hk_ (fun k_ h_ hs_ => by obtain ⟨h1_, h2_⟩ := h_; obtain ⟨g1_, g2_⟩ := hs_; have := CH.out; omega)); have n3_ := Aside0.mk (Kd.S_kept HS21.out hk_ (fun k_ h_ hs_ => by obtain ⟨h1_, h2_⟩ := h_; obtain ⟨g1_, g2_⟩ := hs_; have := CH.out; omega)); have n4_ := Aside0.mk (blk_kept BKgb31.out hk_ (fun hs_ => by obtain ⟨g1_, g2_⟩ := hs_; have := CH.out; omega)); have n5_ := Aside0.mk (Kd.S_kept HS38.out hk_ (fun k_ h_ hs_ => by obtain ⟨h1_, h2_⟩ := h_; obtain ⟨g1_, g2_⟩ := hs_; have := CH.out; omega)); have n6_ := Aside0.mk (Kd.S_kept HS48.out hk_ (fun k_ h_ hs_ => by obtain ⟨h1_, h2_⟩ := h_; obtain ⟨g1_, g2_⟩ := hs_; have := CH.out; omega)); have nB_ := Aside0.mk hb_; have ns_ := Aside0.mk hs1_; clear HB HS FA0_0 BKgb1 HS11 HS21 BKgb31 HS38 HS48; have FA0_0 := n0_; have BKgb1 := n1_; have HS11 := n2_; have HS21 := n3_; have BKgb31 := n4_; have HS38 := n5_; have HS48 := n6_; have HB := nB_; have HS := ns_; clear nB_ ns_ n0_ n1_ n2_ n3_ n4_ n5_ n6_; have hl_ : l0_0.length = x55.length := (Kd.S_reads' ho_).1; have FM57 := Aside0.mk (Kd.S_F ho_); rw [hl_] at FM57; have HCHS28_ := Aside0.mk (show x55.length ≤ co30 by rw [← hl_]; exact HCHS28.out); have HLFM57 := Aside0.mk hl_; clear ho_ hm_ hb_ hk_ hs1_ hl_ HS28; have hczgb1_0 : w53.cell? ⟨gb1, 0, none⟩ = some (.slice A0_0 l0_0.length c0_0) := (blk_cell BKgb1.out 0).trans rfl; have hfzgb1_0 := blk_frozen BKgb1.out 0; have hczgb31_0 : w53.cell? ⟨gb31, 0, none⟩ = some (.slice Ao29 l0_0.length co30) := (blk_cell BKgb31.out 0).trans rfl; have hfzgb31_0 := blk_frozen BKgb31.out 0; have hnbgb1gb31 : gb1 ≠ gb31 := (by have := CH.out; omega); have hnbgb31gb1 : gb31 ≠ gb1 := (by have := CH.out; omega)) | ((with_reducible refine gate_callee (f := 10) rfl ?_); (try (refine gate_guard (by rfl) ?_; dsimp only)); refine goesL_ (some 58) rfl rfl Try.func10 (by kernel_rfl) rfl #[.slice Ao39 x15.length co40, .slice Ao22 x15.length co23] rfl (by (try simp only [List.map_toArray, List.map_cons, List.map_nil]); first | done | rfl | (simp only [List.length_drop, List.length_take]; rfl)) ?_; (with_reducible refine (laws_eqIntSS.calls KE42 _ _ x15 _ _ x15 true _ ?sidehr0 ?sidehc0 ?sidehr1 ?sidehc1 E42.out).mono ?_); (case sidehr0 => exact S_now (S := (fun _ => False)) HS38.out (by repeat (first | (with_reducible first | exact Kept.refl _ _ | apply Kept.alloc | apply Kept.drewN | apply Kept.drew) | exact Kept.refl _ _)) (fun _ _ hs_ => hs_.elim)); (case sidehc0 => exact HCHS38.out); (case sidehr1 => exact S_now (S := (fun _ => False)) HS21.out (by repeat (first | (with_reducible first | exact Kept.refl _ _ | apply Kept.alloc | apply Kept.drewN | apply Kept.drew) | exact Kept.refl _ _)) (fun _ _ hs_ => hs_.elim)); (case sidehc1 => exact HCHS21.out); rintro e w58 ⟨rfl, hd_⟩; refine ⟨_, rfl, ?_⟩; have hb_ := hd_.below; (try clear hczgb1_0); (try clear hfzgb1_0); (try clear hczgb31_0); (try clear hfzgb31_0); obtain ⟨hk_, hs1_, hs2_, hw_⟩ := ev_kept (S := (fun _ => False)) HS.out HB.out hb_ (by repeat (first | (with_reducible first | exact Kept.refl _ _ | apply Kept.alloc | apply Kept.drewN | apply Kept.drew) | exact Kept.refl _ _)); have hB_ := below_step (by repeat (first | (with_reducible first | exact HB.out | apply below_alloc | apply pw_below_drewN | apply below_drew1 | refine below_set ?_ GEgb1.out | refine below_set ?_ GEgb31.out) | exact HB.out)) hb_; have n0_ := Aside0.mk (Kd.F_kept FA0_0.out hk_ (fun _ _ hs_ => hs_.elim)); have n1_ := Aside0.mk (blk_below (g := gb1) (o := .cells #[.slice A0_0 l0_0.length c0_0] 24 (0, 0)) (by (with_reducible repeat (first | refine blk_drewN ?_ _ | refine blk_drew ?_ | refine blk_alloc ?_ _)); exact BKgb1.out) hb_); have n2_ := Aside0.mk (Kd.S_kept HS11.out hk_ (fun _ _ hs_ => hs_.elim)); have n3_ := Aside0.mk (Kd.S_kept HS21.out hk_ (fun _ _ hs_ => hs_.elim)); have n4_ := Aside0.mk (blk_below (g := gb31) (o := .cells #[.slice Ao29 l0_0.length co30] 28 (0, 0)) (by (with_reducible repeat (first | refine blk_drewN ?_ _ | refine blk_drew ?_ | refine blk_alloc ?_ _)); exact BKgb31.out) hb_); have n5_ := Aside0.mk (Kd.S_kept HS38.out hk_ (fun _ _ hs_ => hs_.elim)); have n6_ := Aside0.mk (Kd.S_kept HS48.out hk_ (fun _ _ hs_ => hs_.elim)); have n7_ := Aside0.mk (Kd.F_kept FM57.out hk_ (fun _ _ hs_ => hs_.elim)); have ns_ := Aside0.mk (Nat.le_trans (Nat.le_trans hs1_ hs2_) (Nat.le_refl _)); have nB_ := Aside0.mk hB_; clear HB HS FA0_0 BKgb1 HS11 HS21 BKgb31 HS38 HS48 FM57; have FA0_0 := n0_; have BKgb1 := n1_; have HS11 := n2_; have HS21 := n3_; have BKgb31 := n4_; have HS38 := n5_; have HS48 := n6_; have FM57 := n7_; have HB := nB_; have HS := ns_; clear nB_ ns_ n0_ n1_ n2_ n3_ n4_ n5_ n6_ n7_; clear hk_ hs1_ hs2_ hw_ hB_ hb_; clear hd_; have hczgb1_0 : w58.cell? ⟨gb1, 0, none⟩ = some (.slice A0_0 l0_0.length c0_0) := (blk_cell BKgb1.out 0).trans rfl; have hfzgb1_0 := blk_frozen BKgb1.out 0; have hczgb31_0 : w58.cell? ⟨gb31, 0, none⟩ = some (.slice Ao29 l0_0.length co30) := (blk_cell BKgb31.out 0).trans rfl; have hfzgb31_0 := blk_frozen BKgb31.out 0; have hnbgb1gb31 : gb1 ≠ gb31 := (by have := CH.out; omega); have hnbgb31gb1 : gb31 ≠ gb1 := (by have := CH.out; omega)) | ((with_reducible refine gate_callee (f := 13) rfl ?_); refine goesL_ (some 68) rfl rfl Try.func13 (by kernel_rfl) rfl #[.slice Ao39 x15.length co40, .int .i64 1] rfl (by (try simp only [List.map_toArray, List.map_cons, List.map_nil]); first | done | rfl | (simp only [List.length_drop, List.length_take]; rfl)) ?_; (with_reducible refine (laws_markIntSS.calls KE62 (fun k_ => lo36 ≤ k_ ∧ k_ < hi37) _ x15 1 x60 x61 w _ ?sideB ?sideO E62.out).mono ?_); (case sideB => exact (by repeat (first | (with_reducible first | exact HB.out | apply below_alloc | apply pw_below_drewN | apply below_drew1 | refine below_set ?_ GEgb1.out | refine below_set ?_ GEgb31.out) | exact HB.out))); (case sideO => exact Kd.S_kept (S := (fun _ => False)) HS38.out (by repeat (first | (with_reducible first | exact Kept.refl _ _ | apply Kept.alloc | apply Kept.drewN | apply Kept.drew) | exact Kept.refl _ _)) (fun _ _ hs_ => hs_.elim)); rintro e w59 ⟨rfl, ho_, hb_, hm_⟩; refine ⟨_, rfl, ?_⟩; (try clear hczgb1_0); (try clear hfzgb1_0); (try clear hczgb31_0); (try clear hfzgb31_0); obtain ⟨hk_, hs1_⟩ := ev_mark (S := (fun k_ => lo36 ≤ k_ ∧ k_ < hi37)) HS.out hm_ (by repeat (first | (with_reducible first | exact Kept.refl _ _ | apply Kept.alloc | apply Kept.drewN | apply Kept.drew) | exact Kept.refl _ _)); have n0_ := Aside0.mk (Kd.F_kept FA0_0.out hk_ (fun k_ h_ hs_ => by have h1_ : k_ < s0 := h_; obtain ⟨g1_, g2_⟩ := hs_; have := CH.out; omega)); have n1_ := Aside0.mk (blk_kept BKgb1.out hk_ (fun hs_ => by obtain ⟨g1_, g2_⟩ := hs_; have := CH.out; omega)); have n2_ := Aside0.mk (Kd.S_kept HS11.out hk_ (fun k_ h_ hs_ => by obtain ⟨h1_, h2_⟩ := h_; obtain ⟨g1_, g2_⟩ := hs_; have := CH.out; omega)); have n3_ := Aside0.mk (Kd.S_kept HS21.out hk_ (fun k_ h_ hs_ => by obtain ⟨h1_, h2_⟩ := h_; obtain ⟨g1_, g2_⟩ := hs_; have := CH.out; omega)); have n4_ := Aside0.mk (blk_kept BKgb31.out hk_ (fun hs_ => by obtain ⟨g1_, g2_⟩ := hs_; have := CH.out; omega)); have n5_ := Aside0.mk (Kd.S_kept HS48.out hk_ (fun k_ h_ hs_ => by obtain ⟨h1_, h2_⟩ := h_; obtain ⟨g1_, g2_⟩ := hs_; have := CH.out; omega)); have n6_ := Aside0.mk (Kd.F_kept FM57.out hk_ (fun k_ h_ hs_ => by obtain ⟨h1_, h2_⟩ := h_; obtain ⟨g1_, g2_⟩ := hs_; have := CH.out; omega)); have nB_ := Aside0.mk hb_; have ns_ := Aside0.mk hs1_; clear HB HS FA0_0 BKgb1 HS11 HS21 BKgb31 HS48 FM57; have FA0_0 := n0_; have BKgb1 := n1_; have HS11 := n2_; have HS21 := n3_; have BKgb31 := n4_; have HS48 := n5_; have FM57 := n6_; have HB := nB_; have HS := ns_; clear nB_ ns_ n0_ n1_ n2_ n3_ n4_ n5_ n6_; have hl_ : x15.length = x61.length := (Kd.S_reads' ho_).1; have FM63 := Aside0.mk (Kd.S_F ho_); rw [hl_] at FM63; have HCHS38_ := Aside0.mk (show x61.length ≤ co40 by rw [← hl_]; exact HCHS38.out); have HLFM63 := Aside0.mk hl_; clear ho_ hm_ hb_ hk_ hs1_ hl_ HS38; have hczgb1_0 : w59.cell? ⟨gb1, 0, none⟩ = some (.slice A0_0 l0_0.length c0_0) := (blk_cell BKgb1.out 0).trans rfl; have hfzgb1_0 := blk_frozen BKgb1.out 0; have hczgb31_0 : w59.cell? ⟨gb31, 0, none⟩ = some (.slice Ao29 l0_0.length co30) := (blk_cell BKgb31.out 0).trans rfl; have hfzgb31_0 := blk_frozen BKgb31.out 0; have hnbgb1gb31 : gb1 ≠ gb31 := (by have := CH.out; omega); have hnbgb31gb1 : gb31 ≠ gb1 := (by have := CH.out; omega)) | ((with_reducible refine gate_callee (f := 14) rfl ?_); refine goesL_ (some 71) rfl rfl Try.func14 (by kernel_rfl) rfl #[.slice Ao39 x15.length co40, .int .i64 1] rfl (by (try simp only [List.map_toArray, List.map_cons, List.map_nil]); first | done | rfl | (simp only [List.length_drop, List.length_take]; rfl)) ?_; refine calls_len (args' := #[.slice Ao39 x61.length co40, .int .i64 1]) (by simp only [HLFM63.out]) ?_; (with_reducible refine (laws_heldIntSS.calls KE65 _ _ x61 1 x60 _ ?sidehr0 ?sidehc0 E65.out).mono ?_); (case sidehr0 => exact F_at (S := (fun _ => False)) FM63.out (by repeat (first | (with_reducible first | exact Kept.refl _ _ | apply Kept.alloc | apply Kept.drewN | apply Kept.drew) | exact Kept.refl _ _)) (fun _ _ hs_ => hs_.elim)); (case sidehc0 => exact HCHS38_.out); rintro e w64 ⟨rfl, hd_⟩; refine ⟨_, rfl, ?_⟩; have hb_ := hd_.below; (try clear hczgb1_0); (try clear hfzgb1_0); (try clear hczgb31_0); (try clear hfzgb31_0); obtain ⟨hk_, hs1_, hs2_, hw_⟩ := ev_kept (S := (fun _ => False)) HS.out HB.out hb_ (by repeat (first | (with_reducible first | exact Kept.refl _ _ | apply Kept.alloc | apply Kept.drewN | apply Kept.drew) | exact Kept.refl _ _)); have hB_ := below_step (by repeat (first | (with_reducible first | exact HB.out | apply below_alloc | apply pw_below_drewN | apply below_drew1 | refine below_set ?_ GEgb1.out | refine below_set ?_ GEgb31.out) | exact HB.out)) hb_; have n0_ := Aside0.mk (Kd.F_kept FA0_0.out hk_ (fun _ _ hs_ => hs_.elim)); have n1_ := Aside0.mk (blk_below (g := gb1) (o := .cells #[.slice A0_0 l0_0.length c0_0] 24 (0, 0)) (by (with_reducible repeat (first | refine blk_drewN ?_ _ | refine blk_drew ?_ | refine blk_alloc ?_ _)); exact BKgb1.out) hb_); have n2_ := Aside0.mk (Kd.S_kept HS11.out hk_ (fun _ _ hs_ => hs_.elim)); have n3_ := Aside0.mk (Kd.S_kept HS21.out hk_ (fun _ _ hs_ => hs_.elim)); have n4_ := Aside0.mk (blk_below (g := gb31) (o := .cells #[.slice Ao29 l0_0.length co30] 28 (0, 0)) (by (with_reducible repeat (first | refine blk_drewN ?_ _ | refine blk_drew ?_ | refine blk_alloc ?_ _)); exact BKgb31.out) hb_); have n5_ := Aside0.mk (Kd.S_kept HS48.out hk_ (fun _ _ hs_ => hs_.elim)); have n6_ := Aside0.mk (Kd.F_kept FM57.out hk_ (fun _ _ hs_ => hs_.elim)); have n7_ := Aside0.mk (Kd.F_kept FM63.out hk_ (fun _ _ hs_ => hs_.elim)); have ns_ := Aside0.mk (Nat.le_trans (Nat.le_trans hs1_ hs2_) (Nat.le_refl _)); have nB_ := Aside0.mk hB_; clear HB HS FA0_0 BKgb1 HS11 HS21 BKgb31 HS48 FM57 FM63; have FA0_0 := n0_; have BKgb1 := n1_; have HS11 := n2_; have HS21 := n3_; have BKgb31 := n4_; have HS48 := n5_; have FM57 := n6_; have FM63 := n7_; have HB := nB_; have HS := ns_; clear nB_ ns_ n0_ n1_ n2_ n3_ n4_ n5_ n6_ n7_; clear hk_ hs1_ hs2_ hw_ hB_ hb_; clear hd_; have hczgb1_0 : w64.cell? ⟨gb1, 0, none⟩ = some (.slice A0_0 l0_0.length c0_0) := (blk_cell BKgb1.out 0).trans rfl; have hfzgb1_0 := blk_frozen BKgb1.out 0; have hczgb31_0 : w64.cell? ⟨gb31, 0, none⟩ = some (.slice Ao29 l0_0.length co30) := (blk_cell BKgb31.out 0).trans rfl; have hfzgb31_0 := blk_frozen BKgb31.out 0; have hnbgb1gb31 : gb1 ≠ gb31 := (by have := CH.out; omega); have hnbgb31gb1 : gb31 ≠ gb1 := (by have := CH.out; omega)) | ((with_reducible refine gate_callee (f := 8) rfl ?_); refine goesL_ (some 79) rfl rfl Try.func8 (by kernel_rfl) rfl #[.agg #[.slice A0_0 l0_0.length c0_0]] rfl (by (try simp only [List.map_toArray, List.map_cons, List.map_nil]); first | done | rfl | (simp only [List.length_drop, List.length_take]; rfl)) ?_; (with_reducible refine (laws_toGraph.calls KE7 _ _ l0_0 l0_0 _ ?sidehr0_0 ?sidehc0_0 E7.out).mono ?_); (case sidehr0_0 => exact F_at (S := (fun _ => False)) FA0_0.out (by repeat (first | (with_reducible first | exact Kept.refl _ _ | apply Kept.alloc | apply Kept.drewN | apply Kept.drew) | exact Kept.refl _ _)) (fun _ _ hs_ => hs_.elim)); (case sidehc0_0 => exact HC0_0.out); rintro e w66 ⟨v67, rfl, hov0__, hb_⟩; refine ⟨_, rfl, ?_⟩; (try clear hczgb1_0); (try clear hfzgb1_0); (try clear hczgb31_0); (try clear hfzgb31_0); obtain ⟨hk_, hs1_, hs2_, hw_⟩ := ev_kept (S := (fun _ => False)) HS.out HB.out hb_ (by repeat (first | (with_reducible first | exact Kept.refl _ _ | apply Kept.alloc | apply Kept.drewN | apply Kept.drew) | exact Kept.refl _ _)); have hB_ := below_step (by repeat (first | (with_reducible first | exact HB.out | apply below_alloc | apply pw_below_drewN | apply below_drew1 | refine below_set ?_ GEgb1.out | refine below_set ?_ GEgb31.out) | exact HB.out)) hb_; have n0_ := Aside0.mk (Kd.F_kept FA0_0.out hk_ (fun _ _ hs_ => hs_.elim)); have n1_ := Aside0.mk (blk_below (g := gb1) (o := .cells #[.slice A0_0 l0_0.length c0_0] 24 (0, 0)) (by (with_reducible repeat (first | refine blk_drewN ?_ _ | refine blk_drew ?_ | refine blk_alloc ?_ _)); exact BKgb1.out) hb_); have n2_ := Aside0.mk (Kd.S_kept HS11.out hk_ (fun _ _ hs_ => hs_.elim)); have n3_ := Aside0.mk (Kd.S_kept HS21.out hk_ (fun _ _ hs_ => hs_.elim)); have n4_ := Aside0.mk (blk_below (g := gb31) (o := .cells #[.slice Ao29 l0_0.length co30] 28 (0, 0)) (by (with_reducible repeat (first | refine blk_drewN ?_ _ | refine blk_drew ?_ | refine blk_alloc ?_ _)); exact BKgb31.out) hb_); have n5_ := Aside0.mk (Kd.S_kept HS48.out hk_ (fun _ _ hs_ => hs_.elim)); have n6_ := Aside0.mk (Kd.F_kept FM57.out hk_ (fun _ _ hs_ => hs_.elim)); have n7_ := Aside0.mk (Kd.F_kept FM63.out hk_ (fun _ _ hs_ => hs_.elim)); have ns_ := Aside0.mk (Nat.le_trans (Nat.le_trans hs1_ hs2_) (Nat.le_refl _)); have nB_ := Aside0.mk hB_; obtain ⟨lo68, hi69, c1_, c2_, c3_, h_⟩ := S_new hov0__ hs2_ hw_ hs1_; have HS70 := Aside0.mk h_; obtain ⟨Ao71, co72, eo_⟩ := Kd.S_slice HS70.out; subst eo_; have HCHS70 := Aside0.mk (Kd.S_reads' HS70.out).2.1; clear h_ hov0__; have nc_ := Aside0.mk (And.intro c1_ (And.intro c2_ CH.out)); clear CH ns_; have CH := nc_; have ns_ := Aside0.mk c3_; clear nc_ c1_ c2_ c3_; clear HB HS FA0_0 BKgb1 HS11 HS21 BKgb31 HS48 FM57 FM63; have FA0_0 := n0_; have BKgb1 := n1_; have HS11 := n2_; have HS21 := n3_; have BKgb31 := n4_; have HS48 := n5_; have FM57 := n6_; have FM63 := n7_; have HB := nB_; have HS := ns_; clear nB_ ns_ n0_ n1_ n2_ n3_ n4_ n5_ n6_ n7_; clear hk_ hs1_ hs2_ hw_ hB_ hb_; have hczgb1_0 : w66.cell? ⟨gb1, 0, none⟩ = some (.slice A0_0 l0_0.length c0_0) := (blk_cell BKgb1.out 0).trans rfl; have hfzgb1_0 := blk_frozen BKgb1.out 0; have hczgb31_0 : w66.cell? ⟨gb31, 0, none⟩ = some (.slice Ao29 l0_0.length co30) := (blk_cell BKgb31.out 0).trans rfl; have hfzgb31_0 := blk_frozen BKgb31.out 0; have hnbgb1gb31 : gb1 ≠ gb31 := (by have := CH.out; omega); have hnbgb31gb1 : gb31 ≠ gb1 := (by have := CH.out; omega)) | ((with_reducible refine gate_callee (f := 9) rfl ?_); refine goesL_ (some 81) rfl rfl Try.func9 (by kernel_rfl) rfl #[.agg #[.slice Ao71 l0_0.length co72], .int .i64 a1] rfl (by (try simp only [List.map_toArray, List.map_cons, List.map_nil]); first | done | rfl | (simp only [List.length_drop, List.length_take]; rfl)) ?_; (with_reducible refine (impl_AllTrees.calls KE34 _ _ l0_0 a1 x15 x16 _ ?sidehr0_0 ?sidehc0_0 E34.out).mono ?_); (case sidehr0_0 => exact S_now (S := (fun _ => False)) HS70.out (by repeat (first | (with_reducible first | exact Kept.refl _ _ | apply Kept.alloc | apply Kept.drewN | apply Kept.drew) | exact Kept.refl _ _)) (fun _ _ hs_ => hs_.elim)); (case sidehc0_0 => exact HCHS70.out); rintro e w73 ⟨v74, rfl, hov0__, hb_⟩; refine ⟨_, rfl, ?_⟩; (try clear hczgb1_0); (try clear hfzgb1_0); (try clear hczgb31_0); (try clear hfzgb31_0); obtain ⟨hk_, hs1_, hs2_, hw_⟩ := ev_kept (S := (fun _ => False)) HS.out HB.out hb_ (by repeat (first | (with_reducible first | exact Kept.refl _ _ | apply Kept.alloc | apply Kept.drewN | apply Kept.drew) | exact Kept.refl _ _)); have hB_ := below_step (by repeat (first | (with_reducible first | exact HB.out | apply below_alloc | apply pw_below_drewN | apply below_drew1 | refine below_set ?_ GEgb1.out | refine below_set ?_ GEgb31.out) | exact HB.out)) hb_; have n0_ := Aside0.mk (Kd.F_kept FA0_0.out hk_ (fun _ _ hs_ => hs_.elim)); have n1_ := Aside0.mk (blk_below (g := gb1) (o := .cells #[.slice A0_0 l0_0.length c0_0] 24 (0, 0)) (by (with_reducible repeat (first | refine blk_drewN ?_ _ | refine blk_drew ?_ | refine blk_alloc ?_ _)); exact BKgb1.out) hb_); have n2_ := Aside0.mk (Kd.S_kept HS11.out hk_ (fun _ _ hs_ => hs_.elim)); have n3_ := Aside0.mk (Kd.S_kept HS21.out hk_ (fun _ _ hs_ => hs_.elim)); have n4_ := Aside0.mk (blk_below (g := gb31) (o := .cells #[.slice Ao29 l0_0.length co30] 28 (0, 0)) (by (with_reducible repeat (first | refine blk_drewN ?_ _ | refine blk_drew ?_ | refine blk_alloc ?_ _)); exact BKgb31.out) hb_); have n5_ := Aside0.mk (Kd.S_kept HS48.out hk_ (fun _ _ hs_ => hs_.elim)); have n6_ := Aside0.mk (Kd.F_kept FM57.out hk_ (fun _ _ hs_ => hs_.elim)); have n7_ := Aside0.mk (Kd.F_kept FM63.out hk_ (fun _ _ hs_ => hs_.elim)); have n8_ := Aside0.mk (Kd.S_kept HS70.out hk_ (fun _ _ hs_ => hs_.elim)); have ns_ := Aside0.mk (Nat.le_trans (Nat.le_trans hs1_ hs2_) (Nat.le_refl _)); have nB_ := Aside0.mk hB_; obtain ⟨lo75, hi76, c1_, c2_, c3_, h_⟩ := S_new hov0__ hs2_ hw_ hs1_; have HS77 := Aside0.mk h_; obtain ⟨Ao78, co79, eo_⟩ := Kd.S_slice HS77.out; subst eo_; have HCHS77 := Aside0.mk (Kd.S_reads' HS77.out).2.1; clear h_ hov0__; have nc_ := Aside0.mk (And.intro c1_ (And.intro c2_ CH.out)); clear CH ns_; have CH := nc_; have ns_ := Aside0.mk c3_; clear nc_ c1_ c2_ c3_; clear HB HS FA0_0 BKgb1 HS11 HS21 BKgb31 HS48 FM57 FM63 HS70; have FA0_0 := n0_; have BKgb1 := n1_; have HS11 := n2_; have HS21 := n3_; have BKgb31 := n4_; have HS48 := n5_; have FM57 := n6_; have FM63 := n7_; have HS70 := n8_; have HB := nB_; have HS := ns_; clear nB_ ns_ n0_ n1_ n2_ n3_ n4_ n5_ n6_ n7_ n8_; clear hk_ hs1_ hs2_ hw_ hB_ hb_; have hczgb1_0 : w73.cell? ⟨gb1, 0, none⟩ = some (.slice A0_0 l0_0.length c0_0) := (blk_cell BKgb1.out 0).trans rfl; have hfzgb1_0 := blk_frozen BKgb1.out 0; have hczgb31_0 : w73.cell? ⟨gb31, 0, none⟩ = some (.slice Ao29 l0_0.length co30) := (blk_cell BKgb31.out 0).trans rfl; have hfzgb31_0 := blk_frozen BKgb31.out 0; have hnbgb1gb31 : gb1 ≠ gb31 := (by have := CH.out; omega); have hnbgb31gb1 : gb31 ≠ gb1 := (by have := CH.out; omega)) | ((with_reducible refine gate_callee (f := 10) rfl ?_); refine goesL_ (some 86) rfl rfl Try.func10 (by kernel_rfl) rfl #[.slice Ao78 x15.length co79, .slice Ao22 x15.length co23] rfl (by (try simp only [List.map_toArray, List.map_cons, List.map_nil]); first | done | rfl | (simp only [List.length_drop, List.length_take]; rfl)) ?_; (with_reducible refine (laws_eqIntSS.calls KE42 _ _ x15 _ _ x15 true _ ?sidehr0 ?sidehc0 ?sidehr1 ?sidehc1 E42.out).mono ?_); (case sidehr0 => exact S_now (S := (fun _ => False)) HS77.out (by repeat (first | (with_reducible first | exact Kept.refl _ _ | apply Kept.alloc | apply Kept.drewN | apply Kept.drew) | exact Kept.refl _ _)) (fun _ _ hs_ => hs_.elim)); (case sidehc0 => exact HCHS77.out); (case sidehr1 => exact S_now (S := (fun _ => False)) HS21.out (by repeat (first | (with_reducible first | exact Kept.refl _ _ | apply Kept.alloc | apply Kept.drewN | apply Kept.drew) | exact Kept.refl _ _)) (fun _ _ hs_ => hs_.elim)); (case sidehc1 => exact HCHS21.out); rintro e w80 ⟨rfl, hd_⟩; refine ⟨_, rfl, ?_⟩; have hb_ := hd_.below; (try clear hczgb1_0); (try clear hfzgb1_0); (try clear hczgb31_0); (try clear hfzgb31_0); obtain ⟨hk_, hs1_, hs2_, hw_⟩ := ev_kept (S := (fun _ => False)) HS.out HB.out hb_ (by repeat (first | (with_reducible first | exact Kept.refl _ _ | apply Kept.alloc | apply Kept.drewN | apply Kept.drew) | exact Kept.refl _ _)); have hB_ := below_step (by repeat (first | (with_reducible first | exact HB.out | apply below_alloc | apply pw_below_drewN | apply below_drew1 | refine below_set ?_ GEgb1.out | refine below_set ?_ GEgb31.out) | exact HB.out)) hb_; have n0_ := Aside0.mk (Kd.F_kept FA0_0.out hk_ (fun _ _ hs_ => hs_.elim)); have n1_ := Aside0.mk (blk_below (g := gb1) (o := .cells #[.slice A0_0 l0_0.length c0_0] 24 (0, 0)) (by (with_reducible repeat (first | refine blk_drewN ?_ _ | refine blk_drew ?_ | refine blk_alloc ?_ _)); exact BKgb1.out) hb_); have n2_ := Aside0.mk (Kd.S_kept HS11.out hk_ (fun _ _ hs_ => hs_.elim)); have n3_ := Aside0.mk (Kd.S_kept HS21.out hk_ (fun _ _ hs_ => hs_.elim)); have n4_ := Aside0.mk (blk_below (g := gb31) (o := .cells #[.slice Ao29 l0_0.length co30] 28 (0, 0)) (by (with_reducible repeat (first | refine blk_drewN ?_ _ | refine blk_drew ?_ | refine blk_alloc ?_ _)); exact BKgb31.out) hb_); have n5_ := Aside0.mk (Kd.S_kept HS48.out hk_ (fun _ _ hs_ => hs_.elim)); have n6_ := Aside0.mk (Kd.F_kept FM57.out hk_ (fun _ _ hs_ => hs_.elim)); have n7_ := Aside0.mk (Kd.F_kept FM63.out hk_ (fun _ _ hs_ => hs_.elim)); have n8_ := Aside0.mk (Kd.S_kept HS70.out hk_ (fun _ _ hs_ => hs_.elim)); have n9_ := Aside0.mk (Kd.S_kept HS77.out hk_ (fun _ _ hs_ => hs_.elim)); have ns_ := Aside0.mk (Nat.le_trans (Nat.le_trans hs1_ hs2_) (Nat.le_refl _)); have nB_ := Aside0.mk hB_; clear HB HS FA0_0 BKgb1 HS11 HS21 BKgb31 HS48 FM57 FM63 HS70 HS77; have FA0_0 := n0_; have BKgb1 := n1_; have HS11 := n2_; have HS21 := n3_; have BKgb31 := n4_; have HS48 := n5_; have FM57 := n6_; have FM63 := n7_; have HS70 := n8_; have HS77 := n9_; have HB := nB_; have HS := ns_; clear nB_ ns_ n0_ n1_ n2_ n3_ n4_ n5_ n6_ n7_ n8_ n9_; clear hk_ hs1_ hs2_ hw_ hB_ hb_; clear hd_; have hczgb1_0 : w80.cell? ⟨gb1, 0, none⟩ = some (.slice A0_0 l0_0.length c0_0) := (blk_cell BKgb1.out 0).trans rfl; have hfzgb1_0 := blk_frozen BKgb1.out 0; have hczgb31_0 : w80.cell? ⟨gb31, 0, none⟩ = some (.slice Ao29 l0_0.length co30) := (blk_cell BKgb31.out 0).trans rfl; have hfzgb31_0 := blk_frozen BKgb31.out 0; have hnbgb1gb31 : gb1 ≠ gb31 := (by have := CH.out; omega); have hnbgb31gb1 : gb31 ≠ gb1 := (by have := CH.out; omega)) | ((with_reducible refine gate_callee (f := 14) rfl ?_); refine goesL_ (some 95) rfl rfl Try.func14 (by kernel_rfl) rfl #[.slice Ao39 x15.length co40, .int .i64 1] rfl (by (try simp only [List.map_toArray, List.map_cons, List.map_nil]); first | done | rfl | (simp only [List.length_drop, List.length_take]; rfl)) ?_; refine calls_len (args' := #[.slice Ao39 x61.length co40, .int .i64 1]) (by simp only [HLFM63.out]) ?_; (with_reducible refine (laws_heldIntSS.calls KE65 _ _ x61 1 x60 _ ?sidehr0 ?sidehc0 E65.out).mono ?_); (case sidehr0 => exact F_at (S := (fun _ => False)) FM63.out (by repeat (first | (with_reducible first | exact Kept.refl _ _ | apply Kept.alloc | apply Kept.drewN | apply Kept.drew) | exact Kept.refl _ _)) (fun _ _ hs_ => hs_.elim)); (case sidehc0 => exact HCHS38_.out); rintro e w81 ⟨rfl, hd_⟩; refine ⟨_, rfl, ?_⟩; have hb_ := hd_.below; (try clear hczgb1_0); (try clear hfzgb1_0); (try clear hczgb31_0); (try clear hfzgb31_0); obtain ⟨hk_, hs1_, hs2_, hw_⟩ := ev_kept (S := (fun _ => False)) HS.out HB.out hb_ (by repeat (first | (with_reducible first | exact Kept.refl _ _ | apply Kept.alloc | apply Kept.drewN | apply Kept.drew) | exact Kept.refl _ _)); have hB_ := below_step (by repeat (first | (with_reducible first | exact HB.out | apply below_alloc | apply pw_below_drewN | apply below_drew1 | refine below_set ?_ GEgb1.out | refine below_set ?_ GEgb31.out) | exact HB.out)) hb_; have n0_ := Aside0.mk (Kd.F_kept FA0_0.out hk_ (fun _ _ hs_ => hs_.elim)); have n1_ := Aside0.mk (blk_below (g := gb1) (o := .cells #[.slice A0_0 l0_0.length c0_0] 24 (0, 0)) (by (with_reducible repeat (first | refine blk_drewN ?_ _ | refine blk_drew ?_ | refine blk_alloc ?_ _)); exact BKgb1.out) hb_); have n2_ := Aside0.mk (Kd.S_kept HS11.out hk_ (fun _ _ hs_ => hs_.elim)); have n3_ := Aside0.mk (Kd.S_kept HS21.out hk_ (fun _ _ hs_ => hs_.elim)); have n4_ := Aside0.mk (blk_below (g := gb31) (o := .cells #[.slice Ao29 l0_0.length co30] 28 (0, 0)) (by (with_reducible repeat (first | refine blk_drewN ?_ _ | refine blk_drew ?_ | refine blk_alloc ?_ _)); exact BKgb31.out) hb_); have n5_ := Aside0.mk (Kd.S_kept HS48.out hk_ (fun _ _ hs_ => hs_.elim)); have n6_ := Aside0.mk (Kd.F_kept FM57.out hk_ (fun _ _ hs_ => hs_.elim)); have n7_ := Aside0.mk (Kd.F_kept FM63.out hk_ (fun _ _ hs_ => hs_.elim)); have n8_ := Aside0.mk (Kd.S_kept HS70.out hk_ (fun _ _ hs_ => hs_.elim)); have n9_ := Aside0.mk (Kd.S_kept HS77.out hk_ (fun _ _ hs_ => hs_.elim)); have ns_ := Aside0.mk (Nat.le_trans (Nat.le_trans hs1_ hs2_) (Nat.le_refl _)); have nB_ := Aside0.mk hB_; clear HB HS FA0_0 BKgb1 HS11 HS21 BKgb31 HS48 FM57 FM63 HS70 HS77; have FA0_0 := n0_; have BKgb1 := n1_; have HS11 := n2_; have HS21 := n3_; have BKgb31 := n4_; have HS48 := n5_; have FM57 := n6_; have FM63 := n7_; have HS70 := n8_; have HS77 := n9_; have HB := nB_; have HS := ns_; clear nB_ ns_ n0_ n1_ n2_ n3_ n4_ n5_ n6_ n7_ n8_ n9_; clear hk_ hs1_ hs2_ hw_ hB_ hb_; clear hd_; have hczgb1_0 : w81.cell? ⟨gb1, 0, none⟩ = some (.slice A0_0 l0_0.length c0_0) := (blk_cell BKgb1.out 0).trans rfl; have hfzgb1_0 := blk_frozen BKgb1.out 0; have hczgb31_0 : w81.cell? ⟨gb31, 0, none⟩ = some (.slice Ao29 l0_0.length co30) := (blk_cell BKgb31.out 0).trans rfl; have hfzgb31_0 := blk_frozen BKgb31.out 0; have hnbgb1gb31 : gb1 ≠ gb31 := (by have := CH.out; omega); have hnbgb31gb1 : gb31 ≠ gb1 := (by have := CH.out; omega)))
 go_ret
 exact ⟨by first | rfl | (simp; done), by repeat (first | (with_reducible first | exact HB.out | apply below_alloc | apply pw_below_drewN | apply below_drew1 | refine below_set ?_ GEgb1.out | refine below_set ?_ GEgb31.out) | exact HB.out)⟩

end Go.Proofs.Ythjkhbfaenidpaa.P
namespace Go.Proofs.Ythjkhbfaenidpaa.M
open Go.RowKit Go.Proofs.Ythjkhbfaenidpaa.P Go.Proofs.Ythjkhbfaenidpaa.In Go.Proofs.YthjkhbfaenidpaaW.PrintWords Go.Proofs.YthjkhbfaenidpaaW.PrintLast
set_option linter.unusedVariables false
set_option linter.unusedSimpArgs false
/-! numbers -/
theorem wrap_id {x : Int} (h : -9223372036854775808 ≤ x ∧ x ≤ 9223372036854775807) : wrap64 x = x := by unfold wrap64; omega
theorem wrap_nat {n : Nat} (h : n < 9223372036854775807) : wrap64 ((n : Int) + 1) = ((n + 1 : Nat) : Int) := by unfold wrap64; omega
theorem rd_at {l : List Int} {n : Nat} (h : n < l.length) : rd l (n : Int) = l[n] := by simp [rd, h]
theorem rdL_at {l : List (List Int)} {n : Nat} (h : n < l.length) : rd_L1 l (n : Int) = l[n] := by simp [rd_L1, h]
theorem _root_.Go.Proofs.YthjkhbfaenidpaaW.PrintWords.Ev.val {α : Type} {g : Nat → Option α} {r r' : α} (h : Ev g r) (e : r = r') : Ev g r' := e ▸ h
theorem _root_.Go.Proofs.YthjkhbfaenidpaaW.PrintWords.Ev.const {α : Type} {g : Nat → Option α} {r : α} (h : ∀ k, g k = some r) : Ev g r := ⟨0, fun k _ => h k⟩
theorem _root_.Go.Proofs.YthjkhbfaenidpaaW.PrintWords.Ev.const1 {α : Type} {g : Nat → Option α} {r : α} (h : ∀ k, g (k + 1) = some r) : Ev g r := Ev.step (f := fun _ => some r) h (Ev.const fun _ => rfl)
theorem _root_.Go.Proofs.YthjkhbfaenidpaaW.PrintWords.Ev.succ {α : Type} {g : Nat → Option α} {r : α} (h : Ev (fun k => g (k + 1)) r) : Ev g r := Ev.step (f := fun k => g (k + 1)) (fun _ => rfl) h
theorem _root_.Go.Proofs.YthjkhbfaenidpaaW.PrintWords.Ev.uniq {α : Type} {g : Nat → Option α} {r r' : α} (h : Ev g r) (h' : Ev g r') : r = r' := by
 obtain ⟨K, hK⟩ := h
 obtain ⟨K', hK'⟩ := h'
 have := (hK (max K K') (Nat.le_max_left _ _)).symm.trans (hK' (max K K') (Nat.le_max_right _ _))
 exact Option.some.inj this
theorem _root_.Go.Proofs.YthjkhbfaenidpaaW.PrintWords.Ev.bind0 {α β : Type} {g : Option α} {f : Nat → α → Option β} {a : α} {r : β} (h : g = some a) (k : Ev (fun n => f n a) r) : Ev (fun n => g.bind (f n)) r := by
 subst h; exact k
theorem _root_.Go.Proofs.YthjkhbfaenidpaaW.PrintWords.Ev.pos {α : Type} {g f : Nat → Option α} {r : α} {c : Prop} [Decidable c] (h : c) (k : Ev g r) : Ev (fun n => if c then g n else f n) r := by
 simp only [if_pos h]; exact k
theorem _root_.Go.Proofs.YthjkhbfaenidpaaW.PrintWords.Ev.neg {α : Type} {g f : Nat → Option α} {r : α} {c : Prop} [Decidable c] (h : ¬ c) (k : Ev f r) : Ev (fun n => if c then g n else f n) r := by
 simp only [if_neg h]; exact k

/-! copies -/
theorem toIntS_l0 (l : List Int) (hl : l.length < 9223372036854775807) : ∀ (d i : Nat) (y : List Int), l.length - i = d → i ≤ l.length → y.length = l.length → y.take i = l.take i → Ev (fun k => laws_toIntS.l0 k l y i) l := by
 intro d
 induction d with
 | zero =>
  intro i y hd hi hy ht
  have : i = l.length := by omega
  subst this
  refine Ev.const1 (fun k => ?_)
  simp only [laws_toIntS.l0]
  rw [if_neg (by omega)]
  rw [List.take_of_length_le (by omega), List.take_of_length_le (by omega)] at ht
  rw [ht]
 | succ d ih =>
  intro i y hd hi hy ht
  have hlt : i < l.length := by omega
  refine Ev.step (f := fun k => laws_toIntS.l0 k l (y.set i l[i]) (i + 1 : Nat)) (fun k => ?_) (ih (i + 1) (y.set i l[i]) (by omega) (by omega) (by rw [List.length_set]; exact hy) ?_)
  ·simp only [laws_toIntS.l0]
   rw [if_pos (by omega), if_pos (by omega), if_pos (by omega), wrap_nat (by omega), rd_at hlt, Int.toNat_natCast]
  ·rw [List.take_succ_eq_append_getElem (by rw [List.length_set]; omega), List.take_succ_eq_append_getElem hlt, List.take_set_of_le (Nat.le_refl _), ht, List.getElem_set_self]
theorem toIntS (l : List Int) (hl : l.length ≤ 35184372088832) : Ev (fun k => laws_toIntS.f k l) l := by
 unfold laws_toIntS.f
 refine Ev.pos (by omega) (Ev.pos (by omega) ?_)
 exact toIntS_l0 l (by omega) l.length 0 _ (by omega) (by omega) (by simp) (by simp)
theorem toIntSS_l0 (l : List (List Int)) (hl : l.length < 9223372036854775807) (hr : ∀ row ∈ l, row.length ≤ 35184372088832) : ∀ (d i : Nat) (y : List (List Int)), l.length - i = d → i ≤ l.length → y.length = l.length → y.take i = l.take i → Ev (fun k => laws_toIntSS.l0 k l y i) l := by
 intro d
 induction d with
 | zero =>
  intro i y hd hi hy ht
  have : i = l.length := by omega
  subst this
  refine Ev.const1 (fun k => ?_)
  simp only [laws_toIntSS.l0]
  rw [if_neg (by omega)]
  rw [List.take_of_length_le (by omega), List.take_of_length_le (by omega)] at ht
  rw [ht]
 | succ d ih =>
  intro i y hd hi hy ht
  have hlt : i < l.length := by omega
  refine Ev.step (f := fun k => (laws_toIntS.f k l[i]).bind fun t => laws_toIntSS.l0 k l (y.set i t) (i + 1 : Nat)) (fun k => ?_) (Ev.bind (toIntS l[i] (hr _ (List.getElem_mem hlt))) (ih (i + 1) (y.set i l[i]) (by omega) (by omega) (by rw [List.length_set]; exact hy) ?_))
  ·simp only [laws_toIntSS.l0]
   rw [if_pos (by omega), if_pos (by omega), wrap_nat (by omega), rdL_at hlt, Int.toNat_natCast]
   congr 1
   funext t
   rw [if_pos (by omega)]
  ·rw [List.take_succ_eq_append_getElem (by rw [List.length_set]; omega), List.take_succ_eq_append_getElem hlt, List.take_set_of_le (Nat.le_refl _), ht, List.getElem_set_self]
theorem toIntSS (l : List (List Int)) (hl : l.length ≤ 11728124029610) (hr : ∀ row ∈ l, row.length ≤ 35184372088832) : Ev (fun k => laws_toIntSS.f k l) l := by
 unfold laws_toIntSS.f
 refine Ev.pos (by omega) (Ev.pos (by omega) ?_)
 exact toIntSS_l0 l (by omega) hr l.length 0 _ (by omega) (by omega) (by simp) (by simp)
/-- A graph that is small enough for a law to look at it. -/
def small (l : List (List Int)) : Prop := l.length ≤ 1048576 ∧ ∀ row ∈ l, row.length ≤ 1048576
theorem toGraph (l : List (List Int)) (h : small l) : Ev (fun k => laws_toGraph.f k l) l := by
 unfold laws_toGraph.f
 exact Ev.bind (toIntSS l (by have := h.1; omega) (fun row hr => by have := h.2 row hr; omega)) (Ev.now _)

/-! sizes -/
theorem szIntSS_l0 (l : List (List Int)) (hl : okSS l) : ∀ (d i : Nat) (a : Int), l.length - i = d → i ≤ l.length → 0 ≤ a → a ≤ 1048576 → ∃ r, Ev (fun k => laws_szIntSS.l0 k l a i) r ∧ r ≤ 1048576 ∧ (0 ≤ r → ∀ j (hj : j < l.length), i ≤ j → l[j].length ≤ 1048576) := by
 intro d
 induction d with
 | zero =>
  intro i a hd hi h0 h1
  refine ⟨a, Ev.const1 (fun k => ?_), h1, fun _ j hj hij => by omega⟩
  simp only [laws_szIntSS.l0]
  rw [if_neg (by omega)]
 | succ d ih =>
  intro i a hd hi h0 h1
  have hlt : i < l.length := by omega
  have hll := hl.1
  have hrow := (hl.2 _ (List.getElem_mem hlt)).1
  by_cases hneg : a - (l[i].length : Int) < 0
  ·refine ⟨-1, Ev.const1 (fun k => ?_), by omega, fun h => by omega⟩
   simp only [laws_szIntSS.l0, laws_szIntS.f]
   rw [if_pos (by omega), if_pos (by omega), rdL_at hlt, if_pos (by rw [wrap_id (by omega)]; exact hneg)]
   rfl
  ·obtain ⟨r, h2, h3, h4⟩ := ih (i + 1) (a - (l[i].length : Int)) (by omega) (by omega) (by omega) (by omega)
   refine ⟨r, Ev.step (fun k => ?_) h2, h3, fun h j hj hij => ?_⟩
   ·simp only [laws_szIntSS.l0, laws_szIntS.f]
    rw [if_pos (by omega), if_pos (by omega), rdL_at hlt, wrap_id (by omega), if_neg hneg, wrap_nat (by omega)]
    simp only [Option.bind_some]
    rw [if_neg hneg]
   ·by_cases e : j = i
    ·subst e; omega
    ·exact h4 h j hj (by omega)
theorem szGraph (l : List (List Int)) (hl : okSS l) : ∃ r, Ev (fun k => laws_szGraph.f k l 1048576) r ∧ r ≤ 1048576 ∧ (0 ≤ r → small l) := by
 have hll := hl.1
 unfold laws_szGraph.f laws_szIntSS.f
 rw [wrap_id (by omega)]
 by_cases h : (1048576 : Int) - (l.length : Int) < 0
 ·exact ⟨-1, Ev.bind (Ev.pos h (Ev.now _)) (Ev.pos (by omega) (Ev.now _)), by omega, fun h => by omega⟩
 ·obtain ⟨r, h2, h3, h4⟩ := szIntSS_l0 l hl l.length 0 (1048576 - (l.length : Int)) (by omega) (by omega) (by omega) (by omega)
  by_cases hr : r < 0
  ·exact ⟨-1, Ev.bind (Ev.neg h h2) (Ev.pos hr (Ev.now _)), by omega, fun h => by omega⟩
  ·refine ⟨r, Ev.bind (Ev.neg h h2) (Ev.neg hr (Ev.now _)), h3, fun h0 => ⟨by omega, fun row hrow => ?_⟩⟩
   obtain ⟨j, hj, rfl⟩ := List.getElem_of_mem hrow
   exact h4 h0 j hj (Nat.zero_le _)

/-! comparisons -/
theorem cons_dec {α : Type} [DecidableEq α] {a b : α} {l m : List α} (e : a = b) : decide (l = m) = decide (a :: l = b :: m) := by
 subst e; exact decide_eq_decide.mpr ⟨fun h => by rw [h], fun h => (List.cons.inj h).2⟩
theorem eqIntS_l0 (x y : List Int) (hl : x.length ≤ 9223372036854775807) (hxy : x.length = y.length) : ∀ (d i : Nat), x.length - i = d → i ≤ x.length → Ev (fun k => laws_eqIntS.l0 k x y i) (decide (x.drop i = y.drop i)) := by
 intro d
 induction d with
 | zero =>
  intro i hd hi
  refine Ev.const1 (fun k => ?_)
  simp only [laws_eqIntS.l0]
  rw [if_neg (by omega), List.drop_of_length_le (by omega), List.drop_of_length_le (by omega)]
  simp
 | succ d ih =>
  intro i hd hi
  have hlt : i < x.length := by omega
  have hlt2 : i < y.length := by omega
  rw [List.drop_eq_getElem_cons hlt, List.drop_eq_getElem_cons hlt2]
  by_cases e : x[i] = y[i]
  ·refine Ev.step (f := fun k => laws_eqIntS.l0 k x y (i + 1 : Nat)) (fun k => ?_) ((ih (i + 1) (by omega) (by omega)).val (cons_dec e))
   simp only [laws_eqIntS.l0]
   rw [if_pos (by omega), if_pos (by omega), if_pos (by omega), rd_at hlt, rd_at hlt2, if_pos e, wrap_nat (by omega)]
  ·refine Ev.const1 (fun k => ?_)
   simp only [laws_eqIntS.l0]
   rw [if_pos (by omega), if_pos (by omega), if_pos (by omega), rd_at hlt, rd_at hlt2, if_neg e, decide_eq_false (fun h => e (List.cons.inj h).1)]
theorem eqIntS (x y : List Int) (hl : x.length ≤ 9223372036854775807) : Ev (fun k => laws_eqIntS.f k x y) (decide (x = y)) := by
 unfold laws_eqIntS.f
 by_cases h : x.length = y.length
 ·refine Ev.pos (by omega) ?_
  exact eqIntS_l0 x y hl h x.length 0 (by omega) (by omega)
 ·refine Ev.neg (by omega) ?_
  exact (Ev.now _).val (by have : x ≠ y := fun e => h (by rw [e]); simp [this])
theorem eqIntSS_l0 (x y : List (List Int)) (hl : x.length ≤ 9223372036854775807) (hr : ∀ row ∈ x, row.length ≤ 9223372036854775807) (hxy : x.length = y.length) : ∀ (d i : Nat), x.length - i = d → i ≤ x.length → Ev (fun k => laws_eqIntSS.l0 k x y i) (decide (x.drop i = y.drop i)) := by
 intro d
 induction d with
 | zero =>
  intro i hd hi
  refine Ev.const1 (fun k => ?_)
  simp only [laws_eqIntSS.l0]
  rw [if_neg (by omega), List.drop_of_length_le (by omega), List.drop_of_length_le (by omega)]
  simp
 | succ d ih =>
  intro i hd hi
  have hlt : i < x.length := by omega
  have hlt2 : i < y.length := by omega
  rw [List.drop_eq_getElem_cons hlt, List.drop_eq_getElem_cons hlt2]
  refine Ev.step (f := fun k => (laws_eqIntS.f k x[i] y[i]).bind fun t => if t = true then laws_eqIntSS.l0 k x y (i + 1 : Nat) else some false) (fun k => ?_) ?_
  ·simp only [laws_eqIntSS.l0]
   rw [if_pos (by omega), if_pos (by omega), if_pos (by omega), rdL_at hlt, rdL_at hlt2, wrap_nat (by omega)]
  ·by_cases e : x[i] = y[i]
   ·exact Ev.bind ((eqIntS x[i] y[i] (hr _ (List.getElem_mem hlt))).val (decide_eq_true e)) (Ev.pos rfl ((ih (i + 1) (by omega) (by omega)).val (cons_dec e)))
   ·exact Ev.bind ((eqIntS x[i] y[i] (hr _ (List.getElem_mem hlt))).val (decide_eq_false e)) (Ev.neg (by simp) ((Ev.now _).val (decide_eq_false (fun h => e (List.cons.inj h).1)).symm))
theorem eqIntSS (x y : List (List Int)) (hl : x.length ≤ 9223372036854775807) (hr : ∀ row ∈ x, row.length ≤ 9223372036854775807) : Ev (fun k => laws_eqIntSS.f k x y) (decide (x = y)) := by
 unfold laws_eqIntSS.f
 by_cases h : x.length = y.length
 ·refine Ev.pos (by omega) ?_
  exact eqIntSS_l0 x y hl hr h x.length 0 (by omega) (by omega)
 ·refine Ev.neg (by omega) ?_
  exact (Ev.now _).val (by have : x ≠ y := fun e => h (by rw [e]); simp [this])
theorem eqGraph (x y : List (List Int)) (hl : x.length ≤ 9223372036854775807) (hr : ∀ row ∈ x, row.length ≤ 9223372036854775807) : Ev (fun k => laws_eqGraph.f k x y) (decide (x = y)) := by
 unfold laws_eqGraph.f
 refine Ev.bind (eqIntSS x y hl hr) ?_
 by_cases e : x = y
 ·exact Ev.pos (decide_eq_true e) ((Ev.now _).val (decide_eq_true e).symm)
 ·exact Ev.neg (by simp [e]) ((Ev.now _).val (decide_eq_false e).symm)
theorem small_eq (l : List (List Int)) (h : small l) : Ev (fun k => laws_eqGraph.f k l l) true := (eqGraph l l (by have := h.1; omega) (fun row hr => by have := h.2 row hr; omega)).val (decide_eq_true rfl)

/-! what a graph is -/
theorem l1In (a lo hi : Int) : spec_l1In.f a lo hi = some (decide (lo ≤ a) && decide (a ≤ hi)) := by
 unfold spec_l1In.f
 by_cases h : a ≥ lo
 ·rw [if_pos h]; have : lo ≤ a := h; simp [this]
 ·rw [if_neg h]; have : ¬ lo ≤ a := h; simp [this]
theorem implin (a lo hi : Int) : impl_in.f a lo hi = some (decide (lo ≤ a) && decide (a ≤ hi)) := by
 unfold impl_in.f
 by_cases h : lo ≤ a
 ·rw [if_pos h]; simp [h]
 ·rw [if_neg h]; simp [h]
theorem l1All_l0 (l : List Int) (lo hi : Int) (hl : l.length ≤ 9223372036854775807) : ∀ (d i : Nat), l.length - i = d → i ≤ l.length → Ev (fun k => spec_l1All.l0 k lo hi l l.length i) ((l.drop i).all fun x => decide (lo ≤ x) && decide (x ≤ hi)) := by
 intro d
 induction d with
 | zero =>
  intro i hd hi
  refine Ev.const1 (fun k => ?_)
  simp only [spec_l1All.l0]
  rw [if_neg (by omega), List.drop_of_length_le (by omega)]
  rfl
 | succ d ih =>
  intro i hd hi'
  have hlt : i < l.length := by omega
  rw [List.drop_eq_getElem_cons hlt, List.all_cons]
  by_cases e : (decide (lo ≤ l[i]) && decide (l[i] ≤ hi)) = true
  ·refine Ev.step (f := fun k => spec_l1All.l0 k lo hi l l.length (i + 1 : Nat)) (fun k => ?_) ((ih (i + 1) (by omega) (by omega)).val (by rw [e]; simp))
   simp only [spec_l1All.l0, l1In]
   rw [if_pos (by omega), if_pos (by omega), if_pos (by omega), rd_at hlt, wrap_nat (by omega)]
   simp only [Option.bind_some]
   rw [if_pos e]
  ·refine Ev.const1 (fun k => ?_)
   simp only [spec_l1All.l0, l1In]
   rw [if_pos (by omega), if_pos (by omega), if_pos (by omega), rd_at hlt]
   simp only [Option.bind_some]
   rw [if_neg e]
   simp only [Bool.not_eq_true] at e
   rw [e]; rfl
theorem l1All (l : List Int) (lo hi : Int) (hl : l.length ≤ 9223372036854775807) : Ev (fun k => spec_l1All.f k l lo hi) (l.all fun x => decide (lo ≤ x) && decide (x ≤ hi)) := by
 unfold spec_l1All.f
 exact l1All_l0 l lo hi hl l.length 0 (by omega) (by omega)
theorem grGood_l0 (l : List (List Int)) (hl : okSS l) : ∀ (d i : Nat), l.length - i = d → i ≤ l.length → Ev (fun k => spec_grGood.l0 k l.length l l.length i) ((l.drop i).all (goodRow l.length)) := by
 intro d
 induction d with
 | zero =>
  intro i hd hi
  refine Ev.const1 (fun k => ?_)
  simp only [spec_grGood.l0]
  rw [if_neg (by omega), List.drop_of_length_le (by omega)]
  rfl
 | succ d ih =>
  intro i hd hi'
  have hlt : i < l.length := by omega
  have hll := hl.1
  have hrow := (hl.2 _ (List.getElem_mem hlt)).1
  rw [List.drop_eq_getElem_cons hlt, List.all_cons]
  by_cases h5 : l[i].length ≤ 5
  ·refine Ev.step (f := fun k => (spec_l1All.f k l[i] 0 ((l.length : Int) - 1)).bind fun t => if t = true then spec_grGood.l0 k l.length l l.length (i + 1 : Nat) else some false) (fun k => ?_) ?_
   ·simp only [spec_grGood.l0]
    rw [if_pos (by omega), if_pos (by omega), if_pos (by omega), rdL_at hlt, if_neg (by omega), wrap_nat (by omega), wrap_id (by omega)]
   ·by_cases e : (l[i].all fun x => decide (0 ≤ x) && decide (x ≤ (l.length : Int) - 1)) = true
    ·exact Ev.bind ((l1All _ 0 _ hrow).val e) (Ev.pos rfl ((ih (i + 1) (by omega) (by omega)).val (by unfold goodRow; rw [e]; simp [h5])))
    ·exact Ev.bind ((l1All _ 0 _ hrow).val (Bool.eq_false_iff.mpr e)) (Ev.neg (by simp) ((Ev.now _).val (by unfold goodRow; simp only [Bool.not_eq_true] at e; rw [e]; simp)))
  ·refine Ev.const1 (fun k => ?_)
   simp only [spec_grGood.l0]
   rw [if_pos (by omega), if_pos (by omega), if_pos (by omega), rdL_at hlt, if_pos (by omega)]
   simp [goodRow, h5]
theorem grGood (l : List (List Int)) (hl : okSS l) : Ev (fun k => spec_grGood.f k l) (goodG l) := by
 unfold spec_grGood.f
 rw [l1In]
 simp only [Option.bind_some]
 by_cases h : 1 ≤ l.length ∧ l.length ≤ 8
 ·have h1 : (1 : Int) ≤ l.length := by omega
  have h2 : (l.length : Int) ≤ 8 := by omega
  refine Ev.pos (by simp [h1, h2]) ?_
  exact (grGood_l0 l hl l.length 0 (by omega) (by omega)).val (by simp [goodG, h.1, h.2])
 ·refine Ev.neg (by simp; omega) ((Ev.now _).val ?_)
  unfold goodG
  by_cases h1 : 1 ≤ l.length
  ·have h2 : ¬ l.length ≤ 8 := by omega
   simp [h1, h2]
  ·simp [h1]
theorem ok_small {l : List (List Int)} (h : okSS l) : l.length ≤ 9223372036854775807 ∧ ∀ row ∈ l, row.length ≤ 9223372036854775807 := ⟨h.1, fun row hr => (h.2 row hr).1⟩
theorem good_iff {l : List (List Int)} (h : goodG l = true) : (1 ≤ l.length ∧ l.length ≤ 8) ∧ ∀ row ∈ l, row.length ≤ 5 ∧ ∀ q ∈ row, 0 ≤ q ∧ q < (l.length : Int) := by
 simp only [goodG, goodRow, Bool.and_eq_true, decide_eq_true_eq, List.all_eq_true] at h
 refine ⟨⟨h.1, h.2.1⟩, fun row hr => ⟨(h.2.2 row hr).1, fun q hq => ?_⟩⟩
 have := (h.2.2 row hr).2 q hq
 omega
/-- A place of a graph. -/
def placeB (l : List (List Int)) (p : Int) : Bool := goodG l && (decide (0 ≤ p) && decide (p ≤ (l.length : Int) - 1))
theorem place_iff {l : List (List Int)} {p : Int} (h : placeB l p = true) : goodG l = true ∧ 0 ≤ p ∧ p < (l.length : Int) := by
 simp only [placeB, Bool.and_eq_true, decide_eq_true_eq] at h
 exact ⟨h.1, h.2.1, by omega⟩
theorem grPlace (l : List (List Int)) (p : Int) (hl : okSS l) : Ev (fun k => spec_grPlace.f k l p) (placeB l p) := by
 unfold spec_grPlace.f
 have hll := hl.1
 refine Ev.bind (grGood l hl) ?_
 by_cases h : goodG l = true
 ·refine Ev.pos h ?_
  rw [l1In, wrap_id (by omega)]
  exact Ev.bind0 rfl ((Ev.now _).val (by simp [placeB, h]))
 ·exact Ev.neg h ((Ev.now _).val (by simp only [Bool.not_eq_true] at h; simp [placeB, h]))
theorem has1 (l : List (List Int)) (p : Int) : impl_has.f l [p] = some (placeB l p) := by
 unfold impl_has.f placeB; simp
theorem has2 (l : List (List Int)) (p q : Int) : impl_has.f l [p, q] = some (placeB l p && placeB l q) := by
 unfold impl_has.f placeB
 cases goodG l <;> simp

theorem rd_get {l : List Int} {q : Int} (h0 : 0 ≤ q) (h1 : q < (l.length : Int)) : rd l q = l[q.toNat]'(by omega) := by
 unfold rd; rw [List.getD_eq_getElem?_getD, List.getElem?_eq_getElem (by omega)]; rfl
theorem rdL_get {l : List (List Int)} {q : Int} (h0 : 0 ≤ q) (h1 : q < (l.length : Int)) : rd_L1 l q = l[q.toNat]'(by omega) := by
 unfold rd_L1; rw [List.getD_eq_getElem?_getD, List.getElem?_eq_getElem (by omega)]; rfl
theorem rd_set {o : List Int} {q x v : Int} (hq0 : 0 ≤ q) (hq : q < (o.length : Int)) (hx0 : 0 ≤ x) : rd (o.set q.toNat v) x = if x = q then v else rd o x := by
 unfold rd
 rw [List.getD_eq_getElem?_getD, List.getElem?_set, List.getD_eq_getElem?_getD]
 by_cases e : x = q
 ·subst e; rw [if_pos rfl, if_pos (by omega), if_pos rfl]; rfl
 ·rw [if_neg (by omega), if_neg e]
theorem drop_rd {row : List Int} {i : Nat} (h : i < row.length) : row.drop i = rd row (i : Int) :: row.drop (i + 1) := by
 rw [List.drop_eq_getElem_cons h, rd_at h]
theorem place_of {g : List (List Int)} (hg : goodG g = true) {i : Nat} (hi : i < g.length) : placeB g (i : Int) = true := by
 unfold placeB; rw [hg]; simp; omega
end Go.Proofs.Ythjkhbfaenidpaa.M
namespace Go.Proofs.Ythjkhbfaenidpaa.M

set_option linter.unusedVariables false
set_option linter.unusedSimpArgs false
namespace DetKit

/-- The j-th index where k is left out. -/
def skip (k j : Nat) : Nat := if j < k then j else j + 1
/-- f 0 + .. + f (n - 1). -/
def sm : Nat → (Nat → Int) → Int
 | 0, _ => 0
 | n + 1, f => sm n f + f n
def sg (k : Nat) : Int := if k % 2 = 0 then 1 else -1
def D : Nat → (Nat → Nat → Int) → Int
 | 0, _ => 1
 | n + 1, A => sm (n + 1) (fun k => sg k * A 0 k * D n (fun i j => A (i + 1) (skip k j)))

theorem sm_congr {n : Nat} {f g : Nat → Int} (h : ∀ i, i < n → f i = g i) : sm n f = sm n g := by
 induction n with
 | zero => rfl
 | succ n ih => simp only [sm]; rw [ih (fun i hi => h i (by omega)), h n (by omega)]
theorem sm_zero {n : Nat} {f : Nat → Int} (h : ∀ i, i < n → f i = 0) : sm n f = 0 := by
 induction n with
 | zero => rfl
 | succ n ih => simp only [sm]; rw [ih (fun i hi => h i (by omega)), h n (by omega)]; rfl
theorem sm_add (n : Nat) (f g : Nat → Int) : sm n (fun i => f i + g i) = sm n f + sm n g := by
 induction n with
 | zero => rfl
 | succ n ih => simp only [sm]; rw [ih]; omega
theorem sm_mul (n : Nat) (c : Int) (f : Nat → Int) : sm n (fun i => c * f i) = c * sm n f := by
 induction n with
 | zero => simp [sm]
 | succ n ih => simp only [sm]; rw [ih, Int.mul_add]
theorem sm_neg (n : Nat) (f : Nat → Int) : sm n (fun i => - f i) = - sm n f := by
 induction n with
 | zero => simp [sm]
 | succ n ih => simp only [sm]; rw [ih]; omega
theorem sm_head (n : Nat) (f : Nat → Int) : sm (n + 1) f = f 0 + sm n (fun i => f (i + 1)) := by
 induction n with
 | zero => simp [sm]
 | succ n ih => rw [show sm (n + 1 + 1) f = sm (n + 1) f + f (n + 1) from rfl, ih]; simp only [sm]; omega
theorem sm_swap (m n : Nat) (f : Nat → Nat → Int) : sm m (fun i => sm n (fun j => f i j)) = sm n (fun j => sm m (fun i => f i j)) := by
 induction m with
 | zero => simp only [sm]; exact (sm_zero (fun _ _ => rfl)).symm
 | succ m ih => simp only [sm]; rw [ih, ← sm_add]
theorem sm_one {n r : Nat} {f : Nat → Int} (hr : r < n) (h : ∀ i, i < n → i ≠ r → f i = 0) : sm n f = f r := by
 induction n with
 | zero => omega
 | succ n ih =>
  simp only [sm]
  by_cases e : r = n
  ·subst e; rw [sm_zero (fun i hi => h i (by omega) (by omega))]; omega
  ·rw [ih (by omega) (fun i hi hn => h i (by omega) hn), h n (by omega) (by omega)]; omega
theorem sm_two {n r : Nat} {f : Nat → Int} (hr : r + 1 < n) (h : ∀ i, i < n → i ≠ r → i ≠ r + 1 → f i = 0) : sm n f = f r + f (r + 1) := by
 induction n with
 | zero => omega
 | succ n ih =>
  simp only [sm]
  by_cases e : r + 1 = n
  ·subst e; rw [sm_one (r := r) (by omega) (fun i hi hn => h i (by omega) hn (by omega))]
  ·rw [ih (by omega) (fun i hi hn hm => h i (by omega) hn hm), h n (by omega) (by omega) (by omega)]; omega

theorem sg_succ (k : Nat) : sg (k + 1) = - sg k := by unfold sg; split <;> split <;> omega
theorem sg_sq (k : Nat) : sg k * sg k = 1 := by unfold sg; split <;> rfl
theorem skip_ne (k j : Nat) : skip k j ≠ k := by unfold skip; split <;> omega
theorem skip_lt {k j n : Nat} (h : j < n) : skip k j < n + 1 := by unfold skip; split <;> omega
theorem skip_zero (j : Nat) : skip 0 j = j + 1 := by simp [skip]
theorem skip_succ (k j : Nat) : skip (k + 1) (j + 1) = skip k j + 1 := by unfold skip; split <;> split <;> omega

theorem D_congr {n : Nat} {A B : Nat → Nat → Int} (h : ∀ i, i < n → ∀ j, j < n → A i j = B i j) : D n A = D n B := by
 induction n generalizing A B with
 | zero => rfl
 | succ n ih =>
  simp only [D]
  refine sm_congr (fun k hk => ?_)
  rw [h 0 (by omega) k hk, ih (fun i hi j hj => h (i + 1) (by omega) _ (skip_lt hj))]

/-- By the first column. -/
theorem D_col (n : Nat) (A : Nat → Nat → Int) : D (n + 1) A = sm (n + 1) (fun i => sg i * A i 0 * D n (fun a b => A (skip i a) (b + 1))) := by
 induction n generalizing A with
 | zero => simp [D, sm]
 | succ n ih =>
  rw [show D (n + 1 + 1) A = sm (n + 1 + 1) (fun k => sg k * A 0 k * D (n + 1) (fun i j => A (i + 1) (skip k j))) from rfl]
  rw [sm_head (n + 1) (fun k => sg k * A 0 k * D (n + 1) (fun i j => A (i + 1) (skip k j))), sm_head (n + 1) (fun i => sg i * A i 0 * D (n + 1) (fun a b => A (skip i a) (b + 1)))]
  have e0 : D (n + 1) (fun i j => A (i + 1) (skip 0 j)) = D (n + 1) (fun a b => A (skip 0 a) (b + 1)) := D_congr (fun a _ b _ => by rw [skip_zero, skip_zero])
  rw [e0]
  congr 1
  have e1 : ∀ k, sg (k + 1) * A 0 (k + 1) * D (n + 1) (fun i j => A (i + 1) (skip (k + 1) j)) = sm (n + 1) (fun i => - (sg k * sg i * A 0 (k + 1) * A (i + 1) 0 * D n (fun a b => A (skip i a + 1) (skip k b + 1)))) := by
   intro k
   rw [ih, ← sm_mul]
   refine sm_congr (fun i _ => ?_)
   have : D n (fun a b => A (skip i a + 1) (skip (k + 1) (b + 1))) = D n (fun a b => A (skip i a + 1) (skip k b + 1)) := D_congr (fun a _ b _ => by rw [skip_succ])
   rw [this, sg_succ, show skip (k + 1) 0 = 0 from by simp [skip]]
   simp only [Int.neg_mul, Int.mul_neg, Int.mul_assoc, Int.mul_comm, Int.mul_left_comm]
  have e2 : ∀ i, sg (i + 1) * A (i + 1) 0 * D (n + 1) (fun a b => A (skip (i + 1) a) (b + 1)) = sm (n + 1) (fun k => - (sg k * sg i * A 0 (k + 1) * A (i + 1) 0 * D n (fun a b => A (skip i a + 1) (skip k b + 1)))) := by
   intro i
   rw [show D (n + 1) (fun a b => A (skip (i + 1) a) (b + 1)) = sm (n + 1) (fun k => sg k * A (skip (i + 1) 0) (k + 1) * D n (fun a b => A (skip (i + 1) (a + 1)) (skip k b + 1))) from rfl, ← sm_mul]
   refine sm_congr (fun k _ => ?_)
   have : D n (fun a b => A (skip (i + 1) (a + 1)) (skip k b + 1)) = D n (fun a b => A (skip i a + 1) (skip k b + 1)) := D_congr (fun a _ b _ => by rw [skip_succ])
   rw [this, sg_succ, show skip (i + 1) 0 = 0 from by simp [skip]]
   simp only [Int.neg_mul, Int.mul_neg, Int.mul_assoc, Int.mul_comm, Int.mul_left_comm]
  rw [sm_congr (fun k _ => e1 k), sm_congr (fun i _ => e2 i), sm_swap]
theorem D_transpose (n : Nat) (A : Nat → Nat → Int) : D n (fun i j => A j i) = D n A := by
 induction n generalizing A with
 | zero => rfl
 | succ n ih =>
  rw [D_col n A]
  rw [show D (n + 1) (fun i j => A j i) = sm (n + 1) (fun k => sg k * A k 0 * D n (fun i j => A (skip k j) (i + 1))) from rfl]
  refine sm_congr (fun k _ => ?_)
  rw [ih (fun i j => A (skip k i) (j + 1))]

def setRow (A : Nat → Nat → Int) (r : Nat) (u : Nat → Int) : Nat → Nat → Int := fun i j => if i = r then u j else A i j
def setCol (A : Nat → Nat → Int) (c : Nat) (u : Nat → Int) : Nat → Nat → Int := fun i j => if j = c then u i else A i j

theorem D_row_lin (n r : Nat) (hr : r < n) (A : Nat → Nat → Int) (a b : Int) (u v : Nat → Int) :
  D n (setRow A r (fun j => a * u j + b * v j)) = a * D n (setRow A r u) + b * D n (setRow A r v) := by
 induction n generalizing A r u v with
 | zero => omega
 | succ n ih =>
  simp only [D]
  rw [← sm_mul, ← sm_mul, ← sm_add]
  refine sm_congr (fun k hk => ?_)
  cases r with
  | zero =>
   have e : ∀ w : Nat → Int, D n (fun i j => setRow A 0 w (i + 1) (skip k j)) = D n (fun i j => A (i + 1) (skip k j)) := fun w => D_congr (fun i _ j _ => by simp [setRow])
   rw [e, e, e]
   simp only [setRow, if_pos]
   generalize sg k = s
   generalize D n _ = d
   simp only [Int.mul_add, Int.mul_comm, Int.mul_left_comm]
  | succ r =>
   have e : ∀ w : Nat → Int, D n (fun i j => setRow A (r + 1) w (i + 1) (skip k j)) = D n (setRow (fun i j => A (i + 1) (skip k j)) r (fun j => w (skip k j))) := fun w => D_congr (fun i _ j _ => by simp [setRow])
   rw [e, e, e, ih r (by omega)]
   simp only [setRow]
   rw [if_neg (by omega), if_neg (by omega), if_neg (by omega)]
   generalize sg k = s
   generalize D n _ = d
   generalize D n _ = d'
   simp only [Int.mul_add, Int.add_mul, Int.mul_assoc, Int.mul_comm, Int.mul_left_comm]
theorem D_row_zero (n r : Nat) (hr : r < n) (A : Nat → Nat → Int) (h : ∀ j, j < n → A r j = 0) : D n A = 0 := by
 have e := D_row_lin n r hr A 0 0 (fun _ => 0) (fun _ => 0)
 rw [Int.zero_mul, Int.zero_mul] at e
 have e2 : D n (setRow A r (fun j => 0 * 0 + 0 * 0)) = D n A := D_congr (fun i hi j hj => by
  simp only [setRow]; split
  ·subst i; rw [h j hj]; rfl
  ·rfl)
 rw [← e2]; exact e
theorem D_row_sum (n r : Nat) (hr : r < n) (A : Nat → Nat → Int) (m : Nat) (c : Nat → Int) (F : Nat → Nat → Int) :
  D n (setRow A r (fun j => sm m (fun t => c t * F t j))) = sm m (fun t => c t * D n (setRow A r (F t))) := by
 induction m with
 | zero => simp only [sm]; exact D_row_zero n r hr _ (fun j _ => by simp [setRow])
 | succ m ih =>
  simp only [sm]
  have := D_row_lin n r hr A 1 (c m) (fun j => sm m (fun t => c t * F t j)) (F m)
  simp only [Int.one_mul] at this
  rw [this, ih]
theorem setRow_self (A : Nat → Nat → Int) (r : Nat) : setRow A r (A r) = A := by
 funext i j; simp only [setRow]; split
 ·subst i; rfl
 ·rfl
/-- Rows r, r + 1 are equal. -/
theorem D_adj (n r : Nat) (hr : r + 1 < n) (A : Nat → Nat → Int) (h : ∀ j, j < n → A r j = A (r + 1) j) : D n A = 0 := by
 induction n generalizing r A with
 | zero => omega
 | succ n ih =>
  rw [D_col]
  rw [sm_two (r := r) hr]
  ·rw [sg_succ, ← h 0 (by omega)]
   have : D n (fun a b => A (skip r a) (b + 1)) = D n (fun a b => A (skip (r + 1) a) (b + 1)) := D_congr (fun a _ b hb => by
    unfold skip
    by_cases e : a = r
    ·subst e; rw [if_neg (by omega), if_pos (by omega), h (b + 1) (by omega)]
    ·by_cases l : a < r
     ·rw [if_pos l, if_pos (by omega)]
     ·rw [if_neg l, if_neg (by omega)])
   rw [this, Int.neg_mul, Int.neg_mul]; omega
  ·intro i hi h1 h2
   have : D n (fun a b => A (skip i a) (b + 1)) = 0 := by
    by_cases l : i < r
    ·refine ih (r - 1) (by omega) _ (fun j hj => ?_)
     show A (skip i (r - 1)) (j + 1) = A (skip i (r - 1 + 1)) (j + 1)
     rw [show skip i (r - 1) = r from by unfold skip; split <;> omega, show skip i (r - 1 + 1) = r + 1 from by unfold skip; split <;> omega]
     exact h _ (by omega)
    ·refine ih r (by omega) _ (fun j hj => ?_)
     show A (skip i r) (j + 1) = A (skip i (r + 1)) (j + 1)
     rw [show skip i r = r from by unfold skip; split <;> omega, show skip i (r + 1) = r + 1 from by unfold skip; split <;> omega]
     exact h _ (by omega)
   rw [this, Int.mul_zero]
/-- Two rows, told by their places. -/
def set2 (A : Nat → Nat → Int) (r s : Nat) (u v : Nat → Int) : Nat → Nat → Int := setRow (setRow A r u) s v
theorem D_adj_swap (n r : Nat) (hr : r + 1 < n) (A : Nat → Nat → Int) (u v : Nat → Int) : D n (set2 A r (r + 1) u v) = - D n (set2 A r (r + 1) v u) := by
 have z : ∀ w, D n (set2 A r (r + 1) w w) = 0 := fun w => D_adj n r hr _ (fun j _ => by simp [set2, setRow])
 have c : ∀ w x, set2 A r (r + 1) w x = setRow (setRow A (r + 1) x) r w := fun w x => by
  funext i j; simp only [set2, setRow]
  by_cases e : i = r
  ·subst e; rw [if_neg (by omega), if_pos rfl, if_pos rfl]
  ·simp [e]
 have l1 : D n (set2 A r (r + 1) (fun j => 1 * u j + 1 * v j) (fun j => 1 * u j + 1 * v j)) = 1 * D n (set2 A r (r + 1) (fun j => 1 * u j + 1 * v j) u) + 1 * D n (set2 A r (r + 1) (fun j => 1 * u j + 1 * v j) v) := D_row_lin n (r + 1) hr _ 1 1 u v
 have l2 : ∀ x, D n (set2 A r (r + 1) (fun j => 1 * u j + 1 * v j) x) = 1 * D n (set2 A r (r + 1) u x) + 1 * D n (set2 A r (r + 1) v x) := fun x => by
  rw [c, c, c]; exact D_row_lin n r (by omega) _ 1 1 u v
 rw [z, l2, l2, z, z] at l1
 omega
theorem D_rows_eq (n : Nat) (A : Nat → Nat → Int) (i d : Nat) (hd : i + 1 + d < n) (h : ∀ c, c < n → A i c = A (i + 1 + d) c) : D n A = 0 := by
 induction d generalizing A with
 | zero => exact D_adj n i hd A h
 | succ d ih =>
  have e : A = set2 A (i + 1 + d) (i + 1 + d + 1) (A (i + 1 + d)) (A (i + 1 + d + 1)) := by
   funext a b; simp only [set2, setRow]
   split
   ·subst a; rfl
   ·split
    ·subst a; rfl
    ·rfl
  rw [e, D_adj_swap n (i + 1 + d) (by omega), ih _ (by omega)]
  ·rfl
  ·intro c hc
   simp only [set2, setRow]
   rw [if_neg (by omega), if_neg (by omega), if_neg (by omega), if_pos trivial, h c hc]; rfl
theorem D_rows_eq' (n : Nat) (A : Nat → Nat → Int) (i j : Nat) (hi : i < n) (hj : j < n) (hij : i ≠ j) (h : ∀ c, c < n → A i c = A j c) : D n A = 0 := by
 rcases Nat.lt_or_gt_of_ne hij with l | l
 ·exact D_rows_eq n A i (j - i - 1) (by omega) (by rw [show i + 1 + (j - i - 1) = j by omega]; exact h)
 ·exact D_rows_eq n A j (i - j - 1) (by omega) (by rw [show j + 1 + (i - j - 1) = i by omega]; exact fun c hc => (h c hc).symm)
def swapRows (A : Nat → Nat → Int) (i j : Nat) : Nat → Nat → Int := fun a b => if a = i then A j b else if a = j then A i b else A a b
theorem D_swap (n : Nat) (A : Nat → Nat → Int) (i j : Nat) (hi : i < n) (hj : j < n) (hij : i ≠ j) : D n (swapRows A i j) = - D n A := by
 have z : ∀ w, D n (set2 A i j w w) = 0 := fun w => D_rows_eq' n _ i j hi hj hij (fun c _ => by simp [set2, setRow])
 have c : ∀ w x, set2 A i j w x = setRow (setRow A j x) i w := fun w x => by
  funext a b; simp only [set2, setRow]
  by_cases e : a = i
  ·subst e; rw [if_neg hij, if_pos rfl, if_pos rfl]
  ·simp [e]
 have l1 : D n (set2 A i j (fun b => 1 * A i b + 1 * A j b) (fun b => 1 * A i b + 1 * A j b)) = 1 * D n (set2 A i j (fun b => 1 * A i b + 1 * A j b) (A i)) + 1 * D n (set2 A i j (fun b => 1 * A i b + 1 * A j b) (A j)) := D_row_lin n j hj _ 1 1 (A i) (A j)
 have l2 : ∀ x, D n (set2 A i j (fun b => 1 * A i b + 1 * A j b) x) = 1 * D n (set2 A i j (A i) x) + 1 * D n (set2 A i j (A j) x) := fun x => by
  rw [c, c, c]; exact D_row_lin n i hi _ 1 1 (A i) (A j)
 rw [z, l2, l2, z, z] at l1
 have e1 : set2 A i j (A i) (A j) = A := by
  funext a b; simp only [set2, setRow]; split
  ·subst a; rfl
  ·split
   ·subst a; rfl
   ·rfl
 have e2 : set2 A i j (A j) (A i) = swapRows A i j := by
  funext a b; simp only [set2, setRow, swapRows]
  by_cases e : a = i
  ·subst e; rw [if_neg hij, if_pos rfl, if_pos rfl]
  ·simp [e]
 rw [e1, e2] at l1
 omega
/-! columns, by the transposed matrix -/
theorem D_col_lin (n c : Nat) (hc : c < n) (A : Nat → Nat → Int) (a b : Int) (u v : Nat → Int) :
  D n (setCol A c (fun i => a * u i + b * v i)) = a * D n (setCol A c u) + b * D n (setCol A c v) := by
 have e : ∀ w, D n (setCol A c w) = D n (setRow (fun i j => A j i) c w) := fun w => by
  rw [← D_transpose]; rfl
 rw [e, e, e]; exact D_row_lin n c hc _ a b u v
theorem D_col_sum (n c : Nat) (hc : c < n) (A : Nat → Nat → Int) (m : Nat) (d : Nat → Int) (F : Nat → Nat → Int) :
  D n (setCol A c (fun i => sm m (fun t => d t * F t i))) = sm m (fun t => d t * D n (setCol A c (F t))) := by
 have e : ∀ w, D n (setCol A c w) = D n (setRow (fun i j => A j i) c w) := fun w => by
  rw [← D_transpose]; rfl
 rw [e, D_row_sum n c hc]
 exact sm_congr (fun t _ => by rw [e])
theorem D_cols_eq (n : Nat) (A : Nat → Nat → Int) (i j : Nat) (hi : i < n) (hj : j < n) (hij : i ≠ j) (h : ∀ r, r < n → A r i = A r j) : D n A = 0 := by
 rw [← D_transpose]; exact D_rows_eq' n _ i j hi hj hij h
theorem D_one (n : Nat) : D n (fun i j => if i = j then 1 else 0) = 1 := by
 induction n with
 | zero => rfl
 | succ n ih =>
  simp only [D]
  rw [sm_one (r := 0) (by omega) (fun k _ hk => by rw [if_neg (by omega)]; simp)]
  rw [D_congr (B := fun i j => if i = j then 1 else 0) (fun i _ j _ => by rw [skip_zero]; simp), ih]; rfl
/-- Above the last column's end stand zeros. -/
theorem D_block1 (k : Nat) (M : Nat → Nat → Int) (h : ∀ a, a < k → M a k = 0) : D (k + 1) M = D k M * M k k := by
 induction k generalizing M with
 | zero => simp [D, sm, sg]
 | succ k ih =>
  rw [show D (k + 1 + 1) M = sm (k + 1 + 1) (fun c => sg c * M 0 c * D (k + 1) (fun i j => M (i + 1) (skip c j))) from rfl]
  rw [show sm (k + 1 + 1) (fun c => sg c * M 0 c * D (k + 1) (fun i j => M (i + 1) (skip c j))) = sm (k + 1) (fun c => sg c * M 0 c * D (k + 1) (fun i j => M (i + 1) (skip c j))) + sg (k + 1) * M 0 (k + 1) * D (k + 1) (fun i j => M (i + 1) (skip (k + 1) j)) from rfl]
  rw [h 0 (by omega), Int.mul_zero, Int.zero_mul, Int.add_zero]
  rw [show D (k + 1) M = sm (k + 1) (fun c => sg c * M 0 c * D k (fun i j => M (i + 1) (skip c j))) from rfl, Int.mul_comm, ← sm_mul]
  refine sm_congr (fun c hc => ?_)
  have hs : ∀ b, c ≤ b → skip c b = b + 1 := fun b hb => by unfold skip; split <;> omega
  rw [ih _ (fun a ha => by rw [hs k (by omega)]; exact h (a + 1) (by omega)), hs k (by omega)]
  simp only [Int.mul_assoc, Int.mul_comm, Int.mul_left_comm]
/-- Above the last two columns' ends stand zeros. -/
theorem D_block2 (k : Nat) (M : Nat → Nat → Int) (h : ∀ a, a < k → M a k = 0 ∧ M a (k + 1) = 0) :
  D (k + 2) M = D k M * (M k k * M (k + 1) (k + 1) - M k (k + 1) * M (k + 1) k) := by
 induction k generalizing M with
 | zero => simp [D, sm, sg, skip, Int.sub_eq_add_neg, Int.neg_mul]
 | succ k ih =>
  rw [show D (k + 1 + 2) M = sm (k + 1) (fun c => sg c * M 0 c * D (k + 2) (fun i j => M (i + 1) (skip c j))) + sg (k + 1) * M 0 (k + 1) * D (k + 2) (fun i j => M (i + 1) (skip (k + 1) j)) + sg (k + 2) * M 0 (k + 2) * D (k + 2) (fun i j => M (i + 1) (skip (k + 2) j)) from rfl]
  rw [(h 0 (by omega)).1, (h 0 (by omega)).2]
  simp only [Int.mul_zero, Int.zero_mul, Int.add_zero]
  rw [show D (k + 1) M = sm (k + 1) (fun c => sg c * M 0 c * D k (fun i j => M (i + 1) (skip c j))) from rfl, Int.mul_comm (sm _ _), ← sm_mul]
  refine sm_congr (fun c hc => ?_)
  have hs : ∀ b, c ≤ b → skip c b = b + 1 := fun b hb => by unfold skip; split <;> omega
  rw [ih _ (fun a ha => by rw [hs k (by omega), hs (k + 1) (by omega)]; exact h (a + 1) (by omega)), hs k (by omega), hs (k + 1) (by omega)]
  simp only [Int.mul_assoc, Int.mul_comm, Int.mul_left_comm]
theorem sm_unit (n : Nat) (v : Nat → Int) (j : Nat) (hj : j < n) : sm n (fun t => v t * (if t = j then 1 else 0)) = v j := by
 rw [sm_one hj (fun i _ hn => by rw [if_neg hn, Int.mul_zero])]; simp

/-! ### Elimination without fractions -/
/-- The minor of the first k rows and row i, the first k columns and column j. -/
def B (A : Nat → Nat → Int) (k i j : Nat) : Int := D (k + 1) (fun a b => A (if a < k then a else i) (if b < k then b else j))
theorem B_diag (A : Nat → Nat → Int) (k : Nat) : B A k k k = D (k + 1) A := D_congr (fun a ha b hb => by
 rw [show (if a < k then a else k) = a from by split <;> omega, show (if b < k then b else k) = b from by split <;> omega])
theorem B_low (A : Nat → Nat → Int) (k i j : Nat) (hi : i < k) : B A k i j = 0 :=
 D_rows_eq' (k + 1) _ i k (by omega) (by omega) (by omega) (fun c _ => by simp [hi])
/-- A column, by the first k ones and what is left of it. -/
theorem B_solve (A : Nat → Nat → Int) (k j : Nat) : ∃ C : Nat → Int, ∀ i, D k A * A i j = sm k (fun c => C c * A i c) + B A k i j := by
 refine ⟨fun c => - D (k + 1) (setRow (fun a b => A a (if b < k then b else j)) k (fun b => if c = b then 1 else 0)), fun i => ?_⟩
 have e : B A k i j = D (k + 1) (setRow (fun a b => A a (if b < k then b else j)) k (fun b => sm (k + 1) (fun t => A i (if t < k then t else j) * (if t = b then 1 else 0)))) := D_congr (fun a ha b hb => by
  simp only [setRow]
  by_cases l : a = k
  ·subst l; rw [if_pos rfl, sm_unit _ _ _ hb, if_neg (by omega)]
  ·rw [if_neg l, if_pos (by omega)])
 rw [e, D_row_sum (k + 1) k (by omega)]
 have last : D (k + 1) (setRow (fun a b => A a (if b < k then b else j)) k (fun b => if k = b then 1 else 0)) = D k A := by
  rw [← D_transpose, D_block1]
  ·have : D k (fun a b => setRow (fun a b => A a (if b < k then b else j)) k (fun b => if k = b then 1 else 0) b a) = D k A := by
    rw [D_transpose]
    exact D_congr (fun a ha b hb => by simp only [setRow]; rw [if_neg (by omega), if_pos hb])
   rw [this]; simp [setRow]
  ·intro a ha; simp only [setRow]; rw [if_pos trivial, if_neg (by omega)]
 simp only [sm]
 rw [last]
 have : sm k (fun t => A i (if t < k then t else j) * D (k + 1) (setRow (fun a b => A a (if b < k then b else j)) k (fun b => if t = b then 1 else 0))) = - sm k (fun c => - D (k + 1) (setRow (fun a b => A a (if b < k then b else j)) k (fun b => if c = b then 1 else 0)) * A i c) := by
  rw [← sm_neg]
  refine sm_congr (fun t ht => ?_)
  rw [if_pos ht, Int.neg_mul, Int.neg_neg, Int.mul_comm]
 rw [this, if_neg (Nat.lt_irrefl k), Int.mul_comm (A i j)]; omega
/-- One round of the elimination. -/
theorem B_step (A : Nat → Nat → Int) (k i j : Nat) (hp : D k A ≠ 0) :
  D k A * B A (k + 1) i j = B A k k k * B A k i j - B A k i k * B A k k j := by
 obtain ⟨C1, h1⟩ := B_solve A k k
 obtain ⟨C2, h2⟩ := B_solve A k j
 -- the rows and columns of the great minor
 let ro : Nat → Nat := fun a => if a < k + 1 then a else i
 let W : Nat → Nat → Int := fun a b => A (ro a) (if b < k + 1 then b else j)
 have hW : B A (k + 1) i j = D (k + 2) W := rfl
 let X : Nat → Int := fun a => B A k (ro a) k
 let Y : Nat → Int := fun a => B A k (ro a) j
 have s1 : D k A * D (k + 2) W = D (k + 2) (setCol W k X) := by
  have e0 : D (k + 2) (setCol W k (fun a => D k A * A (ro a) k + 0 * 0)) = D k A * D (k + 2) W := by
   rw [D_col_lin (k + 2) k (by omega) W (D k A) 0 (fun a => A (ro a) k) (fun _ => 0), Int.zero_mul, Int.add_zero]
   congr 1
   exact D_congr (fun a _ b _ => by
    simp only [setCol]; split
    ·subst b; show A (ro a) k = A (ro a) (if k < k + 1 then k else j); rw [if_pos (by omega)]
    ·rfl)
  have e1 : D (k + 2) (setCol W k (fun a => D k A * A (ro a) k + 0 * 0)) = D (k + 2) (setCol W k (fun a => 1 * sm k (fun c => C1 c * A (ro a) c) + 1 * X a)) := D_congr (fun a _ b _ => by
   simp only [setCol]; split
   ·rw [h1 (ro a)]; show _ = 1 * _ + 1 * B A k (ro a) k; omega
   ·rfl)
  rw [← e0, e1, D_col_lin (k + 2) k (by omega), D_col_sum (k + 2) k (by omega)]
  rw [sm_zero (fun c hc => by
   rw [D_cols_eq (k + 2) _ c k (by omega) (by omega) (by omega) (fun r _ => by
    simp only [setCol]; rw [if_neg (by omega), if_pos trivial]; show A (ro r) (if c < k + 1 then c else j) = _; rw [if_pos (by omega)]), Int.mul_zero])]
  omega
 have s2 : D k A * D (k + 2) (setCol W k X) = D (k + 2) (setCol (setCol W k X) (k + 1) Y) := by
  have e0 : D (k + 2) (setCol (setCol W k X) (k + 1) (fun a => D k A * A (ro a) j + 0 * 0)) = D k A * D (k + 2) (setCol W k X) := by
   rw [D_col_lin (k + 2) (k + 1) (by omega) (setCol W k X) (D k A) 0 (fun a => A (ro a) j) (fun _ => 0), Int.zero_mul, Int.add_zero]
   congr 1
   exact D_congr (fun a _ b _ => by
    simp only [setCol]; split
    ·subst b; rw [if_neg (by omega)]; show A (ro a) j = A (ro a) (if k + 1 < k + 1 then k + 1 else j); rw [if_neg (by omega)]
    ·rfl)
  have e1 : D (k + 2) (setCol (setCol W k X) (k + 1) (fun a => D k A * A (ro a) j + 0 * 0)) = D (k + 2) (setCol (setCol W k X) (k + 1) (fun a => 1 * sm k (fun c => C2 c * A (ro a) c) + 1 * Y a)) := D_congr (fun a _ b _ => by
   simp only [setCol]; split
   ·rw [h2 (ro a)]; show _ = 1 * _ + 1 * B A k (ro a) j; omega
   ·rfl)
  rw [← e0, e1, D_col_lin (k + 2) (k + 1) (by omega), D_col_sum (k + 2) (k + 1) (by omega)]
  rw [sm_zero (fun c hc => by
   rw [D_cols_eq (k + 2) _ c (k + 1) (by omega) (by omega) (by omega) (fun r _ => by
    simp only [setCol]; rw [if_neg (by omega), if_neg (by omega), if_pos trivial]; show A (ro r) (if c < k + 1 then c else j) = _; rw [if_pos (by omega)]), Int.mul_zero])]
  omega
 have s3 : D (k + 2) (setCol (setCol W k X) (k + 1) Y) = D k A * (X k * Y (k + 1) - Y k * X (k + 1)) := by
  rw [D_block2]
  ·have : D k (setCol (setCol W k X) (k + 1) Y) = D k A := D_congr (fun a ha b hb => by
    simp only [setCol]; rw [if_neg (by omega), if_neg (by omega)]; show A (if a < k + 1 then a else i) (if b < k + 1 then b else j) = _; rw [if_pos (by omega), if_pos (by omega)])
   rw [this]

   simp [setCol]
  ·intro a ha
   have hr : ro a = a := by show (if a < k + 1 then a else i) = a; rw [if_pos (by omega)]
   have h1 : ¬ k = k + 1 := by omega
   simp only [setCol, if_neg h1, if_true]
   constructor
   ·show B A k (ro a) k = 0; rw [hr]; exact B_low A k a k ha
   ·show B A k (ro a) j = 0; rw [hr]; exact B_low A k a j ha
 have hk : ro k = k := by show (if k < k + 1 then k else i) = k; rw [if_pos (by omega)]
 have hk1 : ro (k + 1) = i := by show (if k + 1 < k + 1 then k + 1 else i) = i; rw [if_neg (by omega)]
 have hX0 : X k = B A k k k := by show B A k (ro k) k = _; rw [hk]
 have hX1 : X (k + 1) = B A k i k := by show B A k (ro (k + 1)) k = _; rw [hk1]
 have hY0 : Y k = B A k k j := by show B A k (ro k) j = _; rw [hk]
 have hY1 : Y (k + 1) = B A k i j := by show B A k (ro (k + 1)) j = _; rw [hk1]
 rw [hX0, hX1, hY0, hY1] at s3
 rw [hW]
 have all : D k A * (D k A * D (k + 2) W) = D k A * (B A k k k * B A k i j - B A k k j * B A k i k) := by rw [s1, s2, s3]
 have := Int.eq_of_mul_eq_mul_left hp all
 rw [this, Int.mul_comm (B A k k j)]
/-- No pivot: the determinant is 0. -/
theorem B_none (A : Nat → Nat → Int) (n k : Nat) (hk : k < n) (hp : D k A ≠ 0) (h : ∀ i, k ≤ i → i < n → B A k i k = 0) : D n A = 0 := by
 obtain ⟨C1, h1⟩ := B_solve A k k
 have e0 : D n (setCol A k (fun a => D k A * A a k + 0 * 0)) = D k A * D n A := by
  rw [D_col_lin n k hk A (D k A) 0 (fun a => A a k) (fun _ => 0), Int.zero_mul, Int.add_zero]
  congr 1
  exact D_congr (fun a _ b _ => by
   simp only [setCol]; split
   ·subst b; rfl
   ·rfl)
 have e1 : D n (setCol A k (fun a => D k A * A a k + 0 * 0)) = D n (setCol A k (fun a => sm k (fun c => C1 c * A a c))) := D_congr (fun a ha b _ => by
  simp only [setCol]; split
  ·have : B A k a k = 0 := by
    by_cases l : a < k
    ·exact B_low A k a k l
    ·exact h a (by omega) ha
   rw [h1 a, this]; omega
  ·rfl)
 have : D k A * D n A = 0 := by
  rw [← e0, e1, D_col_sum n k hk]
  exact sm_zero (fun c hc => by
   rw [D_cols_eq n _ c k (by omega) (by omega) (by omega) (fun r _ => by
    simp only [setCol]; rw [if_neg (by omega), if_pos trivial]), Int.mul_zero])
 rcases Int.mul_eq_zero.mp this with h | h
 ·exact absurd h hp
 ·exact h
/-- How great a determinant of numbers from -10 to 10 is at most. -/
def bd : Nat → Int
 | 0 => 1
 | n + 1 => (n + 1) * (10 * bd n)
theorem bd_pos (n : Nat) : 1 ≤ bd n := by
 induction n with
 | zero => decide
 | succ n ih =>
  simp only [bd]
  have h1 : (1 : Int) ≤ (n : Int) + 1 := by omega
  have h2 : (1 : Int) ≤ 10 * bd n := by omega
  have := Int.mul_le_mul h1 h2 (by omega) (by omega)
  omega
theorem sm_bound (n : Nat) (f : Nat → Int) (b : Int) (h : ∀ i, i < n → -b ≤ f i ∧ f i ≤ b) : -(n * b) ≤ sm n f ∧ sm n f ≤ n * b := by
 induction n with
 | zero => simp [sm]
 | succ n ih =>
  have h1 := ih (fun i hi => h i (by omega))
  have h2 := h n (by omega)
  simp only [sm]
  rw [show ((n + 1 : Nat) : Int) * b = n * b + b from by rw [Int.natCast_add, Int.add_mul]; simp]
  omega
theorem mul_bound {x y a b : Int} (ha : -a ≤ x ∧ x ≤ a) (hb : -b ≤ y ∧ y ≤ b) : -(a * b) ≤ x * y ∧ x * y ≤ a * b := by
 have h : x.natAbs * y.natAbs ≤ a.natAbs * b.natAbs := Nat.mul_le_mul (by omega) (by omega)
 rw [← Int.natAbs_mul, ← Int.natAbs_mul] at h
 have : 0 ≤ a * b := Int.mul_nonneg (by omega) (by omega)
 omega
theorem term_bound {s x d b : Int} (hs : s = 1 ∨ s = -1) (hx : -10 ≤ x ∧ x ≤ 10) (hd : -b ≤ d ∧ d ≤ b) : -(10 * b) ≤ s * x * d ∧ s * x * d ≤ 10 * b := by
 refine mul_bound (a := 10) ?_ hd
 rcases hs with rfl | rfl <;> omega
theorem sg_or (k : Nat) : sg k = 1 ∨ sg k = -1 := by unfold sg; split <;> simp
theorem D_bound (n : Nat) (A : Nat → Nat → Int) (h : ∀ i j, i < n → j < n → -10 ≤ A i j ∧ A i j ≤ 10) : -(bd n) ≤ D n A ∧ D n A ≤ bd n := by
 induction n generalizing A with
 | zero => simp [D, bd]
 | succ n ih =>
  simp only [D, bd]
  have := sm_bound (n + 1) (fun k => sg k * A 0 k * D n (fun i j => A (i + 1) (skip k j))) (10 * bd n) (fun k hk =>
   term_bound (sg_or k) (h 0 k (by omega) hk) (ih _ (fun i j hi hj => h _ _ (by omega) (skip_lt hj))))
  simpa using this
end DetKit
end Go.Proofs.Ythjkhbfaenidpaa.M
namespace Go.Proofs.Ythjkhbfaenidpaa.M
open Go.RowKit Go.Proofs.Ythjkhbfaenidpaa.P Go.Proofs.Ythjkhbfaenidpaa.In Go.Proofs.YthjkhbfaenidpaaW.PrintWords Go.Proofs.YthjkhbfaenidpaaW.PrintLast
set_option linter.unusedVariables false
set_option linter.unusedSimpArgs false
open DetKit
def mat (m : List (List Int)) : Nat → Nat → Int := fun i j => rd (rd_L1 m (i : Int)) (j : Int)
/-- As many rows as columns, n; numbers from -10 to 10. -/
structure Sq (n : Nat) (m : List (List Int)) : Prop where
 len : m.length = n
 rows : ∀ row ∈ m, row.length = n ∧ ∀ x ∈ row, -10 ≤ x ∧ x ≤ 10
theorem Sq.row {n : Nat} {m : List (List Int)} (h : Sq n m) {i : Nat} (hi : i < n) : (rd_L1 m (i : Int)).length = n := by
 have hl := h.len
 exact (h.rows (rd_L1 m (i : Int)) (by rw [rdL_at (by omega)]; exact List.getElem_mem _)).1
theorem Sq.bnd {n : Nat} {m : List (List Int)} (h : Sq n m) (i j : Nat) (hi : i < n) (hj : j < n) : -10 ≤ mat m i j ∧ mat m i j ≤ 10 := by
 have hl := h.len
 have hr := h.rows (rd_L1 m (i : Int)) (by rw [rdL_at (by omega)]; exact List.getElem_mem _)
 exact hr.2 _ (by unfold mat; rw [rd_at (by omega)]; exact List.getElem_mem _)
theorem bd_le6 {n : Nat} (h : n ≤ 6) : bd n ≤ 720000000 := by
 have : n = 0 ∨ n = 1 ∨ n = 2 ∨ n = 3 ∨ n = 4 ∨ n = 5 ∨ n = 6 := by omega
 rcases this with rfl | rfl | rfl | rfl | rfl | rfl | rfl <;> decide
theorem bd_le7 {n : Nat} (h : n ≤ 7) : bd n ≤ 50400000000 := by
 have : n = 0 ∨ n = 1 ∨ n = 2 ∨ n = 3 ∨ n = 4 ∨ n = 5 ∨ n = 6 ∨ n = 7 := by omega
 rcases this with rfl | rfl | rfl | rfl | rfl | rfl | rfl | rfl <;> decide
open DetKit
def decr : List Int → List Int → List Int
 | [], c => c
 | q :: row, c => decr row (c.set q.toNat (rd c q - 1))
theorem decr_len : ∀ (row c : List Int), (decr row c).length = c.length := by
 intro row
 induction row with
 | nil => intro c; rfl
 | cons q row ih => intro c; simp only [decr]; rw [ih]; simp
def lapRow (g : List (List Int)) (p : Nat) : List Int := decr (rd_L1 g (p : Int)) ((List.replicate g.length (0 : Int)).set p ((rd_L1 g (p : Int)).length : Int))
def lapFrom (g : List (List Int)) (sink : Nat) : Nat → Nat → List (List Int) → List (List Int)
 | 0, _, acc => acc
 | d + 1, i, acc => if i = sink then lapFrom g sink d (i + 1) acc else lapFrom g sink d (i + 1) (acc ++ [(lapRow g i).eraseIdx sink])
def lap (g : List (List Int)) (sink : Nat) : List (List Int) := lapFrom g sink g.length 0 []
def lowB (i : Nat) (c : List Int) : Prop := ∀ x ∈ c, -(i : Int) ≤ x ∧ x ≤ 5
theorem low_step {i : Nat} {c : List Int} (h : lowB i c) {q : Int} (h0 : 0 ≤ q) (h1 : q < (c.length : Int)) : -(i : Int) ≤ rd c q ∧ rd c q ≤ 5 ∧ lowB (i + 1) (c.set q.toNat (rd c q - 1)) := by
 have hq := h (rd c q) (by rw [rd_get h0 h1]; exact List.getElem_mem _)
 refine ⟨hq.1, hq.2, fun x hx => ?_⟩
 rcases List.mem_or_eq_of_mem_set hx with h2 | h2
 ·have := h x h2; omega
 ·subst h2; omega
theorem decr_low : ∀ (row c : List Int) (i : Nat), lowB i c → (∀ q ∈ row, 0 ≤ q ∧ q < (c.length : Int)) → lowB (i + row.length) (decr row c) := by
 intro row
 induction row with
 | nil => intro c i h _; exact h
 | cons q row ih =>
  intro c i h hr
  have hq := hr q (by simp)
  have := ih _ (i + 1) (low_step h hq.1 hq.2).2.2 (fun x hx => by have := hr x (by simp [hx]); simpa using this)
  simp only [decr]
  rw [show i + (q :: row).length = i + 1 + row.length by simp; omega]
  exact this
theorem low_start {n p len : Nat} (h : len ≤ 5) : lowB 0 ((List.replicate n (0 : Int)).set p (len : Int)) := by
 intro x hx
 rcases List.mem_or_eq_of_mem_set hx with h2 | h2
 ·have := List.eq_of_mem_replicate h2; omega
 ·omega
theorem lapRow_len (g : List (List Int)) (p : Nat) : (lapRow g p).length = g.length := by unfold lapRow; rw [decr_len]; simp
theorem lapRow_low {g : List (List Int)} (hg : goodG g = true) {p : Nat} (hp : p < g.length) : lowB 5 (lapRow g p) := by
 have hrow := (good_iff hg).2 (rd_L1 g (p : Int)) (by rw [rdL_at hp]; exact List.getElem_mem _)
 have := decr_low (rd_L1 g (p : Int)) ((List.replicate g.length (0 : Int)).set p ((rd_L1 g (p : Int)).length : Int)) 0 (low_start hrow.1) (fun q hq => by simpa using hrow.2 q hq)
 intro x hx
 have h2 := this x hx
 omega
theorem lapFrom_sq {g : List (List Int)} (hg : goodG g = true) {sink : Nat} (hs : sink < g.length) : ∀ (d i : Nat) (acc : List (List Int)), g.length - i = d → i ≤ g.length → (∀ row ∈ acc, row.length = g.length - 1 ∧ ∀ x ∈ row, -10 ≤ x ∧ x ≤ 10) → acc.length = (if sink < i then i - 1 else i) → (lapFrom g sink d i acc).length = g.length - 1 ∧ ∀ row ∈ lapFrom g sink d i acc, row.length = g.length - 1 ∧ ∀ x ∈ row, -10 ≤ x ∧ x ≤ 10 := by
 intro d
 induction d with
 | zero =>
  intro i acc hd hi ha hl
  rw [if_pos (by omega)] at hl
  exact ⟨by simp only [lapFrom]; omega, ha⟩
 | succ d ih =>
  intro i acc hd hi ha hl
  simp only [lapFrom]
  by_cases h : i = sink
  ·rw [if_pos h]
   refine ih (i + 1) acc (by omega) (by omega) ha ?_
   rw [if_neg (by omega)] at hl
   rw [if_pos (by omega)]; omega
  ·rw [if_neg h]
   refine ih (i + 1) _ (by omega) (by omega) (fun row hr => ?_) ?_
   ·rcases List.mem_append.1 hr with h2 | h2
    ·exact ha row h2
    ·simp at h2; subst h2
     have hlr := lapRow_len g i
     refine ⟨by rw [List.length_eraseIdx_of_lt (by omega)]; omega, fun x hx => ?_⟩
     have := lapRow_low hg (p := i) (by omega) x (List.mem_of_mem_eraseIdx hx)
     omega
   ·simp only [List.length_append, List.length_singleton, hl]
    by_cases h3 : sink < i
    ·rw [if_pos h3, if_pos (by omega)]; omega
    ·rw [if_neg h3, if_neg (by omega)]
theorem lap_sq {g : List (List Int)} (hg : goodG g = true) {sink : Nat} (hs : sink < g.length) : Sq (g.length - 1) (lap g sink) := by
 obtain ⟨a, b⟩ := lapFrom_sq hg hs g.length 0 [] (by omega) (by omega) (by simp) (by simp)
 exact ⟨a, b⟩
section
variable {g : List (List Int)} {r : List (List Int)}
theorem lapI_l1 (hg : goodG g = true) (sink p : Nat) (hs : sink < g.length) (hp : p < g.length) (acc : List (List Int)) (hacc : acc.length ≤ 8) (row : List Int) (h5 : row.length ≤ 5) (hr : ∀ q ∈ row, 0 ≤ q ∧ q < (g.length : Int)) :
  ∀ (d i : Nat) (c : List Int), row.length - i = d → i ≤ row.length → c.length = g.length → lowB i c → Ev (fun k => impl_laplace.l0 k sink (acc ++ [(decr (row.drop i) c).eraseIdx sink]) g g.length ((p + 1 : Nat) : Int) g) r → Ev (fun k => impl_laplace.l1 k sink acc c g g.length p row row.length i g) r := by
 have h8 := (good_iff hg).1.2
 intro d
 induction d with
 | zero =>
  intro i c hd hi hc hl h
  rw [List.drop_of_length_le (by omega)] at h
  refine Ev.succ ?_
  simp only [impl_laplace.l1]
  refine Ev.neg (by omega) (Ev.bind0 (a := c.eraseIdx sink) ?_ (Ev.pos (by omega) ?_))
  ·unfold slices_Delete_int_int.f
   rw [wrap_nat (by omega), if_pos (by omega), if_pos (by omega), if_pos (by omega), Int.toNat_natCast]
  ·rw [wrap_nat (n := p) (by omega)]
   exact h
 | succ d ih =>
  intro i c hd hi hc hl h
  have hlt : i < row.length := by omega
  have hq := hr (rd row i) (by rw [rd_at hlt]; exact List.getElem_mem _)
  obtain ⟨s1, s2, s3⟩ := low_step hl hq.1 (by rw [hc]; exact hq.2)
  rw [drop_rd hlt] at h
  simp only [decr] at h
  refine Ev.succ ?_
  simp only [impl_laplace.l1]
  refine Ev.pos (by omega) (Ev.pos (by omega) (Ev.pos (by omega) (Ev.pos hq.1 (Ev.pos (by omega) ?_))))
  rw [wrap_id (x := rd c (rd row i) - 1) (by omega), wrap_nat (n := i) (by omega)]
  exact ih (i + 1) _ (by omega) (by omega) (by simp; exact hc) s3 h
theorem lapI_l0 (hg : goodG g = true) (sink : Nat) (hs : sink < g.length) : ∀ (d i : Nat) (acc : List (List Int)), g.length - i = d → i ≤ g.length → acc.length ≤ i → Ev (fun k => impl_laplace.l0 k sink acc g g.length i g) (lapFrom g sink d i acc) := by
 have h8 := (good_iff hg).1.2
 intro d
 induction d with
 | zero =>
  intro i acc hd hi ha
  refine Ev.succ ?_
  simp only [impl_laplace.l0, lapFrom]
  exact Ev.neg (by omega) (Ev.now _)
 | succ d ih =>
  intro i acc hd hi ha
  have hrow := (good_iff hg).2 (rd_L1 g (i : Int)) (by rw [rdL_at (by omega)]; exact List.getElem_mem _)
  refine Ev.succ ?_
  simp only [impl_laplace.l0, lapFrom]
  refine Ev.pos (by omega) (Ev.pos (by omega) (Ev.pos (by omega) ?_))
  by_cases h : i = sink
  ·rw [if_pos h]
   refine Ev.pos (by omega) ?_
   rw [wrap_nat (by omega)]
   exact ih (i + 1) acc (by omega) (by omega) (by omega)
  ·rw [if_neg h]
   refine Ev.neg (by omega) (Ev.pos (by omega) (Ev.pos (by omega) (Ev.bind0 rfl (Ev.pos (by simp; omega) ?_))))
   rw [Int.toNat_natCast, Int.toNat_natCast]
   refine lapI_l1 hg sink i hs (by omega) acc (by omega) (rd_L1 g (i : Int)) hrow.1 hrow.2 _ 0 _ rfl (by omega) (by simp) (low_start hrow.1) ?_
   exact ih (i + 1) _ (by omega) (by omega) (by simp; omega)
theorem laplace_ev (hg : goodG g = true) {sink : Int} (h0 : 0 ≤ sink) (h1 : sink < (g.length : Int)) : Ev (fun k => impl_laplace.f k g sink) (lap g sink.toNat) := by
 unfold impl_laplace.f lap
 have := lapI_l0 hg sink.toNat (by omega) g.length 0 [] (by omega) (by omega) (by simp)
 rw [Int.toNat_of_nonneg h0] at this
 exact this
theorem own_l (l : List Int) (h : l.length ≤ 1048576) : spec_l1Own.f l = some l := by
 unfold spec_l1Own.f
 show (if ([] : List Int).length + l.length < 17592186044416 then some ([] ++ l) else none) = some l
 rw [if_pos (by simp; omega)]; rfl
theorem lapS_l1 (hg : goodG g = true) (sink p : Nat) (hs : sink < g.length) (hp : p < g.length) (acc : List (List Int)) (hacc : acc.length ≤ 8) (row : List Int) (h5 : row.length ≤ 5) (hr : ∀ q ∈ row, 0 ≤ q ∧ q < (g.length : Int)) :
  ∀ (d i : Nat) (c : List Int), row.length - i = d → i ≤ row.length → c.length = g.length → lowB i c → Ev (fun k => spec_trLaplace.l0 k sink (acc ++ [(decr (row.drop i) c).eraseIdx sink]) g g.length ((p + 1 : Nat) : Int) g) r → Ev (fun k => spec_trLaplace.l1 k sink acc c g g.length p row row.length i g) r := by
 have h8 := (good_iff hg).1.2
 intro d
 induction d with
 | zero =>
  intro i c hd hi hc hl h
  rw [List.drop_of_length_le (by omega)] at h
  simp only [decr] at h
  rw [List.eraseIdx_eq_take_drop_succ] at h
  refine Ev.succ ?_
  simp only [spec_trLaplace.l1]
  rw [wrap_nat (n := sink) (by omega), Int.toNat_natCast, Int.toNat_natCast]
  refine Ev.neg (by omega) (Ev.pos (by omega) (Ev.pos (by omega) (Ev.bind0 (own_l _ (by simp; omega)) (Ev.pos (by omega) (Ev.pos (by omega) (Ev.bind0 rfl (Ev.pos (by simp; omega) (Ev.pos (by omega) ?_))))))))
  rw [wrap_nat (n := p) (by omega)]
  exact h
 | succ d ih =>
  intro i c hd hi hc hl h
  have hlt : i < row.length := by omega
  have hq := hr (rd row i) (by rw [rd_at hlt]; exact List.getElem_mem _)
  obtain ⟨s1, s2, s3⟩ := low_step hl hq.1 (by rw [hc]; exact hq.2)
  rw [drop_rd hlt] at h
  simp only [decr] at h
  refine Ev.succ ?_
  simp only [spec_trLaplace.l1]
  refine Ev.pos (by omega) (Ev.pos (by omega) (Ev.pos (by omega) (Ev.pos hq.1 (Ev.pos (by omega) ?_))))
  rw [wrap_id (x := rd c (rd row i) - 1) (by omega), wrap_nat (n := i) (by omega)]
  exact ih (i + 1) _ (by omega) (by omega) (by simp; exact hc) s3 h
theorem lapS_l0 (hg : goodG g = true) (sink : Nat) (hs : sink < g.length) : ∀ (d i : Nat) (acc : List (List Int)), g.length - i = d → i ≤ g.length → acc.length ≤ i → Ev (fun k => spec_trLaplace.l0 k sink acc g g.length i g) (lapFrom g sink d i acc) := by
 have h8 := (good_iff hg).1.2
 intro d
 induction d with
 | zero =>
  intro i acc hd hi ha
  refine Ev.succ ?_
  simp only [spec_trLaplace.l0, lapFrom]
  exact Ev.neg (by omega) (Ev.now _)
 | succ d ih =>
  intro i acc hd hi ha
  have hrow := (good_iff hg).2 (rd_L1 g (i : Int)) (by rw [rdL_at (by omega)]; exact List.getElem_mem _)
  refine Ev.succ ?_
  simp only [spec_trLaplace.l0, lapFrom]
  refine Ev.pos (by omega) (Ev.pos (by omega) (Ev.pos (by omega) ?_))
  by_cases h : i = sink
  ·rw [if_pos h]
   refine Ev.pos (by omega) ?_
   rw [wrap_nat (by omega)]
   exact ih (i + 1) acc (by omega) (by omega) (by omega)
  ·rw [if_neg h]
   refine Ev.neg (by omega) (Ev.pos (by omega) (Ev.pos (by omega) (Ev.bind0 rfl (Ev.pos (by simp; omega) ?_))))
   rw [Int.toNat_natCast, Int.toNat_natCast]
   refine lapS_l1 hg sink i hs (by omega) acc (by omega) (rd_L1 g (i : Int)) hrow.1 hrow.2 _ 0 _ rfl (by omega) (by simp) (low_start hrow.1) ?_
   exact ih (i + 1) _ (by omega) (by omega) (by simp; omega)
theorem trLaplace_ev (hg : goodG g = true) {sink : Int} (h0 : 0 ≤ sink) (h1 : sink < (g.length : Int)) : Ev (fun k => spec_trLaplace.f k g sink) (lap g sink.toNat) := by
 unfold spec_trLaplace.f lap
 have := lapS_l0 hg sink.toNat (by omega) g.length 0 [] (by omega) (by omega) (by simp)
 rw [Int.toNat_of_nonneg h0] at this
 exact this
end
open DetKit
def cutc (c : Nat) (row : List Int) : List Int := row.take c ++ row.drop (c + 1)
theorem cutc_len {c : Nat} {row : List Int} (h : c < row.length) : (cutc c row).length = row.length - 1 := by unfold cutc; simp; omega
theorem rd_cutc {c j : Nat} {row : List Int} (hc : c < row.length) (hj : j + 1 < row.length) : rd (cutc c row) (j : Int) = rd row ((skip c j : Nat) : Int) := by
 rw [rd_at (by rw [cutc_len hc]; omega), rd_at (by unfold skip; split <;> omega)]
 unfold cutc skip
 by_cases h : j < c
 ·rw [List.getElem_append_left (by simp; omega)]; simp [h]
 ·rw [List.getElem_append_right (by simp; omega)]
  simp only [List.getElem_drop, List.length_take, if_neg h]
  congr 1; omega
def minr (m : List (List Int)) (c : Nat) : List (List Int) := (m.drop 1).map (cutc c)
theorem minr_sq {n c : Nat} {m : List (List Int)} (h : Sq (n + 1) m) (hc : c < n + 1) : Sq n (minr m c) := by
 have hl := h.len
 refine ⟨by unfold minr; simp; omega, fun row hr => ?_⟩
 obtain ⟨r, hr1, rfl⟩ := List.mem_map.1 hr
 have h2 := h.rows r (List.mem_of_mem_drop hr1)
 refine ⟨by rw [cutc_len (by omega)]; omega, fun x hx => ?_⟩
 unfold cutc at hx
 rcases List.mem_append.1 hx with h3 | h3
 ·exact h2.2 x (List.mem_of_mem_take h3)
 ·exact h2.2 x (List.mem_of_mem_drop h3)
theorem minr_mat {n c : Nat} {m : List (List Int)} (h : Sq (n + 1) m) (hc : c < n + 1) (i j : Nat) (hi : i < n) (hj : j < n) : mat (minr m c) i j = mat m (i + 1) (skip c j) := by
 have hl := h.len
 have hm : (minr m c).length = n := (minr_sq h hc).len
 have e : rd_L1 (minr m c) (i : Int) = cutc c (rd_L1 m ((i + 1 : Nat) : Int)) := by
  rw [rdL_at (by omega), rdL_at (by omega)]
  unfold minr
  simp only [List.getElem_map, List.getElem_drop]
  congr 2; omega
 have hr := h.row (i := i + 1) (by omega)
 unfold mat
 rw [e, rd_cutc (by omega) (by omega)]
def dterm (n : Nat) (m : List (List Int)) (c : Nat) : Int := sg c * mat m 0 c * D n (fun i j => mat m (i + 1) (skip c j))
theorem dterm_bound {n : Nat} (hn : n ≤ 6) {m : List (List Int)} (h : Sq (n + 1) m) {c : Nat} (hc : c < n + 1) : -7200000000 ≤ dterm n m c ∧ dterm n m c ≤ 7200000000 := by
 have hb := D_bound n (fun i j => mat m (i + 1) (skip c j)) (fun i j hi hj => h.bnd _ _ (by omega) (skip_lt hj))
 have h6 := bd_le6 hn
 have := term_bound (b := 720000000) (sg_or c) (h.bnd 0 c (by omega) hc) (d := D n (fun i j => mat m (i + 1) (skip c j))) (by omega)
 unfold dterm; omega
theorem own_s (l : List Int) (h : l.length ≤ 1048576) : spec_l1Own.f l = some l := by
 unfold spec_l1Own.f
 show (if ([] : List Int).length + l.length < 17592186044416 then some ([] ++ l) else none) = some l
 rw [if_pos (by simp; omega)]; rfl
theorem trDet_l1 (x0 : List (List Int)) (x3 x4 x6 : Int) (c : Nat) (row0 t : List (List Int)) (x15 : List Int) (x16 x17 : Int) (r : Int) (ht : t.length ≤ 8) (hc : c ≤ 7) (hrow : ∀ row ∈ t, c < row.length ∧ row.length ≤ 8) :
  ∀ (d i : Nat) (acc : List (List Int)), t.length - i = d → i ≤ t.length → acc.length = i → Ev (fun k => (spec_trDet.f k (acc ++ (t.drop i).map (cutc c))).bind fun t684 => spec_trDet.l0 k x0 (wrap64 (x3 + (wrap64 ((wrap64 (x4 * x6)) * t684)))) (wrap64 (-x4)) x15 x16 (wrap64 (x17 + 1))) r →
  Ev (fun k => spec_trDet.l1 k x0 x3 x4 c x6 acc x15 x16 x17 t t.length i) r := by
 intro d
 induction d with
 | zero =>
  intro i acc hd hi ha h
  refine Ev.succ ?_
  simp only [spec_trDet.l1]
  refine Ev.neg (by omega) ?_
  rw [List.drop_of_length_le (by omega)] at h
  simpa using h
 | succ d ih =>
  intro i acc hd hi ha h
  have hlt : i < t.length := by omega
  have e := rdL_at hlt
  have hr := hrow (rd_L1 t i) (by rw [e]; exact List.getElem_mem _)
  refine Ev.succ ?_
  simp only [spec_trDet.l1]
  rw [wrap_nat (n := c) (by omega), Int.toNat_natCast, Int.toNat_natCast]
  refine Ev.pos (by omega) (Ev.pos (by omega) (Ev.pos (by omega) (Ev.pos (by omega) (Ev.pos (by omega) (Ev.bind0 (own_s _ (by simp; omega)) (Ev.pos (by omega) (Ev.pos (by omega) (Ev.pos (by simp; omega) (Ev.pos (by omega) ?_)))))))))
  rw [wrap_nat (n := i) (by omega)]
  refine ih (i + 1) _ (by omega) (by omega) (by simp; omega) ?_
  rw [List.drop_eq_getElem_cons hlt, List.map_cons, ← e] at h
  rw [List.append_assoc]
  exact h
theorem trDet_ev : ∀ (n : Nat) (m : List (List Int)), n ≤ 7 → Sq n m → Ev (fun k => spec_trDet.f k m) (D n (mat m)) := by
 intro n
 induction n with
 | zero =>
  intro m hn h
  have hl := h.len
  refine Ev.succ ?_
  simp only [spec_trDet.f]
  exact Ev.pos (by omega) (Ev.now _)
 | succ n ih =>
  intro m hn h
  have hl := h.len
  have hr0 : (rd_L1 m (0 : Int)).length = n + 1 := h.row (i := 0) (by omega)
  refine Ev.succ ?_
  simp only [spec_trDet.f]
  refine Ev.neg (by omega) (Ev.pos (by omega) ?_)
  rw [hr0]
  have key : ∀ (d c : Nat), n + 1 - c = d → c ≤ n + 1 → Ev (fun k => spec_trDet.l0 k m (sm c (dterm n m)) (sg c) (rd_L1 m (0 : Int)) ((n + 1 : Nat) : Int) c) (D (n + 1) (mat m)) := by
   intro d
   induction d with
   | zero =>
    intro c hd hc
    have : c = n + 1 := by omega
    subst this
    refine Ev.succ ?_
    simp only [spec_trDet.l0]
    exact Ev.neg (by omega) ((Ev.now _).val rfl)
   | succ d ihd =>
    intro c hd hc
    have hcl : c < n + 1 := by omega
    have hx : rd (rd_L1 m (0 : Int)) (c : Int) = mat m 0 c := rfl
    have hb := dterm_bound (by omega) h hcl
    have hsb := sm_bound c (dterm n m) 7200000000 (fun i hi => dterm_bound (by omega) h (by omega))
    have hs : wrap64 (- sg c) = sg (c + 1) := by
     rw [sg_succ]; exact wrap_id (by rcases sg_or c with e | e <;> rw [e] <;> omega)
    have hnext := ihd (c + 1) (by omega) (by omega)
    refine Ev.succ ?_
    simp only [spec_trDet.l0]
    rw [hx, hs, wrap_nat (n := c) (by omega)]
    refine Ev.pos (by omega) (Ev.pos (by omega) (Ev.pos (by omega) ?_))
    by_cases hz : mat m 0 c = 0
    ·refine Ev.pos hz ?_
     have : sm (c + 1) (dterm n m) = sm c (dterm n m) := by
      simp only [sm, dterm, hz]; simp
     rw [this] at hnext
     exact hnext
    ·refine Ev.neg hz (Ev.pos (by omega) (Ev.bind0 rfl ?_))
     have hrow : ∀ row ∈ m.drop 1, c < row.length ∧ row.length ≤ 8 := fun row hr => by
      have := (h.rows row (List.mem_of_mem_drop hr)).1; omega
     refine trDet_l1 m _ _ _ c m (m.drop 1) _ _ _ _ (by simp; omega) (by omega) hrow _ 0 [] rfl (by omega) rfl ?_
     have hmin := ih (minr m c) (by omega) (minr_sq h hcl)
     have hD : D n (mat (minr m c)) = D n (fun i j => mat m (i + 1) (skip c j)) := D_congr (fun i hi j hj => minr_mat h hcl i j hi hj)
     rw [hD] at hmin
     refine Ev.bind (a := D n (fun i j => mat m (i + 1) (skip c j))) (by simpa [minr] using hmin) ?_
     have hx10 := h.bnd 0 c (by omega) hcl
     have hsx : -10 ≤ sg c * mat m 0 c ∧ sg c * mat m 0 c ≤ 10 := by
      rcases sg_or c with e | e <;> rw [e] <;> omega
     have hdt : wrap64 (wrap64 (sg c * mat m 0 c) * D n (fun i j => mat m (i + 1) (skip c j))) = dterm n m c := by
      rw [wrap_id (x := sg c * mat m 0 c) (by omega)]
      show wrap64 (dterm n m c) = _
      exact wrap_id (by omega)
     rw [hdt, wrap_id (x := sm c (dterm n m) + dterm n m c) (by omega), hs, wrap_nat (n := c) (by omega)]
     exact hnext
  exact key (n + 1) 0 (by omega) (by omega)
open DetKit
structure Rect (n : Nat) (a : List (List Int)) : Prop where
 len : a.length = n
 rows : ∀ row ∈ a, row.length = n
theorem Rect.row {n : Nat} {a : List (List Int)} (h : Rect n a) {i : Nat} (hi : i < n) : (rd_L1 a (i : Int)).length = n := by
 have hl := h.len
 exact h.rows (rd_L1 a (i : Int)) (by rw [rdL_at (by omega)]; exact List.getElem_mem _)
theorem rdL_set {a : List (List Int)} {i j : Nat} (hi : i < a.length) (row : List Int) : rd_L1 (a.set i row) (j : Int) = if j = i then row else rd_L1 a (j : Int) := by
 unfold rd_L1
 rw [Int.toNat_natCast]
 by_cases h : j = i
 ·subst h; rw [if_pos rfl]; simp [List.getD, hi]
 ·rw [if_neg h]; simp only [List.getD, List.getElem?_set_ne (fun e => h e.symm)]
theorem rdn_set {l : List Int} {i j : Nat} (hi : i < l.length) (v : Int) : rd (l.set i v) (j : Int) = if j = i then v else rd l (j : Int) := by
 unfold rd
 rw [Int.toNat_natCast]
 by_cases h : j = i
 ·subst h; rw [if_pos rfl]; simp [List.getD, hi]
 ·rw [if_neg h]; simp only [List.getD, List.getElem?_set_ne (fun e => h e.symm)]
theorem mat_set {n : Nat} {a : List (List Int)} (h : Rect n a) {i j : Nat} (hi : i < n) (hj : j < n) (v : Int) (p q : Nat) : mat (a.set i ((rd_L1 a (i : Int)).set j v)) p q = if p = i ∧ q = j then v else mat a p q := by
 have hl := h.len
 have hr := h.row hi
 unfold mat
 rw [rdL_set (by omega)]
 by_cases hp : p = i
 ·rw [if_pos hp, rdn_set (by omega)]
  by_cases hq : q = j
  ·rw [if_pos hq, if_pos ⟨hp, hq⟩]
  ·rw [if_neg hq, if_neg (fun e => hq e.2), hp]
 ·rw [if_neg hp, if_neg (fun e => hp e.1)]
theorem rect_set {n : Nat} {a : List (List Int)} (h : Rect n a) {i : Nat} {row : List Int} (hr : row.length = n) : Rect n (a.set i row) :=
 ⟨by simp; exact h.len, fun x hx => by
  rcases List.mem_or_eq_of_mem_set hx with h2 | h2
  ·exact h.rows x h2
  ·rw [h2]; exact hr⟩
theorem getD_rd (a : List (List Int)) (i : Nat) : a.getD i [] = rd_L1 a (i : Int) := by unfold rd_L1; rw [Int.toNat_natCast]
theorem rdL_swp {a : List (List Int)} {p q : Nat} (hp : p < a.length) (hq : q < a.length) (i : Nat) : rd_L1 (swp a [] p q) (i : Int) = if i = q then rd_L1 a (p : Int) else if i = p then rd_L1 a (q : Int) else rd_L1 a (i : Int) := by
 unfold swp
 rw [rdL_set (by simp; exact hq), rdL_set hp, getD_rd, getD_rd]
theorem rect_swp {n : Nat} {a : List (List Int)} (h : Rect n a) {p q : Nat} (hp : p < n) (hq : q < n) : Rect n (swp a [] p q) := by
 unfold swp
 rw [getD_rd, getD_rd]
 exact rect_set (rect_set h (h.row hq)) (h.row hp)
/-- Behind the elements up to (i, j), in the rows and columns behind kk: what stands there is of the next round. -/
def Upd (n kk : Nat) (A : Nat → Nat → Int) (a0 a : List (List Int)) (i j : Nat) : Prop :=
 ∀ p q, p < n → q < n → mat a p q = if kk < p ∧ kk < q ∧ (p < i ∨ (p = i ∧ q < j)) then B A (kk + 1) p q else mat a0 p q
theorem B_bound {n : Nat} {A : Nat → Nat → Int} (hA : ∀ i j, i < n → j < n → -10 ≤ A i j ∧ A i j ≤ 10) {k i j : Nat} (hk : k ≤ n) (hi : i < n) (hj : j < n) : -(bd (k + 1)) ≤ B A k i j ∧ B A k i j ≤ bd (k + 1) := by
 unfold B
 exact D_bound (k + 1) _ (fun a b ha hb => hA _ _ (by split <;> omega) (by split <;> omega))
section
variable {n kk : Nat} {A : Nat → Nat → Int} {a0 : List (List Int)} {s r : Int}
theorem bar_l4 (hn : n ≤ 7) (hA : ∀ i j, i < n → j < n → -10 ≤ A i j ∧ A i j ≤ 10) (hp : D kk A ≠ 0) (ha0 : ∀ i j, kk ≤ i → kk ≤ j → i < n → j < n → mat a0 i j = B A kk i j) {i : Nat} (hi : kk < i) (hin : i < n)
  (hnext : ∀ a, Rect n a → Upd n kk A a0 a (i + 1) (kk + 1) → Ev (fun k => impl_determinant.l3 k n s (D kk A) a kk ((i + 1 : Nat) : Int) n kk) r) :
  ∀ (d j : Nat) (a : List (List Int)), n - j = d → j ≤ n → kk < j → Rect n a → Upd n kk A a0 a i j → Ev (fun k => impl_determinant.l4 k n s (D kk A) a kk i j n kk) r := by
 intro d
 induction d with
 | zero =>
  intro j a hd hj hkj ha hu
  refine Ev.succ ?_
  simp only [impl_determinant.l4]
  refine Ev.neg (by omega) ?_
  rw [wrap_nat (by omega)]
  refine hnext a ha (fun p q hp hq => ?_)
  rw [hu p q hp hq]
  by_cases c : kk < p ∧ kk < q ∧ (p < i ∨ (p = i ∧ q < j))
  ·rw [if_pos c, if_pos ⟨c.1, c.2.1, by omega⟩]
  ·rw [if_neg c, if_neg (fun c2 => c ⟨c2.1, c2.2.1, by omega⟩)]
 | succ d ih =>
  intro j a hd hj hkj ha hu
  have hl := ha.len
  have hri := ha.row hin
  have hrk := ha.row (i := kk) (by omega)
  have hX : mat a i j = B A kk i j := by rw [hu i j hin (by omega), if_neg (by omega)]; exact ha0 i j (by omega) (by omega) hin (by omega)
  have hY : mat a kk kk = B A kk kk kk := by rw [hu kk kk (by omega) (by omega), if_neg (by omega)]; exact ha0 kk kk (by omega) (by omega) (by omega) (by omega)
  have hZ : mat a i kk = B A kk i kk := by rw [hu i kk hin (by omega), if_neg (by omega)]; exact ha0 i kk (by omega) (by omega) hin (by omega)
  have hW : mat a kk j = B A kk kk j := by rw [hu kk j (by omega) (by omega), if_neg (by omega)]; exact ha0 kk j (by omega) (by omega) (by omega) (by omega)
  have b6 := bd_le6 (n := kk + 1) (by omega)
  have b7 := bd_le7 (n := kk + 1 + 1) (by omega)
  have bX := B_bound hA (k := kk) (i := i) (j := j) (by omega) hin (by omega)
  have bY := B_bound hA (k := kk) (i := kk) (j := kk) (by omega) (by omega) (by omega)
  have bZ := B_bound hA (k := kk) (i := i) (j := kk) (by omega) hin (by omega)
  have bW := B_bound hA (k := kk) (i := kk) (j := j) (by omega) (by omega) (by omega)
  have bN := B_bound hA (k := kk + 1) (i := i) (j := j) (by omega) hin (by omega)
  have m1 := mul_bound (x := B A kk i j) (y := B A kk kk kk) (a := 720000000) (b := 720000000) (by omega) (by omega)
  have m2 := mul_bound (x := B A kk i kk) (y := B A kk kk j) (a := 720000000) (b := 720000000) (by omega) (by omega)
  have st := B_step A kk i j hp
  rw [Int.mul_comm (B A kk kk kk)] at st
  have hval : wrap64 (Int.tdiv (wrap64 (wrap64 (rd (rd_L1 a (i : Int)) (j : Int) * rd (rd_L1 a (kk : Int)) (kk : Int)) - wrap64 (rd (rd_L1 a (i : Int)) (kk : Int) * rd (rd_L1 a (kk : Int)) (j : Int)))) (D kk A)) = B A (kk + 1) i j := by
   show wrap64 (Int.tdiv (wrap64 (wrap64 (mat a i j * mat a kk kk) - wrap64 (mat a i kk * mat a kk j))) (D kk A)) = _
   rw [hX, hY, hZ, hW, wrap_id (x := B A kk i j * B A kk kk kk) (by omega), wrap_id (x := B A kk i kk * B A kk kk j) (by omega), wrap_id (x := B A kk i j * B A kk kk kk - B A kk i kk * B A kk kk j) (by omega), ← st, Int.mul_tdiv_cancel_left _ hp]
   exact wrap_id (by omega)
  refine Ev.succ ?_
  simp only [impl_determinant.l4]
  refine Ev.pos (by omega) (Ev.pos (by omega) (Ev.pos (by omega) (Ev.pos (by omega) (Ev.pos (by omega) (Ev.pos (by omega) (Ev.pos (by omega) (Ev.pos (by omega) (Ev.pos (by omega) (Ev.pos (by omega) (Ev.neg hp ?_))))))))))
  rw [hval, wrap_nat (by omega), Int.toNat_natCast, Int.toNat_natCast]
  refine ih (j + 1) _ (by omega) (by omega) (by omega) (rect_set ha (by simp; exact hri)) (fun p q hpn hqn => ?_)
  rw [mat_set ha hin (by omega)]
  by_cases c : p = i ∧ q = j
  ·rw [if_pos c, if_pos (by omega), c.1, c.2]
  ·rw [if_neg c, hu p q hpn hqn]
   by_cases c2 : kk < p ∧ kk < q ∧ (p < i ∨ (p = i ∧ q < j))
   ·rw [if_pos c2, if_pos (by omega)]
   ·rw [if_neg c2, if_neg (by omega)]
theorem bar_l3 (hn : n ≤ 7) (hkn : kk < n) (hA : ∀ i j, i < n → j < n → -10 ≤ A i j ∧ A i j ≤ 10) (hp : D kk A ≠ 0) (ha0 : ∀ i j, kk ≤ i → kk ≤ j → i < n → j < n → mat a0 i j = B A kk i j)
  (hnext : ∀ a, Rect n a → Upd n kk A a0 a n (kk + 1) → Ev (fun k => impl_determinant.l1 k n s (mat a0 kk kk) a n ((kk + 1 : Nat) : Int)) r) :
  ∀ (d i : Nat) (a : List (List Int)), n - i = d → i ≤ n → kk < i → Rect n a → Upd n kk A a0 a i (kk + 1) → Ev (fun k => impl_determinant.l3 k n s (D kk A) a kk i n kk) r := by
 intro d
 induction d with
 | zero =>
  intro i a hd hi hki ha hu
  have : i = n := by omega
  subst this
  have hl := ha.len
  have hrk := ha.row hkn
  have hY : rd (rd_L1 a (kk : Int)) (kk : Int) = mat a0 kk kk := by
   show mat a kk kk = _
   rw [hu kk kk hkn hkn, if_neg (by omega)]
  refine Ev.succ ?_
  simp only [impl_determinant.l3]
  refine Ev.neg (by omega) (Ev.pos (by omega) (Ev.pos (by omega) (Ev.pos (by omega) ?_)))
  rw [hY, wrap_nat (by omega)]
  exact hnext a ha hu
 | succ d ih =>
  intro i a hd hi hki ha hu
  refine Ev.succ ?_
  simp only [impl_determinant.l3]
  refine Ev.pos (by omega) ?_
  rw [wrap_nat (by omega)]
  exact bar_l4 hn hA hp ha0 hki (by omega) (fun a' ha' hu' => ih (i + 1) a' (by omega) (by omega) (by omega) ha' hu') (n - (kk + 1)) (kk + 1) a rfl (by omega) (by omega) ha hu
end
theorem B_swap {A : Nat → Nat → Int} {k p i j : Nat} (hp : k ≤ p) (hi : k ≤ i) : B (swapRows A p k) k i j = B A k (if i = p then k else if i = k then p else i) j := by
 unfold B
 refine D_congr (fun a ha b hb => ?_)
 by_cases hak : a < k
 ·rw [if_pos hak, if_pos hak]; unfold swapRows; rw [if_neg (by omega), if_neg (by omega)]
 ·rw [if_neg hak, if_neg hak]; unfold swapRows
  by_cases h1 : i = p
  ·rw [if_pos h1, if_pos h1]
  ·rw [if_neg h1, if_neg h1]
   by_cases h2 : i = k
   ·rw [if_pos h2, if_pos h2]
   ·rw [if_neg h2, if_neg h2]
theorem D_swap_low {A : Nat → Nat → Int} {k p : Nat} (hp : k ≤ p) : D k (swapRows A p k) = D k A :=
 D_congr (fun i hi j hj => by unfold swapRows; rw [if_neg (by omega), if_neg (by omega)])
theorem bar_l1 {n : Nat} (hn : n ≤ 7) (R : Int) : ∀ (d kk : Nat) (a : List (List Int)) (A : Nat → Nat → Int) (s : Int), n - kk = d → kk ≤ n → Rect n a → (∀ i j, i < n → j < n → -10 ≤ A i j ∧ A i j ≤ 10) → (s = 1 ∨ s = -1) → s * D n A = R → D kk A ≠ 0 → (∀ i j, kk ≤ i → kk ≤ j → i < n → j < n → mat a i j = B A kk i j) → Ev (fun k => impl_determinant.l1 k n s (D kk A) a n kk) R := by
 intro d
 induction d with
 | zero =>
  intro kk a A s hd hk ha hA hs hR hp hm
  have : kk = n := by omega
  subst this
  have hb := D_bound kk A (fun i j hi hj => hA i j hi hj)
  have b7 := bd_le7 hn
  refine Ev.succ ?_
  simp only [impl_determinant.l1]
  refine Ev.neg (by omega) ((Ev.now _).val ?_)
  rw [← hR]
  exact wrap_id (by rcases hs with rfl | rfl <;> omega)
 | succ d ih =>
  intro kk a A s hd hk ha hA hs hR hp hm
  have hkn : kk < n := by omega
  have hl := ha.len
  have round : ∀ (a1 : List (List Int)) (A1 : Nat → Nat → Int) (s1 : Int), Rect n a1 → (∀ i j, i < n → j < n → -10 ≤ A1 i j ∧ A1 i j ≤ 10) → (s1 = 1 ∨ s1 = -1) → s1 * D n A1 = R → D kk A1 = D kk A → (∀ i j, kk ≤ i → kk ≤ j → i < n → j < n → mat a1 i j = B A1 kk i j) → mat a1 kk kk ≠ 0 → Ev (fun k => impl_determinant.j4 k n s1 (D kk A) a1 kk n kk) R := by
   intro a1 A1 s1 h1 h2 h3 h4 h5 h6 h7
   have hd1 : D (kk + 1) A1 = mat a1 kk kk := by rw [h6 kk kk (by omega) (by omega) hkn hkn, B_diag]
   refine Ev.succ ?_
   simp only [impl_determinant.j4]
   rw [wrap_nat (by omega), ← h5]
   refine bar_l3 hn hkn h2 (by rw [h5]; exact hp) h6 (fun a' ha' hu' => ?_) (n - (kk + 1)) (kk + 1) a1 rfl (by omega) (by omega) h1 (fun p q _ _ => by rw [if_neg (by omega)])
   rw [← hd1]
   refine ih (kk + 1) a' A1 s1 (by omega) (by omega) ha' h2 h3 h4 (by rw [hd1]; exact h7) (fun i j hi hj hin hjn => ?_)
   rw [hu' i j hin hjn, if_pos ⟨by omega, by omega, .inl hin⟩]
  have pv : ∀ (e p : Nat), n - p = e → p ≤ n → kk ≤ p → (∀ q, kk ≤ q → q < p → B A kk q kk = 0) → Ev (fun k => impl_determinant.l2 k n s (D kk A) a kk p n kk) R := by
   intro e
   induction e with
   | zero =>
    intro p he hpn hkp hz
    have h0 : D n A = 0 := B_none A n kk hkn hp (fun i hi hin => hz i hi (by omega))
    refine Ev.succ ?_
    simp only [impl_determinant.l2]
    refine Ev.neg (by omega) (Ev.succ ?_)
    simp only [impl_determinant.j3]
    refine Ev.pos (by omega) ((Ev.now _).val ?_)
    rw [← hR, h0, Int.mul_zero]
   | succ e ihe =>
    intro p he hpn hkp hz
    have hrp := ha.row (i := p) (by omega)
    have hx : rd (rd_L1 a (p : Int)) (kk : Int) = B A kk p kk := hm p kk hkp (by omega) (by omega) hkn
    refine Ev.succ ?_
    simp only [impl_determinant.l2]
    refine Ev.pos (by omega) (Ev.pos (by omega) (Ev.pos (by omega) (Ev.pos (by omega) (Ev.pos (by omega) ?_))))
    rw [hx]
    by_cases h0 : B A kk p kk = 0
    ·refine Ev.pos h0 ?_
     rw [wrap_nat (by omega)]
     refine ihe (p + 1) (by omega) (by omega) (by omega) (fun q h1 h2 => ?_)
     by_cases hq : q = p
     ·rw [hq]; exact h0
     ·exact hz q h1 (by omega)
    ·refine Ev.neg h0 (Ev.succ ?_)
     simp only [impl_determinant.j3]
     refine Ev.neg (by omega) ?_
     by_cases hpk : p = kk
     ·subst hpk
      refine Ev.pos rfl ?_
      exact round a A s ha hA hs hR rfl hm (by rw [hm p p (by omega) (by omega) hkn hkn]; exact h0)
     ·refine Ev.neg (by omega) (Ev.bind0 (a := swp a [] p kk) ?_ ?_)
      ·unfold fake_swap.f
       rw [if_pos (by omega), if_pos (by omega), if_pos (by omega), if_pos (by omega), Int.toNat_natCast, Int.toNat_natCast]
      ·have hs1 : wrap64 (-s) = -s := wrap_id (by rcases hs with rfl | rfl <;> omega)
       rw [hs1]
       have hmm : ∀ i j, kk ≤ i → kk ≤ j → i < n → j < n → mat (swp a [] p kk) i j = B (swapRows A p kk) kk i j := fun i j hi hj hin hjn => by
        rw [B_swap hkp hi]
        unfold mat
        rw [rdL_swp (by omega) (by omega)]
        by_cases h1 : i = kk
        ·rw [if_pos h1, if_neg (by omega), if_pos h1]; exact hm p j hkp hj (by omega) hjn
        ·rw [if_neg h1]
         by_cases h2 : i = p
         ·rw [if_pos h2, if_pos h2]; exact hm kk j (by omega) hj hkn hjn
         ·rw [if_neg h2, if_neg h2, if_neg h1]; exact hm i j hi hj hin hjn
       refine round (swp a [] p kk) (swapRows A p kk) (-s) (rect_swp ha (by omega) hkn) (fun i j hi hj => ?_) (by omega) ?_ (D_swap_low hkp) hmm ?_
       ·unfold swapRows
        split
        ·exact hA _ _ hkn hj
        ·split
         ·exact hA _ _ (by omega) hj
         ·exact hA _ _ hi hj
       ·rw [D_swap n A p kk (by omega) hkn hpk, Int.neg_mul_neg]; exact hR
       ·rw [hmm kk kk (by omega) (by omega) hkn hkn, B_swap hkp (by omega), if_neg (by omega), if_pos rfl]
        exact h0
  refine Ev.succ ?_
  simp only [impl_determinant.l1]
  exact Ev.pos (by omega) (pv (n - kk) kk rfl (by omega) (by omega) (fun q h1 h2 => by omega))
theorem bar_l0 {n : Nat} (hn : n ≤ 7) (m : List (List Int)) (h : Sq n m) : ∀ (d i : Nat), n - i = d → i ≤ n → Ev (fun k => impl_determinant.l0 k n 1 1 (m.take i) m n i) (D n (mat m)) := by
 have hl := h.len
 intro d
 induction d with
 | zero =>
  intro i hd hi
  refine Ev.succ ?_
  simp only [impl_determinant.l0]
  refine Ev.neg (by omega) ?_
  rw [List.take_of_length_le (by omega)]
  have := bar_l1 hn (D n (mat m)) n 0 m (mat m) 1 (by omega) (by omega) ⟨hl, fun row hr => (h.rows row hr).1⟩ (fun i j hi hj => h.bnd i j hi hj) (.inl rfl) (by omega) (by show (1 : Int) ≠ 0; decide) (fun i j _ _ _ _ => by
   unfold B
   show _ = sm 1 _
   simp [sm, sg, D])
  exact this
 | succ d ih =>
  intro i hd hi
  have hlt : i < m.length := by omega
  have hrow := h.row (i := i) (by omega)
  refine Ev.succ ?_
  simp only [impl_determinant.l0]
  refine Ev.pos (by omega) (Ev.pos (by omega) (Ev.pos (by omega) (Ev.bind0 (a := rd_L1 m (i : Int)) (by unfold slices_Clone_int_int.f; first | rfl | rw [if_pos (by omega)]) (Ev.pos (by simp; omega) ?_))))
  rw [wrap_nat (by omega)]
  have e : m.take i ++ [rd_L1 m (i : Int)] = m.take (i + 1) := by rw [rdL_at hlt, List.take_succ_eq_append_getElem hlt]
  rw [e]
  exact ih (i + 1) (by omega) (by omega)
theorem determinant_ev {n : Nat} (hn : n ≤ 7) (m : List (List Int)) (h : Sq n m) : Ev (fun k => impl_determinant.f k m) (D n (mat m)) := by
 have hl := h.len
 unfold impl_determinant.f
 rw [hl]
 exact bar_l0 hn m h n 0 (by omega) (by omega)
theorem pigeon : ∀ (n : Nat) (l : List Int), l.Nodup → (∀ x ∈ l, 0 ≤ x ∧ x < (n : Int)) → l.length ≤ n
 | 0, l, _, h => by
  cases l with
  | nil => simp
  | cons x l => have := h x (by simp); omega
 | n + 1, l, hn, h => by
  have h1 := pigeon n (l.erase (n : Int)) (hn.erase _) (fun x hx => by
   have hx' := hn.mem_erase_iff.1 hx
   have h2 := h x hx'.2
   have h3 := hx'.1
   omega)
  by_cases hm : (n : Int) ∈ l
  ·have := List.length_erase_of_mem hm; omega
  ·rw [List.erase_of_not_mem hm] at h1; omega
def it (f : Int → Int) : Nat → Int → Int
 | 0, p => p
 | i + 1, p => it f i (f p)
theorem it_succ (f : Int → Int) (i : Nat) (p : Int) : it f (i + 1) p = f (it f i p) := by
 induction i generalizing p with
 | zero => rfl
 | succ i ih => rw [it, ih]; rfl
theorem it_add (f : Int → Int) (i j : Nat) (p : Int) : it f (i + j) p = it f j (it f i p) := by
 induction i generalizing p with
 | zero => simp [it]
 | succ i ih => rw [Nat.succ_add, it, ih]; rfl
def orb (f : Int → Int) (p : Int) (m : Nat) : List Int := (List.range m).map fun j => it f j p
theorem orb_len (f : Int → Int) (p : Int) (m : Nat) : (orb f p m).length = m := by simp [orb]
theorem orb_succ (f : Int → Int) (p : Int) (m : Nat) : orb f p (m + 1) = orb f p m ++ [it f m p] := by simp [orb, List.range_succ]
theorem orb_mem {f : Int → Int} {p x : Int} {m : Nat} : x ∈ orb f p m ↔ ∃ j, j < m ∧ it f j p = x := by simp [orb]
theorem orb_get {f : Int → Int} {p : Int} {m j : Nat} (h : j < m) : (orb f p m)[j]'(by rw [orb_len]; exact h) = it f j p := by simp [orb]
theorem orb_drop (f : Int → Int) (p : Int) (s per : Nat) : (orb f p (s + per)).drop s = orb f (it f s p) per := by
 apply List.ext_getElem
 ·simp [orb]
 ·intro i h1 h2
  simp only [orb, List.getElem_drop, List.getElem_map, List.getElem_range]
  rw [it_add]
theorem orb_inj {f : Int → Int} {p : Int} {m i j : Nat} (hn : (orb f p m).Nodup) (hi : i < m) (hj : j < m) (h : it f i p = it f j p) : i = j := by
 have h1 : (orb f p m)[i]'(by rw [orb_len]; exact hi) = (orb f p m)[j]'(by rw [orb_len]; exact hj) := by rw [orb_get hi, orb_get hj, h]
 exact (List.getElem_inj hn).1 h1
theorem nodup_snoc {l : List Int} {x : Int} (hn : l.Nodup) (hx : x ∉ l) : (l ++ [x]).Nodup := by
 rw [List.nodup_append]
 refine ⟨hn, by simp, ?_⟩
 intro a ha b hb
 simp at hb
 subst hb
 intro e; subst e; exact hx ha
/-- A way that comes again: p leads over s places into a circle of per places. -/
structure Rho (f : Int → Int) (n : Nat) (p : Int) (s per : Nat) : Prop where
 pos : 0 < per
 le : s + per ≤ n
 nodup : (orb f p (s + per)).Nodup
 back : it f per (it f s p) = it f s p
theorem Rho.all {f : Int → Int} {n : Nat} {p : Int} {s per : Nat} (h : Rho f n p s per) (j : Nat) : it f j p ∈ orb f p (s + per) := by
 induction j with
 | zero => exact orb_mem.2 ⟨0, by have := h.pos; omega, rfl⟩
 | succ j ih =>
  obtain ⟨m, hm, he⟩ := orb_mem.1 ih
  rw [it_succ, ← he, ← it_succ f m p]
  by_cases h2 : m + 1 < s + per
  ·exact orb_mem.2 ⟨m + 1, h2, rfl⟩
  ·have h3 : m + 1 = s + per := by omega
   rw [h3, it_add, h.back]
   exact orb_mem.2 ⟨s, by have := h.pos; omega, rfl⟩
theorem Rho.far {f : Int → Int} {n : Nat} {p : Int} {s per : Nat} (h : Rho f n p s per) (j : Nat) : it f (s + j + per) p = it f (s + j) p := by
 rw [show s + j + per = s + per + j by omega, it_add f (s + per), it_add f s per, h.back, ← it_add]
/-- From s steps on, the way is in the circle. -/
theorem Rho.ring {f : Int → Int} {n : Nat} {p : Int} {s per : Nat} (h : Rho f n p s per) (j : Nat) : ∃ a, a < per ∧ it f (s + j) p = it f a (it f s p) := by
 induction j with
 | zero => exact ⟨0, h.pos, rfl⟩
 | succ j ih =>
  obtain ⟨a, ha, he⟩ := ih
  rw [show s + (j + 1) = (s + j) + 1 by omega, it_succ, he, ← it_succ f a]
  by_cases h2 : a + 1 < per
  ·exact ⟨a + 1, h2, rfl⟩
  ·rw [show a + 1 = per by omega, h.back]
   exact ⟨0, h.pos, rfl⟩
/-- The circle, from another of its places on: its places are the same, and it comes again behind as many steps, not before. -/
theorem Rho.turn {f : Int → Int} {n : Nat} {p : Int} {s per : Nat} (h : Rho f n p s per) (j : Nat) :
  (∀ x, x ∈ orb f (it f (s + j) p) per ↔ x ∈ orb f (it f s p) per) ∧ it f per (it f (s + j) p) = it f (s + j) p ∧ ∀ i, 0 < i → i < per → it f i (it f (s + j) p) ≠ it f (s + j) p := by
 have hb : it f per (it f (s + j) p) = it f (s + j) p := by rw [← it_add]; exact h.far j
 obtain ⟨a, ha, hea⟩ := h.ring j
 have hc : ∀ m x, it f m (it f s p) = x → ∃ b, b < per ∧ it f b (it f s p) = x := by
  intro m x hx
  obtain ⟨b, hb, he⟩ := h.ring m
  exact ⟨b, hb, by rw [← he, it_add]; exact hx⟩
 refine ⟨fun x => ⟨fun hx => ?_, fun hx => ?_⟩, hb, fun i h0 hi he => ?_⟩
 ·obtain ⟨m, hm, he⟩ := orb_mem.1 hx
  rw [hea, ← it_add] at he
  obtain ⟨b, hb, he2⟩ := hc _ _ he
  exact orb_mem.2 ⟨b, hb, he2⟩
 ·obtain ⟨m, hm, he⟩ := orb_mem.1 hx
  by_cases h2 : a ≤ m
  ·exact orb_mem.2 ⟨m - a, by omega, by rw [hea, ← it_add, show a + (m - a) = m by omega, he]⟩
  ·refine orb_mem.2 ⟨per - a + m, by omega, ?_⟩
   rw [hea, ← it_add, show a + (per - a + m) = per + m by omega, it_add, h.back, he]
 ·rw [hea, ← it_add] at he
  by_cases h2 : a + i < per
  ·have := orb_inj (i := s + (a + i)) (j := s + a) h.nodup (by omega) (by omega) (by rw [it_add, it_add f s a]; exact he)
   omega
  ·have e2 : it f (a + i) (it f s p) = it f (a + i - per) (it f s p) := by
    rw [show a + i = per + (a + i - per) by omega, it_add, h.back]; congr 1; omega
   rw [e2] at he
   have := orb_inj (i := s + (a + i - per)) (j := s + a) h.nodup (by omega) (by omega) (by rw [it_add, it_add f s a]; exact he)
   omega
/-- Behind fewer than s steps the way isn't in the circle. -/
theorem Rho.out {f : Int → Int} {n : Nat} {p : Int} {s per : Nat} (h : Rho f n p s per) {i : Nat} (hi : i < s) : it f i p ∉ orb f (it f s p) per := by
 intro hm
 obtain ⟨m, hm, he⟩ := orb_mem.1 hm
 rw [← it_add] at he
 have := orb_inj (i := s + m) (j := i) h.nodup (by omega) (by omega) he
 omega
/-- Are these rotors of these rows. -/
def rotB : List Int → List (List Int) → Bool
 | r :: rs, row :: rows => (decide (0 ≤ r) && decide (r ≤ if (row.length : Int) - 1 < 0 then 0 else (row.length : Int) - 1)) && rotB rs rows
 | _, _ => true
def nx (g : List (List Int)) (rot : List Int) (p : Int) : Int := if ((rd_L1 g p).length : Int) = 0 then -1 else rd (rd_L1 g p) (rd rot p)
theorem rot_at : ∀ (rot : List Int) (g : List (List Int)), rotB rot g = true → ∀ (i : Nat) (h1 : i < rot.length) (h2 : i < g.length), 0 ≤ rot[i] ∧ (rot[i] < (g[i].length : Int) ∨ rot[i] = 0) := by
 intro rot
 induction rot with
 | nil => intro g h i h1; simp at h1
 | cons r rot ih =>
  intro g h i h1 h2
  cases g with
  | nil => simp at h2
  | cons row g =>
   simp only [rotB, Bool.and_eq_true, decide_eq_true_eq] at h
   cases i with
   | zero =>
    simp only [List.getElem_cons_zero]
    have := h.1; unfold mx at this; split at this <;> omega
   | succ i =>
    simp only [List.getElem_cons_succ]
    exact ih g h.2 i (by simpa using h1) (by simpa using h2)
theorem rot_rd {g : List (List Int)} {rot : List Int} (hr : rotB rot g = true) (hl : rot.length = g.length) {p : Int} (h0 : 0 ≤ p) (h1 : p < (g.length : Int)) : 0 ≤ rd rot p ∧ (((rd_L1 g p).length : Int) = 0 ∨ rd rot p < ((rd_L1 g p).length : Int)) := by
 have := rot_at rot g hr p.toNat (by omega) (by omega)
 rw [rd_get h0 (by omega), rdL_get h0 h1]
 omega
theorem next_eq {g : List (List Int)} {rot : List Int} (hr : rotB rot g = true) (hl : rot.length = g.length) {p : Int} (h0 : 0 ≤ p) (h1 : p < (g.length : Int)) : impl_Graph_next.f g rot p = some (nx g rot p) := by
 obtain ⟨a, b⟩ := rot_rd hr hl h0 h1
 unfold impl_Graph_next.f nx
 rw [if_pos h0, if_pos h1]
 by_cases h : ((rd_L1 g p).length : Int) = 0
 ·rw [if_pos h, if_pos h]
 ·rw [if_neg h, if_neg h, if_pos (by omega), if_pos a, if_pos (by omega)]
theorem trNext_eq {g : List (List Int)} {rot : List Int} (hr : rotB rot g = true) (hl : rot.length = g.length) {p : Int} (h0 : 0 ≤ p) (h1 : p < (g.length : Int)) : spec_trNext.f g rot p = some (nx g rot p) := by
 obtain ⟨a, b⟩ := rot_rd hr hl h0 h1
 unfold spec_trNext.f nx
 rw [if_pos h0, if_pos h1]
 by_cases h : ((rd_L1 g p).length : Int) = 0
 ·rw [if_pos h, if_pos h]
 ·rw [if_neg h, if_neg h, if_pos (by omega), if_pos a, if_pos (by omega)]
theorem nx_lt {g : List (List Int)} (hg : goodG g = true) {rot : List Int} (hr : rotB rot g = true) (hl : rot.length = g.length) {p : Int} (h0 : 0 ≤ p) (h1 : p < (g.length : Int)) : nx g rot p < (g.length : Int) ∧ -1 ≤ nx g rot p := by
 obtain ⟨a, b⟩ := rot_rd hr hl h0 h1
 have hrow := ((good_iff hg).2 (rd_L1 g p) (by rw [rdL_get h0 h1]; exact List.getElem_mem _)).2
 unfold nx
 split
 ·omega
 ·have := hrow (rd (rd_L1 g p) (rd rot p)) (by rw [rd_get a (by omega)]; exact List.getElem_mem _)
  omega

/-- Rotors of a graph. -/
structure Rot (g : List (List Int)) (rot : List Int) : Prop where
 good : goodG g = true
 rb : rotB rot g = true
 len : rot.length = g.length
theorem Rot.it_ok {g : List (List Int)} {rot : List Int} (h : Rot g rot) {p : Int} (h0 : 0 ≤ p) (h1 : p < (g.length : Int)) : ∀ i, (∀ j, j < i → 0 ≤ nx g rot (it (nx g rot) j p)) → 0 ≤ it (nx g rot) i p ∧ it (nx g rot) i p < (g.length : Int) := by
 intro i
 induction i with
 | zero => intro _; exact ⟨h0, h1⟩
 | succ i ih =>
  intro ha
  obtain ⟨a, b⟩ := ih (fun j hj => ha j (by omega))
  rw [it_succ]
  exact ⟨ha i (by omega), (nx_lt h.good h.rb h.len a b).1⟩
theorem Rot.orb_ok {g : List (List Int)} {rot : List Int} (h : Rot g rot) {p : Int} (h0 : 0 ≤ p) (h1 : p < (g.length : Int)) {i : Nat} (ha : ∀ j, j + 1 < i → 0 ≤ nx g rot (it (nx g rot) j p)) : ∀ x ∈ orb (nx g rot) p i, 0 ≤ x ∧ x < (g.length : Int) := by
 intro x hx
 obtain ⟨j, hj, rfl⟩ := orb_mem.1 hx
 exact h.it_ok h0 h1 j (fun m hm => ha m (by omega))
/-- m next places lead to the sink, not fewer. -/
structure Hit (f : Int → Int) (sink p : Int) (m : Nat) : Prop where
 at_ : it f m p = sink
 on : ∀ j, j < m → it f j p ≠ sink ∧ 0 ≤ f (it f j p)
theorem Hit.uniq {f : Int → Int} {sink p : Int} {m m' : Nat} (h : Hit f sink p m) (h' : Hit f sink p m') : m = m' := by
 rcases Nat.lt_trichotomy m m' with h2 | h2 | h2
 ·exact absurd h.at_ (h'.on m h2).1
 ·exact h2
 ·exact absurd h'.at_ (h.on m' h2).1
theorem Hit.nodup {f : Int → Int} {sink p : Int} {m : Nat} (h : Hit f sink p m) : (orb f p (m + 1)).Nodup := by
 unfold orb
 rw [List.nodup_iff_pairwise_ne, List.pairwise_map]
 refine List.Pairwise.imp_of_mem ?_ (List.pairwise_lt_range (n := m + 1))
 intro i j hi hj hlt he
 have hj2 : j < m + 1 := List.mem_range.1 hj
 have : it f (i + (m - j)) p = sink := by
  rw [it_add, he, ← it_add, show j + (m - j) = m by omega]; exact h.at_
 exact (h.on (i + (m - j)) (by omega)).1 this
theorem Hit.lt {g : List (List Int)} {rot : List Int} (hr : Rot g rot) {sink p : Int} (h0 : 0 ≤ p) (h1 : p < (g.length : Int)) {m : Nat} (h : Hit (nx g rot) sink p m) : m < g.length := by
 have := pigeon g.length _ h.nodup (hr.orb_ok h0 h1 (fun j hj => (h.on j (by omega)).2))
 rw [orb_len] at this; omega
open Classical in
noncomputable def dst (f : Int → Int) (sink p : Int) : Int := if h : ∃ m, Hit f sink p m then ((Classical.choose h : Nat) : Int) else -1
theorem dst_hit {f : Int → Int} {sink p : Int} {m : Nat} (h : Hit f sink p m) : dst f sink p = m := by
 have he : ∃ m, Hit f sink p m := ⟨m, h⟩
 unfold dst
 rw [dif_pos he]
 have := h.uniq (Classical.choose_spec he)
 omega
theorem dst_no {f : Int → Int} {sink p : Int} (h : ¬ ∃ m, Hit f sink p m) : dst f sink p = -1 := by unfold dst; rw [dif_neg h]
noncomputable def allFrom (g : List (List Int)) (rot : List Int) (sink : Int) : Nat → Nat → Bool
 | 0, _ => true
 | d + 1, i => if dst (nx g rot) sink i < 0 then false else allFrom g rot sink d (i + 1)
noncomputable def waysFrom (g : List (List Int)) (rot : List Int) (sink : Int) : Nat → Nat → List Int → List Int
 | 0, _, acc => acc
 | d + 1, i, acc => waysFrom g rot sink d (i + 1) (acc ++ [dst (nx g rot) sink i])
noncomputable def treeB (g : List (List Int)) (rot : List Int) (sink : Int) : Bool := allFrom g rot sink g.length 0
noncomputable def wayList (g : List (List Int)) (rot : List Int) (sink : Int) : List Int := waysFrom g rot sink g.length 0 []
theorem waysFrom_len (g : List (List Int)) (rot : List Int) (sink : Int) : ∀ (d i : Nat) (acc : List Int), (waysFrom g rot sink d i acc).length = acc.length + d := by
 intro d
 induction d with
 | zero => intro i acc; rfl
 | succ d ih => intro i acc; simp only [waysFrom]; rw [ih]; simp; omega
/-- The inner way of the program, from a place on. -/
theorem treeWays_l1 {g : List (List Int)} {rot : List Int} (hr : Rot g rot) {sink p : Int} (h0 : 0 ≤ p) (h1 : p < (g.length : Int)) (acc : List Int) (hacc : acc.length ≤ 100) (x : Int) : ∀ (d i : Nat), g.length + 1 - i = d → i ≤ g.length + 1 → (∀ j, j < i → it (nx g rot) j p ≠ sink ∧ 0 ≤ nx g rot (it (nx g rot) j p)) →
  (dst (nx g rot) sink p < 0 → Ev (fun k => impl_Graph_treeWays.l1 k sink rot acc i (it (nx g rot) i p) g.length x g) ([], false)) ∧
  (¬ dst (nx g rot) sink p < 0 → ∀ r, Ev (fun k => impl_Graph_treeWays.l0 k sink rot (acc ++ [dst (nx g rot) sink p]) g.length (wrap64 (x + 1)) g) r → Ev (fun k => impl_Graph_treeWays.l1 k sink rot acc i (it (nx g rot) i p) g.length x g) r) := by
 have h8 := (good_iff hr.good).1.2
 intro d
 induction d with
 | zero =>
  intro i hd hi ha
  have hp := hr.it_ok h0 h1 i (fun j hj => (ha j hj).2)
  have hno : ¬ ∃ m, Hit (nx g rot) sink p m := by
   rintro ⟨m, hm⟩
   have hlt := hm.lt hr h0 h1
   exact (ha m (by omega)).1 hm.at_
  have hns : it (nx g rot) i p ≠ sink := fun e => hno ⟨i, e, ha⟩
  refine ⟨fun _ => ?_, fun h => absurd (dst_no hno) (by omega)⟩
  refine Ev.succ ?_
  simp only [impl_Graph_treeWays.l1]
  refine Ev.neg hns (Ev.bind0 (next_eq hr.rb hr.len hp.1 hp.2) ?_)
  by_cases hneg : nx g rot (it (nx g rot) i p) < 0
  ·exact Ev.pos hneg (Ev.now _)
  ·exact Ev.neg hneg (Ev.pos (by omega) (Ev.now _))
 | succ d ih =>
  intro i hd hi ha
  have hp := hr.it_ok h0 h1 i (fun j hj => (ha j hj).2)
  by_cases hs : it (nx g rot) i p = sink
  ·have hh : dst (nx g rot) sink p = i := dst_hit ⟨hs, ha⟩
   refine ⟨fun h => by omega, fun _ r hrr => ?_⟩
   rw [hh] at hrr
   refine Ev.succ ?_
   simp only [impl_Graph_treeWays.l1]
   exact Ev.pos hs (Ev.pos (by omega) hrr)
  ·by_cases hneg : nx g rot (it (nx g rot) i p) < 0
   ·have hno : ¬ ∃ m, Hit (nx g rot) sink p m := by
     rintro ⟨m, hm⟩
     rcases Nat.lt_trichotomy m i with h2 | h2 | h2
     ·exact (ha m h2).1 hm.at_
     ·subst h2; exact hs hm.at_
     ·have := (hm.on i h2).2; omega
    refine ⟨fun _ => ?_, fun h => absurd (dst_no hno) (by omega)⟩
    refine Ev.succ ?_
    simp only [impl_Graph_treeWays.l1]
    exact Ev.neg hs (Ev.bind0 (next_eq hr.rb hr.len hp.1 hp.2) (Ev.pos hneg (Ev.now _)))
   ·have hrec := ih (i + 1) (by omega) (by omega) (fun j hj => by
     by_cases hj2 : j = i
     ·subst hj2; exact ⟨hs, by omega⟩
     ·exact ha j (by omega))
    have hstep : ∀ r, Ev (fun k => impl_Graph_treeWays.l1 k sink rot acc (i + 1 : Nat) (it (nx g rot) (i + 1) p) g.length x g) r → Ev (fun k => impl_Graph_treeWays.l1 k sink rot acc i (it (nx g rot) i p) g.length x g) r := by
     intro r hrr
     rw [it_succ] at hrr
     refine Ev.succ ?_
     simp only [impl_Graph_treeWays.l1]
     refine Ev.neg hs (Ev.bind0 (next_eq hr.rb hr.len hp.1 hp.2) (Ev.neg hneg (Ev.neg (by omega) ?_)))
     rw [wrap_nat (by omega)]; exact hrr
    exact ⟨fun h => hstep _ (hrec.1 h), fun h r hrr => hstep _ (hrec.2 h r hrr)⟩
theorem treeWays_l0 {g : List (List Int)} {rot : List Int} (hr : Rot g rot) (sink : Int) : ∀ (d i : Nat) (acc : List Int), g.length - i = d → i ≤ g.length → acc.length = i → Ev (fun k => impl_Graph_treeWays.l0 k sink rot acc g.length i g) (cond (allFrom g rot sink d i) (waysFrom g rot sink d i acc, true) ([], false)) := by
 have h8 := (good_iff hr.good).1.2
 intro d
 induction d with
 | zero =>
  intro i acc hd hi hac
  refine Ev.succ ?_
  simp only [impl_Graph_treeWays.l0]
  exact Ev.neg (by omega) (Ev.now _)
 | succ d ih =>
  intro i acc hd hi hac
  have hl := treeWays_l1 hr (sink := sink) (p := (i : Int)) (by omega) (by omega) acc (by omega) (i : Int) (g.length + 1) 0 (by omega) (by omega) (fun j hj => by omega)
  refine Ev.succ ?_
  simp only [impl_Graph_treeWays.l0, allFrom, waysFrom]
  refine Ev.pos (by omega) ?_
  by_cases h : dst (nx g rot) sink i < 0
  ·rw [if_pos h]; exact hl.1 h
  ·rw [if_neg h]
   refine hl.2 h _ ?_
   rw [wrap_nat (by omega)]
   exact ih (i + 1) _ (by omega) (by omega) (by simp; omega)
theorem treeWays_ev {g : List (List Int)} {rot : List Int} (hr : Rot g rot) (sink : Int) : Ev (fun k => impl_Graph_treeWays.f k g sink rot) (cond (treeB g rot sink) (wayList g rot sink, true) ([], false)) :=
 treeWays_l0 hr sink g.length 0 [] (by omega) (by omega) rfl
theorem isTree_ev {g : List (List Int)} {rot : List Int} (hr : Rot g rot) (sink : Int) : Ev (fun k => impl_Graph_isTree.f k g sink rot) (treeB g rot sink) := by
 unfold impl_Graph_isTree.f
 refine Ev.bind (treeWays_ev hr sink) ((Ev.now _).val ?_)
 cases h : treeB g rot sink <;> simp
end Go.Proofs.Ythjkhbfaenidpaa.M
