/- The law FnExactTreeWays holds for every input: the program returns what the reference returns (or what the law says), for all arguments. -/
import Derived.Test.YtnphoaecjeenjaaP0
import Derived.Test.YtnphoaecjeenjaaCFnExactTreeWaysa
import Derived.Test.YtnphoaecjeenjaaPspecgrPlace
import Derived.Test.YtnphoaecjeenjaaPimplhas
import Derived.Test.YtnphoaecjeenjaaPlawsszIntS
import Derived.Test.YtnphoaecjeenjaaPlawstoIntS
import Derived.Test.YtnphoaecjeenjaaPlawseqIntS
import Derived.Test.YtnphoaecjeenjaaPimplisWalk
import Derived.Test.YtnphoaecjeenjaaPspecwaGood
import Derived.Test.YtnphoaecjeenjaaPimplGraphnext
import Derived.Test.YtnphoaecjeenjaaPspectrNext
import Derived.Test.YtnphoaecjeenjaaPimplGraphtreeWays
import Derived.Test.YtnphoaecjeenjaaPspectrFar
import Derived.Test.YtnphoaecjeenjaaPimplareSinkRotors
import Derived.Test.YtnphoaecjeenjaaPimplareRotors
import Derived.Test.YtnphoaecjeenjaaPspectrGood
import Derived.Test.YtnphoaecjeenjaaPlawsmarkIntS
import Derived.Test.YtnphoaecjeenjaaPlawsheldIntS
import Derived.Test.YtnphoaecjeenjaaPlawsmarkIntSS
import Derived.Test.YtnphoaecjeenjaaPlawsmarkGraph
import Derived.Test.YtnphoaecjeenjaaRows
import Derived.WalkKit
import Derived.ProofKit
import Derived.OpenShut
import Derived.ShutString
import Derived.ChangeOld
import Derived.Below
import Derived.SizedLaws
import Derived.Deep.Matrix
import Derived.Lib.SmallJoins
namespace Go.Proofs.Ytnphoaecjeenjaa.P
open Go.RowKit Go.Proofs.YtnphoaecjeenjaaW.PrintWords Go.Proofs.YtnphoaecjeenjaaW.PrintLast Go.Proofs.YtnphoaecjeenjaaW.PrintMore
attribute [local go_sem] max2_int min2_int max_two min_two max_three min_three max_four min_four   -- for this text's walks alone
set_option linter.unusedVariables false
set_option linter.unusedSimpArgs false

/-! ### spec_grFar: function 99 -/
mutual
def spec_grFar.l0 : Nat → Int → List Int → Int → Int → List (List Int) → Option (List Int)
  | 0, _, _, _, _, _ => none
  | k + 1, x1, x5, x16, x17, x264000 => if x17 < x16 then (if 0 ≤ x17 then (if x17 < (x5.length : Int) then (spec_grFar.l0 k x1 (x5.set (x17 : Int).toNat (-1)) x16 (wrap64 (x17 + 1)) x264000) else (none)) else (none)) else (if 0 ≤ x1 then (if x1 < (x5.length : Int) then (spec_grFar.l1 k (x5.set (x1 : Int).toNat 0) (([x1] : List Int)) 0 x264000) else (none)) else (none))
def spec_grFar.l1 : Nat → List Int → List Int → Int → List (List Int) → Option (List Int)
  | 0, _, _, _, _ => none
  | k + 1, x5, x7, x8, x264000 => if x8 < (x7.length : Int) then (if 0 ≤ x8 then (if 0 ≤ (rd x7 x8) then (if (rd x7 x8) < (x264000.length : Int) then (spec_grFar.l2 k x5 x7 x8 (rd_L1 x264000 (rd x7 x8)) ((rd_L1 x264000 (rd x7 x8)).length : Int) 0 x264000) else (none)) else (none)) else (none)) else (some x5)
def spec_grFar.l2 : Nat → List Int → List Int → Int → List Int → Int → Int → List (List Int) → Option (List Int)
  | 0, _, _, _, _, _, _, _ => none
  | k + 1, x5, x7, x8, x42, x43, x44, x264000 => if x44 < x43 then (if 0 ≤ x44 then (if x44 < (x42.length : Int) then (if 0 ≤ (rd x42 x44) then (if (rd x42 x44) < (x5.length : Int) then (if (rd x5 (rd x42 x44)) < 0 then (if 0 ≤ x8 then (if x8 < (x7.length : Int) then (if 0 ≤ (rd x7 x8) then (if (rd x7 x8) < (x5.length : Int) then (if x7.length < 17592186044416 then (spec_grFar.l2 k (x5.set ((rd x42 x44) : Int).toNat (wrap64 ((rd x5 (rd x7 x8)) + 1))) (x7 ++ [rd x42 x44]) x8 x42 x43 (wrap64 (x44 + 1)) x264000) else (none)) else (none)) else (none)) else (none)) else (none)) else (spec_grFar.l2 k x5 x7 x8 x42 x43 (wrap64 (x44 + 1)) x264000)) else (none)) else (none)) else (none)) else (none)) else (spec_grFar.l1 k x5 x7 (wrap64 (x8 + 1)) x264000)
end
def spec_grFar.f (k : Nat) (l0_0 : List (List Int)) (a1 : Int) : Option (List Int) := if 0 ≤ (l0_0.length : Int) then (if ((l0_0.length : Int) : Int).toNat ≤ 35184372088832 then ((some (List.replicate ((l0_0.length : Int) : Int).toNat 0 : List Int)).bind fun y264 => (spec_grFar.l0 k a1 y264 (y264.length : Int) 0 l0_0)) else (none)) else (none)
theorem spec_grFar.mono_l : ∀ k, (∀ y0 y1 y2 y3 y4, LeO (spec_grFar.l0 k y0 y1 y2 y3 y4) (spec_grFar.l0 (k + 1) y0 y1 y2 y3 y4)) ∧ (∀ y0 y1 y2 y3, LeO (spec_grFar.l1 k y0 y1 y2 y3) (spec_grFar.l1 (k + 1) y0 y1 y2 y3)) ∧ (∀ y0 y1 y2 y3 y4 y5 y6, LeO (spec_grFar.l2 k y0 y1 y2 y3 y4 y5 y6) (spec_grFar.l2 (k + 1) y0 y1 y2 y3 y4 y5 y6))
  | 0 => ⟨fun _ _ _ _ _ r h => by simp [spec_grFar.l0] at h, fun _ _ _ _ r h => by simp [spec_grFar.l1] at h, fun _ _ _ _ _ _ _ r h => by simp [spec_grFar.l2] at h⟩
  | k + 1 => by
    obtain ⟨ih0, ih1, ih2⟩ := spec_grFar.mono_l k
    refine ⟨?_, ?_, ?_⟩
    · intro y0 y1 y2 y3 y4
      unfold spec_grFar.l0
      repeat' first
      | (with_reducible exact ih0 _ _ _ _ _)
      | (with_reducible exact ih1 _ _ _ _)
      | (with_reducible exact ih2 _ _ _ _ _ _ _)
      | (with_reducible exact LeO.refl _)
      | (with_reducible exact LeO.none _)
      | (with_reducible refine LeO.ite ?_ ?_)
      | (with_reducible refine LeO.bind ?_ (fun _ => ?_))
      | exact ih0 _ _ _ _ _
      | exact ih1 _ _ _ _
      | exact ih2 _ _ _ _ _ _ _
      | exact LeO.none _
      | refine LeO.ite ?_ ?_
      | refine LeO.bind ?_ (fun _ => ?_)
    · intro y0 y1 y2 y3
      unfold spec_grFar.l1
      repeat' first
      | (with_reducible exact ih0 _ _ _ _ _)
      | (with_reducible exact ih1 _ _ _ _)
      | (with_reducible exact ih2 _ _ _ _ _ _ _)
      | (with_reducible exact LeO.refl _)
      | (with_reducible exact LeO.none _)
      | (with_reducible refine LeO.ite ?_ ?_)
      | (with_reducible refine LeO.bind ?_ (fun _ => ?_))
      | exact ih0 _ _ _ _ _
      | exact ih1 _ _ _ _
      | exact ih2 _ _ _ _ _ _ _
      | exact LeO.none _
      | refine LeO.ite ?_ ?_
      | refine LeO.bind ?_ (fun _ => ?_)
    · intro y0 y1 y2 y3 y4 y5 y6
      unfold spec_grFar.l2
      repeat' first
      | (with_reducible exact ih0 _ _ _ _ _)
      | (with_reducible exact ih1 _ _ _ _)
      | (with_reducible exact ih2 _ _ _ _ _ _ _)
      | (with_reducible exact LeO.refl _)
      | (with_reducible exact LeO.none _)
      | (with_reducible refine LeO.ite ?_ ?_)
      | (with_reducible refine LeO.bind ?_ (fun _ => ?_))
      | exact ih0 _ _ _ _ _
      | exact ih1 _ _ _ _
      | exact ih2 _ _ _ _ _ _ _
      | exact LeO.none _
      | refine LeO.ite ?_ ?_
      | refine LeO.bind ?_ (fun _ => ?_)
theorem spec_grFar.mono : ∀ a0 a1 k, LeO (spec_grFar.f k a0 a1) (spec_grFar.f (k + 1) a0 a1) := by
  intro a0 a1 k
  obtain ⟨ih0, ih1, ih2⟩ := spec_grFar.mono_l k
  unfold spec_grFar.f
  repeat' first
      | (with_reducible exact ih0 _ _ _ _ _)
      | (with_reducible exact ih1 _ _ _ _)
      | (with_reducible exact ih2 _ _ _ _ _ _ _)
      | (with_reducible exact LeO.refl _)
      | (with_reducible exact LeO.none _)
      | (with_reducible refine LeO.ite ?_ ?_)
      | (with_reducible refine LeO.bind ?_ (fun _ => ?_))
      | exact ih0 _ _ _ _ _
      | exact ih1 _ _ _ _
      | exact ih2 _ _ _ _ _ _ _
      | exact LeO.none _
      | refine LeO.ite ?_ ?_
      | refine LeO.bind ?_ (fun _ => ?_)
set_option maxHeartbeats 8000000 in
set_option maxRecDepth 100000 in
theorem spec_grFar.calls (k : Nat) (A0_0 : Option Addr) (c0_0 : Nat) (l0_0 : List (List Int)) (a1 : Int) (r : List Int) (w : World) (hr0_0 : Kd.C (Kd.slice 3 (Kd.int .i64)) w A0_0 l0_0.length l0_0) (hc0_0 : l0_0.length ≤ c0_0) (h : spec_grFar.f k l0_0 a1 = some r) :
    Calls Try.prog 99 #[.agg #[.slice A0_0 l0_0.length c0_0], .int .i64 a1] w fun e w' => ∃ v0_ : Value, e = .returned (v0_) ∧ Kd.R (Kd.int .i64) 3 w' w.heap.size (fun _ => True) v0_ r ∧ Below w.heap.size w w' := by
  have hu28 := Try.underlying28
  have HR0_0 := Aside0.mk hr0_0
  have HC0_0 := Aside0.mk hc0_0
  clear hr0_0 hc0_0
  have HB := Aside0.mk (Below.refl w.heap.size w)
  have H : (if 0 ≤ (l0_0.length : Int) then (if ((l0_0.length : Int) : Int).toNat ≤ 35184372088832 then ((some (List.replicate ((l0_0.length : Int) : Int).toNat 0 : List Int)).bind fun y264 => (spec_grFar.l0 k a1 y264 (y264.length : Int) 0 l0_0)) else (none)) else (none)) = some r := h
  clear h
  by_cases c3 : 0 ≤ (l0_0.length : Int)
  · rw [if_pos c3] at H
    have c3b0 := eq_true c3
    have c3b1 : decide (0 ≤ (l0_0.length : Int)) = true := decide_eq_true c3
    clear c3
    by_cases c4 : ((l0_0.length : Int) : Int).toNat ≤ 35184372088832
    · rw [if_pos c4] at H
      have c4b0 := eq_true c4
      have c4b1 : decide (((l0_0.length : Int) : Int).toNat ≤ 35184372088832) = true := decide_eq_true c4
      clear c4
      obtain ⟨y264, hy264⟩ : ∃ y_ : List Int, y_ = (List.replicate ((l0_0.length : Int) : Int).toNat 0) := ⟨_, rfl⟩
      replace H : (spec_grFar.l0 k a1 y264 (y264.length : Int) 0 l0_0) = some r := by first | (rw [hy264]; with_reducible exact H) | (have H2_ := (Option.bind_some _ _).symm.trans H; rw [hy264]; with_reducible exact H2_) | (have H2_ := (Option.bind_some _ _).symm.trans H; with_reducible exact H2_) | with_reducible exact H | (rw [hy264]; exact H) | exact H
      have Ny264 := Aside0.mk hy264
      clear hy264
      have H' := Aside0.mk H
      clear H
      go_enter Try.func99, Try.ntmps99
      go_wp2_with (first | ((with_reducible refine gate_dst (N := 2) rfl ?_); refine box_event ?hg (N := 2) ?hd (cs := #[.slice A0_0 l0_0.length c0_0]) (t := 28) ?hr ?_; (case hd => rfl); (case hg => rfl); (case hr => first | (go_simp; done) | (go_simp; rfl)); intro gb263 hg w5 hbox hb; have n0_ := Aside0.mk (below_step (by repeat (first | (with_reducible first | exact HB.out | apply below_alloc | apply pw_below_drewN | apply below_drew1) | exact HB.out)) hb); have n1_ := Aside0.mk (hbox); have n2_ := Aside0.mk ((by rw [hg]; exact (below_size (by repeat (first | (with_reducible first | exact HB.out | apply below_alloc | apply pw_below_drewN | apply below_drew1) | exact HB.out))) : w.heap.size ≤ gb263)); have n3_ := Aside0.mk ((by rw [hg]; exact (below_size (by repeat (first | (with_reducible first | exact HB.out | apply below_alloc | apply pw_below_drewN | apply below_drew1) | exact HB.out))) : w.heap.size ≤ gb263)); clear HB; have HB := n0_; have BK263 := n1_; have GW263 := n2_; have GE263 := n3_; clear n0_ n1_ n2_ n3_; clear hb hbox hg; have hcz6_0 : w5.cell? ⟨gb263, 0, none⟩ = some (.slice A0_0 l0_0.length c0_0) := (blk_cell BK263.out 0).trans rfl; have hfz6_0 := blk_frozen BK263.out 0) | ((with_reducible refine gate_dst (N := 14) rfl ?_); refine Kd.R_make (Kd.int .i64) _ 3 rfl (N := 14) rfl 35 _ _ rfl (l0_0.length : Int) rfl rfl Try.underlying35 (.int .i64 0) 8 info3 rfl (by decide) (by omega) 0 (ok := fun _ => True) (okp := fun _ => True) rfl (fun _ hk => hk) trivial (of_decide_eq_true (by first | (with_reducible assumption) | assumption)) (Nat.le_trans (Nat.mul_le_mul_right _ (of_decide_eq_true (by first | (with_reducible assumption) | assumption) : (l0_0.length : Int).toNat ≤ 35184372088832)) (by omega)) (Below.refl _ _) (Nat.le_refl _) ?_; intro v265 w7 ho8 hb hg_ hnew_; clear hg_ hnew_; (first | rw [← Ny264.out] at ho8 | (simp only [Int.reduceToNat] at ho8; rw [← Ny264.out] at ho8)); have n0_ := Aside0.mk (Kd.R_lower ho8 (below_size (by repeat (first | (with_reducible first | exact HB.out | apply below_alloc | apply pw_below_drewN | apply below_drew1 | refine below_set ?_ GE263.out) | exact HB.out)))); have n1_ := Aside0.mk (blk_below (g := gb263) (o := .cells #[.slice A0_0 l0_0.length c0_0] 28 (0, 0)) (by (with_reducible repeat (first | refine blk_drewN ?_ _ | refine blk_drew ?_ | refine blk_alloc ?_ _)); exact BK263.out) hb); have n2_ := Aside0.mk (below_step (by repeat (first | (with_reducible first | exact HB.out | apply below_alloc | apply pw_below_drewN | apply below_drew1 | refine below_set ?_ GE263.out) | exact HB.out)) hb); clear BK263; clear HB; have HO266 := n0_; have BK263 := n1_; have HB := n2_; clear n0_ n1_ n2_; clear hb ho8; obtain ⟨Ao9, co9, eo9⟩ := Kd.R_slice HO266.out; subst eo9))
      repeat (go_quiet (first | ((with_reducible refine gate_dst (N := 2) rfl ?_); refine box_event ?hg (N := 2) ?hd (cs := #[.slice A0_0 l0_0.length c0_0]) (t := 28) ?hr ?_; (case hd => rfl); (case hg => rfl); (case hr => first | (go_simp; done) | (go_simp; rfl)); intro gb263 hg w5 hbox hb; have n0_ := Aside0.mk (below_step (by repeat (first | (with_reducible first | exact HB.out | apply below_alloc | apply pw_below_drewN | apply below_drew1) | exact HB.out)) hb); have n1_ := Aside0.mk (hbox); have n2_ := Aside0.mk ((by rw [hg]; exact (below_size (by repeat (first | (with_reducible first | exact HB.out | apply below_alloc | apply pw_below_drewN | apply below_drew1) | exact HB.out))) : w.heap.size ≤ gb263)); have n3_ := Aside0.mk ((by rw [hg]; exact (below_size (by repeat (first | (with_reducible first | exact HB.out | apply below_alloc | apply pw_below_drewN | apply below_drew1) | exact HB.out))) : w.heap.size ≤ gb263)); clear HB; have HB := n0_; have BK263 := n1_; have GW263 := n2_; have GE263 := n3_; clear n0_ n1_ n2_ n3_; clear hb hbox hg; have hcz6_0 : w5.cell? ⟨gb263, 0, none⟩ = some (.slice A0_0 l0_0.length c0_0) := (blk_cell BK263.out 0).trans rfl; have hfz6_0 := blk_frozen BK263.out 0) | ((with_reducible refine gate_dst (N := 14) rfl ?_); refine Kd.R_make (Kd.int .i64) _ 3 rfl (N := 14) rfl 35 _ _ rfl (l0_0.length : Int) rfl rfl Try.underlying35 (.int .i64 0) 8 info3 rfl (by decide) (by omega) 0 (ok := fun _ => True) (okp := fun _ => True) rfl (fun _ hk => hk) trivial (of_decide_eq_true (by first | (with_reducible assumption) | assumption)) (Nat.le_trans (Nat.mul_le_mul_right _ (of_decide_eq_true (by first | (with_reducible assumption) | assumption) : (l0_0.length : Int).toNat ≤ 35184372088832)) (by omega)) (Below.refl _ _) (Nat.le_refl _) ?_; intro v265 w7 ho8 hb hg_ hnew_; clear hg_ hnew_; (first | rw [← Ny264.out] at ho8 | (simp only [Int.reduceToNat] at ho8; rw [← Ny264.out] at ho8)); have n0_ := Aside0.mk (Kd.R_lower ho8 (below_size (by repeat (first | (with_reducible first | exact HB.out | apply below_alloc | apply pw_below_drewN | apply below_drew1 | refine below_set ?_ GE263.out) | exact HB.out)))); have n1_ := Aside0.mk (blk_below (g := gb263) (o := .cells #[.slice A0_0 l0_0.length c0_0] 28 (0, 0)) (by (with_reducible repeat (first | refine blk_drewN ?_ _ | refine blk_drew ?_ | refine blk_alloc ?_ _)); exact BK263.out) hb); have n2_ := Aside0.mk (below_step (by repeat (first | (with_reducible first | exact HB.out | apply below_alloc | apply pw_below_drewN | apply below_drew1 | refine below_set ?_ GE263.out) | exact HB.out)) hb); clear BK263; clear HB; have HO266 := n0_; have BK263 := n1_; have HB := n2_; clear n0_ n1_ n2_; clear hb ho8; obtain ⟨Ao9, co9, eo9⟩ := Kd.R_slice HO266.out; subst eo9)); try go_wp2_with (first | ((with_reducible refine gate_dst (N := 2) rfl ?_); refine box_event ?hg (N := 2) ?hd (cs := #[.slice A0_0 l0_0.length c0_0]) (t := 28) ?hr ?_; (case hd => rfl); (case hg => rfl); (case hr => first | (go_simp; done) | (go_simp; rfl)); intro gb263 hg w5 hbox hb; have n0_ := Aside0.mk (below_step (by repeat (first | (with_reducible first | exact HB.out | apply below_alloc | apply pw_below_drewN | apply below_drew1) | exact HB.out)) hb); have n1_ := Aside0.mk (hbox); have n2_ := Aside0.mk ((by rw [hg]; exact (below_size (by repeat (first | (with_reducible first | exact HB.out | apply below_alloc | apply pw_below_drewN | apply below_drew1) | exact HB.out))) : w.heap.size ≤ gb263)); have n3_ := Aside0.mk ((by rw [hg]; exact (below_size (by repeat (first | (with_reducible first | exact HB.out | apply below_alloc | apply pw_below_drewN | apply below_drew1) | exact HB.out))) : w.heap.size ≤ gb263)); clear HB; have HB := n0_; have BK263 := n1_; have GW263 := n2_; have GE263 := n3_; clear n0_ n1_ n2_ n3_; clear hb hbox hg; have hcz6_0 : w5.cell? ⟨gb263, 0, none⟩ = some (.slice A0_0 l0_0.length c0_0) := (blk_cell BK263.out 0).trans rfl; have hfz6_0 := blk_frozen BK263.out 0) | ((with_reducible refine gate_dst (N := 14) rfl ?_); refine Kd.R_make (Kd.int .i64) _ 3 rfl (N := 14) rfl 35 _ _ rfl (l0_0.length : Int) rfl rfl Try.underlying35 (.int .i64 0) 8 info3 rfl (by decide) (by omega) 0 (ok := fun _ => True) (okp := fun _ => True) rfl (fun _ hk => hk) trivial (of_decide_eq_true (by first | (with_reducible assumption) | assumption)) (Nat.le_trans (Nat.mul_le_mul_right _ (of_decide_eq_true (by first | (with_reducible assumption) | assumption) : (l0_0.length : Int).toNat ≤ 35184372088832)) (by omega)) (Below.refl _ _) (Nat.le_refl _) ?_; intro v265 w7 ho8 hb hg_ hnew_; clear hg_ hnew_; (first | rw [← Ny264.out] at ho8 | (simp only [Int.reduceToNat] at ho8; rw [← Ny264.out] at ho8)); have n0_ := Aside0.mk (Kd.R_lower ho8 (below_size (by repeat (first | (with_reducible first | exact HB.out | apply below_alloc | apply pw_below_drewN | apply below_drew1 | refine below_set ?_ GE263.out) | exact HB.out)))); have n1_ := Aside0.mk (blk_below (g := gb263) (o := .cells #[.slice A0_0 l0_0.length c0_0] 28 (0, 0)) (by (with_reducible repeat (first | refine blk_drewN ?_ _ | refine blk_drew ?_ | refine blk_alloc ?_ _)); exact BK263.out) hb); have n2_ := Aside0.mk (below_step (by repeat (first | (with_reducible first | exact HB.out | apply below_alloc | apply pw_below_drewN | apply below_drew1 | refine below_set ?_ GE263.out) | exact HB.out)) hb); clear BK263; clear HB; have HO266 := n0_; have BK263 := n1_; have HB := n2_; clear n0_ n1_ n2_; clear hb ho8; obtain ⟨Ao9, co9, eo9⟩ := Kd.R_slice HO266.out; subst eo9)))
      go_loopg [17] k (fun kq v17 w' => ∃ (x5_1 : List Int) (x17_1 : Int), v17 = .int .i64 x17_1 ∧ Aside0 (spec_grFar.l0 kq a1 x5_1 (y264.length : Int) x17_1 l0_0 = some r) ∧ Aside0 (kq ≤ k) ∧ Aside0 (Kd.R (Kd.int .i64) 3 w' w.heap.size (fun _ => True) (.slice Ao9 y264.length co9) x5_1) ∧ Aside0 (w'.heap[gb263]? = some (.cells #[(.slice A0_0 l0_0.length c0_0)] 28 (0, 0))) ∧ Aside0 (Below w.heap.size w w'))
      case atStart => exact ⟨(y264), (0), (by first | rfl | (simp; done) | (simp [*]; done)), H', ⟨Nat.le_refl _⟩, ⟨by (with_reducible repeat (first | apply Kd.R_alloc | apply Kd.R_drewN | apply Kd.R_drew)); exact HO266.out⟩, ⟨by (with_reducible repeat (first | refine blk_drewN ?_ _ | refine blk_drew ?_ | refine blk_alloc ?_ _)); exact BK263.out⟩, ⟨by repeat (first | (with_reducible first | exact HB.out | apply below_alloc | apply pw_below_drewN | apply below_drew1 | refine below_set ?_ GE263.out) | exact HB.out)⟩⟩
      case round =>
        clear H'
        try clear p2
        try clear c3
        try clear c3b0
        try clear c3b1
        try clear c4
        try clear c4b0
        try clear c4b1
        try clear c9
        try clear hcz6_0
        try clear hfz6_0
        obtain ⟨x5_1, x17_1, rfl, HA, HK1, HO_5, BK263, HB⟩ := hrel
        have hl5_1 := (Kd.R_reads' HO_5.out).1
        rw [hl5_1] at HO_5
        (try simp only [hl5_1])
        (try simp only [hl5_1] at BK263)
        cases gk with
        | zero => exact absurd HA.out (by simp [spec_grFar.l0])
        | succ k1 =>
          have H := HA.out
          clear HA
          simp only [spec_grFar.l0] at H
          by_cases c10 : x17_1 < (y264.length : Int)
          · rw [if_pos c10] at H
            have c10b0 : decide (x17_1 < (y264.length : Int)) = true := decide_eq_true c10
            (try (have c10b0h := c10b0; simp only [hl5_1] at c10b0h))
            clear c10
            by_cases c11 : 0 ≤ x17_1
            · rw [if_pos c11] at H
              have c11b0 : decide (0 ≤ x17_1) = true := decide_eq_true c11
              (try (have c11b0h := c11b0; simp only [hl5_1] at c11b0h))
              clear c11
              by_cases c12 : x17_1 < (x5_1.length : Int)
              · rw [if_pos c12] at H
                have c12b0 : decide (x17_1 < (x5_1.length : Int)) = true := decide_eq_true c12
                (try (have c12b0h := c12b0; simp only [hl5_1] at c12b0h))
                clear c12
                obtain ⟨y267, hy267⟩ : ∃ y_ : List Int, y_ = (x5_1.set (x17_1 : Int).toNat (-1)) := ⟨_, rfl⟩
                replace H : (spec_grFar.l0 k1 a1 y267 (y264.length : Int) (wrap64 (x17_1 + 1)) l0_0) = some r := by first | (rw [hy267]; with_reducible exact H) | (have H2_ := (Option.bind_some _ _).symm.trans H; rw [hy267]; with_reducible exact H2_) | (have H2_ := (Option.bind_some _ _).symm.trans H; with_reducible exact H2_) | with_reducible exact H | (rw [hy267]; exact H) | exact H
                have Ny267 := Aside0.mk hy267
                clear hy267
                have H' := Aside0.mk H
                clear H
                have p13 : 0 ≤ (x17_1 : Int) := of_decide_eq_true (by first | (with_reducible assumption) | assumption)
                have q13 : (x17_1 : Int) < ((x5_1.length : Int) : Int) := of_decide_eq_true (by first | (with_reducible assumption) | assumption)
                obtain ⟨go13, co13, eo13, gb13, gl13, cl13, HG13⟩ := Kd.R_form HO_5.out (by omega)
                (first | cases eo13 | (injection eo13 with ea_ en_ ec_; (first | subst ea_ | (injection ea_ with ea_; subst ea_)); subst ec_; clear en_))
                have GB13 := Aside0.mk gb13
                have GG13 := Aside0.mk HG13
                clear gb13 gl13 HG13
                obtain ⟨hx13_0, hf13_0⟩ := Kd.R_celln 0 HO_5.out (x17_1 : Int) p13 q13
                replace p13 := eq_true p13
                replace q13 := eq_true q13
                have HP14 := Kd.R_putg HO_5.out (x17_1 : Int) (-1)
                go_wp2_with (first | ((with_reducible refine gate_store (t := 3) (p := 22) rfl ?_); (try (rw [drewN_self wr]; generalize hq_ : World.drewN wr _ = wr; have n0_ := Aside0.mk (Kd.R_at hq_ HO_5.out); have n1_ := Aside0.mk (blk_at hq_ BK263.out); have n2_ := Aside0.mk (below_at hq_ HB.out); clear hq_ HO_5 BK263 HB; have HO_5 := n0_; have BK263 := n1_; have HB := n2_; clear n0_ n1_ n2_; (try (have HP14 := Kd.R_putg HO_5.out (x17_1 : Int) (-1))))); refine store_event (t := 3) (p := 22) (v := ?vo_w15) (w1 := (wr.setCell ⟨go13, (x17_1 : Int).toNat, none⟩ (.int .i64 (-1)))) ?hg ?ho ?hn ?hr ?_; (case ho => rfl); (case hg => rfl); (case hn => rfl); (case hr => first | (go_simp; done) | (go_simp; rfl)); intro w15 hw; have hg : wr.grownBy w15 (some go13) := (by rw [hw]; exact HP14.2); have hp_ : Kd.R (Kd.int .i64) 3 w15 w.heap.size (fun _ => True) (.slice (some ⟨go13, 0, none⟩) x5_1.length co9) y267 := (by rw [hw, Ny267.out]; exact HP14.1); clear HP14; have n0_ := Aside0.mk (hp_); have n1_ := Aside0.mk (blk_grown (g := gb263) (o := .cells #[.slice A0_0 l0_0.length c0_0] 28 (0, 0)) (by (with_reducible repeat (first | refine blk_drewN ?_ _ | refine blk_drew ?_ | refine blk_alloc ?_ _)); exact BK263.out) hg (Kd.R_ne HO_5.out BK263.out (by decide))); have n2_ := Aside0.mk ((by rw [hw]; exact below_set (HB.out) GB13.out : Below w.heap.size w w15)); clear HO_5; clear BK263; clear HB; have HO_5 := n0_; have BK263 := n1_; have HB := n2_; clear n0_ n1_ n2_; clear hg hw hp_))
                repeat (go_quiet (first | ((with_reducible refine gate_store (t := 3) (p := 22) rfl ?_); (try (rw [drewN_self wr]; generalize hq_ : World.drewN wr _ = wr; have n0_ := Aside0.mk (Kd.R_at hq_ HO_5.out); have n1_ := Aside0.mk (blk_at hq_ BK263.out); have n2_ := Aside0.mk (below_at hq_ HB.out); clear hq_ HO_5 BK263 HB; have HO_5 := n0_; have BK263 := n1_; have HB := n2_; clear n0_ n1_ n2_; (try (have HP14 := Kd.R_putg HO_5.out (x17_1 : Int) (-1))))); refine store_event (t := 3) (p := 22) (v := ?vo_w15) (w1 := (wr.setCell ⟨go13, (x17_1 : Int).toNat, none⟩ (.int .i64 (-1)))) ?hg ?ho ?hn ?hr ?_; (case ho => rfl); (case hg => rfl); (case hn => rfl); (case hr => first | (go_simp; done) | (go_simp; rfl)); intro w15 hw; have hg : wr.grownBy w15 (some go13) := (by rw [hw]; exact HP14.2); have hp_ : Kd.R (Kd.int .i64) 3 w15 w.heap.size (fun _ => True) (.slice (some ⟨go13, 0, none⟩) x5_1.length co9) y267 := (by rw [hw, Ny267.out]; exact HP14.1); clear HP14; have n0_ := Aside0.mk (hp_); have n1_ := Aside0.mk (blk_grown (g := gb263) (o := .cells #[.slice A0_0 l0_0.length c0_0] 28 (0, 0)) (by (with_reducible repeat (first | refine blk_drewN ?_ _ | refine blk_drew ?_ | refine blk_alloc ?_ _)); exact BK263.out) hg (Kd.R_ne HO_5.out BK263.out (by decide))); have n2_ := Aside0.mk ((by rw [hw]; exact below_set (HB.out) GB13.out : Below w.heap.size w w15)); clear HO_5; clear BK263; clear HB; have HO_5 := n0_; have BK263 := n1_; have HB := n2_; clear n0_ n1_ n2_; clear hg hw hp_)); try go_wp2_with (first | ((with_reducible refine gate_store (t := 3) (p := 22) rfl ?_); (try (rw [drewN_self wr]; generalize hq_ : World.drewN wr _ = wr; have n0_ := Aside0.mk (Kd.R_at hq_ HO_5.out); have n1_ := Aside0.mk (blk_at hq_ BK263.out); have n2_ := Aside0.mk (below_at hq_ HB.out); clear hq_ HO_5 BK263 HB; have HO_5 := n0_; have BK263 := n1_; have HB := n2_; clear n0_ n1_ n2_; (try (have HP14 := Kd.R_putg HO_5.out (x17_1 : Int) (-1))))); refine store_event (t := 3) (p := 22) (v := ?vo_w15) (w1 := (wr.setCell ⟨go13, (x17_1 : Int).toNat, none⟩ (.int .i64 (-1)))) ?hg ?ho ?hn ?hr ?_; (case ho => rfl); (case hg => rfl); (case hn => rfl); (case hr => first | (go_simp; done) | (go_simp; rfl)); intro w15 hw; have hg : wr.grownBy w15 (some go13) := (by rw [hw]; exact HP14.2); have hp_ : Kd.R (Kd.int .i64) 3 w15 w.heap.size (fun _ => True) (.slice (some ⟨go13, 0, none⟩) x5_1.length co9) y267 := (by rw [hw, Ny267.out]; exact HP14.1); clear HP14; have n0_ := Aside0.mk (hp_); have n1_ := Aside0.mk (blk_grown (g := gb263) (o := .cells #[.slice A0_0 l0_0.length c0_0] 28 (0, 0)) (by (with_reducible repeat (first | refine blk_drewN ?_ _ | refine blk_drew ?_ | refine blk_alloc ?_ _)); exact BK263.out) hg (Kd.R_ne HO_5.out BK263.out (by decide))); have n2_ := Aside0.mk ((by rw [hw]; exact below_set (HB.out) GB13.out : Below w.heap.size w w15)); clear HO_5; clear BK263; clear HB; have HO_5 := n0_; have BK263 := n1_; have HB := n2_; clear n0_ n1_ n2_; clear hg hw hp_)))
                (try simp only [← hl5_1])
                go_roundg k1
                case measure => have := HK1.out; omega
                case rel => exact ⟨(y267), (wrap64 (x17_1 + 1)), (by first | rfl | (simp; done) | (simp [*]; done)), H', ⟨by have := HK1.out; omega⟩, ⟨by (try simp only [hl5_1]); (with_reducible repeat (first | apply Kd.R_alloc | apply Kd.R_drewN | apply Kd.R_drew)); exact HO_5.out⟩, ⟨by (try simp only [hl5_1]); (with_reducible repeat (first | refine blk_drewN ?_ _ | refine blk_drew ?_ | refine blk_alloc ?_ _)); exact BK263.out⟩, ⟨by repeat (first | (with_reducible first | exact HB.out | apply below_alloc | apply pw_below_drewN | apply below_drew1 | refine below_set ?_ GE263.out) | exact HB.out)⟩⟩
              · rw [if_neg c12] at H
                exact absurd H (by simp)
            · rw [if_neg c11] at H
              exact absurd H (by simp)
          · rw [if_neg c10] at H
            have c10b0 : decide (x17_1 < (y264.length : Int)) = false := decide_eq_false c10
            (try (have c10b0h := c10b0; simp only [hl5_1] at c10b0h))
            clear c10
            by_cases c16 : 0 ≤ a1
            · rw [if_pos c16] at H
              have c16b0 : decide (0 ≤ a1) = true := decide_eq_true c16
              (try (have c16b0h := c16b0; simp only [hl5_1] at c16b0h))
              clear c16
              by_cases c17 : a1 < (x5_1.length : Int)
              · rw [if_pos c17] at H
                have c17b0 : decide (a1 < (x5_1.length : Int)) = true := decide_eq_true c17
                (try (have c17b0h := c17b0; simp only [hl5_1] at c17b0h))
                clear c17
                obtain ⟨y268, hy268⟩ : ∃ y_ : List Int, y_ = (x5_1.set (a1 : Int).toNat 0) := ⟨_, rfl⟩
                replace H : (spec_grFar.l1 k1 y268 (([a1] : List Int)) 0 l0_0) = some r := by first | (rw [hy268]; with_reducible exact H) | (have H2_ := (Option.bind_some _ _).symm.trans H; rw [hy268]; with_reducible exact H2_) | (have H2_ := (Option.bind_some _ _).symm.trans H; with_reducible exact H2_) | with_reducible exact H | (rw [hy268]; exact H) | exact H
                have Ny268 := Aside0.mk hy268
                clear hy268
                obtain ⟨y269, hy269⟩ : ∃ y_ : List Int, y_ = (([a1] : List Int)) := ⟨_, rfl⟩
                replace H : (spec_grFar.l1 k1 y268 y269 0 l0_0) = some r := by first | (rw [hy269]; with_reducible exact H) | (have H2_ := (Option.bind_some _ _).symm.trans H; rw [hy269]; with_reducible exact H2_) | (have H2_ := (Option.bind_some _ _).symm.trans H; with_reducible exact H2_) | with_reducible exact H | (rw [hy269]; exact H) | exact H
                have Ny269 := Aside0.mk hy269
                clear hy269
                have H' := Aside0.mk H
                clear H
                have p18 : 0 ≤ (a1 : Int) := of_decide_eq_true (by first | (with_reducible assumption) | assumption)
                have q18 : (a1 : Int) < ((x5_1.length : Int) : Int) := of_decide_eq_true (by first | (with_reducible assumption) | assumption)
                obtain ⟨go18, co18, eo18, gb18, gl18, cl18, HG18⟩ := Kd.R_form HO_5.out (by omega)
                (first | cases eo18 | (injection eo18 with ea_ en_ ec_; (first | subst ea_ | (injection ea_ with ea_; subst ea_)); subst ec_; clear en_))
                have GB18 := Aside0.mk gb18
                have GG18 := Aside0.mk HG18
                clear gb18 gl18 HG18
                obtain ⟨hx18_0, hf18_0⟩ := Kd.R_celln 0 HO_5.out (a1 : Int) p18 q18
                replace p18 := eq_true p18
                replace q18 := eq_true q18
                have HP19 := Kd.R_putg HO_5.out (a1 : Int) 0
                go_wp2_with (first | ((with_reducible refine gate_store (t := 3) (p := 26) rfl ?_); (try (rw [drewN_self wr]; generalize hq_ : World.drewN wr _ = wr; have n0_ := Aside0.mk (Kd.R_at hq_ HO_5.out); have n1_ := Aside0.mk (blk_at hq_ BK263.out); have n2_ := Aside0.mk (below_at hq_ HB.out); clear hq_ HO_5 BK263 HB; have HO_5 := n0_; have BK263 := n1_; have HB := n2_; clear n0_ n1_ n2_; (try (have HP19 := Kd.R_putg HO_5.out (a1 : Int) 0)))); refine store_event (t := 3) (p := 26) (v := ?vo_w20) (w1 := (wr.setCell ⟨go18, (a1 : Int).toNat, none⟩ (.int .i64 0))) ?hg ?ho ?hn ?hr ?_; (case ho => rfl); (case hg => rfl); (case hn => rfl); (case hr => first | (go_simp; done) | (go_simp; rfl)); intro w20 hw; have hg : wr.grownBy w20 (some go18) := (by rw [hw]; exact HP19.2); have hp_ : Kd.R (Kd.int .i64) 3 w20 w.heap.size (fun _ => True) (.slice (some ⟨go18, 0, none⟩) x5_1.length co9) y268 := (by rw [hw, Ny268.out]; exact HP19.1); clear HP19; have n0_ := Aside0.mk (hp_); have n1_ := Aside0.mk (blk_grown (g := gb263) (o := .cells #[.slice A0_0 l0_0.length c0_0] 28 (0, 0)) (by (with_reducible repeat (first | refine blk_drewN ?_ _ | refine blk_drew ?_ | refine blk_alloc ?_ _)); exact BK263.out) hg (Kd.R_ne HO_5.out BK263.out (by decide))); have n2_ := Aside0.mk ((by rw [hw]; exact below_set (HB.out) GB18.out : Below w.heap.size w w20)); clear HO_5; clear BK263; clear HB; have HO_5 := n0_; have BK263 := n1_; have HB := n2_; clear n0_ n1_ n2_; clear hg hw hp_) | ((with_reducible refine gate_dst (N := 28) rfl ?_); refine Kd.R_lit (Kd.int .i64) _ 3 ?hg (N := 28) ?hd (xs := ([a1] : List Int)) (inner := [.int .i64 a1]) (ok := fun _ => True) (okp := fun _ => True) ?hr ?hp (fun _ hk => hk) trivial (Below.refl _ _) (Nat.le_refl _) (by simp) ?_; (case hd => rfl); (case hg => rfl); (case hr => first | (go_simp; done) | (go_simp; rfl)); (case hp => exact (Reps.one (show Kd.M (Kd.int .i64) _ _ _ a1 [.int .i64 a1] from rfl) (Reps.none _ _))); intro v270 w21 ho22 hb hg_ hnew_; clear hg_ hnew_; (first | rw [← Ny269.out] at ho22 | (simp only [Int.reduceToNat] at ho22; rw [← Ny269.out] at ho22)); have n0_ := Aside0.mk (Kd.R_elder' (by (with_reducible repeat (first | apply Kd.R_alloc | apply Kd.R_drewN | apply Kd.R_drew)); exact HO_5.out) (Kd.R_base ho22) hb); have n1_ := Aside0.mk (Kd.R_lower (Kd.R_new' ho22 (Kd.R_lt (by (with_reducible repeat (first | apply Kd.R_alloc | apply Kd.R_drewN | apply Kd.R_drew)); exact HO_5.out))) (below_size (by repeat (first | (with_reducible first | exact HB.out | apply below_alloc | apply pw_below_drewN | apply below_drew1 | refine below_set ?_ GE263.out) | exact HB.out)))); have n2_ := Aside0.mk (blk_below (g := gb263) (o := .cells #[.slice A0_0 l0_0.length c0_0] 28 (0, 0)) (by (with_reducible repeat (first | refine blk_drewN ?_ _ | refine blk_drew ?_ | refine blk_alloc ?_ _)); exact BK263.out) hb); have n3_ := Aside0.mk (below_step (by repeat (first | (with_reducible first | exact HB.out | apply below_alloc | apply pw_below_drewN | apply below_drew1 | refine below_set ?_ GE263.out) | exact HB.out)) hb); clear HO_5; clear BK263; clear HB; have HO_5 := n0_; have HO271 := n1_; have BK263 := n2_; have HB := n3_; clear n0_ n1_ n2_ n3_; clear hb ho22))
                repeat (go_quiet (first | ((with_reducible refine gate_store (t := 3) (p := 26) rfl ?_); (try (rw [drewN_self wr]; generalize hq_ : World.drewN wr _ = wr; have n0_ := Aside0.mk (Kd.R_at hq_ HO_5.out); have n1_ := Aside0.mk (blk_at hq_ BK263.out); have n2_ := Aside0.mk (below_at hq_ HB.out); clear hq_ HO_5 BK263 HB; have HO_5 := n0_; have BK263 := n1_; have HB := n2_; clear n0_ n1_ n2_; (try (have HP19 := Kd.R_putg HO_5.out (a1 : Int) 0)))); refine store_event (t := 3) (p := 26) (v := ?vo_w20) (w1 := (wr.setCell ⟨go18, (a1 : Int).toNat, none⟩ (.int .i64 0))) ?hg ?ho ?hn ?hr ?_; (case ho => rfl); (case hg => rfl); (case hn => rfl); (case hr => first | (go_simp; done) | (go_simp; rfl)); intro w20 hw; have hg : wr.grownBy w20 (some go18) := (by rw [hw]; exact HP19.2); have hp_ : Kd.R (Kd.int .i64) 3 w20 w.heap.size (fun _ => True) (.slice (some ⟨go18, 0, none⟩) x5_1.length co9) y268 := (by rw [hw, Ny268.out]; exact HP19.1); clear HP19; have n0_ := Aside0.mk (hp_); have n1_ := Aside0.mk (blk_grown (g := gb263) (o := .cells #[.slice A0_0 l0_0.length c0_0] 28 (0, 0)) (by (with_reducible repeat (first | refine blk_drewN ?_ _ | refine blk_drew ?_ | refine blk_alloc ?_ _)); exact BK263.out) hg (Kd.R_ne HO_5.out BK263.out (by decide))); have n2_ := Aside0.mk ((by rw [hw]; exact below_set (HB.out) GB18.out : Below w.heap.size w w20)); clear HO_5; clear BK263; clear HB; have HO_5 := n0_; have BK263 := n1_; have HB := n2_; clear n0_ n1_ n2_; clear hg hw hp_) | ((with_reducible refine gate_dst (N := 28) rfl ?_); refine Kd.R_lit (Kd.int .i64) _ 3 ?hg (N := 28) ?hd (xs := ([a1] : List Int)) (inner := [.int .i64 a1]) (ok := fun _ => True) (okp := fun _ => True) ?hr ?hp (fun _ hk => hk) trivial (Below.refl _ _) (Nat.le_refl _) (by simp) ?_; (case hd => rfl); (case hg => rfl); (case hr => first | (go_simp; done) | (go_simp; rfl)); (case hp => exact (Reps.one (show Kd.M (Kd.int .i64) _ _ _ a1 [.int .i64 a1] from rfl) (Reps.none _ _))); intro v270 w21 ho22 hb hg_ hnew_; clear hg_ hnew_; (first | rw [← Ny269.out] at ho22 | (simp only [Int.reduceToNat] at ho22; rw [← Ny269.out] at ho22)); have n0_ := Aside0.mk (Kd.R_elder' (by (with_reducible repeat (first | apply Kd.R_alloc | apply Kd.R_drewN | apply Kd.R_drew)); exact HO_5.out) (Kd.R_base ho22) hb); have n1_ := Aside0.mk (Kd.R_lower (Kd.R_new' ho22 (Kd.R_lt (by (with_reducible repeat (first | apply Kd.R_alloc | apply Kd.R_drewN | apply Kd.R_drew)); exact HO_5.out))) (below_size (by repeat (first | (with_reducible first | exact HB.out | apply below_alloc | apply pw_below_drewN | apply below_drew1 | refine below_set ?_ GE263.out) | exact HB.out)))); have n2_ := Aside0.mk (blk_below (g := gb263) (o := .cells #[.slice A0_0 l0_0.length c0_0] 28 (0, 0)) (by (with_reducible repeat (first | refine blk_drewN ?_ _ | refine blk_drew ?_ | refine blk_alloc ?_ _)); exact BK263.out) hb); have n3_ := Aside0.mk (below_step (by repeat (first | (with_reducible first | exact HB.out | apply below_alloc | apply pw_below_drewN | apply below_drew1 | refine below_set ?_ GE263.out) | exact HB.out)) hb); clear HO_5; clear BK263; clear HB; have HO_5 := n0_; have HO271 := n1_; have BK263 := n2_; have HB := n3_; clear n0_ n1_ n2_ n3_; clear hb ho22)); try go_wp2_with (first | ((with_reducible refine gate_store (t := 3) (p := 26) rfl ?_); (try (rw [drewN_self wr]; generalize hq_ : World.drewN wr _ = wr; have n0_ := Aside0.mk (Kd.R_at hq_ HO_5.out); have n1_ := Aside0.mk (blk_at hq_ BK263.out); have n2_ := Aside0.mk (below_at hq_ HB.out); clear hq_ HO_5 BK263 HB; have HO_5 := n0_; have BK263 := n1_; have HB := n2_; clear n0_ n1_ n2_; (try (have HP19 := Kd.R_putg HO_5.out (a1 : Int) 0)))); refine store_event (t := 3) (p := 26) (v := ?vo_w20) (w1 := (wr.setCell ⟨go18, (a1 : Int).toNat, none⟩ (.int .i64 0))) ?hg ?ho ?hn ?hr ?_; (case ho => rfl); (case hg => rfl); (case hn => rfl); (case hr => first | (go_simp; done) | (go_simp; rfl)); intro w20 hw; have hg : wr.grownBy w20 (some go18) := (by rw [hw]; exact HP19.2); have hp_ : Kd.R (Kd.int .i64) 3 w20 w.heap.size (fun _ => True) (.slice (some ⟨go18, 0, none⟩) x5_1.length co9) y268 := (by rw [hw, Ny268.out]; exact HP19.1); clear HP19; have n0_ := Aside0.mk (hp_); have n1_ := Aside0.mk (blk_grown (g := gb263) (o := .cells #[.slice A0_0 l0_0.length c0_0] 28 (0, 0)) (by (with_reducible repeat (first | refine blk_drewN ?_ _ | refine blk_drew ?_ | refine blk_alloc ?_ _)); exact BK263.out) hg (Kd.R_ne HO_5.out BK263.out (by decide))); have n2_ := Aside0.mk ((by rw [hw]; exact below_set (HB.out) GB18.out : Below w.heap.size w w20)); clear HO_5; clear BK263; clear HB; have HO_5 := n0_; have BK263 := n1_; have HB := n2_; clear n0_ n1_ n2_; clear hg hw hp_) | ((with_reducible refine gate_dst (N := 28) rfl ?_); refine Kd.R_lit (Kd.int .i64) _ 3 ?hg (N := 28) ?hd (xs := ([a1] : List Int)) (inner := [.int .i64 a1]) (ok := fun _ => True) (okp := fun _ => True) ?hr ?hp (fun _ hk => hk) trivial (Below.refl _ _) (Nat.le_refl _) (by simp) ?_; (case hd => rfl); (case hg => rfl); (case hr => first | (go_simp; done) | (go_simp; rfl)); (case hp => exact (Reps.one (show Kd.M (Kd.int .i64) _ _ _ a1 [.int .i64 a1] from rfl) (Reps.none _ _))); intro v270 w21 ho22 hb hg_ hnew_; clear hg_ hnew_; (first | rw [← Ny269.out] at ho22 | (simp only [Int.reduceToNat] at ho22; rw [← Ny269.out] at ho22)); have n0_ := Aside0.mk (Kd.R_elder' (by (with_reducible repeat (first | apply Kd.R_alloc | apply Kd.R_drewN | apply Kd.R_drew)); exact HO_5.out) (Kd.R_base ho22) hb); have n1_ := Aside0.mk (Kd.R_lower (Kd.R_new' ho22 (Kd.R_lt (by (with_reducible repeat (first | apply Kd.R_alloc | apply Kd.R_drewN | apply Kd.R_drew)); exact HO_5.out))) (below_size (by repeat (first | (with_reducible first | exact HB.out | apply below_alloc | apply pw_below_drewN | apply below_drew1 | refine below_set ?_ GE263.out) | exact HB.out)))); have n2_ := Aside0.mk (blk_below (g := gb263) (o := .cells #[.slice A0_0 l0_0.length c0_0] 28 (0, 0)) (by (with_reducible repeat (first | refine blk_drewN ?_ _ | refine blk_drew ?_ | refine blk_alloc ?_ _)); exact BK263.out) hb); have n3_ := Aside0.mk (below_step (by repeat (first | (with_reducible first | exact HB.out | apply below_alloc | apply pw_below_drewN | apply below_drew1 | refine below_set ?_ GE263.out) | exact HB.out)) hb); clear HO_5; clear BK263; clear HB; have HO_5 := n0_; have HO271 := n1_; have BK263 := n2_; have HB := n3_; clear n0_ n1_ n2_ n3_; clear hb ho22)))
                go_loopg [7, 8] k1 (fun kq v7 v8 w' => ∃ (x5_2 : List Int) (x7_2 : List Int) (x8_2 : Int), v8 = .int .i64 x8_2 ∧ Aside0 (spec_grFar.l1 kq x5_2 x7_2 x8_2 l0_0 = some r) ∧ Aside0 (kq ≤ k1) ∧ Aside0 (Kd.R (Kd.int .i64) 3 w' w.heap.size (fun k_ => some k_ ≠ (v7 : Value).ownBlock) (.slice (some ⟨go18, 0, none⟩) x5_1.length co9) x5_2) ∧ Aside0 (Kd.R (Kd.int .i64) 3 w' w.heap.size (fun k_ => some k_ ≠ ((.slice (some ⟨go18, 0, none⟩) x5_1.length co9) : Value).ownBlock) v7 x7_2) ∧ Aside0 (w'.heap[gb263]? = some (.cells #[(.slice A0_0 l0_0.length c0_0)] 28 (0, 0))) ∧ Aside0 (Below w.heap.size w w'))
                case atStart => exact ⟨(y268), (y269), (0), (by first | rfl | (simp; done) | (simp [*]; done)), H', ⟨Nat.le_refl _⟩, ⟨by (try simp only [hl5_1]); (with_reducible repeat (first | apply Kd.R_alloc | apply Kd.R_drewN | apply Kd.R_drew)); exact Kd.R_mono HO_5.out (fun _ hk => hk.2)⟩, ⟨by (try simp only [hl5_1]); (with_reducible repeat (first | apply Kd.R_alloc | apply Kd.R_drewN | apply Kd.R_drew)); exact Kd.R_mono HO271.out (fun _ hk => hk.2)⟩, ⟨by (try simp only [hl5_1]); (with_reducible repeat (first | refine blk_drewN ?_ _ | refine blk_drew ?_ | refine blk_alloc ?_ _)); exact BK263.out⟩, ⟨by repeat (first | (with_reducible first | exact HB.out | apply below_alloc | apply pw_below_drewN | apply below_drew1 | refine below_set ?_ GE263.out) | exact HB.out)⟩⟩
                case round =>
                  clear H'
                  try clear c1
                  try clear p1
                  try clear q1
                  try clear hx1
                  try clear p2
                  try clear c3
                  try clear c3b0
                  try clear c3b1
                  try clear c4
                  try clear c4b0
                  try clear c4b1
                  try clear p6
                  try clear c9
                  try clear c10
                  try clear c10b0
                  try clear c11
                  try clear c11b0
                  try clear c12
                  try clear c12b0
                  try clear p13
                  try clear q13
                  try clear hx13
                  try clear hf13
                  try clear c16
                  try clear c16b0
                  try clear c17
                  try clear c17b0
                  try clear p18
                  try clear q18
                  try clear hx18
                  try clear hf18
                  try clear hcz6_0
                  try clear hfz6_0
                  try clear hx13_0
                  try clear hx18_0
                  try clear p13
                  try clear p18
                  try clear p2
                  try clear q13
                  try clear q18
                  obtain ⟨x5_2, x7_2, x8_2, rfl, HA, HK2, HO_5, HO_7, BK263, HB⟩ := hrel
                  have hl5_2 := (Kd.R_reads' HO_5.out).1
                  rw [hl5_2] at HO_5
                  (try simp only [hl5_2])
                  (try simp only [hl5_2] at BK263)
                  (try simp only [hl5_2] at HO_7)
                  cases gk with
                  | zero => exact absurd HA.out (by simp [spec_grFar.l1])
                  | succ k2 =>
                    have H := HA.out
                    clear HA
                    simp only [spec_grFar.l1] at H
                    by_cases c23 : x8_2 < (x7_2.length : Int)
                    · rw [if_pos c23] at H
                      have c23b0 : decide (x8_2 < (x7_2.length : Int)) = true := decide_eq_true c23
                      (try (have c23b0h := c23b0; simp only [hl5_1, hl5_2] at c23b0h))
                      clear c23
                      by_cases c24 : 0 ≤ x8_2
                      · rw [if_pos c24] at H
                        have c24b0 : decide (0 ≤ x8_2) = true := decide_eq_true c24
                        (try (have c24b0h := c24b0; simp only [hl5_1, hl5_2] at c24b0h))
                        clear c24
                        by_cases c25 : 0 ≤ (rd x7_2 x8_2)
                        · rw [if_pos c25] at H
                          have c25b0 : decide (0 ≤ (rd x7_2 x8_2)) = true := decide_eq_true c25
                          (try (have c25b0h := c25b0; simp only [hl5_1, hl5_2] at c25b0h))
                          clear c25
                          by_cases c26 : (rd x7_2 x8_2) < (l0_0.length : Int)
                          · rw [if_pos c26] at H
                            have c26b0 : decide ((rd x7_2 x8_2) < (l0_0.length : Int)) = true := decide_eq_true c26
                            (try (have c26b0h := c26b0; simp only [hl5_1, hl5_2] at c26b0h))
                            clear c26
                            have H' := Aside0.mk H
                            clear H
                            obtain ⟨Ao27, co27, eo27⟩ := Kd.R_slice HO_7.out
                            subst eo27
                            have hcz28_0 : wr.cell? ⟨gb263, 0, none⟩ = some (.slice A0_0 l0_0.length c0_0) := (blk_cell BK263.out 0).trans rfl
                            have hfz28_0 := blk_frozen BK263.out 0
                            have p272 : 0 ≤ (x8_2 : Int) := of_decide_eq_true (by first | (with_reducible assumption) | assumption)
                            have q272 : x8_2 < (x7_2.length : Int) := of_decide_eq_true (by first | (with_reducible assumption) | assumption)
                            obtain ⟨ad272, e272, hx272_0⟩ := Kd.at_int (Kd.R_reads' HO_7.out).2.2 x8_2 p272 q272
                            cases e272
                            replace p272 := eq_true p272
                            replace q272 := eq_true q272
                            have p273 : 0 ≤ ((rd x7_2 x8_2) : Int) := of_decide_eq_true (by first | (with_reducible assumption) | assumption)
                            have q273 : (rd x7_2 x8_2) < (l0_0.length : Int) := of_decide_eq_true (by first | (with_reducible assumption) | assumption)
                            obtain ⟨ad273, A273_0, c273_0, e273, hx273_0, hl273_0, hi273_0⟩ := at_L1 HR0_0.out (rd x7_2 x8_2) p273 q273
                            cases e273
                            replace hx273_0 := (HB.out.cell (World.block_lt_of_cell? w _ hx273_0)).trans hx273_0
                            have HR273_0 := Aside0.mk hi273_0
                            have HC273_0 := Aside0.mk hl273_0
                            clear hi273_0 hl273_0
                            replace p273 := eq_true p273
                            replace q273 := eq_true q273
                            go_wp2
                            repeat (go_quiet (fail); try go_wp2)
                            go_loopg [7, 44] k2 (fun kq v7 v44 w' => ∃ (x5_3 : List Int) (x7_3 : List Int) (x44_3 : Int), v44 = .int .i64 x44_3 ∧ Aside0 (spec_grFar.l2 kq x5_3 x7_3 x8_2 (rd_L1 l0_0 (rd x7_2 x8_2)) ((rd_L1 l0_0 (rd x7_2 x8_2)).length : Int) x44_3 l0_0 = some r) ∧ Aside0 (kq ≤ k2) ∧ Aside0 (Kd.R (Kd.int .i64) 3 w' w.heap.size (fun k_ => some k_ ≠ (v7 : Value).ownBlock) (.slice (some ⟨go18, 0, none⟩) x5_2.length co9) x5_3) ∧ Aside0 (Kd.R (Kd.int .i64) 3 w' w.heap.size (fun k_ => some k_ ≠ ((.slice (some ⟨go18, 0, none⟩) x5_2.length co9) : Value).ownBlock) v7 x7_3) ∧ Aside0 (w'.heap[gb263]? = some (.cells #[(.slice (some ad273) l0_0.length c0_0)] 28 (0, 0))) ∧ Aside0 (Below w.heap.size w w'))
                            case atStart => exact ⟨(x5_2), (x7_2), (0), (by first | rfl | (simp; done) | (simp [*]; done)), H', ⟨Nat.le_refl _⟩, ⟨by (try simp only [hl5_1]); (try simp only [hl5_2]); (with_reducible repeat (first | apply Kd.R_alloc | apply Kd.R_drewN | apply Kd.R_drew)); exact HO_5.out⟩, ⟨by (try simp only [hl5_1]); (try simp only [hl5_2]); (with_reducible repeat (first | apply Kd.R_alloc | apply Kd.R_drewN | apply Kd.R_drew)); exact HO_7.out⟩, ⟨by (try simp only [hl5_1]); (try simp only [hl5_2]); (with_reducible repeat (first | refine blk_drewN ?_ _ | refine blk_drew ?_ | refine blk_alloc ?_ _)); exact BK263.out⟩, ⟨by repeat (first | (with_reducible first | exact HB.out | apply below_alloc | apply pw_below_drewN | apply below_drew1 | refine below_set ?_ GE263.out) | exact HB.out)⟩⟩
                            case round =>
                              clear H'
                              try clear c1
                              try clear p1
                              try clear q1
                              try clear hx1
                              try clear c2
                              try clear p2
                              try clear q2
                              try clear hx2
                              try clear c3
                              try clear c3b0
                              try clear c3b1
                              try clear c4
                              try clear c4b0
                              try clear c4b1
                              try clear p6
                              try clear c9
                              try clear c10
                              try clear c10b0
                              try clear c11
                              try clear c11b0
                              try clear c12
                              try clear c12b0
                              try clear p13
                              try clear q13
                              try clear hx13
                              try clear hf13
                              try clear c16
                              try clear c16b0
                              try clear c17
                              try clear c17b0
                              try clear p18
                              try clear q18
                              try clear hx18
                              try clear hf18
                              try clear c23
                              try clear c23b0
                              try clear c24
                              try clear c24b0
                              try clear c25
                              try clear c25b0
                              try clear c26
                              try clear c26b0
                              try clear c27
                              try clear p27
                              try clear q27
                              try clear hx27
                              try clear hcz28_0
                              try clear hcz6_0
                              try clear hfz28_0
                              try clear hfz6_0
                              try clear hx13_0
                              try clear hx18_0
                              try clear hx272_0
                              try clear hx273_0
                              try clear p1
                              try clear p13
                              try clear p18
                              try clear p2
                              try clear p272
                              try clear p273
                              try clear p6
                              try clear q1
                              try clear q13
                              try clear q18
                              try clear q272
                              try clear q273
                              obtain ⟨x5_3, x7_3, x44_3, rfl, HA, HK3, HO_5, HO_7, BK263, HB⟩ := hrel
                              have hl5_3 := (Kd.R_reads' HO_5.out).1
                              rw [hl5_3] at HO_5
                              (try simp only [hl5_3])
                              (try simp only [hl5_3] at BK263)
                              (try simp only [hl5_3] at HO_7)
                              cases gk with
                              | zero => exact absurd HA.out (by simp [spec_grFar.l2])
                              | succ k3 =>
                                have H := HA.out
                                clear HA
                                simp only [spec_grFar.l2] at H
                                by_cases c29 : x44_3 < ((rd_L1 l0_0 (rd x7_2 x8_2)).length : Int)
                                · rw [if_pos c29] at H
                                  have c29b0 : decide (x44_3 < ((rd_L1 l0_0 (rd x7_2 x8_2)).length : Int)) = true := decide_eq_true c29
                                  (try (have c29b0h := c29b0; simp only [hl5_1, hl5_2, hl5_3] at c29b0h))
                                  clear c29
                                  by_cases c30 : 0 ≤ x44_3
                                  · rw [if_pos c30] at H
                                    have c30b0 : decide (0 ≤ x44_3) = true := decide_eq_true c30
                                    (try (have c30b0h := c30b0; simp only [hl5_1, hl5_2, hl5_3] at c30b0h))
                                    clear c30
                                    by_cases c31 : x44_3 < ((rd_L1 l0_0 (rd x7_2 x8_2)).length : Int)
                                    · rw [if_pos c31] at H
                                      have c31b0 : decide (x44_3 < ((rd_L1 l0_0 (rd x7_2 x8_2)).length : Int)) = true := decide_eq_true c31
                                      (try (have c31b0h := c31b0; simp only [hl5_1, hl5_2, hl5_3] at c31b0h))
                                      clear c31
                                      by_cases c32 : 0 ≤ (rd (rd_L1 l0_0 (rd x7_2 x8_2)) x44_3)
                                      · rw [if_pos c32] at H
                                        have c32b0 : decide (0 ≤ (rd (rd_L1 l0_0 (rd x7_2 x8_2)) x44_3)) = true := decide_eq_true c32
                                        (try (have c32b0h := c32b0; simp only [hl5_1, hl5_2, hl5_3] at c32b0h))
                                        clear c32
                                        by_cases c33 : (rd (rd_L1 l0_0 (rd x7_2 x8_2)) x44_3) < (x5_3.length : Int)
                                        · rw [if_pos c33] at H
                                          have c33b0 : decide ((rd (rd_L1 l0_0 (rd x7_2 x8_2)) x44_3) < (x5_3.length : Int)) = true := decide_eq_true c33
                                          (try (have c33b0h := c33b0; simp only [hl5_1, hl5_2, hl5_3] at c33b0h))
                                          clear c33
                                          by_cases c34 : (rd x5_3 (rd (rd_L1 l0_0 (rd x7_2 x8_2)) x44_3)) < 0
                                          · rw [if_pos c34] at H
                                            have c34b0 : decide ((rd x5_3 (rd (rd_L1 l0_0 (rd x7_2 x8_2)) x44_3)) < 0) = true := decide_eq_true c34
                                            (try (have c34b0h := c34b0; simp only [hl5_1, hl5_2, hl5_3] at c34b0h))
                                            clear c34
                                            by_cases c35 : 0 ≤ x8_2
                                            · rw [if_pos c35] at H
                                              have c35b0 : decide (0 ≤ x8_2) = true := decide_eq_true c35
                                              (try (have c35b0h := c35b0; simp only [hl5_1, hl5_2, hl5_3] at c35b0h))
                                              clear c35
                                              by_cases c36 : x8_2 < (x7_3.length : Int)
                                              · rw [if_pos c36] at H
                                                have c36b0 : decide (x8_2 < (x7_3.length : Int)) = true := decide_eq_true c36
                                                (try (have c36b0h := c36b0; simp only [hl5_1, hl5_2, hl5_3] at c36b0h))
                                                clear c36
                                                by_cases c37 : 0 ≤ (rd x7_3 x8_2)
                                                · rw [if_pos c37] at H
                                                  have c37b0 : decide (0 ≤ (rd x7_3 x8_2)) = true := decide_eq_true c37
                                                  (try (have c37b0h := c37b0; simp only [hl5_1, hl5_2, hl5_3] at c37b0h))
                                                  clear c37
                                                  by_cases c38 : (rd x7_3 x8_2) < (x5_3.length : Int)
                                                  · rw [if_pos c38] at H
                                                    have c38b0 : decide ((rd x7_3 x8_2) < (x5_3.length : Int)) = true := decide_eq_true c38
                                                    (try (have c38b0h := c38b0; simp only [hl5_1, hl5_2, hl5_3] at c38b0h))
                                                    clear c38
                                                    obtain ⟨y278, hy278⟩ : ∃ y_ : List Int, y_ = (x5_3.set ((rd (rd_L1 l0_0 (rd x7_2 x8_2)) x44_3) : Int).toNat (wrap64 ((rd x5_3 (rd x7_3 x8_2)) + 1))) := ⟨_, rfl⟩
                                                    replace H : (if x7_3.length < 17592186044416 then (spec_grFar.l2 k3 y278 (x7_3 ++ [rd (rd_L1 l0_0 (rd x7_2 x8_2)) x44_3]) x8_2 (rd_L1 l0_0 (rd x7_2 x8_2)) ((rd_L1 l0_0 (rd x7_2 x8_2)).length : Int) (wrap64 (x44_3 + 1)) l0_0) else (none)) = some r := by first | (rw [hy278]; with_reducible exact H) | (have H2_ := (Option.bind_some _ _).symm.trans H; rw [hy278]; with_reducible exact H2_) | (have H2_ := (Option.bind_some _ _).symm.trans H; with_reducible exact H2_) | with_reducible exact H | (rw [hy278]; exact H) | exact H
                                                    have Ny278 := Aside0.mk hy278
                                                    clear hy278
                                                    by_cases c40 : x7_3.length < 17592186044416
                                                    · rw [if_pos c40] at H
                                                      have LMc40 := Aside0.mk c40
                                                      clear c40
                                                      obtain ⟨y279, hy279⟩ : ∃ y_ : List Int, y_ = (x7_3 ++ [rd (rd_L1 l0_0 (rd x7_2 x8_2)) x44_3]) := ⟨_, rfl⟩
                                                      replace H : (spec_grFar.l2 k3 y278 y279 x8_2 (rd_L1 l0_0 (rd x7_2 x8_2)) ((rd_L1 l0_0 (rd x7_2 x8_2)).length : Int) (wrap64 (x44_3 + 1)) l0_0) = some r := by first | (rw [hy279]; with_reducible exact H) | (have H2_ := (Option.bind_some _ _).symm.trans H; rw [hy279]; with_reducible exact H2_) | (have H2_ := (Option.bind_some _ _).symm.trans H; with_reducible exact H2_) | with_reducible exact H | (rw [hy279]; exact H) | exact H
                                                      have Ny279 := Aside0.mk hy279
                                                      clear hy279
                                                      have H' := Aside0.mk H
                                                      clear H
                                                      have p274 : 0 ≤ (x44_3 : Int) := of_decide_eq_true (by first | (with_reducible assumption) | assumption)
                                                      have q274 : x44_3 < ((rd_L1 l0_0 (rd x7_2 x8_2)).length : Int) := of_decide_eq_true (by first | (with_reducible assumption) | assumption)
                                                      obtain ⟨ad274, e274, hx274_0⟩ := Kd.at_int HR273_0.out x44_3 p274 q274
                                                      cases e274
                                                      replace hx274_0 := (HB.out.cell (World.block_lt_of_cell? w _ hx274_0)).trans hx274_0
                                                      replace p274 := eq_true p274
                                                      replace q274 := eq_true q274
                                                      have p275 : 0 ≤ ((rd (rd_L1 l0_0 (rd x7_2 x8_2)) x44_3) : Int) := of_decide_eq_true (by first | (with_reducible assumption) | assumption)
                                                      have q275 : (rd (rd_L1 l0_0 (rd x7_2 x8_2)) x44_3) < (x5_3.length : Int) := of_decide_eq_true (by first | (with_reducible assumption) | assumption)
                                                      obtain ⟨ad275, e275, hx275_0⟩ := Kd.at_int (Kd.R_reads' HO_5.out).2.2 (rd (rd_L1 l0_0 (rd x7_2 x8_2)) x44_3) p275 q275
                                                      obtain rfl : (⟨go18, 0, none⟩ : Addr) = ad275 := (by injection e275)
                                                      (first | simp only [add_plain] at hx275_0 | simp only [add_at] at hx275_0 | simp only [Addr.add, Nat.zero_add] at hx275_0 | skip)
                                                      replace p275 := eq_true p275
                                                      replace q275 := eq_true q275
                                                      obtain ⟨Ao41, co41, eo41⟩ := Kd.R_slice HO_7.out
                                                      subst eo41
                                                      have p276 : 0 ≤ (x8_2 : Int) := of_decide_eq_true (by first | (with_reducible assumption) | assumption)
                                                      have q276 : x8_2 < (x7_3.length : Int) := of_decide_eq_true (by first | (with_reducible assumption) | assumption)
                                                      obtain ⟨ad276, e276, hx276_0⟩ := Kd.at_int (Kd.R_reads' HO_7.out).2.2 x8_2 p276 q276
                                                      cases e276
                                                      replace p276 := eq_true p276
                                                      replace q276 := eq_true q276
                                                      have p277 : 0 ≤ ((rd x7_3 x8_2) : Int) := of_decide_eq_true (by first | (with_reducible assumption) | assumption)
                                                      have q277 : (rd x7_3 x8_2) < (x5_3.length : Int) := of_decide_eq_true (by first | (with_reducible assumption) | assumption)
                                                      obtain ⟨ad277, e277, hx277_0⟩ := Kd.at_int (Kd.R_reads' HO_5.out).2.2 (rd x7_3 x8_2) p277 q277
                                                      obtain rfl : (⟨go18, 0, none⟩ : Addr) = ad277 := (by injection e277)
                                                      (first | simp only [add_plain] at hx277_0 | simp only [add_at] at hx277_0 | simp only [Addr.add, Nat.zero_add] at hx277_0 | skip)
                                                      replace p277 := eq_true p277
                                                      replace q277 := eq_true q277
                                                      have p39 : 0 ≤ ((rd (rd_L1 l0_0 (rd x7_2 x8_2)) x44_3) : Int) := of_decide_eq_true (by first | (with_reducible assumption) | assumption)
                                                      have q39 : ((rd (rd_L1 l0_0 (rd x7_2 x8_2)) x44_3) : Int) < ((x5_3.length : Int) : Int) := of_decide_eq_true (by first | (with_reducible assumption) | assumption)
                                                      obtain ⟨hx39_0, hf39_0⟩ := Kd.R_celln 0 HO_5.out ((rd (rd_L1 l0_0 (rd x7_2 x8_2)) x44_3) : Int) p39 q39
                                                      replace p39 := eq_true p39
                                                      replace q39 := eq_true q39
                                                      have HP42 := Kd.R_putg HO_5.out ((rd (rd_L1 l0_0 (rd x7_2 x8_2)) x44_3) : Int) (wrap64 ((rd x5_3 (rd x7_3 x8_2)) + 1))
                                                      go_wp2_with (first | ((with_reducible refine gate_store (t := 3) (p := 63) rfl ?_); (try (rw [drewN_self wr]; generalize hq_ : World.drewN wr _ = wr; have n0_ := Aside0.mk (Kd.R_at hq_ HO_5.out); have n1_ := Aside0.mk (Kd.R_at hq_ HO_7.out); have n2_ := Aside0.mk (blk_at hq_ BK263.out); have n3_ := Aside0.mk (below_at hq_ HB.out); clear hq_ HO_5 HO_7 BK263 HB; have HO_5 := n0_; have HO_7 := n1_; have BK263 := n2_; have HB := n3_; clear n0_ n1_ n2_ n3_; (try (have HP42 := Kd.R_putg HO_5.out ((rd (rd_L1 l0_0 (rd x7_2 x8_2)) x44_3) : Int) (wrap64 ((rd x5_3 (rd x7_3 x8_2)) + 1)))))); refine store_event (t := 3) (p := 63) (v := ?vo_w43) (w1 := (wr.setCell ⟨go18, ((rd (rd_L1 l0_0 (rd x7_2 x8_2)) x44_3) : Int).toNat, none⟩ (.int .i64 (wrap64 ((rd x5_3 (rd x7_3 x8_2)) + 1))))) ?hg ?ho ?hn ?hr ?_; (case ho => rfl); (case hg => rfl); (case hn => rfl); (case hr => first | (go_simp; done) | (go_simp; rfl)); intro w43 hw; have hg : wr.grownBy w43 (some go18) := (by rw [hw]; exact HP42.2); have hp_ : Kd.R (Kd.int .i64) 3 w43 w.heap.size (fun k_ => some k_ ≠ (.slice (some ad276) x7_3.length co41 : Value).ownBlock) (.slice (some ⟨go18, 0, none⟩) x5_3.length co9) y278 := (by rw [hw, Ny278.out]; exact HP42.1); clear HP42; have n0_ := Aside0.mk (hp_); have n1_ := Aside0.mk (Kd.R_after (v := (.slice (some ⟨go18, 0, none⟩) x5_3.length co9)) (v1 := (.slice (some ⟨go18, 0, none⟩) x5_3.length co9)) (ok := (fun _ => True)) (by (with_reducible repeat (first | apply Kd.R_alloc | apply Kd.R_drewN | apply Kd.R_drew)); exact Kd.R_mono HO_7.out (fun _ hk => ⟨trivial, hk⟩)) hg (.inl rfl)); have n2_ := Aside0.mk (blk_grown (g := gb263) (o := .cells #[.slice (some ad273) l0_0.length c0_0] 28 (0, 0)) (by (with_reducible repeat (first | refine blk_drewN ?_ _ | refine blk_drew ?_ | refine blk_alloc ?_ _)); exact BK263.out) hg (Kd.R_ne HO_5.out BK263.out (by decide))); have n3_ := Aside0.mk ((by rw [hw]; exact below_set (HB.out) GB18.out : Below w.heap.size w w43)); clear HO_5; clear HO_7; clear BK263; clear HB; have HO_5 := n0_; have HO_7 := n1_; have BK263 := n2_; have HB := n3_; clear n0_ n1_ n2_ n3_; clear hg hw hp_) | ((with_reducible refine gate_builtin (b := .append) (xs := #[.tmp 64, .tmp 66]) rfl ?_); at_builtin; refine Kd.R_append (Kd.int .i64) (w0 := w) w.heap.size rfl (.tmp 64) (.tmp 66) 35 3 (.int .i64 0) 8 rfl Try.underlying35 info3 rfl (by decide) (by omega) (.slice (some ad276) x7_3.length co41) x7_3 (rd (rd_L1 l0_0 (rd x7_2 x8_2)) x44_3) [.int .i64 (rd (rd_L1 l0_0 (rd x7_2 x8_2)) x44_3)] (fun k_ => some k_ ≠ (.slice (some ⟨go18, 0, none⟩) x5_3.length co9 : Value).ownBlock) (fun _ => False) rfl rfl ?aP (fun _ hk => hk.elim) ?aF ?aO ?aB ?aS ?aL ?_; (case aP => exact rfl); (case aB => exact (by repeat (first | (with_reducible first | exact HB.out | apply below_alloc | apply pw_below_drewN | apply below_drew1 | refine below_set ?_ GE263.out) | exact HB.out))); (case aF => exact (fun k_ hk => Kd.fresh' (Kd.R_lt (by (with_reducible repeat (first | apply Kd.R_alloc | apply Kd.R_drewN | apply Kd.R_drew)); exact HO_5.out)) k_ hk)); (case aO => exact (by (with_reducible repeat (first | apply Kd.R_alloc | apply Kd.R_drewN | apply Kd.R_drew)); exact Kd.R_mono HO_7.out (fun _ hk => hk.2))); (case aS => exact (below_size (by repeat (first | (with_reducible first | exact HB.out | apply below_alloc | apply pw_below_drewN | apply below_drew1 | refine below_set ?_ GE263.out) | exact HB.out)))); (case aL => have := LMc40.out; omega); intro v280 w44 ho hb hg hat; rw [← Ny279.out] at ho; have n0_ := Aside0.mk (Kd.R_after (ok := (fun _ => True)) (by (with_reducible repeat (first | apply Kd.R_alloc | apply Kd.R_drewN | apply Kd.R_drew)); exact Kd.R_mono HO_5.out (fun _ hk => ⟨trivial, hk⟩)) hg hat); have n1_ := Aside0.mk (blk_grown (g := gb263) (o := .cells #[.slice (some ad273) l0_0.length c0_0] 28 (0, 0)) (by (with_reducible repeat (first | refine blk_drewN ?_ _ | refine blk_drew ?_ | refine blk_alloc ?_ _)); exact BK263.out) hg (Kd.R_ne HO_7.out BK263.out (by decide))); have n2_ := Aside0.mk (hb); have n3_ := Aside0.mk (ho); clear HO_5; clear BK263; clear HB; clear HO_7; have HO_5 := n0_; have BK263 := n1_; have HB := n2_; have HO281 := n3_; clear n0_ n1_ n2_ n3_; clear ho hb hg hat))
                                                      repeat (go_quiet (first | ((with_reducible refine gate_store (t := 3) (p := 63) rfl ?_); (try (rw [drewN_self wr]; generalize hq_ : World.drewN wr _ = wr; have n0_ := Aside0.mk (Kd.R_at hq_ HO_5.out); have n1_ := Aside0.mk (Kd.R_at hq_ HO_7.out); have n2_ := Aside0.mk (blk_at hq_ BK263.out); have n3_ := Aside0.mk (below_at hq_ HB.out); clear hq_ HO_5 HO_7 BK263 HB; have HO_5 := n0_; have HO_7 := n1_; have BK263 := n2_; have HB := n3_; clear n0_ n1_ n2_ n3_; (try (have HP42 := Kd.R_putg HO_5.out ((rd (rd_L1 l0_0 (rd x7_2 x8_2)) x44_3) : Int) (wrap64 ((rd x5_3 (rd x7_3 x8_2)) + 1)))))); refine store_event (t := 3) (p := 63) (v := ?vo_w43) (w1 := (wr.setCell ⟨go18, ((rd (rd_L1 l0_0 (rd x7_2 x8_2)) x44_3) : Int).toNat, none⟩ (.int .i64 (wrap64 ((rd x5_3 (rd x7_3 x8_2)) + 1))))) ?hg ?ho ?hn ?hr ?_; (case ho => rfl); (case hg => rfl); (case hn => rfl); (case hr => first | (go_simp; done) | (go_simp; rfl)); intro w43 hw; have hg : wr.grownBy w43 (some go18) := (by rw [hw]; exact HP42.2); have hp_ : Kd.R (Kd.int .i64) 3 w43 w.heap.size (fun k_ => some k_ ≠ (.slice (some ad276) x7_3.length co41 : Value).ownBlock) (.slice (some ⟨go18, 0, none⟩) x5_3.length co9) y278 := (by rw [hw, Ny278.out]; exact HP42.1); clear HP42; have n0_ := Aside0.mk (hp_); have n1_ := Aside0.mk (Kd.R_after (v := (.slice (some ⟨go18, 0, none⟩) x5_3.length co9)) (v1 := (.slice (some ⟨go18, 0, none⟩) x5_3.length co9)) (ok := (fun _ => True)) (by (with_reducible repeat (first | apply Kd.R_alloc | apply Kd.R_drewN | apply Kd.R_drew)); exact Kd.R_mono HO_7.out (fun _ hk => ⟨trivial, hk⟩)) hg (.inl rfl)); have n2_ := Aside0.mk (blk_grown (g := gb263) (o := .cells #[.slice (some ad273) l0_0.length c0_0] 28 (0, 0)) (by (with_reducible repeat (first | refine blk_drewN ?_ _ | refine blk_drew ?_ | refine blk_alloc ?_ _)); exact BK263.out) hg (Kd.R_ne HO_5.out BK263.out (by decide))); have n3_ := Aside0.mk ((by rw [hw]; exact below_set (HB.out) GB18.out : Below w.heap.size w w43)); clear HO_5; clear HO_7; clear BK263; clear HB; have HO_5 := n0_; have HO_7 := n1_; have BK263 := n2_; have HB := n3_; clear n0_ n1_ n2_ n3_; clear hg hw hp_) | ((with_reducible refine gate_builtin (b := .append) (xs := #[.tmp 64, .tmp 66]) rfl ?_); at_builtin; refine Kd.R_append (Kd.int .i64) (w0 := w) w.heap.size rfl (.tmp 64) (.tmp 66) 35 3 (.int .i64 0) 8 rfl Try.underlying35 info3 rfl (by decide) (by omega) (.slice (some ad276) x7_3.length co41) x7_3 (rd (rd_L1 l0_0 (rd x7_2 x8_2)) x44_3) [.int .i64 (rd (rd_L1 l0_0 (rd x7_2 x8_2)) x44_3)] (fun k_ => some k_ ≠ (.slice (some ⟨go18, 0, none⟩) x5_3.length co9 : Value).ownBlock) (fun _ => False) rfl rfl ?aP (fun _ hk => hk.elim) ?aF ?aO ?aB ?aS ?aL ?_; (case aP => exact rfl); (case aB => exact (by repeat (first | (with_reducible first | exact HB.out | apply below_alloc | apply pw_below_drewN | apply below_drew1 | refine below_set ?_ GE263.out) | exact HB.out))); (case aF => exact (fun k_ hk => Kd.fresh' (Kd.R_lt (by (with_reducible repeat (first | apply Kd.R_alloc | apply Kd.R_drewN | apply Kd.R_drew)); exact HO_5.out)) k_ hk)); (case aO => exact (by (with_reducible repeat (first | apply Kd.R_alloc | apply Kd.R_drewN | apply Kd.R_drew)); exact Kd.R_mono HO_7.out (fun _ hk => hk.2))); (case aS => exact (below_size (by repeat (first | (with_reducible first | exact HB.out | apply below_alloc | apply pw_below_drewN | apply below_drew1 | refine below_set ?_ GE263.out) | exact HB.out)))); (case aL => have := LMc40.out; omega); intro v280 w44 ho hb hg hat; rw [← Ny279.out] at ho; have n0_ := Aside0.mk (Kd.R_after (ok := (fun _ => True)) (by (with_reducible repeat (first | apply Kd.R_alloc | apply Kd.R_drewN | apply Kd.R_drew)); exact Kd.R_mono HO_5.out (fun _ hk => ⟨trivial, hk⟩)) hg hat); have n1_ := Aside0.mk (blk_grown (g := gb263) (o := .cells #[.slice (some ad273) l0_0.length c0_0] 28 (0, 0)) (by (with_reducible repeat (first | refine blk_drewN ?_ _ | refine blk_drew ?_ | refine blk_alloc ?_ _)); exact BK263.out) hg (Kd.R_ne HO_7.out BK263.out (by decide))); have n2_ := Aside0.mk (hb); have n3_ := Aside0.mk (ho); clear HO_5; clear BK263; clear HB; clear HO_7; have HO_5 := n0_; have BK263 := n1_; have HB := n2_; have HO281 := n3_; clear n0_ n1_ n2_ n3_; clear ho hb hg hat)); try go_wp2_with (first | ((with_reducible refine gate_store (t := 3) (p := 63) rfl ?_); (try (rw [drewN_self wr]; generalize hq_ : World.drewN wr _ = wr; have n0_ := Aside0.mk (Kd.R_at hq_ HO_5.out); have n1_ := Aside0.mk (Kd.R_at hq_ HO_7.out); have n2_ := Aside0.mk (blk_at hq_ BK263.out); have n3_ := Aside0.mk (below_at hq_ HB.out); clear hq_ HO_5 HO_7 BK263 HB; have HO_5 := n0_; have HO_7 := n1_; have BK263 := n2_; have HB := n3_; clear n0_ n1_ n2_ n3_; (try (have HP42 := Kd.R_putg HO_5.out ((rd (rd_L1 l0_0 (rd x7_2 x8_2)) x44_3) : Int) (wrap64 ((rd x5_3 (rd x7_3 x8_2)) + 1)))))); refine store_event (t := 3) (p := 63) (v := ?vo_w43) (w1 := (wr.setCell ⟨go18, ((rd (rd_L1 l0_0 (rd x7_2 x8_2)) x44_3) : Int).toNat, none⟩ (.int .i64 (wrap64 ((rd x5_3 (rd x7_3 x8_2)) + 1))))) ?hg ?ho ?hn ?hr ?_; (case ho => rfl); (case hg => rfl); (case hn => rfl); (case hr => first | (go_simp; done) | (go_simp; rfl)); intro w43 hw; have hg : wr.grownBy w43 (some go18) := (by rw [hw]; exact HP42.2); have hp_ : Kd.R (Kd.int .i64) 3 w43 w.heap.size (fun k_ => some k_ ≠ (.slice (some ad276) x7_3.length co41 : Value).ownBlock) (.slice (some ⟨go18, 0, none⟩) x5_3.length co9) y278 := (by rw [hw, Ny278.out]; exact HP42.1); clear HP42; have n0_ := Aside0.mk (hp_); have n1_ := Aside0.mk (Kd.R_after (v := (.slice (some ⟨go18, 0, none⟩) x5_3.length co9)) (v1 := (.slice (some ⟨go18, 0, none⟩) x5_3.length co9)) (ok := (fun _ => True)) (by (with_reducible repeat (first | apply Kd.R_alloc | apply Kd.R_drewN | apply Kd.R_drew)); exact Kd.R_mono HO_7.out (fun _ hk => ⟨trivial, hk⟩)) hg (.inl rfl)); have n2_ := Aside0.mk (blk_grown (g := gb263) (o := .cells #[.slice (some ad273) l0_0.length c0_0] 28 (0, 0)) (by (with_reducible repeat (first | refine blk_drewN ?_ _ | refine blk_drew ?_ | refine blk_alloc ?_ _)); exact BK263.out) hg (Kd.R_ne HO_5.out BK263.out (by decide))); have n3_ := Aside0.mk ((by rw [hw]; exact below_set (HB.out) GB18.out : Below w.heap.size w w43)); clear HO_5; clear HO_7; clear BK263; clear HB; have HO_5 := n0_; have HO_7 := n1_; have BK263 := n2_; have HB := n3_; clear n0_ n1_ n2_ n3_; clear hg hw hp_) | ((with_reducible refine gate_builtin (b := .append) (xs := #[.tmp 64, .tmp 66]) rfl ?_); at_builtin; refine Kd.R_append (Kd.int .i64) (w0 := w) w.heap.size rfl (.tmp 64) (.tmp 66) 35 3 (.int .i64 0) 8 rfl Try.underlying35 info3 rfl (by decide) (by omega) (.slice (some ad276) x7_3.length co41) x7_3 (rd (rd_L1 l0_0 (rd x7_2 x8_2)) x44_3) [.int .i64 (rd (rd_L1 l0_0 (rd x7_2 x8_2)) x44_3)] (fun k_ => some k_ ≠ (.slice (some ⟨go18, 0, none⟩) x5_3.length co9 : Value).ownBlock) (fun _ => False) rfl rfl ?aP (fun _ hk => hk.elim) ?aF ?aO ?aB ?aS ?aL ?_; (case aP => exact rfl); (case aB => exact (by repeat (first | (with_reducible first | exact HB.out | apply below_alloc | apply pw_below_drewN | apply below_drew1 | refine below_set ?_ GE263.out) | exact HB.out))); (case aF => exact (fun k_ hk => Kd.fresh' (Kd.R_lt (by (with_reducible repeat (first | apply Kd.R_alloc | apply Kd.R_drewN | apply Kd.R_drew)); exact HO_5.out)) k_ hk)); (case aO => exact (by (with_reducible repeat (first | apply Kd.R_alloc | apply Kd.R_drewN | apply Kd.R_drew)); exact Kd.R_mono HO_7.out (fun _ hk => hk.2))); (case aS => exact (below_size (by repeat (first | (with_reducible first | exact HB.out | apply below_alloc | apply pw_below_drewN | apply below_drew1 | refine below_set ?_ GE263.out) | exact HB.out)))); (case aL => have := LMc40.out; omega); intro v280 w44 ho hb hg hat; rw [← Ny279.out] at ho; have n0_ := Aside0.mk (Kd.R_after (ok := (fun _ => True)) (by (with_reducible repeat (first | apply Kd.R_alloc | apply Kd.R_drewN | apply Kd.R_drew)); exact Kd.R_mono HO_5.out (fun _ hk => ⟨trivial, hk⟩)) hg hat); have n1_ := Aside0.mk (blk_grown (g := gb263) (o := .cells #[.slice (some ad273) l0_0.length c0_0] 28 (0, 0)) (by (with_reducible repeat (first | refine blk_drewN ?_ _ | refine blk_drew ?_ | refine blk_alloc ?_ _)); exact BK263.out) hg (Kd.R_ne HO_7.out BK263.out (by decide))); have n2_ := Aside0.mk (hb); have n3_ := Aside0.mk (ho); clear HO_5; clear BK263; clear HB; clear HO_7; have HO_5 := n0_; have BK263 := n1_; have HB := n2_; have HO281 := n3_; clear n0_ n1_ n2_ n3_; clear ho hb hg hat)))
                                                      (try simp only [← hl5_3])
                                                      go_roundg k3
                                                      case measure => have := HK1.out; have := HK2.out; have := HK3.out; omega
                                                      case rel => exact ⟨(y278), (y279), (wrap64 (x44_3 + 1)), (by first | rfl | (simp; done) | (simp [*]; done)), H', ⟨by have := HK1.out; have := HK2.out; have := HK3.out; omega⟩, ⟨by (try simp only [hl5_1]); (try simp only [hl5_2]); (try simp only [hl5_3]); (with_reducible repeat (first | apply Kd.R_alloc | apply Kd.R_drewN | apply Kd.R_drew)); exact Kd.R_mono HO_5.out (fun _ hk => hk.2)⟩, ⟨by (try simp only [hl5_1]); (try simp only [hl5_2]); (try simp only [hl5_3]); (with_reducible repeat (first | apply Kd.R_alloc | apply Kd.R_drewN | apply Kd.R_drew)); exact HO281.out⟩, ⟨by (try simp only [hl5_1]); (try simp only [hl5_2]); (try simp only [hl5_3]); (with_reducible repeat (first | refine blk_drewN ?_ _ | refine blk_drew ?_ | refine blk_alloc ?_ _)); exact BK263.out⟩, ⟨by repeat (first | (with_reducible first | exact HB.out | apply below_alloc | apply pw_below_drewN | apply below_drew1 | refine below_set ?_ GE263.out) | exact HB.out)⟩⟩
                                                    · rw [if_neg c40] at H
                                                      exact absurd H (by simp)
                                                  · rw [if_neg c38] at H
                                                    exact absurd H (by simp)
                                                · rw [if_neg c37] at H
                                                  exact absurd H (by simp)
                                              · rw [if_neg c36] at H
                                                exact absurd H (by simp)
                                            · rw [if_neg c35] at H
                                              exact absurd H (by simp)
                                          · rw [if_neg c34] at H
                                            have c34b0 : decide ((rd x5_3 (rd (rd_L1 l0_0 (rd x7_2 x8_2)) x44_3)) < 0) = false := decide_eq_false c34
                                            (try (have c34b0h := c34b0; simp only [hl5_1, hl5_2, hl5_3] at c34b0h))
                                            clear c34
                                            have H' := Aside0.mk H
                                            clear H
                                            have p274 : 0 ≤ (x44_3 : Int) := of_decide_eq_true (by first | (with_reducible assumption) | assumption)
                                            have q274 : x44_3 < ((rd_L1 l0_0 (rd x7_2 x8_2)).length : Int) := of_decide_eq_true (by first | (with_reducible assumption) | assumption)
                                            obtain ⟨ad274, e274, hx274_0⟩ := Kd.at_int HR273_0.out x44_3 p274 q274
                                            cases e274
                                            replace hx274_0 := (HB.out.cell (World.block_lt_of_cell? w _ hx274_0)).trans hx274_0
                                            replace p274 := eq_true p274
                                            replace q274 := eq_true q274
                                            have p275 : 0 ≤ ((rd (rd_L1 l0_0 (rd x7_2 x8_2)) x44_3) : Int) := of_decide_eq_true (by first | (with_reducible assumption) | assumption)
                                            have q275 : (rd (rd_L1 l0_0 (rd x7_2 x8_2)) x44_3) < (x5_3.length : Int) := of_decide_eq_true (by first | (with_reducible assumption) | assumption)
                                            obtain ⟨ad275, e275, hx275_0⟩ := Kd.at_int (Kd.R_reads' HO_5.out).2.2 (rd (rd_L1 l0_0 (rd x7_2 x8_2)) x44_3) p275 q275
                                            obtain rfl : (⟨go18, 0, none⟩ : Addr) = ad275 := (by injection e275)
                                            (first | simp only [add_plain] at hx275_0 | simp only [add_at] at hx275_0 | simp only [Addr.add, Nat.zero_add] at hx275_0 | skip)
                                            replace p275 := eq_true p275
                                            replace q275 := eq_true q275
                                            go_wp2
                                            repeat (go_quiet (fail); try go_wp2)
                                            (try simp only [← hl5_3])
                                            go_roundg k3
                                            case measure => have := HK1.out; have := HK2.out; have := HK3.out; omega
                                            case rel => exact ⟨(x5_3), (x7_3), (wrap64 (x44_3 + 1)), (by first | rfl | (simp; done) | (simp [*]; done)), H', ⟨by have := HK1.out; have := HK2.out; have := HK3.out; omega⟩, ⟨by (try simp only [hl5_1]); (try simp only [hl5_2]); (try simp only [hl5_3]); (with_reducible repeat (first | apply Kd.R_alloc | apply Kd.R_drewN | apply Kd.R_drew)); exact HO_5.out⟩, ⟨by (try simp only [hl5_1]); (try simp only [hl5_2]); (try simp only [hl5_3]); (with_reducible repeat (first | apply Kd.R_alloc | apply Kd.R_drewN | apply Kd.R_drew)); exact HO_7.out⟩, ⟨by (try simp only [hl5_1]); (try simp only [hl5_2]); (try simp only [hl5_3]); (with_reducible repeat (first | refine blk_drewN ?_ _ | refine blk_drew ?_ | refine blk_alloc ?_ _)); exact BK263.out⟩, ⟨by repeat (first | (with_reducible first | exact HB.out | apply below_alloc | apply pw_below_drewN | apply below_drew1 | refine below_set ?_ GE263.out) | exact HB.out)⟩⟩
                                        · rw [if_neg c33] at H
                                          exact absurd H (by simp)
                                      · rw [if_neg c32] at H
                                        exact absurd H (by simp)
                                    · rw [if_neg c31] at H
                                      exact absurd H (by simp)
                                  · rw [if_neg c30] at H
                                    exact absurd H (by simp)
                                · rw [if_neg c29] at H
                                  have c29b0 : decide (x44_3 < ((rd_L1 l0_0 (rd x7_2 x8_2)).length : Int)) = false := decide_eq_false c29
                                  (try (have c29b0h := c29b0; simp only [hl5_1, hl5_2, hl5_3] at c29b0h))
                                  clear c29
                                  have H' := Aside0.mk H
                                  clear H
                                  go_wp2
                                  repeat (go_quiet (fail); try go_wp2)
                                  (try simp only [← hl5_2, ← hl5_3])
                                  go_roundg k3
                                  case measure => have := HK1.out; have := HK2.out; have := HK3.out; omega
                                  case rel => exact ⟨(x5_3), (x7_3), (wrap64 (x8_2 + 1)), (by first | rfl | (simp; done) | (simp [*]; done)), H', ⟨by have := HK1.out; have := HK2.out; have := HK3.out; omega⟩, ⟨by (try simp only [hl5_1]); (try simp only [hl5_2]); (try simp only [hl5_3]); (with_reducible repeat (first | apply Kd.R_alloc | apply Kd.R_drewN | apply Kd.R_drew)); exact HO_5.out⟩, ⟨by (try simp only [hl5_1]); (try simp only [hl5_2]); (try simp only [hl5_3]); (with_reducible repeat (first | apply Kd.R_alloc | apply Kd.R_drewN | apply Kd.R_drew)); exact HO_7.out⟩, ⟨by (try simp only [hl5_1]); (try simp only [hl5_2]); (try simp only [hl5_3]); (with_reducible repeat (first | refine blk_drewN ?_ _ | refine blk_drew ?_ | refine blk_alloc ?_ _)); exact BK263.out⟩, ⟨by repeat (first | (with_reducible first | exact HB.out | apply below_alloc | apply pw_below_drewN | apply below_drew1 | refine below_set ?_ GE263.out) | exact HB.out)⟩⟩
                          · rw [if_neg c26] at H
                            exact absurd H (by simp)
                        · rw [if_neg c25] at H
                          exact absurd H (by simp)
                      · rw [if_neg c24] at H
                        exact absurd H (by simp)
                    · rw [if_neg c23] at H
                      have c23b0 : decide (x8_2 < (x7_2.length : Int)) = false := decide_eq_false c23
                      (try (have c23b0h := c23b0; simp only [hl5_1, hl5_2] at c23b0h))
                      clear c23
                      obtain rfl := Option.some.inj H
                      obtain ⟨Ao45, co45, eo45⟩ := Kd.R_slice HO_7.out
                      subst eo45
                      go_wp2
                      repeat (go_quiet (fail); try go_wp2)
                      go_ret
                      exact ⟨_, by first | rfl | (simp [errW_none, errW_some] <;> rfl) | (simp [*, errW_none, errW_some] <;> rfl), by (with_reducible repeat (first | apply Kd.R_alloc | apply Kd.R_drewN | apply Kd.R_drew)); exact Kd.R_mono HO_5.out (fun _ hk => trivial), by repeat (first | (with_reducible first | exact HB.out | apply below_alloc | apply pw_below_drewN | apply below_drew1 | refine below_set ?_ GE263.out) | exact HB.out)⟩
              · rw [if_neg c17] at H
                exact absurd H (by simp)
            · rw [if_neg c16] at H
              exact absurd H (by simp)
    · rw [if_neg c4] at H
      exact absurd H (by simp)
  · rw [if_neg c3] at H
    exact absurd H (by simp)

end Go.Proofs.Ytnphoaecjeenjaa.P
namespace Go.Proofs.Ytnphoaecjeenjaa.M
open Go.RowKit Go.Proofs.Ytnphoaecjeenjaa.P Go.Proofs.Ytnphoaecjeenjaa.In Go.Proofs.YtnphoaecjeenjaaW.PrintWords Go.Proofs.YtnphoaecjeenjaaW.PrintLast
set_option linter.unusedVariables false
set_option linter.unusedSimpArgs false
theorem good_iff {l : List (List Int)} (h : goodG l = true) : (1 ≤ l.length ∧ l.length ≤ 8) ∧ ∀ row ∈ l, row.length ≤ 5 ∧ ∀ q ∈ row, 0 ≤ q ∧ q < (l.length : Int) := by
  simp only [goodG, goodRow, Bool.and_eq_true, decide_eq_true_eq, List.all_eq_true] at h
  refine ⟨⟨h.1, h.2.1⟩, fun row hr => ⟨(h.2.2 row hr).1, fun q hq => ?_⟩⟩
  have := (h.2.2 row hr).2 q hq
  omega
/-- A place of a graph. -/
def placeB (l : List (List Int)) (p : Int) : Bool := goodG l && (decide (0 ≤ p) && decide (p ≤ (l.length : Int) - 1))
theorem place_iff {l : List (List Int)} {p : Int} (h : placeB l p = true) : goodG l = true ∧ 0 ≤ p ∧ p < (l.length : Int) := by
  simp only [placeB, Bool.and_eq_true, decide_eq_true_eq] at h
  exact ⟨h.1, h.2.1, by omega⟩
theorem grPlace (l : List (List Int)) (p : Int) (hl : okSS l) : Ev (fun k => spec_grPlace.f k l p) (placeB l p) := by
  unfold spec_grPlace.f
  have hll := hl.1
  refine Ev.bind (grGood l hl) ?_
  by_cases h : goodG l = true
  · refine Ev.pos h ?_
    rw [l1In, wrap_id (by omega)]
    exact Ev.bind0 rfl ((Ev.now _).val (by simp [placeB, h]))
  · exact Ev.neg h ((Ev.now _).val (by simp only [Bool.not_eq_true] at h; simp [placeB, h]))
theorem has1 (l : List (List Int)) (p : Int) : impl_has.f l [p] = some (placeB l p) := by
  unfold impl_has.f placeB; simp
theorem has2 (l : List (List Int)) (p q : Int) : impl_has.f l [p, q] = some (placeB l p && placeB l q) := by
  unfold impl_has.f placeB
  cases goodG l <;> simp

/-! how far -/
def neg : List Int → Nat
  | [] => 0
  | x :: l => (if x < 0 then 1 else 0) + neg l
theorem neg_set (o : List Int) (i : Nat) (hi : i < o.length) (h : o[i] < 0) (v : Int) (hv : 0 ≤ v) : neg (o.set i v) + 1 = neg o := by
  induction o generalizing i with
  | nil => simp at hi
  | cons x o ih =>
    cases i with
    | zero =>
      simp only [List.getElem_cons_zero] at h
      simp only [List.set_cons_zero, neg]
      rw [if_neg (by omega), if_pos h]; omega
    | succ i =>
      simp only [List.getElem_cons_succ] at h
      simp only [List.set_cons_succ, neg]
      have := ih i (by simpa using hi) h
      omega
theorem neg_le (o : List Int) : neg o ≤ o.length := by
  induction o with
  | nil => simp [neg]
  | cons x o ih => simp only [neg, List.length_cons]; split <;> omega
theorem rd_get {l : List Int} {q : Int} (h0 : 0 ≤ q) (h1 : q < (l.length : Int)) : rd l q = l[q.toNat]'(by omega) := by
  unfold rd; rw [List.getD_eq_getElem?_getD, List.getElem?_eq_getElem (by omega)]; rfl
theorem rdL_get {l : List (List Int)} {q : Int} (h0 : 0 ≤ q) (h1 : q < (l.length : Int)) : rd_L1 l q = l[q.toNat]'(by omega) := by
  unfold rd_L1; rw [List.getD_eq_getElem?_getD, List.getElem?_eq_getElem (by omega)]; rfl
/-- What is known of the lengths, on the way. -/
structure Known (n : Nat) (o : List Int) : Prop where
  len : o.length = n
  lo : ∀ x ∈ o, -1 ≤ x
  hi : ∀ x ∈ o, x + 1 ≤ (n : Int) - neg o
theorem Known.at {n : Nat} {o : List Int} (h : Known n o) {q : Int} (h0 : 0 ≤ q) (h1 : q < (n : Int)) : -1 ≤ rd o q ∧ rd o q + 1 ≤ (n : Int) - neg o := by
  have hl := h.len
  rw [rd_get h0 (by omega)]
  exact ⟨h.lo _ (List.getElem_mem _), h.hi _ (List.getElem_mem _)⟩
theorem Known.set {n : Nat} {o : List Int} (h : Known n o) {q : Int} (h0 : 0 ≤ q) (h1 : q < (n : Int)) (hq : rd o q < 0) {v : Int} (hv0 : 0 ≤ v) (hv : v ≤ (n : Int) - neg o) : Known n (o.set q.toNat v) ∧ neg (o.set q.toNat v) + 1 = neg o := by
  have hl := h.len
  rw [rd_get h0 (by omega)] at hq
  have hn := neg_set o q.toNat (by omega) hq v hv0
  refine ⟨⟨by rw [List.length_set]; exact hl, fun x hx => ?_, fun x hx => ?_⟩, hn⟩
  · rcases List.mem_or_eq_of_mem_set hx with h' | h'
    · exact h.lo x h'
    · omega
  · rcases List.mem_or_eq_of_mem_set hx with h' | h'
    · have := h.hi x h'; omega
    · omega
/-- The exits of a place are looked at. -/
def vis (c : Int) : List Int → List Int → List Int → List Int × List Int
  | [], o, qs => (o, qs)
  | q :: row, o, qs => if rd o q < 0 then vis c row (o.set q.toNat (rd o c + 1)) (qs ++ [q]) else vis c row o qs
def bfs (g : List (List Int)) : Nat → List Int → List Int → List Int
  | 0, o, _ => o
  | _ + 1, o, [] => o
  | f + 1, o, c :: qs => bfs g f (vis c (rd_L1 g c) o qs).1 (vis c (rd_L1 g c) o qs).2
/-- How far each place is from p, -1 where no way leads. -/
def far (g : List (List Int)) (p : Int) : List Int := bfs g g.length ((List.replicate g.length (-1)).set p.toNat 0) [p]
/-- The places that wait: places that are known. -/
def Wait (n : Nat) (o qs : List Int) : Prop := ∀ q ∈ qs, 0 ≤ q ∧ q < (n : Int) ∧ 0 ≤ rd o q
theorem rd_set {o : List Int} {q x v : Int} (hq0 : 0 ≤ q) (hq : q < (o.length : Int)) (hx0 : 0 ≤ x) : rd (o.set q.toNat v) x = if x = q then v else rd o x := by
  unfold rd
  rw [List.getD_eq_getElem?_getD, List.getElem?_set, List.getD_eq_getElem?_getD]
  by_cases e : x = q
  · subst e; rw [if_pos rfl, if_pos (by omega), if_pos rfl]; rfl
  · rw [if_neg (by omega), if_neg e]
theorem vis_keeps {n : Nat} (hn : n ≤ 8) (c : Int) : ∀ (row o qs : List Int), (∀ q ∈ row, 0 ≤ q ∧ q < (n : Int)) → Known n o → Wait n o qs → (0 ≤ c ∧ c < (n : Int) ∧ 0 ≤ rd o c) →
    Known n (vis c row o qs).1 ∧ Wait n (vis c row o qs).1 (vis c row o qs).2 ∧ (vis c row o qs).2.length + neg (vis c row o qs).1 = qs.length + neg o := by
  intro row
  induction row with
  | nil => intro o qs _ hk hw _; exact ⟨hk, hw, rfl⟩
  | cons q row ih =>
    intro o qs hr hk hw hc
    obtain ⟨hq0, hq1⟩ := hr q List.mem_cons_self
    have hr' : ∀ x ∈ row, 0 ≤ x ∧ x < (n : Int) := fun x hx => hr x (List.mem_cons_of_mem _ hx)
    simp only [vis]
    by_cases h : rd o q < 0
    · rw [if_pos h]
      have hl := hk.len
      have hcc := hk.at hc.1 hc.2.1
      obtain ⟨hk', hn'⟩ := hk.set hq0 hq1 h (v := rd o c + 1) (by omega) (by omega)
      have hs : ∀ x, 0 ≤ x → 0 ≤ rd o x → 0 ≤ rd (o.set q.toNat (rd o c + 1)) x := fun x hx hx1 => by
        rw [rd_set hq0 (by omega) hx]; split <;> omega
      obtain ⟨h1, h2, h3⟩ := ih _ (qs ++ [q]) hr' hk' (fun x hx => by
        rcases List.mem_append.1 hx with hx | hx
        · obtain ⟨a, b, c'⟩ := hw x hx; exact ⟨a, b, hs x a c'⟩
        · rw [List.mem_singleton.1 hx]; exact ⟨hq0, hq1, by rw [rd_set hq0 (by omega) hq0, if_pos rfl]; omega⟩) ⟨hc.1, hc.2.1, hs c hc.1 hc.2.2⟩
      refine ⟨h1, h2, ?_⟩
      rw [h3, List.length_append]; simp; omega
    · rw [if_neg h]
      exact ih o qs hr' hk hw hc
theorem drop_rd {row : List Int} {i : Nat} (h : i < row.length) : row.drop i = rd row (i : Int) :: row.drop (i + 1) := by
  rw [List.drop_eq_getElem_cons h, rd_at h]
/-- The program's look at the exits. -/
theorem lengths_l1 {n : Nat} (hn : n ≤ 8) (g : List (List Int)) (c : Int) (row : List Int) (hr : ∀ q ∈ row, 0 ≤ q ∧ q < (n : Int)) (hrl : row.length ≤ 5) (r : List Int) : ∀ (d i : Nat) (o qs : List Int), row.length - i = d → i ≤ row.length → Known n o → Wait n o qs → (0 ≤ c ∧ c < (n : Int) ∧ 0 ≤ rd o c) → qs.length + neg o ≤ 8 →
    Ev (fun k => impl_Graph_lengths.l0 k (vis c (row.drop i) o qs).1 (vis c (row.drop i) o qs).2 g) r → Ev (fun k => impl_Graph_lengths.l1 k o (c :: qs) row row.length i g) r := by
  intro d
  induction d with
  | zero =>
    intro i o qs hd hi hk hw hc hb h
    rw [List.drop_of_length_le (by omega)] at h
    refine Ev.step (fun k => ?_) h
    simp only [impl_Graph_lengths.l1, vis]
    rw [if_neg (by omega), if_pos (by simp; omega)]
    rfl
  | succ d ih =>
    intro i o qs hd hi hk hw hc hb h
    have hlt : i < row.length := by omega
    have hq := hr (rd row i) (by rw [rd_at hlt]; exact List.getElem_mem _)
    have hl := hk.len
    rw [drop_rd hlt] at h
    simp only [vis] at h
    by_cases hneg : rd o (rd row i) < 0
    · rw [if_pos hneg] at h
      have hcc := hk.at hc.1 hc.2.1
      obtain ⟨hk', hn'⟩ := hk.set hq.1 hq.2 hneg (v := rd o c + 1) (by omega) (by omega)
      have hs : ∀ x, 0 ≤ x → 0 ≤ rd o x → 0 ≤ rd (o.set (rd row i).toNat (rd o c + 1)) x := fun x hx hx1 => by
        rw [rd_set hq.1 (by omega) hx]; split <;> omega
      refine Ev.step (fun k => ?_) (ih (i + 1) _ (qs ++ [rd row i]) (by omega) (by omega) hk' (fun x hx => by
        rcases List.mem_append.1 hx with hx | hx
        · obtain ⟨a, b, c'⟩ := hw x hx; exact ⟨a, b, hs x a c'⟩
        · rw [List.mem_singleton.1 hx]; exact ⟨hq.1, hq.2, by rw [rd_set hq.1 (by omega) hq.1, if_pos rfl]; omega⟩) ⟨hc.1, hc.2.1, hs c hc.1 hc.2.2⟩ (by rw [List.length_append]; simp; omega) h)
      simp only [impl_Graph_lengths.l1]
      have e0 : rd (c :: qs) 0 = c := rfl
      rw [if_pos (by omega), if_pos (by omega), if_pos (by omega), if_pos hq.1, if_pos (by omega), if_pos hneg, if_pos (by rw [List.length_cons]; omega), e0, if_pos hc.1, if_pos (by omega), if_pos (by rw [List.length_cons]; omega), wrap_nat (by omega), wrap_id (by omega)]
      rfl
    · rw [if_neg hneg] at h
      refine Ev.step (fun k => ?_) (ih (i + 1) o qs (by omega) (by omega) hk hw hc hb h)
      simp only [impl_Graph_lengths.l1]
      rw [if_pos (by omega), if_pos (by omega), if_pos (by omega), if_pos hq.1, if_pos (by omega), if_neg hneg, wrap_nat (by omega)]
theorem lengths_l0 {g : List (List Int)} (hg : goodG g = true) : ∀ (f : Nat) (o qs : List Int), Known g.length o → Wait g.length o qs → qs.length + neg o ≤ f → f ≤ 8 → Ev (fun k => impl_Graph_lengths.l0 k o qs g) (bfs g f o qs) := by
  obtain ⟨⟨h1, h8⟩, hrows⟩ := good_iff hg
  intro f
  induction f with
  | zero =>
    intro o qs hk hw hb hf
    have : qs = [] := List.eq_nil_of_length_eq_zero (by omega)
    subst this
    refine Ev.const1 (fun k => ?_)
    simp only [impl_Graph_lengths.l0]
    rw [if_neg (by simp)]; rfl
  | succ f ih =>
    intro o qs hk hw hb hf
    cases qs with
    | nil =>
      refine Ev.const1 (fun k => ?_)
      simp only [impl_Graph_lengths.l0]
      rw [if_neg (by simp)]; rfl
    | cons c qs =>
      obtain ⟨hc0, hc1, hc2⟩ := hw c List.mem_cons_self
      have hrow := hrows (rd_L1 g c) (by rw [rdL_get hc0 hc1]; exact List.getElem_mem _)
      have hw' : Wait g.length o qs := fun x hx => hw x (List.mem_cons_of_mem _ hx)
      obtain ⟨k1, k2, k3⟩ := vis_keeps h8 c (rd_L1 g c) o qs hrow.2 hk hw' ⟨hc0, hc1, hc2⟩
      simp only [List.length_cons] at hb
      have := lengths_l1 h8 g c (rd_L1 g c) hrow.2 hrow.1 (bfs g (f + 1) o (c :: qs)) _ 0 o qs rfl (Nat.zero_le _) hk hw' ⟨hc0, hc1, hc2⟩ (by omega) (by
        rw [List.drop_zero]
        exact ih _ _ k1 k2 (by omega) (by omega))
      refine Ev.step (fun k => ?_) this
      simp only [impl_Graph_lengths.l0]
      have e0 : rd (c :: qs) 0 = c := rfl
      rw [if_pos (by rw [List.length_cons]; omega), if_pos (by rw [List.length_cons]; omega), e0, if_pos hc0, if_pos hc1]
      rfl
theorem neg_rep (n : Nat) : neg (List.replicate n (-1)) = n := by
  induction n with
  | zero => rfl
  | succ n ih => simp only [List.replicate_succ, neg, ih]; rw [if_pos (by omega)]; omega
theorem known0 {n : Nat} {p : Int} (h0 : 0 ≤ p) (h1 : p < (n : Int)) : Known n ((List.replicate n (-1)).set p.toNat 0) ∧ Wait n ((List.replicate n (-1)).set p.toNat 0) [p] ∧ [p].length + neg ((List.replicate n (-1)).set p.toNat 0) ≤ n := by
  have hk : Known n (List.replicate n (-1)) := ⟨by simp, fun x hx => by rw [(List.mem_replicate.1 hx).2]; omega, fun x hx => by rw [(List.mem_replicate.1 hx).2, neg_rep]; omega⟩
  have hr : rd (List.replicate n (-1)) p < 0 := by rw [rd_get h0 (by simpa using h1)]; simp
  obtain ⟨k1, k2⟩ := hk.set h0 h1 hr (v := 0) (by omega) (by rw [neg_rep]; omega)
  rw [neg_rep] at k2
  refine ⟨k1, fun x hx => ?_, by simp; omega⟩
  rw [List.mem_singleton.1 hx]
  exact ⟨h0, h1, by rw [rd_set h0 (by simpa using h1) h0, if_pos rfl]; omega⟩
theorem lengths {g : List (List Int)} {p : Int} (h : placeB g p = true) : Ev (fun k => impl_Graph_lengths.f k g p) (far g p) := by
  obtain ⟨hg, h0, h1⟩ := place_iff h
  obtain ⟨⟨hn1, hn8⟩, _⟩ := good_iff hg
  obtain ⟨k1, k2, k3⟩ := known0 h0 h1
  unfold impl_Graph_lengths.f
  have hR : slices_Repeat_int_int.f [-1] (g.length : Int) = some (List.replicate g.length (-1)) := by
    unfold slices_Repeat_int_int.f; rw [if_pos ⟨rfl, by omega, by omega⟩]; rfl
  exact Ev.bind0 hR (Ev.pos h0 (Ev.pos (by simpa using h1) (lengths_l0 hg g.length _ _ k1 k2 k3 hn8)))
theorem far_len {g : List (List Int)} {p : Int} (h : placeB g p = true) : Known g.length (far g p) := by
  obtain ⟨hg, h0, h1⟩ := place_iff h
  obtain ⟨⟨hn1, hn8⟩, hrows⟩ := good_iff hg
  obtain ⟨k1, k2, k3⟩ := known0 h0 h1
  have : ∀ (f : Nat) (o qs : List Int), Known g.length o → Wait g.length o qs → Known g.length (bfs g f o qs) := by
    intro f
    induction f with
    | zero => intro o qs hk hw; exact hk
    | succ f ih =>
      intro o qs hk hw
      cases qs with
      | nil => exact hk
      | cons c qs =>
        obtain ⟨hc0, hc1, hc2⟩ := hw c List.mem_cons_self
        have hrow := hrows (rd_L1 g c) (by rw [rdL_get hc0 hc1]; exact List.getElem_mem _)
        obtain ⟨k1, k2, k3⟩ := vis_keeps hn8 c (rd_L1 g c) o qs hrow.2 hk (fun x hx => hw x (List.mem_cons_of_mem _ hx)) ⟨hc0, hc1, hc2⟩
        exact ih _ _ k1 k2
  exact this _ _ _ k1 k2
/-! the reference's search -/
theorem far_l2 {n : Nat} (hn : n ≤ 8) (g : List (List Int)) (c : Int) (pre : List Int) (row : List Int) (hr : ∀ q ∈ row, 0 ≤ q ∧ q < (n : Int)) (hrl : row.length ≤ 5) (r : List Int) : ∀ (d i : Nat) (o qs : List Int), row.length - i = d → i ≤ row.length → Known n o → (0 ≤ c ∧ c < (n : Int) ∧ 0 ≤ rd o c) → pre.length + qs.length + neg o ≤ 8 →
    Ev (fun k => spec_grFar.l1 k (vis c (row.drop i) o qs).1 (pre ++ c :: (vis c (row.drop i) o qs).2) ((pre.length + 1 : Nat) : Int) g) r → Ev (fun k => spec_grFar.l2 k o (pre ++ c :: qs) (pre.length : Int) row row.length i g) r := by
  intro d
  induction d with
  | zero =>
    intro i o qs hd hi hk hc hb h
    rw [List.drop_of_length_le (by omega)] at h
    refine Ev.step (fun k => ?_) h
    simp only [spec_grFar.l2, vis]
    rw [if_neg (by omega), wrap_nat (by omega)]
  | succ d ih =>
    intro i o qs hd hi hk hc hb h
    have hlt : i < row.length := by omega
    have hq := hr (rd row i) (by rw [rd_at hlt]; exact List.getElem_mem _)
    have hl := hk.len
    rw [drop_rd hlt] at h
    simp only [vis] at h
    by_cases hneg : rd o (rd row i) < 0
    · rw [if_pos hneg] at h
      have hcc := hk.at hc.1 hc.2.1
      obtain ⟨hk', hn'⟩ := hk.set hq.1 hq.2 hneg (v := rd o c + 1) (by omega) (by omega)
      have hs : ∀ x, 0 ≤ x → 0 ≤ rd o x → 0 ≤ rd (o.set (rd row i).toNat (rd o c + 1)) x := fun x hx hx1 => by
        rw [rd_set hq.1 (by omega) hx]; split <;> omega
      refine Ev.step (fun k => ?_) (ih (i + 1) _ (qs ++ [rd row i]) (by omega) (by omega) hk' ⟨hc.1, hc.2.1, hs c hc.1 hc.2.2⟩ (by rw [List.length_append]; simp; omega) h)
      simp only [spec_grFar.l2]
      have e0 : rd (pre ++ c :: qs) (pre.length : Int) = c := by rw [rd_at (by simp)]; simp
      rw [if_pos (by omega), if_pos (by omega), if_pos (by omega), if_pos hq.1, if_pos (by omega), if_pos hneg, if_pos (by omega), if_pos (by simp; omega), e0, if_pos hc.1, if_pos (by omega), if_pos (by simp; omega), wrap_nat (by omega), wrap_id (by omega)]
      simp
    · rw [if_neg hneg] at h
      refine Ev.step (fun k => ?_) (ih (i + 1) o qs (by omega) (by omega) hk hc hb h)
      simp only [spec_grFar.l2]
      rw [if_pos (by omega), if_pos (by omega), if_pos (by omega), if_pos hq.1, if_pos (by omega), if_neg hneg, wrap_nat (by omega)]
theorem far_l1 {g : List (List Int)} (hg : goodG g = true) : ∀ (f : Nat) (o pre qs : List Int), Known g.length o → Wait g.length o qs → qs.length + neg o ≤ f → f ≤ 8 → pre.length + qs.length + neg o ≤ 8 → Ev (fun k => spec_grFar.l1 k o (pre ++ qs) (pre.length : Int) g) (bfs g f o qs) := by
  obtain ⟨⟨h1, h8⟩, hrows⟩ := good_iff hg
  intro f
  induction f with
  | zero =>
    intro o pre qs hk hw hb hf hp
    have : qs = [] := List.eq_nil_of_length_eq_zero (by omega)
    subst this
    refine Ev.const1 (fun k => ?_)
    simp only [spec_grFar.l1]
    rw [if_neg (by simp)]; rfl
  | succ f ih =>
    intro o pre qs hk hw hb hf hp
    cases qs with
    | nil =>
      refine Ev.const1 (fun k => ?_)
      simp only [spec_grFar.l1]
      rw [if_neg (by simp)]; rfl
    | cons c qs =>
      obtain ⟨hc0, hc1, hc2⟩ := hw c List.mem_cons_self
      have hrow := hrows (rd_L1 g c) (by rw [rdL_get hc0 hc1]; exact List.getElem_mem _)
      have hw' : Wait g.length o qs := fun x hx => hw x (List.mem_cons_of_mem _ hx)
      obtain ⟨k1, k2, k3⟩ := vis_keeps h8 c (rd_L1 g c) o qs hrow.2 hk hw' ⟨hc0, hc1, hc2⟩
      simp only [List.length_cons] at hb hp
      have := far_l2 h8 g c pre (rd_L1 g c) hrow.2 hrow.1 (bfs g (f + 1) o (c :: qs)) _ 0 o qs rfl (Nat.zero_le _) hk ⟨hc0, hc1, hc2⟩ (by omega) (by
        rw [List.drop_zero]
        have := ih (vis c (rd_L1 g c) o qs).1 (pre ++ [c]) (vis c (rd_L1 g c) o qs).2 k1 k2 (by omega) (by omega) (by simp; omega)
        simpa [bfs] using this)
      refine Ev.step (fun k => ?_) this
      simp only [spec_grFar.l1]
      have e0 : rd (pre ++ c :: qs) (pre.length : Int) = c := by rw [rd_at (by simp)]; simp
      rw [if_pos (by simp; omega), if_pos (by omega), e0, if_pos hc0, if_pos hc1]
      rfl
theorem far_l0 (g : List (List Int)) (p : Int) (n : Nat) (hn : n ≤ 8) (r : List Int) : ∀ (d i : Nat), n - i = d → i ≤ n → (0 ≤ p ∧ p < (n : Int)) → Ev (fun k => spec_grFar.l1 k ((List.replicate n (-1)).set p.toNat 0) [p] 0 g) r → Ev (fun k => spec_grFar.l0 k p (List.replicate i (-1) ++ List.replicate (n - i) 0) n i g) r := by
  intro d
  induction d with
  | zero =>
    intro i hd hi hp h
    have : i = n := by omega
    subst this
    refine Ev.step (fun k => ?_) h
    simp only [spec_grFar.l0]
    rw [if_neg (by omega), if_pos hp.1, if_pos (by simp; omega)]
    simp
  | succ d ih =>
    intro i hd hi hp h
    refine Ev.step (fun k => ?_) (ih (i + 1) (by omega) (by omega) hp h)
    simp only [spec_grFar.l0]
    rw [if_pos (by omega), if_pos (by omega), if_pos (by simp; omega), wrap_nat (by omega), Int.toNat_natCast]
    congr 1
    obtain ⟨m, hm⟩ : ∃ m, n - i = m + 1 := ⟨n - i - 1, by omega⟩
    rw [hm, show n - (i + 1) = m by omega, List.replicate_succ, List.replicate_succ', List.set_append_right _ _ (by simp)]
    simp
theorem grFar {g : List (List Int)} {p : Int} (h : placeB g p = true) : Ev (fun k => spec_grFar.f k g p) (far g p) := by
  obtain ⟨hg, h0, h1⟩ := place_iff h
  obtain ⟨⟨hn1, hn8⟩, _⟩ := good_iff hg
  obtain ⟨k1, k2, k3⟩ := known0 h0 h1
  unfold spec_grFar.f
  refine Ev.pos (by omega) (Ev.pos (by omega) (Ev.bind0 rfl ?_))
  have := far_l0 g p g.length hn8 (far g p) g.length 0 (by omega) (by omega) ⟨h0, h1⟩ (by
    have := far_l1 hg g.length _ [] [p] k1 k2 k3 hn8 (by simpa using by simp at k3; omega)
    exact this)
  simpa using this
end Go.Proofs.Ytnphoaecjeenjaa.M
namespace Go.Proofs.Ytnphoaecjeenjaa.P
open Go.RowKit Go.Proofs.YtnphoaecjeenjaaW.PrintWords Go.Proofs.YtnphoaecjeenjaaW.PrintLast Go.Proofs.YtnphoaecjeenjaaW.PrintMore
attribute [local go_sem] max2_int min2_int max_two min_two max_three min_three max_four min_four   -- for this text's walks alone
set_option linter.unusedVariables false
set_option linter.unusedSimpArgs false

/-! ### laws_szWalk: function 44 -/
def laws_szWalk.f (l0_0 : List Int) (a0_1 : Int) (a1 : Int) : Option (Int) := (laws_szIntS.f l0_0 a1).bind fun t584 => (if t584 < 0 then (some (-1)) else (some t584))
set_option maxHeartbeats 8000000 in
set_option maxRecDepth 100000 in
theorem laws_szWalk.calls (A0_0 : Option Addr) (c0_0 : Nat) (l0_0 : List Int) (a0_1 : Int) (a1 : Int) (r : Int) (w : World) (hr0_0 : Kd.C (Kd.int .i64) w A0_0 l0_0.length l0_0) (hc0_0 : l0_0.length ≤ c0_0) (h : laws_szWalk.f l0_0 a0_1 a1 = some r) :
    Calls Try.prog 44 #[.agg #[.slice A0_0 l0_0.length c0_0, .int .i64 a0_1], .int .i64 a1] w fun e w' => e = .returned (.int .i64 r) ∧ Below w.heap.size w w' := by
  have hu52 := Try.underlying52
  have HR0_0 := Aside0.mk hr0_0
  have HC0_0 := Aside0.mk hc0_0
  clear hr0_0 hc0_0
  have HB := Aside0.mk (Below.refl w.heap.size w)
  have H : ((laws_szIntS.f l0_0 a1).bind fun t584 => (if t584 < 0 then (some (-1)) else (some t584))) = some r := h
  clear h
  replace H := Option.bind_eq_some_iff.mp H
  obtain ⟨t584, A30, H⟩ := H
  replace H : (if t584 < 0 then (some (-1)) else (some t584)) = some r := H
  have A3 := Aside0.mk A30
  clear A30
  by_cases c4 : t584 < 0
  · rw [if_pos c4] at H
    have c4b0 : decide (t584 < 0) = true := decide_eq_true c4
    clear c4
    obtain rfl := Option.some.inj H
    go_enter Try.func44, Try.ntmps44
    go_wp2_with (first | ((with_reducible refine gate_dst (N := 2) rfl ?_); refine box_event ?hg (N := 2) ?hd (cs := #[.slice A0_0 l0_0.length c0_0, .int .i64 a0_1]) (t := 52) ?hr ?_; (case hd => rfl); (case hg => rfl); (case hr => first | (go_simp; done) | (go_simp; rfl)); intro gb583 hg w5 hbox hb; have n0_ := Aside0.mk (below_step (by repeat (first | (with_reducible first | exact HB.out | apply below_alloc | apply pw_below_drewN | apply below_drew1) | exact HB.out)) hb); have n1_ := Aside0.mk (hbox); have n2_ := Aside0.mk ((by rw [hg]; exact (below_size (by repeat (first | (with_reducible first | exact HB.out | apply below_alloc | apply pw_below_drewN | apply below_drew1) | exact HB.out))) : w.heap.size ≤ gb583)); have n3_ := Aside0.mk ((by rw [hg]; exact (below_size (by repeat (first | (with_reducible first | exact HB.out | apply below_alloc | apply pw_below_drewN | apply below_drew1) | exact HB.out))) : w.heap.size ≤ gb583)); clear HB; have HB := n0_; have BK583 := n1_; have GW583 := n2_; have GE583 := n3_; clear n0_ n1_ n2_ n3_; clear hb hbox hg; have hcz6_0 : w5.cell? ⟨gb583, 0, none⟩ = some (.slice A0_0 l0_0.length c0_0) := (blk_cell BK583.out 0).trans rfl; have hcz6_1 : w5.cell? ⟨gb583, 1, none⟩ = some (.int .i64 a0_1) := (blk_cell BK583.out 1).trans rfl; have hfz6_0 := blk_frozen BK583.out 0; have hfz6_1 := blk_frozen BK583.out 1) | ((with_reducible refine gate_callee (f := 82) rfl ?_); refine goesL_ (some 8) rfl rfl Try.func82 (by kernel_rfl) rfl #[.slice A0_0 l0_0.length c0_0, .int .i64 a1] rfl (by (try simp only [List.map_toArray, List.map_cons, List.map_nil]); first | done | rfl | (simp only [List.length_drop, List.length_take]; rfl)) ?_; (with_reducible refine (laws_szIntS.calls _ _ l0_0 a1 t584 _ ?side1 ?side2 A3.out).mono ?_); (case side1 => repeat (first | exact (Kd.C_below HR0_0.out HB.out) | (with_reducible refine Kd.C_alloc ?_ _) | (with_reducible refine Kd.C_drewN ?_ _) | (with_reducible refine Kd.C_drew ?_))); (case side2 => exact HC0_0.out); rintro e w' ⟨rfl, ⟨nd, rfl⟩⟩; refine ⟨_, rfl, ?_⟩))
    go_ret
    exact ⟨by first | rfl | (simp [errW_none, errW_some] <;> rfl) | (simp [*, errW_none, errW_some] <;> rfl), by repeat (first | (with_reducible first | exact HB.out | apply below_alloc | apply pw_below_drewN | apply below_drew1 | refine below_set ?_ GE583.out) | exact HB.out)⟩
  · rw [if_neg c4] at H
    have c4b0 : decide (t584 < 0) = false := decide_eq_false c4
    clear c4
    obtain rfl := Option.some.inj H
    go_enter Try.func44, Try.ntmps44
    go_wp2_with (first | ((with_reducible refine gate_dst (N := 2) rfl ?_); refine box_event ?hg (N := 2) ?hd (cs := #[.slice A0_0 l0_0.length c0_0, .int .i64 a0_1]) (t := 52) ?hr ?_; (case hd => rfl); (case hg => rfl); (case hr => first | (go_simp; done) | (go_simp; rfl)); intro gb583 hg w7 hbox hb; have n0_ := Aside0.mk (below_step (by repeat (first | (with_reducible first | exact HB.out | apply below_alloc | apply pw_below_drewN | apply below_drew1) | exact HB.out)) hb); have n1_ := Aside0.mk (hbox); have n2_ := Aside0.mk ((by rw [hg]; exact (below_size (by repeat (first | (with_reducible first | exact HB.out | apply below_alloc | apply pw_below_drewN | apply below_drew1) | exact HB.out))) : w.heap.size ≤ gb583)); have n3_ := Aside0.mk ((by rw [hg]; exact (below_size (by repeat (first | (with_reducible first | exact HB.out | apply below_alloc | apply pw_below_drewN | apply below_drew1) | exact HB.out))) : w.heap.size ≤ gb583)); clear HB; have HB := n0_; have BK583 := n1_; have GW583 := n2_; have GE583 := n3_; clear n0_ n1_ n2_ n3_; clear hb hbox hg; have hcz8_0 : w7.cell? ⟨gb583, 0, none⟩ = some (.slice A0_0 l0_0.length c0_0) := (blk_cell BK583.out 0).trans rfl; have hcz8_1 : w7.cell? ⟨gb583, 1, none⟩ = some (.int .i64 a0_1) := (blk_cell BK583.out 1).trans rfl; have hfz8_0 := blk_frozen BK583.out 0; have hfz8_1 := blk_frozen BK583.out 1) | ((with_reducible refine gate_callee (f := 82) rfl ?_); refine goesL_ (some 8) rfl rfl Try.func82 (by kernel_rfl) rfl #[.slice A0_0 l0_0.length c0_0, .int .i64 a1] rfl (by (try simp only [List.map_toArray, List.map_cons, List.map_nil]); first | done | rfl | (simp only [List.length_drop, List.length_take]; rfl)) ?_; (with_reducible refine (laws_szIntS.calls _ _ l0_0 a1 t584 _ ?side1 ?side2 A3.out).mono ?_); (case side1 => repeat (first | exact (Kd.C_below HR0_0.out HB.out) | (with_reducible refine Kd.C_alloc ?_ _) | (with_reducible refine Kd.C_drewN ?_ _) | (with_reducible refine Kd.C_drew ?_))); (case side2 => exact HC0_0.out); rintro e w' ⟨rfl, ⟨nd, rfl⟩⟩; refine ⟨_, rfl, ?_⟩))
    go_ret
    exact ⟨by first | rfl | (simp [errW_none, errW_some] <;> rfl) | (simp [*, errW_none, errW_some] <;> rfl), by repeat (first | (with_reducible first | exact HB.out | apply below_alloc | apply pw_below_drewN | apply below_drew1 | refine below_set ?_ GE583.out) | exact HB.out)⟩

end Go.Proofs.Ytnphoaecjeenjaa.P
namespace Go.Proofs.Ytnphoaecjeenjaa.P
open Go.RowKit Go.Proofs.YtnphoaecjeenjaaW.PrintWords Go.Proofs.YtnphoaecjeenjaaW.PrintLast Go.Proofs.YtnphoaecjeenjaaW.PrintMore
attribute [local go_sem] max2_int min2_int max_two min_two max_three min_three max_four min_four   -- for this text's walks alone
set_option linter.unusedVariables false
set_option linter.unusedSimpArgs false

/-! ### laws_toWalk: function 46 -/
def laws_toWalk.f (k : Nat) (l0_0 : List Int) (a0_1 : Int) : Option (List Int × Int) := (laws_toIntS.f k l0_0).bind fun t588 => (some (t588, a0_1))
theorem laws_toWalk.mono : ∀ a0 a1 k, LeO (laws_toWalk.f k a0 a1) (laws_toWalk.f (k + 1) a0 a1) := by
  intro a0 a1 k
  unfold laws_toWalk.f
  repeat' first
      | (with_reducible exact laws_toIntS.mono _ _)
      | (with_reducible exact LeO.refl _)
      | (with_reducible exact LeO.none _)
      | (with_reducible refine LeO.ite ?_ ?_)
      | (with_reducible refine LeO.bind ?_ (fun _ => ?_))
      | exact laws_toIntS.mono _ _
      | exact LeO.none _
      | refine LeO.ite ?_ ?_
      | refine LeO.bind ?_ (fun _ => ?_)
set_option maxHeartbeats 8000000 in
set_option maxRecDepth 100000 in
theorem laws_toWalk.calls (k : Nat) (A0_0 : Option Addr) (c0_0 : Nat) (l0_0 : List Int) (a0_1 : Int) (r1 : List Int) (r2 : Int) (w : World) (hr0_0 : Kd.C (Kd.int .i64) w A0_0 l0_0.length l0_0) (hc0_0 : l0_0.length ≤ c0_0) (h : laws_toWalk.f k l0_0 a0_1 = some (r1, r2)) :
    Calls Try.prog 46 #[.agg #[.slice A0_0 l0_0.length c0_0, .int .i64 a0_1]] w fun e w' => ∃ v0_ : Value, e = .returned (.agg #[v0_, .int .i64 r2]) ∧ Kd.R (Kd.int .i64) 3 w' w.heap.size (fun _ => True) v0_ r1 ∧ Below w.heap.size w w' := by
  have hu52 := Try.underlying52
  have hu55 := Try.underlying55
  have HR0_0 := Aside0.mk hr0_0
  have HC0_0 := Aside0.mk hc0_0
  clear hr0_0 hc0_0
  have HB := Aside0.mk (Below.refl w.heap.size w)
  have H : ((laws_toIntS.f k l0_0).bind fun t588 => (some (t588, a0_1))) = some (r1, r2) := h
  clear h
  replace H := Option.bind_eq_some_iff.mp H
  obtain ⟨t588, A20, H⟩ := H
  replace H : (some (t588, a0_1)) = some (r1, r2) := H
  have A2 := Aside0.mk A20
  clear A20
  simp only [Option.some.injEq, Prod.mk.injEq] at H
  obtain ⟨rfl, rfl⟩ := H
  go_enter Try.func46, Try.ntmps46
  go_wp2_with (first | ((with_reducible refine gate_dst (N := 1) rfl ?_); refine box_event ?hg (N := 1) ?hd (cs := #[.slice A0_0 l0_0.length c0_0, .int .i64 a0_1]) (t := 52) ?hr ?_; (case hd => rfl); (case hg => rfl); (case hr => first | (go_simp; done) | (go_simp; rfl)); intro gb585 hg w3 hbox hb; have n0_ := Aside0.mk (below_step (by repeat (first | (with_reducible first | exact HB.out | apply below_alloc | apply pw_below_drewN | apply below_drew1) | exact HB.out)) hb); have n1_ := Aside0.mk (hbox); have n2_ := Aside0.mk ((by rw [hg]; exact (below_size (by repeat (first | (with_reducible first | exact HB.out | apply below_alloc | apply pw_below_drewN | apply below_drew1) | exact HB.out))) : w.heap.size ≤ gb585)); have n3_ := Aside0.mk ((by rw [hg]; exact (below_size (by repeat (first | (with_reducible first | exact HB.out | apply below_alloc | apply pw_below_drewN | apply below_drew1) | exact HB.out))) : w.heap.size ≤ gb585)); clear HB; have HB := n0_; have BK585 := n1_; have GW585 := n2_; have GE585 := n3_; clear n0_ n1_ n2_ n3_; clear hb hbox hg) | ((with_reducible refine gate_dst (N := 2) rfl ?_); refine box_event ?hg (N := 2) ?hd (cs := #[.slice none 0 0, .int .i64 0]) (t := 55) ?hr ?_; (case hd => rfl); (case hg => rfl); (case hr => first | (go_simp; done) | (go_simp; rfl)); intro gb586 hg w4 hbox hb; have n0_ := Aside0.mk (blk_below (g := gb585) (o := .cells #[.slice A0_0 l0_0.length c0_0, .int .i64 a0_1] 52 (0, 0)) (by (with_reducible repeat (first | refine blk_drewN ?_ _ | refine blk_drew ?_ | refine blk_alloc ?_ _)); exact BK585.out) hb); have n1_ := Aside0.mk (below_step (by repeat (first | (with_reducible first | exact HB.out | apply below_alloc | apply pw_below_drewN | apply below_drew1 | refine below_set ?_ GE585.out) | exact HB.out)) hb); have n2_ := Aside0.mk (hbox); have n3_ := Aside0.mk ((by rw [hg]; exact (below_size (by repeat (first | (with_reducible first | exact HB.out | apply below_alloc | apply pw_below_drewN | apply below_drew1 | refine below_set ?_ GE585.out) | exact HB.out))) : w.heap.size ≤ gb586)); have n4_ := Aside0.mk ((by rw [hg]; exact (below_size (by repeat (first | (with_reducible first | exact HB.out | apply below_alloc | apply pw_below_drewN | apply below_drew1 | refine below_set ?_ GE585.out) | exact HB.out))) : w.heap.size ≤ gb586)); have n5_ := Aside0.mk ((by rw [hg]; exact Nat.ne_of_lt (blk_lt (g := gb585) (o := .cells #[.slice A0_0 l0_0.length c0_0, .int .i64 a0_1] 52 (0, 0)) (by (with_reducible repeat (first | refine blk_drewN ?_ _ | refine blk_drew ?_ | refine blk_alloc ?_ _)); exact BK585.out)) : gb585 ≠ gb586)); have n6_ := Aside0.mk ((by rw [hg]; exact Nat.ne_of_gt (blk_lt (g := gb585) (o := .cells #[.slice A0_0 l0_0.length c0_0, .int .i64 a0_1] 52 (0, 0)) (by (with_reducible repeat (first | refine blk_drewN ?_ _ | refine blk_drew ?_ | refine blk_alloc ?_ _)); exact BK585.out)) : gb586 ≠ gb585)); clear BK585; clear HB; have BK585 := n0_; have HB := n1_; have BK586 := n2_; have GW586 := n3_; have GE586 := n4_; have NB585_586 := n5_; have NB586_585 := n6_; clear n0_ n1_ n2_ n3_ n4_ n5_ n6_; clear hb hbox hg) | ((with_reducible refine gate_dst (N := 3) rfl ?_); refine box_event ?hg (N := 3) ?hd (cs := #[.slice none 0 0, .int .i64 0]) (t := 55) ?hr ?_; (case hd => rfl); (case hg => rfl); (case hr => first | (go_simp; done) | (go_simp; rfl)); intro gb587 hg w5 hbox hb; have n0_ := Aside0.mk (blk_below (g := gb585) (o := .cells #[.slice A0_0 l0_0.length c0_0, .int .i64 a0_1] 52 (0, 0)) (by (with_reducible repeat (first | refine blk_drewN ?_ _ | refine blk_drew ?_ | refine blk_alloc ?_ _)); exact BK585.out) hb); have n1_ := Aside0.mk (blk_below (g := gb586) (o := .cells #[.slice none 0 0, .int .i64 0] 55 (0, 0)) (by (with_reducible repeat (first | refine blk_drewN ?_ _ | refine blk_drew ?_ | refine blk_alloc ?_ _)); exact BK586.out) hb); have n2_ := Aside0.mk (below_step (by repeat (first | (with_reducible first | exact HB.out | apply below_alloc | apply pw_below_drewN | apply below_drew1 | refine below_set ?_ GE585.out | refine below_set ?_ GE586.out) | exact HB.out)) hb); have n3_ := Aside0.mk (hbox); have n4_ := Aside0.mk ((by rw [hg]; exact (below_size (by repeat (first | (with_reducible first | exact HB.out | apply below_alloc | apply pw_below_drewN | apply below_drew1 | refine below_set ?_ GE585.out | refine below_set ?_ GE586.out) | exact HB.out))) : w.heap.size ≤ gb587)); have n5_ := Aside0.mk ((by rw [hg]; exact (below_size (by repeat (first | (with_reducible first | exact HB.out | apply below_alloc | apply pw_below_drewN | apply below_drew1 | refine below_set ?_ GE585.out | refine below_set ?_ GE586.out) | exact HB.out))) : w.heap.size ≤ gb587)); have n6_ := Aside0.mk ((by rw [hg]; exact Nat.ne_of_lt (blk_lt (g := gb585) (o := .cells #[.slice A0_0 l0_0.length c0_0, .int .i64 a0_1] 52 (0, 0)) (by (with_reducible repeat (first | refine blk_drewN ?_ _ | refine blk_drew ?_ | refine blk_alloc ?_ _)); exact BK585.out)) : gb585 ≠ gb587)); have n7_ := Aside0.mk ((by rw [hg]; exact Nat.ne_of_gt (blk_lt (g := gb585) (o := .cells #[.slice A0_0 l0_0.length c0_0, .int .i64 a0_1] 52 (0, 0)) (by (with_reducible repeat (first | refine blk_drewN ?_ _ | refine blk_drew ?_ | refine blk_alloc ?_ _)); exact BK585.out)) : gb587 ≠ gb585)); have n8_ := Aside0.mk ((by rw [hg]; exact Nat.ne_of_lt (blk_lt (g := gb586) (o := .cells #[.slice none 0 0, .int .i64 0] 55 (0, 0)) (by (with_reducible repeat (first | refine blk_drewN ?_ _ | refine blk_drew ?_ | refine blk_alloc ?_ _)); exact BK586.out)) : gb586 ≠ gb587)); have n9_ := Aside0.mk ((by rw [hg]; exact Nat.ne_of_gt (blk_lt (g := gb586) (o := .cells #[.slice none 0 0, .int .i64 0] 55 (0, 0)) (by (with_reducible repeat (first | refine blk_drewN ?_ _ | refine blk_drew ?_ | refine blk_alloc ?_ _)); exact BK586.out)) : gb587 ≠ gb586)); clear BK585; clear BK586; clear HB; have BK585 := n0_; have BK586 := n1_; have HB := n2_; have BK587 := n3_; have GW587 := n4_; have GE587 := n5_; have NB585_587 := n6_; have NB587_585 := n7_; have NB586_587 := n8_; have NB587_586 := n9_; clear n0_ n1_ n2_ n3_ n4_ n5_ n6_ n7_ n8_ n9_; clear hb hbox hg; have hnb6 := NB585_586.out; have hnc6 := NB586_585.out; have hnb7 := NB585_587.out; have hnc7 := NB587_585.out; have hcz8_0 : w5.cell? ⟨gb585, 0, none⟩ = some (.slice A0_0 l0_0.length c0_0) := (blk_cell BK585.out 0).trans rfl; have hcz8_1 : w5.cell? ⟨gb585, 1, none⟩ = some (.int .i64 a0_1) := (blk_cell BK585.out 1).trans rfl; have hfz8_0 := blk_frozen BK585.out 0; have hfz8_1 := blk_frozen BK585.out 1) | ((with_reducible refine gate_callee (f := 25) rfl ?_); refine goesL_ (some 6) rfl rfl Try.func25 (by kernel_rfl) rfl #[.slice A0_0 l0_0.length c0_0] rfl (by (try simp only [List.map_toArray, List.map_cons, List.map_nil]); first | done | rfl | (simp only [List.length_drop, List.length_take]; rfl)) ?_; (with_reducible refine (laws_toIntS.calls k _ _ l0_0 t588 _ ?side1 ?side2 A2.out).mono ?_); (case side1 => repeat (first | exact (Kd.C_below HR0_0.out HB.out) | (with_reducible refine Kd.C_alloc ?_ _) | (with_reducible refine Kd.C_drewN ?_ _) | (with_reducible refine Kd.C_drew ?_))); (case side2 => exact HC0_0.out); rintro e w9 ⟨v589, rfl, ho0, hb⟩; refine ⟨_, rfl, ?_⟩; have n0_ := Aside0.mk (Kd.R_lower ho0 (below_size (by repeat (first | (with_reducible first | exact HB.out | apply below_alloc | apply pw_below_drewN | apply below_drew1 | refine below_set ?_ GE585.out | refine below_set ?_ GE586.out | refine below_set ?_ GE587.out) | exact HB.out)))); have n1_ := Aside0.mk (blk_below (g := gb585) (o := .cells #[.slice A0_0 l0_0.length c0_0, .int .i64 a0_1] 52 (0, 0)) (by (with_reducible repeat (first | refine blk_drewN ?_ _ | refine blk_drew ?_ | refine blk_alloc ?_ _)); exact BK585.out) hb); have n2_ := Aside0.mk (blk_below (g := gb586) (o := .cells #[.slice none 0 0, .int .i64 0] 55 (0, 0)) (by (with_reducible repeat (first | refine blk_drewN ?_ _ | refine blk_drew ?_ | refine blk_alloc ?_ _)); exact BK586.out) hb); have n3_ := Aside0.mk (blk_below (g := gb587) (o := .cells #[.slice none 0 0, .int .i64 0] 55 (0, 0)) (by (with_reducible repeat (first | refine blk_drewN ?_ _ | refine blk_drew ?_ | refine blk_alloc ?_ _)); exact BK587.out) hb); have n4_ := Aside0.mk (below_step (by repeat (first | (with_reducible first | exact HB.out | apply below_alloc | apply pw_below_drewN | apply below_drew1 | refine below_set ?_ GE585.out | refine below_set ?_ GE586.out | refine below_set ?_ GE587.out) | exact HB.out)) hb); clear BK585; clear BK586; clear BK587; clear HB; have HO590 := n0_; have BK585 := n1_; have BK586 := n2_; have BK587 := n3_; have HB := n4_; clear n0_ n1_ n2_ n3_ n4_; (try clear hb); (try clear hb2); (try clear hk); (try clear hi); (try clear ho0); obtain ⟨Ao10, co10, eo10⟩ := Kd.R_slice HO590.out; subst eo10; have hnb11 := NB587_586.out; have hnc11 := NB586_587.out; have hcz12_0 : w9.cell? ⟨gb587, 0, none⟩ = some (.slice none 0 0) := (blk_cell BK587.out 0).trans rfl; have hcz12_1 : w9.cell? ⟨gb587, 1, none⟩ = some (.int .i64 0) := (blk_cell BK587.out 1).trans rfl; have hfz12_0 := blk_frozen BK587.out 0; have hfz12_1 := blk_frozen BK587.out 1; have hcz13_0 : w9.cell? ⟨gb585, 0, none⟩ = some (.slice A0_0 l0_0.length c0_0) := (blk_cell BK585.out 0).trans rfl; have hcz13_1 : w9.cell? ⟨gb585, 1, none⟩ = some (.int .i64 a0_1) := (blk_cell BK585.out 1).trans rfl; have hfz13_0 := blk_frozen BK585.out 0; have hfz13_1 := blk_frozen BK585.out 1; have hcz14_0 : w9.cell? ⟨gb586, 0, none⟩ = some (.slice none 0 0) := (blk_cell BK586.out 0).trans rfl; have hcz14_1 : w9.cell? ⟨gb586, 1, none⟩ = some (.int .i64 0) := (blk_cell BK586.out 1).trans rfl; have hfz14_0 := blk_frozen BK586.out 0; have hfz14_1 := blk_frozen BK586.out 1))
  refine bodyPost_ret (results_cell_row rfl _ _ gb586 55 #[.slice Ao10 t588.length co10, .int .i64 a0_1] (0, 0) _ rfl (by (with_reducible repeat (first | refine blk_drewN ?_ _ | refine blk_drew ?_ | refine blk_alloc ?_ _)); refine blk_put (cs := #[.slice Ao10 t588.length co10, .int .i64 0]) ?_ 1 _ rfl; (with_reducible repeat (first | refine blk_drewN ?_ _ | refine blk_drew ?_ | refine blk_alloc ?_ _)); refine blk_put (cs := #[.slice none 0 0, .int .i64 0]) ?_ 0 _ rfl; (with_reducible repeat (first | refine blk_drewN ?_ _ | refine blk_drew ?_ | refine blk_alloc ?_ _)); refine blk_far ?_ NB586_587.out _; (with_reducible repeat (first | refine blk_drewN ?_ _ | refine blk_drew ?_ | refine blk_alloc ?_ _)); refine blk_far ?_ NB586_587.out _; (with_reducible repeat (first | refine blk_drewN ?_ _ | refine blk_drew ?_ | refine blk_alloc ?_ _)); exact BK586.out) Try.underlying55 rfl (by kernel_rfl)) rfl ?_
  exact ⟨_, by first | rfl | (simp [errW_none, errW_some] <;> rfl) | (simp [*, errW_none, errW_some] <;> rfl), by (with_reducible repeat (first | apply Kd.R_alloc | apply Kd.R_drewN | apply Kd.R_drew)); exact Kd.R_mono (Kd.R_far (p := ⟨gb586, 1, none⟩) (Kd.R_far (p := ⟨gb586, 0, none⟩) (Kd.R_far (p := ⟨gb587, 1, none⟩) (Kd.R_far (p := ⟨gb587, 0, none⟩) (Kd.R_types (Kd.R_types HO590.out BK587.out (by decide)) BK586.out (by decide)) (fun _ hk => hk.1.2) (.slice Ao10 t588.length co10)) (fun _ hk => hk.1.2) (.int .i64 a0_1)) (fun _ hk => hk.2) (.slice Ao10 t588.length co10)) (fun _ hk => hk.2) (.int .i64 a0_1)) (fun _ hk => trivial), by repeat (first | (with_reducible first | exact HB.out | apply below_alloc | apply pw_below_drewN | apply below_drew1 | refine below_set ?_ GE585.out | refine below_set ?_ GE586.out | refine below_set ?_ GE587.out) | exact HB.out)⟩

end Go.Proofs.Ytnphoaecjeenjaa.P
namespace Go.Proofs.Ytnphoaecjeenjaa.P
open Go.RowKit Go.Proofs.YtnphoaecjeenjaaW.PrintWords Go.Proofs.YtnphoaecjeenjaaW.PrintLast Go.Proofs.YtnphoaecjeenjaaW.PrintMore
attribute [local go_sem] max2_int min2_int max_two min_two max_three min_three max_four min_four   -- for this text's walks alone
set_option linter.unusedVariables false
set_option linter.unusedSimpArgs false

/-! ### laws_eqWalk: function 48 -/
def laws_eqWalk.f (k : Nat) (l0_0 : List Int) (a0_1 : Int) (l1_0 : List Int) (a1_1 : Int) : Option (Bool) := (laws_eqIntS.f k l0_0 l1_0).bind fun t593 => (if t593 = true then (if a0_1 = a1_1 then (some true) else (some false)) else (some false))
theorem laws_eqWalk.mono : ∀ a0 a1 a2 a3 k, LeO (laws_eqWalk.f k a0 a1 a2 a3) (laws_eqWalk.f (k + 1) a0 a1 a2 a3) := by
  intro a0 a1 a2 a3 k
  unfold laws_eqWalk.f
  repeat' first
      | (with_reducible exact laws_eqIntS.mono _ _ _)
      | (with_reducible exact LeO.refl _)
      | (with_reducible exact LeO.none _)
      | (with_reducible refine LeO.ite ?_ ?_)
      | (with_reducible refine LeO.bind ?_ (fun _ => ?_))
      | exact laws_eqIntS.mono _ _ _
      | exact LeO.none _
      | refine LeO.ite ?_ ?_
      | refine LeO.bind ?_ (fun _ => ?_)
set_option maxHeartbeats 8000000 in
set_option maxRecDepth 100000 in
theorem laws_eqWalk.calls (k : Nat) (A0_0 : Option Addr) (c0_0 : Nat) (l0_0 : List Int) (a0_1 : Int) (A1_0 : Option Addr) (c1_0 : Nat) (l1_0 : List Int) (a1_1 : Int) (r : Bool) (w : World) (hr0_0 : Kd.C (Kd.int .i64) w A0_0 l0_0.length l0_0) (hc0_0 : l0_0.length ≤ c0_0) (hr1_0 : Kd.C (Kd.int .i64) w A1_0 l1_0.length l1_0) (hc1_0 : l1_0.length ≤ c1_0) (h : laws_eqWalk.f k l0_0 a0_1 l1_0 a1_1 = some r) :
    Calls Try.prog 48 #[.agg #[.slice A0_0 l0_0.length c0_0, .int .i64 a0_1], .agg #[.slice A1_0 l1_0.length c1_0, .int .i64 a1_1]] w fun e w' => e = .returned (.bool r) ∧ Below w.heap.size w w' := by
  have hu55 := Try.underlying55
  have HR0_0 := Aside0.mk hr0_0
  have HC0_0 := Aside0.mk hc0_0
  clear hr0_0 hc0_0
  have HR1_0 := Aside0.mk hr1_0
  have HC1_0 := Aside0.mk hc1_0
  clear hr1_0 hc1_0
  have HB := Aside0.mk (Below.refl w.heap.size w)
  have H : ((laws_eqIntS.f k l0_0 l1_0).bind fun t593 => (if t593 = true then (if a0_1 = a1_1 then (some true) else (some false)) else (some false))) = some r := h
  clear h
  replace H := Option.bind_eq_some_iff.mp H
  obtain ⟨t593, A30, H⟩ := H
  replace H : (if t593 = true then (if a0_1 = a1_1 then (some true) else (some false)) else (some false)) = some r := H
  have A3 := Aside0.mk A30
  clear A30
  by_cases c4 : t593 = true
  · subst c4
    have H1 : (if a0_1 = a1_1 then (some true) else (some false)) = some r := by rw [if_pos rfl] at H; exact H
    clear H
    have H := H1
    clear H1
    by_cases c5 : a0_1 = a1_1
    · rw [if_pos c5] at H
      have c5b0 : (a0_1 == a1_1) = true := beq_iff_eq.mpr c5
      have c5b1 : (a0_1 != a1_1) = false := bne_eq_false_iff_eq.mpr c5
      clear c5
      obtain rfl := Option.some.inj H
      go_enter Try.func48, Try.ntmps48
      go_wp2_with (first | ((with_reducible refine gate_dst (N := 2) rfl ?_); refine box_event ?hg (N := 2) ?hd (cs := #[.slice A0_0 l0_0.length c0_0, .int .i64 a0_1]) (t := 55) ?hr ?_; (case hd => rfl); (case hg => rfl); (case hr => first | (go_simp; done) | (go_simp; rfl)); intro gb591 hg w6 hbox hb; have n0_ := Aside0.mk (below_step (by repeat (first | (with_reducible first | exact HB.out | apply below_alloc | apply pw_below_drewN | apply below_drew1) | exact HB.out)) hb); have n1_ := Aside0.mk (hbox); have n2_ := Aside0.mk ((by rw [hg]; exact (below_size (by repeat (first | (with_reducible first | exact HB.out | apply below_alloc | apply pw_below_drewN | apply below_drew1) | exact HB.out))) : w.heap.size ≤ gb591)); have n3_ := Aside0.mk ((by rw [hg]; exact (below_size (by repeat (first | (with_reducible first | exact HB.out | apply below_alloc | apply pw_below_drewN | apply below_drew1) | exact HB.out))) : w.heap.size ≤ gb591)); clear HB; have HB := n0_; have BK591 := n1_; have GW591 := n2_; have GE591 := n3_; clear n0_ n1_ n2_ n3_; clear hb hbox hg) | ((with_reducible refine gate_dst (N := 3) rfl ?_); refine box_event ?hg (N := 3) ?hd (cs := #[.slice A1_0 l1_0.length c1_0, .int .i64 a1_1]) (t := 55) ?hr ?_; (case hd => rfl); (case hg => rfl); (case hr => first | (go_simp; done) | (go_simp; rfl)); intro gb592 hg w7 hbox hb; have n0_ := Aside0.mk (blk_below (g := gb591) (o := .cells #[.slice A0_0 l0_0.length c0_0, .int .i64 a0_1] 55 (0, 0)) (by (with_reducible repeat (first | refine blk_drewN ?_ _ | refine blk_drew ?_ | refine blk_alloc ?_ _)); exact BK591.out) hb); have n1_ := Aside0.mk (below_step (by repeat (first | (with_reducible first | exact HB.out | apply below_alloc | apply pw_below_drewN | apply below_drew1 | refine below_set ?_ GE591.out) | exact HB.out)) hb); have n2_ := Aside0.mk (hbox); have n3_ := Aside0.mk ((by rw [hg]; exact (below_size (by repeat (first | (with_reducible first | exact HB.out | apply below_alloc | apply pw_below_drewN | apply below_drew1 | refine below_set ?_ GE591.out) | exact HB.out))) : w.heap.size ≤ gb592)); have n4_ := Aside0.mk ((by rw [hg]; exact (below_size (by repeat (first | (with_reducible first | exact HB.out | apply below_alloc | apply pw_below_drewN | apply below_drew1 | refine below_set ?_ GE591.out) | exact HB.out))) : w.heap.size ≤ gb592)); have n5_ := Aside0.mk ((by rw [hg]; exact Nat.ne_of_lt (blk_lt (g := gb591) (o := .cells #[.slice A0_0 l0_0.length c0_0, .int .i64 a0_1] 55 (0, 0)) (by (with_reducible repeat (first | refine blk_drewN ?_ _ | refine blk_drew ?_ | refine blk_alloc ?_ _)); exact BK591.out)) : gb591 ≠ gb592)); have n6_ := Aside0.mk ((by rw [hg]; exact Nat.ne_of_gt (blk_lt (g := gb591) (o := .cells #[.slice A0_0 l0_0.length c0_0, .int .i64 a0_1] 55 (0, 0)) (by (with_reducible repeat (first | refine blk_drewN ?_ _ | refine blk_drew ?_ | refine blk_alloc ?_ _)); exact BK591.out)) : gb592 ≠ gb591)); clear BK591; clear HB; have BK591 := n0_; have HB := n1_; have BK592 := n2_; have GW592 := n3_; have GE592 := n4_; have NB591_592 := n5_; have NB592_591 := n6_; clear n0_ n1_ n2_ n3_ n4_ n5_ n6_; clear hb hbox hg; have hnb8 := NB591_592.out; have hnc8 := NB592_591.out; have hcz9_0 : w7.cell? ⟨gb591, 0, none⟩ = some (.slice A0_0 l0_0.length c0_0) := (blk_cell BK591.out 0).trans rfl; have hcz9_1 : w7.cell? ⟨gb591, 1, none⟩ = some (.int .i64 a0_1) := (blk_cell BK591.out 1).trans rfl; have hfz9_0 := blk_frozen BK591.out 0; have hfz9_1 := blk_frozen BK591.out 1; have hcz10_0 : w7.cell? ⟨gb592, 0, none⟩ = some (.slice A1_0 l1_0.length c1_0) := (blk_cell BK592.out 0).trans rfl; have hcz10_1 : w7.cell? ⟨gb592, 1, none⟩ = some (.int .i64 a1_1) := (blk_cell BK592.out 1).trans rfl; have hfz10_0 := blk_frozen BK592.out 0; have hfz10_1 := blk_frozen BK592.out 1) | ((with_reducible refine gate_callee (f := 27) rfl ?_); refine goesL_ (some 9) rfl rfl Try.func27 (by kernel_rfl) rfl #[.slice A0_0 l0_0.length c0_0, .slice A1_0 l1_0.length c1_0] rfl (by (try simp only [List.map_toArray, List.map_cons, List.map_nil]); first | done | rfl | (simp only [List.length_drop, List.length_take]; rfl)) ?_; (with_reducible refine (laws_eqIntS.calls k _ _ l0_0 _ _ l1_0 true _ ?side1 ?side2 ?side3 ?side4 A3.out).mono ?_); (case side1 => repeat (first | exact (Kd.C_below HR0_0.out HB.out) | (with_reducible refine Kd.C_alloc ?_ _) | (with_reducible refine Kd.C_drewN ?_ _) | (with_reducible refine Kd.C_drew ?_))); (case side2 => exact HC0_0.out); (case side3 => repeat (first | exact (Kd.C_below HR1_0.out HB.out) | (with_reducible refine Kd.C_alloc ?_ _) | (with_reducible refine Kd.C_drewN ?_ _) | (with_reducible refine Kd.C_drew ?_))); (case side4 => exact HC1_0.out); rintro e w' ⟨rfl, ⟨nd, rfl⟩⟩; refine ⟨_, rfl, ?_⟩))
      go_ret
      exact ⟨by first | rfl | (simp [errW_none, errW_some] <;> rfl) | (simp [*, errW_none, errW_some] <;> rfl), by repeat (first | (with_reducible first | exact HB.out | apply below_alloc | apply pw_below_drewN | apply below_drew1 | refine below_set ?_ GE591.out | refine below_set ?_ GE592.out) | exact HB.out)⟩
    · rw [if_neg c5] at H
      have c5b0 : (a0_1 == a1_1) = false := beq_eq_false_iff_ne.mpr c5
      have c5b1 : (a0_1 != a1_1) = true := bne_iff_ne.mpr c5
      obtain rfl := Option.some.inj H
      go_enter Try.func48, Try.ntmps48
      go_wp2_with (first | ((with_reducible refine gate_dst (N := 2) rfl ?_); refine box_event ?hg (N := 2) ?hd (cs := #[.slice A0_0 l0_0.length c0_0, .int .i64 a0_1]) (t := 55) ?hr ?_; (case hd => rfl); (case hg => rfl); (case hr => first | (go_simp; done) | (go_simp; rfl)); intro gb591 hg w11 hbox hb; have n0_ := Aside0.mk (below_step (by repeat (first | (with_reducible first | exact HB.out | apply below_alloc | apply pw_below_drewN | apply below_drew1) | exact HB.out)) hb); have n1_ := Aside0.mk (hbox); have n2_ := Aside0.mk ((by rw [hg]; exact (below_size (by repeat (first | (with_reducible first | exact HB.out | apply below_alloc | apply pw_below_drewN | apply below_drew1) | exact HB.out))) : w.heap.size ≤ gb591)); have n3_ := Aside0.mk ((by rw [hg]; exact (below_size (by repeat (first | (with_reducible first | exact HB.out | apply below_alloc | apply pw_below_drewN | apply below_drew1) | exact HB.out))) : w.heap.size ≤ gb591)); clear HB; have HB := n0_; have BK591 := n1_; have GW591 := n2_; have GE591 := n3_; clear n0_ n1_ n2_ n3_; clear hb hbox hg) | ((with_reducible refine gate_dst (N := 3) rfl ?_); refine box_event ?hg (N := 3) ?hd (cs := #[.slice A1_0 l1_0.length c1_0, .int .i64 a1_1]) (t := 55) ?hr ?_; (case hd => rfl); (case hg => rfl); (case hr => first | (go_simp; done) | (go_simp; rfl)); intro gb592 hg w12 hbox hb; have n0_ := Aside0.mk (blk_below (g := gb591) (o := .cells #[.slice A0_0 l0_0.length c0_0, .int .i64 a0_1] 55 (0, 0)) (by (with_reducible repeat (first | refine blk_drewN ?_ _ | refine blk_drew ?_ | refine blk_alloc ?_ _)); exact BK591.out) hb); have n1_ := Aside0.mk (below_step (by repeat (first | (with_reducible first | exact HB.out | apply below_alloc | apply pw_below_drewN | apply below_drew1 | refine below_set ?_ GE591.out) | exact HB.out)) hb); have n2_ := Aside0.mk (hbox); have n3_ := Aside0.mk ((by rw [hg]; exact (below_size (by repeat (first | (with_reducible first | exact HB.out | apply below_alloc | apply pw_below_drewN | apply below_drew1 | refine below_set ?_ GE591.out) | exact HB.out))) : w.heap.size ≤ gb592)); have n4_ := Aside0.mk ((by rw [hg]; exact (below_size (by repeat (first | (with_reducible first | exact HB.out | apply below_alloc | apply pw_below_drewN | apply below_drew1 | refine below_set ?_ GE591.out) | exact HB.out))) : w.heap.size ≤ gb592)); have n5_ := Aside0.mk ((by rw [hg]; exact Nat.ne_of_lt (blk_lt (g := gb591) (o := .cells #[.slice A0_0 l0_0.length c0_0, .int .i64 a0_1] 55 (0, 0)) (by (with_reducible repeat (first | refine blk_drewN ?_ _ | refine blk_drew ?_ | refine blk_alloc ?_ _)); exact BK591.out)) : gb591 ≠ gb592)); have n6_ := Aside0.mk ((by rw [hg]; exact Nat.ne_of_gt (blk_lt (g := gb591) (o := .cells #[.slice A0_0 l0_0.length c0_0, .int .i64 a0_1] 55 (0, 0)) (by (with_reducible repeat (first | refine blk_drewN ?_ _ | refine blk_drew ?_ | refine blk_alloc ?_ _)); exact BK591.out)) : gb592 ≠ gb591)); clear BK591; clear HB; have BK591 := n0_; have HB := n1_; have BK592 := n2_; have GW592 := n3_; have GE592 := n4_; have NB591_592 := n5_; have NB592_591 := n6_; clear n0_ n1_ n2_ n3_ n4_ n5_ n6_; clear hb hbox hg; have hnb13 := NB591_592.out; have hnc13 := NB592_591.out; have hcz14_0 : w12.cell? ⟨gb591, 0, none⟩ = some (.slice A0_0 l0_0.length c0_0) := (blk_cell BK591.out 0).trans rfl; have hcz14_1 : w12.cell? ⟨gb591, 1, none⟩ = some (.int .i64 a0_1) := (blk_cell BK591.out 1).trans rfl; have hfz14_0 := blk_frozen BK591.out 0; have hfz14_1 := blk_frozen BK591.out 1; have hcz15_0 : w12.cell? ⟨gb592, 0, none⟩ = some (.slice A1_0 l1_0.length c1_0) := (blk_cell BK592.out 0).trans rfl; have hcz15_1 : w12.cell? ⟨gb592, 1, none⟩ = some (.int .i64 a1_1) := (blk_cell BK592.out 1).trans rfl; have hfz15_0 := blk_frozen BK592.out 0; have hfz15_1 := blk_frozen BK592.out 1) | ((with_reducible refine gate_callee (f := 27) rfl ?_); refine goesL_ (some 9) rfl rfl Try.func27 (by kernel_rfl) rfl #[.slice A0_0 l0_0.length c0_0, .slice A1_0 l1_0.length c1_0] rfl (by (try simp only [List.map_toArray, List.map_cons, List.map_nil]); first | done | rfl | (simp only [List.length_drop, List.length_take]; rfl)) ?_; (with_reducible refine (laws_eqIntS.calls k _ _ l0_0 _ _ l1_0 true _ ?side1 ?side2 ?side3 ?side4 A3.out).mono ?_); (case side1 => repeat (first | exact (Kd.C_below HR0_0.out HB.out) | (with_reducible refine Kd.C_alloc ?_ _) | (with_reducible refine Kd.C_drewN ?_ _) | (with_reducible refine Kd.C_drew ?_))); (case side2 => exact HC0_0.out); (case side3 => repeat (first | exact (Kd.C_below HR1_0.out HB.out) | (with_reducible refine Kd.C_alloc ?_ _) | (with_reducible refine Kd.C_drewN ?_ _) | (with_reducible refine Kd.C_drew ?_))); (case side4 => exact HC1_0.out); rintro e w' ⟨rfl, ⟨nd, rfl⟩⟩; refine ⟨_, rfl, ?_⟩))
      go_ret
      exact ⟨by first | rfl | (simp [errW_none, errW_some] <;> rfl) | (simp [*, errW_none, errW_some] <;> rfl), by repeat (first | (with_reducible first | exact HB.out | apply below_alloc | apply pw_below_drewN | apply below_drew1 | refine below_set ?_ GE591.out | refine below_set ?_ GE592.out) | exact HB.out)⟩
  · replace c4 := Bool.eq_false_iff.mpr c4
    subst c4
    have H1 : (some false) = some r := by rw [if_neg (show ¬ (false = true) by decide)] at H; exact H
    clear H
    have H := H1
    clear H1
    obtain rfl := Option.some.inj H
    go_enter Try.func48, Try.ntmps48
    go_wp2_with (first | ((with_reducible refine gate_dst (N := 2) rfl ?_); refine box_event ?hg (N := 2) ?hd (cs := #[.slice A0_0 l0_0.length c0_0, .int .i64 a0_1]) (t := 55) ?hr ?_; (case hd => rfl); (case hg => rfl); (case hr => first | (go_simp; done) | (go_simp; rfl)); intro gb591 hg w16 hbox hb; have n0_ := Aside0.mk (below_step (by repeat (first | (with_reducible first | exact HB.out | apply below_alloc | apply pw_below_drewN | apply below_drew1) | exact HB.out)) hb); have n1_ := Aside0.mk (hbox); have n2_ := Aside0.mk ((by rw [hg]; exact (below_size (by repeat (first | (with_reducible first | exact HB.out | apply below_alloc | apply pw_below_drewN | apply below_drew1) | exact HB.out))) : w.heap.size ≤ gb591)); have n3_ := Aside0.mk ((by rw [hg]; exact (below_size (by repeat (first | (with_reducible first | exact HB.out | apply below_alloc | apply pw_below_drewN | apply below_drew1) | exact HB.out))) : w.heap.size ≤ gb591)); clear HB; have HB := n0_; have BK591 := n1_; have GW591 := n2_; have GE591 := n3_; clear n0_ n1_ n2_ n3_; clear hb hbox hg) | ((with_reducible refine gate_dst (N := 3) rfl ?_); refine box_event ?hg (N := 3) ?hd (cs := #[.slice A1_0 l1_0.length c1_0, .int .i64 a1_1]) (t := 55) ?hr ?_; (case hd => rfl); (case hg => rfl); (case hr => first | (go_simp; done) | (go_simp; rfl)); intro gb592 hg w17 hbox hb; have n0_ := Aside0.mk (blk_below (g := gb591) (o := .cells #[.slice A0_0 l0_0.length c0_0, .int .i64 a0_1] 55 (0, 0)) (by (with_reducible repeat (first | refine blk_drewN ?_ _ | refine blk_drew ?_ | refine blk_alloc ?_ _)); exact BK591.out) hb); have n1_ := Aside0.mk (below_step (by repeat (first | (with_reducible first | exact HB.out | apply below_alloc | apply pw_below_drewN | apply below_drew1 | refine below_set ?_ GE591.out) | exact HB.out)) hb); have n2_ := Aside0.mk (hbox); have n3_ := Aside0.mk ((by rw [hg]; exact (below_size (by repeat (first | (with_reducible first | exact HB.out | apply below_alloc | apply pw_below_drewN | apply below_drew1 | refine below_set ?_ GE591.out) | exact HB.out))) : w.heap.size ≤ gb592)); have n4_ := Aside0.mk ((by rw [hg]; exact (below_size (by repeat (first | (with_reducible first | exact HB.out | apply below_alloc | apply pw_below_drewN | apply below_drew1 | refine below_set ?_ GE591.out) | exact HB.out))) : w.heap.size ≤ gb592)); have n5_ := Aside0.mk ((by rw [hg]; exact Nat.ne_of_lt (blk_lt (g := gb591) (o := .cells #[.slice A0_0 l0_0.length c0_0, .int .i64 a0_1] 55 (0, 0)) (by (with_reducible repeat (first | refine blk_drewN ?_ _ | refine blk_drew ?_ | refine blk_alloc ?_ _)); exact BK591.out)) : gb591 ≠ gb592)); have n6_ := Aside0.mk ((by rw [hg]; exact Nat.ne_of_gt (blk_lt (g := gb591) (o := .cells #[.slice A0_0 l0_0.length c0_0, .int .i64 a0_1] 55 (0, 0)) (by (with_reducible repeat (first | refine blk_drewN ?_ _ | refine blk_drew ?_ | refine blk_alloc ?_ _)); exact BK591.out)) : gb592 ≠ gb591)); clear BK591; clear HB; have BK591 := n0_; have HB := n1_; have BK592 := n2_; have GW592 := n3_; have GE592 := n4_; have NB591_592 := n5_; have NB592_591 := n6_; clear n0_ n1_ n2_ n3_ n4_ n5_ n6_; clear hb hbox hg; have hnb18 := NB591_592.out; have hnc18 := NB592_591.out; have hcz19_0 : w17.cell? ⟨gb591, 0, none⟩ = some (.slice A0_0 l0_0.length c0_0) := (blk_cell BK591.out 0).trans rfl; have hcz19_1 : w17.cell? ⟨gb591, 1, none⟩ = some (.int .i64 a0_1) := (blk_cell BK591.out 1).trans rfl; have hfz19_0 := blk_frozen BK591.out 0; have hfz19_1 := blk_frozen BK591.out 1; have hcz20_0 : w17.cell? ⟨gb592, 0, none⟩ = some (.slice A1_0 l1_0.length c1_0) := (blk_cell BK592.out 0).trans rfl; have hcz20_1 : w17.cell? ⟨gb592, 1, none⟩ = some (.int .i64 a1_1) := (blk_cell BK592.out 1).trans rfl; have hfz20_0 := blk_frozen BK592.out 0; have hfz20_1 := blk_frozen BK592.out 1) | ((with_reducible refine gate_callee (f := 27) rfl ?_); refine goesL_ (some 9) rfl rfl Try.func27 (by kernel_rfl) rfl #[.slice A0_0 l0_0.length c0_0, .slice A1_0 l1_0.length c1_0] rfl (by (try simp only [List.map_toArray, List.map_cons, List.map_nil]); first | done | rfl | (simp only [List.length_drop, List.length_take]; rfl)) ?_; (with_reducible refine (laws_eqIntS.calls k _ _ l0_0 _ _ l1_0 false _ ?side1 ?side2 ?side3 ?side4 A3.out).mono ?_); (case side1 => repeat (first | exact (Kd.C_below HR0_0.out HB.out) | (with_reducible refine Kd.C_alloc ?_ _) | (with_reducible refine Kd.C_drewN ?_ _) | (with_reducible refine Kd.C_drew ?_))); (case side2 => exact HC0_0.out); (case side3 => repeat (first | exact (Kd.C_below HR1_0.out HB.out) | (with_reducible refine Kd.C_alloc ?_ _) | (with_reducible refine Kd.C_drewN ?_ _) | (with_reducible refine Kd.C_drew ?_))); (case side4 => exact HC1_0.out); rintro e w' ⟨rfl, ⟨nd, rfl⟩⟩; refine ⟨_, rfl, ?_⟩))
    go_ret
    exact ⟨by first | rfl | (simp [errW_none, errW_some] <;> rfl) | (simp [*, errW_none, errW_some] <;> rfl), by repeat (first | (with_reducible first | exact HB.out | apply below_alloc | apply pw_below_drewN | apply below_drew1 | refine below_set ?_ GE591.out | refine below_set ?_ GE592.out) | exact HB.out)⟩

end Go.Proofs.Ytnphoaecjeenjaa.P
namespace Go.Proofs.Ytnphoaecjeenjaa.M
open Go.RowKit Go.Proofs.Ytnphoaecjeenjaa.P Go.Proofs.Ytnphoaecjeenjaa.In Go.Proofs.YtnphoaecjeenjaaW.PrintWords Go.Proofs.YtnphoaecjeenjaaW.PrintLast
set_option linter.unusedVariables false
set_option linter.unusedSimpArgs false
/-- Are these rotors of these rows. -/
def rotB : List Int → List (List Int) → Bool
  | r :: rs, row :: rows => (decide (0 ≤ r) && decide (r ≤ if (row.length : Int) - 1 < 0 then 0 else (row.length : Int) - 1)) && rotB rs rows
  | _, _ => true
/-- A walk on a graph. -/
def walkB (g : List (List Int)) (rot : List Int) (at_ : Int) : Bool := placeB g at_ && (decide (rot.length = g.length) && rotB rot g)
theorem most0 (n : Nat) : mx ((n : Int) - 1) 0 = if (n : Int) - 1 < 0 then 0 else (n : Int) - 1 := by unfold mx; rfl
theorem l1Most0 (n : Nat) : spec_l1Most.f 0 ((n : Int) - 1) = some (if (n : Int) - 1 < 0 then 0 else (n : Int) - 1) := by
  unfold spec_l1Most.f
  by_cases h : (n : Int) - 1 < 0
  · rw [if_pos h]; split <;> first | rfl | omega
  · rw [if_neg h]; split
    · congr 1; omega
    · rfl
theorem isWalk_l0 (g : List (List Int)) (h8 : g.length ≤ 8) (hr : ∀ row ∈ g, row.length ≤ 5) (rot : List Int) (hlen : rot.length = g.length) : ∀ (d i : Nat), g.length - i = d → i ≤ g.length → Ev (fun k => impl_isWalk.l0 k rot rot.length i g) (rotB (rot.drop i) (g.drop i)) := by
  intro d
  induction d with
  | zero =>
    intro i hd hi
    refine Ev.const1 (fun k => ?_)
    simp only [impl_isWalk.l0]
    rw [if_neg (by omega), List.drop_of_length_le (by omega)]
    rfl
  | succ d ih =>
    intro i hd hi
    have hlt : i < g.length := by omega
    have hlt2 : i < rot.length := by omega
    have hrow : (rd_L1 g i).length ≤ 5 := hr _ (by rw [rdL_at hlt]; exact List.getElem_mem _)
    rw [List.drop_eq_getElem_cons hlt, List.drop_eq_getElem_cons hlt2, ← rdL_at hlt, ← rd_at hlt2]
    simp only [rotB]
    refine Ev.step (f := fun k => if (decide (0 ≤ rd rot i) && decide (rd rot i ≤ if ((rd_L1 g i).length : Int) - 1 < 0 then 0 else ((rd_L1 g i).length : Int) - 1)) = true then impl_isWalk.l0 k rot rot.length (i + 1 : Nat) g else some false) (fun k => ?_) ?_
    · simp only [impl_isWalk.l0]
      rw [if_pos (by omega), if_pos (by omega), if_pos (by omega), if_pos (by omega), wrap_id (by omega), most0, implin, wrap_nat (by omega)]
      simp only [Option.bind_some]
    · by_cases e : (decide (0 ≤ rd rot i) && decide (rd rot i ≤ if ((rd_L1 g i).length : Int) - 1 < 0 then 0 else ((rd_L1 g i).length : Int) - 1)) = true
      · exact Ev.pos e ((ih (i + 1) (by omega) (by omega)).val (by rw [e]; simp))
      · exact Ev.neg e ((Ev.now _).val (by simp only [Bool.not_eq_true] at e; rw [e]; simp))
theorem waGood_l0 (g : List (List Int)) (h8 : g.length ≤ 8) (hr : ∀ row ∈ g, row.length ≤ 5) (rot : List Int) (a : Int) (hlen : rot.length = g.length) : ∀ (d i : Nat), g.length - i = d → i ≤ g.length → Ev (fun k => spec_waGood.l0 k g g.length i rot a) (rotB (rot.drop i) (g.drop i)) := by
  intro d
  induction d with
  | zero =>
    intro i hd hi
    refine Ev.const1 (fun k => ?_)
    simp only [spec_waGood.l0]
    rw [if_neg (by omega), List.drop_of_length_le (by omega)]
    rfl
  | succ d ih =>
    intro i hd hi
    have hlt : i < g.length := by omega
    have hlt2 : i < rot.length := by omega
    have hrow : (rd_L1 g i).length ≤ 5 := hr _ (by rw [rdL_at hlt]; exact List.getElem_mem _)
    rw [List.drop_eq_getElem_cons hlt, List.drop_eq_getElem_cons hlt2, ← rdL_at hlt, ← rd_at hlt2]
    simp only [rotB]
    refine Ev.step (f := fun k => if (decide (0 ≤ rd rot i) && decide (rd rot i ≤ if ((rd_L1 g i).length : Int) - 1 < 0 then 0 else ((rd_L1 g i).length : Int) - 1)) = true then spec_waGood.l0 k g g.length (i + 1 : Nat) rot a else some false) (fun k => ?_) ?_
    · simp only [spec_waGood.l0]
      rw [if_pos (by omega), if_pos (by omega), if_pos (by omega), if_pos (by omega), wrap_id (by omega), l1Most0, wrap_nat (by omega)]
      simp only [Option.bind_some, l1In]
    · by_cases e : (decide (0 ≤ rd rot i) && decide (rd rot i ≤ if ((rd_L1 g i).length : Int) - 1 < 0 then 0 else ((rd_L1 g i).length : Int) - 1)) = true
      · exact Ev.pos e ((ih (i + 1) (by omega) (by omega)).val (by rw [e]; simp))
      · exact Ev.neg e ((Ev.now _).val (by simp only [Bool.not_eq_true] at e; rw [e]; simp))
theorem isWalk (g : List (List Int)) (rot : List Int) (a : Int) : Ev (fun k => impl_isWalk.f k g rot a) (walkB g rot a) := by
  unfold impl_isWalk.f
  refine Ev.bind0 (has1 g a) ?_
  by_cases h : placeB g a = true
  · obtain ⟨hg, _, _⟩ := place_iff h
    obtain ⟨⟨h1, h8⟩, hrows⟩ := good_iff hg
    refine Ev.pos h (Ev.succ ?_)
    simp only [impl_isWalk.j0]
    by_cases e : rot.length = g.length
    · refine Ev.neg (by simp [e]) ?_
      exact (isWalk_l0 g h8 (fun row hr => (hrows row hr).1) rot e g.length 0 (by omega) (by omega)).val (by simp [walkB, h, e])
    · refine Ev.pos (by simp; omega) ((Ev.now _).val (by simp [walkB, e]))
  · refine Ev.neg h (Ev.succ ?_)
    simp only [impl_isWalk.j0]
    exact Ev.pos trivial ((Ev.now _).val (by simp only [Bool.not_eq_true] at h; simp [walkB, h]))
theorem waGood (g : List (List Int)) (hl : okSS g) (rot : List Int) (a : Int) : Ev (fun k => spec_waGood.f k g rot a) (walkB g rot a) := by
  unfold spec_waGood.f
  refine Ev.bind (grPlace g a hl) ?_
  by_cases h : placeB g a = true
  · obtain ⟨hg, _, _⟩ := place_iff h
    obtain ⟨⟨h1, h8⟩, hrows⟩ := good_iff hg
    refine Ev.pos h (Ev.succ ?_)
    simp only [spec_waGood.j0]
    by_cases e : rot.length = g.length
    · refine Ev.neg (by simp [e]) ?_
      exact (waGood_l0 g h8 (fun row hr => (hrows row hr).1) rot a e g.length 0 (by omega) (by omega)).val (by simp [walkB, h, e])
    · refine Ev.pos (by simp; omega) ((Ev.now _).val (by simp [walkB, e]))
  · refine Ev.neg h (Ev.succ ?_)
    simp only [spec_waGood.j0]
    exact Ev.pos trivial ((Ev.now _).val (by simp only [Bool.not_eq_true] at h; simp [walkB, h]))
/-! the laws' helpers -/
theorem szIntS (l : List Int) (hl : okIs l) (a : Int) (h0 : 0 ≤ a) (h1 : a ≤ 1048576) : ∃ r, laws_szIntS.f l a = some r ∧ r ≤ 1048576 ∧ (0 ≤ r → l.length ≤ 1048576) := by
  have := hl.1
  unfold laws_szIntS.f
  rw [wrap_id (by omega)]
  by_cases h : a - (l.length : Int) < 0
  · rw [if_pos h]; exact ⟨-1, rfl, by omega, fun h => by omega⟩
  · rw [if_neg h]; exact ⟨_, rfl, by omega, fun _ => by omega⟩
theorem szWalk (l : List Int) (x : Int) (hl : okIs l) (a : Int) (h0 : 0 ≤ a) (h1 : a ≤ 1048576) : ∃ r, laws_szWalk.f l x a = some r ∧ r ≤ 1048576 ∧ (0 ≤ r → l.length ≤ 1048576) := by
  obtain ⟨r, h2, h3, h4⟩ := szIntS l hl a h0 h1
  unfold laws_szWalk.f
  rw [h2]
  simp only [Option.bind_some]
  by_cases h : r < 0
  · rw [if_pos h]; exact ⟨-1, rfl, by omega, fun h => by omega⟩
  · rw [if_neg h]; exact ⟨r, rfl, h3, h4⟩
theorem toWalk (l : List Int) (x : Int) (hl : l.length ≤ 1048576) : Ev (fun k => laws_toWalk.f k l x) (l, x) := by
  unfold laws_toWalk.f
  exact Ev.bind (toIntS l (by omega)) (Ev.now _)
theorem eqWalk (l : List Int) (x : Int) (hl : l.length ≤ 1048576) : Ev (fun k => laws_eqWalk.f k l x l x) true := by
  unfold laws_eqWalk.f
  exact Ev.bind ((eqIntS l l (by omega)).val (decide_eq_true rfl)) (Ev.pos rfl (Ev.pos rfl (Ev.now _)))
end Go.Proofs.Ytnphoaecjeenjaa.M
namespace Go.Proofs.Ytnphoaecjeenjaa.M
open Go.RowKit Go.Proofs.Ytnphoaecjeenjaa.P Go.Proofs.Ytnphoaecjeenjaa.In Go.Proofs.YtnphoaecjeenjaaW.PrintWords Go.Proofs.YtnphoaecjeenjaaW.PrintLast
set_option linter.unusedVariables false
set_option linter.unusedSimpArgs false
theorem pigeon : ∀ (n : Nat) (l : List Int), l.Nodup → (∀ x ∈ l, 0 ≤ x ∧ x < (n : Int)) → l.length ≤ n
  | 0, l, _, h => by
    cases l with
    | nil => simp
    | cons x l => have := h x (by simp); omega
  | n + 1, l, hn, h => by
    have h1 := pigeon n (l.erase (n : Int)) (hn.erase _) (fun x hx => by
      have hx' := hn.mem_erase_iff.1 hx
      have h2 := h x hx'.2
      have h3 := hx'.1
      omega)
    by_cases hm : (n : Int) ∈ l
    · have := List.length_erase_of_mem hm; omega
    · rw [List.erase_of_not_mem hm] at h1; omega
def it (f : Int → Int) : Nat → Int → Int
  | 0, p => p
  | i + 1, p => it f i (f p)
theorem it_succ (f : Int → Int) (i : Nat) (p : Int) : it f (i + 1) p = f (it f i p) := by
  induction i generalizing p with
  | zero => rfl
  | succ i ih => rw [it, ih]; rfl
theorem it_add (f : Int → Int) (i j : Nat) (p : Int) : it f (i + j) p = it f j (it f i p) := by
  induction i generalizing p with
  | zero => simp [it]
  | succ i ih => rw [Nat.succ_add, it, ih]; rfl
def orb (f : Int → Int) (p : Int) (m : Nat) : List Int := (List.range m).map fun j => it f j p
theorem orb_len (f : Int → Int) (p : Int) (m : Nat) : (orb f p m).length = m := by simp [orb]
theorem orb_succ (f : Int → Int) (p : Int) (m : Nat) : orb f p (m + 1) = orb f p m ++ [it f m p] := by simp [orb, List.range_succ]
theorem orb_mem {f : Int → Int} {p x : Int} {m : Nat} : x ∈ orb f p m ↔ ∃ j, j < m ∧ it f j p = x := by simp [orb]
theorem orb_get {f : Int → Int} {p : Int} {m j : Nat} (h : j < m) : (orb f p m)[j]'(by rw [orb_len]; exact h) = it f j p := by simp [orb]
theorem orb_drop (f : Int → Int) (p : Int) (s per : Nat) : (orb f p (s + per)).drop s = orb f (it f s p) per := by
  apply List.ext_getElem
  · simp [orb]
  · intro i h1 h2
    simp only [orb, List.getElem_drop, List.getElem_map, List.getElem_range]
    rw [it_add]
theorem orb_inj {f : Int → Int} {p : Int} {m i j : Nat} (hn : (orb f p m).Nodup) (hi : i < m) (hj : j < m) (h : it f i p = it f j p) : i = j := by
  have h1 : (orb f p m)[i]'(by rw [orb_len]; exact hi) = (orb f p m)[j]'(by rw [orb_len]; exact hj) := by rw [orb_get hi, orb_get hj, h]
  exact (List.getElem_inj hn).1 h1
theorem nodup_snoc {l : List Int} {x : Int} (hn : l.Nodup) (hx : x ∉ l) : (l ++ [x]).Nodup := by
  rw [List.nodup_append]
  refine ⟨hn, by simp, ?_⟩
  intro a ha b hb
  simp at hb
  subst hb
  intro e; subst e; exact hx ha
/-- A way that comes again: p leads over s places into a circle of per places. -/
structure Rho (f : Int → Int) (n : Nat) (p : Int) (s per : Nat) : Prop where
  pos : 0 < per
  le : s + per ≤ n
  nodup : (orb f p (s + per)).Nodup
  back : it f per (it f s p) = it f s p
theorem Rho.all {f : Int → Int} {n : Nat} {p : Int} {s per : Nat} (h : Rho f n p s per) (j : Nat) : it f j p ∈ orb f p (s + per) := by
  induction j with
  | zero => exact orb_mem.2 ⟨0, by have := h.pos; omega, rfl⟩
  | succ j ih =>
    obtain ⟨m, hm, he⟩ := orb_mem.1 ih
    rw [it_succ, ← he, ← it_succ f m p]
    by_cases h2 : m + 1 < s + per
    · exact orb_mem.2 ⟨m + 1, h2, rfl⟩
    · have h3 : m + 1 = s + per := by omega
      rw [h3, it_add, h.back]
      exact orb_mem.2 ⟨s, by have := h.pos; omega, rfl⟩
theorem Rho.far {f : Int → Int} {n : Nat} {p : Int} {s per : Nat} (h : Rho f n p s per) (j : Nat) : it f (s + j + per) p = it f (s + j) p := by
  rw [show s + j + per = s + per + j by omega, it_add f (s + per), it_add f s per, h.back, ← it_add]
/-- From s steps on, the way is in the circle. -/
theorem Rho.ring {f : Int → Int} {n : Nat} {p : Int} {s per : Nat} (h : Rho f n p s per) (j : Nat) : ∃ a, a < per ∧ it f (s + j) p = it f a (it f s p) := by
  induction j with
  | zero => exact ⟨0, h.pos, rfl⟩
  | succ j ih =>
    obtain ⟨a, ha, he⟩ := ih
    rw [show s + (j + 1) = (s + j) + 1 by omega, it_succ, he, ← it_succ f a]
    by_cases h2 : a + 1 < per
    · exact ⟨a + 1, h2, rfl⟩
    · rw [show a + 1 = per by omega, h.back]
      exact ⟨0, h.pos, rfl⟩
/-- The circle, from another of its places on: its places are the same, and it comes again behind as many steps, not before. -/
theorem Rho.turn {f : Int → Int} {n : Nat} {p : Int} {s per : Nat} (h : Rho f n p s per) (j : Nat) :
    (∀ x, x ∈ orb f (it f (s + j) p) per ↔ x ∈ orb f (it f s p) per) ∧ it f per (it f (s + j) p) = it f (s + j) p ∧ ∀ i, 0 < i → i < per → it f i (it f (s + j) p) ≠ it f (s + j) p := by
  have hb : it f per (it f (s + j) p) = it f (s + j) p := by rw [← it_add]; exact h.far j
  obtain ⟨a, ha, hea⟩ := h.ring j
  have hc : ∀ m x, it f m (it f s p) = x → ∃ b, b < per ∧ it f b (it f s p) = x := by
    intro m x hx
    obtain ⟨b, hb, he⟩ := h.ring m
    exact ⟨b, hb, by rw [← he, it_add]; exact hx⟩
  refine ⟨fun x => ⟨fun hx => ?_, fun hx => ?_⟩, hb, fun i h0 hi he => ?_⟩
  · obtain ⟨m, hm, he⟩ := orb_mem.1 hx
    rw [hea, ← it_add] at he
    obtain ⟨b, hb, he2⟩ := hc _ _ he
    exact orb_mem.2 ⟨b, hb, he2⟩
  · obtain ⟨m, hm, he⟩ := orb_mem.1 hx
    by_cases h2 : a ≤ m
    · exact orb_mem.2 ⟨m - a, by omega, by rw [hea, ← it_add, show a + (m - a) = m by omega, he]⟩
    · refine orb_mem.2 ⟨per - a + m, by omega, ?_⟩
      rw [hea, ← it_add, show a + (per - a + m) = per + m by omega, it_add, h.back, he]
  · rw [hea, ← it_add] at he
    by_cases h2 : a + i < per
    · have := orb_inj (i := s + (a + i)) (j := s + a) h.nodup (by omega) (by omega) (by rw [it_add, it_add f s a]; exact he)
      omega
    · have e2 : it f (a + i) (it f s p) = it f (a + i - per) (it f s p) := by
        rw [show a + i = per + (a + i - per) by omega, it_add, h.back]; congr 1; omega
      rw [e2] at he
      have := orb_inj (i := s + (a + i - per)) (j := s + a) h.nodup (by omega) (by omega) (by rw [it_add, it_add f s a]; exact he)
      omega
/-- Behind fewer than s steps the way isn't in the circle. -/
theorem Rho.out {f : Int → Int} {n : Nat} {p : Int} {s per : Nat} (h : Rho f n p s per) {i : Nat} (hi : i < s) : it f i p ∉ orb f (it f s p) per := by
  intro hm
  obtain ⟨m, hm, he⟩ := orb_mem.1 hm
  rw [← it_add] at he
  have := orb_inj (i := s + m) (j := i) h.nodup (by omega) (by omega) he
  omega
end Go.Proofs.Ytnphoaecjeenjaa.M
namespace Go.Proofs.Ytnphoaecjeenjaa.P
open Go.RowKit Go.Proofs.YtnphoaecjeenjaaW.PrintWords Go.Proofs.YtnphoaecjeenjaaW.PrintLast Go.Proofs.YtnphoaecjeenjaaW.PrintMore
attribute [local go_sem] max2_int min2_int max_two min_two max_three min_three max_four min_four   -- for this text's walks alone
set_option linter.unusedVariables false
set_option linter.unusedSimpArgs false

/-! ### slices_Index_int_int: function 115 -/
def slices_Index_int_int.l0 : Nat → List Int → Int → Int → Int → Option (Int)
  | 0, _, _, _, _ => none
  | k + 1, x0, x1, x7, x8 => if x8 < x7 then (if 0 ≤ x8 then (if x8 < (x0.length : Int) then (if x1 = (rd x0 x8) then (some x8) else (slices_Index_int_int.l0 k x0 x1 x7 (wrap64 (x8 + 1)))) else (none)) else (none)) else (some (-1))
def slices_Index_int_int.f (k : Nat) (l0 : List Int) (a1 : Int) : Option (Int) := slices_Index_int_int.l0 k l0 a1 (l0.length : Int) 0
theorem slices_Index_int_int.mono_l : ∀ k, (∀ y0 y1 y2 y3, LeO (slices_Index_int_int.l0 k y0 y1 y2 y3) (slices_Index_int_int.l0 (k + 1) y0 y1 y2 y3))
  | 0 => fun _ _ _ _ r h => by simp [slices_Index_int_int.l0] at h
  | k + 1 => by
    have ih0 := slices_Index_int_int.mono_l k
    · intro y0 y1 y2 y3
      unfold slices_Index_int_int.l0
      repeat' first
      | (with_reducible exact ih0 _ _ _ _)
      | (with_reducible exact LeO.refl _)
      | (with_reducible exact LeO.none _)
      | (with_reducible refine LeO.ite ?_ ?_)
      | (with_reducible refine LeO.bind ?_ (fun _ => ?_))
      | exact ih0 _ _ _ _
      | exact LeO.none _
      | refine LeO.ite ?_ ?_
      | refine LeO.bind ?_ (fun _ => ?_)
theorem slices_Index_int_int.mono : ∀ a0 a1 k, LeO (slices_Index_int_int.f k a0 a1) (slices_Index_int_int.f (k + 1) a0 a1) := by
  intro a0 a1 k
  have ih0 := slices_Index_int_int.mono_l k
  unfold slices_Index_int_int.f
  repeat' first
      | (with_reducible exact ih0 _ _ _ _)
      | (with_reducible exact LeO.refl _)
      | (with_reducible exact LeO.none _)
      | (with_reducible refine LeO.ite ?_ ?_)
      | (with_reducible refine LeO.bind ?_ (fun _ => ?_))
      | exact ih0 _ _ _ _
      | exact LeO.none _
      | refine LeO.ite ?_ ?_
      | refine LeO.bind ?_ (fun _ => ?_)
set_option maxHeartbeats 8000000 in
set_option maxRecDepth 100000 in
theorem slices_Index_int_int.calls (k : Nat) (A0 : Option Addr) (c0 : Nat) (l0 : List Int) (a1 : Int) (r : Int) (w : World) (hr0 : Kd.C (Kd.int .i64) w A0 l0.length l0) (hc0 : l0.length ≤ c0) (h : slices_Index_int_int.f k l0 a1 = some r) :
    Calls Try.prog 115 #[.slice A0 l0.length c0, .int .i64 a1] w fun e w' => e = .returned (.int .i64 r) ∧ Drawn0 w w' := by
  have HR0 := Aside0.mk hr0
  have HC0 := Aside0.mk hc0
  clear hr0 hc0
  have H : (slices_Index_int_int.l0 k l0 a1 (l0.length : Int) 0) = some r := h
  clear h
  have H' := Aside0.mk H
  clear H
  go_enter Try.func115, Try.ntmps115
  go_wp2
  go_loopg [8] k (fun kq v8 w' => ∃ (x8_1 : Int), v8 = .int .i64 x8_1 ∧ Aside0 (slices_Index_int_int.l0 kq l0 a1 (l0.length : Int) x8_1 = some r) ∧ Aside0 (kq ≤ k) ∧ Drawn0 w w')
  case atStart => exact ⟨(0), (by first | rfl | (simp; done) | (simp [*]; done)), H', ⟨Nat.le_refl _⟩, by repeat (first | exact Drawn0.refl _ | apply Drawn0.step)⟩
  case round =>
    clear H'
    try clear c1
    try clear p2
    obtain ⟨x8_1, rfl, HA, HK1, ⟨m1, rfl⟩⟩ := hrel
    cases gk with
    | zero => exact absurd HA.out (by simp [slices_Index_int_int.l0])
    | succ k1 =>
      have H := HA.out
      clear HA
      simp only [slices_Index_int_int.l0] at H
      by_cases c3 : x8_1 < (l0.length : Int)
      · rw [if_pos c3] at H
        have c3b0 : decide (x8_1 < (l0.length : Int)) = true := decide_eq_true c3
        clear c3
        by_cases c4 : 0 ≤ x8_1
        · rw [if_pos c4] at H
          have c4b0 : decide (0 ≤ x8_1) = true := decide_eq_true c4
          clear c4
          by_cases c5 : x8_1 < (l0.length : Int)
          · rw [if_pos c5] at H
            have c5b0 : decide (x8_1 < (l0.length : Int)) = true := decide_eq_true c5
            clear c5
            by_cases c6 : a1 = (rd l0 x8_1)
            · rw [if_pos c6] at H
              have c6b0 : (a1 == (rd l0 x8_1)) = true := beq_iff_eq.mpr c6
              have c6b1 : (a1 != (rd l0 x8_1)) = false := bne_eq_false_iff_eq.mpr c6
              clear c6
              obtain rfl := Option.some.inj H
              have p444 : 0 ≤ (x8_1 : Int) := of_decide_eq_true (by first | (with_reducible assumption) | assumption)
              have q444 : x8_1 < (l0.length : Int) := of_decide_eq_true (by first | (with_reducible assumption) | assumption)
              obtain ⟨ad444, e444, hx444_0⟩ := Kd.at_int HR0.out x8_1 p444 q444
              cases e444
              replace p444 := eq_true p444
              replace q444 := eq_true q444
              go_wp2
              go_ret
              exact ⟨by first | rfl | (simp; done) | (simp [*]; done), by repeat (first | exact Drawn0.refl _ | apply Drawn0.step)⟩
            · rw [if_neg c6] at H
              have c6b0 : (a1 == (rd l0 x8_1)) = false := beq_eq_false_iff_ne.mpr c6
              have c6b1 : (a1 != (rd l0 x8_1)) = true := bne_iff_ne.mpr c6
              have H' := Aside0.mk H
              clear H
              have p444 : 0 ≤ (x8_1 : Int) := of_decide_eq_true (by first | (with_reducible assumption) | assumption)
              have q444 : x8_1 < (l0.length : Int) := of_decide_eq_true (by first | (with_reducible assumption) | assumption)
              obtain ⟨ad444, e444, hx444_0⟩ := Kd.at_int HR0.out x8_1 p444 q444
              cases e444
              replace p444 := eq_true p444
              replace q444 := eq_true q444
              go_wp2
              go_roundg k1
              case measure => have := HK1.out; omega
              case rel => exact ⟨(wrap64 (x8_1 + 1)), (by first | rfl | (simp; done) | (simp [*]; done)), H', ⟨by have := HK1.out; omega⟩, by repeat (first | exact Drawn0.refl _ | apply Drawn0.step)⟩
          · rw [if_neg c5] at H
            exact absurd H (by simp)
        · rw [if_neg c4] at H
          exact absurd H (by simp)
      · rw [if_neg c3] at H
        have c3b0 : decide (x8_1 < (l0.length : Int)) = false := decide_eq_false c3
        clear c3
        obtain rfl := Option.some.inj H
        go_wp2
        go_ret
        exact ⟨by first | rfl | (simp; done) | (simp [*]; done), by repeat (first | exact Drawn0.refl _ | apply Drawn0.step)⟩

end Go.Proofs.Ytnphoaecjeenjaa.P
namespace Go.Proofs.Ytnphoaecjeenjaa.P
open Go.RowKit Go.Proofs.YtnphoaecjeenjaaW.PrintWords Go.Proofs.YtnphoaecjeenjaaW.PrintLast Go.Proofs.YtnphoaecjeenjaaW.PrintMore
attribute [local go_sem] max2_int min2_int max_two min_two max_three min_three max_four min_four   -- for this text's walks alone
set_option linter.unusedVariables false
set_option linter.unusedSimpArgs false

/-! ### slices_Contains_int_int: function 111 -/
def slices_Contains_int_int.f (k : Nat) (l0 : List Int) (a1 : Int) : Option (Bool) := (slices_Index_int_int.f k l0 a1).bind fun t445 => (some (decide (t445 ≥ 0)))
theorem slices_Contains_int_int.mono : ∀ a0 a1 k, LeO (slices_Contains_int_int.f k a0 a1) (slices_Contains_int_int.f (k + 1) a0 a1) := by
  intro a0 a1 k
  unfold slices_Contains_int_int.f
  repeat' first
      | (with_reducible exact slices_Index_int_int.mono _ _ _)
      | (with_reducible exact LeO.refl _)
      | (with_reducible exact LeO.none _)
      | (with_reducible refine LeO.ite ?_ ?_)
      | (with_reducible refine LeO.bind ?_ (fun _ => ?_))
      | exact slices_Index_int_int.mono _ _ _
      | exact LeO.none _
      | refine LeO.ite ?_ ?_
      | refine LeO.bind ?_ (fun _ => ?_)
set_option maxHeartbeats 8000000 in
set_option maxRecDepth 100000 in
theorem slices_Contains_int_int.calls (k : Nat) (A0 : Option Addr) (c0 : Nat) (l0 : List Int) (a1 : Int) (r : Bool) (w : World) (hr0 : Kd.C (Kd.int .i64) w A0 l0.length l0) (hc0 : l0.length ≤ c0) (h : slices_Contains_int_int.f k l0 a1 = some r) :
    Calls Try.prog 111 #[.slice A0 l0.length c0, .int .i64 a1] w fun e w' => e = .returned (.bool r) ∧ Drawn0 w w' := by
  have HR0 := Aside0.mk hr0
  have HC0 := Aside0.mk hc0
  clear hr0 hc0
  have H : ((slices_Index_int_int.f k l0 a1).bind fun t445 => (some (decide (t445 ≥ 0)))) = some r := h
  clear h
  replace H := Option.bind_eq_some_iff.mp H
  obtain ⟨t445, A30, H⟩ := H
  replace H : (some (decide (t445 ≥ 0))) = some r := H
  have A3 := Aside0.mk A30
  clear A30
  obtain rfl := Option.some.inj H
  go_enter Try.func111, Try.ntmps111
  go_wp2_with (first | ((with_reducible refine gate_callee (f := 115) rfl ?_); refine goesL_ (some 7) rfl rfl Try.func115 (by kernel_rfl) rfl #[.slice A0 l0.length c0, .int .i64 a1] rfl (by (try simp only [List.map_toArray, List.map_cons, List.map_nil]); first | done | rfl | (simp only [List.length_drop, List.length_take]; rfl)) ?_; (with_reducible refine (slices_Index_int_int.calls k _ _ l0 a1 t445 _ ?side1 ?side2 A3.out).mono ?_); (case side1 => repeat (first | exact HR0.out | (with_reducible refine Kd.C_alloc ?_ _) | (with_reducible refine Kd.C_drewN ?_ _) | (with_reducible refine Kd.C_drew ?_))); (case side2 => exact HC0.out); rintro e w' ⟨rfl, ⟨nd, rfl⟩⟩; refine ⟨_, rfl, ?_⟩))
  go_ret
  exact ⟨by first | rfl | (simp; done) | (simp [*]; done), by repeat (first | exact Drawn0.refl _ | apply Drawn0.step)⟩

end Go.Proofs.Ytnphoaecjeenjaa.P
namespace Go.Proofs.Ytnphoaecjeenjaa.P
open Go.RowKit Go.Proofs.YtnphoaecjeenjaaW.PrintWords Go.Proofs.YtnphoaecjeenjaaW.PrintLast Go.Proofs.YtnphoaecjeenjaaW.PrintMore
attribute [local go_sem] max2_int min2_int max_two min_two max_three min_three max_four min_four   -- for this text's walks alone
set_option linter.unusedVariables false
set_option linter.unusedSimpArgs false

/-! ### impl_Graph_cycleFrom: function 110 -/
def impl_Graph_cycleFrom.l0 : Nat → List Int → Int → List Int → List (List Int) → Option (List Int × Bool)
  | 0, _, _, _, _ => none
  | k + 1, x1, x2, x8, x447000 => (slices_Contains_int_int.f k x8 x2).bind fun t450 => (if t450 = true then ((slices_Index_int_int.f k x8 x2).bind fun t451 => (if 0 ≤ t451 then (if t451 ≤ (x8.length : Int) then (some ((x8.drop (t451 : Int).toNat), true)) else (none)) else (none))) else (if x8.length < 17592186044416 then ((impl_Graph_next.f x447000 x1 x2).bind fun t458 => (if t458 < 0 then (some (([] : List Int), false)) else (impl_Graph_cycleFrom.l0 k x1 t458 (x8 ++ [x2]) x447000))) else (none)))
def impl_Graph_cycleFrom.f (k : Nat) (l0_0 : List (List Int)) (l1 : List Int) (a2 : Int) : Option (List Int × Bool) := impl_Graph_cycleFrom.l0 k l1 a2 (([] : List Int)) l0_0
theorem impl_Graph_cycleFrom.mono_l : ∀ k, (∀ y0 y1 y2 y3, LeO (impl_Graph_cycleFrom.l0 k y0 y1 y2 y3) (impl_Graph_cycleFrom.l0 (k + 1) y0 y1 y2 y3))
  | 0 => fun _ _ _ _ r h => by simp [impl_Graph_cycleFrom.l0] at h
  | k + 1 => by
    have ih0 := impl_Graph_cycleFrom.mono_l k
    · intro y0 y1 y2 y3
      unfold impl_Graph_cycleFrom.l0
      repeat' first
      | (with_reducible exact ih0 _ _ _ _)
      | (with_reducible exact slices_Contains_int_int.mono _ _ _)
      | (with_reducible exact slices_Index_int_int.mono _ _ _)
      | (with_reducible exact LeO.refl _)
      | (with_reducible exact LeO.none _)
      | (with_reducible refine LeO.ite ?_ ?_)
      | (with_reducible refine LeO.bind ?_ (fun _ => ?_))
      | exact ih0 _ _ _ _
      | exact slices_Contains_int_int.mono _ _ _
      | exact slices_Index_int_int.mono _ _ _
      | exact LeO.none _
      | refine LeO.ite ?_ ?_
      | refine LeO.bind ?_ (fun _ => ?_)
theorem impl_Graph_cycleFrom.mono : ∀ a0 a1 a2 k, LeO (impl_Graph_cycleFrom.f k a0 a1 a2) (impl_Graph_cycleFrom.f (k + 1) a0 a1 a2) := by
  intro a0 a1 a2 k
  have ih0 := impl_Graph_cycleFrom.mono_l k
  unfold impl_Graph_cycleFrom.f
  repeat' first
      | (with_reducible exact ih0 _ _ _ _)
      | (with_reducible exact slices_Contains_int_int.mono _ _ _)
      | (with_reducible exact slices_Index_int_int.mono _ _ _)
      | (with_reducible exact LeO.refl _)
      | (with_reducible exact LeO.none _)
      | (with_reducible refine LeO.ite ?_ ?_)
      | (with_reducible refine LeO.bind ?_ (fun _ => ?_))
      | exact ih0 _ _ _ _
      | exact slices_Contains_int_int.mono _ _ _
      | exact slices_Index_int_int.mono _ _ _
      | exact LeO.none _
      | refine LeO.ite ?_ ?_
      | refine LeO.bind ?_ (fun _ => ?_)
set_option maxHeartbeats 8000000 in
set_option maxRecDepth 100000 in
theorem impl_Graph_cycleFrom.calls (k : Nat) (A0_0 : Option Addr) (c0_0 : Nat) (l0_0 : List (List Int)) (A1 : Option Addr) (c1 : Nat) (l1 : List Int) (a2 : Int) (r1 : List Int) (r2 : Bool) (w : World) (hr0_0 : Kd.C (Kd.slice 3 (Kd.int .i64)) w A0_0 l0_0.length l0_0) (hc0_0 : l0_0.length ≤ c0_0) (hr1 : Kd.C (Kd.int .i64) w A1 l1.length l1) (hc1 : l1.length ≤ c1) (h : impl_Graph_cycleFrom.f k l0_0 l1 a2 = some (r1, r2)) :
    Calls Try.prog 110 #[.agg #[.slice A0_0 l0_0.length c0_0], .slice A1 l1.length c1, .int .i64 a2] w fun e w' => ∃ v0_ : Value, e = .returned (.tuple #[v0_, .bool r2]) ∧ Kd.Q (Kd.int .i64) 3 w' w.heap.size (fun _ => True) v0_ r1 ∧ Below w.heap.size w w' := by
  have hu28 := Try.underlying28
  have HR0_0 := Aside0.mk hr0_0
  have HC0_0 := Aside0.mk hc0_0
  clear hr0_0 hc0_0
  have HR1 := Aside0.mk hr1
  have HC1 := Aside0.mk hc1
  clear hr1 hc1
  have HB := Aside0.mk (Below.refl w.heap.size w)
  have H : (impl_Graph_cycleFrom.l0 k l1 a2 (([] : List Int)) l0_0) = some (r1, r2) := h
  clear h
  obtain ⟨y447, hy447⟩ : ∃ y_ : List Int, y_ = (([] : List Int)) := ⟨_, rfl⟩
  replace H : (impl_Graph_cycleFrom.l0 k l1 a2 y447 l0_0) = some (r1, r2) := by first | (rw [hy447]; with_reducible exact H) | (have H2_ := (Option.bind_some _ _).symm.trans H; rw [hy447]; with_reducible exact H2_) | (have H2_ := (Option.bind_some _ _).symm.trans H; with_reducible exact H2_) | with_reducible exact H | (rw [hy447]; exact H) | exact H
  have Ny447 := Aside0.mk hy447
  clear hy447
  have H' := Aside0.mk H
  clear H
  go_enter Try.func110, Try.ntmps110
  go_wp2_with (first | ((with_reducible refine gate_dst (N := 3) rfl ?_); refine box_event ?hg (N := 3) ?hd (cs := #[.slice A0_0 l0_0.length c0_0]) (t := 28) ?hr ?_; (case hd => rfl); (case hg => rfl); (case hr => first | (go_simp; done) | (go_simp; rfl)); intro gb446 hg w4 hbox hb; have n0_ := Aside0.mk (below_step (by repeat (first | (with_reducible first | exact HB.out | apply below_alloc | apply pw_below_drewN | apply below_drew1) | exact HB.out)) hb); have n1_ := Aside0.mk (hbox); have n2_ := Aside0.mk ((by rw [hg]; exact (below_size (by repeat (first | (with_reducible first | exact HB.out | apply below_alloc | apply pw_below_drewN | apply below_drew1) | exact HB.out))) : w.heap.size ≤ gb446)); have n3_ := Aside0.mk ((by rw [hg]; exact (below_size (by repeat (first | (with_reducible first | exact HB.out | apply below_alloc | apply pw_below_drewN | apply below_drew1) | exact HB.out))) : w.heap.size ≤ gb446)); clear HB; have HB := n0_; have BK446 := n1_; have GW446 := n2_; have GE446 := n3_; clear n0_ n1_ n2_ n3_; clear hb hbox hg) | ((with_reducible refine gate_dst (N := 9) rfl ?_); refine Kd.R_lit (Kd.int .i64) _ 3 ?hg (N := 9) ?hd (xs := ([] : List Int)) (inner := []) (ok := fun _ => True) (okp := fun _ => True) ?hr ?hp (fun _ hk => hk) trivial (Below.refl _ _) (Nat.le_refl _) (by simp) ?_; (case hd => rfl); (case hg => rfl); (case hr => first | (go_simp; done) | (go_simp; rfl)); (case hp => exact (Reps.none _ _)); intro v448 w5 ho6 hb hg_ hnew_; clear hg_ hnew_; (first | rw [← Ny447.out] at ho6 | (simp only [Int.reduceToNat] at ho6; rw [← Ny447.out] at ho6)); have n0_ := Aside0.mk (Kd.R_lower ho6 (below_size (by repeat (first | (with_reducible first | exact HB.out | apply below_alloc | apply pw_below_drewN | apply below_drew1 | refine below_set ?_ GE446.out) | exact HB.out)))); have n1_ := Aside0.mk (blk_below (g := gb446) (o := .cells #[.slice A0_0 l0_0.length c0_0] 28 (0, 0)) (by (with_reducible repeat (first | refine blk_drewN ?_ _ | refine blk_drew ?_ | refine blk_alloc ?_ _)); exact BK446.out) hb); have n2_ := Aside0.mk (below_step (by repeat (first | (with_reducible first | exact HB.out | apply below_alloc | apply pw_below_drewN | apply below_drew1 | refine below_set ?_ GE446.out) | exact HB.out)) hb); clear BK446; clear HB; have HO449 := n0_; have BK446 := n1_; have HB := n2_; clear n0_ n1_ n2_; clear hb ho6))
  go_loopg [2, 8] k (fun kq v2 v8 w' => ∃ (x2_1 : Int) (x8_1 : List Int), v2 = .int .i64 x2_1 ∧ Aside0 (impl_Graph_cycleFrom.l0 kq l1 x2_1 x8_1 l0_0 = some (r1, r2)) ∧ Aside0 (kq ≤ k) ∧ Aside0 (Kd.R (Kd.int .i64) 3 w' w.heap.size (fun _ => True) v8 x8_1) ∧ Aside0 (w'.heap[gb446]? = some (.cells #[(.slice A0_0 l0_0.length c0_0)] 28 (0, 0))) ∧ Aside0 (Below w.heap.size w w'))
  case atStart => exact ⟨(a2), (y447), (by first | rfl | (simp; done) | (simp [*]; done)), H', ⟨Nat.le_refl _⟩, ⟨by (with_reducible repeat (first | apply Kd.R_alloc | apply Kd.R_drewN | apply Kd.R_drew)); exact HO449.out⟩, ⟨by (with_reducible repeat (first | refine blk_drewN ?_ _ | refine blk_drew ?_ | refine blk_alloc ?_ _)); exact BK446.out⟩, ⟨by repeat (first | (with_reducible first | exact HB.out | apply below_alloc | apply pw_below_drewN | apply below_drew1 | refine below_set ?_ GE446.out) | exact HB.out)⟩⟩
  case round =>
    clear H'
    try clear c1
    try clear p2
    obtain ⟨x2_1, x8_1, rfl, HA, HK1, HO_8, BK446, HB⟩ := hrel
    cases gk with
    | zero => exact absurd HA.out (by simp [impl_Graph_cycleFrom.l0])
    | succ k1 =>
      have H := HA.out
      clear HA
      simp only [impl_Graph_cycleFrom.l0] at H
      replace H := Option.bind_eq_some_iff.mp H
      obtain ⟨t450, A70, H⟩ := H
      replace H : (if t450 = true then ((slices_Index_int_int.f k1 x8_1 x2_1).bind fun t451 => (if 0 ≤ t451 then (if t451 ≤ (x8_1.length : Int) then (some ((x8_1.drop (t451 : Int).toNat), true)) else (none)) else (none))) else (if x8_1.length < 17592186044416 then ((impl_Graph_next.f l0_0 l1 x2_1).bind fun t458 => (if t458 < 0 then (some (([] : List Int), false)) else (impl_Graph_cycleFrom.l0 k1 l1 t458 (x8_1 ++ [x2_1]) l0_0))) else (none))) = some (r1, r2) := H
      have A7 := Aside0.mk A70
      clear A70
      by_cases c8 : t450 = true
      · subst c8
        have H1 : ((slices_Index_int_int.f k1 x8_1 x2_1).bind fun t451 => (if 0 ≤ t451 then (if t451 ≤ (x8_1.length : Int) then (some ((x8_1.drop (t451 : Int).toNat), true)) else (none)) else (none))) = some (r1, r2) := by rw [if_pos rfl] at H; exact H
        clear H
        have H := H1
        clear H1
        replace H := Option.bind_eq_some_iff.mp H
        obtain ⟨t451, A90, H⟩ := H
        replace H : (if 0 ≤ t451 then (if t451 ≤ (x8_1.length : Int) then (some ((x8_1.drop (t451 : Int).toNat), true)) else (none)) else (none)) = some (r1, r2) := H
        have A9 := Aside0.mk A90
        clear A90
        by_cases c10 : 0 ≤ t451
        · rw [if_pos c10] at H
          have c10b0 := eq_true c10
          have c10b1 : decide (0 ≤ t451) = true := decide_eq_true c10
          clear c10
          by_cases c11 : t451 ≤ (x8_1.length : Int)
          · rw [if_pos c11] at H
            have c11b0 := eq_true c11
            have c11b1 : decide (t451 ≤ (x8_1.length : Int)) = true := decide_eq_true c11
            clear c11
            obtain ⟨y452, hy452⟩ : ∃ y_ : List Int, y_ = (x8_1.drop (t451 : Int).toNat) := ⟨_, rfl⟩
            replace H : (some (y452, true)) = some (r1, r2) := by first | (rw [hy452]; with_reducible exact H) | (have H2_ := (Option.bind_some _ _).symm.trans H; rw [hy452]; with_reducible exact H2_) | (have H2_ := (Option.bind_some _ _).symm.trans H; with_reducible exact H2_) | with_reducible exact H | (rw [hy452]; exact H) | exact H
            have Ny452 := Aside0.mk hy452
            clear hy452
            simp only [Option.some.injEq, Prod.mk.injEq] at H
            obtain ⟨rfl, rfl⟩ := H
            obtain ⟨Ao12, co12, eo12⟩ := Kd.R_slice HO_8.out
            subst eo12
            go_wp2_with (first | ((with_reducible refine gate_callee (f := 111) rfl ?_); refine goesL_ (some 12) rfl rfl Try.func111 (by kernel_rfl) rfl #[.slice Ao12 x8_1.length co12, .int .i64 x2_1] rfl (by (try simp only [List.map_toArray, List.map_cons, List.map_nil]); first | done | rfl | (simp only [List.length_drop, List.length_take]; rfl)) ?_; (with_reducible refine (slices_Contains_int_int.calls k1 _ _ x8_1 x2_1 true _ ?side1 ?side2 A7.out).mono ?_); (case side1 => repeat (first | exact (Kd.R_reads' HO_8.out).2.2 | (with_reducible refine Kd.C_alloc ?_ _) | (with_reducible refine Kd.C_drewN ?_ _) | (with_reducible refine Kd.C_drew ?_))); (case side2 => exact (Kd.R_reads' HO_8.out).2.1); rintro e w' ⟨rfl, ⟨nd, rfl⟩⟩; refine ⟨_, rfl, ?_⟩) | ((with_reducible refine gate_callee (f := 115) rfl ?_); refine goesL_ (some 27) rfl rfl Try.func115 (by kernel_rfl) rfl #[.slice Ao12 x8_1.length co12, .int .i64 x2_1] rfl (by (try simp only [List.map_toArray, List.map_cons, List.map_nil]); first | done | rfl | (simp only [List.length_drop, List.length_take]; rfl)) ?_; (with_reducible refine (slices_Index_int_int.calls k1 _ _ x8_1 x2_1 t451 _ ?side1 ?side2 A9.out).mono ?_); (case side1 => repeat (first | exact (Kd.R_reads' HO_8.out).2.2 | (with_reducible refine Kd.C_alloc ?_ _) | (with_reducible refine Kd.C_drewN ?_ _) | (with_reducible refine Kd.C_drew ?_))); (case side2 => exact (Kd.R_reads' HO_8.out).2.1); rintro e w' ⟨rfl, ⟨nd, rfl⟩⟩; refine ⟨_, rfl, ?_⟩; have q13 : (t451 : Int) ≤ ((x8_1.length : Int) : Int) := of_decide_eq_true (by first | (with_reducible assumption) | assumption); obtain ⟨i013, hi013, _, hsz13, _⟩ := info_parts info3; have hcut13 := cut_from (P := Try.prog) 35 3 .i64 Try.underlying35 hi013 1 hsz13 Ao12 x8_1.length co12 t451 (of_decide_eq_true (by first | (with_reducible assumption) | assumption)) q13; have hr13 := Kd.Q_drop (k := (t451 : Int).toNat) (Kd.Q_of_R HO_8.out) (by omega); obtain ⟨A13, hA13⟩ : ∃ A1, A1 = (if co12 = (t451 : Int).toNat then Ao12 else (Ao12 : Option Addr).map (·.add ((t451 : Int).toNat * 1))) := ⟨_, rfl⟩; obtain ⟨c13, hc13⟩ : ∃ c1, c1 = co12 - (t451 : Int).toNat := ⟨_, rfl⟩; have hy13 : y452.length = x8_1.length - (t451 : Int).toNat := (by rw [Ny452.out, List.length_drop]); rw [← Ny452.out] at hr13; rw [← hy13, ← hA13, ← hc13] at hcut13; replace hr13 : Kd.Q (Kd.int .i64) 3 wr w.heap.size (fun _ => True) (.slice A13 y452.length c13) y452 := (by rw [hA13, hc13, hy13]; exact hr13); have HE13 : Aside0 ((Value.slice A13 y452.length c13).ownBlock = (.slice Ao12 x8_1.length co12 : Value).ownBlock) := ⟨by rw [hA13]; split <;> (cases (Ao12 : Option Addr) <;> first | rfl | (simp only [Option.map, Value.ownBlock, Addr.add]; split <;> rfl))⟩; clear hy13 hi013 hsz13 HO_8 hA13 hc13; have HO454 := Aside0.mk hr13; clear hr13; replace q13 := eq_true q13))
            go_ret2
            exact ⟨_, by first | rfl | (simp [errW_none, errW_some] <;> rfl) | (simp [*, errW_none, errW_some] <;> rfl), by (with_reducible repeat (first | apply Kd.Q_alloc | apply Kd.Q_drewN | apply Kd.Q_drew)); exact HO454.out, by repeat (first | (with_reducible first | exact HB.out | apply below_alloc | apply pw_below_drewN | apply below_drew1 | refine below_set ?_ GE446.out) | exact HB.out)⟩
          · rw [if_neg c11] at H
            exact absurd H (by simp)
        · rw [if_neg c10] at H
          exact absurd H (by simp)
      · replace c8 := Bool.eq_false_iff.mpr c8
        subst c8
        have H1 : (if x8_1.length < 17592186044416 then ((impl_Graph_next.f l0_0 l1 x2_1).bind fun t458 => (if t458 < 0 then (some (([] : List Int), false)) else (impl_Graph_cycleFrom.l0 k1 l1 t458 (x8_1 ++ [x2_1]) l0_0))) else (none)) = some (r1, r2) := by rw [if_neg (show ¬ (false = true) by decide)] at H; exact H
        clear H
        have H := H1
        clear H1
        by_cases c14 : x8_1.length < 17592186044416
        · rw [if_pos c14] at H
          have LMc14 := Aside0.mk c14
          clear c14
          obtain ⟨y455, hy455⟩ : ∃ y_ : List Int, y_ = (x8_1 ++ [x2_1]) := ⟨_, rfl⟩
          replace H : ((impl_Graph_next.f l0_0 l1 x2_1).bind fun t458 => (if t458 < 0 then (some (([] : List Int), false)) else (impl_Graph_cycleFrom.l0 k1 l1 t458 y455 l0_0))) = some (r1, r2) := by first | (rw [hy455]; with_reducible exact H) | (have H2_ := (Option.bind_some _ _).symm.trans H; rw [hy455]; with_reducible exact H2_) | (have H2_ := (Option.bind_some _ _).symm.trans H; with_reducible exact H2_) | with_reducible exact H | (rw [hy455]; exact H) | exact H
          have Ny455 := Aside0.mk hy455
          clear hy455
          replace H := Option.bind_eq_some_iff.mp H
          obtain ⟨t458, A150, H⟩ := H
          replace H : (if t458 < 0 then (some (([] : List Int), false)) else (impl_Graph_cycleFrom.l0 k1 l1 t458 y455 l0_0)) = some (r1, r2) := H
          have A15 := Aside0.mk A150
          clear A150
          by_cases c16 : t458 < 0
          · rw [if_pos c16] at H
            have c16b0 : decide (t458 < 0) = true := decide_eq_true c16
            clear c16
            simp only [Option.some.injEq, Prod.mk.injEq] at H
            obtain ⟨rfl, rfl⟩ := H
            obtain ⟨Ao17, co17, eo17⟩ := Kd.R_slice HO_8.out
            subst eo17
            go_wp2_with (first | ((with_reducible refine gate_callee (f := 111) rfl ?_); refine goesL_ (some 12) rfl rfl Try.func111 (by kernel_rfl) rfl #[.slice Ao17 x8_1.length co17, .int .i64 x2_1] rfl (by (try simp only [List.map_toArray, List.map_cons, List.map_nil]); first | done | rfl | (simp only [List.length_drop, List.length_take]; rfl)) ?_; (with_reducible refine (slices_Contains_int_int.calls k1 _ _ x8_1 x2_1 false _ ?side1 ?side2 A7.out).mono ?_); (case side1 => repeat (first | exact (Kd.R_reads' HO_8.out).2.2 | (with_reducible refine Kd.C_alloc ?_ _) | (with_reducible refine Kd.C_drewN ?_ _) | (with_reducible refine Kd.C_drew ?_))); (case side2 => exact (Kd.R_reads' HO_8.out).2.1); rintro e w' ⟨rfl, ⟨nd, rfl⟩⟩; refine ⟨_, rfl, ?_⟩) | ((with_reducible refine gate_builtin (b := .append) (xs := #[.tmp 14, .tmp 16]) rfl ?_); at_builtin; refine Kd.R_append (Kd.int .i64) (w0 := w) w.heap.size rfl (.tmp 14) (.tmp 16) 35 3 (.int .i64 0) 8 rfl Try.underlying35 info3 rfl (by decide) (by omega) (.slice Ao17 x8_1.length co17) x8_1 x2_1 [.int .i64 x2_1] (fun _ => True) (fun _ => False) rfl rfl ?aP (fun _ hk => hk.elim) ?aF ?aO ?aB ?aS ?aL ?_; (case aP => exact rfl); (case aB => exact (by repeat (first | (with_reducible first | exact HB.out | apply below_alloc | apply pw_below_drewN | apply below_drew1 | refine below_set ?_ GE446.out) | exact HB.out))); (case aF => exact (fun _ _ => trivial)); (case aO => exact (by (with_reducible repeat (first | apply Kd.R_alloc | apply Kd.R_drewN | apply Kd.R_drew)); exact HO_8.out)); (case aS => exact (below_size (by repeat (first | (with_reducible first | exact HB.out | apply below_alloc | apply pw_below_drewN | apply below_drew1 | refine below_set ?_ GE446.out) | exact HB.out)))); (case aL => have := LMc14.out; omega); intro v456 w18 ho hb hg hat; rw [← Ny455.out] at ho; have n0_ := Aside0.mk (blk_grown (g := gb446) (o := .cells #[.slice A0_0 l0_0.length c0_0] 28 (0, 0)) (by (with_reducible repeat (first | refine blk_drewN ?_ _ | refine blk_drew ?_ | refine blk_alloc ?_ _)); exact BK446.out) hg (Kd.R_ne HO_8.out BK446.out (by decide))); have n1_ := Aside0.mk (hb); have n2_ := Aside0.mk (ho); clear BK446; clear HB; clear HO_8; have BK446 := n0_; have HB := n1_; have HO457 := n2_; clear n0_ n1_ n2_; clear ho hb hg hat; have hcz19_0 : w18.cell? ⟨gb446, 0, none⟩ = some (.slice A0_0 l0_0.length c0_0) := (blk_cell BK446.out 0).trans rfl; have hfz19_0 := blk_frozen BK446.out 0) | ((with_reducible refine gate_callee (f := 104) rfl ?_); refine goesL_ (some 21) rfl rfl Try.func104 (by kernel_rfl) rfl #[.agg #[.slice A0_0 l0_0.length c0_0], .slice A1 l1.length c1, .int .i64 x2_1] rfl (by (try simp only [List.map_toArray, List.map_cons, List.map_nil]); first | done | rfl | (simp only [List.length_drop, List.length_take]; rfl)) ?_; (with_reducible refine (impl_Graph_next.calls _ _ l0_0 _ _ l1 x2_1 t458 _ ?side1 ?side2 ?side3 ?side4 A15.out).mono ?_); (case side1 => repeat (first | exact (Kd.C_below HR0_0.out HB.out) | (with_reducible refine Kd.C_alloc ?_ _) | (with_reducible refine Kd.C_drewN ?_ _) | (with_reducible refine Kd.C_drew ?_))); (case side2 => exact HC0_0.out); (case side3 => repeat (first | exact (Kd.C_below HR1.out HB.out) | (with_reducible refine Kd.C_alloc ?_ _) | (with_reducible refine Kd.C_drewN ?_ _) | (with_reducible refine Kd.C_drew ?_))); (case side4 => exact HC1.out); rintro e w20 ⟨rfl, hb⟩; refine ⟨_, rfl, ?_⟩; have n0_ := Aside0.mk (Kd.R_below (by (with_reducible repeat (first | apply Kd.R_alloc | apply Kd.R_drewN | apply Kd.R_drew)); exact HO457.out) hb); have n1_ := Aside0.mk (blk_below (g := gb446) (o := .cells #[.slice A0_0 l0_0.length c0_0] 28 (0, 0)) (by (with_reducible repeat (first | refine blk_drewN ?_ _ | refine blk_drew ?_ | refine blk_alloc ?_ _)); exact BK446.out) hb); have n2_ := Aside0.mk (below_step (by repeat (first | (with_reducible first | exact HB.out | apply below_alloc | apply pw_below_drewN | apply below_drew1 | refine below_set ?_ GE446.out) | exact HB.out)) hb); clear HO457; clear BK446; clear HB; have HO457 := n0_; have BK446 := n1_; have HB := n2_; clear n0_ n1_ n2_; (try clear hb); (try clear hb2); (try clear hk); (try clear hi)))
            go_ret2
            exact ⟨_, by first | rfl | (simp [errW_none, errW_some] <;> rfl) | (simp [*, errW_none, errW_some] <;> rfl), Kd.Q_of_R (by first | exact Kd.R_nil _ _ _ _ _ | exact Kd.N_nil _ _ _ _ _ | exact Kd.V_nil _ _ _ _ _ | exact Kd.Q_nil _ _ _ _ _ | exact Kd.S_nil _ _ _ _ _), by repeat (first | (with_reducible first | exact HB.out | apply below_alloc | apply pw_below_drewN | apply below_drew1 | refine below_set ?_ GE446.out) | exact HB.out)⟩
          · rw [if_neg c16] at H
            have c16b0 : decide (t458 < 0) = false := decide_eq_false c16
            clear c16
            have H' := Aside0.mk H
            clear H
            obtain ⟨Ao21, co21, eo21⟩ := Kd.R_slice HO_8.out
            subst eo21
            go_wp2_with (first | ((with_reducible refine gate_callee (f := 111) rfl ?_); refine goesL_ (some 12) rfl rfl Try.func111 (by kernel_rfl) rfl #[.slice Ao21 x8_1.length co21, .int .i64 x2_1] rfl (by (try simp only [List.map_toArray, List.map_cons, List.map_nil]); first | done | rfl | (simp only [List.length_drop, List.length_take]; rfl)) ?_; (with_reducible refine (slices_Contains_int_int.calls k1 _ _ x8_1 x2_1 false _ ?side1 ?side2 A7.out).mono ?_); (case side1 => repeat (first | exact (Kd.R_reads' HO_8.out).2.2 | (with_reducible refine Kd.C_alloc ?_ _) | (with_reducible refine Kd.C_drewN ?_ _) | (with_reducible refine Kd.C_drew ?_))); (case side2 => exact (Kd.R_reads' HO_8.out).2.1); rintro e w' ⟨rfl, ⟨nd, rfl⟩⟩; refine ⟨_, rfl, ?_⟩) | ((with_reducible refine gate_builtin (b := .append) (xs := #[.tmp 14, .tmp 16]) rfl ?_); at_builtin; refine Kd.R_append (Kd.int .i64) (w0 := w) w.heap.size rfl (.tmp 14) (.tmp 16) 35 3 (.int .i64 0) 8 rfl Try.underlying35 info3 rfl (by decide) (by omega) (.slice Ao21 x8_1.length co21) x8_1 x2_1 [.int .i64 x2_1] (fun _ => True) (fun _ => False) rfl rfl ?aP (fun _ hk => hk.elim) ?aF ?aO ?aB ?aS ?aL ?_; (case aP => exact rfl); (case aB => exact (by repeat (first | (with_reducible first | exact HB.out | apply below_alloc | apply pw_below_drewN | apply below_drew1 | refine below_set ?_ GE446.out) | exact HB.out))); (case aF => exact (fun _ _ => trivial)); (case aO => exact (by (with_reducible repeat (first | apply Kd.R_alloc | apply Kd.R_drewN | apply Kd.R_drew)); exact HO_8.out)); (case aS => exact (below_size (by repeat (first | (with_reducible first | exact HB.out | apply below_alloc | apply pw_below_drewN | apply below_drew1 | refine below_set ?_ GE446.out) | exact HB.out)))); (case aL => have := LMc14.out; omega); intro v456 w22 ho hb hg hat; rw [← Ny455.out] at ho; have n0_ := Aside0.mk (blk_grown (g := gb446) (o := .cells #[.slice A0_0 l0_0.length c0_0] 28 (0, 0)) (by (with_reducible repeat (first | refine blk_drewN ?_ _ | refine blk_drew ?_ | refine blk_alloc ?_ _)); exact BK446.out) hg (Kd.R_ne HO_8.out BK446.out (by decide))); have n1_ := Aside0.mk (hb); have n2_ := Aside0.mk (ho); clear BK446; clear HB; clear HO_8; have BK446 := n0_; have HB := n1_; have HO457 := n2_; clear n0_ n1_ n2_; clear ho hb hg hat; have hcz23_0 : w22.cell? ⟨gb446, 0, none⟩ = some (.slice A0_0 l0_0.length c0_0) := (blk_cell BK446.out 0).trans rfl; have hfz23_0 := blk_frozen BK446.out 0) | ((with_reducible refine gate_callee (f := 104) rfl ?_); refine goesL_ (some 21) rfl rfl Try.func104 (by kernel_rfl) rfl #[.agg #[.slice A0_0 l0_0.length c0_0], .slice A1 l1.length c1, .int .i64 x2_1] rfl (by (try simp only [List.map_toArray, List.map_cons, List.map_nil]); first | done | rfl | (simp only [List.length_drop, List.length_take]; rfl)) ?_; (with_reducible refine (impl_Graph_next.calls _ _ l0_0 _ _ l1 x2_1 t458 _ ?side1 ?side2 ?side3 ?side4 A15.out).mono ?_); (case side1 => repeat (first | exact (Kd.C_below HR0_0.out HB.out) | (with_reducible refine Kd.C_alloc ?_ _) | (with_reducible refine Kd.C_drewN ?_ _) | (with_reducible refine Kd.C_drew ?_))); (case side2 => exact HC0_0.out); (case side3 => repeat (first | exact (Kd.C_below HR1.out HB.out) | (with_reducible refine Kd.C_alloc ?_ _) | (with_reducible refine Kd.C_drewN ?_ _) | (with_reducible refine Kd.C_drew ?_))); (case side4 => exact HC1.out); rintro e w24 ⟨rfl, hb⟩; refine ⟨_, rfl, ?_⟩; have n0_ := Aside0.mk (Kd.R_below (by (with_reducible repeat (first | apply Kd.R_alloc | apply Kd.R_drewN | apply Kd.R_drew)); exact HO457.out) hb); have n1_ := Aside0.mk (blk_below (g := gb446) (o := .cells #[.slice A0_0 l0_0.length c0_0] 28 (0, 0)) (by (with_reducible repeat (first | refine blk_drewN ?_ _ | refine blk_drew ?_ | refine blk_alloc ?_ _)); exact BK446.out) hb); have n2_ := Aside0.mk (below_step (by repeat (first | (with_reducible first | exact HB.out | apply below_alloc | apply pw_below_drewN | apply below_drew1 | refine below_set ?_ GE446.out) | exact HB.out)) hb); clear HO457; clear BK446; clear HB; have HO457 := n0_; have BK446 := n1_; have HB := n2_; clear n0_ n1_ n2_; (try clear hb); (try clear hb2); (try clear hk); (try clear hi)))
            go_roundg k1
            case measure => have := HK1.out; omega
            case rel => exact ⟨(t458), (y455), (by first | rfl | (simp; done) | (simp [*]; done)), H', ⟨by have := HK1.out; omega⟩, ⟨by (with_reducible repeat (first | apply Kd.R_alloc | apply Kd.R_drewN | apply Kd.R_drew)); exact HO457.out⟩, ⟨by (with_reducible repeat (first | refine blk_drewN ?_ _ | refine blk_drew ?_ | refine blk_alloc ?_ _)); exact BK446.out⟩, ⟨by repeat (first | (with_reducible first | exact HB.out | apply below_alloc | apply pw_below_drewN | apply below_drew1 | refine below_set ?_ GE446.out) | exact HB.out)⟩⟩
        · rw [if_neg c14] at H
          exact absurd H (by simp)

end Go.Proofs.Ytnphoaecjeenjaa.P
namespace Go.Proofs.Ytnphoaecjeenjaa.P
open Go.RowKit Go.Proofs.YtnphoaecjeenjaaW.PrintWords Go.Proofs.YtnphoaecjeenjaaW.PrintLast Go.Proofs.YtnphoaecjeenjaaW.PrintMore
attribute [local go_sem] max2_int min2_int max_two min_two max_three min_three max_four min_four   -- for this text's walks alone
set_option linter.unusedVariables false
set_option linter.unusedSimpArgs false

/-! ### spec_trCycle: function 108 -/
mutual
def spec_trCycle.l0 : Nat → List Int → Int → Int → List (List Int) → Option (List Int × Bool)
  | 0, _, _, _, _ => none
  | k + 1, x1, x2, x8, x471000 => if x8 < (x471000.length : Int) then ((spec_trNext.f x471000 x1 x2).bind fun t471 => (if t471 < 0 then (some (([] : List Int), false)) else (spec_trCycle.l0 k x1 t471 (wrap64 (x8 + 1)) x471000))) else ((spec_trNext.f x471000 x1 x2).bind fun t475 => (spec_trCycle.l1 k x1 x2 (([x2] : List Int)) t475 x471000))
def spec_trCycle.l1 : Nat → List Int → Int → List Int → Int → List (List Int) → Option (List Int × Bool)
  | 0, _, _, _, _, _ => none
  | k + 1, x1, x2, x9, x10, x471000 => if x10 = x2 then (some (x9, true)) else (if x9.length < 17592186044416 then ((spec_trNext.f x471000 x1 x10).bind fun t479 => (spec_trCycle.l1 k x1 x2 (x9 ++ [x10]) t479 x471000)) else (none))
end
def spec_trCycle.f (k : Nat) (l0_0 : List (List Int)) (l1 : List Int) (a2 : Int) : Option (List Int × Bool) := spec_trCycle.l0 k l1 a2 0 l0_0
theorem spec_trCycle.mono_l : ∀ k, (∀ y0 y1 y2 y3, LeO (spec_trCycle.l0 k y0 y1 y2 y3) (spec_trCycle.l0 (k + 1) y0 y1 y2 y3)) ∧ (∀ y0 y1 y2 y3 y4, LeO (spec_trCycle.l1 k y0 y1 y2 y3 y4) (spec_trCycle.l1 (k + 1) y0 y1 y2 y3 y4))
  | 0 => ⟨fun _ _ _ _ r h => by simp [spec_trCycle.l0] at h, fun _ _ _ _ _ r h => by simp [spec_trCycle.l1] at h⟩
  | k + 1 => by
    obtain ⟨ih0, ih1⟩ := spec_trCycle.mono_l k
    refine ⟨?_, ?_⟩
    · intro y0 y1 y2 y3
      unfold spec_trCycle.l0
      repeat' first
      | (with_reducible exact ih0 _ _ _ _)
      | (with_reducible exact ih1 _ _ _ _ _)
      | (with_reducible exact LeO.refl _)
      | (with_reducible exact LeO.none _)
      | (with_reducible refine LeO.ite ?_ ?_)
      | (with_reducible refine LeO.bind ?_ (fun _ => ?_))
      | exact ih0 _ _ _ _
      | exact ih1 _ _ _ _ _
      | exact LeO.none _
      | refine LeO.ite ?_ ?_
      | refine LeO.bind ?_ (fun _ => ?_)
    · intro y0 y1 y2 y3 y4
      unfold spec_trCycle.l1
      repeat' first
      | (with_reducible exact ih0 _ _ _ _)
      | (with_reducible exact ih1 _ _ _ _ _)
      | (with_reducible exact LeO.refl _)
      | (with_reducible exact LeO.none _)
      | (with_reducible refine LeO.ite ?_ ?_)
      | (with_reducible refine LeO.bind ?_ (fun _ => ?_))
      | exact ih0 _ _ _ _
      | exact ih1 _ _ _ _ _
      | exact LeO.none _
      | refine LeO.ite ?_ ?_
      | refine LeO.bind ?_ (fun _ => ?_)
theorem spec_trCycle.mono : ∀ a0 a1 a2 k, LeO (spec_trCycle.f k a0 a1 a2) (spec_trCycle.f (k + 1) a0 a1 a2) := by
  intro a0 a1 a2 k
  obtain ⟨ih0, ih1⟩ := spec_trCycle.mono_l k
  unfold spec_trCycle.f
  repeat' first
      | (with_reducible exact ih0 _ _ _ _)
      | (with_reducible exact ih1 _ _ _ _ _)
      | (with_reducible exact LeO.refl _)
      | (with_reducible exact LeO.none _)
      | (with_reducible refine LeO.ite ?_ ?_)
      | (with_reducible refine LeO.bind ?_ (fun _ => ?_))
      | exact ih0 _ _ _ _
      | exact ih1 _ _ _ _ _
      | exact LeO.none _
      | refine LeO.ite ?_ ?_
      | refine LeO.bind ?_ (fun _ => ?_)
set_option maxHeartbeats 8000000 in
set_option maxRecDepth 100000 in
theorem spec_trCycle.calls (k : Nat) (A0_0 : Option Addr) (c0_0 : Nat) (l0_0 : List (List Int)) (A1 : Option Addr) (c1 : Nat) (l1 : List Int) (a2 : Int) (r1 : List Int) (r2 : Bool) (w : World) (hr0_0 : Kd.C (Kd.slice 3 (Kd.int .i64)) w A0_0 l0_0.length l0_0) (hc0_0 : l0_0.length ≤ c0_0) (hr1 : Kd.C (Kd.int .i64) w A1 l1.length l1) (hc1 : l1.length ≤ c1) (h : spec_trCycle.f k l0_0 l1 a2 = some (r1, r2)) :
    Calls Try.prog 108 #[.agg #[.slice A0_0 l0_0.length c0_0], .slice A1 l1.length c1, .int .i64 a2] w fun e w' => ∃ v0_ : Value, e = .returned (.tuple #[v0_, .bool r2]) ∧ Kd.R (Kd.int .i64) 3 w' w.heap.size (fun _ => True) v0_ r1 ∧ Below w.heap.size w w' := by
  have hu28 := Try.underlying28
  have HR0_0 := Aside0.mk hr0_0
  have HC0_0 := Aside0.mk hc0_0
  clear hr0_0 hc0_0
  have HR1 := Aside0.mk hr1
  have HC1 := Aside0.mk hc1
  clear hr1 hc1
  have HB := Aside0.mk (Below.refl w.heap.size w)
  have H : (spec_trCycle.l0 k l1 a2 0 l0_0) = some (r1, r2) := h
  clear h
  have H' := Aside0.mk H
  clear H
  go_enter Try.func108, Try.ntmps108
  go_wp2_with (first | ((with_reducible refine gate_dst (N := 3) rfl ?_); refine box_event ?hg (N := 3) ?hd (cs := #[.slice A0_0 l0_0.length c0_0]) (t := 28) ?hr ?_; (case hd => rfl); (case hg => rfl); (case hr => first | (go_simp; done) | (go_simp; rfl)); intro gb470 hg w4 hbox hb; have n0_ := Aside0.mk (below_step (by repeat (first | (with_reducible first | exact HB.out | apply below_alloc | apply pw_below_drewN | apply below_drew1) | exact HB.out)) hb); have n1_ := Aside0.mk (hbox); have n2_ := Aside0.mk ((by rw [hg]; exact (below_size (by repeat (first | (with_reducible first | exact HB.out | apply below_alloc | apply pw_below_drewN | apply below_drew1) | exact HB.out))) : w.heap.size ≤ gb470)); have n3_ := Aside0.mk ((by rw [hg]; exact (below_size (by repeat (first | (with_reducible first | exact HB.out | apply below_alloc | apply pw_below_drewN | apply below_drew1) | exact HB.out))) : w.heap.size ≤ gb470)); clear HB; have HB := n0_; have BK470 := n1_; have GW470 := n2_; have GE470 := n3_; clear n0_ n1_ n2_ n3_; clear hb hbox hg))
  go_loopg [2, 8] k (fun kq v2 v8 w' => ∃ (x2_1 : Int) (x8_1 : Int), v2 = .int .i64 x2_1 ∧ v8 = .int .i64 x8_1 ∧ Aside0 (spec_trCycle.l0 kq l1 x2_1 x8_1 l0_0 = some (r1, r2)) ∧ Aside0 (kq ≤ k) ∧ Aside0 (w'.heap[gb470]? = some (.cells #[(.slice A0_0 l0_0.length c0_0)] 28 (0, 0))) ∧ Aside0 (Below w.heap.size w w'))
  case atStart => exact ⟨(a2), (0), (by first | rfl | (simp; done) | (simp [*]; done)), (by first | rfl | (simp; done) | (simp [*]; done)), H', ⟨Nat.le_refl _⟩, ⟨by (with_reducible repeat (first | refine blk_drewN ?_ _ | refine blk_drew ?_ | refine blk_alloc ?_ _)); exact BK470.out⟩, ⟨by repeat (first | (with_reducible first | exact HB.out | apply below_alloc | apply pw_below_drewN | apply below_drew1 | refine below_set ?_ GE470.out) | exact HB.out)⟩⟩
  case round =>
    clear H'
    try clear c1
    try clear p2
    obtain ⟨x2_1, x8_1, rfl, rfl, HA, HK1, BK470, HB⟩ := hrel
    cases gk with
    | zero => exact absurd HA.out (by simp [spec_trCycle.l0])
    | succ k1 =>
      have H := HA.out
      clear HA
      simp only [spec_trCycle.l0] at H
      by_cases c5 : x8_1 < (l0_0.length : Int)
      · rw [if_pos c5] at H
        have c5b0 : decide (x8_1 < (l0_0.length : Int)) = true := decide_eq_true c5
        clear c5
        replace H := Option.bind_eq_some_iff.mp H
        obtain ⟨t471, A60, H⟩ := H
        replace H : (if t471 < 0 then (some (([] : List Int), false)) else (spec_trCycle.l0 k1 l1 t471 (wrap64 (x8_1 + 1)) l0_0)) = some (r1, r2) := H
        have A6 := Aside0.mk A60
        clear A60
        by_cases c7 : t471 < 0
        · rw [if_pos c7] at H
          have c7b0 : decide (t471 < 0) = true := decide_eq_true c7
          clear c7
          simp only [Option.some.injEq, Prod.mk.injEq] at H
          obtain ⟨rfl, rfl⟩ := H
          have hcz8_0 : wr.cell? ⟨gb470, 0, none⟩ = some (.slice A0_0 l0_0.length c0_0) := (blk_cell BK470.out 0).trans rfl
          have hfz8_0 := blk_frozen BK470.out 0
          go_wp2_with (first | ((with_reducible refine gate_callee (f := 103) rfl ?_); refine goesL_ (some 21) rfl rfl Try.func103 (by kernel_rfl) rfl #[.agg #[.slice A0_0 l0_0.length c0_0], .slice A1 l1.length c1, .int .i64 x2_1] rfl (by (try simp only [List.map_toArray, List.map_cons, List.map_nil]); first | done | rfl | (simp only [List.length_drop, List.length_take]; rfl)) ?_; (with_reducible refine (spec_trNext.calls _ _ l0_0 _ _ l1 x2_1 t471 _ ?side1 ?side2 ?side3 ?side4 A6.out).mono ?_); (case side1 => repeat (first | exact (Kd.C_below HR0_0.out HB.out) | (with_reducible refine Kd.C_alloc ?_ _) | (with_reducible refine Kd.C_drewN ?_ _) | (with_reducible refine Kd.C_drew ?_))); (case side2 => exact HC0_0.out); (case side3 => repeat (first | exact (Kd.C_below HR1.out HB.out) | (with_reducible refine Kd.C_alloc ?_ _) | (with_reducible refine Kd.C_drewN ?_ _) | (with_reducible refine Kd.C_drew ?_))); (case side4 => exact HC1.out); rintro e w9 ⟨rfl, hb⟩; refine ⟨_, rfl, ?_⟩; have n0_ := Aside0.mk (blk_below (g := gb470) (o := .cells #[.slice A0_0 l0_0.length c0_0] 28 (0, 0)) (by (with_reducible repeat (first | refine blk_drewN ?_ _ | refine blk_drew ?_ | refine blk_alloc ?_ _)); exact BK470.out) hb); have n1_ := Aside0.mk (below_step (by repeat (first | (with_reducible first | exact HB.out | apply below_alloc | apply pw_below_drewN | apply below_drew1 | refine below_set ?_ GE470.out) | exact HB.out)) hb); clear BK470; clear HB; have BK470 := n0_; have HB := n1_; clear n0_ n1_; (try clear hb); (try clear hb2); (try clear hk); (try clear hi)))
          go_ret2
          exact ⟨_, by first | rfl | (simp [errW_none, errW_some] <;> rfl) | (simp [*, errW_none, errW_some] <;> rfl), by first | exact Kd.R_nil _ _ _ _ _ | exact Kd.N_nil _ _ _ _ _ | exact Kd.V_nil _ _ _ _ _ | exact Kd.Q_nil _ _ _ _ _ | exact Kd.S_nil _ _ _ _ _, by repeat (first | (with_reducible first | exact HB.out | apply below_alloc | apply pw_below_drewN | apply below_drew1 | refine below_set ?_ GE470.out) | exact HB.out)⟩
        · rw [if_neg c7] at H
          have c7b0 : decide (t471 < 0) = false := decide_eq_false c7
          clear c7
          have H' := Aside0.mk H
          clear H
          have hcz10_0 : wr.cell? ⟨gb470, 0, none⟩ = some (.slice A0_0 l0_0.length c0_0) := (blk_cell BK470.out 0).trans rfl
          have hfz10_0 := blk_frozen BK470.out 0
          go_wp2_with (first | ((with_reducible refine gate_callee (f := 103) rfl ?_); refine goesL_ (some 21) rfl rfl Try.func103 (by kernel_rfl) rfl #[.agg #[.slice A0_0 l0_0.length c0_0], .slice A1 l1.length c1, .int .i64 x2_1] rfl (by (try simp only [List.map_toArray, List.map_cons, List.map_nil]); first | done | rfl | (simp only [List.length_drop, List.length_take]; rfl)) ?_; (with_reducible refine (spec_trNext.calls _ _ l0_0 _ _ l1 x2_1 t471 _ ?side1 ?side2 ?side3 ?side4 A6.out).mono ?_); (case side1 => repeat (first | exact (Kd.C_below HR0_0.out HB.out) | (with_reducible refine Kd.C_alloc ?_ _) | (with_reducible refine Kd.C_drewN ?_ _) | (with_reducible refine Kd.C_drew ?_))); (case side2 => exact HC0_0.out); (case side3 => repeat (first | exact (Kd.C_below HR1.out HB.out) | (with_reducible refine Kd.C_alloc ?_ _) | (with_reducible refine Kd.C_drewN ?_ _) | (with_reducible refine Kd.C_drew ?_))); (case side4 => exact HC1.out); rintro e w11 ⟨rfl, hb⟩; refine ⟨_, rfl, ?_⟩; have n0_ := Aside0.mk (blk_below (g := gb470) (o := .cells #[.slice A0_0 l0_0.length c0_0] 28 (0, 0)) (by (with_reducible repeat (first | refine blk_drewN ?_ _ | refine blk_drew ?_ | refine blk_alloc ?_ _)); exact BK470.out) hb); have n1_ := Aside0.mk (below_step (by repeat (first | (with_reducible first | exact HB.out | apply below_alloc | apply pw_below_drewN | apply below_drew1 | refine below_set ?_ GE470.out) | exact HB.out)) hb); clear BK470; clear HB; have BK470 := n0_; have HB := n1_; clear n0_ n1_; (try clear hb); (try clear hb2); (try clear hk); (try clear hi)))
          go_roundg k1
          case measure => have := HK1.out; omega
          case rel => exact ⟨(t471), (wrap64 (x8_1 + 1)), (by first | rfl | (simp; done) | (simp [*]; done)), (by first | rfl | (simp; done) | (simp [*]; done)), H', ⟨by have := HK1.out; omega⟩, ⟨by (with_reducible repeat (first | refine blk_drewN ?_ _ | refine blk_drew ?_ | refine blk_alloc ?_ _)); exact BK470.out⟩, ⟨by repeat (first | (with_reducible first | exact HB.out | apply below_alloc | apply pw_below_drewN | apply below_drew1 | refine below_set ?_ GE470.out) | exact HB.out)⟩⟩
      · rw [if_neg c5] at H
        have c5b0 : decide (x8_1 < (l0_0.length : Int)) = false := decide_eq_false c5
        clear c5
        obtain ⟨y472, hy472⟩ : ∃ y_ : List Int, y_ = (([x2_1] : List Int)) := ⟨_, rfl⟩
        replace H : ((spec_trNext.f l0_0 l1 x2_1).bind fun t475 => (spec_trCycle.l1 k1 l1 x2_1 y472 t475 l0_0)) = some (r1, r2) := by first | (rw [hy472]; with_reducible exact H) | (have H2_ := (Option.bind_some _ _).symm.trans H; rw [hy472]; with_reducible exact H2_) | (have H2_ := (Option.bind_some _ _).symm.trans H; with_reducible exact H2_) | with_reducible exact H | (rw [hy472]; exact H) | exact H
        have Ny472 := Aside0.mk hy472
        clear hy472
        replace H := Option.bind_eq_some_iff.mp H
        obtain ⟨t475, A120, H⟩ := H
        replace H : (spec_trCycle.l1 k1 l1 x2_1 y472 t475 l0_0) = some (r1, r2) := H
        have A12 := Aside0.mk A120
        clear A120
        have H' := Aside0.mk H
        clear H
        have hcz13_0 : wr.cell? ⟨gb470, 0, none⟩ = some (.slice A0_0 l0_0.length c0_0) := (blk_cell BK470.out 0).trans rfl
        have hfz13_0 := blk_frozen BK470.out 0
        go_wp2_with (first | ((with_reducible refine gate_dst (N := 25) rfl ?_); refine Kd.R_lit (Kd.int .i64) _ 3 ?hg (N := 25) ?hd (xs := ([x2_1] : List Int)) (inner := [.int .i64 x2_1]) (ok := fun _ => True) (okp := fun _ => True) ?hr ?hp (fun _ hk => hk) trivial (Below.refl _ _) (Nat.le_refl _) (by simp) ?_; (case hd => rfl); (case hg => rfl); (case hr => first | (go_simp; done) | (go_simp; rfl)); (case hp => exact (Reps.one (show Kd.M (Kd.int .i64) _ _ _ x2_1 [.int .i64 x2_1] from rfl) (Reps.none _ _))); intro v473 w14 ho15 hb hg_ hnew_; clear hg_ hnew_; (first | rw [← Ny472.out] at ho15 | (simp only [Int.reduceToNat] at ho15; rw [← Ny472.out] at ho15)); have n0_ := Aside0.mk (Kd.R_lower ho15 (below_size (by repeat (first | (with_reducible first | exact HB.out | apply below_alloc | apply pw_below_drewN | apply below_drew1 | refine below_set ?_ GE470.out) | exact HB.out)))); have n1_ := Aside0.mk (blk_below (g := gb470) (o := .cells #[.slice A0_0 l0_0.length c0_0] 28 (0, 0)) (by (with_reducible repeat (first | refine blk_drewN ?_ _ | refine blk_drew ?_ | refine blk_alloc ?_ _)); exact BK470.out) hb); have n2_ := Aside0.mk (below_step (by repeat (first | (with_reducible first | exact HB.out | apply below_alloc | apply pw_below_drewN | apply below_drew1 | refine below_set ?_ GE470.out) | exact HB.out)) hb); clear BK470; clear HB; have HO474 := n0_; have BK470 := n1_; have HB := n2_; clear n0_ n1_ n2_; clear hb ho15; have hcz16_0 : w14.cell? ⟨gb470, 0, none⟩ = some (.slice A0_0 l0_0.length c0_0) := (blk_cell BK470.out 0).trans rfl; have hfz16_0 := blk_frozen BK470.out 0) | ((with_reducible refine gate_callee (f := 103) rfl ?_); refine goesL_ (some 29) rfl rfl Try.func103 (by kernel_rfl) rfl #[.agg #[.slice A0_0 l0_0.length c0_0], .slice A1 l1.length c1, .int .i64 x2_1] rfl (by (try simp only [List.map_toArray, List.map_cons, List.map_nil]); first | done | rfl | (simp only [List.length_drop, List.length_take]; rfl)) ?_; (with_reducible refine (spec_trNext.calls _ _ l0_0 _ _ l1 x2_1 t475 _ ?side1 ?side2 ?side3 ?side4 A12.out).mono ?_); (case side1 => repeat (first | exact (Kd.C_below HR0_0.out HB.out) | (with_reducible refine Kd.C_alloc ?_ _) | (with_reducible refine Kd.C_drewN ?_ _) | (with_reducible refine Kd.C_drew ?_))); (case side2 => exact HC0_0.out); (case side3 => repeat (first | exact (Kd.C_below HR1.out HB.out) | (with_reducible refine Kd.C_alloc ?_ _) | (with_reducible refine Kd.C_drewN ?_ _) | (with_reducible refine Kd.C_drew ?_))); (case side4 => exact HC1.out); rintro e w17 ⟨rfl, hb⟩; refine ⟨_, rfl, ?_⟩; have n0_ := Aside0.mk (Kd.R_below (by (with_reducible repeat (first | apply Kd.R_alloc | apply Kd.R_drewN | apply Kd.R_drew)); exact HO474.out) hb); have n1_ := Aside0.mk (blk_below (g := gb470) (o := .cells #[.slice A0_0 l0_0.length c0_0] 28 (0, 0)) (by (with_reducible repeat (first | refine blk_drewN ?_ _ | refine blk_drew ?_ | refine blk_alloc ?_ _)); exact BK470.out) hb); have n2_ := Aside0.mk (below_step (by repeat (first | (with_reducible first | exact HB.out | apply below_alloc | apply pw_below_drewN | apply below_drew1 | refine below_set ?_ GE470.out) | exact HB.out)) hb); clear HO474; clear BK470; clear HB; have HO474 := n0_; have BK470 := n1_; have HB := n2_; clear n0_ n1_ n2_; (try clear hb); (try clear hb2); (try clear hk); (try clear hi)))
        go_loopg [9, 10] k1 (fun kq v9 v10 w' => ∃ (x9_2 : List Int) (x10_2 : Int), v10 = .int .i64 x10_2 ∧ Aside0 (spec_trCycle.l1 kq l1 x2_1 x9_2 x10_2 l0_0 = some (r1, r2)) ∧ Aside0 (kq ≤ k1) ∧ Aside0 (Kd.R (Kd.int .i64) 3 w' w.heap.size (fun _ => True) v9 x9_2) ∧ Aside0 (w'.heap[gb470]? = some (.cells #[(.slice A0_0 l0_0.length c0_0)] 28 (0, 0))) ∧ Aside0 (Below w.heap.size w w'))
        case atStart => exact ⟨(y472), (t475), (by first | rfl | (simp; done) | (simp [*]; done)), H', ⟨Nat.le_refl _⟩, ⟨by (with_reducible repeat (first | apply Kd.R_alloc | apply Kd.R_drewN | apply Kd.R_drew)); exact HO474.out⟩, ⟨by (with_reducible repeat (first | refine blk_drewN ?_ _ | refine blk_drew ?_ | refine blk_alloc ?_ _)); exact BK470.out⟩, ⟨by repeat (first | (with_reducible first | exact HB.out | apply below_alloc | apply pw_below_drewN | apply below_drew1 | refine below_set ?_ GE470.out) | exact HB.out)⟩⟩
        case round =>
          clear H'
          try clear c1
          try clear p2
          try clear c5
          try clear c5b0
          try clear p6
          try clear c7
          try clear c7b0
          try clear c10
          try clear hcz10_0
          try clear hcz13_0
          try clear hcz16_0
          try clear hcz8_0
          try clear hfz10_0
          try clear hfz13_0
          try clear hfz16_0
          try clear hfz8_0
          try clear p2
          obtain ⟨x9_2, x10_2, rfl, HA, HK2, HO_9, BK470, HB⟩ := hrel
          cases gk with
          | zero => exact absurd HA.out (by simp [spec_trCycle.l1])
          | succ k2 =>
            have H := HA.out
            clear HA
            simp only [spec_trCycle.l1] at H
            by_cases c18 : x10_2 = x2_1
            · rw [if_pos c18] at H
              have c18b0 : (x10_2 == x2_1) = true := beq_iff_eq.mpr c18
              have c18b1 : (x10_2 != x2_1) = false := bne_eq_false_iff_eq.mpr c18
              clear c18
              simp only [Option.some.injEq, Prod.mk.injEq] at H
              obtain ⟨rfl, rfl⟩ := H
              go_wp2
              go_ret2
              exact ⟨_, by first | rfl | (simp [errW_none, errW_some] <;> rfl) | (simp [*, errW_none, errW_some] <;> rfl), by (with_reducible repeat (first | apply Kd.R_alloc | apply Kd.R_drewN | apply Kd.R_drew)); exact HO_9.out, by repeat (first | (with_reducible first | exact HB.out | apply below_alloc | apply pw_below_drewN | apply below_drew1 | refine below_set ?_ GE470.out) | exact HB.out)⟩
            · rw [if_neg c18] at H
              have c18b0 : (x10_2 == x2_1) = false := beq_eq_false_iff_ne.mpr c18
              have c18b1 : (x10_2 != x2_1) = true := bne_iff_ne.mpr c18
              by_cases c19 : x9_2.length < 17592186044416
              · rw [if_pos c19] at H
                have LMc19 := Aside0.mk c19
                clear c19
                obtain ⟨y476, hy476⟩ : ∃ y_ : List Int, y_ = (x9_2 ++ [x10_2]) := ⟨_, rfl⟩
                replace H : ((spec_trNext.f l0_0 l1 x10_2).bind fun t479 => (spec_trCycle.l1 k2 l1 x2_1 y476 t479 l0_0)) = some (r1, r2) := by first | (rw [hy476]; with_reducible exact H) | (have H2_ := (Option.bind_some _ _).symm.trans H; rw [hy476]; with_reducible exact H2_) | (have H2_ := (Option.bind_some _ _).symm.trans H; with_reducible exact H2_) | with_reducible exact H | (rw [hy476]; exact H) | exact H
                have Ny476 := Aside0.mk hy476
                clear hy476
                replace H := Option.bind_eq_some_iff.mp H
                obtain ⟨t479, A200, H⟩ := H
                replace H : (spec_trCycle.l1 k2 l1 x2_1 y476 t479 l0_0) = some (r1, r2) := H
                have A20 := Aside0.mk A200
                clear A200
                have H' := Aside0.mk H
                clear H
                go_wp2_with (first | ((with_reducible refine gate_builtin (b := .append) (xs := #[.tmp 37, .tmp 39]) rfl ?_); at_builtin; refine Kd.R_append (Kd.int .i64) (w0 := w) w.heap.size rfl (.tmp 37) (.tmp 39) 35 3 (.int .i64 0) 8 rfl Try.underlying35 info3 rfl (by decide) (by omega) u9 x9_2 x10_2 [.int .i64 x10_2] (fun _ => True) (fun _ => False) rfl rfl ?aP (fun _ hk => hk.elim) ?aF ?aO ?aB ?aS ?aL ?_; (case aP => exact rfl); (case aB => exact (by repeat (first | (with_reducible first | exact HB.out | apply below_alloc | apply pw_below_drewN | apply below_drew1 | refine below_set ?_ GE470.out) | exact HB.out))); (case aF => exact (fun _ _ => trivial)); (case aO => exact (by (with_reducible repeat (first | apply Kd.R_alloc | apply Kd.R_drewN | apply Kd.R_drew)); exact HO_9.out)); (case aS => exact (below_size (by repeat (first | (with_reducible first | exact HB.out | apply below_alloc | apply pw_below_drewN | apply below_drew1 | refine below_set ?_ GE470.out) | exact HB.out)))); (case aL => have := LMc19.out; omega); intro v477 w21 ho hb hg hat; rw [← Ny476.out] at ho; have n0_ := Aside0.mk (blk_grown (g := gb470) (o := .cells #[.slice A0_0 l0_0.length c0_0] 28 (0, 0)) (by (with_reducible repeat (first | refine blk_drewN ?_ _ | refine blk_drew ?_ | refine blk_alloc ?_ _)); exact BK470.out) hg (Kd.R_ne HO_9.out BK470.out (by decide))); have n1_ := Aside0.mk (hb); have n2_ := Aside0.mk (ho); clear BK470; clear HB; clear HO_9; have BK470 := n0_; have HB := n1_; have HO478 := n2_; clear n0_ n1_ n2_; clear ho hb hg hat; have hcz22_0 : w21.cell? ⟨gb470, 0, none⟩ = some (.slice A0_0 l0_0.length c0_0) := (blk_cell BK470.out 0).trans rfl; have hfz22_0 := blk_frozen BK470.out 0) | ((with_reducible refine gate_callee (f := 103) rfl ?_); refine goesL_ (some 36) rfl rfl Try.func103 (by kernel_rfl) rfl #[.agg #[.slice A0_0 l0_0.length c0_0], .slice A1 l1.length c1, .int .i64 x10_2] rfl (by (try simp only [List.map_toArray, List.map_cons, List.map_nil]); first | done | rfl | (simp only [List.length_drop, List.length_take]; rfl)) ?_; (with_reducible refine (spec_trNext.calls _ _ l0_0 _ _ l1 x10_2 t479 _ ?side1 ?side2 ?side3 ?side4 A20.out).mono ?_); (case side1 => repeat (first | exact (Kd.C_below HR0_0.out HB.out) | (with_reducible refine Kd.C_alloc ?_ _) | (with_reducible refine Kd.C_drewN ?_ _) | (with_reducible refine Kd.C_drew ?_))); (case side2 => exact HC0_0.out); (case side3 => repeat (first | exact (Kd.C_below HR1.out HB.out) | (with_reducible refine Kd.C_alloc ?_ _) | (with_reducible refine Kd.C_drewN ?_ _) | (with_reducible refine Kd.C_drew ?_))); (case side4 => exact HC1.out); rintro e w23 ⟨rfl, hb⟩; refine ⟨_, rfl, ?_⟩; have n0_ := Aside0.mk (Kd.R_below (by (with_reducible repeat (first | apply Kd.R_alloc | apply Kd.R_drewN | apply Kd.R_drew)); exact HO478.out) hb); have n1_ := Aside0.mk (blk_below (g := gb470) (o := .cells #[.slice A0_0 l0_0.length c0_0] 28 (0, 0)) (by (with_reducible repeat (first | refine blk_drewN ?_ _ | refine blk_drew ?_ | refine blk_alloc ?_ _)); exact BK470.out) hb); have n2_ := Aside0.mk (below_step (by repeat (first | (with_reducible first | exact HB.out | apply below_alloc | apply pw_below_drewN | apply below_drew1 | refine below_set ?_ GE470.out) | exact HB.out)) hb); clear HO478; clear BK470; clear HB; have HO478 := n0_; have BK470 := n1_; have HB := n2_; clear n0_ n1_ n2_; (try clear hb); (try clear hb2); (try clear hk); (try clear hi)))
                go_roundg k2
                case measure => have := HK1.out; have := HK2.out; omega
                case rel => exact ⟨(y476), (t479), (by first | rfl | (simp; done) | (simp [*]; done)), H', ⟨by have := HK1.out; have := HK2.out; omega⟩, ⟨by (with_reducible repeat (first | apply Kd.R_alloc | apply Kd.R_drewN | apply Kd.R_drew)); exact HO478.out⟩, ⟨by (with_reducible repeat (first | refine blk_drewN ?_ _ | refine blk_drew ?_ | refine blk_alloc ?_ _)); exact BK470.out⟩, ⟨by repeat (first | (with_reducible first | exact HB.out | apply below_alloc | apply pw_below_drewN | apply below_drew1 | refine below_set ?_ GE470.out) | exact HB.out)⟩⟩
              · rw [if_neg c19] at H
                exact absurd H (by simp)

end Go.Proofs.Ytnphoaecjeenjaa.P
namespace Go.Proofs.Ytnphoaecjeenjaa.P
open Go.RowKit Go.Proofs.YtnphoaecjeenjaaW.PrintWords Go.Proofs.YtnphoaecjeenjaaW.PrintLast Go.Proofs.YtnphoaecjeenjaaW.PrintMore
attribute [local go_sem] max2_int min2_int max_two min_two max_three min_three max_four min_four   -- for this text's walks alone
set_option linter.unusedVariables false
set_option linter.unusedSimpArgs false

/-! ### spec_l1Has: function 109 -/
def spec_l1Has.l0 : Nat → Int → List Int → Int → Int → Option (Bool)
  | 0, _, _, _, _ => none
  | k + 1, x1, x7, x8, x9 => if x9 < x8 then (if 0 ≤ x9 then (if x9 < (x7.length : Int) then (if (rd x7 x9) = x1 then (some true) else (spec_l1Has.l0 k x1 x7 x8 (wrap64 (x9 + 1)))) else (none)) else (none)) else (some false)
def spec_l1Has.f (k : Nat) (l0 : List Int) (a1 : Int) : Option (Bool) := spec_l1Has.l0 k a1 l0 (l0.length : Int) 0
theorem spec_l1Has.mono_l : ∀ k, (∀ y0 y1 y2 y3, LeO (spec_l1Has.l0 k y0 y1 y2 y3) (spec_l1Has.l0 (k + 1) y0 y1 y2 y3))
  | 0 => fun _ _ _ _ r h => by simp [spec_l1Has.l0] at h
  | k + 1 => by
    have ih0 := spec_l1Has.mono_l k
    · intro y0 y1 y2 y3
      unfold spec_l1Has.l0
      repeat' first
      | (with_reducible exact ih0 _ _ _ _)
      | (with_reducible exact LeO.refl _)
      | (with_reducible exact LeO.none _)
      | (with_reducible refine LeO.ite ?_ ?_)
      | (with_reducible refine LeO.bind ?_ (fun _ => ?_))
      | exact ih0 _ _ _ _
      | exact LeO.none _
      | refine LeO.ite ?_ ?_
      | refine LeO.bind ?_ (fun _ => ?_)
theorem spec_l1Has.mono : ∀ a0 a1 k, LeO (spec_l1Has.f k a0 a1) (spec_l1Has.f (k + 1) a0 a1) := by
  intro a0 a1 k
  have ih0 := spec_l1Has.mono_l k
  unfold spec_l1Has.f
  repeat' first
      | (with_reducible exact ih0 _ _ _ _)
      | (with_reducible exact LeO.refl _)
      | (with_reducible exact LeO.none _)
      | (with_reducible refine LeO.ite ?_ ?_)
      | (with_reducible refine LeO.bind ?_ (fun _ => ?_))
      | exact ih0 _ _ _ _
      | exact LeO.none _
      | refine LeO.ite ?_ ?_
      | refine LeO.bind ?_ (fun _ => ?_)
set_option maxHeartbeats 8000000 in
set_option maxRecDepth 100000 in
theorem spec_l1Has.calls (k : Nat) (A0 : Option Addr) (c0 : Nat) (l0 : List Int) (a1 : Int) (r : Bool) (w : World) (hr0 : Kd.C (Kd.int .i64) w A0 l0.length l0) (hc0 : l0.length ≤ c0) (h : spec_l1Has.f k l0 a1 = some r) :
    Calls Try.prog 109 #[.slice A0 l0.length c0, .int .i64 a1] w fun e w' => e = .returned (.bool r) ∧ Drawn0 w w' := by
  have HR0 := Aside0.mk hr0
  have HC0 := Aside0.mk hc0
  clear hr0 hc0
  have H : (spec_l1Has.l0 k a1 l0 (l0.length : Int) 0) = some r := h
  clear h
  have H' := Aside0.mk H
  clear H
  go_enter Try.func109, Try.ntmps109
  go_wp2
  go_loopg [9] k (fun kq v9 w' => ∃ (x9_1 : Int), v9 = .int .i64 x9_1 ∧ Aside0 (spec_l1Has.l0 kq a1 l0 (l0.length : Int) x9_1 = some r) ∧ Aside0 (kq ≤ k) ∧ Drawn0 w w')
  case atStart => exact ⟨(0), (by first | rfl | (simp; done) | (simp [*]; done)), H', ⟨Nat.le_refl _⟩, by repeat (first | exact Drawn0.refl _ | apply Drawn0.step)⟩
  case round =>
    clear H'
    try clear c1
    try clear p2
    obtain ⟨x9_1, rfl, HA, HK1, ⟨m1, rfl⟩⟩ := hrel
    cases gk with
    | zero => exact absurd HA.out (by simp [spec_l1Has.l0])
    | succ k1 =>
      have H := HA.out
      clear HA
      simp only [spec_l1Has.l0] at H
      by_cases c3 : x9_1 < (l0.length : Int)
      · rw [if_pos c3] at H
        have c3b0 : decide (x9_1 < (l0.length : Int)) = true := decide_eq_true c3
        clear c3
        by_cases c4 : 0 ≤ x9_1
        · rw [if_pos c4] at H
          have c4b0 : decide (0 ≤ x9_1) = true := decide_eq_true c4
          clear c4
          by_cases c5 : x9_1 < (l0.length : Int)
          · rw [if_pos c5] at H
            have c5b0 : decide (x9_1 < (l0.length : Int)) = true := decide_eq_true c5
            clear c5
            by_cases c6 : (rd l0 x9_1) = a1
            · rw [if_pos c6] at H
              have c6b0 : ((rd l0 x9_1) == a1) = true := beq_iff_eq.mpr c6
              have c6b1 : ((rd l0 x9_1) != a1) = false := bne_eq_false_iff_eq.mpr c6
              clear c6
              obtain rfl := Option.some.inj H
              have p480 : 0 ≤ (x9_1 : Int) := of_decide_eq_true (by first | (with_reducible assumption) | assumption)
              have q480 : x9_1 < (l0.length : Int) := of_decide_eq_true (by first | (with_reducible assumption) | assumption)
              obtain ⟨ad480, e480, hx480_0⟩ := Kd.at_int HR0.out x9_1 p480 q480
              cases e480
              replace p480 := eq_true p480
              replace q480 := eq_true q480
              go_wp2
              go_ret
              exact ⟨by first | rfl | (simp; done) | (simp [*]; done), by repeat (first | exact Drawn0.refl _ | apply Drawn0.step)⟩
            · rw [if_neg c6] at H
              have c6b0 : ((rd l0 x9_1) == a1) = false := beq_eq_false_iff_ne.mpr c6
              have c6b1 : ((rd l0 x9_1) != a1) = true := bne_iff_ne.mpr c6
              have H' := Aside0.mk H
              clear H
              have p480 : 0 ≤ (x9_1 : Int) := of_decide_eq_true (by first | (with_reducible assumption) | assumption)
              have q480 : x9_1 < (l0.length : Int) := of_decide_eq_true (by first | (with_reducible assumption) | assumption)
              obtain ⟨ad480, e480, hx480_0⟩ := Kd.at_int HR0.out x9_1 p480 q480
              cases e480
              replace p480 := eq_true p480
              replace q480 := eq_true q480
              go_wp2
              go_roundg k1
              case measure => have := HK1.out; omega
              case rel => exact ⟨(wrap64 (x9_1 + 1)), (by first | rfl | (simp; done) | (simp [*]; done)), H', ⟨by have := HK1.out; omega⟩, by repeat (first | exact Drawn0.refl _ | apply Drawn0.step)⟩
          · rw [if_neg c5] at H
            exact absurd H (by simp)
        · rw [if_neg c4] at H
          exact absurd H (by simp)
      · rw [if_neg c3] at H
        have c3b0 : decide (x9_1 < (l0.length : Int)) = false := decide_eq_false c3
        clear c3
        obtain rfl := Option.some.inj H
        go_wp2
        go_ret
        exact ⟨by first | rfl | (simp; done) | (simp [*]; done), by repeat (first | exact Drawn0.refl _ | apply Drawn0.step)⟩

end Go.Proofs.Ytnphoaecjeenjaa.P
namespace Go.Proofs.Ytnphoaecjeenjaa.M
open Go.RowKit Go.Proofs.Ytnphoaecjeenjaa.P Go.Proofs.Ytnphoaecjeenjaa.In Go.Proofs.YtnphoaecjeenjaaW.PrintWords Go.Proofs.YtnphoaecjeenjaaW.PrintLast
set_option linter.unusedVariables false
set_option linter.unusedSimpArgs false
def nx (g : List (List Int)) (rot : List Int) (p : Int) : Int := if ((rd_L1 g p).length : Int) = 0 then -1 else rd (rd_L1 g p) (rd rot p)
theorem rot_at : ∀ (rot : List Int) (g : List (List Int)), rotB rot g = true → ∀ (i : Nat) (h1 : i < rot.length) (h2 : i < g.length), 0 ≤ rot[i] ∧ (rot[i] < (g[i].length : Int) ∨ rot[i] = 0) := by
  intro rot
  induction rot with
  | nil => intro g h i h1; simp at h1
  | cons r rot ih =>
    intro g h i h1 h2
    cases g with
    | nil => simp at h2
    | cons row g =>
      simp only [rotB, Bool.and_eq_true, decide_eq_true_eq] at h
      cases i with
      | zero =>
        simp only [List.getElem_cons_zero]
        have := h.1; unfold mx at this; split at this <;> omega
      | succ i =>
        simp only [List.getElem_cons_succ]
        exact ih g h.2 i (by simpa using h1) (by simpa using h2)
theorem rot_rd {g : List (List Int)} {rot : List Int} (hr : rotB rot g = true) (hl : rot.length = g.length) {p : Int} (h0 : 0 ≤ p) (h1 : p < (g.length : Int)) : 0 ≤ rd rot p ∧ (((rd_L1 g p).length : Int) = 0 ∨ rd rot p < ((rd_L1 g p).length : Int)) := by
  have := rot_at rot g hr p.toNat (by omega) (by omega)
  rw [rd_get h0 (by omega), rdL_get h0 h1]
  omega
theorem next_eq {g : List (List Int)} {rot : List Int} (hr : rotB rot g = true) (hl : rot.length = g.length) {p : Int} (h0 : 0 ≤ p) (h1 : p < (g.length : Int)) : impl_Graph_next.f g rot p = some (nx g rot p) := by
  obtain ⟨a, b⟩ := rot_rd hr hl h0 h1
  unfold impl_Graph_next.f nx
  rw [if_pos h0, if_pos h1]
  by_cases h : ((rd_L1 g p).length : Int) = 0
  · rw [if_pos h, if_pos h]
  · rw [if_neg h, if_neg h, if_pos (by omega), if_pos a, if_pos (by omega)]
theorem trNext_eq {g : List (List Int)} {rot : List Int} (hr : rotB rot g = true) (hl : rot.length = g.length) {p : Int} (h0 : 0 ≤ p) (h1 : p < (g.length : Int)) : spec_trNext.f g rot p = some (nx g rot p) := by
  obtain ⟨a, b⟩ := rot_rd hr hl h0 h1
  unfold spec_trNext.f nx
  rw [if_pos h0, if_pos h1]
  by_cases h : ((rd_L1 g p).length : Int) = 0
  · rw [if_pos h, if_pos h]
  · rw [if_neg h, if_neg h, if_pos (by omega), if_pos a, if_pos (by omega)]
theorem nx_lt {g : List (List Int)} (hg : goodG g = true) {rot : List Int} (hr : rotB rot g = true) (hl : rot.length = g.length) {p : Int} (h0 : 0 ≤ p) (h1 : p < (g.length : Int)) : nx g rot p < (g.length : Int) ∧ -1 ≤ nx g rot p := by
  obtain ⟨a, b⟩ := rot_rd hr hl h0 h1
  have hrow := ((good_iff hg).2 (rd_L1 g p) (by rw [rdL_get h0 h1]; exact List.getElem_mem _)).2
  unfold nx
  split
  · omega
  · have := hrow (rd (rd_L1 g p) (rd rot p)) (by rw [rd_get a (by omega)]; exact List.getElem_mem _)
    omega

def find : List Int → Int → Nat → Int
  | [], _, _ => -1
  | y :: ys, x, i => if x = y then (i : Int) else find ys x (i + 1)
theorem find_no : ∀ (l : List Int) (x : Int) (i : Nat), x ∉ l → find l x i = -1 := by
  intro l
  induction l with
  | nil => intro x i _; rfl
  | cons y ys ih =>
    intro x i h
    simp only [List.mem_cons, not_or] at h
    simp only [find]; rw [if_neg h.1]; exact ih x (i + 1) h.2
theorem find_at : ∀ (l : List Int) (i s : Nat) (hs : s < l.length), l.Nodup → find l l[s] i = ((i + s : Nat) : Int) := by
  intro l
  induction l with
  | nil => intro i s hs; simp at hs
  | cons y ys ih =>
    intro i s hs hn
    rw [List.nodup_cons] at hn
    cases s with
    | zero => simp [find]
    | succ s =>
      simp only [List.getElem_cons_succ, find]
      have hs2 : s < ys.length := by simpa using hs
      rw [if_neg (fun (e : ys[s] = y) => hn.1 (by rw [← e]; exact List.getElem_mem _)), ih (i + 1) s hs2 hn.2]
      congr 1; omega
theorem find_in : ∀ (l : List Int) (x : Int) (i : Nat), x ∈ l → 0 ≤ find l x i := by
  intro l
  induction l with
  | nil => intro x i h; cases h
  | cons y ys ih =>
    intro x i h
    simp only [find]
    split
    · omega
    · rcases List.mem_cons.1 h with h2 | h2
      · contradiction
      · exact ih x (i + 1) h2
theorem index_l0 (l : List Int) (x : Int) (hl : l.length ≤ 4611686018427387904) : ∀ (d i : Nat), l.length - i = d → i ≤ l.length → Ev (fun k => slices_Index_int_int.l0 k l x l.length i) (find (l.drop i) x i) := by
  intro d
  induction d with
  | zero =>
    intro i hd hi
    refine Ev.succ ?_
    simp only [slices_Index_int_int.l0]
    rw [List.drop_of_length_le (by omega)]
    exact Ev.neg (by omega) (Ev.now _)
  | succ d ih =>
    intro i hd hi
    have hlt : i < l.length := by omega
    refine Ev.succ ?_
    simp only [slices_Index_int_int.l0]
    rw [List.drop_eq_getElem_cons hlt]
    simp only [find]
    refine Ev.pos (by omega) (Ev.pos (by omega) (Ev.pos (by omega) ?_))
    rw [rd_at hlt]
    by_cases h : x = l[i]
    · rw [if_pos h]; exact Ev.pos h (Ev.now _)
    · rw [if_neg h]
      refine Ev.neg h ?_
      rw [wrap_nat (by omega)]
      exact ih (i + 1) (by omega) (by omega)
theorem index_ev (l : List Int) (x : Int) (hl : l.length ≤ 4611686018427387904) : Ev (fun k => slices_Index_int_int.f k l x) (find l x 0) := by
  unfold slices_Index_int_int.f
  exact index_l0 l x hl l.length 0 (by omega) (by omega)
theorem contains_ev (l : List Int) (x : Int) (hl : l.length ≤ 4611686018427387904) : Ev (fun k => slices_Contains_int_int.f k l x) (decide (x ∈ l)) := by
  unfold slices_Contains_int_int.f
  refine Ev.bind (index_ev l x hl) ((Ev.now _).val ?_)
  by_cases h : x ∈ l
  · rw [decide_eq_true h, decide_eq_true (find_in l x 0 h)]
  · rw [decide_eq_false h, find_no l x 0 h]; rfl
theorem l1Has_l0 (l : List Int) (x : Int) (hl : l.length ≤ 4611686018427387904) : ∀ (d i : Nat), l.length - i = d → i ≤ l.length → Ev (fun k => spec_l1Has.l0 k x l l.length i) (decide (x ∈ l.drop i)) := by
  intro d
  induction d with
  | zero =>
    intro i hd hi
    refine Ev.succ ?_
    simp only [spec_l1Has.l0]
    rw [List.drop_of_length_le (by omega)]
    exact Ev.neg (by omega) ((Ev.now _).val (by simp))
  | succ d ih =>
    intro i hd hi
    have hlt : i < l.length := by omega
    refine Ev.succ ?_
    simp only [spec_l1Has.l0]
    rw [List.drop_eq_getElem_cons hlt]
    refine Ev.pos (by omega) (Ev.pos (by omega) (Ev.pos (by omega) ?_))
    rw [rd_at hlt]
    by_cases h : l[i] = x
    · exact Ev.pos h ((Ev.now _).val (by simp only [List.mem_cons, h, true_or, decide_true]))
    · refine Ev.neg h ?_
      rw [wrap_nat (by omega)]
      refine (ih (i + 1) (by omega) (by omega)).val ?_
      have : x ≠ l[i] := fun e => h e.symm
      simp only [List.mem_cons, this, false_or]
theorem l1Has_ev (l : List Int) (x : Int) (hl : l.length ≤ 4611686018427387904) : Ev (fun k => spec_l1Has.f k l x) (decide (x ∈ l)) := by
  unfold spec_l1Has.f
  exact l1Has_l0 l x hl l.length 0 (by omega) (by omega)

/-- Rotors of a graph. -/
structure Rot (g : List (List Int)) (rot : List Int) : Prop where
  good : goodG g = true
  rb : rotB rot g = true
  len : rot.length = g.length
theorem Rot.of_walk {g : List (List Int)} {rot : List Int} {a : Int} (h : walkB g rot a = true) : Rot g rot ∧ 0 ≤ a ∧ a < (g.length : Int) := by
  unfold walkB at h
  simp only [Bool.and_eq_true, decide_eq_true_eq] at h
  obtain ⟨hg, h0, h1⟩ := place_iff h.1
  exact ⟨⟨hg, h.2.2, h.2.1⟩, h0, h1⟩
theorem Rot.it_ok {g : List (List Int)} {rot : List Int} (h : Rot g rot) {p : Int} (h0 : 0 ≤ p) (h1 : p < (g.length : Int)) : ∀ i, (∀ j, j < i → 0 ≤ nx g rot (it (nx g rot) j p)) → 0 ≤ it (nx g rot) i p ∧ it (nx g rot) i p < (g.length : Int) := by
  intro i
  induction i with
  | zero => intro _; exact ⟨h0, h1⟩
  | succ i ih =>
    intro ha
    obtain ⟨a, b⟩ := ih (fun j hj => ha j (by omega))
    rw [it_succ]
    exact ⟨ha i (by omega), (nx_lt h.good h.rb h.len a b).1⟩
theorem Rot.orb_ok {g : List (List Int)} {rot : List Int} (h : Rot g rot) {p : Int} (h0 : 0 ≤ p) (h1 : p < (g.length : Int)) {i : Nat} (ha : ∀ j, j + 1 < i → 0 ≤ nx g rot (it (nx g rot) j p)) : ∀ x ∈ orb (nx g rot) p i, 0 ≤ x ∧ x < (g.length : Int) := by
  intro x hx
  obtain ⟨j, hj, rfl⟩ := orb_mem.1 hx
  exact h.it_ok h0 h1 j (fun m hm => ha m (by omega))
/-- The program's way: it comes to a place without exits, or it comes again. -/
theorem cycleFrom_l0 {g : List (List Int)} {rot : List Int} (h : Rot g rot) {p : Int} (h0 : 0 ≤ p) (h1 : p < (g.length : Int)) : ∀ (d i : Nat), g.length - i = d → i ≤ g.length → (orb (nx g rot) p i).Nodup → (∀ j, j < i → 0 ≤ nx g rot (it (nx g rot) j p)) →
    (∃ j, j < g.length ∧ nx g rot (it (nx g rot) j p) < 0 ∧ (∀ m, m < j → 0 ≤ nx g rot (it (nx g rot) m p)) ∧ Ev (fun k => impl_Graph_cycleFrom.l0 k rot (it (nx g rot) i p) (orb (nx g rot) p i) g) ([], false)) ∨
    (∃ s per, Rho (nx g rot) g.length p s per ∧ (∀ j, j < s + per → 0 ≤ nx g rot (it (nx g rot) j p)) ∧ Ev (fun k => impl_Graph_cycleFrom.l0 k rot (it (nx g rot) i p) (orb (nx g rot) p i) g) (orb (nx g rot) (it (nx g rot) s p) per, true)) := by
  have h8 := (good_iff h.good).1.2
  intro d
  induction d with
  | zero =>
    intro i hd hi hn ha
    have hi2 : i = g.length := by omega
    have hp := h.it_ok h0 h1 i ha
    have hm : it (nx g rot) i p ∈ orb (nx g rot) p i := by
      apply Classical.byContradiction
      intro hm
      have := pigeon g.length (orb (nx g rot) p i ++ [it (nx g rot) i p]) (nodup_snoc hn hm) (fun x hx => by
        rcases List.mem_append.1 hx with h2 | h2
        · exact h.orb_ok h0 h1 (fun j hj => ha j (by omega)) x h2
        · simp at h2; subst h2; exact hp)
      simp [orb_len] at this; omega
    right
    obtain ⟨s, hs, he⟩ := orb_mem.1 hm
    have hsp : s + (i - s) = i := by omega
    refine ⟨s, i - s, ⟨by omega, by omega, by rw [hsp]; exact hn, by rw [← it_add, hsp, he]⟩, by rw [hsp]; exact ha, ?_⟩
    refine Ev.succ ?_
    simp only [impl_Graph_cycleFrom.l0]
    refine Ev.bind (contains_ev _ _ (by rw [orb_len]; omega)) (Ev.pos (by simpa using hm) (Ev.bind (index_ev _ _ (by rw [orb_len]; omega)) ?_))
    have hfi : find (orb (nx g rot) p i) (it (nx g rot) i p) 0 = (s : Int) := by
      have := find_at (orb (nx g rot) p i) 0 s (by rw [orb_len]; exact hs) hn
      rw [orb_get hs, he] at this; simpa using this
    rw [hfi]
    refine Ev.pos (by omega) (Ev.pos (by rw [orb_len]; omega) ((Ev.now _).val ?_))
    have := orb_drop (nx g rot) p s (i - s)
    rw [hsp] at this
    rw [Int.toNat_natCast, this]
  | succ d ih =>
    intro i hd hi hn ha
    have hp := h.it_ok h0 h1 i ha
    by_cases hm : it (nx g rot) i p ∈ orb (nx g rot) p i
    · right
      obtain ⟨s, hs, he⟩ := orb_mem.1 hm
      have hsp : s + (i - s) = i := by omega
      refine ⟨s, i - s, ⟨by omega, by omega, by rw [hsp]; exact hn, by rw [← it_add, hsp, he]⟩, by rw [hsp]; exact ha, ?_⟩
      refine Ev.succ ?_
      simp only [impl_Graph_cycleFrom.l0]
      refine Ev.bind (contains_ev _ _ (by rw [orb_len]; omega)) (Ev.pos (by simpa using hm) (Ev.bind (index_ev _ _ (by rw [orb_len]; omega)) ?_))
      have hfi : find (orb (nx g rot) p i) (it (nx g rot) i p) 0 = (s : Int) := by
        have := find_at (orb (nx g rot) p i) 0 s (by rw [orb_len]; exact hs) hn
        rw [orb_get hs, he] at this; simpa using this
      rw [hfi]
      refine Ev.pos (by omega) (Ev.pos (by rw [orb_len]; omega) ((Ev.now _).val ?_))
      have := orb_drop (nx g rot) p s (i - s)
      rw [hsp] at this
      rw [Int.toNat_natCast, this]
    · by_cases hneg : nx g rot (it (nx g rot) i p) < 0
      · left
        refine ⟨i, by omega, hneg, ha, ?_⟩
        refine Ev.succ ?_
        simp only [impl_Graph_cycleFrom.l0]
        refine Ev.bind (contains_ev _ _ (by rw [orb_len]; omega)) (Ev.neg (by simpa using hm) (Ev.pos (by rw [orb_len]; omega) (Ev.bind0 (next_eq h.rb h.len hp.1 hp.2) (Ev.pos hneg (Ev.now _)))))
      · have hstep : ∀ r, Ev (fun k => impl_Graph_cycleFrom.l0 k rot (it (nx g rot) (i + 1) p) (orb (nx g rot) p (i + 1)) g) r → Ev (fun k => impl_Graph_cycleFrom.l0 k rot (it (nx g rot) i p) (orb (nx g rot) p i) g) r := by
          intro r hr
          rw [it_succ, orb_succ] at hr
          refine Ev.succ ?_
          simp only [impl_Graph_cycleFrom.l0]
          exact Ev.bind (contains_ev _ _ (by rw [orb_len]; omega)) (Ev.neg (by simpa using hm) (Ev.pos (by rw [orb_len]; omega) (Ev.bind0 (next_eq h.rb h.len hp.1 hp.2) (Ev.neg hneg hr))))
        have ha2 : ∀ j, j < i + 1 → 0 ≤ nx g rot (it (nx g rot) j p) := by
          intro j hj
          by_cases hj2 : j = i
          · subst hj2; omega
          · exact ha j (by omega)
        rcases ih (i + 1) (by omega) (by omega) (by rw [orb_succ]; exact nodup_snoc hn hm) ha2 with ⟨j, j1, j2, j3, j4⟩ | ⟨s, per, j1, j2, j3⟩
        · exact .inl ⟨j, j1, j2, j3, hstep _ j4⟩
        · exact .inr ⟨s, per, j1, j2, hstep _ j3⟩
theorem cycleFrom_ev {g : List (List Int)} {rot : List Int} (h : Rot g rot) {p : Int} (h0 : 0 ≤ p) (h1 : p < (g.length : Int)) :
    (∃ j, j < g.length ∧ nx g rot (it (nx g rot) j p) < 0 ∧ (∀ m, m < j → 0 ≤ nx g rot (it (nx g rot) m p)) ∧ Ev (fun k => impl_Graph_cycleFrom.f k g rot p) ([], false)) ∨
    (∃ s per, Rho (nx g rot) g.length p s per ∧ (∀ j, 0 ≤ nx g rot (it (nx g rot) j p)) ∧ Ev (fun k => impl_Graph_cycleFrom.f k g rot p) (orb (nx g rot) (it (nx g rot) s p) per, true)) := by
  rcases cycleFrom_l0 h h0 h1 g.length 0 (by omega) (by omega) (by simp [orb]) (fun j hj => by omega) with h2 | ⟨s, per, j1, j2, j3⟩
  · exact .inl h2
  · refine .inr ⟨s, per, j1, fun j => ?_, j3⟩
    obtain ⟨m, hm, he⟩ := orb_mem.1 (j1.all j)
    rw [← he]; exact j2 m hm
end Go.Proofs.Ytnphoaecjeenjaa.M
namespace Go.Proofs.Ytnphoaecjeenjaa.P
open Go.RowKit Go.Proofs.YtnphoaecjeenjaaW.PrintWords Go.Proofs.YtnphoaecjeenjaaW.PrintLast Go.Proofs.YtnphoaecjeenjaaW.PrintMore
attribute [local go_sem] max2_int min2_int max_two min_two max_three min_three max_four min_four   -- for this text's walks alone
set_option linter.unusedVariables false
set_option linter.unusedSimpArgs false

/-! ### impl_Graph_isTree: function 64 -/
def impl_Graph_isTree.f (k : Nat) (l0_0 : List (List Int)) (a1 : Int) (l2 : List Int) : Option (Bool) := (impl_Graph_treeWays.f k l0_0 a1 l2).bind fun bt196 => (some bt196.2)
theorem impl_Graph_isTree.mono : ∀ a0 a1 a2 k, LeO (impl_Graph_isTree.f k a0 a1 a2) (impl_Graph_isTree.f (k + 1) a0 a1 a2) := by
  intro a0 a1 a2 k
  unfold impl_Graph_isTree.f
  repeat' first
      | (with_reducible exact impl_Graph_treeWays.mono _ _ _ _)
      | (with_reducible exact LeO.refl _)
      | (with_reducible exact LeO.none _)
      | (with_reducible refine LeO.ite ?_ ?_)
      | (with_reducible refine LeO.bind ?_ (fun _ => ?_))
      | exact impl_Graph_treeWays.mono _ _ _ _
      | exact LeO.none _
      | refine LeO.ite ?_ ?_
      | refine LeO.bind ?_ (fun _ => ?_)
set_option maxHeartbeats 8000000 in
set_option maxRecDepth 100000 in
theorem impl_Graph_isTree.calls (k : Nat) (A0_0 : Option Addr) (c0_0 : Nat) (l0_0 : List (List Int)) (a1 : Int) (A2 : Option Addr) (c2 : Nat) (l2 : List Int) (r : Bool) (w : World) (hr0_0 : Kd.C (Kd.slice 3 (Kd.int .i64)) w A0_0 l0_0.length l0_0) (hc0_0 : l0_0.length ≤ c0_0) (hr2 : Kd.C (Kd.int .i64) w A2 l2.length l2) (hc2 : l2.length ≤ c2) (h : impl_Graph_isTree.f k l0_0 a1 l2 = some r) :
    Calls Try.prog 64 #[.agg #[.slice A0_0 l0_0.length c0_0], .int .i64 a1, .slice A2 l2.length c2] w fun e w' => e = .returned (.bool r) ∧ Below w.heap.size w w' := by
  have hu28 := Try.underlying28
  have HR0_0 := Aside0.mk hr0_0
  have HC0_0 := Aside0.mk hc0_0
  clear hr0_0 hc0_0
  have HR2 := Aside0.mk hr2
  have HC2 := Aside0.mk hc2
  clear hr2 hc2
  have HB := Aside0.mk (Below.refl w.heap.size w)
  have H : ((impl_Graph_treeWays.f k l0_0 a1 l2).bind fun bt196 => (some bt196.2)) = some r := h
  clear h
  replace H := Option.bind_eq_some_iff.mp H
  obtain ⟨⟨t196, t199⟩, A40, H⟩ := H
  replace H : (some t199) = some r := H
  have A4 := Aside0.mk A40
  clear A40
  obtain rfl := Option.some.inj H
  go_enter Try.func64, Try.ntmps64
  go_wp2_with (first | ((with_reducible refine gate_dst (N := 3) rfl ?_); refine box_event ?hg (N := 3) ?hd (cs := #[.slice A0_0 l0_0.length c0_0]) (t := 28) ?hr ?_; (case hd => rfl); (case hg => rfl); (case hr => first | (go_simp; done) | (go_simp; rfl)); intro gb195 hg w5 hbox hb; have n0_ := Aside0.mk (below_step (by repeat (first | (with_reducible first | exact HB.out | apply below_alloc | apply pw_below_drewN | apply below_drew1) | exact HB.out)) hb); have n1_ := Aside0.mk (hbox); have n2_ := Aside0.mk ((by rw [hg]; exact (below_size (by repeat (first | (with_reducible first | exact HB.out | apply below_alloc | apply pw_below_drewN | apply below_drew1) | exact HB.out))) : w.heap.size ≤ gb195)); have n3_ := Aside0.mk ((by rw [hg]; exact (below_size (by repeat (first | (with_reducible first | exact HB.out | apply below_alloc | apply pw_below_drewN | apply below_drew1) | exact HB.out))) : w.heap.size ≤ gb195)); clear HB; have HB := n0_; have BK195 := n1_; have GW195 := n2_; have GE195 := n3_; clear n0_ n1_ n2_ n3_; clear hb hbox hg; have hcz6_0 : w5.cell? ⟨gb195, 0, none⟩ = some (.slice A0_0 l0_0.length c0_0) := (blk_cell BK195.out 0).trans rfl; have hfz6_0 := blk_frozen BK195.out 0) | ((with_reducible refine gate_callee (f := 75) rfl ?_); refine goesL_ (some 13) rfl rfl Try.func75 (by kernel_rfl) rfl #[.agg #[.slice A0_0 l0_0.length c0_0], .int .i64 a1, .slice A2 l2.length c2] rfl (by (try simp only [List.map_toArray, List.map_cons, List.map_nil]); first | done | rfl | (simp only [List.length_drop, List.length_take]; rfl)) ?_; (with_reducible refine (impl_Graph_treeWays.calls k _ _ l0_0 a1 _ _ l2 t196 t199 _ ?side1 ?side2 ?side3 ?side4 A4.out).mono ?_); (case side1 => repeat (first | exact (Kd.C_below HR0_0.out HB.out) | (with_reducible refine Kd.C_alloc ?_ _) | (with_reducible refine Kd.C_drewN ?_ _) | (with_reducible refine Kd.C_drew ?_))); (case side2 => exact HC0_0.out); (case side3 => repeat (first | exact (Kd.C_below HR2.out HB.out) | (with_reducible refine Kd.C_alloc ?_ _) | (with_reducible refine Kd.C_drewN ?_ _) | (with_reducible refine Kd.C_drew ?_))); (case side4 => exact HC2.out); rintro e w7 ⟨v197, rfl, ho0, hb⟩; refine ⟨_, rfl, ?_⟩; have n0_ := Aside0.mk (Kd.R_lower ho0 (below_size (by repeat (first | (with_reducible first | exact HB.out | apply below_alloc | apply pw_below_drewN | apply below_drew1 | refine below_set ?_ GE195.out) | exact HB.out)))); have n1_ := Aside0.mk (blk_below (g := gb195) (o := .cells #[.slice A0_0 l0_0.length c0_0] 28 (0, 0)) (by (with_reducible repeat (first | refine blk_drewN ?_ _ | refine blk_drew ?_ | refine blk_alloc ?_ _)); exact BK195.out) hb); have n2_ := Aside0.mk (below_step (by repeat (first | (with_reducible first | exact HB.out | apply below_alloc | apply pw_below_drewN | apply below_drew1 | refine below_set ?_ GE195.out) | exact HB.out)) hb); clear BK195; clear HB; have HO198 := n0_; have BK195 := n1_; have HB := n2_; clear n0_ n1_ n2_; (try clear hb); (try clear hb2); (try clear hk); (try clear hi); (try clear ho0)))
  go_ret
  exact ⟨by first | rfl | (simp [errW_none, errW_some] <;> rfl) | (simp [*, errW_none, errW_some] <;> rfl), by repeat (first | (with_reducible first | exact HB.out | apply below_alloc | apply pw_below_drewN | apply below_drew1 | refine below_set ?_ GE195.out) | exact HB.out)⟩

end Go.Proofs.Ytnphoaecjeenjaa.P
namespace Go.Proofs.Ytnphoaecjeenjaa.M
open Go.RowKit Go.Proofs.Ytnphoaecjeenjaa.P Go.Proofs.Ytnphoaecjeenjaa.In Go.Proofs.YtnphoaecjeenjaaW.PrintWords Go.Proofs.YtnphoaecjeenjaaW.PrintLast
set_option linter.unusedVariables false
set_option linter.unusedSimpArgs false
/-- m next places lead to the sink, not fewer. -/
structure Hit (f : Int → Int) (sink p : Int) (m : Nat) : Prop where
  at_ : it f m p = sink
  on : ∀ j, j < m → it f j p ≠ sink ∧ 0 ≤ f (it f j p)
theorem Hit.uniq {f : Int → Int} {sink p : Int} {m m' : Nat} (h : Hit f sink p m) (h' : Hit f sink p m') : m = m' := by
  rcases Nat.lt_trichotomy m m' with h2 | h2 | h2
  · exact absurd h.at_ (h'.on m h2).1
  · exact h2
  · exact absurd h'.at_ (h.on m' h2).1
theorem Hit.nodup {f : Int → Int} {sink p : Int} {m : Nat} (h : Hit f sink p m) : (orb f p (m + 1)).Nodup := by
  unfold orb
  rw [List.nodup_iff_pairwise_ne, List.pairwise_map]
  refine List.Pairwise.imp_of_mem ?_ (List.pairwise_lt_range (n := m + 1))
  intro i j hi hj hlt he
  have hj2 : j < m + 1 := List.mem_range.1 hj
  have : it f (i + (m - j)) p = sink := by
    rw [it_add, he, ← it_add, show j + (m - j) = m by omega]; exact h.at_
  exact (h.on (i + (m - j)) (by omega)).1 this
theorem Hit.lt {g : List (List Int)} {rot : List Int} (hr : Rot g rot) {sink p : Int} (h0 : 0 ≤ p) (h1 : p < (g.length : Int)) {m : Nat} (h : Hit (nx g rot) sink p m) : m < g.length := by
  have := pigeon g.length _ h.nodup (hr.orb_ok h0 h1 (fun j hj => (h.on j (by omega)).2))
  rw [orb_len] at this; omega
open Classical in
noncomputable def dst (f : Int → Int) (sink p : Int) : Int := if h : ∃ m, Hit f sink p m then ((Classical.choose h : Nat) : Int) else -1
theorem dst_hit {f : Int → Int} {sink p : Int} {m : Nat} (h : Hit f sink p m) : dst f sink p = m := by
  have he : ∃ m, Hit f sink p m := ⟨m, h⟩
  unfold dst
  rw [dif_pos he]
  have := h.uniq (Classical.choose_spec he)
  omega
theorem dst_no {f : Int → Int} {sink p : Int} (h : ¬ ∃ m, Hit f sink p m) : dst f sink p = -1 := by unfold dst; rw [dif_neg h]
theorem trFar_l0 {g : List (List Int)} {rot : List Int} (hr : Rot g rot) {sink p : Int} (h0 : 0 ≤ p) (h1 : p < (g.length : Int)) : ∀ (d i : Nat), g.length - i = d → i ≤ g.length → (∀ j, j < i → it (nx g rot) j p ≠ sink ∧ 0 ≤ nx g rot (it (nx g rot) j p)) → Ev (fun k => spec_trFar.l0 k sink rot (it (nx g rot) i p) i g) (dst (nx g rot) sink p) := by
  have h8 := (good_iff hr.good).1.2
  intro d
  induction d with
  | zero =>
    intro i hd hi ha
    refine Ev.succ ?_
    simp only [spec_trFar.l0]
    refine Ev.neg (by omega) ((Ev.now _).val ?_)
    symm; apply dst_no
    rintro ⟨m, hm⟩
    have hlt := hm.lt hr h0 h1
    exact (ha m (by omega)).1 hm.at_
  | succ d ih =>
    intro i hd hi ha
    have hp := hr.it_ok h0 h1 i (fun j hj => (ha j hj).2)
    refine Ev.succ ?_
    simp only [spec_trFar.l0]
    refine Ev.pos (by omega) ?_
    by_cases hs : it (nx g rot) i p = sink
    · exact Ev.pos hs ((Ev.now _).val (dst_hit ⟨hs, ha⟩).symm)
    · refine Ev.neg hs (Ev.bind0 (trNext_eq hr.rb hr.len hp.1 hp.2) ?_)
      by_cases hneg : nx g rot (it (nx g rot) i p) < 0
      · refine Ev.pos hneg ((Ev.now _).val ?_)
        symm; apply dst_no
        rintro ⟨m, hm⟩
        rcases Nat.lt_trichotomy m i with h2 | h2 | h2
        · exact (ha m h2).1 hm.at_
        · subst h2; exact hs hm.at_
        · have := (hm.on i h2).2; omega
      · refine Ev.neg hneg ?_
        rw [wrap_nat (by omega), ← it_succ (nx g rot) i p]
        refine ih (i + 1) (by omega) (by omega) (fun j hj => ?_)
        by_cases hj2 : j = i
        · subst hj2; exact ⟨hs, by omega⟩
        · exact ha j (by omega)
theorem trFar_ev {g : List (List Int)} {rot : List Int} (hr : Rot g rot) {sink p : Int} (h0 : 0 ≤ p) (h1 : p < (g.length : Int)) : Ev (fun k => spec_trFar.f k g sink rot p) (dst (nx g rot) sink p) :=
  trFar_l0 hr h0 h1 g.length 0 (by omega) (by omega) (fun j hj => by omega)
noncomputable def allFrom (g : List (List Int)) (rot : List Int) (sink : Int) : Nat → Nat → Bool
  | 0, _ => true
  | d + 1, i => if dst (nx g rot) sink i < 0 then false else allFrom g rot sink d (i + 1)
noncomputable def waysFrom (g : List (List Int)) (rot : List Int) (sink : Int) : Nat → Nat → List Int → List Int
  | 0, _, acc => acc
  | d + 1, i, acc => waysFrom g rot sink d (i + 1) (acc ++ [dst (nx g rot) sink i])
noncomputable def treeB (g : List (List Int)) (rot : List Int) (sink : Int) : Bool := allFrom g rot sink g.length 0
noncomputable def wayList (g : List (List Int)) (rot : List Int) (sink : Int) : List Int := waysFrom g rot sink g.length 0 []
theorem waysFrom_len (g : List (List Int)) (rot : List Int) (sink : Int) : ∀ (d i : Nat) (acc : List Int), (waysFrom g rot sink d i acc).length = acc.length + d := by
  intro d
  induction d with
  | zero => intro i acc; rfl
  | succ d ih => intro i acc; simp only [waysFrom]; rw [ih]; simp; omega
theorem trIs_l0 {g : List (List Int)} {rot : List Int} (hr : Rot g rot) (sink : Int) : ∀ (d i : Nat), g.length - i = d → i ≤ g.length → Ev (fun k => spec_trIs.l0 k sink rot g.length i g) (allFrom g rot sink d i) := by
  have h8 := (good_iff hr.good).1.2
  intro d
  induction d with
  | zero =>
    intro i hd hi
    refine Ev.succ ?_
    simp only [spec_trIs.l0]
    exact Ev.neg (by omega) (Ev.now _)
  | succ d ih =>
    intro i hd hi
    refine Ev.succ ?_
    simp only [spec_trIs.l0, allFrom]
    refine Ev.pos (by omega) (Ev.bind (trFar_ev hr (by omega) (by omega)) ?_)
    by_cases h : dst (nx g rot) sink i < 0
    · rw [if_pos h]; exact Ev.pos h (Ev.now _)
    · rw [if_neg h]
      refine Ev.neg h ?_
      rw [wrap_nat (by omega)]
      exact ih (i + 1) (by omega) (by omega)
theorem trIs_ev {g : List (List Int)} {rot : List Int} (hr : Rot g rot) (sink : Int) : Ev (fun k => spec_trIs.f k g sink rot) (treeB g rot sink) := trIs_l0 hr sink g.length 0 (by omega) (by omega)
/-- The inner way of the program, from a place on. -/
theorem treeWays_l1 {g : List (List Int)} {rot : List Int} (hr : Rot g rot) {sink p : Int} (h0 : 0 ≤ p) (h1 : p < (g.length : Int)) (acc : List Int) (hacc : acc.length ≤ 100) (x : Int) : ∀ (d i : Nat), g.length + 1 - i = d → i ≤ g.length + 1 → (∀ j, j < i → it (nx g rot) j p ≠ sink ∧ 0 ≤ nx g rot (it (nx g rot) j p)) →
    (dst (nx g rot) sink p < 0 → Ev (fun k => impl_Graph_treeWays.l1 k sink rot acc i (it (nx g rot) i p) g.length x g) ([], false)) ∧
    (¬ dst (nx g rot) sink p < 0 → ∀ r, Ev (fun k => impl_Graph_treeWays.l0 k sink rot (acc ++ [dst (nx g rot) sink p]) g.length (wrap64 (x + 1)) g) r → Ev (fun k => impl_Graph_treeWays.l1 k sink rot acc i (it (nx g rot) i p) g.length x g) r) := by
  have h8 := (good_iff hr.good).1.2
  intro d
  induction d with
  | zero =>
    intro i hd hi ha
    have hp := hr.it_ok h0 h1 i (fun j hj => (ha j hj).2)
    have hno : ¬ ∃ m, Hit (nx g rot) sink p m := by
      rintro ⟨m, hm⟩
      have hlt := hm.lt hr h0 h1
      exact (ha m (by omega)).1 hm.at_
    have hns : it (nx g rot) i p ≠ sink := fun e => hno ⟨i, e, ha⟩
    refine ⟨fun _ => ?_, fun h => absurd (dst_no hno) (by omega)⟩
    refine Ev.succ ?_
    simp only [impl_Graph_treeWays.l1]
    refine Ev.neg hns (Ev.bind0 (next_eq hr.rb hr.len hp.1 hp.2) ?_)
    by_cases hneg : nx g rot (it (nx g rot) i p) < 0
    · exact Ev.pos hneg (Ev.now _)
    · exact Ev.neg hneg (Ev.pos (by omega) (Ev.now _))
  | succ d ih =>
    intro i hd hi ha
    have hp := hr.it_ok h0 h1 i (fun j hj => (ha j hj).2)
    by_cases hs : it (nx g rot) i p = sink
    · have hh : dst (nx g rot) sink p = i := dst_hit ⟨hs, ha⟩
      refine ⟨fun h => by omega, fun _ r hrr => ?_⟩
      rw [hh] at hrr
      refine Ev.succ ?_
      simp only [impl_Graph_treeWays.l1]
      exact Ev.pos hs (Ev.pos (by omega) hrr)
    · by_cases hneg : nx g rot (it (nx g rot) i p) < 0
      · have hno : ¬ ∃ m, Hit (nx g rot) sink p m := by
          rintro ⟨m, hm⟩
          rcases Nat.lt_trichotomy m i with h2 | h2 | h2
          · exact (ha m h2).1 hm.at_
          · subst h2; exact hs hm.at_
          · have := (hm.on i h2).2; omega
        refine ⟨fun _ => ?_, fun h => absurd (dst_no hno) (by omega)⟩
        refine Ev.succ ?_
        simp only [impl_Graph_treeWays.l1]
        exact Ev.neg hs (Ev.bind0 (next_eq hr.rb hr.len hp.1 hp.2) (Ev.pos hneg (Ev.now _)))
      · have hrec := ih (i + 1) (by omega) (by omega) (fun j hj => by
          by_cases hj2 : j = i
          · subst hj2; exact ⟨hs, by omega⟩
          · exact ha j (by omega))
        have hstep : ∀ r, Ev (fun k => impl_Graph_treeWays.l1 k sink rot acc (i + 1 : Nat) (it (nx g rot) (i + 1) p) g.length x g) r → Ev (fun k => impl_Graph_treeWays.l1 k sink rot acc i (it (nx g rot) i p) g.length x g) r := by
          intro r hrr
          rw [it_succ] at hrr
          refine Ev.succ ?_
          simp only [impl_Graph_treeWays.l1]
          refine Ev.neg hs (Ev.bind0 (next_eq hr.rb hr.len hp.1 hp.2) (Ev.neg hneg (Ev.neg (by omega) ?_)))
          rw [wrap_nat (by omega)]; exact hrr
        exact ⟨fun h => hstep _ (hrec.1 h), fun h r hrr => hstep _ (hrec.2 h r hrr)⟩
theorem treeWays_l0 {g : List (List Int)} {rot : List Int} (hr : Rot g rot) (sink : Int) : ∀ (d i : Nat) (acc : List Int), g.length - i = d → i ≤ g.length → acc.length = i → Ev (fun k => impl_Graph_treeWays.l0 k sink rot acc g.length i g) (cond (allFrom g rot sink d i) (waysFrom g rot sink d i acc, true) ([], false)) := by
  have h8 := (good_iff hr.good).1.2
  intro d
  induction d with
  | zero =>
    intro i acc hd hi hac
    refine Ev.succ ?_
    simp only [impl_Graph_treeWays.l0]
    exact Ev.neg (by omega) (Ev.now _)
  | succ d ih =>
    intro i acc hd hi hac
    have hl := treeWays_l1 hr (sink := sink) (p := (i : Int)) (by omega) (by omega) acc (by omega) (i : Int) (g.length + 1) 0 (by omega) (by omega) (fun j hj => by omega)
    refine Ev.succ ?_
    simp only [impl_Graph_treeWays.l0, allFrom, waysFrom]
    refine Ev.pos (by omega) ?_
    by_cases h : dst (nx g rot) sink i < 0
    · rw [if_pos h]; exact hl.1 h
    · rw [if_neg h]
      refine hl.2 h _ ?_
      rw [wrap_nat (by omega)]
      exact ih (i + 1) _ (by omega) (by omega) (by simp; omega)
theorem treeWays_ev {g : List (List Int)} {rot : List Int} (hr : Rot g rot) (sink : Int) : Ev (fun k => impl_Graph_treeWays.f k g sink rot) (cond (treeB g rot sink) (wayList g rot sink, true) ([], false)) :=
  treeWays_l0 hr sink g.length 0 [] (by omega) (by omega) rfl
theorem isTree_ev {g : List (List Int)} {rot : List Int} (hr : Rot g rot) (sink : Int) : Ev (fun k => impl_Graph_isTree.f k g sink rot) (treeB g rot sink) := by
  unfold impl_Graph_isTree.f
  refine Ev.bind (treeWays_ev hr sink) ((Ev.now _).val ?_)
  cases h : treeB g rot sink <;> simp
theorem place_of0 {g : List (List Int)} (hg : goodG g = true) : placeB g 0 = true := by
  have := (good_iff hg).1
  unfold placeB; rw [hg]; simp; omega
/-- Are there a graph, a sink and rotors. -/
def sinkB (g : List (List Int)) (sink : Int) (rot : List Int) : Bool := placeB g sink && (decide (rot.length = g.length) && rotB rot g) && (rd rot sink == 0)
theorem Rot.of_sink {g : List (List Int)} {sink : Int} {rot : List Int} (h : sinkB g sink rot = true) : Rot g rot ∧ 0 ≤ sink ∧ sink < (g.length : Int) := by
  unfold sinkB at h
  simp only [Bool.and_eq_true, decide_eq_true_eq] at h
  obtain ⟨hg, h0, h1⟩ := place_iff h.1.1
  exact ⟨⟨hg, h.1.2.2, h.1.2.1⟩, h0, h1⟩
theorem areSink_ev (g : List (List Int)) (sink : Int) (rot : List Int) : Ev (fun k => impl_areSinkRotors.f k g sink rot) (sinkB g sink rot) := by
  unfold impl_areSinkRotors.f impl_areRotors.f sinkB
  refine Ev.bind0 (has1 g sink) ?_
  by_cases hp : placeB g sink = true
  · obtain ⟨hg, h0, h1⟩ := place_iff hp
    have hp0 : placeB g 0 = true := place_of0 hg
    refine Ev.pos hp (Ev.bind (Ev.bind (isWalk g rot 0) (Ev.now _)) ?_)
    have hw : walkB g rot 0 = (decide (rot.length = g.length) && rotB rot g) := by unfold walkB; rw [hp0]; rfl
    rw [hw]
    by_cases hr : (decide (rot.length = g.length) && rotB rot g) = true
    · have hlen : rot.length = g.length := by simp only [Bool.and_eq_true, decide_eq_true_eq] at hr; exact hr.1
      refine Ev.pos hr (Ev.pos h0 (Ev.pos (by omega) ((Ev.now _).val ?_)))
      rw [hp, hr]; simp
    · refine Ev.neg hr ((Ev.now _).val ?_)
      rw [Bool.eq_false_iff.mpr hr]; simp
  · refine Ev.neg hp ((Ev.now _).val ?_)
    rw [Bool.eq_false_iff.mpr hp]; simp
theorem trGood_ev (g : List (List Int)) (hl : okSS g) (sink : Int) (rot : List Int) : Ev (fun k => spec_trGood.f k g sink rot) (sinkB g sink rot) := by
  unfold spec_trGood.f sinkB
  refine Ev.bind (grPlace g sink hl) ?_
  by_cases hp : placeB g sink = true
  · obtain ⟨hg, h0, h1⟩ := place_iff hp
    refine Ev.pos hp (Ev.bind (waGood g hl rot sink) ?_)
    have hw : walkB g rot sink = (decide (rot.length = g.length) && rotB rot g) := by unfold walkB; rw [hp]; rfl
    rw [hw]
    by_cases hr : (decide (rot.length = g.length) && rotB rot g) = true
    · have hlen : rot.length = g.length := by simp only [Bool.and_eq_true, decide_eq_true_eq] at hr; exact hr.1
      refine Ev.pos hr (Ev.pos h0 (Ev.pos (by omega) ((Ev.now _).val ?_)))
      rw [hp, hr]; simp
    · refine Ev.neg hr ((Ev.now _).val ?_)
      rw [Bool.eq_false_iff.mpr hr]; simp
  · refine Ev.neg hp ((Ev.now _).val ?_)
    rw [Bool.eq_false_iff.mpr hp]; simp
end Go.Proofs.Ytnphoaecjeenjaa.M
namespace Go.Proofs.Ytnphoaecjeenjaa.M
open Go.RowKit Go.Proofs.Ytnphoaecjeenjaa.P Go.Proofs.Ytnphoaecjeenjaa.In Go.Proofs.YtnphoaecjeenjaaW.PrintWords Go.Proofs.YtnphoaecjeenjaaW.PrintLast
set_option linter.unusedVariables false
set_option linter.unusedSimpArgs false
def marks (a : Int) : Nat → List Int
  | 0 => []
  | n + 1 => a :: marks (a + 1) n
theorem marks_len (a : Int) (n : Nat) : (marks a n).length = n := by
  induction n generalizing a with
  | zero => rfl
  | succ n ih => simp [marks, ih]
theorem markIntS_l0 (n : Nat) (hn : n ≤ 4611686018427387904) : ∀ (d i : Nat) (x : List Int) (a : Int), x.length = n → n - i = d → i ≤ n → 0 ≤ a → a + d ≤ 4611686018427387904 → Ev (fun k => laws_markIntS.l0 k x a i) (a + d, x.take i ++ marks a d) := by
  intro d
  induction d with
  | zero =>
    intro i x a hx hd hi h0 h1
    refine Ev.succ ?_
    simp only [laws_markIntS.l0]
    refine Ev.neg (by omega) ((Ev.now _).val ?_)
    rw [List.take_of_length_le (by omega)]; simp [marks]
  | succ d ih =>
    intro i x a hx hd hi h0 h1
    refine Ev.succ ?_
    simp only [laws_markIntS.l0]
    refine Ev.pos (by omega) (Ev.pos (by omega) ?_)
    rw [wrap_id (x := a + 1) (by omega), wrap_nat (by omega), Int.toNat_natCast]
    refine (ih (i + 1) (x.set i a) (a + 1) (by rw [List.length_set]; exact hx) (by omega) (by omega) (by omega) (by omega)).val ?_
    rw [List.take_succ_eq_append_getElem (by rw [List.length_set]; omega), List.take_set_of_le (Nat.le_refl _), List.getElem_set_self]
    simp only [marks, List.append_assoc, List.singleton_append]
    congr 1; omega
theorem markIntS (x : List Int) (a : Int) (hn : x.length ≤ 4611686018427387904) (h0 : 0 ≤ a) (h1 : a + x.length ≤ 4611686018427387904) : Ev (fun k => laws_markIntS.f k x a) (a + x.length, marks a x.length) := by
  have := markIntS_l0 x.length hn x.length 0 x a rfl (by omega) (by omega) h0 h1
  unfold laws_markIntS.f
  simpa using this
theorem heldIntS_l0 (n : Nat) (hn : n ≤ 4611686018427387904) (y : List Int) (hy : y.length = n) : ∀ (d i : Nat) (a : Int), n - i = d → i ≤ n → 0 ≤ a → a + d ≤ 4611686018427387904 → y.drop i = marks a d → Ev (fun k => laws_heldIntS.l0 k y a i) (a + d) := by
  intro d
  induction d with
  | zero =>
    intro i a hd hi h0 h1 he
    refine Ev.succ ?_
    simp only [laws_heldIntS.l0]
    exact Ev.neg (by omega) ((Ev.now _).val (by simp))
  | succ d ih =>
    intro i a hd hi h0 h1 he
    have hlt : i < y.length := by omega
    rw [List.drop_eq_getElem_cons hlt] at he
    simp only [marks, List.cons.injEq] at he
    refine Ev.succ ?_
    simp only [laws_heldIntS.l0]
    refine Ev.pos (by omega) (Ev.pos (by omega) (Ev.pos (by rw [rd_at hlt]; exact he.1) ?_))
    rw [wrap_id (x := a + 1) (by omega), wrap_nat (by omega)]
    exact (ih (i + 1) (a + 1) (by omega) (by omega) (by omega) (by omega) he.2).val (by omega)
theorem heldIntS (a : Int) (n : Nat) (h0 : 0 ≤ a) (h1 : a + n ≤ 4611686018427387904) : Ev (fun k => laws_heldIntS.f k (marks a n) a) (a + n) :=
  heldIntS_l0 n (by omega) _ (marks_len a n) n 0 a (by omega) (by omega) h0 h1 (by simp)
theorem markR (r : List Int) (h : r.length ≤ 1048576) : ∃ q r', Ev (fun k => laws_markIntS.f k r 1) (q, r') ∧ 0 ≤ q ∧ Ev (fun k => laws_heldIntS.f k r' 1) q ∧ True :=
  ⟨_, _, markIntS r 1 (by omega) (by omega) (by omega), by omega, heldIntS 1 r.length (by omega) (by omega), trivial⟩
end Go.Proofs.Ytnphoaecjeenjaa.M
namespace Go.Proofs.Ytnphoaecjeenjaa.M
open Go.RowKit Go.Proofs.Ytnphoaecjeenjaa.P Go.Proofs.Ytnphoaecjeenjaa.In Go.Proofs.YtnphoaecjeenjaaW.PrintWords Go.Proofs.YtnphoaecjeenjaaW.PrintLast
set_option linter.unusedVariables false
set_option linter.unusedSimpArgs false
def markRows (a : Int) : List (List Int) → Int × List (List Int)
  | [] => (a, [])
  | row :: rest => ((markRows (a + row.length) rest).1, marks a row.length :: (markRows (a + row.length) rest).2)
theorem markIntSS_l0 (n : Nat) (hn : n ≤ 1048576) : ∀ (d i : Nat) (x : List (List Int)) (a : Int), x.length = n → (∀ row ∈ x.drop i, row.length ≤ 1048576) → n - i = d → i ≤ n → 0 ≤ a → a + 1048576 * d ≤ 4611686018427387904 → Ev (fun k => laws_markIntSS.l0 k x a i) ((markRows a (x.drop i)).1, x.take i ++ (markRows a (x.drop i)).2) ∧ a ≤ (markRows a (x.drop i)).1 ∧ (markRows a (x.drop i)).1 ≤ a + 1048576 * d := by
  intro d
  induction d with
  | zero =>
    intro i x a hx hr hd hi h0 h1
    rw [List.drop_of_length_le (by omega)]
    refine ⟨?_, by simp [markRows], by simp [markRows]⟩
    refine Ev.succ ?_
    simp only [laws_markIntSS.l0]
    refine Ev.neg (by omega) ((Ev.now _).val ?_)
    rw [List.take_of_length_le (by omega)]; simp [markRows]
  | succ d ih =>
    intro i x a hx hr hd hi h0 h1
    have hlt : i < x.length := by omega
    have hrow := hr x[i] (by rw [List.drop_eq_getElem_cons hlt]; exact List.mem_cons_self)
    have hdrop : (x.set i (marks a x[i].length)).drop (i + 1) = x.drop (i + 1) := List.drop_set_of_lt (by omega)
    obtain ⟨e1, e2, e3⟩ := ih (i + 1) (x.set i (marks a x[i].length)) (a + x[i].length) (by rw [List.length_set]; exact hx) (fun row hm => hr row (by rw [hdrop] at hm; rw [List.drop_eq_getElem_cons hlt]; exact List.mem_cons_of_mem _ hm)) (by omega) (by omega) (by omega) (by omega)
    rw [hdrop] at e1 e2 e3
    rw [List.drop_eq_getElem_cons hlt]
    simp only [markRows]
    refine ⟨?_, by omega, by omega⟩
    refine Ev.succ ?_
    simp only [laws_markIntSS.l0]
    refine Ev.pos (by omega) (Ev.pos (by omega) ?_)
    rw [rdL_at hlt]
    refine Ev.bind (markIntS x[i] a (by omega) h0 (by omega)) ?_
    rw [wrap_nat (by omega), Int.toNat_natCast]
    refine e1.val ?_
    rw [List.take_succ_eq_append_getElem (by rw [List.length_set]; omega), List.take_set_of_le (Nat.le_refl _), List.getElem_set_self]
    simp
theorem markIntSS (x : List (List Int)) (hx : small x) (a : Int) (h0 : 0 ≤ a) (h1 : a ≤ 1099511627776) : Ev (fun k => laws_markIntSS.f k x a) ((markRows a x).1, (markRows a x).2) ∧ a ≤ (markRows a x).1 ∧ (markRows a x).1 ≤ a + 1099511627776 := by
  have hl := hx.1
  obtain ⟨e1, e2, e3⟩ := markIntSS_l0 x.length hx.1 x.length 0 x a rfl (fun row hm => hx.2 row (by simpa using hm)) (by omega) (by omega) h0 (by omega)
  refine ⟨by unfold laws_markIntSS.f; simpa using e1, by simpa using e2, ?_⟩
  have : (markRows a x).1 ≤ a + 1048576 * x.length := by simpa using e3
  omega
theorem markG (x : List (List Int)) (hx : small x) : ∃ m x', Ev (fun k => laws_markGraph.f k x 1) (m, x') ∧ 0 ≤ m ∧ m ≤ 1099511627777 := by
  obtain ⟨e1, e2, e3⟩ := markIntSS x hx 1 (by omega) (by omega)
  exact ⟨_, _, e1, by omega, by omega⟩
end Go.Proofs.Ytnphoaecjeenjaa.M
namespace Go.Proofs.Ytnphoaecjeenjaa.Pure
open Go.RowKit Go.Proofs.Ytnphoaecjeenjaa.P Go.Proofs.Ytnphoaecjeenjaa.In Go.Proofs.Ytnphoaecjeenjaa.M Go.Proofs.YtnphoaecjeenjaaW.PrintWords Go.Proofs.YtnphoaecjeenjaaW.PrintLast
set_option linter.unusedVariables false
set_option linter.unusedSimpArgs false
theorem specWays_l0 {g : List (List Int)} {rot : List Int} (hr : Rot g rot) (sink : Int) : ∀ (d i : Nat) (acc : List Int), g.length - i = d → i ≤ g.length → acc.length = i → Ev (fun k => spec_TreeWays.l0 k sink rot acc g.length i g) (waysFrom g rot sink d i acc, true) := by
  have h8 := (good_iff hr.good).1.2
  intro d
  induction d with
  | zero =>
    intro i acc hd hi ha
    refine Ev.succ ?_
    simp only [spec_TreeWays.l0]
    exact Ev.neg (by omega) (Ev.now _)
  | succ d ih =>
    intro i acc hd hi ha
    refine Ev.succ ?_
    simp only [spec_TreeWays.l0, waysFrom]
    refine Ev.pos (by omega) (Ev.bind (trFar_ev hr (by omega) (by omega)) (Ev.pos (by omega) ?_))
    rw [wrap_nat (by omega)]
    exact ih (i + 1) _ (by omega) (by omega) (by simp; omega)
theorem FnExactTreeWays (l : List (List Int)) (hl : okSS l) (p : Int) (hp : okI p) (ro : List Int) (hro : okIs ro) : laws_FnExactTreeWays.f l p ro = some true := by
  unfold laws_FnExactTreeWays.f
  rw [if_pos]
  unfold laws_FnExactTreeWays.Good
  intro hlen
  obtain ⟨r, hr, _, hs⟩ := szGraph l hl
  refine ⟨r, hr, fun h => ?_⟩
  have sm := hs h
  obtain ⟨v, b, hS, hI, hv⟩ : ∃ (v : List Int) (b : Bool), Ev (fun k => spec_TreeWays.f k l p ro) (v, b) ∧ Ev (fun k => impl_TreeWays.f k l p ro) (v, b) ∧ v.length ≤ 1048576 := by
    by_cases hg : sinkB l p ro = true
    · obtain ⟨hrot, h0, h1⟩ := Rot.of_sink hg
      have h8 := (good_iff hrot.good).1.2
      by_cases ht : treeB l ro p = true
      · refine ⟨wayList l ro p, true, ?_, ?_, by unfold wayList; rw [waysFrom_len]; simp; omega⟩
        · unfold spec_TreeWays.f
          refine Ev.bind (trGood_ev l hl p ro) (Ev.pos hg (Ev.bind (trIs_ev hrot p) ?_))
          refine Ev.succ ?_
          simp only [spec_TreeWays.j0]
          exact Ev.neg (by simp [ht]) (specWays_l0 hrot p l.length 0 [] (by omega) (by omega) rfl)
        · unfold impl_TreeWays.f
          exact Ev.bind (areSink_ev l p ro) (Ev.pos hg (Ev.bind (treeWays_ev hrot p) ((Ev.now _).val (by rw [ht]; rfl))))
      · refine ⟨[], false, ?_, ?_, by simp⟩
        · unfold spec_TreeWays.f
          refine Ev.bind (trGood_ev l hl p ro) (Ev.pos hg (Ev.bind (trIs_ev hrot p) ?_))
          refine Ev.succ ?_
          simp only [spec_TreeWays.j0]
          exact Ev.pos (by simp [ht]) (Ev.now _)
        · unfold impl_TreeWays.f
          exact Ev.bind (areSink_ev l p ro) (Ev.pos hg (Ev.bind (treeWays_ev hrot p) ((Ev.now _).val (by rw [Bool.eq_false_iff.mpr ht]; rfl))))
    · refine ⟨[], false, ?_, ?_, by simp⟩
      · unfold spec_TreeWays.f
        refine Ev.bind (trGood_ev l hl p ro) (Ev.neg hg ?_)
        refine Ev.succ ?_
        simp only [spec_TreeWays.j0]
        exact Ev.pos (by simp) (Ev.now _)
      · unfold impl_TreeWays.f
        exact Ev.bind (areSink_ev l p ro) (Ev.neg hg (Ev.now _))
  obtain ⟨m, l', hm, hm0, hm1⟩ := markG l sm
  exact ⟨toGraph l sm, toIntS ro (by omega), v, b, hS, hI, (eqIntS v v (by omega)).val (decide_eq_true rfl), small_eq l sm, (eqIntS ro ro (by omega)).val (decide_eq_true rfl), m, l', hm, hm0, _, _, markIntS ro m (by omega) hm0 (by omega), by omega, markR v hv⟩
end Go.Proofs.Ytnphoaecjeenjaa.Pure
namespace Go.Proofs.Ytnphoaecjeenjaa.fnExactTreeWays
open Go.ChangeShapes Go.WideShapes Go.ChangeAt Go.RowKit
open Go.ChangeMaps (open_string shut_string)
open Go.Proofs.Ytnphoaecjeenjaa.In Go.Proofs.Ytnphoaecjeenjaa.P
set_option linter.unusedVariables false
theorem own : ownKnob Try.prog.godebug = none := by kernel_rfl
theorem laidOut : laidOutB Try.prog = true := by kernel_rfl
set_option maxRecDepth 100000 in
theorem lifted (os : Os) (started : os.Started) (H : Type) (enc : TypeId × Value → H) :
    ReturnsInHanded {} Try.checked os 9 .any (Rows.fnExactTreeWaysSpec.pre6 enc Try.prog Try.f9 Rows.fnExactTreeWaysRow.domain false) (Rows.fnExactTreeWaysSpec.post enc Try.prog Try.f9 false true false false) := by
  refine returnsInHanded_of_change_sized (C := Try.checked) own started (by kernel_rfl) Try.func9
    (ChangeSpec.witness6 (enc := enc) (C := Try.checked) false ⟨#[], #[.agg #[.slice none 0 0], .int .i64 0, .slice none 0 0], []⟩ 8 (by kernel_rfl) (by kernel_rfl) (by kernel_rfl) (by kernel_rfl)) ?_
  intro W base args ds gs before hval0 hW hcnd hsz0 _
  have hsz : (DataW.weightsEach Try.prog (Try.f9.params.toList ++ Rows.fnExactTreeWaysSpec.plain.varTypes Try.prog) (ds ++ gs)).all (· ≤ reachBytes) = true := hsz0
  have hval : ∀ (j : Nat) t v, Try.f9.params[j]? = some t → args[j]? = some v → Value.okWide Try.prog W .any base t v := hval0
  have hW' := hW
  obtain ⟨p, q, hA0, hV, rfl, hfz, hnd⟩ := hW
  have hA : DataW.TrodAll enc Try.prog W 0 (fun _ => true) true Try.f9.params.toList args.toList ds p := hA0
  rw [Try.params9] at hA hval hsz
  obtain ⟨v0, vs0, d0, ds0, p0, q0, hargs, rfl, rfl, h0, r0⟩ := trodAll_cons hA
  obtain ⟨v1, vs1, d1, ds1, p1, q1, rfl, rfl, rfl, h1, r1⟩ := trodAll_cons r0
  obtain ⟨v2, vs2, d2, ds2, p2, q2, rfl, rfl, rfl, h2, r2⟩ := trodAll_cons r1
  obtain ⟨rfl, rfl, rfl⟩ := trodAll_nil r2
  obtain rfl : args = #[v0, v1, v2] := by cases args; simp_all
  obtain ⟨rfl, rfl⟩ := trodVars_none hV
  have k0 := h0
  have lt0 : ∀ x ∈ p0, x.block < W.heap.size := by obtain ⟨m, hm⟩ := k0; exact DataW.trod_lt m _ _ _ hm
  obtain ⟨A0, l0, cap0, rfl, hl0, hc0, hw0⟩ := in_graph (q := 3) Try.underlying24 (by kernel_rfl) (by kernel_rfl) rfl Try.underlying22 Try.underlying35 Try.underlying3 (by kernel_rfl) (by kernel_rfl) (hval 0 24 v0 rfl rfl) h0
  obtain ⟨a1, rfl, rfl, rfl, w1⟩ := open_int Try.underlying3 (hval 1 3 v1 rfl rfl) h1
  have k2 := h2
  have lt2 : ∀ x ∈ p2, x.block < W.heap.size := by obtain ⟨m, hm⟩ := k2; exact DataW.trod_lt m _ _ _ hm
  obtain ⟨A2, l2, cap2, rfl, hl2, hc2, hw2⟩ := in_slice (q := 3) Try.underlying35 Try.underlying3 (by kernel_rfl) (hval 2 35 v2 rfl rfl) h2
  clear hA0 hval0 hsz0 hsz
  have h := Pure.FnExactTreeWays l0 (okSS_wf hc0 hw0) a1 (okI_wf w1) l2 (okIs_wf hw2)
  refine (laws_FnExactTreeWays.calls _ _ l0 a1 _ _ l2 true W hc0 hl0 hc2 hl2 h).mono fun e W' ⟨he, bel0⟩ => ?_
  have bel : Below W.heap.size W W' := bel0
  subst he
  exact ⟨_, rfl, _, _, _, [], _, [], hW', trodAll_mk1 (shut_bool Try.underlying4 _), (trodAll_cons_mk (Below.trod laidOut (by kernel_rfl) (of_decide_eq_true (by kernel_rfl)) k0 bel lt0) (trodAll_cons_mk (shut_int Try.underlying3 w1) (trodAll_cons_mk (Below.trod laidOut (by kernel_rfl) (of_decide_eq_true (by kernel_rfl)) k2 bel lt2) trodAll_mk0))), rfl, bel.frame _, fun h => by cases h⟩
theorem over : Rows.fnExactTreeWaysRow.holds Try.pinned (OpenSpec.ofChange Rows.fnExactTreeWaysSpec) :=
  OpenClaim.holds_of_wide 9 Try.f9 rfl rfl rfl rfl rfl rfl rfl ⟨rfl, rfl, rfl, rfl, rfl⟩ rfl rfl rfl rfl rfl (by kernel_rfl) Try.func9 (by kernel_rfl)
    (of_decide_eq_true (by kernel_rfl)) (by unfold Func.isWrapper; first | (rw [if_pos (by decide +kernel)]; kernel_rfl) | (rw [if_neg (by decide +kernel)]; exact ⟨rfl, rfl⟩))
    (fun os started H enc _ => lifted os started H enc)
theorem proved : Rows.FnExactTreeWaysSaid := over
end Go.Proofs.Ytnphoaecjeenjaa.fnExactTreeWays
namespace Go.Proofs.Ytnphoaecjeenjaa
/-- The law, under a short name, for the claim. -/
theorem fnExactTreeWays_holds : Rows.FnExactTreeWaysSaid := fnExactTreeWays.proved
#print axioms fnExactTreeWays_holds
end Go.Proofs.Ytnphoaecjeenjaa
