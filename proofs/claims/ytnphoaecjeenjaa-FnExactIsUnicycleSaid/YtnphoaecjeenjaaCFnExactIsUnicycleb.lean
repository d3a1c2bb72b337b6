/- The law FnExactIsUnicycle holds for every input: the program returns what the reference returns (or what the law says), for all arguments. -/
import Derived.Test.YtnphoaecjeenjaaP0
import Derived.Test.YtnphoaecjeenjaaCFnExactIsUnicyclea
import Derived.Test.YtnphoaecjeenjaaPspecgrPlace
import Derived.Test.YtnphoaecjeenjaaPimplhas
import Derived.Test.YtnphoaecjeenjaaPimplisWalk
import Derived.Test.YtnphoaecjeenjaaPspecwaGood
import Derived.Test.YtnphoaecjeenjaaPlawsszWalk
import Derived.Test.YtnphoaecjeenjaaPimplGraphnext
import Derived.Test.YtnphoaecjeenjaaPspectrNext
import Derived.Test.YtnphoaecjeenjaaPimplGraphcycleFrom
import Derived.Test.YtnphoaecjeenjaaPspectrCycle
import Derived.Test.YtnphoaecjeenjaaPspecl1Has
import Derived.Test.YtnphoaecjeenjaaPslicesContainsintint
import Derived.Test.YtnphoaecjeenjaaPslicesIndexintint
import Derived.Test.YtnphoaecjeenjaaPimplGraphisUnicycle
import Derived.Test.YtnphoaecjeenjaaPspectrUni
import Derived.Test.YtnphoaecjeenjaaRows
import Derived.WalkKit
import Derived.ProofKit
import Derived.OpenShut
import Derived.ShutString
import Derived.ChangeOld
import Derived.Below
import Derived.SizedLaws
import Derived.Deep.Matrix
import Derived.Lib.SmallJoins
namespace Go.Proofs.Ytnphoaecjeenjaa.P
open Go.RowKit Go.Proofs.YtnphoaecjeenjaaW.PrintWords Go.Proofs.YtnphoaecjeenjaaW.PrintLast Go.Proofs.YtnphoaecjeenjaaW.PrintMore
attribute [local go_sem] max2_int min2_int max_two min_two max_three min_three max_four min_four   -- for this text's walks alone
set_option linter.unusedVariables false
set_option linter.unusedSimpArgs false

/-! ### impl_Graph_lengths: function 100 -/
mutual
def impl_Graph_lengths.l0 : Nat → List Int → List Int → List (List Int) → Option (List Int)
  | 0, _, _, _ => none
  | k + 1, x5, x6, x229000 => if (x6.length : Int) > 0 then (if 0 < (x6.length : Int) then (if 0 ≤ (rd x6 0) then (if (rd x6 0) < (x229000.length : Int) then (impl_Graph_lengths.l1 k x5 x6 (rd_L1 x229000 (rd x6 0)) ((rd_L1 x229000 (rd x6 0)).length : Int) 0 x229000) else (none)) else (none)) else (none)) else (some x5)
def impl_Graph_lengths.l1 : Nat → List Int → List Int → List Int → Int → Int → List (List Int) → Option (List Int)
  | 0, _, _, _, _, _, _ => none
  | k + 1, x5, x6, x30, x31, x32, x229000 => if x32 < x31 then (if 0 ≤ x32 then (if x32 < (x30.length : Int) then (if 0 ≤ (rd x30 x32) then (if (rd x30 x32) < (x5.length : Int) then (if (rd x5 (rd x30 x32)) < 0 then (if 0 < (x6.length : Int) then (if 0 ≤ (rd x6 0) then (if (rd x6 0) < (x5.length : Int) then (if x6.length < 17592186044416 then (impl_Graph_lengths.l1 k (x5.set ((rd x30 x32) : Int).toNat (wrap64 ((rd x5 (rd x6 0)) + 1))) (x6 ++ [rd x30 x32]) x30 x31 (wrap64 (x32 + 1)) x229000) else (none)) else (none)) else (none)) else (none)) else (impl_Graph_lengths.l1 k x5 x6 x30 x31 (wrap64 (x32 + 1)) x229000)) else (none)) else (none)) else (none)) else (none)) else (if 1 ≤ (x6.length : Int) then (impl_Graph_lengths.l0 k x5 (x6.drop (1 : Int).toNat) x229000) else (none))
end
def impl_Graph_lengths.f (k : Nat) (l0_0 : List (List Int)) (a1 : Int) : Option (List Int) := (slices_Repeat_int_int.f (([(-1)] : List Int)) (l0_0.length : Int)).bind fun t232 => (if 0 ≤ a1 then (if a1 < (t232.length : Int) then (impl_Graph_lengths.l0 k (t232.set (a1 : Int).toNat 0) (([a1] : List Int)) l0_0) else (none)) else (none))
theorem impl_Graph_lengths.mono_l : ∀ k, (∀ y0 y1 y2, LeO (impl_Graph_lengths.l0 k y0 y1 y2) (impl_Graph_lengths.l0 (k + 1) y0 y1 y2)) ∧ (∀ y0 y1 y2 y3 y4 y5, LeO (impl_Graph_lengths.l1 k y0 y1 y2 y3 y4 y5) (impl_Graph_lengths.l1 (k + 1) y0 y1 y2 y3 y4 y5))
  | 0 => ⟨fun _ _ _ r h => by simp [impl_Graph_lengths.l0] at h, fun _ _ _ _ _ _ r h => by simp [impl_Graph_lengths.l1] at h⟩
  | k + 1 => by
    obtain ⟨ih0, ih1⟩ := impl_Graph_lengths.mono_l k
    refine ⟨?_, ?_⟩
    · intro y0 y1 y2
      unfold impl_Graph_lengths.l0
      repeat' first
      | (with_reducible exact ih0 _ _ _)
      | (with_reducible exact ih1 _ _ _ _ _ _)
      | (with_reducible exact LeO.refl _)
      | (with_reducible exact LeO.none _)
      | (with_reducible refine LeO.ite ?_ ?_)
      | (with_reducible refine LeO.bind ?_ (fun _ => ?_))
      | exact ih0 _ _ _
      | exact ih1 _ _ _ _ _ _
      | exact LeO.none _
      | refine LeO.ite ?_ ?_
      | refine LeO.bind ?_ (fun _ => ?_)
    · intro y0 y1 y2 y3 y4 y5
      unfold impl_Graph_lengths.l1
      repeat' first
      | (with_reducible exact ih0 _ _ _)
      | (with_reducible exact ih1 _ _ _ _ _ _)
      | (with_reducible exact LeO.refl _)
      | (with_reducible exact LeO.none _)
      | (with_reducible refine LeO.ite ?_ ?_)
      | (with_reducible refine LeO.bind ?_ (fun _ => ?_))
      | exact ih0 _ _ _
      | exact ih1 _ _ _ _ _ _
      | exact LeO.none _
      | refine LeO.ite ?_ ?_
      | refine LeO.bind ?_ (fun _ => ?_)
theorem impl_Graph_lengths.mono : ∀ a0 a1 k, LeO (impl_Graph_lengths.f k a0 a1) (impl_Graph_lengths.f (k + 1) a0 a1) := by
  intro a0 a1 k
  obtain ⟨ih0, ih1⟩ := impl_Graph_lengths.mono_l k
  unfold impl_Graph_lengths.f
  repeat' first
      | (with_reducible exact ih0 _ _ _)
      | (with_reducible exact ih1 _ _ _ _ _ _)
      | (with_reducible exact LeO.refl _)
      | (with_reducible exact LeO.none _)
      | (with_reducible refine LeO.ite ?_ ?_)
      | (with_reducible refine LeO.bind ?_ (fun _ => ?_))
      | exact ih0 _ _ _
      | exact ih1 _ _ _ _ _ _
      | exact LeO.none _
      | refine LeO.ite ?_ ?_
      | refine LeO.bind ?_ (fun _ => ?_)
set_option maxHeartbeats 8000000 in
set_option maxRecDepth 100000 in
theorem impl_Graph_lengths.calls (k : Nat) (A0_0 : Option Addr) (c0_0 : Nat) (l0_0 : List (List Int)) (a1 : Int) (r : List Int) (w : World) (hr0_0 : Kd.C (Kd.slice 3 (Kd.int .i64)) w A0_0 l0_0.length l0_0) (hc0_0 : l0_0.length ≤ c0_0) (h : impl_Graph_lengths.f k l0_0 a1 = some r) :
    Calls Try.prog 100 #[.agg #[.slice A0_0 l0_0.length c0_0], .int .i64 a1] w fun e w' => ∃ v0_ : Value, e = .returned (v0_) ∧ Kd.R (Kd.int .i64) 3 w' w.heap.size (fun _ => True) v0_ r ∧ Below w.heap.size w w' := by
  have hu28 := Try.underlying28
  have HR0_0 := Aside0.mk hr0_0
  have HC0_0 := Aside0.mk hc0_0
  clear hr0_0 hc0_0
  have HB := Aside0.mk (Below.refl w.heap.size w)
  have H : ((slices_Repeat_int_int.f (([(-1)] : List Int)) (l0_0.length : Int)).bind fun t232 => (if 0 ≤ a1 then (if a1 < (t232.length : Int) then (impl_Graph_lengths.l0 k (t232.set (a1 : Int).toNat 0) (([a1] : List Int)) l0_0) else (none)) else (none))) = some r := h
  clear h
  obtain ⟨y229, hy229⟩ : ∃ y_ : List Int, y_ = (([(-1)] : List Int)) := ⟨_, rfl⟩
  replace H : ((slices_Repeat_int_int.f y229 (l0_0.length : Int)).bind fun t232 => (if 0 ≤ a1 then (if a1 < (t232.length : Int) then (impl_Graph_lengths.l0 k (t232.set (a1 : Int).toNat 0) (([a1] : List Int)) l0_0) else (none)) else (none))) = some r := by first | (rw [hy229]; with_reducible exact H) | (have H2_ := (Option.bind_some _ _).symm.trans H; rw [hy229]; with_reducible exact H2_) | (have H2_ := (Option.bind_some _ _).symm.trans H; with_reducible exact H2_) | with_reducible exact H | (rw [hy229]; exact H) | exact H
  have Ny229 := Aside0.mk hy229
  clear hy229
  replace H := Option.bind_eq_some_iff.mp H
  obtain ⟨t232, A30, H⟩ := H
  replace H : (if 0 ≤ a1 then (if a1 < (t232.length : Int) then (impl_Graph_lengths.l0 k (t232.set (a1 : Int).toNat 0) (([a1] : List Int)) l0_0) else (none)) else (none)) = some r := H
  have A3 := Aside0.mk A30
  clear A30
  by_cases c4 : 0 ≤ a1
  · rw [if_pos c4] at H
    have c4b0 : decide (0 ≤ a1) = true := decide_eq_true c4
    clear c4
    by_cases c5 : a1 < (t232.length : Int)
    · rw [if_pos c5] at H
      have c5b0 : decide (a1 < (t232.length : Int)) = true := decide_eq_true c5
      clear c5
      obtain ⟨y235, hy235⟩ : ∃ y_ : List Int, y_ = (t232.set (a1 : Int).toNat 0) := ⟨_, rfl⟩
      replace H : (impl_Graph_lengths.l0 k y235 (([a1] : List Int)) l0_0) = some r := by first | (rw [hy235]; with_reducible exact H) | (have H2_ := (Option.bind_some _ _).symm.trans H; rw [hy235]; with_reducible exact H2_) | (have H2_ := (Option.bind_some _ _).symm.trans H; with_reducible exact H2_) | with_reducible exact H | (rw [hy235]; exact H) | exact H
      have Ny235 := Aside0.mk hy235
      clear hy235
      obtain ⟨y236, hy236⟩ : ∃ y_ : List Int, y_ = (([a1] : List Int)) := ⟨_, rfl⟩
      replace H : (impl_Graph_lengths.l0 k y235 y236 l0_0) = some r := by first | (rw [hy236]; with_reducible exact H) | (have H2_ := (Option.bind_some _ _).symm.trans H; rw [hy236]; with_reducible exact H2_) | (have H2_ := (Option.bind_some _ _).symm.trans H; with_reducible exact H2_) | with_reducible exact H | (rw [hy236]; exact H) | exact H
      have Ny236 := Aside0.mk hy236
      clear hy236
      have H' := Aside0.mk H
      clear H
      go_enter Try.func100, Try.ntmps100
      go_wp2_with (first | ((with_reducible refine gate_dst (N := 2) rfl ?_); refine box_event ?hg (N := 2) ?hd (cs := #[.slice A0_0 l0_0.length c0_0]) (t := 28) ?hr ?_; (case hd => rfl); (case hg => rfl); (case hr => first | (go_simp; done) | (go_simp; rfl)); intro gb228 hg w7 hbox hb; have n0_ := Aside0.mk (below_step (by repeat (first | (with_reducible first | exact HB.out | apply below_alloc | apply pw_below_drewN | apply below_drew1) | exact HB.out)) hb); have n1_ := Aside0.mk (hbox); have n2_ := Aside0.mk ((by rw [hg]; exact (below_size (by repeat (first | (with_reducible first | exact HB.out | apply below_alloc | apply pw_below_drewN | apply below_drew1) | exact HB.out))) : w.heap.size ≤ gb228)); have n3_ := Aside0.mk ((by rw [hg]; exact (below_size (by repeat (first | (with_reducible first | exact HB.out | apply below_alloc | apply pw_below_drewN | apply below_drew1) | exact HB.out))) : w.heap.size ≤ gb228)); clear HB; have HB := n0_; have BK228 := n1_; have GW228 := n2_; have GE228 := n3_; clear n0_ n1_ n2_ n3_; clear hb hbox hg) | ((with_reducible refine gate_dst (N := 9) rfl ?_); refine Kd.R_lit (Kd.int .i64) _ 3 ?hg (N := 9) ?hd (xs := ([(-1)] : List Int)) (inner := [.int .i64 (-1)]) (ok := fun _ => True) (okp := fun _ => True) ?hr ?hp (fun _ hk => hk) trivial (Below.refl _ _) (Nat.le_refl _) (by simp) ?_; (case hd => rfl); (case hg => rfl); (case hr => first | (go_simp; done) | (go_simp; rfl)); (case hp => exact (Reps.one (show Kd.M (Kd.int .i64) _ _ _ (-1) [.int .i64 (-1)] from rfl) (Reps.none _ _))); intro v230 w8 ho9 hb hg_ hnew_; clear hg_ hnew_; (first | rw [← Ny229.out] at ho9 | (simp only [Int.reduceToNat] at ho9; rw [← Ny229.out] at ho9)); have n0_ := Aside0.mk (Kd.R_lower ho9 (below_size (by repeat (first | (with_reducible first | exact HB.out | apply below_alloc | apply pw_below_drewN | apply below_drew1 | refine below_set ?_ GE228.out) | exact HB.out)))); have n1_ := Aside0.mk (blk_below (g := gb228) (o := .cells #[.slice A0_0 l0_0.length c0_0] 28 (0, 0)) (by (with_reducible repeat (first | refine blk_drewN ?_ _ | refine blk_drew ?_ | refine blk_alloc ?_ _)); exact BK228.out) hb); have n2_ := Aside0.mk (below_step (by repeat (first | (with_reducible first | exact HB.out | apply below_alloc | apply pw_below_drewN | apply below_drew1 | refine below_set ?_ GE228.out) | exact HB.out)) hb); clear BK228; clear HB; have HO231 := n0_; have BK228 := n1_; have HB := n2_; clear n0_ n1_ n2_; clear hb ho9; have hcz10_0 : w8.cell? ⟨gb228, 0, none⟩ = some (.slice A0_0 l0_0.length c0_0) := (blk_cell BK228.out 0).trans rfl; have hfz10_0 := blk_frozen BK228.out 0; obtain ⟨Ao11, co11, eo11⟩ := Kd.R_slice HO231.out; subst eo11) | (go_at_call 113; (with_reducible refine (slices_Repeat_int_int.calls _ _ y229 (l0_0.length : Int) t232 _ ?side1 ?side2 A3.out).mono ?_); (case side1 => repeat (first | exact (Kd.R_reads' HO231.out).2.2 | (with_reducible refine Kd.C_alloc ?_ _) | (with_reducible refine Kd.C_drewN ?_ _) | (with_reducible refine Kd.C_drew ?_))); (case side2 => exact (Kd.R_reads' HO231.out).2.1); rintro e w12 ⟨v233, rfl, ho0, hb⟩; have n0_ := Aside0.mk (Kd.R_elder' (by (with_reducible repeat (first | apply Kd.R_alloc | apply Kd.R_drewN | apply Kd.R_drew)); exact HO231.out) (Kd.R_base ho0) hb); have n1_ := Aside0.mk (Kd.R_lower (Kd.R_new' ho0 (Kd.R_lt (by (with_reducible repeat (first | apply Kd.R_alloc | apply Kd.R_drewN | apply Kd.R_drew)); exact HO231.out))) (below_size (by repeat (first | (with_reducible first | exact HB.out | apply below_alloc | apply pw_below_drewN | apply below_drew1 | refine below_set ?_ GE228.out) | exact HB.out)))); have n2_ := Aside0.mk (blk_below (g := gb228) (o := .cells #[.slice A0_0 l0_0.length c0_0] 28 (0, 0)) (by (with_reducible repeat (first | refine blk_drewN ?_ _ | refine blk_drew ?_ | refine blk_alloc ?_ _)); exact BK228.out) hb); have n3_ := Aside0.mk (below_step (by repeat (first | (with_reducible first | exact HB.out | apply below_alloc | apply pw_below_drewN | apply below_drew1 | refine below_set ?_ GE228.out) | exact HB.out)) hb); clear HO231; clear BK228; clear HB; have HO231 := n0_; have HO234 := n1_; have BK228 := n2_; have HB := n3_; clear n0_ n1_ n2_ n3_; (try clear hb); (try clear hb2); (try clear hk); (try clear hi); (try clear ho0); have p6 : 0 ≤ (a1 : Int) := of_decide_eq_true (by first | (with_reducible assumption) | assumption); have q6 : (a1 : Int) < ((t232.length : Int) : Int) := of_decide_eq_true (by first | (with_reducible assumption) | assumption); obtain ⟨go6, co6, eo6, gb6, gl6, cl6, HG6⟩ := Kd.R_form HO234.out (by omega); (first | cases eo6 | (injection eo6 with ea_ en_ ec_; (first | subst ea_ | (injection ea_ with ea_; subst ea_)); subst ec_; clear en_)); have GB6 := Aside0.mk gb6; have GG6 := Aside0.mk HG6; clear gb6 gl6 HG6; obtain ⟨hx6_0, hf6_0⟩ := Kd.R_celln 0 HO234.out (a1 : Int) p6 q6; replace p6 := eq_true p6; replace q6 := eq_true q6; have n_ := Aside0.mk (Kd.R_mono (ok' := (fun k_ => some k_ ≠ (.slice Ao11 y229.length co11 : Value).ownBlock)) HO234.out (fun k_ hk => hk.2)); clear HO234; have HO234 := n_; clear n_; obtain ⟨hy13_, hz13_⟩ := Kd.R_celln 0 HO234.out (a1 : Int) (of_decide_eq_true (by first | (with_reducible assumption) | assumption)) (of_decide_eq_true (by first | (with_reducible assumption) | assumption)); have HP13 := Kd.R_putg HO234.out (a1 : Int) 0) | ((with_reducible refine gate_store (t := 3) (p := 16) rfl ?_); (try (rw [drewN_self w12]; generalize hq_ : World.drewN w12 _ = w12; have n0_ := Aside0.mk (Kd.R_at hq_ HO231.out); have n1_ := Aside0.mk (Kd.R_at hq_ HO234.out); have n2_ := Aside0.mk (blk_at hq_ BK228.out); have n3_ := Aside0.mk (below_at hq_ HB.out); clear hq_ HO231 HO234 BK228 HB; have HO231 := n0_; have HO234 := n1_; have BK228 := n2_; have HB := n3_; clear n0_ n1_ n2_ n3_; (try (have n_ := Aside0.mk (Kd.R_mono (ok' := (fun k_ => some k_ ≠ (.slice Ao11 y229.length co11 : Value).ownBlock)) HO234.out (fun k_ hk => hk.2)); clear HO234; have HO234 := n_; clear n_)); (try (obtain ⟨hy13_, hz13_⟩ := Kd.R_celln 0 HO234.out (a1 : Int) (of_decide_eq_true (by first | (with_reducible assumption) | assumption)) (of_decide_eq_true (by first | (with_reducible assumption) | assumption)))); (try (have HP13 := Kd.R_putg HO234.out (a1 : Int) 0)))); refine store_event (t := 3) (p := 16) (v := ?vo_w14) (w1 := (w12.setCell ⟨go6, (a1 : Int).toNat, none⟩ (.int .i64 0))) ?hg ?ho ?hn ?hr ?_; (case ho => rfl); (case hg => rfl); (case hn => rfl); (case hr => first | (go_simp; done) | (go_simp; rfl)); intro w14 hw; have hg : w12.grownBy w14 (some go6) := (by rw [hw]; exact HP13.2); have hp_ : Kd.R (Kd.int .i64) 3 w14 w.heap.size (fun k_ => some k_ ≠ (.slice Ao11 y229.length co11 : Value).ownBlock) (.slice (some ⟨go6, 0, none⟩) t232.length co6) y235 := (by rw [hw, Ny235.out]; exact HP13.1); clear HP13; have n0_ := Aside0.mk (blk_grown (g := gb228) (o := .cells #[.slice A0_0 l0_0.length c0_0] 28 (0, 0)) (by (with_reducible repeat (first | refine blk_drewN ?_ _ | refine blk_drew ?_ | refine blk_alloc ?_ _)); exact BK228.out) hg (Kd.R_ne HO234.out BK228.out (by decide))); have n1_ := Aside0.mk (Kd.R_after (v := (.slice (some ⟨go6, 0, none⟩) t232.length co6)) (v1 := (.slice (some ⟨go6, 0, none⟩) t232.length co6)) (ok := (fun _ => True)) (by (with_reducible repeat (first | apply Kd.R_alloc | apply Kd.R_drewN | apply Kd.R_drew)); exact HO231.out) hg (.inl rfl)); have n2_ := Aside0.mk (hp_); have n3_ := Aside0.mk ((by rw [hw]; exact below_set (HB.out) GB6.out : Below w.heap.size w w14)); clear BK228; clear HO231; clear HO234; clear HB; have BK228 := n0_; have HO231 := n1_; have HO234 := n2_; have HB := n3_; clear n0_ n1_ n2_ n3_; clear hg hw hp_) | ((with_reducible refine gate_dst (N := 18) rfl ?_); refine Kd.R_lit (Kd.int .i64) _ 3 ?hg (N := 18) ?hd (xs := ([a1] : List Int)) (inner := [.int .i64 a1]) (ok := fun _ => True) (okp := fun _ => True) ?hr ?hp (fun _ hk => hk) trivial (Below.refl _ _) (Nat.le_refl _) (by simp) ?_; (case hd => rfl); (case hg => rfl); (case hr => first | (go_simp; done) | (go_simp; rfl)); (case hp => exact (Reps.one (show Kd.M (Kd.int .i64) _ _ _ a1 [.int .i64 a1] from rfl) (Reps.none _ _))); intro v237 w15 ho16 hb hg_ hnew_; clear hg_ hnew_; (first | rw [← Ny236.out] at ho16 | (simp only [Int.reduceToNat] at ho16; rw [← Ny236.out] at ho16)); have n0_ := Aside0.mk (Kd.R_elder' (by (with_reducible repeat (first | apply Kd.R_alloc | apply Kd.R_drewN | apply Kd.R_drew)); exact HO231.out) (Kd.R_base ho16) hb); have n1_ := Aside0.mk (Kd.R_elder' (by (with_reducible repeat (first | apply Kd.R_alloc | apply Kd.R_drewN | apply Kd.R_drew)); exact HO234.out) (Kd.R_base ho16) hb); have n2_ := Aside0.mk (Kd.R_lower (Kd.R_new' (Kd.R_new' ho16 (Kd.R_lt (by (with_reducible repeat (first | apply Kd.R_alloc | apply Kd.R_drewN | apply Kd.R_drew)); exact HO231.out))) (Kd.R_lt (by (with_reducible repeat (first | apply Kd.R_alloc | apply Kd.R_drewN | apply Kd.R_drew)); exact HO234.out))) (below_size (by repeat (first | (with_reducible first | exact HB.out | apply below_alloc | apply pw_below_drewN | apply below_drew1 | refine below_set ?_ GE228.out) | exact HB.out)))); have n3_ := Aside0.mk (blk_below (g := gb228) (o := .cells #[.slice A0_0 l0_0.length c0_0] 28 (0, 0)) (by (with_reducible repeat (first | refine blk_drewN ?_ _ | refine blk_drew ?_ | refine blk_alloc ?_ _)); exact BK228.out) hb); have n4_ := Aside0.mk (below_step (by repeat (first | (with_reducible first | exact HB.out | apply below_alloc | apply pw_below_drewN | apply below_drew1 | refine below_set ?_ GE228.out) | exact HB.out)) hb); clear HO231; clear HO234; clear BK228; clear HB; have HO231 := n0_; have HO234 := n1_; have HO238 := n2_; have BK228 := n3_; have HB := n4_; clear n0_ n1_ n2_ n3_ n4_; clear hb ho16))
      repeat (go_quiet (first | ((with_reducible refine gate_dst (N := 2) rfl ?_); refine box_event ?hg (N := 2) ?hd (cs := #[.slice A0_0 l0_0.length c0_0]) (t := 28) ?hr ?_; (case hd => rfl); (case hg => rfl); (case hr => first | (go_simp; done) | (go_simp; rfl)); intro gb228 hg w7 hbox hb; have n0_ := Aside0.mk (below_step (by repeat (first | (with_reducible first | exact HB.out | apply below_alloc | apply pw_below_drewN | apply below_drew1) | exact HB.out)) hb); have n1_ := Aside0.mk (hbox); have n2_ := Aside0.mk ((by rw [hg]; exact (below_size (by repeat (first | (with_reducible first | exact HB.out | apply below_alloc | apply pw_below_drewN | apply below_drew1) | exact HB.out))) : w.heap.size ≤ gb228)); have n3_ := Aside0.mk ((by rw [hg]; exact (below_size (by repeat (first | (with_reducible first | exact HB.out | apply below_alloc | apply pw_below_drewN | apply below_drew1) | exact HB.out))) : w.heap.size ≤ gb228)); clear HB; have HB := n0_; have BK228 := n1_; have GW228 := n2_; have GE228 := n3_; clear n0_ n1_ n2_ n3_; clear hb hbox hg) | ((with_reducible refine gate_dst (N := 9) rfl ?_); refine Kd.R_lit (Kd.int .i64) _ 3 ?hg (N := 9) ?hd (xs := ([(-1)] : List Int)) (inner := [.int .i64 (-1)]) (ok := fun _ => True) (okp := fun _ => True) ?hr ?hp (fun _ hk => hk) trivial (Below.refl _ _) (Nat.le_refl _) (by simp) ?_; (case hd => rfl); (case hg => rfl); (case hr => first | (go_simp; done) | (go_simp; rfl)); (case hp => exact (Reps.one (show Kd.M (Kd.int .i64) _ _ _ (-1) [.int .i64 (-1)] from rfl) (Reps.none _ _))); intro v230 w8 ho9 hb hg_ hnew_; clear hg_ hnew_; (first | rw [← Ny229.out] at ho9 | (simp only [Int.reduceToNat] at ho9; rw [← Ny229.out] at ho9)); have n0_ := Aside0.mk (Kd.R_lower ho9 (below_size (by repeat (first | (with_reducible first | exact HB.out | apply below_alloc | apply pw_below_drewN | apply below_drew1 | refine below_set ?_ GE228.out) | exact HB.out)))); have n1_ := Aside0.mk (blk_below (g := gb228) (o := .cells #[.slice A0_0 l0_0.length c0_0] 28 (0, 0)) (by (with_reducible repeat (first | refine blk_drewN ?_ _ | refine blk_drew ?_ | refine blk_alloc ?_ _)); exact BK228.out) hb); have n2_ := Aside0.mk (below_step (by repeat (first | (with_reducible first | exact HB.out | apply below_alloc | apply pw_below_drewN | apply below_drew1 | refine below_set ?_ GE228.out) | exact HB.out)) hb); clear BK228; clear HB; have HO231 := n0_; have BK228 := n1_; have HB := n2_; clear n0_ n1_ n2_; clear hb ho9; have hcz10_0 : w8.cell? ⟨gb228, 0, none⟩ = some (.slice A0_0 l0_0.length c0_0) := (blk_cell BK228.out 0).trans rfl; have hfz10_0 := blk_frozen BK228.out 0; obtain ⟨Ao11, co11, eo11⟩ := Kd.R_slice HO231.out; subst eo11) | (go_at_call 113; (with_reducible refine (slices_Repeat_int_int.calls _ _ y229 (l0_0.length : Int) t232 _ ?side1 ?side2 A3.out).mono ?_); (case side1 => repeat (first | exact (Kd.R_reads' HO231.out).2.2 | (with_reducible refine Kd.C_alloc ?_ _) | (with_reducible refine Kd.C_drewN ?_ _) | (with_reducible refine Kd.C_drew ?_))); (case side2 => exact (Kd.R_reads' HO231.out).2.1); rintro e w12 ⟨v233, rfl, ho0, hb⟩; have n0_ := Aside0.mk (Kd.R_elder' (by (with_reducible repeat (first | apply Kd.R_alloc | apply Kd.R_drewN | apply Kd.R_drew)); exact HO231.out) (Kd.R_base ho0) hb); have n1_ := Aside0.mk (Kd.R_lower (Kd.R_new' ho0 (Kd.R_lt (by (with_reducible repeat (first | apply Kd.R_alloc | apply Kd.R_drewN | apply Kd.R_drew)); exact HO231.out))) (below_size (by repeat (first | (with_reducible first | exact HB.out | apply below_alloc | apply pw_below_drewN | apply below_drew1 | refine below_set ?_ GE228.out) | exact HB.out)))); have n2_ := Aside0.mk (blk_below (g := gb228) (o := .cells #[.slice A0_0 l0_0.length c0_0] 28 (0, 0)) (by (with_reducible repeat (first | refine blk_drewN ?_ _ | refine blk_drew ?_ | refine blk_alloc ?_ _)); exact BK228.out) hb); have n3_ := Aside0.mk (below_step (by repeat (first | (with_reducible first | exact HB.out | apply below_alloc | apply pw_below_drewN | apply below_drew1 | refine below_set ?_ GE228.out) | exact HB.out)) hb); clear HO231; clear BK228; clear HB; have HO231 := n0_; have HO234 := n1_; have BK228 := n2_; have HB := n3_; clear n0_ n1_ n2_ n3_; (try clear hb); (try clear hb2); (try clear hk); (try clear hi); (try clear ho0); have p6 : 0 ≤ (a1 : Int) := of_decide_eq_true (by first | (with_reducible assumption) | assumption); have q6 : (a1 : Int) < ((t232.length : Int) : Int) := of_decide_eq_true (by first | (with_reducible assumption) | assumption); obtain ⟨go6, co6, eo6, gb6, gl6, cl6, HG6⟩ := Kd.R_form HO234.out (by omega); (first | cases eo6 | (injection eo6 with ea_ en_ ec_; (first | subst ea_ | (injection ea_ with ea_; subst ea_)); subst ec_; clear en_)); have GB6 := Aside0.mk gb6; have GG6 := Aside0.mk HG6; clear gb6 gl6 HG6; obtain ⟨hx6_0, hf6_0⟩ := Kd.R_celln 0 HO234.out (a1 : Int) p6 q6; replace p6 := eq_true p6; replace q6 := eq_true q6; have n_ := Aside0.mk (Kd.R_mono (ok' := (fun k_ => some k_ ≠ (.slice Ao11 y229.length co11 : Value).ownBlock)) HO234.out (fun k_ hk => hk.2)); clear HO234; have HO234 := n_; clear n_; obtain ⟨hy13_, hz13_⟩ := Kd.R_celln 0 HO234.out (a1 : Int) (of_decide_eq_true (by first | (with_reducible assumption) | assumption)) (of_decide_eq_true (by first | (with_reducible assumption) | assumption)); have HP13 := Kd.R_putg HO234.out (a1 : Int) 0) | ((with_reducible refine gate_store (t := 3) (p := 16) rfl ?_); (try (rw [drewN_self w12]; generalize hq_ : World.drewN w12 _ = w12; have n0_ := Aside0.mk (Kd.R_at hq_ HO231.out); have n1_ := Aside0.mk (Kd.R_at hq_ HO234.out); have n2_ := Aside0.mk (blk_at hq_ BK228.out); have n3_ := Aside0.mk (below_at hq_ HB.out); clear hq_ HO231 HO234 BK228 HB; have HO231 := n0_; have HO234 := n1_; have BK228 := n2_; have HB := n3_; clear n0_ n1_ n2_ n3_; (try (have n_ := Aside0.mk (Kd.R_mono (ok' := (fun k_ => some k_ ≠ (.slice Ao11 y229.length co11 : Value).ownBlock)) HO234.out (fun k_ hk => hk.2)); clear HO234; have HO234 := n_; clear n_)); (try (obtain ⟨hy13_, hz13_⟩ := Kd.R_celln 0 HO234.out (a1 : Int) (of_decide_eq_true (by first | (with_reducible assumption) | assumption)) (of_decide_eq_true (by first | (with_reducible assumption) | assumption)))); (try (have HP13 := Kd.R_putg HO234.out (a1 : Int) 0)))); refine store_event (t := 3) (p := 16) (v := ?vo_w14) (w1 := (w12.setCell ⟨go6, (a1 : Int).toNat, none⟩ (.int .i64 0))) ?hg ?ho ?hn ?hr ?_; (case ho => rfl); (case hg => rfl); (case hn => rfl); (case hr => first | (go_simp; done) | (go_simp; rfl)); intro w14 hw; have hg : w12.grownBy w14 (some go6) := (by rw [hw]; exact HP13.2); have hp_ : Kd.R (Kd.int .i64) 3 w14 w.heap.size (fun k_ => some k_ ≠ (.slice Ao11 y229.length co11 : Value).ownBlock) (.slice (some ⟨go6, 0, none⟩) t232.length co6) y235 := (by rw [hw, Ny235.out]; exact HP13.1); clear HP13; have n0_ := Aside0.mk (blk_grown (g := gb228) (o := .cells #[.slice A0_0 l0_0.length c0_0] 28 (0, 0)) (by (with_reducible repeat (first | refine blk_drewN ?_ _ | refine blk_drew ?_ | refine blk_alloc ?_ _)); exact BK228.out) hg (Kd.R_ne HO234.out BK228.out (by decide))); have n1_ := Aside0.mk (Kd.R_after (v := (.slice (some ⟨go6, 0, none⟩) t232.length co6)) (v1 := (.slice (some ⟨go6, 0, none⟩) t232.length co6)) (ok := (fun _ => True)) (by (with_reducible repeat (first | apply Kd.R_alloc | apply Kd.R_drewN | apply Kd.R_drew)); exact HO231.out) hg (.inl rfl)); have n2_ := Aside0.mk (hp_); have n3_ := Aside0.mk ((by rw [hw]; exact below_set (HB.out) GB6.out : Below w.heap.size w w14)); clear BK228; clear HO231; clear HO234; clear HB; have BK228 := n0_; have HO231 := n1_; have HO234 := n2_; have HB := n3_; clear n0_ n1_ n2_ n3_; clear hg hw hp_) | ((with_reducible refine gate_dst (N := 18) rfl ?_); refine Kd.R_lit (Kd.int .i64) _ 3 ?hg (N := 18) ?hd (xs := ([a1] : List Int)) (inner := [.int .i64 a1]) (ok := fun _ => True) (okp := fun _ => True) ?hr ?hp (fun _ hk => hk) trivial (Below.refl _ _) (Nat.le_refl _) (by simp) ?_; (case hd => rfl); (case hg => rfl); (case hr => first | (go_simp; done) | (go_simp; rfl)); (case hp => exact (Reps.one (show Kd.M (Kd.int .i64) _ _ _ a1 [.int .i64 a1] from rfl) (Reps.none _ _))); intro v237 w15 ho16 hb hg_ hnew_; clear hg_ hnew_; (first | rw [← Ny236.out] at ho16 | (simp only [Int.reduceToNat] at ho16; rw [← Ny236.out] at ho16)); have n0_ := Aside0.mk (Kd.R_elder' (by (with_reducible repeat (first | apply Kd.R_alloc | apply Kd.R_drewN | apply Kd.R_drew)); exact HO231.out) (Kd.R_base ho16) hb); have n1_ := Aside0.mk (Kd.R_elder' (by (with_reducible repeat (first | apply Kd.R_alloc | apply Kd.R_drewN | apply Kd.R_drew)); exact HO234.out) (Kd.R_base ho16) hb); have n2_ := Aside0.mk (Kd.R_lower (Kd.R_new' (Kd.R_new' ho16 (Kd.R_lt (by (with_reducible repeat (first | apply Kd.R_alloc | apply Kd.R_drewN | apply Kd.R_drew)); exact HO231.out))) (Kd.R_lt (by (with_reducible repeat (first | apply Kd.R_alloc | apply Kd.R_drewN | apply Kd.R_drew)); exact HO234.out))) (below_size (by repeat (first | (with_reducible first | exact HB.out | apply below_alloc | apply pw_below_drewN | apply below_drew1 | refine below_set ?_ GE228.out) | exact HB.out)))); have n3_ := Aside0.mk (blk_below (g := gb228) (o := .cells #[.slice A0_0 l0_0.length c0_0] 28 (0, 0)) (by (with_reducible repeat (first | refine blk_drewN ?_ _ | refine blk_drew ?_ | refine blk_alloc ?_ _)); exact BK228.out) hb); have n4_ := Aside0.mk (below_step (by repeat (first | (with_reducible first | exact HB.out | apply below_alloc | apply pw_below_drewN | apply below_drew1 | refine below_set ?_ GE228.out) | exact HB.out)) hb); clear HO231; clear HO234; clear BK228; clear HB; have HO231 := n0_; have HO234 := n1_; have HO238 := n2_; have BK228 := n3_; have HB := n4_; clear n0_ n1_ n2_ n3_ n4_; clear hb ho16)); try go_wp2_with (first | ((with_reducible refine gate_dst (N := 2) rfl ?_); refine box_event ?hg (N := 2) ?hd (cs := #[.slice A0_0 l0_0.length c0_0]) (t := 28) ?hr ?_; (case hd => rfl); (case hg => rfl); (case hr => first | (go_simp; done) | (go_simp; rfl)); intro gb228 hg w7 hbox hb; have n0_ := Aside0.mk (below_step (by repeat (first | (with_reducible first | exact HB.out | apply below_alloc | apply pw_below_drewN | apply below_drew1) | exact HB.out)) hb); have n1_ := Aside0.mk (hbox); have n2_ := Aside0.mk ((by rw [hg]; exact (below_size (by repeat (first | (with_reducible first | exact HB.out | apply below_alloc | apply pw_below_drewN | apply below_drew1) | exact HB.out))) : w.heap.size ≤ gb228)); have n3_ := Aside0.mk ((by rw [hg]; exact (below_size (by repeat (first | (with_reducible first | exact HB.out | apply below_alloc | apply pw_below_drewN | apply below_drew1) | exact HB.out))) : w.heap.size ≤ gb228)); clear HB; have HB := n0_; have BK228 := n1_; have GW228 := n2_; have GE228 := n3_; clear n0_ n1_ n2_ n3_; clear hb hbox hg) | ((with_reducible refine gate_dst (N := 9) rfl ?_); refine Kd.R_lit (Kd.int .i64) _ 3 ?hg (N := 9) ?hd (xs := ([(-1)] : List Int)) (inner := [.int .i64 (-1)]) (ok := fun _ => True) (okp := fun _ => True) ?hr ?hp (fun _ hk => hk) trivial (Below.refl _ _) (Nat.le_refl _) (by simp) ?_; (case hd => rfl); (case hg => rfl); (case hr => first | (go_simp; done) | (go_simp; rfl)); (case hp => exact (Reps.one (show Kd.M (Kd.int .i64) _ _ _ (-1) [.int .i64 (-1)] from rfl) (Reps.none _ _))); intro v230 w8 ho9 hb hg_ hnew_; clear hg_ hnew_; (first | rw [← Ny229.out] at ho9 | (simp only [Int.reduceToNat] at ho9; rw [← Ny229.out] at ho9)); have n0_ := Aside0.mk (Kd.R_lower ho9 (below_size (by repeat (first | (with_reducible first | exact HB.out | apply below_alloc | apply pw_below_drewN | apply below_drew1 | refine below_set ?_ GE228.out) | exact HB.out)))); have n1_ := Aside0.mk (blk_below (g := gb228) (o := .cells #[.slice A0_0 l0_0.length c0_0] 28 (0, 0)) (by (with_reducible repeat (first | refine blk_drewN ?_ _ | refine blk_drew ?_ | refine blk_alloc ?_ _)); exact BK228.out) hb); have n2_ := Aside0.mk (below_step (by repeat (first | (with_reducible first | exact HB.out | apply below_alloc | apply pw_below_drewN | apply below_drew1 | refine below_set ?_ GE228.out) | exact HB.out)) hb); clear BK228; clear HB; have HO231 := n0_; have BK228 := n1_; have HB := n2_; clear n0_ n1_ n2_; clear hb ho9; have hcz10_0 : w8.cell? ⟨gb228, 0, none⟩ = some (.slice A0_0 l0_0.length c0_0) := (blk_cell BK228.out 0).trans rfl; have hfz10_0 := blk_frozen BK228.out 0; obtain ⟨Ao11, co11, eo11⟩ := Kd.R_slice HO231.out; subst eo11) | (go_at_call 113; (with_reducible refine (slices_Repeat_int_int.calls _ _ y229 (l0_0.length : Int) t232 _ ?side1 ?side2 A3.out).mono ?_); (case side1 => repeat (first | exact (Kd.R_reads' HO231.out).2.2 | (with_reducible refine Kd.C_alloc ?_ _) | (with_reducible refine Kd.C_drewN ?_ _) | (with_reducible refine Kd.C_drew ?_))); (case side2 => exact (Kd.R_reads' HO231.out).2.1); rintro e w12 ⟨v233, rfl, ho0, hb⟩; have n0_ := Aside0.mk (Kd.R_elder' (by (with_reducible repeat (first | apply Kd.R_alloc | apply Kd.R_drewN | apply Kd.R_drew)); exact HO231.out) (Kd.R_base ho0) hb); have n1_ := Aside0.mk (Kd.R_lower (Kd.R_new' ho0 (Kd.R_lt (by (with_reducible repeat (first | apply Kd.R_alloc | apply Kd.R_drewN | apply Kd.R_drew)); exact HO231.out))) (below_size (by repeat (first | (with_reducible first | exact HB.out | apply below_alloc | apply pw_below_drewN | apply below_drew1 | refine below_set ?_ GE228.out) | exact HB.out)))); have n2_ := Aside0.mk (blk_below (g := gb228) (o := .cells #[.slice A0_0 l0_0.length c0_0] 28 (0, 0)) (by (with_reducible repeat (first | refine blk_drewN ?_ _ | refine blk_drew ?_ | refine blk_alloc ?_ _)); exact BK228.out) hb); have n3_ := Aside0.mk (below_step (by repeat (first | (with_reducible first | exact HB.out | apply below_alloc | apply pw_below_drewN | apply below_drew1 | refine below_set ?_ GE228.out) | exact HB.out)) hb); clear HO231; clear BK228; clear HB; have HO231 := n0_; have HO234 := n1_; have BK228 := n2_; have HB := n3_; clear n0_ n1_ n2_ n3_; (try clear hb); (try clear hb2); (try clear hk); (try clear hi); (try clear ho0); have p6 : 0 ≤ (a1 : Int) := of_decide_eq_true (by first | (with_reducible assumption) | assumption); have q6 : (a1 : Int) < ((t232.length : Int) : Int) := of_decide_eq_true (by first | (with_reducible assumption) | assumption); obtain ⟨go6, co6, eo6, gb6, gl6, cl6, HG6⟩ := Kd.R_form HO234.out (by omega); (first | cases eo6 | (injection eo6 with ea_ en_ ec_; (first | subst ea_ | (injection ea_ with ea_; subst ea_)); subst ec_; clear en_)); have GB6 := Aside0.mk gb6; have GG6 := Aside0.mk HG6; clear gb6 gl6 HG6; obtain ⟨hx6_0, hf6_0⟩ := Kd.R_celln 0 HO234.out (a1 : Int) p6 q6; replace p6 := eq_true p6; replace q6 := eq_true q6; have n_ := Aside0.mk (Kd.R_mono (ok' := (fun k_ => some k_ ≠ (.slice Ao11 y229.length co11 : Value).ownBlock)) HO234.out (fun k_ hk => hk.2)); clear HO234; have HO234 := n_; clear n_; obtain ⟨hy13_, hz13_⟩ := Kd.R_celln 0 HO234.out (a1 : Int) (of_decide_eq_true (by first | (with_reducible assumption) | assumption)) (of_decide_eq_true (by first | (with_reducible assumption) | assumption)); have HP13 := Kd.R_putg HO234.out (a1 : Int) 0) | ((with_reducible refine gate_store (t := 3) (p := 16) rfl ?_); (try (rw [drewN_self w12]; generalize hq_ : World.drewN w12 _ = w12; have n0_ := Aside0.mk (Kd.R_at hq_ HO231.out); have n1_ := Aside0.mk (Kd.R_at hq_ HO234.out); have n2_ := Aside0.mk (blk_at hq_ BK228.out); have n3_ := Aside0.mk (below_at hq_ HB.out); clear hq_ HO231 HO234 BK228 HB; have HO231 := n0_; have HO234 := n1_; have BK228 := n2_; have HB := n3_; clear n0_ n1_ n2_ n3_; (try (have n_ := Aside0.mk (Kd.R_mono (ok' := (fun k_ => some k_ ≠ (.slice Ao11 y229.length co11 : Value).ownBlock)) HO234.out (fun k_ hk => hk.2)); clear HO234; have HO234 := n_; clear n_)); (try (obtain ⟨hy13_, hz13_⟩ := Kd.R_celln 0 HO234.out (a1 : Int) (of_decide_eq_true (by first | (with_reducible assumption) | assumption)) (of_decide_eq_true (by first | (with_reducible assumption) | assumption)))); (try (have HP13 := Kd.R_putg HO234.out (a1 : Int) 0)))); refine store_event (t := 3) (p := 16) (v := ?vo_w14) (w1 := (w12.setCell ⟨go6, (a1 : Int).toNat, none⟩ (.int .i64 0))) ?hg ?ho ?hn ?hr ?_; (case ho => rfl); (case hg => rfl); (case hn => rfl); (case hr => first | (go_simp; done) | (go_simp; rfl)); intro w14 hw; have hg : w12.grownBy w14 (some go6) := (by rw [hw]; exact HP13.2); have hp_ : Kd.R (Kd.int .i64) 3 w14 w.heap.size (fun k_ => some k_ ≠ (.slice Ao11 y229.length co11 : Value).ownBlock) (.slice (some ⟨go6, 0, none⟩) t232.length co6) y235 := (by rw [hw, Ny235.out]; exact HP13.1); clear HP13; have n0_ := Aside0.mk (blk_grown (g := gb228) (o := .cells #[.slice A0_0 l0_0.length c0_0] 28 (0, 0)) (by (with_reducible repeat (first | refine blk_drewN ?_ _ | refine blk_drew ?_ | refine blk_alloc ?_ _)); exact BK228.out) hg (Kd.R_ne HO234.out BK228.out (by decide))); have n1_ := Aside0.mk (Kd.R_after (v := (.slice (some ⟨go6, 0, none⟩) t232.length co6)) (v1 := (.slice (some ⟨go6, 0, none⟩) t232.length co6)) (ok := (fun _ => True)) (by (with_reducible repeat (first | apply Kd.R_alloc | apply Kd.R_drewN | apply Kd.R_drew)); exact HO231.out) hg (.inl rfl)); have n2_ := Aside0.mk (hp_); have n3_ := Aside0.mk ((by rw [hw]; exact below_set (HB.out) GB6.out : Below w.heap.size w w14)); clear BK228; clear HO231; clear HO234; clear HB; have BK228 := n0_; have HO231 := n1_; have HO234 := n2_; have HB := n3_; clear n0_ n1_ n2_ n3_; clear hg hw hp_) | ((with_reducible refine gate_dst (N := 18) rfl ?_); refine Kd.R_lit (Kd.int .i64) _ 3 ?hg (N := 18) ?hd (xs := ([a1] : List Int)) (inner := [.int .i64 a1]) (ok := fun _ => True) (okp := fun _ => True) ?hr ?hp (fun _ hk => hk) trivial (Below.refl _ _) (Nat.le_refl _) (by simp) ?_; (case hd => rfl); (case hg => rfl); (case hr => first | (go_simp; done) | (go_simp; rfl)); (case hp => exact (Reps.one (show Kd.M (Kd.int .i64) _ _ _ a1 [.int .i64 a1] from rfl) (Reps.none _ _))); intro v237 w15 ho16 hb hg_ hnew_; clear hg_ hnew_; (first | rw [← Ny236.out] at ho16 | (simp only [Int.reduceToNat] at ho16; rw [← Ny236.out] at ho16)); have n0_ := Aside0.mk (Kd.R_elder' (by (with_reducible repeat (first | apply Kd.R_alloc | apply Kd.R_drewN | apply Kd.R_drew)); exact HO231.out) (Kd.R_base ho16) hb); have n1_ := Aside0.mk (Kd.R_elder' (by (with_reducible repeat (first | apply Kd.R_alloc | apply Kd.R_drewN | apply Kd.R_drew)); exact HO234.out) (Kd.R_base ho16) hb); have n2_ := Aside0.mk (Kd.R_lower (Kd.R_new' (Kd.R_new' ho16 (Kd.R_lt (by (with_reducible repeat (first | apply Kd.R_alloc | apply Kd.R_drewN | apply Kd.R_drew)); exact HO231.out))) (Kd.R_lt (by (with_reducible repeat (first | apply Kd.R_alloc | apply Kd.R_drewN | apply Kd.R_drew)); exact HO234.out))) (below_size (by repeat (first | (with_reducible first | exact HB.out | apply below_alloc | apply pw_below_drewN | apply below_drew1 | refine below_set ?_ GE228.out) | exact HB.out)))); have n3_ := Aside0.mk (blk_below (g := gb228) (o := .cells #[.slice A0_0 l0_0.length c0_0] 28 (0, 0)) (by (with_reducible repeat (first | refine blk_drewN ?_ _ | refine blk_drew ?_ | refine blk_alloc ?_ _)); exact BK228.out) hb); have n4_ := Aside0.mk (below_step (by repeat (first | (with_reducible first | exact HB.out | apply below_alloc | apply pw_below_drewN | apply below_drew1 | refine below_set ?_ GE228.out) | exact HB.out)) hb); clear HO231; clear HO234; clear BK228; clear HB; have HO231 := n0_; have HO234 := n1_; have HO238 := n2_; have BK228 := n3_; have HB := n4_; clear n0_ n1_ n2_ n3_ n4_; clear hb ho16)))
      go_loopg [6] k (fun kq v6 w' => ∃ (x5_1 : List Int) (x6_1 : List Int), Aside0 (impl_Graph_lengths.l0 kq x5_1 x6_1 l0_0 = some r) ∧ Aside0 (kq ≤ k) ∧ Aside0 (Kd.R (Kd.int .i64) 3 w' w.heap.size (fun k_ => some k_ ≠ (v6 : Value).ownBlock) (.slice (some ⟨go6, 0, none⟩) t232.length co6) x5_1) ∧ Aside0 (Kd.Q (Kd.int .i64) 3 w' w.heap.size (fun k_ => some k_ ≠ ((.slice (some ⟨go6, 0, none⟩) t232.length co6) : Value).ownBlock) v6 x6_1) ∧ Aside0 (w'.heap[gb228]? = some (.cells #[(.slice A0_0 l0_0.length c0_0)] 28 (0, 0))) ∧ Aside0 (Below w.heap.size w w'))
      case atStart => exact ⟨(y235), (y236), H', ⟨Nat.le_refl _⟩, ⟨by (with_reducible repeat (first | apply Kd.R_alloc | apply Kd.R_drewN | apply Kd.R_drew)); exact Kd.R_mono HO234.out (fun _ hk => hk.2)⟩, ⟨Kd.Q_of_R (by (with_reducible repeat (first | apply Kd.R_alloc | apply Kd.R_drewN | apply Kd.R_drew)); exact Kd.R_mono HO238.out (fun _ hk => hk.2))⟩, ⟨by (with_reducible repeat (first | refine blk_drewN ?_ _ | refine blk_drew ?_ | refine blk_alloc ?_ _)); exact BK228.out⟩, ⟨by repeat (first | (with_reducible first | exact HB.out | apply below_alloc | apply pw_below_drewN | apply below_drew1 | refine below_set ?_ GE228.out) | exact HB.out)⟩⟩
      case round =>
        clear H'
        try clear c1
        try clear p2
        try clear c4
        try clear c4b0
        try clear c5
        try clear c5b0
        try clear p6
        try clear q6
        try clear hx6
        try clear hf6
        try clear c10
        try clear hcz10_0
        try clear hfz10_0
        try clear hx6_0
        try clear p6
        try clear q6
        obtain ⟨x5_1, x6_1, HA, HK1, HO_5, HO_6, BK228, HB⟩ := hrel
        have hl5_1 := (Kd.R_reads' HO_5.out).1
        rw [hl5_1] at HO_5
        (try simp only [hl5_1])
        (try simp only [hl5_1] at BK228)
        (try simp only [hl5_1] at HO_6)
        cases gk with
        | zero => exact absurd HA.out (by simp [impl_Graph_lengths.l0])
        | succ k1 =>
          have H := HA.out
          clear HA
          simp only [impl_Graph_lengths.l0] at H
          by_cases c17 : (x6_1.length : Int) > 0
          · rw [if_pos c17] at H
            have c17b0 : decide (0 < (x6_1.length : Int)) = true := decide_eq_true c17
            (try (have c17b0h := c17b0; simp only [hl5_1] at c17b0h))
            have c17b1 : decide (0 < x6_1.length) = true := decide_eq_true (by omega)
            (try (have c17b1h := c17b1; simp only [hl5_1] at c17b1h))
            clear c17
            by_cases c18 : 0 < (x6_1.length : Int)
            · rw [if_pos c18] at H
              have c18b0 : decide (0 < (x6_1.length : Int)) = true := decide_eq_true c18
              (try (have c18b0h := c18b0; simp only [hl5_1] at c18b0h))
              have c18b1 : decide (0 < x6_1.length) = true := decide_eq_true (by omega)
              (try (have c18b1h := c18b1; simp only [hl5_1] at c18b1h))
              clear c18
              by_cases c19 : 0 ≤ (rd x6_1 0)
              · rw [if_pos c19] at H
                have c19b0 : decide (0 ≤ (rd x6_1 0)) = true := decide_eq_true c19
                (try (have c19b0h := c19b0; simp only [hl5_1] at c19b0h))
                clear c19
                by_cases c20 : (rd x6_1 0) < (l0_0.length : Int)
                · rw [if_pos c20] at H
                  have c20b0 : decide ((rd x6_1 0) < (l0_0.length : Int)) = true := decide_eq_true c20
                  (try (have c20b0h := c20b0; simp only [hl5_1] at c20b0h))
                  clear c20
                  have H' := Aside0.mk H
                  clear H
                  obtain ⟨Ao21, co21, eo21, _⟩ := Kd.Q_slice HO_6.out
                  subst eo21
                  have hcz22_0 : wr.cell? ⟨gb228, 0, none⟩ = some (.slice A0_0 l0_0.length c0_0) := (blk_cell BK228.out 0).trans rfl
                  have hfz22_0 := blk_frozen BK228.out 0
                  have p239 : 0 ≤ (0 : Int) := (by omega)
                  have q239 : 0 < (x6_1.length : Int) := of_decide_eq_true (by first | (with_reducible assumption) | assumption)
                  obtain ⟨ad239, e239, hx239_0⟩ := Kd.at_int (Kd.Q_reads' HO_6.out).2.2 0 p239 q239
                  cases e239
                  have qi239 : (0 < x6_1.length) = True := eq_true (by omega)
                  (try rw [show ((0 : Int)).toNat = 0 from rfl] at hx239_0)
                  (try rw [Addr.add_zero'] at hx239_0)
                  replace p239 := eq_true p239
                  replace q239 := eq_true q239
                  have p240 : 0 ≤ ((rd x6_1 0) : Int) := of_decide_eq_true (by first | (with_reducible assumption) | assumption)
                  have q240 : (rd x6_1 0) < (l0_0.length : Int) := of_decide_eq_true (by first | (with_reducible assumption) | assumption)
                  obtain ⟨ad240, A240_0, c240_0, e240, hx240_0, hl240_0, hi240_0⟩ := at_L1 HR0_0.out (rd x6_1 0) p240 q240
                  cases e240
                  replace hx240_0 := (HB.out.cell (World.block_lt_of_cell? w _ hx240_0)).trans hx240_0
                  have HR240_0 := Aside0.mk hi240_0
                  have HC240_0 := Aside0.mk hl240_0
                  clear hi240_0 hl240_0
                  replace p240 := eq_true p240
                  replace q240 := eq_true q240
                  go_wp2
                  repeat (go_quiet (fail); try go_wp2)
                  go_loopg [6, 32] k1 (fun kq v6 v32 w' => ∃ (x5_2 : List Int) (x6_2 : List Int) (x32_2 : Int), v32 = .int .i64 x32_2 ∧ Aside0 (impl_Graph_lengths.l1 kq x5_2 x6_2 (rd_L1 l0_0 (rd x6_1 0)) ((rd_L1 l0_0 (rd x6_1 0)).length : Int) x32_2 l0_0 = some r) ∧ Aside0 (kq ≤ k1) ∧ Aside0 (Kd.R (Kd.int .i64) 3 w' w.heap.size (fun k_ => some k_ ≠ (v6 : Value).ownBlock) (.slice (some ⟨go6, 0, none⟩) x5_1.length co6) x5_2) ∧ Aside0 (Kd.Q (Kd.int .i64) 3 w' w.heap.size (fun k_ => some k_ ≠ ((.slice (some ⟨go6, 0, none⟩) x5_1.length co6) : Value).ownBlock) v6 x6_2) ∧ Aside0 (w'.heap[gb228]? = some (.cells #[(.slice (some ad240) l0_0.length c0_0)] 28 (0, 0))) ∧ Aside0 (Below w.heap.size w w'))
                  case atStart => exact ⟨(x5_1), (x6_1), (0), (by first | rfl | (simp; done) | (simp [*]; done)), H', ⟨Nat.le_refl _⟩, ⟨by (try simp only [hl5_1]); (with_reducible repeat (first | apply Kd.R_alloc | apply Kd.R_drewN | apply Kd.R_drew)); exact HO_5.out⟩, ⟨by (try simp only [hl5_1]); (with_reducible repeat (first | apply Kd.Q_alloc | apply Kd.Q_drewN | apply Kd.Q_drew)); exact HO_6.out⟩, ⟨by (try simp only [hl5_1]); (with_reducible repeat (first | refine blk_drewN ?_ _ | refine blk_drew ?_ | refine blk_alloc ?_ _)); exact BK228.out⟩, ⟨by repeat (first | (with_reducible first | exact HB.out | apply below_alloc | apply pw_below_drewN | apply below_drew1 | refine below_set ?_ GE228.out) | exact HB.out)⟩⟩
                  case round =>
                    clear H'
                    try clear c1
                    try clear c2
                    try clear p2
                    try clear q2
                    try clear hx2
                    try clear qi2
                    try clear c4
                    try clear c4b0
                    try clear c5
                    try clear c5b0
                    try clear p6
                    try clear q6
                    try clear hx6
                    try clear hf6
                    try clear c10
                    try clear c17
                    try clear c17b0
                    try clear c17b1
                    try clear c18
                    try clear c18b0
                    try clear c18b1
                    try clear c19
                    try clear c19b0
                    try clear c20
                    try clear c20b0
                    try clear hcz10_0
                    try clear hcz22_0
                    try clear hfz10_0
                    try clear hfz22_0
                    try clear hx239_0
                    try clear hx240_0
                    try clear hx6_0
                    try clear p2
                    try clear p239
                    try clear p240
                    try clear p6
                    try clear q239
                    try clear q240
                    try clear q6
                    obtain ⟨x5_2, x6_2, x32_2, rfl, HA, HK2, HO_5, HO_6, BK228, HB⟩ := hrel
                    have hl5_2 := (Kd.R_reads' HO_5.out).1
                    rw [hl5_2] at HO_5
                    (try simp only [hl5_2])
                    (try simp only [hl5_2] at BK228)
                    (try simp only [hl5_2] at HO_6)
                    cases gk with
                    | zero => exact absurd HA.out (by simp [impl_Graph_lengths.l1])
                    | succ k2 =>
                      have H := HA.out
                      clear HA
                      simp only [impl_Graph_lengths.l1] at H
                      by_cases c23 : x32_2 < ((rd_L1 l0_0 (rd x6_1 0)).length : Int)
                      · rw [if_pos c23] at H
                        have c23b0 : decide (x32_2 < ((rd_L1 l0_0 (rd x6_1 0)).length : Int)) = true := decide_eq_true c23
                        (try (have c23b0h := c23b0; simp only [hl5_1, hl5_2] at c23b0h))
                        clear c23
                        by_cases c24 : 0 ≤ x32_2
                        · rw [if_pos c24] at H
                          have c24b0 : decide (0 ≤ x32_2) = true := decide_eq_true c24
                          (try (have c24b0h := c24b0; simp only [hl5_1, hl5_2] at c24b0h))
                          clear c24
                          by_cases c25 : x32_2 < ((rd_L1 l0_0 (rd x6_1 0)).length : Int)
                          · rw [if_pos c25] at H
                            have c25b0 : decide (x32_2 < ((rd_L1 l0_0 (rd x6_1 0)).length : Int)) = true := decide_eq_true c25
                            (try (have c25b0h := c25b0; simp only [hl5_1, hl5_2] at c25b0h))
                            clear c25
                            by_cases c26 : 0 ≤ (rd (rd_L1 l0_0 (rd x6_1 0)) x32_2)
                            · rw [if_pos c26] at H
                              have c26b0 : decide (0 ≤ (rd (rd_L1 l0_0 (rd x6_1 0)) x32_2)) = true := decide_eq_true c26
                              (try (have c26b0h := c26b0; simp only [hl5_1, hl5_2] at c26b0h))
                              clear c26
                              by_cases c27 : (rd (rd_L1 l0_0 (rd x6_1 0)) x32_2) < (x5_2.length : Int)
                              · rw [if_pos c27] at H
                                have c27b0 : decide ((rd (rd_L1 l0_0 (rd x6_1 0)) x32_2) < (x5_2.length : Int)) = true := decide_eq_true c27
                                (try (have c27b0h := c27b0; simp only [hl5_1, hl5_2] at c27b0h))
                                clear c27
                                by_cases c28 : (rd x5_2 (rd (rd_L1 l0_0 (rd x6_1 0)) x32_2)) < 0
                                · rw [if_pos c28] at H
                                  have c28b0 : decide ((rd x5_2 (rd (rd_L1 l0_0 (rd x6_1 0)) x32_2)) < 0) = true := decide_eq_true c28
                                  (try (have c28b0h := c28b0; simp only [hl5_1, hl5_2] at c28b0h))
                                  clear c28
                                  by_cases c29 : 0 < (x6_2.length : Int)
                                  · rw [if_pos c29] at H
                                    have c29b0 : decide (0 < (x6_2.length : Int)) = true := decide_eq_true c29
                                    (try (have c29b0h := c29b0; simp only [hl5_1, hl5_2] at c29b0h))
                                    have c29b1 : decide (0 < x6_2.length) = true := decide_eq_true (by omega)
                                    (try (have c29b1h := c29b1; simp only [hl5_1, hl5_2] at c29b1h))
                                    clear c29
                                    by_cases c30 : 0 ≤ (rd x6_2 0)
                                    · rw [if_pos c30] at H
                                      have c30b0 : decide (0 ≤ (rd x6_2 0)) = true := decide_eq_true c30
                                      (try (have c30b0h := c30b0; simp only [hl5_1, hl5_2] at c30b0h))
                                      clear c30
                                      by_cases c31 : (rd x6_2 0) < (x5_2.length : Int)
                                      · rw [if_pos c31] at H
                                        have c31b0 : decide ((rd x6_2 0) < (x5_2.length : Int)) = true := decide_eq_true c31
                                        (try (have c31b0h := c31b0; simp only [hl5_1, hl5_2] at c31b0h))
                                        clear c31
                                        obtain ⟨y245, hy245⟩ : ∃ y_ : List Int, y_ = (x5_2.set ((rd (rd_L1 l0_0 (rd x6_1 0)) x32_2) : Int).toNat (wrap64 ((rd x5_2 (rd x6_2 0)) + 1))) := ⟨_, rfl⟩
                                        replace H : (if x6_2.length < 17592186044416 then (impl_Graph_lengths.l1 k2 y245 (x6_2 ++ [rd (rd_L1 l0_0 (rd x6_1 0)) x32_2]) (rd_L1 l0_0 (rd x6_1 0)) ((rd_L1 l0_0 (rd x6_1 0)).length : Int) (wrap64 (x32_2 + 1)) l0_0) else (none)) = some r := by first | (rw [hy245]; with_reducible exact H) | (have H2_ := (Option.bind_some _ _).symm.trans H; rw [hy245]; with_reducible exact H2_) | (have H2_ := (Option.bind_some _ _).symm.trans H; with_reducible exact H2_) | with_reducible exact H | (rw [hy245]; exact H) | exact H
                                        have Ny245 := Aside0.mk hy245
                                        clear hy245
                                        by_cases c33 : x6_2.length < 17592186044416
                                        · rw [if_pos c33] at H
                                          have LMc33 := Aside0.mk c33
                                          clear c33
                                          obtain ⟨y246, hy246⟩ : ∃ y_ : List Int, y_ = (x6_2 ++ [rd (rd_L1 l0_0 (rd x6_1 0)) x32_2]) := ⟨_, rfl⟩
                                          replace H : (impl_Graph_lengths.l1 k2 y245 y246 (rd_L1 l0_0 (rd x6_1 0)) ((rd_L1 l0_0 (rd x6_1 0)).length : Int) (wrap64 (x32_2 + 1)) l0_0) = some r := by first | (rw [hy246]; with_reducible exact H) | (have H2_ := (Option.bind_some _ _).symm.trans H; rw [hy246]; with_reducible exact H2_) | (have H2_ := (Option.bind_some _ _).symm.trans H; with_reducible exact H2_) | with_reducible exact H | (rw [hy246]; exact H) | exact H
                                          have Ny246 := Aside0.mk hy246
                                          clear hy246
                                          have H' := Aside0.mk H
                                          clear H
                                          have p241 : 0 ≤ (x32_2 : Int) := of_decide_eq_true (by first | (with_reducible assumption) | assumption)
                                          have q241 : x32_2 < ((rd_L1 l0_0 (rd x6_1 0)).length : Int) := of_decide_eq_true (by first | (with_reducible assumption) | assumption)
                                          obtain ⟨ad241, e241, hx241_0⟩ := Kd.at_int HR240_0.out x32_2 p241 q241
                                          cases e241
                                          replace hx241_0 := (HB.out.cell (World.block_lt_of_cell? w _ hx241_0)).trans hx241_0
                                          replace p241 := eq_true p241
                                          replace q241 := eq_true q241
                                          have p242 : 0 ≤ ((rd (rd_L1 l0_0 (rd x6_1 0)) x32_2) : Int) := of_decide_eq_true (by first | (with_reducible assumption) | assumption)
                                          have q242 : (rd (rd_L1 l0_0 (rd x6_1 0)) x32_2) < (x5_2.length : Int) := of_decide_eq_true (by first | (with_reducible assumption) | assumption)
                                          obtain ⟨ad242, e242, hx242_0⟩ := Kd.at_int (Kd.R_reads' HO_5.out).2.2 (rd (rd_L1 l0_0 (rd x6_1 0)) x32_2) p242 q242
                                          obtain rfl : (⟨go6, 0, none⟩ : Addr) = ad242 := (by injection e242)
                                          (first | simp only [add_plain] at hx242_0 | simp only [add_at] at hx242_0 | simp only [Addr.add, Nat.zero_add] at hx242_0 | skip)
                                          replace p242 := eq_true p242
                                          replace q242 := eq_true q242
                                          obtain ⟨Ao34, co34, eo34, _⟩ := Kd.Q_slice HO_6.out
                                          subst eo34
                                          have p243 : 0 ≤ (0 : Int) := (by omega)
                                          have q243 : 0 < (x6_2.length : Int) := of_decide_eq_true (by first | (with_reducible assumption) | assumption)
                                          obtain ⟨ad243, e243, hx243_0⟩ := Kd.at_int (Kd.Q_reads' HO_6.out).2.2 0 p243 q243
                                          cases e243
                                          have qi243 : (0 < x6_2.length) = True := eq_true (by omega)
                                          (try rw [show ((0 : Int)).toNat = 0 from rfl] at hx243_0)
                                          (try rw [Addr.add_zero'] at hx243_0)
                                          replace p243 := eq_true p243
                                          replace q243 := eq_true q243
                                          have p244 : 0 ≤ ((rd x6_2 0) : Int) := of_decide_eq_true (by first | (with_reducible assumption) | assumption)
                                          have q244 : (rd x6_2 0) < (x5_2.length : Int) := of_decide_eq_true (by first | (with_reducible assumption) | assumption)
                                          obtain ⟨ad244, e244, hx244_0⟩ := Kd.at_int (Kd.R_reads' HO_5.out).2.2 (rd x6_2 0) p244 q244
                                          obtain rfl : (⟨go6, 0, none⟩ : Addr) = ad244 := (by injection e244)
                                          (first | simp only [add_plain] at hx244_0 | simp only [add_at] at hx244_0 | simp only [Addr.add, Nat.zero_add] at hx244_0 | skip)
                                          replace p244 := eq_true p244
                                          replace q244 := eq_true q244
                                          have p32 : 0 ≤ ((rd (rd_L1 l0_0 (rd x6_1 0)) x32_2) : Int) := of_decide_eq_true (by first | (with_reducible assumption) | assumption)
                                          have q32 : ((rd (rd_L1 l0_0 (rd x6_1 0)) x32_2) : Int) < ((x5_2.length : Int) : Int) := of_decide_eq_true (by first | (with_reducible assumption) | assumption)
                                          obtain ⟨hx32_0, hf32_0⟩ := Kd.R_celln 0 HO_5.out ((rd (rd_L1 l0_0 (rd x6_1 0)) x32_2) : Int) p32 q32
                                          replace p32 := eq_true p32
                                          replace q32 := eq_true q32
                                          have HP35 := Kd.R_putg HO_5.out ((rd (rd_L1 l0_0 (rd x6_1 0)) x32_2) : Int) (wrap64 ((rd x5_2 (rd x6_2 0)) + 1))
                                          go_wp2_with (first | ((with_reducible refine gate_store (t := 3) (p := 50) rfl ?_); (try (rw [drewN_self wr]; generalize hq_ : World.drewN wr _ = wr; have n0_ := Aside0.mk (Kd.R_at hq_ HO_5.out); have n1_ := Aside0.mk (Kd.Q_at hq_ HO_6.out); have n2_ := Aside0.mk (blk_at hq_ BK228.out); have n3_ := Aside0.mk (below_at hq_ HB.out); clear hq_ HO_5 HO_6 BK228 HB; have HO_5 := n0_; have HO_6 := n1_; have BK228 := n2_; have HB := n3_; clear n0_ n1_ n2_ n3_; (try (have HP35 := Kd.R_putg HO_5.out ((rd (rd_L1 l0_0 (rd x6_1 0)) x32_2) : Int) (wrap64 ((rd x5_2 (rd x6_2 0)) + 1)))))); refine store_event (t := 3) (p := 50) (v := ?vo_w36) (w1 := (wr.setCell ⟨go6, ((rd (rd_L1 l0_0 (rd x6_1 0)) x32_2) : Int).toNat, none⟩ (.int .i64 (wrap64 ((rd x5_2 (rd x6_2 0)) + 1))))) ?hg ?ho ?hn ?hr ?_; (case ho => rfl); (case hg => rfl); (case hn => rfl); (case hr => first | (go_simp; done) | (go_simp; rfl)); intro w36 hw; have hg : wr.grownBy w36 (some go6) := (by rw [hw]; exact HP35.2); have hp_ : Kd.R (Kd.int .i64) 3 w36 w.heap.size (fun k_ => some k_ ≠ (.slice (some ad243) x6_2.length co34 : Value).ownBlock) (.slice (some ⟨go6, 0, none⟩) x5_2.length co6) y245 := (by rw [hw, Ny245.out]; exact HP35.1); clear HP35; have n0_ := Aside0.mk (hp_); have n1_ := Aside0.mk (Kd.Q_after (v := (.slice (some ⟨go6, 0, none⟩) x5_2.length co6)) (v1 := (.slice (some ⟨go6, 0, none⟩) x5_2.length co6)) (ok := (fun _ => True)) (by (with_reducible repeat (first | apply Kd.Q_alloc | apply Kd.Q_drewN | apply Kd.Q_drew)); exact Kd.Q_mono HO_6.out (fun _ hk => ⟨trivial, hk⟩)) hg (.inl rfl)); have n2_ := Aside0.mk (blk_grown (g := gb228) (o := .cells #[.slice (some ad240) l0_0.length c0_0] 28 (0, 0)) (by (with_reducible repeat (first | refine blk_drewN ?_ _ | refine blk_drew ?_ | refine blk_alloc ?_ _)); exact BK228.out) hg (Kd.R_ne HO_5.out BK228.out (by decide))); have n3_ := Aside0.mk ((by rw [hw]; exact below_set (HB.out) GB6.out : Below w.heap.size w w36)); clear HO_5; clear HO_6; clear BK228; clear HB; have HO_5 := n0_; have HO_6 := n1_; have BK228 := n2_; have HB := n3_; clear n0_ n1_ n2_ n3_; clear hg hw hp_) | ((with_reducible refine gate_builtin (b := .append) (xs := #[.tmp 51, .tmp 53]) rfl ?_); at_builtin; refine Kd.Q_append (Kd.int .i64) (w0 := w) w.heap.size rfl (.tmp 51) (.tmp 53) 35 3 (.int .i64 0) 8 rfl Try.underlying35 info3 rfl (by decide) (by omega) (.slice (some ad243) x6_2.length co34) x6_2 (rd (rd_L1 l0_0 (rd x6_1 0)) x32_2) [.int .i64 (rd (rd_L1 l0_0 (rd x6_1 0)) x32_2)] (fun k_ => some k_ ≠ (.slice (some ⟨go6, 0, none⟩) x5_2.length co6 : Value).ownBlock) (fun _ => False) rfl rfl ?aP (fun _ hk => hk.elim) ?aF ?aO ?aB ?aS ?aL ?_; (case aP => exact rfl); (case aB => exact (by repeat (first | (with_reducible first | exact HB.out | apply below_alloc | apply pw_below_drewN | apply below_drew1 | refine below_set ?_ GE228.out) | exact HB.out))); (case aF => exact (fun k_ hk => Kd.fresh' (Kd.R_lt (by (with_reducible repeat (first | apply Kd.R_alloc | apply Kd.R_drewN | apply Kd.R_drew)); exact HO_5.out)) k_ hk)); (case aO => exact (by (with_reducible repeat (first | apply Kd.Q_alloc | apply Kd.Q_drewN | apply Kd.Q_drew)); exact Kd.Q_mono HO_6.out (fun _ hk => hk.2))); (case aS => exact (below_size (by repeat (first | (with_reducible first | exact HB.out | apply below_alloc | apply pw_below_drewN | apply below_drew1 | refine below_set ?_ GE228.out) | exact HB.out)))); (case aL => have := LMc33.out; omega); intro v247 w37 ho hb hg hat; rw [← Ny246.out] at ho; have n0_ := Aside0.mk (Kd.R_after (ok := (fun _ => True)) (by (with_reducible repeat (first | apply Kd.R_alloc | apply Kd.R_drewN | apply Kd.R_drew)); exact Kd.R_mono HO_5.out (fun _ hk => ⟨trivial, hk⟩)) hg hat); have n1_ := Aside0.mk (blk_grown (g := gb228) (o := .cells #[.slice (some ad240) l0_0.length c0_0] 28 (0, 0)) (by (with_reducible repeat (first | refine blk_drewN ?_ _ | refine blk_drew ?_ | refine blk_alloc ?_ _)); exact BK228.out) hg (Kd.Q_ne HO_6.out BK228.out (by decide))); have n2_ := Aside0.mk (hb); have n3_ := Aside0.mk (ho); clear HO_5; clear BK228; clear HB; clear HO_6; have HO_5 := n0_; have BK228 := n1_; have HB := n2_; have HO248 := n3_; clear n0_ n1_ n2_ n3_; clear ho hb hg hat))
                                          repeat (go_quiet (first | ((with_reducible refine gate_store (t := 3) (p := 50) rfl ?_); (try (rw [drewN_self wr]; generalize hq_ : World.drewN wr _ = wr; have n0_ := Aside0.mk (Kd.R_at hq_ HO_5.out); have n1_ := Aside0.mk (Kd.Q_at hq_ HO_6.out); have n2_ := Aside0.mk (blk_at hq_ BK228.out); have n3_ := Aside0.mk (below_at hq_ HB.out); clear hq_ HO_5 HO_6 BK228 HB; have HO_5 := n0_; have HO_6 := n1_; have BK228 := n2_; have HB := n3_; clear n0_ n1_ n2_ n3_; (try (have HP35 := Kd.R_putg HO_5.out ((rd (rd_L1 l0_0 (rd x6_1 0)) x32_2) : Int) (wrap64 ((rd x5_2 (rd x6_2 0)) + 1)))))); refine store_event (t := 3) (p := 50) (v := ?vo_w36) (w1 := (wr.setCell ⟨go6, ((rd (rd_L1 l0_0 (rd x6_1 0)) x32_2) : Int).toNat, none⟩ (.int .i64 (wrap64 ((rd x5_2 (rd x6_2 0)) + 1))))) ?hg ?ho ?hn ?hr ?_; (case ho => rfl); (case hg => rfl); (case hn => rfl); (case hr => first | (go_simp; done) | (go_simp; rfl)); intro w36 hw; have hg : wr.grownBy w36 (some go6) := (by rw [hw]; exact HP35.2); have hp_ : Kd.R (Kd.int .i64) 3 w36 w.heap.size (fun k_ => some k_ ≠ (.slice (some ad243) x6_2.length co34 : Value).ownBlock) (.slice (some ⟨go6, 0, none⟩) x5_2.length co6) y245 := (by rw [hw, Ny245.out]; exact HP35.1); clear HP35; have n0_ := Aside0.mk (hp_); have n1_ := Aside0.mk (Kd.Q_after (v := (.slice (some ⟨go6, 0, none⟩) x5_2.length co6)) (v1 := (.slice (some ⟨go6, 0, none⟩) x5_2.length co6)) (ok := (fun _ => True)) (by (with_reducible repeat (first | apply Kd.Q_alloc | apply Kd.Q_drewN | apply Kd.Q_drew)); exact Kd.Q_mono HO_6.out (fun _ hk => ⟨trivial, hk⟩)) hg (.inl rfl)); have n2_ := Aside0.mk (blk_grown (g := gb228) (o := .cells #[.slice (some ad240) l0_0.length c0_0] 28 (0, 0)) (by (with_reducible repeat (first | refine blk_drewN ?_ _ | refine blk_drew ?_ | refine blk_alloc ?_ _)); exact BK228.out) hg (Kd.R_ne HO_5.out BK228.out (by decide))); have n3_ := Aside0.mk ((by rw [hw]; exact below_set (HB.out) GB6.out : Below w.heap.size w w36)); clear HO_5; clear HO_6; clear BK228; clear HB; have HO_5 := n0_; have HO_6 := n1_; have BK228 := n2_; have HB := n3_; clear n0_ n1_ n2_ n3_; clear hg hw hp_) | ((with_reducible refine gate_builtin (b := .append) (xs := #[.tmp 51, .tmp 53]) rfl ?_); at_builtin; refine Kd.Q_append (Kd.int .i64) (w0 := w) w.heap.size rfl (.tmp 51) (.tmp 53) 35 3 (.int .i64 0) 8 rfl Try.underlying35 info3 rfl (by decide) (by omega) (.slice (some ad243) x6_2.length co34) x6_2 (rd (rd_L1 l0_0 (rd x6_1 0)) x32_2) [.int .i64 (rd (rd_L1 l0_0 (rd x6_1 0)) x32_2)] (fun k_ => some k_ ≠ (.slice (some ⟨go6, 0, none⟩) x5_2.length co6 : Value).ownBlock) (fun _ => False) rfl rfl ?aP (fun _ hk => hk.elim) ?aF ?aO ?aB ?aS ?aL ?_; (case aP => exact rfl); (case aB => exact (by repeat (first | (with_reducible first | exact HB.out | apply below_alloc | apply pw_below_drewN | apply below_drew1 | refine below_set ?_ GE228.out) | exact HB.out))); (case aF => exact (fun k_ hk => Kd.fresh' (Kd.R_lt (by (with_reducible repeat (first | apply Kd.R_alloc | apply Kd.R_drewN | apply Kd.R_drew)); exact HO_5.out)) k_ hk)); (case aO => exact (by (with_reducible repeat (first | apply Kd.Q_alloc | apply Kd.Q_drewN | apply Kd.Q_drew)); exact Kd.Q_mono HO_6.out (fun _ hk => hk.2))); (case aS => exact (below_size (by repeat (first | (with_reducible first | exact HB.out | apply below_alloc | apply pw_below_drewN | apply below_drew1 | refine below_set ?_ GE228.out) | exact HB.out)))); (case aL => have := LMc33.out; omega); intro v247 w37 ho hb hg hat; rw [← Ny246.out] at ho; have n0_ := Aside0.mk (Kd.R_after (ok := (fun _ => True)) (by (with_reducible repeat (first | apply Kd.R_alloc | apply Kd.R_drewN | apply Kd.R_drew)); exact Kd.R_mono HO_5.out (fun _ hk => ⟨trivial, hk⟩)) hg hat); have n1_ := Aside0.mk (blk_grown (g := gb228) (o := .cells #[.slice (some ad240) l0_0.length c0_0] 28 (0, 0)) (by (with_reducible repeat (first | refine blk_drewN ?_ _ | refine blk_drew ?_ | refine blk_alloc ?_ _)); exact BK228.out) hg (Kd.Q_ne HO_6.out BK228.out (by decide))); have n2_ := Aside0.mk (hb); have n3_ := Aside0.mk (ho); clear HO_5; clear BK228; clear HB; clear HO_6; have HO_5 := n0_; have BK228 := n1_; have HB := n2_; have HO248 := n3_; clear n0_ n1_ n2_ n3_; clear ho hb hg hat)); try go_wp2_with (first | ((with_reducible refine gate_store (t := 3) (p := 50) rfl ?_); (try (rw [drewN_self wr]; generalize hq_ : World.drewN wr _ = wr; have n0_ := Aside0.mk (Kd.R_at hq_ HO_5.out); have n1_ := Aside0.mk (Kd.Q_at hq_ HO_6.out); have n2_ := Aside0.mk (blk_at hq_ BK228.out); have n3_ := Aside0.mk (below_at hq_ HB.out); clear hq_ HO_5 HO_6 BK228 HB; have HO_5 := n0_; have HO_6 := n1_; have BK228 := n2_; have HB := n3_; clear n0_ n1_ n2_ n3_; (try (have HP35 := Kd.R_putg HO_5.out ((rd (rd_L1 l0_0 (rd x6_1 0)) x32_2) : Int) (wrap64 ((rd x5_2 (rd x6_2 0)) + 1)))))); refine store_event (t := 3) (p := 50) (v := ?vo_w36) (w1 := (wr.setCell ⟨go6, ((rd (rd_L1 l0_0 (rd x6_1 0)) x32_2) : Int).toNat, none⟩ (.int .i64 (wrap64 ((rd x5_2 (rd x6_2 0)) + 1))))) ?hg ?ho ?hn ?hr ?_; (case ho => rfl); (case hg => rfl); (case hn => rfl); (case hr => first | (go_simp; done) | (go_simp; rfl)); intro w36 hw; have hg : wr.grownBy w36 (some go6) := (by rw [hw]; exact HP35.2); have hp_ : Kd.R (Kd.int .i64) 3 w36 w.heap.size (fun k_ => some k_ ≠ (.slice (some ad243) x6_2.length co34 : Value).ownBlock) (.slice (some ⟨go6, 0, none⟩) x5_2.length co6) y245 := (by rw [hw, Ny245.out]; exact HP35.1); clear HP35; have n0_ := Aside0.mk (hp_); have n1_ := Aside0.mk (Kd.Q_after (v := (.slice (some ⟨go6, 0, none⟩) x5_2.length co6)) (v1 := (.slice (some ⟨go6, 0, none⟩) x5_2.length co6)) (ok := (fun _ => True)) (by (with_reducible repeat (first | apply Kd.Q_alloc | apply Kd.Q_drewN | apply Kd.Q_drew)); exact Kd.Q_mono HO_6.out (fun _ hk => ⟨trivial, hk⟩)) hg (.inl rfl)); have n2_ := Aside0.mk (blk_grown (g := gb228) (o := .cells #[.slice (some ad240) l0_0.length c0_0] 28 (0, 0)) (by (with_reducible repeat (first | refine blk_drewN ?_ _ | refine blk_drew ?_ | refine blk_alloc ?_ _)); exact BK228.out) hg (Kd.R_ne HO_5.out BK228.out (by decide))); have n3_ := Aside0.mk ((by rw [hw]; exact below_set (HB.out) GB6.out : Below w.heap.size w w36)); clear HO_5; clear HO_6; clear BK228; clear HB; have HO_5 := n0_; have HO_6 := n1_; have BK228 := n2_; have HB := n3_; clear n0_ n1_ n2_ n3_; clear hg hw hp_) | ((with_reducible refine gate_builtin (b := .append) (xs := #[.tmp 51, .tmp 53]) rfl ?_); at_builtin; refine Kd.Q_append (Kd.int .i64) (w0 := w) w.heap.size rfl (.tmp 51) (.tmp 53) 35 3 (.int .i64 0) 8 rfl Try.underlying35 info3 rfl (by decide) (by omega) (.slice (some ad243) x6_2.length co34) x6_2 (rd (rd_L1 l0_0 (rd x6_1 0)) x32_2) [.int .i64 (rd (rd_L1 l0_0 (rd x6_1 0)) x32_2)] (fun k_ => some k_ ≠ (.slice (some ⟨go6, 0, none⟩) x5_2.length co6 : Value).ownBlock) (fun _ => False) rfl rfl ?aP (fun _ hk => hk.elim) ?aF ?aO ?aB ?aS ?aL ?_; (case aP => exact rfl); (case aB => exact (by repeat (first | (with_reducible first | exact HB.out | apply below_alloc | apply pw_below_drewN | apply below_drew1 | refine below_set ?_ GE228.out) | exact HB.out))); (case aF => exact (fun k_ hk => Kd.fresh' (Kd.R_lt (by (with_reducible repeat (first | apply Kd.R_alloc | apply Kd.R_drewN | apply Kd.R_drew)); exact HO_5.out)) k_ hk)); (case aO => exact (by (with_reducible repeat (first | apply Kd.Q_alloc | apply Kd.Q_drewN | apply Kd.Q_drew)); exact Kd.Q_mono HO_6.out (fun _ hk => hk.2))); (case aS => exact (below_size (by repeat (first | (with_reducible first | exact HB.out | apply below_alloc | apply pw_below_drewN | apply below_drew1 | refine below_set ?_ GE228.out) | exact HB.out)))); (case aL => have := LMc33.out; omega); intro v247 w37 ho hb hg hat; rw [← Ny246.out] at ho; have n0_ := Aside0.mk (Kd.R_after (ok := (fun _ => True)) (by (with_reducible repeat (first | apply Kd.R_alloc | apply Kd.R_drewN | apply Kd.R_drew)); exact Kd.R_mono HO_5.out (fun _ hk => ⟨trivial, hk⟩)) hg hat); have n1_ := Aside0.mk (blk_grown (g := gb228) (o := .cells #[.slice (some ad240) l0_0.length c0_0] 28 (0, 0)) (by (with_reducible repeat (first | refine blk_drewN ?_ _ | refine blk_drew ?_ | refine blk_alloc ?_ _)); exact BK228.out) hg (Kd.Q_ne HO_6.out BK228.out (by decide))); have n2_ := Aside0.mk (hb); have n3_ := Aside0.mk (ho); clear HO_5; clear BK228; clear HB; clear HO_6; have HO_5 := n0_; have BK228 := n1_; have HB := n2_; have HO248 := n3_; clear n0_ n1_ n2_ n3_; clear ho hb hg hat)))
                                          (try simp only [← hl5_2])
                                          go_roundg k2
                                          case measure => have := HK1.out; have := HK2.out; omega
                                          case rel => exact ⟨(y245), (y246), (wrap64 (x32_2 + 1)), (by first | rfl | (simp; done) | (simp [*]; done)), H', ⟨by have := HK1.out; have := HK2.out; omega⟩, ⟨by (try simp only [hl5_1]); (try simp only [hl5_2]); (with_reducible repeat (first | apply Kd.R_alloc | apply Kd.R_drewN | apply Kd.R_drew)); exact Kd.R_mono HO_5.out (fun _ hk => hk.2)⟩, ⟨by (try simp only [hl5_1]); (try simp only [hl5_2]); (with_reducible repeat (first | apply Kd.Q_alloc | apply Kd.Q_drewN | apply Kd.Q_drew)); exact HO248.out⟩, ⟨by (try simp only [hl5_1]); (try simp only [hl5_2]); (with_reducible repeat (first | refine blk_drewN ?_ _ | refine blk_drew ?_ | refine blk_alloc ?_ _)); exact BK228.out⟩, ⟨by repeat (first | (with_reducible first | exact HB.out | apply below_alloc | apply pw_below_drewN | apply below_drew1 | refine below_set ?_ GE228.out) | exact HB.out)⟩⟩
                                        · rw [if_neg c33] at H
                                          exact absurd H (by simp)
                                      · rw [if_neg c31] at H
                                        exact absurd H (by simp)
                                    · rw [if_neg c30] at H
                                      exact absurd H (by simp)
                                  · rw [if_neg c29] at H
                                    exact absurd H (by simp)
                                · rw [if_neg c28] at H
                                  have c28b0 : decide ((rd x5_2 (rd (rd_L1 l0_0 (rd x6_1 0)) x32_2)) < 0) = false := decide_eq_false c28
                                  (try (have c28b0h := c28b0; simp only [hl5_1, hl5_2] at c28b0h))
                                  clear c28
                                  have H' := Aside0.mk H
                                  clear H
                                  have p241 : 0 ≤ (x32_2 : Int) := of_decide_eq_true (by first | (with_reducible assumption) | assumption)
                                  have q241 : x32_2 < ((rd_L1 l0_0 (rd x6_1 0)).length : Int) := of_decide_eq_true (by first | (with_reducible assumption) | assumption)
                                  obtain ⟨ad241, e241, hx241_0⟩ := Kd.at_int HR240_0.out x32_2 p241 q241
                                  cases e241
                                  replace hx241_0 := (HB.out.cell (World.block_lt_of_cell? w _ hx241_0)).trans hx241_0
                                  replace p241 := eq_true p241
                                  replace q241 := eq_true q241
                                  have p242 : 0 ≤ ((rd (rd_L1 l0_0 (rd x6_1 0)) x32_2) : Int) := of_decide_eq_true (by first | (with_reducible assumption) | assumption)
                                  have q242 : (rd (rd_L1 l0_0 (rd x6_1 0)) x32_2) < (x5_2.length : Int) := of_decide_eq_true (by first | (with_reducible assumption) | assumption)
                                  obtain ⟨ad242, e242, hx242_0⟩ := Kd.at_int (Kd.R_reads' HO_5.out).2.2 (rd (rd_L1 l0_0 (rd x6_1 0)) x32_2) p242 q242
                                  obtain rfl : (⟨go6, 0, none⟩ : Addr) = ad242 := (by injection e242)
                                  (first | simp only [add_plain] at hx242_0 | simp only [add_at] at hx242_0 | simp only [Addr.add, Nat.zero_add] at hx242_0 | skip)
                                  replace p242 := eq_true p242
                                  replace q242 := eq_true q242
                                  go_wp2
                                  repeat (go_quiet (fail); try go_wp2)
                                  (try simp only [← hl5_2])
                                  go_roundg k2
                                  case measure => have := HK1.out; have := HK2.out; omega
                                  case rel => exact ⟨(x5_2), (x6_2), (wrap64 (x32_2 + 1)), (by first | rfl | (simp; done) | (simp [*]; done)), H', ⟨by have := HK1.out; have := HK2.out; omega⟩, ⟨by (try simp only [hl5_1]); (try simp only [hl5_2]); (with_reducible repeat (first | apply Kd.R_alloc | apply Kd.R_drewN | apply Kd.R_drew)); exact HO_5.out⟩, ⟨by (try simp only [hl5_1]); (try simp only [hl5_2]); (with_reducible repeat (first | apply Kd.Q_alloc | apply Kd.Q_drewN | apply Kd.Q_drew)); exact HO_6.out⟩, ⟨by (try simp only [hl5_1]); (try simp only [hl5_2]); (with_reducible repeat (first | refine blk_drewN ?_ _ | refine blk_drew ?_ | refine blk_alloc ?_ _)); exact BK228.out⟩, ⟨by repeat (first | (with_reducible first | exact HB.out | apply below_alloc | apply pw_below_drewN | apply below_drew1 | refine below_set ?_ GE228.out) | exact HB.out)⟩⟩
                              · rw [if_neg c27] at H
                                exact absurd H (by simp)
                            · rw [if_neg c26] at H
                              exact absurd H (by simp)
                          · rw [if_neg c25] at H
                            exact absurd H (by simp)
                        · rw [if_neg c24] at H
                          exact absurd H (by simp)
                      · rw [if_neg c23] at H
                        have c23b0 : decide (x32_2 < ((rd_L1 l0_0 (rd x6_1 0)).length : Int)) = false := decide_eq_false c23
                        (try (have c23b0h := c23b0; simp only [hl5_1, hl5_2] at c23b0h))
                        clear c23
                        by_cases c38 : 1 ≤ (x6_2.length : Int)
                        · rw [if_pos c38] at H
                          have c38b0 := eq_true c38
                          have c38b1 : decide (1 ≤ (x6_2.length : Int)) = true := decide_eq_true c38
                          clear c38
                          obtain ⟨y249, hy249⟩ : ∃ y_ : List Int, y_ = (x6_2.drop (1 : Int).toNat) := ⟨_, rfl⟩
                          replace H : (impl_Graph_lengths.l0 k2 x5_2 y249 l0_0) = some r := by first | (rw [hy249]; with_reducible exact H) | (have H2_ := (Option.bind_some _ _).symm.trans H; rw [hy249]; with_reducible exact H2_) | (have H2_ := (Option.bind_some _ _).symm.trans H; with_reducible exact H2_) | with_reducible exact H | (rw [hy249]; exact H) | exact H
                          have Ny249 := Aside0.mk hy249
                          clear hy249
                          have H' := Aside0.mk H
                          clear H
                          obtain ⟨Ao39, co39, eo39, _⟩ := Kd.Q_slice HO_6.out
                          subst eo39
                          have q40 : (1 : Int) ≤ ((x6_2.length : Int) : Int) := of_decide_eq_true (by first | (with_reducible assumption) | assumption)
                          obtain ⟨i040, hi040, _, hsz40, _⟩ := info_parts info3
                          have hcut40 := cut_from (P := Try.prog) 35 3 .i64 Try.underlying35 hi040 1 hsz40 Ao39 x6_2.length co39 1 (by omega) q40
                          have hr40 := Kd.Q_drop (k := (1 : Int).toNat) HO_6.out (by omega)
                          obtain ⟨A40, hA40⟩ : ∃ A1, A1 = (if co39 = (1 : Int).toNat then Ao39 else (Ao39 : Option Addr).map (·.add ((1 : Int).toNat * 1))) := ⟨_, rfl⟩
                          obtain ⟨c40, hc40⟩ : ∃ c1, c1 = co39 - (1 : Int).toNat := ⟨_, rfl⟩
                          have hy40 : y249.length = x6_2.length - (1 : Int).toNat := (by rw [Ny249.out, List.length_drop])
                          rw [← Ny249.out] at hr40
                          rw [← hy40, ← hA40, ← hc40] at hcut40
                          replace hr40 : Kd.Q (Kd.int .i64) 3 wr w.heap.size (fun k_ => some k_ ≠ (.slice (some ⟨go6, 0, none⟩) x5_2.length co6 : Value).ownBlock) (.slice A40 y249.length c40) y249 := (by rw [hA40, hc40, hy40]; exact hr40)
                          have HE40 : Aside0 ((Value.slice A40 y249.length c40).ownBlock = (.slice Ao39 x6_2.length co39 : Value).ownBlock) := ⟨by rw [hA40]; split <;> (cases (Ao39 : Option Addr) <;> first | rfl | (simp only [Option.map, Value.ownBlock, Addr.add]; split <;> rfl))⟩
                          clear hy40 hi040 hsz40 HO_6 hA40 hc40
                          have HO251 := Aside0.mk hr40
                          clear hr40
                          replace q40 := eq_true q40
                          have n_ := Aside0.mk (Kd.R_mono (ok' := fun k_ => some k_ ≠ (.slice A40 y249.length c40 : Value).ownBlock) HO_5.out (fun k_ hk => (by rw [HE40.out]; exact hk)))
                          clear HO_5
                          have HO_5 := n_
                          clear n_
                          go_wp2
                          repeat (go_quiet (fail); try go_wp2)
                          (try simp only [← hl5_1, ← hl5_2])
                          go_roundg k2
                          case measure => have := HK1.out; have := HK2.out; omega
                          case rel => exact ⟨(x5_2), (y249), H', ⟨by have := HK1.out; have := HK2.out; omega⟩, ⟨by (try simp only [hl5_1]); (try simp only [hl5_2]); (with_reducible repeat (first | apply Kd.R_alloc | apply Kd.R_drewN | apply Kd.R_drew)); exact HO_5.out⟩, ⟨by (try simp only [hl5_1]); (try simp only [hl5_2]); (with_reducible repeat (first | apply Kd.Q_alloc | apply Kd.Q_drewN | apply Kd.Q_drew)); exact HO251.out⟩, ⟨by (try simp only [hl5_1]); (try simp only [hl5_2]); (with_reducible repeat (first | refine blk_drewN ?_ _ | refine blk_drew ?_ | refine blk_alloc ?_ _)); exact BK228.out⟩, ⟨by repeat (first | (with_reducible first | exact HB.out | apply below_alloc | apply pw_below_drewN | apply below_drew1 | refine below_set ?_ GE228.out) | exact HB.out)⟩⟩
                        · rw [if_neg c38] at H
                          exact absurd H (by simp)
                · rw [if_neg c20] at H
                  exact absurd H (by simp)
              · rw [if_neg c19] at H
                exact absurd H (by simp)
            · rw [if_neg c18] at H
              exact absurd H (by simp)
          · rw [if_neg c17] at H
            have c17b0 : decide (0 < (x6_1.length : Int)) = false := decide_eq_false c17
            (try (have c17b0h := c17b0; simp only [hl5_1] at c17b0h))
            have c17b1 : decide (0 < x6_1.length) = false := decide_eq_false (by omega)
            (try (have c17b1h := c17b1; simp only [hl5_1] at c17b1h))
            clear c17
            obtain rfl := Option.some.inj H
            obtain ⟨Ao41, co41, eo41, _⟩ := Kd.Q_slice HO_6.out
            subst eo41
            go_wp2
            repeat (go_quiet (fail); try go_wp2)
            go_ret
            exact ⟨_, by first | rfl | (simp [errW_none, errW_some] <;> rfl) | (simp [*, errW_none, errW_some] <;> rfl), by (with_reducible repeat (first | apply Kd.R_alloc | apply Kd.R_drewN | apply Kd.R_drew)); exact Kd.R_mono HO_5.out (fun _ hk => trivial), by repeat (first | (with_reducible first | exact HB.out | apply below_alloc | apply pw_below_drewN | apply below_drew1 | refine below_set ?_ GE228.out) | exact HB.out)⟩
    · rw [if_neg c5] at H
      exact absurd H (by simp)
  · rw [if_neg c4] at H
    exact absurd H (by simp)

end Go.Proofs.Ytnphoaecjeenjaa.P
namespace Go.Proofs.Ytnphoaecjeenjaa.P
open Go.RowKit Go.Proofs.YtnphoaecjeenjaaW.PrintWords Go.Proofs.YtnphoaecjeenjaaW.PrintLast Go.Proofs.YtnphoaecjeenjaaW.PrintMore
attribute [local go_sem] max2_int min2_int max_two min_two max_three min_three max_four min_four   -- for this text's walks alone
set_option linter.unusedVariables false
set_option linter.unusedSimpArgs false

/-! ### spec_grFar: function 99 -/
mutual
def spec_grFar.l0 : Nat → Int → List Int → Int → Int → List (List Int) → Option (List Int)
  | 0, _, _, _, _, _ => none
  | k + 1, x1, x5, x16, x17, x264000 => if x17 < x16 then (if 0 ≤ x17 then (if x17 < (x5.length : Int) then (spec_grFar.l0 k x1 (x5.set (x17 : Int).toNat (-1)) x16 (wrap64 (x17 + 1)) x264000) else (none)) else (none)) else (if 0 ≤ x1 then (if x1 < (x5.length : Int) then (spec_grFar.l1 k (x5.set (x1 : Int).toNat 0) (([x1] : List Int)) 0 x264000) else (none)) else (none))
def spec_grFar.l1 : Nat → List Int → List Int → Int → List (List Int) → Option (List Int)
  | 0, _, _, _, _ => none
  | k + 1, x5, x7, x8, x264000 => if x8 < (x7.length : Int) then (if 0 ≤ x8 then (if 0 ≤ (rd x7 x8) then (if (rd x7 x8) < (x264000.length : Int) then (spec_grFar.l2 k x5 x7 x8 (rd_L1 x264000 (rd x7 x8)) ((rd_L1 x264000 (rd x7 x8)).length : Int) 0 x264000) else (none)) else (none)) else (none)) else (some x5)
def spec_grFar.l2 : Nat → List Int → List Int → Int → List Int → Int → Int → List (List Int) → Option (List Int)
  | 0, _, _, _, _, _, _, _ => none
  | k + 1, x5, x7, x8, x42, x43, x44, x264000 => if x44 < x43 then (if 0 ≤ x44 then (if x44 < (x42.length : Int) then (if 0 ≤ (rd x42 x44) then (if (rd x42 x44) < (x5.length : Int) then (if (rd x5 (rd x42 x44)) < 0 then (if 0 ≤ x8 then (if x8 < (x7.length : Int) then (if 0 ≤ (rd x7 x8) then (if (rd x7 x8) < (x5.length : Int) then (if x7.length < 17592186044416 then (spec_grFar.l2 k (x5.set ((rd x42 x44) : Int).toNat (wrap64 ((rd x5 (rd x7 x8)) + 1))) (x7 ++ [rd x42 x44]) x8 x42 x43 (wrap64 (x44 + 1)) x264000) else (none)) else (none)) else (none)) else (none)) else (none)) else (spec_grFar.l2 k x5 x7 x8 x42 x43 (wrap64 (x44 + 1)) x264000)) else (none)) else (none)) else (none)) else (none)) else (spec_grFar.l1 k x5 x7 (wrap64 (x8 + 1)) x264000)
end
def spec_grFar.f (k : Nat) (l0_0 : List (List Int)) (a1 : Int) : Option (List Int) := if 0 ≤ (l0_0.length : Int) then (if ((l0_0.length : Int) : Int).toNat ≤ 35184372088832 then ((some (List.replicate ((l0_0.length : Int) : Int).toNat 0 : List Int)).bind fun y264 => (spec_grFar.l0 k a1 y264 (y264.length : Int) 0 l0_0)) else (none)) else (none)
theorem spec_grFar.mono_l : ∀ k, (∀ y0 y1 y2 y3 y4, LeO (spec_grFar.l0 k y0 y1 y2 y3 y4) (spec_grFar.l0 (k + 1) y0 y1 y2 y3 y4)) ∧ (∀ y0 y1 y2 y3, LeO (spec_grFar.l1 k y0 y1 y2 y3) (spec_grFar.l1 (k + 1) y0 y1 y2 y3)) ∧ (∀ y0 y1 y2 y3 y4 y5 y6, LeO (spec_grFar.l2 k y0 y1 y2 y3 y4 y5 y6) (spec_grFar.l2 (k + 1) y0 y1 y2 y3 y4 y5 y6))
  | 0 => ⟨fun _ _ _ _ _ r h => by simp [spec_grFar.l0] at h, fun _ _ _ _ r h => by simp [spec_grFar.l1] at h, fun _ _ _ _ _ _ _ r h => by simp [spec_grFar.l2] at h⟩
  | k + 1 => by
    obtain ⟨ih0, ih1, ih2⟩ := spec_grFar.mono_l k
    refine ⟨?_, ?_, ?_⟩
    · intro y0 y1 y2 y3 y4
      unfold spec_grFar.l0
      repeat' first
      | (with_reducible exact ih0 _ _ _ _ _)
      | (with_reducible exact ih1 _ _ _ _)
      | (with_reducible exact ih2 _ _ _ _ _ _ _)
      | (with_reducible exact LeO.refl _)
      | (with_reducible exact LeO.none _)
      | (with_reducible refine LeO.ite ?_ ?_)
      | (with_reducible refine LeO.bind ?_ (fun _ => ?_))
      | exact ih0 _ _ _ _ _
      | exact ih1 _ _ _ _
      | exact ih2 _ _ _ _ _ _ _
      | exact LeO.none _
      | refine LeO.ite ?_ ?_
      | refine LeO.bind ?_ (fun _ => ?_)
    · intro y0 y1 y2 y3
      unfold spec_grFar.l1
      repeat' first
      | (with_reducible exact ih0 _ _ _ _ _)
      | (with_reducible exact ih1 _ _ _ _)
      | (with_reducible exact ih2 _ _ _ _ _ _ _)
      | (with_reducible exact LeO.refl _)
      | (with_reducible exact LeO.none _)
      | (with_reducible refine LeO.ite ?_ ?_)
      | (with_reducible refine LeO.bind ?_ (fun _ => ?_))
      | exact ih0 _ _ _ _ _
      | exact ih1 _ _ _ _
      | exact ih2 _ _ _ _ _ _ _
      | exact LeO.none _
      | refine LeO.ite ?_ ?_
      | refine LeO.bind ?_ (fun _ => ?_)
    · intro y0 y1 y2 y3 y4 y5 y6
      unfold spec_grFar.l2
      repeat' first
      | (with_reducible exact ih0 _ _ _ _ _)
      | (with_reducible exact ih1 _ _ _ _)
      | (with_reducible exact ih2 _ _ _ _ _ _ _)
      | (with_reducible exact LeO.refl _)
      | (with_reducible exact LeO.none _)
      | (with_reducible refine LeO.ite ?_ ?_)
      | (with_reducible refine LeO.bind ?_ (fun _ => ?_))
      | exact ih0 _ _ _ _ _
      | exact ih1 _ _ _ _
      | exact ih2 _ _ _ _ _ _ _
      | exact LeO.none _
      | refine LeO.ite ?_ ?_
      | refine LeO.bind ?_ (fun _ => ?_)
theorem spec_grFar.mono : ∀ a0 a1 k, LeO (spec_grFar.f k a0 a1) (spec_grFar.f (k + 1) a0 a1) := by
  intro a0 a1 k
  obtain ⟨ih0, ih1, ih2⟩ := spec_grFar.mono_l k
  unfold spec_grFar.f
  repeat' first
      | (with_reducible exact ih0 _ _ _ _ _)
      | (with_reducible exact ih1 _ _ _ _)
      | (with_reducible exact ih2 _ _ _ _ _ _ _)
      | (with_reducible exact LeO.refl _)
      | (with_reducible exact LeO.none _)
      | (with_reducible refine LeO.ite ?_ ?_)
      | (with_reducible refine LeO.bind ?_ (fun _ => ?_))
      | exact ih0 _ _ _ _ _
      | exact ih1 _ _ _ _
      | exact ih2 _ _ _ _ _ _ _
      | exact LeO.none _
      | refine LeO.ite ?_ ?_
      | refine LeO.bind ?_ (fun _ => ?_)
set_option maxHeartbeats 8000000 in
set_option maxRecDepth 100000 in
theorem spec_grFar.calls (k : Nat) (A0_0 : Option Addr) (c0_0 : Nat) (l0_0 : List (List Int)) (a1 : Int) (r : List Int) (w : World) (hr0_0 : Kd.C (Kd.slice 3 (Kd.int .i64)) w A0_0 l0_0.length l0_0) (hc0_0 : l0_0.length ≤ c0_0) (h : spec_grFar.f k l0_0 a1 = some r) :
    Calls Try.prog 99 #[.agg #[.slice A0_0 l0_0.length c0_0], .int .i64 a1] w fun e w' => ∃ v0_ : Value, e = .returned (v0_) ∧ Kd.R (Kd.int .i64) 3 w' w.heap.size (fun _ => True) v0_ r ∧ Below w.heap.size w w' := by
  have hu28 := Try.underlying28
  have HR0_0 := Aside0.mk hr0_0
  have HC0_0 := Aside0.mk hc0_0
  clear hr0_0 hc0_0
  have HB := Aside0.mk (Below.refl w.heap.size w)
  have H : (if 0 ≤ (l0_0.length : Int) then (if ((l0_0.length : Int) : Int).toNat ≤ 35184372088832 then ((some (List.replicate ((l0_0.length : Int) : Int).toNat 0 : List Int)).bind fun y264 => (spec_grFar.l0 k a1 y264 (y264.length : Int) 0 l0_0)) else (none)) else (none)) = some r := h
  clear h
  by_cases c3 : 0 ≤ (l0_0.length : Int)
  · rw [if_pos c3] at H
    have c3b0 := eq_true c3
    have c3b1 : decide (0 ≤ (l0_0.length : Int)) = true := decide_eq_true c3
    clear c3
    by_cases c4 : ((l0_0.length : Int) : Int).toNat ≤ 35184372088832
    · rw [if_pos c4] at H
      have c4b0 := eq_true c4
      have c4b1 : decide (((l0_0.length : Int) : Int).toNat ≤ 35184372088832) = true := decide_eq_true c4
      clear c4
      obtain ⟨y264, hy264⟩ : ∃ y_ : List Int, y_ = (List.replicate ((l0_0.length : Int) : Int).toNat 0) := ⟨_, rfl⟩
      replace H : (spec_grFar.l0 k a1 y264 (y264.length : Int) 0 l0_0) = some r := by first | (rw [hy264]; with_reducible exact H) | (have H2_ := (Option.bind_some _ _).symm.trans H; rw [hy264]; with_reducible exact H2_) | (have H2_ := (Option.bind_some _ _).symm.trans H; with_reducible exact H2_) | with_reducible exact H | (rw [hy264]; exact H) | exact H
      have Ny264 := Aside0.mk hy264
      clear hy264
      have H' := Aside0.mk H
      clear H
      go_enter Try.func99, Try.ntmps99
      go_wp2_with (first | ((with_reducible refine gate_dst (N := 2) rfl ?_); refine box_event ?hg (N := 2) ?hd (cs := #[.slice A0_0 l0_0.length c0_0]) (t := 28) ?hr ?_; (case hd => rfl); (case hg => rfl); (case hr => first | (go_simp; done) | (go_simp; rfl)); intro gb263 hg w5 hbox hb; have n0_ := Aside0.mk (below_step (by repeat (first | (with_reducible first | exact HB.out | apply below_alloc | apply pw_below_drewN | apply below_drew1) | exact HB.out)) hb); have n1_ := Aside0.mk (hbox); have n2_ := Aside0.mk ((by rw [hg]; exact (below_size (by repeat (first | (with_reducible first | exact HB.out | apply below_alloc | apply pw_below_drewN | apply below_drew1) | exact HB.out))) : w.heap.size ≤ gb263)); have n3_ := Aside0.mk ((by rw [hg]; exact (below_size (by repeat (first | (with_reducible first | exact HB.out | apply below_alloc | apply pw_below_drewN | apply below_drew1) | exact HB.out))) : w.heap.size ≤ gb263)); clear HB; have HB := n0_; have BK263 := n1_; have GW263 := n2_; have GE263 := n3_; clear n0_ n1_ n2_ n3_; clear hb hbox hg; have hcz6_0 : w5.cell? ⟨gb263, 0, none⟩ = some (.slice A0_0 l0_0.length c0_0) := (blk_cell BK263.out 0).trans rfl; have hfz6_0 := blk_frozen BK263.out 0) | ((with_reducible refine gate_dst (N := 14) rfl ?_); refine Kd.R_make (Kd.int .i64) _ 3 rfl (N := 14) rfl 35 _ _ rfl (l0_0.length : Int) rfl rfl Try.underlying35 (.int .i64 0) 8 info3 rfl (by decide) (by omega) 0 (ok := fun _ => True) (okp := fun _ => True) rfl (fun _ hk => hk) trivial (of_decide_eq_true (by first | (with_reducible assumption) | assumption)) (Nat.le_trans (Nat.mul_le_mul_right _ (of_decide_eq_true (by first | (with_reducible assumption) | assumption) : (l0_0.length : Int).toNat ≤ 35184372088832)) (by omega)) (Below.refl _ _) (Nat.le_refl _) ?_; intro v265 w7 ho8 hb hg_ hnew_; clear hg_ hnew_; (first | rw [← Ny264.out] at ho8 | (simp only [Int.reduceToNat] at ho8; rw [← Ny264.out] at ho8)); have n0_ := Aside0.mk (Kd.R_lower ho8 (below_size (by repeat (first | (with_reducible first | exact HB.out | apply below_alloc | apply pw_below_drewN | apply below_drew1 | refine below_set ?_ GE263.out) | exact HB.out)))); have n1_ := Aside0.mk (blk_below (g := gb263) (o := .cells #[.slice A0_0 l0_0.length c0_0] 28 (0, 0)) (by (with_reducible repeat (first | refine blk_drewN ?_ _ | refine blk_drew ?_ | refine blk_alloc ?_ _)); exact BK263.out) hb); have n2_ := Aside0.mk (below_step (by repeat (first | (with_reducible first | exact HB.out | apply below_alloc | apply pw_below_drewN | apply below_drew1 | refine below_set ?_ GE263.out) | exact HB.out)) hb); clear BK263; clear HB; have HO266 := n0_; have BK263 := n1_; have HB := n2_; clear n0_ n1_ n2_; clear hb ho8; obtain ⟨Ao9, co9, eo9⟩ := Kd.R_slice HO266.out; subst eo9))
      repeat (go_quiet (first | ((with_reducible refine gate_dst (N := 2) rfl ?_); refine box_event ?hg (N := 2) ?hd (cs := #[.slice A0_0 l0_0.length c0_0]) (t := 28) ?hr ?_; (case hd => rfl); (case hg => rfl); (case hr => first | (go_simp; done) | (go_simp; rfl)); intro gb263 hg w5 hbox hb; have n0_ := Aside0.mk (below_step (by repeat (first | (with_reducible first | exact HB.out | apply below_alloc | apply pw_below_drewN | apply below_drew1) | exact HB.out)) hb); have n1_ := Aside0.mk (hbox); have n2_ := Aside0.mk ((by rw [hg]; exact (below_size (by repeat (first | (with_reducible first | exact HB.out | apply below_alloc | apply pw_below_drewN | apply below_drew1) | exact HB.out))) : w.heap.size ≤ gb263)); have n3_ := Aside0.mk ((by rw [hg]; exact (below_size (by repeat (first | (with_reducible first | exact HB.out | apply below_alloc | apply pw_below_drewN | apply below_drew1) | exact HB.out))) : w.heap.size ≤ gb263)); clear HB; have HB := n0_; have BK263 := n1_; have GW263 := n2_; have GE263 := n3_; clear n0_ n1_ n2_ n3_; clear hb hbox hg; have hcz6_0 : w5.cell? ⟨gb263, 0, none⟩ = some (.slice A0_0 l0_0.length c0_0) := (blk_cell BK263.out 0).trans rfl; have hfz6_0 := blk_frozen BK263.out 0) | ((with_reducible refine gate_dst (N := 14) rfl ?_); refine Kd.R_make (Kd.int .i64) _ 3 rfl (N := 14) rfl 35 _ _ rfl (l0_0.length : Int) rfl rfl Try.underlying35 (.int .i64 0) 8 info3 rfl (by decide) (by omega) 0 (ok := fun _ => True) (okp := fun _ => True) rfl (fun _ hk => hk) trivial (of_decide_eq_true (by first | (with_reducible assumption) | assumption)) (Nat.le_trans (Nat.mul_le_mul_right _ (of_decide_eq_true (by first | (with_reducible assumption) | assumption) : (l0_0.length : Int).toNat ≤ 35184372088832)) (by omega)) (Below.refl _ _) (Nat.le_refl _) ?_; intro v265 w7 ho8 hb hg_ hnew_; clear hg_ hnew_; (first | rw [← Ny264.out] at ho8 | (simp only [Int.reduceToNat] at ho8; rw [← Ny264.out] at ho8)); have n0_ := Aside0.mk (Kd.R_lower ho8 (below_size (by repeat (first | (with_reducible first | exact HB.out | apply below_alloc | apply pw_below_drewN | apply below_drew1 | refine below_set ?_ GE263.out) | exact HB.out)))); have n1_ := Aside0.mk (blk_below (g := gb263) (o := .cells #[.slice A0_0 l0_0.length c0_0] 28 (0, 0)) (by (with_reducible repeat (first | refine blk_drewN ?_ _ | refine blk_drew ?_ | refine blk_alloc ?_ _)); exact BK263.out) hb); have n2_ := Aside0.mk (below_step (by repeat (first | (with_reducible first | exact HB.out | apply below_alloc | apply pw_below_drewN | apply below_drew1 | refine below_set ?_ GE263.out) | exact HB.out)) hb); clear BK263; clear HB; have HO266 := n0_; have BK263 := n1_; have HB := n2_; clear n0_ n1_ n2_; clear hb ho8; obtain ⟨Ao9, co9, eo9⟩ := Kd.R_slice HO266.out; subst eo9)); try go_wp2_with (first | ((with_reducible refine gate_dst (N := 2) rfl ?_); refine box_event ?hg (N := 2) ?hd (cs := #[.slice A0_0 l0_0.length c0_0]) (t := 28) ?hr ?_; (case hd => rfl); (case hg => rfl); (case hr => first | (go_simp; done) | (go_simp; rfl)); intro gb263 hg w5 hbox hb; have n0_ := Aside0.mk (below_step (by repeat (first | (with_reducible first | exact HB.out | apply below_alloc | apply pw_below_drewN | apply below_drew1) | exact HB.out)) hb); have n1_ := Aside0.mk (hbox); have n2_ := Aside0.mk ((by rw [hg]; exact (below_size (by repeat (first | (with_reducible first | exact HB.out | apply below_alloc | apply pw_below_drewN | apply below_drew1) | exact HB.out))) : w.heap.size ≤ gb263)); have n3_ := Aside0.mk ((by rw [hg]; exact (below_size (by repeat (first | (with_reducible first | exact HB.out | apply below_alloc | apply pw_below_drewN | apply below_drew1) | exact HB.out))) : w.heap.size ≤ gb263)); clear HB; have HB := n0_; have BK263 := n1_; have GW263 := n2_; have GE263 := n3_; clear n0_ n1_ n2_ n3_; clear hb hbox hg; have hcz6_0 : w5.cell? ⟨gb263, 0, none⟩ = some (.slice A0_0 l0_0.length c0_0) := (blk_cell BK263.out 0).trans rfl; have hfz6_0 := blk_frozen BK263.out 0) | ((with_reducible refine gate_dst (N := 14) rfl ?_); refine Kd.R_make (Kd.int .i64) _ 3 rfl (N := 14) rfl 35 _ _ rfl (l0_0.length : Int) rfl rfl Try.underlying35 (.int .i64 0) 8 info3 rfl (by decide) (by omega) 0 (ok := fun _ => True) (okp := fun _ => True) rfl (fun _ hk => hk) trivial (of_decide_eq_true (by first | (with_reducible assumption) | assumption)) (Nat.le_trans (Nat.mul_le_mul_right _ (of_decide_eq_true (by first | (with_reducible assumption) | assumption) : (l0_0.length : Int).toNat ≤ 35184372088832)) (by omega)) (Below.refl _ _) (Nat.le_refl _) ?_; intro v265 w7 ho8 hb hg_ hnew_; clear hg_ hnew_; (first | rw [← Ny264.out] at ho8 | (simp only [Int.reduceToNat] at ho8; rw [← Ny264.out] at ho8)); have n0_ := Aside0.mk (Kd.R_lower ho8 (below_size (by repeat (first | (with_reducible first | exact HB.out | apply below_alloc | apply pw_below_drewN | apply below_drew1 | refine below_set ?_ GE263.out) | exact HB.out)))); have n1_ := Aside0.mk (blk_below (g := gb263) (o := .cells #[.slice A0_0 l0_0.length c0_0] 28 (0, 0)) (by (with_reducible repeat (first | refine blk_drewN ?_ _ | refine blk_drew ?_ | refine blk_alloc ?_ _)); exact BK263.out) hb); have n2_ := Aside0.mk (below_step (by repeat (first | (with_reducible first | exact HB.out | apply below_alloc | apply pw_below_drewN | apply below_drew1 | refine below_set ?_ GE263.out) | exact HB.out)) hb); clear BK263; clear HB; have HO266 := n0_; have BK263 := n1_; have HB := n2_; clear n0_ n1_ n2_; clear hb ho8; obtain ⟨Ao9, co9, eo9⟩ := Kd.R_slice HO266.out; subst eo9)))
      go_loopg [17] k (fun kq v17 w' => ∃ (x5_1 : List Int) (x17_1 : Int), v17 = .int .i64 x17_1 ∧ Aside0 (spec_grFar.l0 kq a1 x5_1 (y264.length : Int) x17_1 l0_0 = some r) ∧ Aside0 (kq ≤ k) ∧ Aside0 (Kd.R (Kd.int .i64) 3 w' w.heap.size (fun _ => True) (.slice Ao9 y264.length co9) x5_1) ∧ Aside0 (w'.heap[gb263]? = some (.cells #[(.slice A0_0 l0_0.length c0_0)] 28 (0, 0))) ∧ Aside0 (Below w.heap.size w w'))
      case atStart => exact ⟨(y264), (0), (by first | rfl | (simp; done) | (simp [*]; done)), H', ⟨Nat.le_refl _⟩, ⟨by (with_reducible repeat (first | apply Kd.R_alloc | apply Kd.R_drewN | apply Kd.R_drew)); exact HO266.out⟩, ⟨by (with_reducible repeat (first | refine blk_drewN ?_ _ | refine blk_drew ?_ | refine blk_alloc ?_ _)); exact BK263.out⟩, ⟨by repeat (first | (with_reducible first | exact HB.out | apply below_alloc | apply pw_below_drewN | apply below_drew1 | refine below_set ?_ GE263.out) | exact HB.out)⟩⟩
      case round =>
        clear H'
        try clear p2
        try clear c3
        try clear c3b0
        try clear c3b1
        try clear c4
        try clear c4b0
        try clear c4b1
        try clear c9
        try clear hcz6_0
        try clear hfz6_0
        obtain ⟨x5_1, x17_1, rfl, HA, HK1, HO_5, BK263, HB⟩ := hrel
        have hl5_1 := (Kd.R_reads' HO_5.out).1
        rw [hl5_1] at HO_5
        (try simp only [hl5_1])
        (try simp only [hl5_1] at BK263)
        cases gk with
        | zero => exact absurd HA.out (by simp [spec_grFar.l0])
        | succ k1 =>
          have H := HA.out
          clear HA
          simp only [spec_grFar.l0] at H
          by_cases c10 : x17_1 < (y264.length : Int)
          · rw [if_pos c10] at H
            have c10b0 : decide (x17_1 < (y264.length : Int)) = true := decide_eq_true c10
            (try (have c10b0h := c10b0; simp only [hl5_1] at c10b0h))
            clear c10
            by_cases c11 : 0 ≤ x17_1
            · rw [if_pos c11] at H
              have c11b0 : decide (0 ≤ x17_1) = true := decide_eq_true c11
              (try (have c11b0h := c11b0; simp only [hl5_1] at c11b0h))
              clear c11
              by_cases c12 : x17_1 < (x5_1.length : Int)
              · rw [if_pos c12] at H
                have c12b0 : decide (x17_1 < (x5_1.length : Int)) = true := decide_eq_true c12
                (try (have c12b0h := c12b0; simp only [hl5_1] at c12b0h))
                clear c12
                obtain ⟨y267, hy267⟩ : ∃ y_ : List Int, y_ = (x5_1.set (x17_1 : Int).toNat (-1)) := ⟨_, rfl⟩
                replace H : (spec_grFar.l0 k1 a1 y267 (y264.length : Int) (wrap64 (x17_1 + 1)) l0_0) = some r := by first | (rw [hy267]; with_reducible exact H) | (have H2_ := (Option.bind_some _ _).symm.trans H; rw [hy267]; with_reducible exact H2_) | (have H2_ := (Option.bind_some _ _).symm.trans H; with_reducible exact H2_) | with_reducible exact H | (rw [hy267]; exact H) | exact H
                have Ny267 := Aside0.mk hy267
                clear hy267
                have H' := Aside0.mk H
                clear H
                have p13 : 0 ≤ (x17_1 : Int) := of_decide_eq_true (by first | (with_reducible assumption) | assumption)
                have q13 : (x17_1 : Int) < ((x5_1.length : Int) : Int) := of_decide_eq_true (by first | (with_reducible assumption) | assumption)
                obtain ⟨go13, co13, eo13, gb13, gl13, cl13, HG13⟩ := Kd.R_form HO_5.out (by omega)
                (first | cases eo13 | (injection eo13 with ea_ en_ ec_; (first | subst ea_ | (injection ea_ with ea_; subst ea_)); subst ec_; clear en_))
                have GB13 := Aside0.mk gb13
                have GG13 := Aside0.mk HG13
                clear gb13 gl13 HG13
                obtain ⟨hx13_0, hf13_0⟩ := Kd.R_celln 0 HO_5.out (x17_1 : Int) p13 q13
                replace p13 := eq_true p13
                replace q13 := eq_true q13
                have HP14 := Kd.R_putg HO_5.out (x17_1 : Int) (-1)
                go_wp2_with (first | ((with_reducible refine gate_store (t := 3) (p := 22) rfl ?_); (try (rw [drewN_self wr]; generalize hq_ : World.drewN wr _ = wr; have n0_ := Aside0.mk (Kd.R_at hq_ HO_5.out); have n1_ := Aside0.mk (blk_at hq_ BK263.out); have n2_ := Aside0.mk (below_at hq_ HB.out); clear hq_ HO_5 BK263 HB; have HO_5 := n0_; have BK263 := n1_; have HB := n2_; clear n0_ n1_ n2_; (try (have HP14 := Kd.R_putg HO_5.out (x17_1 : Int) (-1))))); refine store_event (t := 3) (p := 22) (v := ?vo_w15) (w1 := (wr.setCell ⟨go13, (x17_1 : Int).toNat, none⟩ (.int .i64 (-1)))) ?hg ?ho ?hn ?hr ?_; (case ho => rfl); (case hg => rfl); (case hn => rfl); (case hr => first | (go_simp; done) | (go_simp; rfl)); intro w15 hw; have hg : wr.grownBy w15 (some go13) := (by rw [hw]; exact HP14.2); have hp_ : Kd.R (Kd.int .i64) 3 w15 w.heap.size (fun _ => True) (.slice (some ⟨go13, 0, none⟩) x5_1.length co9) y267 := (by rw [hw, Ny267.out]; exact HP14.1); clear HP14; have n0_ := Aside0.mk (hp_); have n1_ := Aside0.mk (blk_grown (g := gb263) (o := .cells #[.slice A0_0 l0_0.length c0_0] 28 (0, 0)) (by (with_reducible repeat (first | refine blk_drewN ?_ _ | refine blk_drew ?_ | refine blk_alloc ?_ _)); exact BK263.out) hg (Kd.R_ne HO_5.out BK263.out (by decide))); have n2_ := Aside0.mk ((by rw [hw]; exact below_set (HB.out) GB13.out : Below w.heap.size w w15)); clear HO_5; clear BK263; clear HB; have HO_5 := n0_; have BK263 := n1_; have HB := n2_; clear n0_ n1_ n2_; clear hg hw hp_))
                repeat (go_quiet (first | ((with_reducible refine gate_store (t := 3) (p := 22) rfl ?_); (try (rw [drewN_self wr]; generalize hq_ : World.drewN wr _ = wr; have n0_ := Aside0.mk (Kd.R_at hq_ HO_5.out); have n1_ := Aside0.mk (blk_at hq_ BK263.out); have n2_ := Aside0.mk (below_at hq_ HB.out); clear hq_ HO_5 BK263 HB; have HO_5 := n0_; have BK263 := n1_; have HB := n2_; clear n0_ n1_ n2_; (try (have HP14 := Kd.R_putg HO_5.out (x17_1 : Int) (-1))))); refine store_event (t := 3) (p := 22) (v := ?vo_w15) (w1 := (wr.setCell ⟨go13, (x17_1 : Int).toNat, none⟩ (.int .i64 (-1)))) ?hg ?ho ?hn ?hr ?_; (case ho => rfl); (case hg => rfl); (case hn => rfl); (case hr => first | (go_simp; done) | (go_simp; rfl)); intro w15 hw; have hg : wr.grownBy w15 (some go13) := (by rw [hw]; exact HP14.2); have hp_ : Kd.R (Kd.int .i64) 3 w15 w.heap.size (fun _ => True) (.slice (some ⟨go13, 0, none⟩) x5_1.length co9) y267 := (by rw [hw, Ny267.out]; exact HP14.1); clear HP14; have n0_ := Aside0.mk (hp_); have n1_ := Aside0.mk (blk_grown (g := gb263) (o := .cells #[.slice A0_0 l0_0.length c0_0] 28 (0, 0)) (by (with_reducible repeat (first | refine blk_drewN ?_ _ | refine blk_drew ?_ | refine blk_alloc ?_ _)); exact BK263.out) hg (Kd.R_ne HO_5.out BK263.out (by decide))); have n2_ := Aside0.mk ((by rw [hw]; exact below_set (HB.out) GB13.out : Below w.heap.size w w15)); clear HO_5; clear BK263; clear HB; have HO_5 := n0_; have BK263 := n1_; have HB := n2_; clear n0_ n1_ n2_; clear hg hw hp_)); try go_wp2_with (first | ((with_reducible refine gate_store (t := 3) (p := 22) rfl ?_); (try (rw [drewN_self wr]; generalize hq_ : World.drewN wr _ = wr; have n0_ := Aside0.mk (Kd.R_at hq_ HO_5.out); have n1_ := Aside0.mk (blk_at hq_ BK263.out); have n2_ := Aside0.mk (below_at hq_ HB.out); clear hq_ HO_5 BK263 HB; have HO_5 := n0_; have BK263 := n1_; have HB := n2_; clear n0_ n1_ n2_; (try (have HP14 := Kd.R_putg HO_5.out (x17_1 : Int) (-1))))); refine store_event (t := 3) (p := 22) (v := ?vo_w15) (w1 := (wr.setCell ⟨go13, (x17_1 : Int).toNat, none⟩ (.int .i64 (-1)))) ?hg ?ho ?hn ?hr ?_; (case ho => rfl); (case hg => rfl); (case hn => rfl); (case hr => first | (go_simp; done) | (go_simp; rfl)); intro w15 hw; have hg : wr.grownBy w15 (some go13) := (by rw [hw]; exact HP14.2); have hp_ : Kd.R (Kd.int .i64) 3 w15 w.heap.size (fun _ => True) (.slice (some ⟨go13, 0, none⟩) x5_1.length co9) y267 := (by rw [hw, Ny267.out]; exact HP14.1); clear HP14; have n0_ := Aside0.mk (hp_); have n1_ := Aside0.mk (blk_grown (g := gb263) (o := .cells #[.slice A0_0 l0_0.length c0_0] 28 (0, 0)) (by (with_reducible repeat (first | refine blk_drewN ?_ _ | refine blk_drew ?_ | refine blk_alloc ?_ _)); exact BK263.out) hg (Kd.R_ne HO_5.out BK263.out (by decide))); have n2_ := Aside0.mk ((by rw [hw]; exact below_set (HB.out) GB13.out : Below w.heap.size w w15)); clear HO_5; clear BK263; clear HB; have HO_5 := n0_; have BK263 := n1_; have HB := n2_; clear n0_ n1_ n2_; clear hg hw hp_)))
                (try simp only [← hl5_1])
                go_roundg k1
                case measure => have := HK1.out; omega
                case rel => exact ⟨(y267), (wrap64 (x17_1 + 1)), (by first | rfl | (simp; done) | (simp [*]; done)), H', ⟨by have := HK1.out; omega⟩, ⟨by (try simp only [hl5_1]); (with_reducible repeat (first | apply Kd.R_alloc | apply Kd.R_drewN | apply Kd.R_drew)); exact HO_5.out⟩, ⟨by (try simp only [hl5_1]); (with_reducible repeat (first | refine blk_drewN ?_ _ | refine blk_drew ?_ | refine blk_alloc ?_ _)); exact BK263.out⟩, ⟨by repeat (first | (with_reducible first | exact HB.out | apply below_alloc | apply pw_below_drewN | apply below_drew1 | refine below_set ?_ GE263.out) | exact HB.out)⟩⟩
              · rw [if_neg c12] at H
                exact absurd H (by simp)
            · rw [if_neg c11] at H
              exact absurd H (by simp)
          · rw [if_neg c10] at H
            have c10b0 : decide (x17_1 < (y264.length : Int)) = false := decide_eq_false c10
            (try (have c10b0h := c10b0; simp only [hl5_1] at c10b0h))
            clear c10
            by_cases c16 : 0 ≤ a1
            · rw [if_pos c16] at H
              have c16b0 : decide (0 ≤ a1) = true := decide_eq_true c16
              (try (have c16b0h := c16b0; simp only [hl5_1] at c16b0h))
              clear c16
              by_cases c17 : a1 < (x5_1.length : Int)
              · rw [if_pos c17] at H
                have c17b0 : decide (a1 < (x5_1.length : Int)) = true := decide_eq_true c17
                (try (have c17b0h := c17b0; simp only [hl5_1] at c17b0h))
                clear c17
                obtain ⟨y268, hy268⟩ : ∃ y_ : List Int, y_ = (x5_1.set (a1 : Int).toNat 0) := ⟨_, rfl⟩
                replace H : (spec_grFar.l1 k1 y268 (([a1] : List Int)) 0 l0_0) = some r := by first | (rw [hy268]; with_reducible exact H) | (have H2_ := (Option.bind_some _ _).symm.trans H; rw [hy268]; with_reducible exact H2_) | (have H2_ := (Option.bind_some _ _).symm.trans H; with_reducible exact H2_) | with_reducible exact H | (rw [hy268]; exact H) | exact H
                have Ny268 := Aside0.mk hy268
                clear hy268
                obtain ⟨y269, hy269⟩ : ∃ y_ : List Int, y_ = (([a1] : List Int)) := ⟨_, rfl⟩
                replace H : (spec_grFar.l1 k1 y268 y269 0 l0_0) = some r := by first | (rw [hy269]; with_reducible exact H) | (have H2_ := (Option.bind_some _ _).symm.trans H; rw [hy269]; with_reducible exact H2_) | (have H2_ := (Option.bind_some _ _).symm.trans H; with_reducible exact H2_) | with_reducible exact H | (rw [hy269]; exact H) | exact H
                have Ny269 := Aside0.mk hy269
                clear hy269
                have H' := Aside0.mk H
                clear H
                have p18 : 0 ≤ (a1 : Int) := of_decide_eq_true (by first | (with_reducible assumption) | assumption)
                have q18 : (a1 : Int) < ((x5_1.length : Int) : Int) := of_decide_eq_true (by first | (with_reducible assumption) | assumption)
                obtain ⟨go18, co18, eo18, gb18, gl18, cl18, HG18⟩ := Kd.R_form HO_5.out (by omega)
                (first | cases eo18 | (injection eo18 with ea_ en_ ec_; (first | subst ea_ | (injection ea_ with ea_; subst ea_)); subst ec_; clear en_))
                have GB18 := Aside0.mk gb18
                have GG18 := Aside0.mk HG18
                clear gb18 gl18 HG18
                obtain ⟨hx18_0, hf18_0⟩ := Kd.R_celln 0 HO_5.out (a1 : Int) p18 q18
                replace p18 := eq_true p18
                replace q18 := eq_true q18
                have HP19 := Kd.R_putg HO_5.out (a1 : Int) 0
                go_wp2_with (first | ((with_reducible refine gate_store (t := 3) (p := 26) rfl ?_); (try (rw [drewN_self wr]; generalize hq_ : World.drewN wr _ = wr; have n0_ := Aside0.mk (Kd.R_at hq_ HO_5.out); have n1_ := Aside0.mk (blk_at hq_ BK263.out); have n2_ := Aside0.mk (below_at hq_ HB.out); clear hq_ HO_5 BK263 HB; have HO_5 := n0_; have BK263 := n1_; have HB := n2_; clear n0_ n1_ n2_; (try (have HP19 := Kd.R_putg HO_5.out (a1 : Int) 0)))); refine store_event (t := 3) (p := 26) (v := ?vo_w20) (w1 := (wr.setCell ⟨go18, (a1 : Int).toNat, none⟩ (.int .i64 0))) ?hg ?ho ?hn ?hr ?_; (case ho => rfl); (case hg => rfl); (case hn => rfl); (case hr => first | (go_simp; done) | (go_simp; rfl)); intro w20 hw; have hg : wr.grownBy w20 (some go18) := (by rw [hw]; exact HP19.2); have hp_ : Kd.R (Kd.int .i64) 3 w20 w.heap.size (fun _ => True) (.slice (some ⟨go18, 0, none⟩) x5_1.length co9) y268 := (by rw [hw, Ny268.out]; exact HP19.1); clear HP19; have n0_ := Aside0.mk (hp_); have n1_ := Aside0.mk (blk_grown (g := gb263) (o := .cells #[.slice A0_0 l0_0.length c0_0] 28 (0, 0)) (by (with_reducible repeat (first | refine blk_drewN ?_ _ | refine blk_drew ?_ | refine blk_alloc ?_ _)); exact BK263.out) hg (Kd.R_ne HO_5.out BK263.out (by decide))); have n2_ := Aside0.mk ((by rw [hw]; exact below_set (HB.out) GB18.out : Below w.heap.size w w20)); clear HO_5; clear BK263; clear HB; have HO_5 := n0_; have BK263 := n1_; have HB := n2_; clear n0_ n1_ n2_; clear hg hw hp_) | ((with_reducible refine gate_dst (N := 28) rfl ?_); refine Kd.R_lit (Kd.int .i64) _ 3 ?hg (N := 28) ?hd (xs := ([a1] : List Int)) (inner := [.int .i64 a1]) (ok := fun _ => True) (okp := fun _ => True) ?hr ?hp (fun _ hk => hk) trivial (Below.refl _ _) (Nat.le_refl _) (by simp) ?_; (case hd => rfl); (case hg => rfl); (case hr => first | (go_simp; done) | (go_simp; rfl)); (case hp => exact (Reps.one (show Kd.M (Kd.int .i64) _ _ _ a1 [.int .i64 a1] from rfl) (Reps.none _ _))); intro v270 w21 ho22 hb hg_ hnew_; clear hg_ hnew_; (first | rw [← Ny269.out] at ho22 | (simp only [Int.reduceToNat] at ho22; rw [← Ny269.out] at ho22)); have n0_ := Aside0.mk (Kd.R_elder' (by (with_reducible repeat (first | apply Kd.R_alloc | apply Kd.R_drewN | apply Kd.R_drew)); exact HO_5.out) (Kd.R_base ho22) hb); have n1_ := Aside0.mk (Kd.R_lower (Kd.R_new' ho22 (Kd.R_lt (by (with_reducible repeat (first | apply Kd.R_alloc | apply Kd.R_drewN | apply Kd.R_drew)); exact HO_5.out))) (below_size (by repeat (first | (with_reducible first | exact HB.out | apply below_alloc | apply pw_below_drewN | apply below_drew1 | refine below_set ?_ GE263.out) | exact HB.out)))); have n2_ := Aside0.mk (blk_below (g := gb263) (o := .cells #[.slice A0_0 l0_0.length c0_0] 28 (0, 0)) (by (with_reducible repeat (first | refine blk_drewN ?_ _ | refine blk_drew ?_ | refine blk_alloc ?_ _)); exact BK263.out) hb); have n3_ := Aside0.mk (below_step (by repeat (first | (with_reducible first | exact HB.out | apply below_alloc | apply pw_below_drewN | apply below_drew1 | refine below_set ?_ GE263.out) | exact HB.out)) hb); clear HO_5; clear BK263; clear HB; have HO_5 := n0_; have HO271 := n1_; have BK263 := n2_; have HB := n3_; clear n0_ n1_ n2_ n3_; clear hb ho22))
                repeat (go_quiet (first | ((with_reducible refine gate_store (t := 3) (p := 26) rfl ?_); (try (rw [drewN_self wr]; generalize hq_ : World.drewN wr _ = wr; have n0_ := Aside0.mk (Kd.R_at hq_ HO_5.out); have n1_ := Aside0.mk (blk_at hq_ BK263.out); have n2_ := Aside0.mk (below_at hq_ HB.out); clear hq_ HO_5 BK263 HB; have HO_5 := n0_; have BK263 := n1_; have HB := n2_; clear n0_ n1_ n2_; (try (have HP19 := Kd.R_putg HO_5.out (a1 : Int) 0)))); refine store_event (t := 3) (p := 26) (v := ?vo_w20) (w1 := (wr.setCell ⟨go18, (a1 : Int).toNat, none⟩ (.int .i64 0))) ?hg ?ho ?hn ?hr ?_; (case ho => rfl); (case hg => rfl); (case hn => rfl); (case hr => first | (go_simp; done) | (go_simp; rfl)); intro w20 hw; have hg : wr.grownBy w20 (some go18) := (by rw [hw]; exact HP19.2); have hp_ : Kd.R (Kd.int .i64) 3 w20 w.heap.size (fun _ => True) (.slice (some ⟨go18, 0, none⟩) x5_1.length co9) y268 := (by rw [hw, Ny268.out]; exact HP19.1); clear HP19; have n0_ := Aside0.mk (hp_); have n1_ := Aside0.mk (blk_grown (g := gb263) (o := .cells #[.slice A0_0 l0_0.length c0_0] 28 (0, 0)) (by (with_reducible repeat (first | refine blk_drewN ?_ _ | refine blk_drew ?_ | refine blk_alloc ?_ _)); exact BK263.out) hg (Kd.R_ne HO_5.out BK263.out (by decide))); have n2_ := Aside0.mk ((by rw [hw]; exact below_set (HB.out) GB18.out : Below w.heap.size w w20)); clear HO_5; clear BK263; clear HB; have HO_5 := n0_; have BK263 := n1_; have HB := n2_; clear n0_ n1_ n2_; clear hg hw hp_) | ((with_reducible refine gate_dst (N := 28) rfl ?_); refine Kd.R_lit (Kd.int .i64) _ 3 ?hg (N := 28) ?hd (xs := ([a1] : List Int)) (inner := [.int .i64 a1]) (ok := fun _ => True) (okp := fun _ => True) ?hr ?hp (fun _ hk => hk) trivial (Below.refl _ _) (Nat.le_refl _) (by simp) ?_; (case hd => rfl); (case hg => rfl); (case hr => first | (go_simp; done) | (go_simp; rfl)); (case hp => exact (Reps.one (show Kd.M (Kd.int .i64) _ _ _ a1 [.int .i64 a1] from rfl) (Reps.none _ _))); intro v270 w21 ho22 hb hg_ hnew_; clear hg_ hnew_; (first | rw [← Ny269.out] at ho22 | (simp only [Int.reduceToNat] at ho22; rw [← Ny269.out] at ho22)); have n0_ := Aside0.mk (Kd.R_elder' (by (with_reducible repeat (first | apply Kd.R_alloc | apply Kd.R_drewN | apply Kd.R_drew)); exact HO_5.out) (Kd.R_base ho22) hb); have n1_ := Aside0.mk (Kd.R_lower (Kd.R_new' ho22 (Kd.R_lt (by (with_reducible repeat (first | apply Kd.R_alloc | apply Kd.R_drewN | apply Kd.R_drew)); exact HO_5.out))) (below_size (by repeat (first | (with_reducible first | exact HB.out | apply below_alloc | apply pw_below_drewN | apply below_drew1 | refine below_set ?_ GE263.out) | exact HB.out)))); have n2_ := Aside0.mk (blk_below (g := gb263) (o := .cells #[.slice A0_0 l0_0.length c0_0] 28 (0, 0)) (by (with_reducible repeat (first | refine blk_drewN ?_ _ | refine blk_drew ?_ | refine blk_alloc ?_ _)); exact BK263.out) hb); have n3_ := Aside0.mk (below_step (by repeat (first | (with_reducible first | exact HB.out | apply below_alloc | apply pw_below_drewN | apply below_drew1 | refine below_set ?_ GE263.out) | exact HB.out)) hb); clear HO_5; clear BK263; clear HB; have HO_5 := n0_; have HO271 := n1_; have BK263 := n2_; have HB := n3_; clear n0_ n1_ n2_ n3_; clear hb ho22)); try go_wp2_with (first | ((with_reducible refine gate_store (t := 3) (p := 26) rfl ?_); (try (rw [drewN_self wr]; generalize hq_ : World.drewN wr _ = wr; have n0_ := Aside0.mk (Kd.R_at hq_ HO_5.out); have n1_ := Aside0.mk (blk_at hq_ BK263.out); have n2_ := Aside0.mk (below_at hq_ HB.out); clear hq_ HO_5 BK263 HB; have HO_5 := n0_; have BK263 := n1_; have HB := n2_; clear n0_ n1_ n2_; (try (have HP19 := Kd.R_putg HO_5.out (a1 : Int) 0)))); refine store_event (t := 3) (p := 26) (v := ?vo_w20) (w1 := (wr.setCell ⟨go18, (a1 : Int).toNat, none⟩ (.int .i64 0))) ?hg ?ho ?hn ?hr ?_; (case ho => rfl); (case hg => rfl); (case hn => rfl); (case hr => first | (go_simp; done) | (go_simp; rfl)); intro w20 hw; have hg : wr.grownBy w20 (some go18) := (by rw [hw]; exact HP19.2); have hp_ : Kd.R (Kd.int .i64) 3 w20 w.heap.size (fun _ => True) (.slice (some ⟨go18, 0, none⟩) x5_1.length co9) y268 := (by rw [hw, Ny268.out]; exact HP19.1); clear HP19; have n0_ := Aside0.mk (hp_); have n1_ := Aside0.mk (blk_grown (g := gb263) (o := .cells #[.slice A0_0 l0_0.length c0_0] 28 (0, 0)) (by (with_reducible repeat (first | refine blk_drewN ?_ _ | refine blk_drew ?_ | refine blk_alloc ?_ _)); exact BK263.out) hg (Kd.R_ne HO_5.out BK263.out (by decide))); have n2_ := Aside0.mk ((by rw [hw]; exact below_set (HB.out) GB18.out : Below w.heap.size w w20)); clear HO_5; clear BK263; clear HB; have HO_5 := n0_; have BK263 := n1_; have HB := n2_; clear n0_ n1_ n2_; clear hg hw hp_) | ((with_reducible refine gate_dst (N := 28) rfl ?_); refine Kd.R_lit (Kd.int .i64) _ 3 ?hg (N := 28) ?hd (xs := ([a1] : List Int)) (inner := [.int .i64 a1]) (ok := fun _ => True) (okp := fun _ => True) ?hr ?hp (fun _ hk => hk) trivial (Below.refl _ _) (Nat.le_refl _) (by simp) ?_; (case hd => rfl); (case hg => rfl); (case hr => first | (go_simp; done) | (go_simp; rfl)); (case hp => exact (Reps.one (show Kd.M (Kd.int .i64) _ _ _ a1 [.int .i64 a1] from rfl) (Reps.none _ _))); intro v270 w21 ho22 hb hg_ hnew_; clear hg_ hnew_; (first | rw [← Ny269.out] at ho22 | (simp only [Int.reduceToNat] at ho22; rw [← Ny269.out] at ho22)); have n0_ := Aside0.mk (Kd.R_elder' (by (with_reducible repeat (first | apply Kd.R_alloc | apply Kd.R_drewN | apply Kd.R_drew)); exact HO_5.out) (Kd.R_base ho22) hb); have n1_ := Aside0.mk (Kd.R_lower (Kd.R_new' ho22 (Kd.R_lt (by (with_reducible repeat (first | apply Kd.R_alloc | apply Kd.R_drewN | apply Kd.R_drew)); exact HO_5.out))) (below_size (by repeat (first | (with_reducible first | exact HB.out | apply below_alloc | apply pw_below_drewN | apply below_drew1 | refine below_set ?_ GE263.out) | exact HB.out)))); have n2_ := Aside0.mk (blk_below (g := gb263) (o := .cells #[.slice A0_0 l0_0.length c0_0] 28 (0, 0)) (by (with_reducible repeat (first | refine blk_drewN ?_ _ | refine blk_drew ?_ | refine blk_alloc ?_ _)); exact BK263.out) hb); have n3_ := Aside0.mk (below_step (by repeat (first | (with_reducible first | exact HB.out | apply below_alloc | apply pw_below_drewN | apply below_drew1 | refine below_set ?_ GE263.out) | exact HB.out)) hb); clear HO_5; clear BK263; clear HB; have HO_5 := n0_; have HO271 := n1_; have BK263 := n2_; have HB := n3_; clear n0_ n1_ n2_ n3_; clear hb ho22)))
                go_loopg [7, 8] k1 (fun kq v7 v8 w' => ∃ (x5_2 : List Int) (x7_2 : List Int) (x8_2 : Int), v8 = .int .i64 x8_2 ∧ Aside0 (spec_grFar.l1 kq x5_2 x7_2 x8_2 l0_0 = some r) ∧ Aside0 (kq ≤ k1) ∧ Aside0 (Kd.R (Kd.int .i64) 3 w' w.heap.size (fun k_ => some k_ ≠ (v7 : Value).ownBlock) (.slice (some ⟨go18, 0, none⟩) x5_1.length co9) x5_2) ∧ Aside0 (Kd.R (Kd.int .i64) 3 w' w.heap.size (fun k_ => some k_ ≠ ((.slice (some ⟨go18, 0, none⟩) x5_1.length co9) : Value).ownBlock) v7 x7_2) ∧ Aside0 (w'.heap[gb263]? = some (.cells #[(.slice A0_0 l0_0.length c0_0)] 28 (0, 0))) ∧ Aside0 (Below w.heap.size w w'))
                case atStart => exact ⟨(y268), (y269), (0), (by first | rfl | (simp; done) | (simp [*]; done)), H', ⟨Nat.le_refl _⟩, ⟨by (try simp only [hl5_1]); (with_reducible repeat (first | apply Kd.R_alloc | apply Kd.R_drewN | apply Kd.R_drew)); exact Kd.R_mono HO_5.out (fun _ hk => hk.2)⟩, ⟨by (try simp only [hl5_1]); (with_reducible repeat (first | apply Kd.R_alloc | apply Kd.R_drewN | apply Kd.R_drew)); exact Kd.R_mono HO271.out (fun _ hk => hk.2)⟩, ⟨by (try simp only [hl5_1]); (with_reducible repeat (first | refine blk_drewN ?_ _ | refine blk_drew ?_ | refine blk_alloc ?_ _)); exact BK263.out⟩, ⟨by repeat (first | (with_reducible first | exact HB.out | apply below_alloc | apply pw_below_drewN | apply below_drew1 | refine below_set ?_ GE263.out) | exact HB.out)⟩⟩
                case round =>
                  clear H'
                  try clear c1
                  try clear p1
                  try clear q1
                  try clear hx1
                  try clear p2
                  try clear c3
                  try clear c3b0
                  try clear c3b1
                  try clear c4
                  try clear c4b0
                  try clear c4b1
                  try clear p6
                  try clear c9
                  try clear c10
                  try clear c10b0
                  try clear c11
                  try clear c11b0
                  try clear c12
                  try clear c12b0
                  try clear p13
                  try clear q13
                  try clear hx13
                  try clear hf13
                  try clear c16
                  try clear c16b0
                  try clear c17
                  try clear c17b0
                  try clear p18
                  try clear q18
                  try clear hx18
                  try clear hf18
                  try clear hcz6_0
                  try clear hfz6_0
                  try clear hx13_0
                  try clear hx18_0
                  try clear p13
                  try clear p18
                  try clear p2
                  try clear q13
                  try clear q18
                  obtain ⟨x5_2, x7_2, x8_2, rfl, HA, HK2, HO_5, HO_7, BK263, HB⟩ := hrel
                  have hl5_2 := (Kd.R_reads' HO_5.out).1
                  rw [hl5_2] at HO_5
                  (try simp only [hl5_2])
                  (try simp only [hl5_2] at BK263)
                  (try simp only [hl5_2] at HO_7)
                  cases gk with
                  | zero => exact absurd HA.out (by simp [spec_grFar.l1])
                  | succ k2 =>
                    have H := HA.out
                    clear HA
                    simp only [spec_grFar.l1] at H
                    by_cases c23 : x8_2 < (x7_2.length : Int)
                    · rw [if_pos c23] at H
                      have c23b0 : decide (x8_2 < (x7_2.length : Int)) = true := decide_eq_true c23
                      (try (have c23b0h := c23b0; simp only [hl5_1, hl5_2] at c23b0h))
                      clear c23
                      by_cases c24 : 0 ≤ x8_2
                      · rw [if_pos c24] at H
                        have c24b0 : decide (0 ≤ x8_2) = true := decide_eq_true c24
                        (try (have c24b0h := c24b0; simp only [hl5_1, hl5_2] at c24b0h))
                        clear c24
                        by_cases c25 : 0 ≤ (rd x7_2 x8_2)
                        · rw [if_pos c25] at H
                          have c25b0 : decide (0 ≤ (rd x7_2 x8_2)) = true := decide_eq_true c25
                          (try (have c25b0h := c25b0; simp only [hl5_1, hl5_2] at c25b0h))
                          clear c25
                          by_cases c26 : (rd x7_2 x8_2) < (l0_0.length : Int)
                          · rw [if_pos c26] at H
                            have c26b0 : decide ((rd x7_2 x8_2) < (l0_0.length : Int)) = true := decide_eq_true c26
                            (try (have c26b0h := c26b0; simp only [hl5_1, hl5_2] at c26b0h))
                            clear c26
                            have H' := Aside0.mk H
                            clear H
                            obtain ⟨Ao27, co27, eo27⟩ := Kd.R_slice HO_7.out
                            subst eo27
                            have hcz28_0 : wr.cell? ⟨gb263, 0, none⟩ = some (.slice A0_0 l0_0.length c0_0) := (blk_cell BK263.out 0).trans rfl
                            have hfz28_0 := blk_frozen BK263.out 0
                            have p272 : 0 ≤ (x8_2 : Int) := of_decide_eq_true (by first | (with_reducible assumption) | assumption)
                            have q272 : x8_2 < (x7_2.length : Int) := of_decide_eq_true (by first | (with_reducible assumption) | assumption)
                            obtain ⟨ad272, e272, hx272_0⟩ := Kd.at_int (Kd.R_reads' HO_7.out).2.2 x8_2 p272 q272
                            cases e272
                            replace p272 := eq_true p272
                            replace q272 := eq_true q272
                            have p273 : 0 ≤ ((rd x7_2 x8_2) : Int) := of_decide_eq_true (by first | (with_reducible assumption) | assumption)
                            have q273 : (rd x7_2 x8_2) < (l0_0.length : Int) := of_decide_eq_true (by first | (with_reducible assumption) | assumption)
                            obtain ⟨ad273, A273_0, c273_0, e273, hx273_0, hl273_0, hi273_0⟩ := at_L1 HR0_0.out (rd x7_2 x8_2) p273 q273
                            cases e273
                            replace hx273_0 := (HB.out.cell (World.block_lt_of_cell? w _ hx273_0)).trans hx273_0
                            have HR273_0 := Aside0.mk hi273_0
                            have HC273_0 := Aside0.mk hl273_0
                            clear hi273_0 hl273_0
                            replace p273 := eq_true p273
                            replace q273 := eq_true q273
                            go_wp2
                            repeat (go_quiet (fail); try go_wp2)
                            go_loopg [7, 44] k2 (fun kq v7 v44 w' => ∃ (x5_3 : List Int) (x7_3 : List Int) (x44_3 : Int), v44 = .int .i64 x44_3 ∧ Aside0 (spec_grFar.l2 kq x5_3 x7_3 x8_2 (rd_L1 l0_0 (rd x7_2 x8_2)) ((rd_L1 l0_0 (rd x7_2 x8_2)).length : Int) x44_3 l0_0 = some r) ∧ Aside0 (kq ≤ k2) ∧ Aside0 (Kd.R (Kd.int .i64) 3 w' w.heap.size (fun k_ => some k_ ≠ (v7 : Value).ownBlock) (.slice (some ⟨go18, 0, none⟩) x5_2.length co9) x5_3) ∧ Aside0 (Kd.R (Kd.int .i64) 3 w' w.heap.size (fun k_ => some k_ ≠ ((.slice (some ⟨go18, 0, none⟩) x5_2.length co9) : Value).ownBlock) v7 x7_3) ∧ Aside0 (w'.heap[gb263]? = some (.cells #[(.slice (some ad273) l0_0.length c0_0)] 28 (0, 0))) ∧ Aside0 (Below w.heap.size w w'))
                            case atStart => exact ⟨(x5_2), (x7_2), (0), (by first | rfl | (simp; done) | (simp [*]; done)), H', ⟨Nat.le_refl _⟩, ⟨by (try simp only [hl5_1]); (try simp only [hl5_2]); (with_reducible repeat (first | apply Kd.R_alloc | apply Kd.R_drewN | apply Kd.R_drew)); exact HO_5.out⟩, ⟨by (try simp only [hl5_1]); (try simp only [hl5_2]); (with_reducible repeat (first | apply Kd.R_alloc | apply Kd.R_drewN | apply Kd.R_drew)); exact HO_7.out⟩, ⟨by (try simp only [hl5_1]); (try simp only [hl5_2]); (with_reducible repeat (first | refine blk_drewN ?_ _ | refine blk_drew ?_ | refine blk_alloc ?_ _)); exact BK263.out⟩, ⟨by repeat (first | (with_reducible first | exact HB.out | apply below_alloc | apply pw_below_drewN | apply below_drew1 | refine below_set ?_ GE263.out) | exact HB.out)⟩⟩
                            case round =>
                              clear H'
                              try clear c1
                              try clear p1
                              try clear q1
                              try clear hx1
                              try clear c2
                              try clear p2
                              try clear q2
                              try clear hx2
                              try clear c3
                              try clear c3b0
                              try clear c3b1
                              try clear c4
                              try clear c4b0
                              try clear c4b1
                              try clear p6
                              try clear c9
                              try clear c10
                              try clear c10b0
                              try clear c11
                              try clear c11b0
                              try clear c12
                              try clear c12b0
                              try clear p13
                              try clear q13
                              try clear hx13
                              try clear hf13
                              try clear c16
                              try clear c16b0
                              try clear c17
                              try clear c17b0
                              try clear p18
                              try clear q18
                              try clear hx18
                              try clear hf18
                              try clear c23
                              try clear c23b0
                              try clear c24
                              try clear c24b0
                              try clear c25
                              try clear c25b0
                              try clear c26
                              try clear c26b0
                              try clear c27
                              try clear p27
                              try clear q27
                              try clear hx27
                              try clear hcz28_0
                              try clear hcz6_0
                              try clear hfz28_0
                              try clear hfz6_0
                              try clear hx13_0
                              try clear hx18_0
                              try clear hx272_0
                              try clear hx273_0
                              try clear p1
                              try clear p13
                              try clear p18
                              try clear p2
                              try clear p272
                              try clear p273
                              try clear p6
                              try clear q1
                              try clear q13
                              try clear q18
                              try clear q272
                              try clear q273
                              obtain ⟨x5_3, x7_3, x44_3, rfl, HA, HK3, HO_5, HO_7, BK263, HB⟩ := hrel
                              have hl5_3 := (Kd.R_reads' HO_5.out).1
                              rw [hl5_3] at HO_5
                              (try simp only [hl5_3])
                              (try simp only [hl5_3] at BK263)
                              (try simp only [hl5_3] at HO_7)
                              cases gk with
                              | zero => exact absurd HA.out (by simp [spec_grFar.l2])
                              | succ k3 =>
                                have H := HA.out
                                clear HA
                                simp only [spec_grFar.l2] at H
                                by_cases c29 : x44_3 < ((rd_L1 l0_0 (rd x7_2 x8_2)).length : Int)
                                · rw [if_pos c29] at H
                                  have c29b0 : decide (x44_3 < ((rd_L1 l0_0 (rd x7_2 x8_2)).length : Int)) = true := decide_eq_true c29
                                  (try (have c29b0h := c29b0; simp only [hl5_1, hl5_2, hl5_3] at c29b0h))
                                  clear c29
                                  by_cases c30 : 0 ≤ x44_3
                                  · rw [if_pos c30] at H
                                    have c30b0 : decide (0 ≤ x44_3) = true := decide_eq_true c30
                                    (try (have c30b0h := c30b0; simp only [hl5_1, hl5_2, hl5_3] at c30b0h))
                                    clear c30
                                    by_cases c31 : x44_3 < ((rd_L1 l0_0 (rd x7_2 x8_2)).length : Int)
                                    · rw [if_pos c31] at H
                                      have c31b0 : decide (x44_3 < ((rd_L1 l0_0 (rd x7_2 x8_2)).length : Int)) = true := decide_eq_true c31
                                      (try (have c31b0h := c31b0; simp only [hl5_1, hl5_2, hl5_3] at c31b0h))
                                      clear c31
                                      by_cases c32 : 0 ≤ (rd (rd_L1 l0_0 (rd x7_2 x8_2)) x44_3)
                                      · rw [if_pos c32] at H
                                        have c32b0 : decide (0 ≤ (rd (rd_L1 l0_0 (rd x7_2 x8_2)) x44_3)) = true := decide_eq_true c32
                                        (try (have c32b0h := c32b0; simp only [hl5_1, hl5_2, hl5_3] at c32b0h))
                                        clear c32
                                        by_cases c33 : (rd (rd_L1 l0_0 (rd x7_2 x8_2)) x44_3) < (x5_3.length : Int)
                                        · rw [if_pos c33] at H
                                          have c33b0 : decide ((rd (rd_L1 l0_0 (rd x7_2 x8_2)) x44_3) < (x5_3.length : Int)) = true := decide_eq_true c33
                                          (try (have c33b0h := c33b0; simp only [hl5_1, hl5_2, hl5_3] at c33b0h))
                                          clear c33
                                          by_cases c34 : (rd x5_3 (rd (rd_L1 l0_0 (rd x7_2 x8_2)) x44_3)) < 0
                                          · rw [if_pos c34] at H
                                            have c34b0 : decide ((rd x5_3 (rd (rd_L1 l0_0 (rd x7_2 x8_2)) x44_3)) < 0) = true := decide_eq_true c34
                                            (try (have c34b0h := c34b0; simp only [hl5_1, hl5_2, hl5_3] at c34b0h))
                                            clear c34
                                            by_cases c35 : 0 ≤ x8_2
                                            · rw [if_pos c35] at H
                                              have c35b0 : decide (0 ≤ x8_2) = true := decide_eq_true c35
                                              (try (have c35b0h := c35b0; simp only [hl5_1, hl5_2, hl5_3] at c35b0h))
                                              clear c35
                                              by_cases c36 : x8_2 < (x7_3.length : Int)
                                              · rw [if_pos c36] at H
                                                have c36b0 : decide (x8_2 < (x7_3.length : Int)) = true := decide_eq_true c36
                                                (try (have c36b0h := c36b0; simp only [hl5_1, hl5_2, hl5_3] at c36b0h))
                                                clear c36
                                                by_cases c37 : 0 ≤ (rd x7_3 x8_2)
                                                · rw [if_pos c37] at H
                                                  have c37b0 : decide (0 ≤ (rd x7_3 x8_2)) = true := decide_eq_true c37
                                                  (try (have c37b0h := c37b0; simp only [hl5_1, hl5_2, hl5_3] at c37b0h))
                                                  clear c37
                                                  by_cases c38 : (rd x7_3 x8_2) < (x5_3.length : Int)
                                                  · rw [if_pos c38] at H
                                                    have c38b0 : decide ((rd x7_3 x8_2) < (x5_3.length : Int)) = true := decide_eq_true c38
                                                    (try (have c38b0h := c38b0; simp only [hl5_1, hl5_2, hl5_3] at c38b0h))
                                                    clear c38
                                                    obtain ⟨y278, hy278⟩ : ∃ y_ : List Int, y_ = (x5_3.set ((rd (rd_L1 l0_0 (rd x7_2 x8_2)) x44_3) : Int).toNat (wrap64 ((rd x5_3 (rd x7_3 x8_2)) + 1))) := ⟨_, rfl⟩
                                                    replace H : (if x7_3.length < 17592186044416 then (spec_grFar.l2 k3 y278 (x7_3 ++ [rd (rd_L1 l0_0 (rd x7_2 x8_2)) x44_3]) x8_2 (rd_L1 l0_0 (rd x7_2 x8_2)) ((rd_L1 l0_0 (rd x7_2 x8_2)).length : Int) (wrap64 (x44_3 + 1)) l0_0) else (none)) = some r := by first | (rw [hy278]; with_reducible exact H) | (have H2_ := (Option.bind_some _ _).symm.trans H; rw [hy278]; with_reducible exact H2_) | (have H2_ := (Option.bind_some _ _).symm.trans H; with_reducible exact H2_) | with_reducible exact H | (rw [hy278]; exact H) | exact H
                                                    have Ny278 := Aside0.mk hy278
                                                    clear hy278
                                                    by_cases c40 : x7_3.length < 17592186044416
                                                    · rw [if_pos c40] at H
                                                      have LMc40 := Aside0.mk c40
                                                      clear c40
                                                      obtain ⟨y279, hy279⟩ : ∃ y_ : List Int, y_ = (x7_3 ++ [rd (rd_L1 l0_0 (rd x7_2 x8_2)) x44_3]) := ⟨_, rfl⟩
                                                      replace H : (spec_grFar.l2 k3 y278 y279 x8_2 (rd_L1 l0_0 (rd x7_2 x8_2)) ((rd_L1 l0_0 (rd x7_2 x8_2)).length : Int) (wrap64 (x44_3 + 1)) l0_0) = some r := by first | (rw [hy279]; with_reducible exact H) | (have H2_ := (Option.bind_some _ _).symm.trans H; rw [hy279]; with_reducible exact H2_) | (have H2_ := (Option.bind_some _ _).symm.trans H; with_reducible exact H2_) | with_reducible exact H | (rw [hy279]; exact H) | exact H
                                                      have Ny279 := Aside0.mk hy279
                                                      clear hy279
                                                      have H' := Aside0.mk H
                                                      clear H
                                                      have p274 : 0 ≤ (x44_3 : Int) := of_decide_eq_true (by first | (with_reducible assumption) | assumption)
                                                      have q274 : x44_3 < ((rd_L1 l0_0 (rd x7_2 x8_2)).length : Int) := of_decide_eq_true (by first | (with_reducible assumption) | assumption)
                                                      obtain ⟨ad274, e274, hx274_0⟩ := Kd.at_int HR273_0.out x44_3 p274 q274
                                                      cases e274
                                                      replace hx274_0 := (HB.out.cell (World.block_lt_of_cell? w _ hx274_0)).trans hx274_0
                                                      replace p274 := eq_true p274
                                                      replace q274 := eq_true q274
                                                      have p275 : 0 ≤ ((rd (rd_L1 l0_0 (rd x7_2 x8_2)) x44_3) : Int) := of_decide_eq_true (by first | (with_reducible assumption) | assumption)
                                                      have q275 : (rd (rd_L1 l0_0 (rd x7_2 x8_2)) x44_3) < (x5_3.length : Int) := of_decide_eq_true (by first | (with_reducible assumption) | assumption)
                                                      obtain ⟨ad275, e275, hx275_0⟩ := Kd.at_int (Kd.R_reads' HO_5.out).2.2 (rd (rd_L1 l0_0 (rd x7_2 x8_2)) x44_3) p275 q275
                                                      obtain rfl : (⟨go18, 0, none⟩ : Addr) = ad275 := (by injection e275)
                                                      (first | simp only [add_plain] at hx275_0 | simp only [add_at] at hx275_0 | simp only [Addr.add, Nat.zero_add] at hx275_0 | skip)
                                                      replace p275 := eq_true p275
                                                      replace q275 := eq_true q275
                                                      obtain ⟨Ao41, co41, eo41⟩ := Kd.R_slice HO_7.out
                                                      subst eo41
                                                      have p276 : 0 ≤ (x8_2 : Int) := of_decide_eq_true (by first | (with_reducible assumption) | assumption)
                                                      have q276 : x8_2 < (x7_3.length : Int) := of_decide_eq_true (by first | (with_reducible assumption) | assumption)
                                                      obtain ⟨ad276, e276, hx276_0⟩ := Kd.at_int (Kd.R_reads' HO_7.out).2.2 x8_2 p276 q276
                                                      cases e276
                                                      replace p276 := eq_true p276
                                                      replace q276 := eq_true q276
                                                      have p277 : 0 ≤ ((rd x7_3 x8_2) : Int) := of_decide_eq_true (by first | (with_reducible assumption) | assumption)
                                                      have q277 : (rd x7_3 x8_2) < (x5_3.length : Int) := of_decide_eq_true (by first | (with_reducible assumption) | assumption)
                                                      obtain ⟨ad277, e277, hx277_0⟩ := Kd.at_int (Kd.R_reads' HO_5.out).2.2 (rd x7_3 x8_2) p277 q277
                                                      obtain rfl : (⟨go18, 0, none⟩ : Addr) = ad277 := (by injection e277)
                                                      (first | simp only [add_plain] at hx277_0 | simp only [add_at] at hx277_0 | simp only [Addr.add, Nat.zero_add] at hx277_0 | skip)
                                                      replace p277 := eq_true p277
                                                      replace q277 := eq_true q277
                                                      have p39 : 0 ≤ ((rd (rd_L1 l0_0 (rd x7_2 x8_2)) x44_3) : Int) := of_decide_eq_true (by first | (with_reducible assumption) | assumption)
                                                      have q39 : ((rd (rd_L1 l0_0 (rd x7_2 x8_2)) x44_3) : Int) < ((x5_3.length : Int) : Int) := of_decide_eq_true (by first | (with_reducible assumption) | assumption)
                                                      obtain ⟨hx39_0, hf39_0⟩ := Kd.R_celln 0 HO_5.out ((rd (rd_L1 l0_0 (rd x7_2 x8_2)) x44_3) : Int) p39 q39
                                                      replace p39 := eq_true p39
                                                      replace q39 := eq_true q39
                                                      have HP42 := Kd.R_putg HO_5.out ((rd (rd_L1 l0_0 (rd x7_2 x8_2)) x44_3) : Int) (wrap64 ((rd x5_3 (rd x7_3 x8_2)) + 1))
                                                      go_wp2_with (first | ((with_reducible refine gate_store (t := 3) (p := 63) rfl ?_); (try (rw [drewN_self wr]; generalize hq_ : World.drewN wr _ = wr; have n0_ := Aside0.mk (Kd.R_at hq_ HO_5.out); have n1_ := Aside0.mk (Kd.R_at hq_ HO_7.out); have n2_ := Aside0.mk (blk_at hq_ BK263.out); have n3_ := Aside0.mk (below_at hq_ HB.out); clear hq_ HO_5 HO_7 BK263 HB; have HO_5 := n0_; have HO_7 := n1_; have BK263 := n2_; have HB := n3_; clear n0_ n1_ n2_ n3_; (try (have HP42 := Kd.R_putg HO_5.out ((rd (rd_L1 l0_0 (rd x7_2 x8_2)) x44_3) : Int) (wrap64 ((rd x5_3 (rd x7_3 x8_2)) + 1)))))); refine store_event (t := 3) (p := 63) (v := ?vo_w43) (w1 := (wr.setCell ⟨go18, ((rd (rd_L1 l0_0 (rd x7_2 x8_2)) x44_3) : Int).toNat, none⟩ (.int .i64 (wrap64 ((rd x5_3 (rd x7_3 x8_2)) + 1))))) ?hg ?ho ?hn ?hr ?_; (case ho => rfl); (case hg => rfl); (case hn => rfl); (case hr => first | (go_simp; done) | (go_simp; rfl)); intro w43 hw; have hg : wr.grownBy w43 (some go18) := (by rw [hw]; exact HP42.2); have hp_ : Kd.R (Kd.int .i64) 3 w43 w.heap.size (fun k_ => some k_ ≠ (.slice (some ad276) x7_3.length co41 : Value).ownBlock) (.slice (some ⟨go18, 0, none⟩) x5_3.length co9) y278 := (by rw [hw, Ny278.out]; exact HP42.1); clear HP42; have n0_ := Aside0.mk (hp_); have n1_ := Aside0.mk (Kd.R_after (v := (.slice (some ⟨go18, 0, none⟩) x5_3.length co9)) (v1 := (.slice (some ⟨go18, 0, none⟩) x5_3.length co9)) (ok := (fun _ => True)) (by (with_reducible repeat (first | apply Kd.R_alloc | apply Kd.R_drewN | apply Kd.R_drew)); exact Kd.R_mono HO_7.out (fun _ hk => ⟨trivial, hk⟩)) hg (.inl rfl)); have n2_ := Aside0.mk (blk_grown (g := gb263) (o := .cells #[.slice (some ad273) l0_0.length c0_0] 28 (0, 0)) (by (with_reducible repeat (first | refine blk_drewN ?_ _ | refine blk_drew ?_ | refine blk_alloc ?_ _)); exact BK263.out) hg (Kd.R_ne HO_5.out BK263.out (by decide))); have n3_ := Aside0.mk ((by rw [hw]; exact below_set (HB.out) GB18.out : Below w.heap.size w w43)); clear HO_5; clear HO_7; clear BK263; clear HB; have HO_5 := n0_; have HO_7 := n1_; have BK263 := n2_; have HB := n3_; clear n0_ n1_ n2_ n3_; clear hg hw hp_) | ((with_reducible refine gate_builtin (b := .append) (xs := #[.tmp 64, .tmp 66]) rfl ?_); at_builtin; refine Kd.R_append (Kd.int .i64) (w0 := w) w.heap.size rfl (.tmp 64) (.tmp 66) 35 3 (.int .i64 0) 8 rfl Try.underlying35 info3 rfl (by decide) (by omega) (.slice (some ad276) x7_3.length co41) x7_3 (rd (rd_L1 l0_0 (rd x7_2 x8_2)) x44_3) [.int .i64 (rd (rd_L1 l0_0 (rd x7_2 x8_2)) x44_3)] (fun k_ => some k_ ≠ (.slice (some ⟨go18, 0, none⟩) x5_3.length co9 : Value).ownBlock) (fun _ => False) rfl rfl ?aP (fun _ hk => hk.elim) ?aF ?aO ?aB ?aS ?aL ?_; (case aP => exact rfl); (case aB => exact (by repeat (first | (with_reducible first | exact HB.out | apply below_alloc | apply pw_below_drewN | apply below_drew1 | refine below_set ?_ GE263.out) | exact HB.out))); (case aF => exact (fun k_ hk => Kd.fresh' (Kd.R_lt (by (with_reducible repeat (first | apply Kd.R_alloc | apply Kd.R_drewN | apply Kd.R_drew)); exact HO_5.out)) k_ hk)); (case aO => exact (by (with_reducible repeat (first | apply Kd.R_alloc | apply Kd.R_drewN | apply Kd.R_drew)); exact Kd.R_mono HO_7.out (fun _ hk => hk.2))); (case aS => exact (below_size (by repeat (first | (with_reducible first | exact HB.out | apply below_alloc | apply pw_below_drewN | apply below_drew1 | refine below_set ?_ GE263.out) | exact HB.out)))); (case aL => have := LMc40.out; omega); intro v280 w44 ho hb hg hat; rw [← Ny279.out] at ho; have n0_ := Aside0.mk (Kd.R_after (ok := (fun _ => True)) (by (with_reducible repeat (first | apply Kd.R_alloc | apply Kd.R_drewN | apply Kd.R_drew)); exact Kd.R_mono HO_5.out (fun _ hk => ⟨trivial, hk⟩)) hg hat); have n1_ := Aside0.mk (blk_grown (g := gb263) (o := .cells #[.slice (some ad273) l0_0.length c0_0] 28 (0, 0)) (by (with_reducible repeat (first | refine blk_drewN ?_ _ | refine blk_drew ?_ | refine blk_alloc ?_ _)); exact BK263.out) hg (Kd.R_ne HO_7.out BK263.out (by decide))); have n2_ := Aside0.mk (hb); have n3_ := Aside0.mk (ho); clear HO_5; clear BK263; clear HB; clear HO_7; have HO_5 := n0_; have BK263 := n1_; have HB := n2_; have HO281 := n3_; clear n0_ n1_ n2_ n3_; clear ho hb hg hat))
                                                      repeat (go_quiet (first | ((with_reducible refine gate_store (t := 3) (p := 63) rfl ?_); (try (rw [drewN_self wr]; generalize hq_ : World.drewN wr _ = wr; have n0_ := Aside0.mk (Kd.R_at hq_ HO_5.out); have n1_ := Aside0.mk (Kd.R_at hq_ HO_7.out); have n2_ := Aside0.mk (blk_at hq_ BK263.out); have n3_ := Aside0.mk (below_at hq_ HB.out); clear hq_ HO_5 HO_7 BK263 HB; have HO_5 := n0_; have HO_7 := n1_; have BK263 := n2_; have HB := n3_; clear n0_ n1_ n2_ n3_; (try (have HP42 := Kd.R_putg HO_5.out ((rd (rd_L1 l0_0 (rd x7_2 x8_2)) x44_3) : Int) (wrap64 ((rd x5_3 (rd x7_3 x8_2)) + 1)))))); refine store_event (t := 3) (p := 63) (v := ?vo_w43) (w1 := (wr.setCell ⟨go18, ((rd (rd_L1 l0_0 (rd x7_2 x8_2)) x44_3) : Int).toNat, none⟩ (.int .i64 (wrap64 ((rd x5_3 (rd x7_3 x8_2)) + 1))))) ?hg ?ho ?hn ?hr ?_; (case ho => rfl); (case hg => rfl); (case hn => rfl); (case hr => first | (go_simp; done) | (go_simp; rfl)); intro w43 hw; have hg : wr.grownBy w43 (some go18) := (by rw [hw]; exact HP42.2); have hp_ : Kd.R (Kd.int .i64) 3 w43 w.heap.size (fun k_ => some k_ ≠ (.slice (some ad276) x7_3.length co41 : Value).ownBlock) (.slice (some ⟨go18, 0, none⟩) x5_3.length co9) y278 := (by rw [hw, Ny278.out]; exact HP42.1); clear HP42; have n0_ := Aside0.mk (hp_); have n1_ := Aside0.mk (Kd.R_after (v := (.slice (some ⟨go18, 0, none⟩) x5_3.length co9)) (v1 := (.slice (some ⟨go18, 0, none⟩) x5_3.length co9)) (ok := (fun _ => True)) (by (with_reducible repeat (first | apply Kd.R_alloc | apply Kd.R_drewN | apply Kd.R_drew)); exact Kd.R_mono HO_7.out (fun _ hk => ⟨trivial, hk⟩)) hg (.inl rfl)); have n2_ := Aside0.mk (blk_grown (g := gb263) (o := .cells #[.slice (some ad273) l0_0.length c0_0] 28 (0, 0)) (by (with_reducible repeat (first | refine blk_drewN ?_ _ | refine blk_drew ?_ | refine blk_alloc ?_ _)); exact BK263.out) hg (Kd.R_ne HO_5.out BK263.out (by decide))); have n3_ := Aside0.mk ((by rw [hw]; exact below_set (HB.out) GB18.out : Below w.heap.size w w43)); clear HO_5; clear HO_7; clear BK263; clear HB; have HO_5 := n0_; have HO_7 := n1_; have BK263 := n2_; have HB := n3_; clear n0_ n1_ n2_ n3_; clear hg hw hp_) | ((with_reducible refine gate_builtin (b := .append) (xs := #[.tmp 64, .tmp 66]) rfl ?_); at_builtin; refine Kd.R_append (Kd.int .i64) (w0 := w) w.heap.size rfl (.tmp 64) (.tmp 66) 35 3 (.int .i64 0) 8 rfl Try.underlying35 info3 rfl (by decide) (by omega) (.slice (some ad276) x7_3.length co41) x7_3 (rd (rd_L1 l0_0 (rd x7_2 x8_2)) x44_3) [.int .i64 (rd (rd_L1 l0_0 (rd x7_2 x8_2)) x44_3)] (fun k_ => some k_ ≠ (.slice (some ⟨go18, 0, none⟩) x5_3.length co9 : Value).ownBlock) (fun _ => False) rfl rfl ?aP (fun _ hk => hk.elim) ?aF ?aO ?aB ?aS ?aL ?_; (case aP => exact rfl); (case aB => exact (by repeat (first | (with_reducible first | exact HB.out | apply below_alloc | apply pw_below_drewN | apply below_drew1 | refine below_set ?_ GE263.out) | exact HB.out))); (case aF => exact (fun k_ hk => Kd.fresh' (Kd.R_lt (by (with_reducible repeat (first | apply Kd.R_alloc | apply Kd.R_drewN | apply Kd.R_drew)); exact HO_5.out)) k_ hk)); (case aO => exact (by (with_reducible repeat (first | apply Kd.R_alloc | apply Kd.R_drewN | apply Kd.R_drew)); exact Kd.R_mono HO_7.out (fun _ hk => hk.2))); (case aS => exact (below_size (by repeat (first | (with_reducible first | exact HB.out | apply below_alloc | apply pw_below_drewN | apply below_drew1 | refine below_set ?_ GE263.out) | exact HB.out)))); (case aL => have := LMc40.out; omega); intro v280 w44 ho hb hg hat; rw [← Ny279.out] at ho; have n0_ := Aside0.mk (Kd.R_after (ok := (fun _ => True)) (by (with_reducible repeat (first | apply Kd.R_alloc | apply Kd.R_drewN | apply Kd.R_drew)); exact Kd.R_mono HO_5.out (fun _ hk => ⟨trivial, hk⟩)) hg hat); have n1_ := Aside0.mk (blk_grown (g := gb263) (o := .cells #[.slice (some ad273) l0_0.length c0_0] 28 (0, 0)) (by (with_reducible repeat (first | refine blk_drewN ?_ _ | refine blk_drew ?_ | refine blk_alloc ?_ _)); exact BK263.out) hg (Kd.R_ne HO_7.out BK263.out (by decide))); have n2_ := Aside0.mk (hb); have n3_ := Aside0.mk (ho); clear HO_5; clear BK263; clear HB; clear HO_7; have HO_5 := n0_; have BK263 := n1_; have HB := n2_; have HO281 := n3_; clear n0_ n1_ n2_ n3_; clear ho hb hg hat)); try go_wp2_with (first | ((with_reducible refine gate_store (t := 3) (p := 63) rfl ?_); (try (rw [drewN_self wr]; generalize hq_ : World.drewN wr _ = wr; have n0_ := Aside0.mk (Kd.R_at hq_ HO_5.out); have n1_ := Aside0.mk (Kd.R_at hq_ HO_7.out); have n2_ := Aside0.mk (blk_at hq_ BK263.out); have n3_ := Aside0.mk (below_at hq_ HB.out); clear hq_ HO_5 HO_7 BK263 HB; have HO_5 := n0_; have HO_7 := n1_; have BK263 := n2_; have HB := n3_; clear n0_ n1_ n2_ n3_; (try (have HP42 := Kd.R_putg HO_5.out ((rd (rd_L1 l0_0 (rd x7_2 x8_2)) x44_3) : Int) (wrap64 ((rd x5_3 (rd x7_3 x8_2)) + 1)))))); refine store_event (t := 3) (p := 63) (v := ?vo_w43) (w1 := (wr.setCell ⟨go18, ((rd (rd_L1 l0_0 (rd x7_2 x8_2)) x44_3) : Int).toNat, none⟩ (.int .i64 (wrap64 ((rd x5_3 (rd x7_3 x8_2)) + 1))))) ?hg ?ho ?hn ?hr ?_; (case ho => rfl); (case hg => rfl); (case hn => rfl); (case hr => first | (go_simp; done) | (go_simp; rfl)); intro w43 hw; have hg : wr.grownBy w43 (some go18) := (by rw [hw]; exact HP42.2); have hp_ : Kd.R (Kd.int .i64) 3 w43 w.heap.size (fun k_ => some k_ ≠ (.slice (some ad276) x7_3.length co41 : Value).ownBlock) (.slice (some ⟨go18, 0, none⟩) x5_3.length co9) y278 := (by rw [hw, Ny278.out]; exact HP42.1); clear HP42; have n0_ := Aside0.mk (hp_); have n1_ := Aside0.mk (Kd.R_after (v := (.slice (some ⟨go18, 0, none⟩) x5_3.length co9)) (v1 := (.slice (some ⟨go18, 0, none⟩) x5_3.length co9)) (ok := (fun _ => True)) (by (with_reducible repeat (first | apply Kd.R_alloc | apply Kd.R_drewN | apply Kd.R_drew)); exact Kd.R_mono HO_7.out (fun _ hk => ⟨trivial, hk⟩)) hg (.inl rfl)); have n2_ := Aside0.mk (blk_grown (g := gb263) (o := .cells #[.slice (some ad273) l0_0.length c0_0] 28 (0, 0)) (by (with_reducible repeat (first | refine blk_drewN ?_ _ | refine blk_drew ?_ | refine blk_alloc ?_ _)); exact BK263.out) hg (Kd.R_ne HO_5.out BK263.out (by decide))); have n3_ := Aside0.mk ((by rw [hw]; exact below_set (HB.out) GB18.out : Below w.heap.size w w43)); clear HO_5; clear HO_7; clear BK263; clear HB; have HO_5 := n0_; have HO_7 := n1_; have BK263 := n2_; have HB := n3_; clear n0_ n1_ n2_ n3_; clear hg hw hp_) | ((with_reducible refine gate_builtin (b := .append) (xs := #[.tmp 64, .tmp 66]) rfl ?_); at_builtin; refine Kd.R_append (Kd.int .i64) (w0 := w) w.heap.size rfl (.tmp 64) (.tmp 66) 35 3 (.int .i64 0) 8 rfl Try.underlying35 info3 rfl (by decide) (by omega) (.slice (some ad276) x7_3.length co41) x7_3 (rd (rd_L1 l0_0 (rd x7_2 x8_2)) x44_3) [.int .i64 (rd (rd_L1 l0_0 (rd x7_2 x8_2)) x44_3)] (fun k_ => some k_ ≠ (.slice (some ⟨go18, 0, none⟩) x5_3.length co9 : Value).ownBlock) (fun _ => False) rfl rfl ?aP (fun _ hk => hk.elim) ?aF ?aO ?aB ?aS ?aL ?_; (case aP => exact rfl); (case aB => exact (by repeat (first | (with_reducible first | exact HB.out | apply below_alloc | apply pw_below_drewN | apply below_drew1 | refine below_set ?_ GE263.out) | exact HB.out))); (case aF => exact (fun k_ hk => Kd.fresh' (Kd.R_lt (by (with_reducible repeat (first | apply Kd.R_alloc | apply Kd.R_drewN | apply Kd.R_drew)); exact HO_5.out)) k_ hk)); (case aO => exact (by (with_reducible repeat (first | apply Kd.R_alloc | apply Kd.R_drewN | apply Kd.R_drew)); exact Kd.R_mono HO_7.out (fun _ hk => hk.2))); (case aS => exact (below_size (by repeat (first | (with_reducible first | exact HB.out | apply below_alloc | apply pw_below_drewN | apply below_drew1 | refine below_set ?_ GE263.out) | exact HB.out)))); (case aL => have := LMc40.out; omega); intro v280 w44 ho hb hg hat; rw [← Ny279.out] at ho; have n0_ := Aside0.mk (Kd.R_after (ok := (fun _ => True)) (by (with_reducible repeat (first | apply Kd.R_alloc | apply Kd.R_drewN | apply Kd.R_drew)); exact Kd.R_mono HO_5.out (fun _ hk => ⟨trivial, hk⟩)) hg hat); have n1_ := Aside0.mk (blk_grown (g := gb263) (o := .cells #[.slice (some ad273) l0_0.length c0_0] 28 (0, 0)) (by (with_reducible repeat (first | refine blk_drewN ?_ _ | refine blk_drew ?_ | refine blk_alloc ?_ _)); exact BK263.out) hg (Kd.R_ne HO_7.out BK263.out (by decide))); have n2_ := Aside0.mk (hb); have n3_ := Aside0.mk (ho); clear HO_5; clear BK263; clear HB; clear HO_7; have HO_5 := n0_; have BK263 := n1_; have HB := n2_; have HO281 := n3_; clear n0_ n1_ n2_ n3_; clear ho hb hg hat)))
                                                      (try simp only [← hl5_3])
                                                      go_roundg k3
                                                      case measure => have := HK1.out; have := HK2.out; have := HK3.out; omega
                                                      case rel => exact ⟨(y278), (y279), (wrap64 (x44_3 + 1)), (by first | rfl | (simp; done) | (simp [*]; done)), H', ⟨by have := HK1.out; have := HK2.out; have := HK3.out; omega⟩, ⟨by (try simp only [hl5_1]); (try simp only [hl5_2]); (try simp only [hl5_3]); (with_reducible repeat (first | apply Kd.R_alloc | apply Kd.R_drewN | apply Kd.R_drew)); exact Kd.R_mono HO_5.out (fun _ hk => hk.2)⟩, ⟨by (try simp only [hl5_1]); (try simp only [hl5_2]); (try simp only [hl5_3]); (with_reducible repeat (first | apply Kd.R_alloc | apply Kd.R_drewN | apply Kd.R_drew)); exact HO281.out⟩, ⟨by (try simp only [hl5_1]); (try simp only [hl5_2]); (try simp only [hl5_3]); (with_reducible repeat (first | refine blk_drewN ?_ _ | refine blk_drew ?_ | refine blk_alloc ?_ _)); exact BK263.out⟩, ⟨by repeat (first | (with_reducible first | exact HB.out | apply below_alloc | apply pw_below_drewN | apply below_drew1 | refine below_set ?_ GE263.out) | exact HB.out)⟩⟩
                                                    · rw [if_neg c40] at H
                                                      exact absurd H (by simp)
                                                  · rw [if_neg c38] at H
                                                    exact absurd H (by simp)
                                                · rw [if_neg c37] at H
                                                  exact absurd H (by simp)
                                              · rw [if_neg c36] at H
                                                exact absurd H (by simp)
                                            · rw [if_neg c35] at H
                                              exact absurd H (by simp)
                                          · rw [if_neg c34] at H
                                            have c34b0 : decide ((rd x5_3 (rd (rd_L1 l0_0 (rd x7_2 x8_2)) x44_3)) < 0) = false := decide_eq_false c34
                                            (try (have c34b0h := c34b0; simp only [hl5_1, hl5_2, hl5_3] at c34b0h))
                                            clear c34
                                            have H' := Aside0.mk H
                                            clear H
                                            have p274 : 0 ≤ (x44_3 : Int) := of_decide_eq_true (by first | (with_reducible assumption) | assumption)
                                            have q274 : x44_3 < ((rd_L1 l0_0 (rd x7_2 x8_2)).length : Int) := of_decide_eq_true (by first | (with_reducible assumption) | assumption)
                                            obtain ⟨ad274, e274, hx274_0⟩ := Kd.at_int HR273_0.out x44_3 p274 q274
                                            cases e274
                                            replace hx274_0 := (HB.out.cell (World.block_lt_of_cell? w _ hx274_0)).trans hx274_0
                                            replace p274 := eq_true p274
                                            replace q274 := eq_true q274
                                            have p275 : 0 ≤ ((rd (rd_L1 l0_0 (rd x7_2 x8_2)) x44_3) : Int) := of_decide_eq_true (by first | (with_reducible assumption) | assumption)
                                            have q275 : (rd (rd_L1 l0_0 (rd x7_2 x8_2)) x44_3) < (x5_3.length : Int) := of_decide_eq_true (by first | (with_reducible assumption) | assumption)
                                            obtain ⟨ad275, e275, hx275_0⟩ := Kd.at_int (Kd.R_reads' HO_5.out).2.2 (rd (rd_L1 l0_0 (rd x7_2 x8_2)) x44_3) p275 q275
                                            obtain rfl : (⟨go18, 0, none⟩ : Addr) = ad275 := (by injection e275)
                                            (first | simp only [add_plain] at hx275_0 | simp only [add_at] at hx275_0 | simp only [Addr.add, Nat.zero_add] at hx275_0 | skip)
                                            replace p275 := eq_true p275
                                            replace q275 := eq_true q275
                                            go_wp2
                                            repeat (go_quiet (fail); try go_wp2)
                                            (try simp only [← hl5_3])
                                            go_roundg k3
                                            case measure => have := HK1.out; have := HK2.out; have := HK3.out; omega
                                            case rel => exact ⟨(x5_3), (x7_3), (wrap64 (x44_3 + 1)), (by first | rfl | (simp; done) | (simp [*]; done)), H', ⟨by have := HK1.out; have := HK2.out; have := HK3.out; omega⟩, ⟨by (try simp only [hl5_1]); (try simp only [hl5_2]); (try simp only [hl5_3]); (with_reducible repeat (first | apply Kd.R_alloc | apply Kd.R_drewN | apply Kd.R_drew)); exact HO_5.out⟩, ⟨by (try simp only [hl5_1]); (try simp only [hl5_2]); (try simp only [hl5_3]); (with_reducible repeat (first | apply Kd.R_alloc | apply Kd.R_drewN | apply Kd.R_drew)); exact HO_7.out⟩, ⟨by (try simp only [hl5_1]); (try simp only [hl5_2]); (try simp only [hl5_3]); (with_reducible repeat (first | refine blk_drewN ?_ _ | refine blk_drew ?_ | refine blk_alloc ?_ _)); exact BK263.out⟩, ⟨by repeat (first | (with_reducible first | exact HB.out | apply below_alloc | apply pw_below_drewN | apply below_drew1 | refine below_set ?_ GE263.out) | exact HB.out)⟩⟩
                                        · rw [if_neg c33] at H
                                          exact absurd H (by simp)
                                      · rw [if_neg c32] at H
                                        exact absurd H (by simp)
                                    · rw [if_neg c31] at H
                                      exact absurd H (by simp)
                                  · rw [if_neg c30] at H
                                    exact absurd H (by simp)
                                · rw [if_neg c29] at H
                                  have c29b0 : decide (x44_3 < ((rd_L1 l0_0 (rd x7_2 x8_2)).length : Int)) = false := decide_eq_false c29
                                  (try (have c29b0h := c29b0; simp only [hl5_1, hl5_2, hl5_3] at c29b0h))
                                  clear c29
                                  have H' := Aside0.mk H
                                  clear H
                                  go_wp2
                                  repeat (go_quiet (fail); try go_wp2)
                                  (try simp only [← hl5_2, ← hl5_3])
                                  go_roundg k3
                                  case measure => have := HK1.out; have := HK2.out; have := HK3.out; omega
                                  case rel => exact ⟨(x5_3), (x7_3), (wrap64 (x8_2 + 1)), (by first | rfl | (simp; done) | (simp [*]; done)), H', ⟨by have := HK1.out; have := HK2.out; have := HK3.out; omega⟩, ⟨by (try simp only [hl5_1]); (try simp only [hl5_2]); (try simp only [hl5_3]); (with_reducible repeat (first | apply Kd.R_alloc | apply Kd.R_drewN | apply Kd.R_drew)); exact HO_5.out⟩, ⟨by (try simp only [hl5_1]); (try simp only [hl5_2]); (try simp only [hl5_3]); (with_reducible repeat (first | apply Kd.R_alloc | apply Kd.R_drewN | apply Kd.R_drew)); exact HO_7.out⟩, ⟨by (try simp only [hl5_1]); (try simp only [hl5_2]); (try simp only [hl5_3]); (with_reducible repeat (first | refine blk_drewN ?_ _ | refine blk_drew ?_ | refine blk_alloc ?_ _)); exact BK263.out⟩, ⟨by repeat (first | (with_reducible first | exact HB.out | apply below_alloc | apply pw_below_drewN | apply below_drew1 | refine below_set ?_ GE263.out) | exact HB.out)⟩⟩
                          · rw [if_neg c26] at H
                            exact absurd H (by simp)
                        · rw [if_neg c25] at H
                          exact absurd H (by simp)
                      · rw [if_neg c24] at H
                        exact absurd H (by simp)
                    · rw [if_neg c23] at H
                      have c23b0 : decide (x8_2 < (x7_2.length : Int)) = false := decide_eq_false c23
                      (try (have c23b0h := c23b0; simp only [hl5_1, hl5_2] at c23b0h))
                      clear c23
                      obtain rfl := Option.some.inj H
                      obtain ⟨Ao45, co45, eo45⟩ := Kd.R_slice HO_7.out
                      subst eo45
                      go_wp2
                      repeat (go_quiet (fail); try go_wp2)
                      go_ret
                      exact ⟨_, by first | rfl | (simp [errW_none, errW_some] <;> rfl) | (simp [*, errW_none, errW_some] <;> rfl), by (with_reducible repeat (first | apply Kd.R_alloc | apply Kd.R_drewN | apply Kd.R_drew)); exact Kd.R_mono HO_5.out (fun _ hk => trivial), by repeat (first | (with_reducible first | exact HB.out | apply below_alloc | apply pw_below_drewN | apply below_drew1 | refine below_set ?_ GE263.out) | exact HB.out)⟩
              · rw [if_neg c17] at H
                exact absurd H (by simp)
            · rw [if_neg c16] at H
              exact absurd H (by simp)
    · rw [if_neg c4] at H
      exact absurd H (by simp)
  · rw [if_neg c3] at H
    exact absurd H (by simp)

end Go.Proofs.Ytnphoaecjeenjaa.P
namespace Go.Proofs.Ytnphoaecjeenjaa.M
open Go.RowKit Go.Proofs.Ytnphoaecjeenjaa.P Go.Proofs.Ytnphoaecjeenjaa.In Go.Proofs.YtnphoaecjeenjaaW.PrintWords Go.Proofs.YtnphoaecjeenjaaW.PrintLast
set_option linter.unusedVariables false
set_option linter.unusedSimpArgs false
theorem good_iff {l : List (List Int)} (h : goodG l = true) : (1 ≤ l.length ∧ l.length ≤ 8) ∧ ∀ row ∈ l, row.length ≤ 5 ∧ ∀ q ∈ row, 0 ≤ q ∧ q < (l.length : Int) := by
  simp only [goodG, goodRow, Bool.and_eq_true, decide_eq_true_eq, List.all_eq_true] at h
  refine ⟨⟨h.1, h.2.1⟩, fun row hr => ⟨(h.2.2 row hr).1, fun q hq => ?_⟩⟩
  have := (h.2.2 row hr).2 q hq
  omega
/-- A place of a graph. -/
def placeB (l : List (List Int)) (p : Int) : Bool := goodG l && (decide (0 ≤ p) && decide (p ≤ (l.length : Int) - 1))
theorem place_iff {l : List (List Int)} {p : Int} (h : placeB l p = true) : goodG l = true ∧ 0 ≤ p ∧ p < (l.length : Int) := by
  simp only [placeB, Bool.and_eq_true, decide_eq_true_eq] at h
  exact ⟨h.1, h.2.1, by omega⟩
theorem grPlace (l : List (List Int)) (p : Int) (hl : okSS l) : Ev (fun k => spec_grPlace.f k l p) (placeB l p) := by
  unfold spec_grPlace.f
  have hll := hl.1
  refine Ev.bind (grGood l hl) ?_
  by_cases h : goodG l = true
  · refine Ev.pos h ?_
    rw [l1In, wrap_id (by omega)]
    exact Ev.bind0 rfl ((Ev.now _).val (by simp [placeB, h]))
  · exact Ev.neg h ((Ev.now _).val (by simp only [Bool.not_eq_true] at h; simp [placeB, h]))
theorem has1 (l : List (List Int)) (p : Int) : impl_has.f l [p] = some (placeB l p) := by
  unfold impl_has.f placeB; simp
theorem has2 (l : List (List Int)) (p q : Int) : impl_has.f l [p, q] = some (placeB l p && placeB l q) := by
  unfold impl_has.f placeB
  cases goodG l <;> simp

/-! how far -/
def neg : List Int → Nat
  | [] => 0
  | x :: l => (if x < 0 then 1 else 0) + neg l
theorem neg_set (o : List Int) (i : Nat) (hi : i < o.length) (h : o[i] < 0) (v : Int) (hv : 0 ≤ v) : neg (o.set i v) + 1 = neg o := by
  induction o generalizing i with
  | nil => simp at hi
  | cons x o ih =>
    cases i with
    | zero =>
      simp only [List.getElem_cons_zero] at h
      simp only [List.set_cons_zero, neg]
      rw [if_neg (by omega), if_pos h]; omega
    | succ i =>
      simp only [List.getElem_cons_succ] at h
      simp only [List.set_cons_succ, neg]
      have := ih i (by simpa using hi) h
      omega
theorem neg_le (o : List Int) : neg o ≤ o.length := by
  induction o with
  | nil => simp [neg]
  | cons x o ih => simp only [neg, List.length_cons]; split <;> omega
theorem rd_get {l : List Int} {q : Int} (h0 : 0 ≤ q) (h1 : q < (l.length : Int)) : rd l q = l[q.toNat]'(by omega) := by
  unfold rd; rw [List.getD_eq_getElem?_getD, List.getElem?_eq_getElem (by omega)]; rfl
theorem rdL_get {l : List (List Int)} {q : Int} (h0 : 0 ≤ q) (h1 : q < (l.length : Int)) : rd_L1 l q = l[q.toNat]'(by omega) := by
  unfold rd_L1; rw [List.getD_eq_getElem?_getD, List.getElem?_eq_getElem (by omega)]; rfl
/-- What is known of the lengths, on the way. -/
structure Known (n : Nat) (o : List Int) : Prop where
  len : o.length = n
  lo : ∀ x ∈ o, -1 ≤ x
  hi : ∀ x ∈ o, x + 1 ≤ (n : Int) - neg o
theorem Known.at {n : Nat} {o : List Int} (h : Known n o) {q : Int} (h0 : 0 ≤ q) (h1 : q < (n : Int)) : -1 ≤ rd o q ∧ rd o q + 1 ≤ (n : Int) - neg o := by
  have hl := h.len
  rw [rd_get h0 (by omega)]
  exact ⟨h.lo _ (List.getElem_mem _), h.hi _ (List.getElem_mem _)⟩
theorem Known.set {n : Nat} {o : List Int} (h : Known n o) {q : Int} (h0 : 0 ≤ q) (h1 : q < (n : Int)) (hq : rd o q < 0) {v : Int} (hv0 : 0 ≤ v) (hv : v ≤ (n : Int) - neg o) : Known n (o.set q.toNat v) ∧ neg (o.set q.toNat v) + 1 = neg o := by
  have hl := h.len
  rw [rd_get h0 (by omega)] at hq
  have hn := neg_set o q.toNat (by omega) hq v hv0
  refine ⟨⟨by rw [List.length_set]; exact hl, fun x hx => ?_, fun x hx => ?_⟩, hn⟩
  · rcases List.mem_or_eq_of_mem_set hx with h' | h'
    · exact h.lo x h'
    · omega
  · rcases List.mem_or_eq_of_mem_set hx with h' | h'
    · have := h.hi x h'; omega
    · omega
/-- The exits of a place are looked at. -/
def vis (c : Int) : List Int → List Int → List Int → List Int × List Int
  | [], o, qs => (o, qs)
  | q :: row, o, qs => if rd o q < 0 then vis c row (o.set q.toNat (rd o c + 1)) (qs ++ [q]) else vis c row o qs
def bfs (g : List (List Int)) : Nat → List Int → List Int → List Int
  | 0, o, _ => o
  | _ + 1, o, [] => o
  | f + 1, o, c :: qs => bfs g f (vis c (rd_L1 g c) o qs).1 (vis c (rd_L1 g c) o qs).2
/-- How far each place is from p, -1 where no way leads. -/
def far (g : List (List Int)) (p : Int) : List Int := bfs g g.length ((List.replicate g.length (-1)).set p.toNat 0) [p]
/-- The places that wait: places that are known. -/
def Wait (n : Nat) (o qs : List Int) : Prop := ∀ q ∈ qs, 0 ≤ q ∧ q < (n : Int) ∧ 0 ≤ rd o q
theorem rd_set {o : List Int} {q x v : Int} (hq0 : 0 ≤ q) (hq : q < (o.length : Int)) (hx0 : 0 ≤ x) : rd (o.set q.toNat v) x = if x = q then v else rd o x := by
  unfold rd
  rw [List.getD_eq_getElem?_getD, List.getElem?_set, List.getD_eq_getElem?_getD]
  by_cases e : x = q
  · subst e; rw [if_pos rfl, if_pos (by omega), if_pos rfl]; rfl
  · rw [if_neg (by omega), if_neg e]
theorem vis_keeps {n : Nat} (hn : n ≤ 8) (c : Int) : ∀ (row o qs : List Int), (∀ q ∈ row, 0 ≤ q ∧ q < (n : Int)) → Known n o → Wait n o qs → (0 ≤ c ∧ c < (n : Int) ∧ 0 ≤ rd o c) →
    Known n (vis c row o qs).1 ∧ Wait n (vis c row o qs).1 (vis c row o qs).2 ∧ (vis c row o qs).2.length + neg (vis c row o qs).1 = qs.length + neg o := by
  intro row
  induction row with
  | nil => intro o qs _ hk hw _; exact ⟨hk, hw, rfl⟩
  | cons q row ih =>
    intro o qs hr hk hw hc
    obtain ⟨hq0, hq1⟩ := hr q List.mem_cons_self
    have hr' : ∀ x ∈ row, 0 ≤ x ∧ x < (n : Int) := fun x hx => hr x (List.mem_cons_of_mem _ hx)
    simp only [vis]
    by_cases h : rd o q < 0
    · rw [if_pos h]
      have hl := hk.len
      have hcc := hk.at hc.1 hc.2.1
      obtain ⟨hk', hn'⟩ := hk.set hq0 hq1 h (v := rd o c + 1) (by omega) (by omega)
      have hs : ∀ x, 0 ≤ x → 0 ≤ rd o x → 0 ≤ rd (o.set q.toNat (rd o c + 1)) x := fun x hx hx1 => by
        rw [rd_set hq0 (by omega) hx]; split <;> omega
      obtain ⟨h1, h2, h3⟩ := ih _ (qs ++ [q]) hr' hk' (fun x hx => by
        rcases List.mem_append.1 hx with hx | hx
        · obtain ⟨a, b, c'⟩ := hw x hx; exact ⟨a, b, hs x a c'⟩
        · rw [List.mem_singleton.1 hx]; exact ⟨hq0, hq1, by rw [rd_set hq0 (by omega) hq0, if_pos rfl]; omega⟩) ⟨hc.1, hc.2.1, hs c hc.1 hc.2.2⟩
      refine ⟨h1, h2, ?_⟩
      rw [h3, List.length_append]; simp; omega
    · rw [if_neg h]
      exact ih o qs hr' hk hw hc
theorem drop_rd {row : List Int} {i : Nat} (h : i < row.length) : row.drop i = rd row (i : Int) :: row.drop (i + 1) := by
  rw [List.drop_eq_getElem_cons h, rd_at h]
/-- The program's look at the exits. -/
theorem lengths_l1 {n : Nat} (hn : n ≤ 8) (g : List (List Int)) (c : Int) (row : List Int) (hr : ∀ q ∈ row, 0 ≤ q ∧ q < (n : Int)) (hrl : row.length ≤ 5) (r : List Int) : ∀ (d i : Nat) (o qs : List Int), row.length - i = d → i ≤ row.length → Known n o → Wait n o qs → (0 ≤ c ∧ c < (n : Int) ∧ 0 ≤ rd o c) → qs.length + neg o ≤ 8 →
    Ev (fun k => impl_Graph_lengths.l0 k (vis c (row.drop i) o qs).1 (vis c (row.drop i) o qs).2 g) r → Ev (fun k => impl_Graph_lengths.l1 k o (c :: qs) row row.length i g) r := by
  intro d
  induction d with
  | zero =>
    intro i o qs hd hi hk hw hc hb h
    rw [List.drop_of_length_le (by omega)] at h
    refine Ev.step (fun k => ?_) h
    simp only [impl_Graph_lengths.l1, vis]
    rw [if_neg (by omega), if_pos (by simp; omega)]
    rfl
  | succ d ih =>
    intro i o qs hd hi hk hw hc hb h
    have hlt : i < row.length := by omega
    have hq := hr (rd row i) (by rw [rd_at hlt]; exact List.getElem_mem _)
    have hl := hk.len
    rw [drop_rd hlt] at h
    simp only [vis] at h
    by_cases hneg : rd o (rd row i) < 0
    · rw [if_pos hneg] at h
      have hcc := hk.at hc.1 hc.2.1
      obtain ⟨hk', hn'⟩ := hk.set hq.1 hq.2 hneg (v := rd o c + 1) (by omega) (by omega)
      have hs : ∀ x, 0 ≤ x → 0 ≤ rd o x → 0 ≤ rd (o.set (rd row i).toNat (rd o c + 1)) x := fun x hx hx1 => by
        rw [rd_set hq.1 (by omega) hx]; split <;> omega
      refine Ev.step (fun k => ?_) (ih (i + 1) _ (qs ++ [rd row i]) (by omega) (by omega) hk' (fun x hx => by
        rcases List.mem_append.1 hx with hx | hx
        · obtain ⟨a, b, c'⟩ := hw x hx; exact ⟨a, b, hs x a c'⟩
        · rw [List.mem_singleton.1 hx]; exact ⟨hq.1, hq.2, by rw [rd_set hq.1 (by omega) hq.1, if_pos rfl]; omega⟩) ⟨hc.1, hc.2.1, hs c hc.1 hc.2.2⟩ (by rw [List.length_append]; simp; omega) h)
      simp only [impl_Graph_lengths.l1]
      have e0 : rd (c :: qs) 0 = c := rfl
      rw [if_pos (by omega), if_pos (by omega), if_pos (by omega), if_pos hq.1, if_pos (by omega), if_pos hneg, if_pos (by rw [List.length_cons]; omega), e0, if_pos hc.1, if_pos (by omega), if_pos (by rw [List.length_cons]; omega), wrap_nat (by omega), wrap_id (by omega)]
      rfl
    · rw [if_neg hneg] at h
      refine Ev.step (fun k => ?_) (ih (i + 1) o qs (by omega) (by omega) hk hw hc hb h)
      simp only [impl_Graph_lengths.l1]
      rw [if_pos (by omega), if_pos (by omega), if_pos (by omega), if_pos hq.1, if_pos (by omega), if_neg hneg, wrap_nat (by omega)]
theorem lengths_l0 {g : List (List Int)} (hg : goodG g = true) : ∀ (f : Nat) (o qs : List Int), Known g.length o → Wait g.length o qs → qs.length + neg o ≤ f → f ≤ 8 → Ev (fun k => impl_Graph_lengths.l0 k o qs g) (bfs g f o qs) := by
  obtain ⟨⟨h1, h8⟩, hrows⟩ := good_iff hg
  intro f
  induction f with
  | zero =>
    intro o qs hk hw hb hf
    have : qs = [] := List.eq_nil_of_length_eq_zero (by omega)
    subst this
    refine Ev.const1 (fun k => ?_)
    simp only [impl_Graph_lengths.l0]
    rw [if_neg (by simp)]; rfl
  | succ f ih =>
    intro o qs hk hw hb hf
    cases qs with
    | nil =>
      refine Ev.const1 (fun k => ?_)
      simp only [impl_Graph_lengths.l0]
      rw [if_neg (by simp)]; rfl
    | cons c qs =>
      obtain ⟨hc0, hc1, hc2⟩ := hw c List.mem_cons_self
      have hrow := hrows (rd_L1 g c) (by rw [rdL_get hc0 hc1]; exact List.getElem_mem _)
      have hw' : Wait g.length o qs := fun x hx => hw x (List.mem_cons_of_mem _ hx)
      obtain ⟨k1, k2, k3⟩ := vis_keeps h8 c (rd_L1 g c) o qs hrow.2 hk hw' ⟨hc0, hc1, hc2⟩
      simp only [List.length_cons] at hb
      have := lengths_l1 h8 g c (rd_L1 g c) hrow.2 hrow.1 (bfs g (f + 1) o (c :: qs)) _ 0 o qs rfl (Nat.zero_le _) hk hw' ⟨hc0, hc1, hc2⟩ (by omega) (by
        rw [List.drop_zero]
        exact ih _ _ k1 k2 (by omega) (by omega))
      refine Ev.step (fun k => ?_) this
      simp only [impl_Graph_lengths.l0]
      have e0 : rd (c :: qs) 0 = c := rfl
      rw [if_pos (by rw [List.length_cons]; omega), if_pos (by rw [List.length_cons]; omega), e0, if_pos hc0, if_pos hc1]
      rfl
theorem neg_rep (n : Nat) : neg (List.replicate n (-1)) = n := by
  induction n with
  | zero => rfl
  | succ n ih => simp only [List.replicate_succ, neg, ih]; rw [if_pos (by omega)]; omega
theorem known0 {n : Nat} {p : Int} (h0 : 0 ≤ p) (h1 : p < (n : Int)) : Known n ((List.replicate n (-1)).set p.toNat 0) ∧ Wait n ((List.replicate n (-1)).set p.toNat 0) [p] ∧ [p].length + neg ((List.replicate n (-1)).set p.toNat 0) ≤ n := by
  have hk : Known n (List.replicate n (-1)) := ⟨by simp, fun x hx => by rw [(List.mem_replicate.1 hx).2]; omega, fun x hx => by rw [(List.mem_replicate.1 hx).2, neg_rep]; omega⟩
  have hr : rd (List.replicate n (-1)) p < 0 := by rw [rd_get h0 (by simpa using h1)]; simp
  obtain ⟨k1, k2⟩ := hk.set h0 h1 hr (v := 0) (by omega) (by rw [neg_rep]; omega)
  rw [neg_rep] at k2
  refine ⟨k1, fun x hx => ?_, by simp; omega⟩
  rw [List.mem_singleton.1 hx]
  exact ⟨h0, h1, by rw [rd_set h0 (by simpa using h1) h0, if_pos rfl]; omega⟩
theorem lengths {g : List (List Int)} {p : Int} (h : placeB g p = true) : Ev (fun k => impl_Graph_lengths.f k g p) (far g p) := by
  obtain ⟨hg, h0, h1⟩ := place_iff h
  obtain ⟨⟨hn1, hn8⟩, _⟩ := good_iff hg
  obtain ⟨k1, k2, k3⟩ := known0 h0 h1
  unfold impl_Graph_lengths.f
  have hR : slices_Repeat_int_int.f [-1] (g.length : Int) = some (List.replicate g.length (-1)) := by
    unfold slices_Repeat_int_int.f; rw [if_pos ⟨rfl, by omega, by omega⟩]; rfl
  exact Ev.bind0 hR (Ev.pos h0 (Ev.pos (by simpa using h1) (lengths_l0 hg g.length _ _ k1 k2 k3 hn8)))
theorem far_len {g : List (List Int)} {p : Int} (h : placeB g p = true) : Known g.length (far g p) := by
  obtain ⟨hg, h0, h1⟩ := place_iff h
  obtain ⟨⟨hn1, hn8⟩, hrows⟩ := good_iff hg
  obtain ⟨k1, k2, k3⟩ := known0 h0 h1
  have : ∀ (f : Nat) (o qs : List Int), Known g.length o → Wait g.length o qs → Known g.length (bfs g f o qs) := by
    intro f
    induction f with
    | zero => intro o qs hk hw; exact hk
    | succ f ih =>
      intro o qs hk hw
      cases qs with
      | nil => exact hk
      | cons c qs =>
        obtain ⟨hc0, hc1, hc2⟩ := hw c List.mem_cons_self
        have hrow := hrows (rd_L1 g c) (by rw [rdL_get hc0 hc1]; exact List.getElem_mem _)
        obtain ⟨k1, k2, k3⟩ := vis_keeps hn8 c (rd_L1 g c) o qs hrow.2 hk (fun x hx => hw x (List.mem_cons_of_mem _ hx)) ⟨hc0, hc1, hc2⟩
        exact ih _ _ k1 k2
  exact this _ _ _ k1 k2
/-! the reference's search -/
theorem far_l2 {n : Nat} (hn : n ≤ 8) (g : List (List Int)) (c : Int) (pre : List Int) (row : List Int) (hr : ∀ q ∈ row, 0 ≤ q ∧ q < (n : Int)) (hrl : row.length ≤ 5) (r : List Int) : ∀ (d i : Nat) (o qs : List Int), row.length - i = d → i ≤ row.length → Known n o → (0 ≤ c ∧ c < (n : Int) ∧ 0 ≤ rd o c) → pre.length + qs.length + neg o ≤ 8 →
    Ev (fun k => spec_grFar.l1 k (vis c (row.drop i) o qs).1 (pre ++ c :: (vis c (row.drop i) o qs).2) ((pre.length + 1 : Nat) : Int) g) r → Ev (fun k => spec_grFar.l2 k o (pre ++ c :: qs) (pre.length : Int) row row.length i g) r := by
  intro d
  induction d with
  | zero =>
    intro i o qs hd hi hk hc hb h
    rw [List.drop_of_length_le (by omega)] at h
    refine Ev.step (fun k => ?_) h
    simp only [spec_grFar.l2, vis]
    rw [if_neg (by omega), wrap_nat (by omega)]
  | succ d ih =>
    intro i o qs hd hi hk hc hb h
    have hlt : i < row.length := by omega
    have hq := hr (rd row i) (by rw [rd_at hlt]; exact List.getElem_mem _)
    have hl := hk.len
    rw [drop_rd hlt] at h
    simp only [vis] at h
    by_cases hneg : rd o (rd row i) < 0
    · rw [if_pos hneg] at h
      have hcc := hk.at hc.1 hc.2.1
      obtain ⟨hk', hn'⟩ := hk.set hq.1 hq.2 hneg (v := rd o c + 1) (by omega) (by omega)
      have hs : ∀ x, 0 ≤ x → 0 ≤ rd o x → 0 ≤ rd (o.set (rd row i).toNat (rd o c + 1)) x := fun x hx hx1 => by
        rw [rd_set hq.1 (by omega) hx]; split <;> omega
      refine Ev.step (fun k => ?_) (ih (i + 1) _ (qs ++ [rd row i]) (by omega) (by omega) hk' ⟨hc.1, hc.2.1, hs c hc.1 hc.2.2⟩ (by rw [List.length_append]; simp; omega) h)
      simp only [spec_grFar.l2]
      have e0 : rd (pre ++ c :: qs) (pre.length : Int) = c := by rw [rd_at (by simp)]; simp
      rw [if_pos (by omega), if_pos (by omega), if_pos (by omega), if_pos hq.1, if_pos (by omega), if_pos hneg, if_pos (by omega), if_pos (by simp; omega), e0, if_pos hc.1, if_pos (by omega), if_pos (by simp; omega), wrap_nat (by omega), wrap_id (by omega)]
      simp
    · rw [if_neg hneg] at h
      refine Ev.step (fun k => ?_) (ih (i + 1) o qs (by omega) (by omega) hk hc hb h)
      simp only [spec_grFar.l2]
      rw [if_pos (by omega), if_pos (by omega), if_pos (by omega), if_pos hq.1, if_pos (by omega), if_neg hneg, wrap_nat (by omega)]
theorem far_l1 {g : List (List Int)} (hg : goodG g = true) : ∀ (f : Nat) (o pre qs : List Int), Known g.length o → Wait g.length o qs → qs.length + neg o ≤ f → f ≤ 8 → pre.length + qs.length + neg o ≤ 8 → Ev (fun k => spec_grFar.l1 k o (pre ++ qs) (pre.length : Int) g) (bfs g f o qs) := by
  obtain ⟨⟨h1, h8⟩, hrows⟩ := good_iff hg
  intro f
  induction f with
  | zero =>
    intro o pre qs hk hw hb hf hp
    have : qs = [] := List.eq_nil_of_length_eq_zero (by omega)
    subst this
    refine Ev.const1 (fun k => ?_)
    simp only [spec_grFar.l1]
    rw [if_neg (by simp)]; rfl
  | succ f ih =>
    intro o pre qs hk hw hb hf hp
    cases qs with
    | nil =>
      refine Ev.const1 (fun k => ?_)
      simp only [spec_grFar.l1]
      rw [if_neg (by simp)]; rfl
    | cons c qs =>
      obtain ⟨hc0, hc1, hc2⟩ := hw c List.mem_cons_self
      have hrow := hrows (rd_L1 g c) (by rw [rdL_get hc0 hc1]; exact List.getElem_mem _)
      have hw' : Wait g.length o qs := fun x hx => hw x (List.mem_cons_of_mem _ hx)
      obtain ⟨k1, k2, k3⟩ := vis_keeps h8 c (rd_L1 g c) o qs hrow.2 hk hw' ⟨hc0, hc1, hc2⟩
      simp only [List.length_cons] at hb hp
      have := far_l2 h8 g c pre (rd_L1 g c) hrow.2 hrow.1 (bfs g (f + 1) o (c :: qs)) _ 0 o qs rfl (Nat.zero_le _) hk ⟨hc0, hc1, hc2⟩ (by omega) (by
        rw [List.drop_zero]
        have := ih (vis c (rd_L1 g c) o qs).1 (pre ++ [c]) (vis c (rd_L1 g c) o qs).2 k1 k2 (by omega) (by omega) (by simp; omega)
        simpa [bfs] using this)
      refine Ev.step (fun k => ?_) this
      simp only [spec_grFar.l1]
      have e0 : rd (pre ++ c :: qs) (pre.length : Int) = c := by rw [rd_at (by simp)]; simp
      rw [if_pos (by simp; omega), if_pos (by omega), e0, if_pos hc0, if_pos hc1]
      rfl
theorem far_l0 (g : List (List Int)) (p : Int) (n : Nat) (hn : n ≤ 8) (r : List Int) : ∀ (d i : Nat), n - i = d → i ≤ n → (0 ≤ p ∧ p < (n : Int)) → Ev (fun k => spec_grFar.l1 k ((List.replicate n (-1)).set p.toNat 0) [p] 0 g) r → Ev (fun k => spec_grFar.l0 k p (List.replicate i (-1) ++ List.replicate (n - i) 0) n i g) r := by
  intro d
  induction d with
  | zero =>
    intro i hd hi hp h
    have : i = n := by omega
    subst this
    refine Ev.step (fun k => ?_) h
    simp only [spec_grFar.l0]
    rw [if_neg (by omega), if_pos hp.1, if_pos (by simp; omega)]
    simp
  | succ d ih =>
    intro i hd hi hp h
    refine Ev.step (fun k => ?_) (ih (i + 1) (by omega) (by omega) hp h)
    simp only [spec_grFar.l0]
    rw [if_pos (by omega), if_pos (by omega), if_pos (by simp; omega), wrap_nat (by omega), Int.toNat_natCast]
    congr 1
    obtain ⟨m, hm⟩ : ∃ m, n - i = m + 1 := ⟨n - i - 1, by omega⟩
    rw [hm, show n - (i + 1) = m by omega, List.replicate_succ, List.replicate_succ', List.set_append_right _ _ (by simp)]
    simp
theorem grFar {g : List (List Int)} {p : Int} (h : placeB g p = true) : Ev (fun k => spec_grFar.f k g p) (far g p) := by
  obtain ⟨hg, h0, h1⟩ := place_iff h
  obtain ⟨⟨hn1, hn8⟩, _⟩ := good_iff hg
  obtain ⟨k1, k2, k3⟩ := known0 h0 h1
  unfold spec_grFar.f
  refine Ev.pos (by omega) (Ev.pos (by omega) (Ev.bind0 rfl ?_))
  have := far_l0 g p g.length hn8 (far g p) g.length 0 (by omega) (by omega) ⟨h0, h1⟩ (by
    have := far_l1 hg g.length _ [] [p] k1 k2 k3 hn8 (by simpa using by simp at k3; omega)
    exact this)
  simpa using this
end Go.Proofs.Ytnphoaecjeenjaa.M
namespace Go.Proofs.Ytnphoaecjeenjaa.M
open Go.RowKit Go.Proofs.Ytnphoaecjeenjaa.P Go.Proofs.Ytnphoaecjeenjaa.In Go.Proofs.YtnphoaecjeenjaaW.PrintWords Go.Proofs.YtnphoaecjeenjaaW.PrintLast
set_option linter.unusedVariables false
set_option linter.unusedSimpArgs false
/-- Are these rotors of these rows. -/
def rotB : List Int → List (List Int) → Bool
  | r :: rs, row :: rows => (decide (0 ≤ r) && decide (r ≤ if (row.length : Int) - 1 < 0 then 0 else (row.length : Int) - 1)) && rotB rs rows
  | _, _ => true
/-- A walk on a graph. -/
def walkB (g : List (List Int)) (rot : List Int) (at_ : Int) : Bool := placeB g at_ && (decide (rot.length = g.length) && rotB rot g)
theorem most0 (n : Nat) : mx ((n : Int) - 1) 0 = if (n : Int) - 1 < 0 then 0 else (n : Int) - 1 := by unfold mx; rfl
theorem l1Most0 (n : Nat) : spec_l1Most.f 0 ((n : Int) - 1) = some (if (n : Int) - 1 < 0 then 0 else (n : Int) - 1) := by
  unfold spec_l1Most.f
  by_cases h : (n : Int) - 1 < 0
  · rw [if_pos h]; split <;> first | rfl | omega
  · rw [if_neg h]; split
    · congr 1; omega
    · rfl
theorem isWalk_l0 (g : List (List Int)) (h8 : g.length ≤ 8) (hr : ∀ row ∈ g, row.length ≤ 5) (rot : List Int) (hlen : rot.length = g.length) : ∀ (d i : Nat), g.length - i = d → i ≤ g.length → Ev (fun k => impl_isWalk.l0 k rot rot.length i g) (rotB (rot.drop i) (g.drop i)) := by
  intro d
  induction d with
  | zero =>
    intro i hd hi
    refine Ev.const1 (fun k => ?_)
    simp only [impl_isWalk.l0]
    rw [if_neg (by omega), List.drop_of_length_le (by omega)]
    rfl
  | succ d ih =>
    intro i hd hi
    have hlt : i < g.length := by omega
    have hlt2 : i < rot.length := by omega
    have hrow : (rd_L1 g i).length ≤ 5 := hr _ (by rw [rdL_at hlt]; exact List.getElem_mem _)
    rw [List.drop_eq_getElem_cons hlt, List.drop_eq_getElem_cons hlt2, ← rdL_at hlt, ← rd_at hlt2]
    simp only [rotB]
    refine Ev.step (f := fun k => if (decide (0 ≤ rd rot i) && decide (rd rot i ≤ if ((rd_L1 g i).length : Int) - 1 < 0 then 0 else ((rd_L1 g i).length : Int) - 1)) = true then impl_isWalk.l0 k rot rot.length (i + 1 : Nat) g else some false) (fun k => ?_) ?_
    · simp only [impl_isWalk.l0]
      rw [if_pos (by omega), if_pos (by omega), if_pos (by omega), if_pos (by omega), wrap_id (by omega), most0, implin, wrap_nat (by omega)]
      simp only [Option.bind_some]
    · by_cases e : (decide (0 ≤ rd rot i) && decide (rd rot i ≤ if ((rd_L1 g i).length : Int) - 1 < 0 then 0 else ((rd_L1 g i).length : Int) - 1)) = true
      · exact Ev.pos e ((ih (i + 1) (by omega) (by omega)).val (by rw [e]; simp))
      · exact Ev.neg e ((Ev.now _).val (by simp only [Bool.not_eq_true] at e; rw [e]; simp))
theorem waGood_l0 (g : List (List Int)) (h8 : g.length ≤ 8) (hr : ∀ row ∈ g, row.length ≤ 5) (rot : List Int) (a : Int) (hlen : rot.length = g.length) : ∀ (d i : Nat), g.length - i = d → i ≤ g.length → Ev (fun k => spec_waGood.l0 k g g.length i rot a) (rotB (rot.drop i) (g.drop i)) := by
  intro d
  induction d with
  | zero =>
    intro i hd hi
    refine Ev.const1 (fun k => ?_)
    simp only [spec_waGood.l0]
    rw [if_neg (by omega), List.drop_of_length_le (by omega)]
    rfl
  | succ d ih =>
    intro i hd hi
    have hlt : i < g.length := by omega
    have hlt2 : i < rot.length := by omega
    have hrow : (rd_L1 g i).length ≤ 5 := hr _ (by rw [rdL_at hlt]; exact List.getElem_mem _)
    rw [List.drop_eq_getElem_cons hlt, List.drop_eq_getElem_cons hlt2, ← rdL_at hlt, ← rd_at hlt2]
    simp only [rotB]
    refine Ev.step (f := fun k => if (decide (0 ≤ rd rot i) && decide (rd rot i ≤ if ((rd_L1 g i).length : Int) - 1 < 0 then 0 else ((rd_L1 g i).length : Int) - 1)) = true then spec_waGood.l0 k g g.length (i + 1 : Nat) rot a else some false) (fun k => ?_) ?_
    · simp only [spec_waGood.l0]
      rw [if_pos (by omega), if_pos (by omega), if_pos (by omega), if_pos (by omega), wrap_id (by omega), l1Most0, wrap_nat (by omega)]
      simp only [Option.bind_some, l1In]
    · by_cases e : (decide (0 ≤ rd rot i) && decide (rd rot i ≤ if ((rd_L1 g i).length : Int) - 1 < 0 then 0 else ((rd_L1 g i).length : Int) - 1)) = true
      · exact Ev.pos e ((ih (i + 1) (by omega) (by omega)).val (by rw [e]; simp))
      · exact Ev.neg e ((Ev.now _).val (by simp only [Bool.not_eq_true] at e; rw [e]; simp))
theorem isWalk (g : List (List Int)) (rot : List Int) (a : Int) : Ev (fun k => impl_isWalk.f k g rot a) (walkB g rot a) := by
  unfold impl_isWalk.f
  refine Ev.bind0 (has1 g a) ?_
  by_cases h : placeB g a = true
  · obtain ⟨hg, _, _⟩ := place_iff h
    obtain ⟨⟨h1, h8⟩, hrows⟩ := good_iff hg
    refine Ev.pos h (Ev.succ ?_)
    simp only [impl_isWalk.j0]
    by_cases e : rot.length = g.length
    · refine Ev.neg (by simp [e]) ?_
      exact (isWalk_l0 g h8 (fun row hr => (hrows row hr).1) rot e g.length 0 (by omega) (by omega)).val (by simp [walkB, h, e])
    · refine Ev.pos (by simp; omega) ((Ev.now _).val (by simp [walkB, e]))
  · refine Ev.neg h (Ev.succ ?_)
    simp only [impl_isWalk.j0]
    exact Ev.pos trivial ((Ev.now _).val (by simp only [Bool.not_eq_true] at h; simp [walkB, h]))
theorem waGood (g : List (List Int)) (hl : okSS g) (rot : List Int) (a : Int) : Ev (fun k => spec_waGood.f k g rot a) (walkB g rot a) := by
  unfold spec_waGood.f
  refine Ev.bind (grPlace g a hl) ?_
  by_cases h : placeB g a = true
  · obtain ⟨hg, _, _⟩ := place_iff h
    obtain ⟨⟨h1, h8⟩, hrows⟩ := good_iff hg
    refine Ev.pos h (Ev.succ ?_)
    simp only [spec_waGood.j0]
    by_cases e : rot.length = g.length
    · refine Ev.neg (by simp [e]) ?_
      exact (waGood_l0 g h8 (fun row hr => (hrows row hr).1) rot a e g.length 0 (by omega) (by omega)).val (by simp [walkB, h, e])
    · refine Ev.pos (by simp; omega) ((Ev.now _).val (by simp [walkB, e]))
  · refine Ev.neg h (Ev.succ ?_)
    simp only [spec_waGood.j0]
    exact Ev.pos trivial ((Ev.now _).val (by simp only [Bool.not_eq_true] at h; simp [walkB, h]))
/-! the laws' helpers -/
theorem szIntS (l : List Int) (hl : okIs l) (a : Int) (h0 : 0 ≤ a) (h1 : a ≤ 1048576) : ∃ r, laws_szIntS.f l a = some r ∧ r ≤ 1048576 ∧ (0 ≤ r → l.length ≤ 1048576) := by
  have := hl.1
  unfold laws_szIntS.f
  rw [wrap_id (by omega)]
  by_cases h : a - (l.length : Int) < 0
  · rw [if_pos h]; exact ⟨-1, rfl, by omega, fun h => by omega⟩
  · rw [if_neg h]; exact ⟨_, rfl, by omega, fun _ => by omega⟩
theorem szWalk (l : List Int) (x : Int) (hl : okIs l) (a : Int) (h0 : 0 ≤ a) (h1 : a ≤ 1048576) : ∃ r, laws_szWalk.f l x a = some r ∧ r ≤ 1048576 ∧ (0 ≤ r → l.length ≤ 1048576) := by
  obtain ⟨r, h2, h3, h4⟩ := szIntS l hl a h0 h1
  unfold laws_szWalk.f
  rw [h2]
  simp only [Option.bind_some]
  by_cases h : r < 0
  · rw [if_pos h]; exact ⟨-1, rfl, by omega, fun h => by omega⟩
  · rw [if_neg h]; exact ⟨r, rfl, h3, h4⟩
theorem toWalk (l : List Int) (x : Int) (hl : l.length ≤ 1048576) : Ev (fun k => laws_toWalk.f k l x) (l, x) := by
  unfold laws_toWalk.f
  exact Ev.bind (toIntS l (by omega)) (Ev.now _)
theorem eqWalk (l : List Int) (x : Int) (hl : l.length ≤ 1048576) : Ev (fun k => laws_eqWalk.f k l x l x) true := by
  unfold laws_eqWalk.f
  exact Ev.bind ((eqIntS l l (by omega)).val (decide_eq_true rfl)) (Ev.pos rfl (Ev.pos rfl (Ev.now _)))
end Go.Proofs.Ytnphoaecjeenjaa.M
namespace Go.Proofs.Ytnphoaecjeenjaa.M
open Go.RowKit Go.Proofs.Ytnphoaecjeenjaa.P Go.Proofs.Ytnphoaecjeenjaa.In Go.Proofs.YtnphoaecjeenjaaW.PrintWords Go.Proofs.YtnphoaecjeenjaaW.PrintLast
set_option linter.unusedVariables false
set_option linter.unusedSimpArgs false
theorem pigeon : ∀ (n : Nat) (l : List Int), l.Nodup → (∀ x ∈ l, 0 ≤ x ∧ x < (n : Int)) → l.length ≤ n
  | 0, l, _, h => by
    cases l with
    | nil => simp
    | cons x l => have := h x (by simp); omega
  | n + 1, l, hn, h => by
    have h1 := pigeon n (l.erase (n : Int)) (hn.erase _) (fun x hx => by
      have hx' := hn.mem_erase_iff.1 hx
      have h2 := h x hx'.2
      have h3 := hx'.1
      omega)
    by_cases hm : (n : Int) ∈ l
    · have := List.length_erase_of_mem hm; omega
    · rw [List.erase_of_not_mem hm] at h1; omega
def it (f : Int → Int) : Nat → Int → Int
  | 0, p => p
  | i + 1, p => it f i (f p)
theorem it_succ (f : Int → Int) (i : Nat) (p : Int) : it f (i + 1) p = f (it f i p) := by
  induction i generalizing p with
  | zero => rfl
  | succ i ih => rw [it, ih]; rfl
theorem it_add (f : Int → Int) (i j : Nat) (p : Int) : it f (i + j) p = it f j (it f i p) := by
  induction i generalizing p with
  | zero => simp [it]
  | succ i ih => rw [Nat.succ_add, it, ih]; rfl
def orb (f : Int → Int) (p : Int) (m : Nat) : List Int := (List.range m).map fun j => it f j p
theorem orb_len (f : Int → Int) (p : Int) (m : Nat) : (orb f p m).length = m := by simp [orb]
theorem orb_succ (f : Int → Int) (p : Int) (m : Nat) : orb f p (m + 1) = orb f p m ++ [it f m p] := by simp [orb, List.range_succ]
theorem orb_mem {f : Int → Int} {p x : Int} {m : Nat} : x ∈ orb f p m ↔ ∃ j, j < m ∧ it f j p = x := by simp [orb]
theorem orb_get {f : Int → Int} {p : Int} {m j : Nat} (h : j < m) : (orb f p m)[j]'(by rw [orb_len]; exact h) = it f j p := by simp [orb]
theorem orb_drop (f : Int → Int) (p : Int) (s per : Nat) : (orb f p (s + per)).drop s = orb f (it f s p) per := by
  apply List.ext_getElem
  · simp [orb]
  · intro i h1 h2
    simp only [orb, List.getElem_drop, List.getElem_map, List.getElem_range]
    rw [it_add]
theorem orb_inj {f : Int → Int} {p : Int} {m i j : Nat} (hn : (orb f p m).Nodup) (hi : i < m) (hj : j < m) (h : it f i p = it f j p) : i = j := by
  have h1 : (orb f p m)[i]'(by rw [orb_len]; exact hi) = (orb f p m)[j]'(by rw [orb_len]; exact hj) := by rw [orb_get hi, orb_get hj, h]
  exact (List.getElem_inj hn).1 h1
theorem nodup_snoc {l : List Int} {x : Int} (hn : l.Nodup) (hx : x ∉ l) : (l ++ [x]).Nodup := by
  rw [List.nodup_append]
  refine ⟨hn, by simp, ?_⟩
  intro a ha b hb
  simp at hb
  subst hb
  intro e; subst e; exact hx ha
/-- A way that comes again: p leads over s places into a circle of per places. -/
structure Rho (f : Int → Int) (n : Nat) (p : Int) (s per : Nat) : Prop where
  pos : 0 < per
  le : s + per ≤ n
  nodup : (orb f p (s + per)).Nodup
  back : it f per (it f s p) = it f s p
theorem Rho.all {f : Int → Int} {n : Nat} {p : Int} {s per : Nat} (h : Rho f n p s per) (j : Nat) : it f j p ∈ orb f p (s + per) := by
  induction j with
  | zero => exact orb_mem.2 ⟨0, by have := h.pos; omega, rfl⟩
  | succ j ih =>
    obtain ⟨m, hm, he⟩ := orb_mem.1 ih
    rw [it_succ, ← he, ← it_succ f m p]
    by_cases h2 : m + 1 < s + per
    · exact orb_mem.2 ⟨m + 1, h2, rfl⟩
    · have h3 : m + 1 = s + per := by omega
      rw [h3, it_add, h.back]
      exact orb_mem.2 ⟨s, by have := h.pos; omega, rfl⟩
theorem Rho.far {f : Int → Int} {n : Nat} {p : Int} {s per : Nat} (h : Rho f n p s per) (j : Nat) : it f (s + j + per) p = it f (s + j) p := by
  rw [show s + j + per = s + per + j by omega, it_add f (s + per), it_add f s per, h.back, ← it_add]
/-- From s steps on, the way is in the circle. -/
theorem Rho.ring {f : Int → Int} {n : Nat} {p : Int} {s per : Nat} (h : Rho f n p s per) (j : Nat) : ∃ a, a < per ∧ it f (s + j) p = it f a (it f s p) := by
  induction j with
  | zero => exact ⟨0, h.pos, rfl⟩
  | succ j ih =>
    obtain ⟨a, ha, he⟩ := ih
    rw [show s + (j + 1) = (s + j) + 1 by omega, it_succ, he, ← it_succ f a]
    by_cases h2 : a + 1 < per
    · exact ⟨a + 1, h2, rfl⟩
    · rw [show a + 1 = per by omega, h.back]
      exact ⟨0, h.pos, rfl⟩
/-- The circle, from another of its places on: its places are the same, and it comes again behind as many steps, not before. -/
theorem Rho.turn {f : Int → Int} {n : Nat} {p : Int} {s per : Nat} (h : Rho f n p s per) (j : Nat) :
    (∀ x, x ∈ orb f (it f (s + j) p) per ↔ x ∈ orb f (it f s p) per) ∧ it f per (it f (s + j) p) = it f (s + j) p ∧ ∀ i, 0 < i → i < per → it f i (it f (s + j) p) ≠ it f (s + j) p := by
  have hb : it f per (it f (s + j) p) = it f (s + j) p := by rw [← it_add]; exact h.far j
  obtain ⟨a, ha, hea⟩ := h.ring j
  have hc : ∀ m x, it f m (it f s p) = x → ∃ b, b < per ∧ it f b (it f s p) = x := by
    intro m x hx
    obtain ⟨b, hb, he⟩ := h.ring m
    exact ⟨b, hb, by rw [← he, it_add]; exact hx⟩
  refine ⟨fun x => ⟨fun hx => ?_, fun hx => ?_⟩, hb, fun i h0 hi he => ?_⟩
  · obtain ⟨m, hm, he⟩ := orb_mem.1 hx
    rw [hea, ← it_add] at he
    obtain ⟨b, hb, he2⟩ := hc _ _ he
    exact orb_mem.2 ⟨b, hb, he2⟩
  · obtain ⟨m, hm, he⟩ := orb_mem.1 hx
    by_cases h2 : a ≤ m
    · exact orb_mem.2 ⟨m - a, by omega, by rw [hea, ← it_add, show a + (m - a) = m by omega, he]⟩
    · refine orb_mem.2 ⟨per - a + m, by omega, ?_⟩
      rw [hea, ← it_add, show a + (per - a + m) = per + m by omega, it_add, h.back, he]
  · rw [hea, ← it_add] at he
    by_cases h2 : a + i < per
    · have := orb_inj (i := s + (a + i)) (j := s + a) h.nodup (by omega) (by omega) (by rw [it_add, it_add f s a]; exact he)
      omega
    · have e2 : it f (a + i) (it f s p) = it f (a + i - per) (it f s p) := by
        rw [show a + i = per + (a + i - per) by omega, it_add, h.back]; congr 1; omega
      rw [e2] at he
      have := orb_inj (i := s + (a + i - per)) (j := s + a) h.nodup (by omega) (by omega) (by rw [it_add, it_add f s a]; exact he)
      omega
/-- Behind fewer than s steps the way isn't in the circle. -/
theorem Rho.out {f : Int → Int} {n : Nat} {p : Int} {s per : Nat} (h : Rho f n p s per) {i : Nat} (hi : i < s) : it f i p ∉ orb f (it f s p) per := by
  intro hm
  obtain ⟨m, hm, he⟩ := orb_mem.1 hm
  rw [← it_add] at he
  have := orb_inj (i := s + m) (j := i) h.nodup (by omega) (by omega) he
  omega
end Go.Proofs.Ytnphoaecjeenjaa.M
namespace Go.Proofs.Ytnphoaecjeenjaa.M
open Go.RowKit Go.Proofs.Ytnphoaecjeenjaa.P Go.Proofs.Ytnphoaecjeenjaa.In Go.Proofs.YtnphoaecjeenjaaW.PrintWords Go.Proofs.YtnphoaecjeenjaaW.PrintLast
set_option linter.unusedVariables false
set_option linter.unusedSimpArgs false
def nx (g : List (List Int)) (rot : List Int) (p : Int) : Int := if ((rd_L1 g p).length : Int) = 0 then -1 else rd (rd_L1 g p) (rd rot p)
theorem rot_at : ∀ (rot : List Int) (g : List (List Int)), rotB rot g = true → ∀ (i : Nat) (h1 : i < rot.length) (h2 : i < g.length), 0 ≤ rot[i] ∧ (rot[i] < (g[i].length : Int) ∨ rot[i] = 0) := by
  intro rot
  induction rot with
  | nil => intro g h i h1; simp at h1
  | cons r rot ih =>
    intro g h i h1 h2
    cases g with
    | nil => simp at h2
    | cons row g =>
      simp only [rotB, Bool.and_eq_true, decide_eq_true_eq] at h
      cases i with
      | zero =>
        simp only [List.getElem_cons_zero]
        have := h.1; unfold mx at this; split at this <;> omega
      | succ i =>
        simp only [List.getElem_cons_succ]
        exact ih g h.2 i (by simpa using h1) (by simpa using h2)
theorem rot_rd {g : List (List Int)} {rot : List Int} (hr : rotB rot g = true) (hl : rot.length = g.length) {p : Int} (h0 : 0 ≤ p) (h1 : p < (g.length : Int)) : 0 ≤ rd rot p ∧ (((rd_L1 g p).length : Int) = 0 ∨ rd rot p < ((rd_L1 g p).length : Int)) := by
  have := rot_at rot g hr p.toNat (by omega) (by omega)
  rw [rd_get h0 (by omega), rdL_get h0 h1]
  omega
theorem next_eq {g : List (List Int)} {rot : List Int} (hr : rotB rot g = true) (hl : rot.length = g.length) {p : Int} (h0 : 0 ≤ p) (h1 : p < (g.length : Int)) : impl_Graph_next.f g rot p = some (nx g rot p) := by
  obtain ⟨a, b⟩ := rot_rd hr hl h0 h1
  unfold impl_Graph_next.f nx
  rw [if_pos h0, if_pos h1]
  by_cases h : ((rd_L1 g p).length : Int) = 0
  · rw [if_pos h, if_pos h]
  · rw [if_neg h, if_neg h, if_pos (by omega), if_pos a, if_pos (by omega)]
theorem trNext_eq {g : List (List Int)} {rot : List Int} (hr : rotB rot g = true) (hl : rot.length = g.length) {p : Int} (h0 : 0 ≤ p) (h1 : p < (g.length : Int)) : spec_trNext.f g rot p = some (nx g rot p) := by
  obtain ⟨a, b⟩ := rot_rd hr hl h0 h1
  unfold spec_trNext.f nx
  rw [if_pos h0, if_pos h1]
  by_cases h : ((rd_L1 g p).length : Int) = 0
  · rw [if_pos h, if_pos h]
  · rw [if_neg h, if_neg h, if_pos (by omega), if_pos a, if_pos (by omega)]
theorem nx_lt {g : List (List Int)} (hg : goodG g = true) {rot : List Int} (hr : rotB rot g = true) (hl : rot.length = g.length) {p : Int} (h0 : 0 ≤ p) (h1 : p < (g.length : Int)) : nx g rot p < (g.length : Int) ∧ -1 ≤ nx g rot p := by
  obtain ⟨a, b⟩ := rot_rd hr hl h0 h1
  have hrow := ((good_iff hg).2 (rd_L1 g p) (by rw [rdL_get h0 h1]; exact List.getElem_mem _)).2
  unfold nx
  split
  · omega
  · have := hrow (rd (rd_L1 g p) (rd rot p)) (by rw [rd_get a (by omega)]; exact List.getElem_mem _)
    omega

def find : List Int → Int → Nat → Int
  | [], _, _ => -1
  | y :: ys, x, i => if x = y then (i : Int) else find ys x (i + 1)
theorem find_no : ∀ (l : List Int) (x : Int) (i : Nat), x ∉ l → find l x i = -1 := by
  intro l
  induction l with
  | nil => intro x i _; rfl
  | cons y ys ih =>
    intro x i h
    simp only [List.mem_cons, not_or] at h
    simp only [find]; rw [if_neg h.1]; exact ih x (i + 1) h.2
theorem find_at : ∀ (l : List Int) (i s : Nat) (hs : s < l.length), l.Nodup → find l l[s] i = ((i + s : Nat) : Int) := by
  intro l
  induction l with
  | nil => intro i s hs; simp at hs
  | cons y ys ih =>
    intro i s hs hn
    rw [List.nodup_cons] at hn
    cases s with
    | zero => simp [find]
    | succ s =>
      simp only [List.getElem_cons_succ, find]
      have hs2 : s < ys.length := by simpa using hs
      rw [if_neg (fun (e : ys[s] = y) => hn.1 (by rw [← e]; exact List.getElem_mem _)), ih (i + 1) s hs2 hn.2]
      congr 1; omega
theorem find_in : ∀ (l : List Int) (x : Int) (i : Nat), x ∈ l → 0 ≤ find l x i := by
  intro l
  induction l with
  | nil => intro x i h; cases h
  | cons y ys ih =>
    intro x i h
    simp only [find]
    split
    · omega
    · rcases List.mem_cons.1 h with h2 | h2
      · contradiction
      · exact ih x (i + 1) h2
theorem index_l0 (l : List Int) (x : Int) (hl : l.length ≤ 4611686018427387904) : ∀ (d i : Nat), l.length - i = d → i ≤ l.length → Ev (fun k => slices_Index_int_int.l0 k l x l.length i) (find (l.drop i) x i) := by
  intro d
  induction d with
  | zero =>
    intro i hd hi
    refine Ev.succ ?_
    simp only [slices_Index_int_int.l0]
    rw [List.drop_of_length_le (by omega)]
    exact Ev.neg (by omega) (Ev.now _)
  | succ d ih =>
    intro i hd hi
    have hlt : i < l.length := by omega
    refine Ev.succ ?_
    simp only [slices_Index_int_int.l0]
    rw [List.drop_eq_getElem_cons hlt]
    simp only [find]
    refine Ev.pos (by omega) (Ev.pos (by omega) (Ev.pos (by omega) ?_))
    rw [rd_at hlt]
    by_cases h : x = l[i]
    · rw [if_pos h]; exact Ev.pos h (Ev.now _)
    · rw [if_neg h]
      refine Ev.neg h ?_
      rw [wrap_nat (by omega)]
      exact ih (i + 1) (by omega) (by omega)
theorem index_ev (l : List Int) (x : Int) (hl : l.length ≤ 4611686018427387904) : Ev (fun k => slices_Index_int_int.f k l x) (find l x 0) := by
  unfold slices_Index_int_int.f
  exact index_l0 l x hl l.length 0 (by omega) (by omega)
theorem contains_ev (l : List Int) (x : Int) (hl : l.length ≤ 4611686018427387904) : Ev (fun k => slices_Contains_int_int.f k l x) (decide (x ∈ l)) := by
  unfold slices_Contains_int_int.f
  refine Ev.bind (index_ev l x hl) ((Ev.now _).val ?_)
  by_cases h : x ∈ l
  · rw [decide_eq_true h, decide_eq_true (find_in l x 0 h)]
  · rw [decide_eq_false h, find_no l x 0 h]; rfl
theorem l1Has_l0 (l : List Int) (x : Int) (hl : l.length ≤ 4611686018427387904) : ∀ (d i : Nat), l.length - i = d → i ≤ l.length → Ev (fun k => spec_l1Has.l0 k x l l.length i) (decide (x ∈ l.drop i)) := by
  intro d
  induction d with
  | zero =>
    intro i hd hi
    refine Ev.succ ?_
    simp only [spec_l1Has.l0]
    rw [List.drop_of_length_le (by omega)]
    exact Ev.neg (by omega) ((Ev.now _).val (by simp))
  | succ d ih =>
    intro i hd hi
    have hlt : i < l.length := by omega
    refine Ev.succ ?_
    simp only [spec_l1Has.l0]
    rw [List.drop_eq_getElem_cons hlt]
    refine Ev.pos (by omega) (Ev.pos (by omega) (Ev.pos (by omega) ?_))
    rw [rd_at hlt]
    by_cases h : l[i] = x
    · exact Ev.pos h ((Ev.now _).val (by simp only [List.mem_cons, h, true_or, decide_true]))
    · refine Ev.neg h ?_
      rw [wrap_nat (by omega)]
      refine (ih (i + 1) (by omega) (by omega)).val ?_
      have : x ≠ l[i] := fun e => h e.symm
      simp only [List.mem_cons, this, false_or]
theorem l1Has_ev (l : List Int) (x : Int) (hl : l.length ≤ 4611686018427387904) : Ev (fun k => spec_l1Has.f k l x) (decide (x ∈ l)) := by
  unfold spec_l1Has.f
  exact l1Has_l0 l x hl l.length 0 (by omega) (by omega)

/-- Rotors of a graph. -/
structure Rot (g : List (List Int)) (rot : List Int) : Prop where
  good : goodG g = true
  rb : rotB rot g = true
  len : rot.length = g.length
theorem Rot.of_walk {g : List (List Int)} {rot : List Int} {a : Int} (h : walkB g rot a = true) : Rot g rot ∧ 0 ≤ a ∧ a < (g.length : Int) := by
  unfold walkB at h
  simp only [Bool.and_eq_true, decide_eq_true_eq] at h
  obtain ⟨hg, h0, h1⟩ := place_iff h.1
  exact ⟨⟨hg, h.2.2, h.2.1⟩, h0, h1⟩
theorem Rot.it_ok {g : List (List Int)} {rot : List Int} (h : Rot g rot) {p : Int} (h0 : 0 ≤ p) (h1 : p < (g.length : Int)) : ∀ i, (∀ j, j < i → 0 ≤ nx g rot (it (nx g rot) j p)) → 0 ≤ it (nx g rot) i p ∧ it (nx g rot) i p < (g.length : Int) := by
  intro i
  induction i with
  | zero => intro _; exact ⟨h0, h1⟩
  | succ i ih =>
    intro ha
    obtain ⟨a, b⟩ := ih (fun j hj => ha j (by omega))
    rw [it_succ]
    exact ⟨ha i (by omega), (nx_lt h.good h.rb h.len a b).1⟩
theorem Rot.orb_ok {g : List (List Int)} {rot : List Int} (h : Rot g rot) {p : Int} (h0 : 0 ≤ p) (h1 : p < (g.length : Int)) {i : Nat} (ha : ∀ j, j + 1 < i → 0 ≤ nx g rot (it (nx g rot) j p)) : ∀ x ∈ orb (nx g rot) p i, 0 ≤ x ∧ x < (g.length : Int) := by
  intro x hx
  obtain ⟨j, hj, rfl⟩ := orb_mem.1 hx
  exact h.it_ok h0 h1 j (fun m hm => ha m (by omega))
/-- The program's way: it comes to a place without exits, or it comes again. -/
theorem cycleFrom_l0 {g : List (List Int)} {rot : List Int} (h : Rot g rot) {p : Int} (h0 : 0 ≤ p) (h1 : p < (g.length : Int)) : ∀ (d i : Nat), g.length - i = d → i ≤ g.length → (orb (nx g rot) p i).Nodup → (∀ j, j < i → 0 ≤ nx g rot (it (nx g rot) j p)) →
    (∃ j, j < g.length ∧ nx g rot (it (nx g rot) j p) < 0 ∧ (∀ m, m < j → 0 ≤ nx g rot (it (nx g rot) m p)) ∧ Ev (fun k => impl_Graph_cycleFrom.l0 k rot (it (nx g rot) i p) (orb (nx g rot) p i) g) ([], false)) ∨
    (∃ s per, Rho (nx g rot) g.length p s per ∧ (∀ j, j < s + per → 0 ≤ nx g rot (it (nx g rot) j p)) ∧ Ev (fun k => impl_Graph_cycleFrom.l0 k rot (it (nx g rot) i p) (orb (nx g rot) p i) g) (orb (nx g rot) (it (nx g rot) s p) per, true)) := by
  have h8 := (good_iff h.good).1.2
  intro d
  induction d with
  | zero =>
    intro i hd hi hn ha
    have hi2 : i = g.length := by omega
    have hp := h.it_ok h0 h1 i ha
    have hm : it (nx g rot) i p ∈ orb (nx g rot) p i := by
      apply Classical.byContradiction
      intro hm
      have := pigeon g.length (orb (nx g rot) p i ++ [it (nx g rot) i p]) (nodup_snoc hn hm) (fun x hx => by
        rcases List.mem_append.1 hx with h2 | h2
        · exact h.orb_ok h0 h1 (fun j hj => ha j (by omega)) x h2
        · simp at h2; subst h2; exact hp)
      simp [orb_len] at this; omega
    right
    obtain ⟨s, hs, he⟩ := orb_mem.1 hm
    have hsp : s + (i - s) = i := by omega
    refine ⟨s, i - s, ⟨by omega, by omega, by rw [hsp]; exact hn, by rw [← it_add, hsp, he]⟩, by rw [hsp]; exact ha, ?_⟩
    refine Ev.succ ?_
    simp only [impl_Graph_cycleFrom.l0]
    refine Ev.bind (contains_ev _ _ (by rw [orb_len]; omega)) (Ev.pos (by simpa using hm) (Ev.bind (index_ev _ _ (by rw [orb_len]; omega)) ?_))
    have hfi : find (orb (nx g rot) p i) (it (nx g rot) i p) 0 = (s : Int) := by
      have := find_at (orb (nx g rot) p i) 0 s (by rw [orb_len]; exact hs) hn
      rw [orb_get hs, he] at this; simpa using this
    rw [hfi]
    refine Ev.pos (by omega) (Ev.pos (by rw [orb_len]; omega) ((Ev.now _).val ?_))
    have := orb_drop (nx g rot) p s (i - s)
    rw [hsp] at this
    rw [Int.toNat_natCast, this]
  | succ d ih =>
    intro i hd hi hn ha
    have hp := h.it_ok h0 h1 i ha
    by_cases hm : it (nx g rot) i p ∈ orb (nx g rot) p i
    · right
      obtain ⟨s, hs, he⟩ := orb_mem.1 hm
      have hsp : s + (i - s) = i := by omega
      refine ⟨s, i - s, ⟨by omega, by omega, by rw [hsp]; exact hn, by rw [← it_add, hsp, he]⟩, by rw [hsp]; exact ha, ?_⟩
      refine Ev.succ ?_
      simp only [impl_Graph_cycleFrom.l0]
      refine Ev.bind (contains_ev _ _ (by rw [orb_len]; omega)) (Ev.pos (by simpa using hm) (Ev.bind (index_ev _ _ (by rw [orb_len]; omega)) ?_))
      have hfi : find (orb (nx g rot) p i) (it (nx g rot) i p) 0 = (s : Int) := by
        have := find_at (orb (nx g rot) p i) 0 s (by rw [orb_len]; exact hs) hn
        rw [orb_get hs, he] at this; simpa using this
      rw [hfi]
      refine Ev.pos (by omega) (Ev.pos (by rw [orb_len]; omega) ((Ev.now _).val ?_))
      have := orb_drop (nx g rot) p s (i - s)
      rw [hsp] at this
      rw [Int.toNat_natCast, this]
    · by_cases hneg : nx g rot (it (nx g rot) i p) < 0
      · left
        refine ⟨i, by omega, hneg, ha, ?_⟩
        refine Ev.succ ?_
        simp only [impl_Graph_cycleFrom.l0]
        refine Ev.bind (contains_ev _ _ (by rw [orb_len]; omega)) (Ev.neg (by simpa using hm) (Ev.pos (by rw [orb_len]; omega) (Ev.bind0 (next_eq h.rb h.len hp.1 hp.2) (Ev.pos hneg (Ev.now _)))))
      · have hstep : ∀ r, Ev (fun k => impl_Graph_cycleFrom.l0 k rot (it (nx g rot) (i + 1) p) (orb (nx g rot) p (i + 1)) g) r → Ev (fun k => impl_Graph_cycleFrom.l0 k rot (it (nx g rot) i p) (orb (nx g rot) p i) g) r := by
          intro r hr
          rw [it_succ, orb_succ] at hr
          refine Ev.succ ?_
          simp only [impl_Graph_cycleFrom.l0]
          exact Ev.bind (contains_ev _ _ (by rw [orb_len]; omega)) (Ev.neg (by simpa using hm) (Ev.pos (by rw [orb_len]; omega) (Ev.bind0 (next_eq h.rb h.len hp.1 hp.2) (Ev.neg hneg hr))))
        have ha2 : ∀ j, j < i + 1 → 0 ≤ nx g rot (it (nx g rot) j p) := by
          intro j hj
          by_cases hj2 : j = i
          · subst hj2; omega
          · exact ha j (by omega)
        rcases ih (i + 1) (by omega) (by omega) (by rw [orb_succ]; exact nodup_snoc hn hm) ha2 with ⟨j, j1, j2, j3, j4⟩ | ⟨s, per, j1, j2, j3⟩
        · exact .inl ⟨j, j1, j2, j3, hstep _ j4⟩
        · exact .inr ⟨s, per, j1, j2, hstep _ j3⟩
theorem cycleFrom_ev {g : List (List Int)} {rot : List Int} (h : Rot g rot) {p : Int} (h0 : 0 ≤ p) (h1 : p < (g.length : Int)) :
    (∃ j, j < g.length ∧ nx g rot (it (nx g rot) j p) < 0 ∧ (∀ m, m < j → 0 ≤ nx g rot (it (nx g rot) m p)) ∧ Ev (fun k => impl_Graph_cycleFrom.f k g rot p) ([], false)) ∨
    (∃ s per, Rho (nx g rot) g.length p s per ∧ (∀ j, 0 ≤ nx g rot (it (nx g rot) j p)) ∧ Ev (fun k => impl_Graph_cycleFrom.f k g rot p) (orb (nx g rot) (it (nx g rot) s p) per, true)) := by
  rcases cycleFrom_l0 h h0 h1 g.length 0 (by omega) (by omega) (by simp [orb]) (fun j hj => by omega) with h2 | ⟨s, per, j1, j2, j3⟩
  · exact .inl h2
  · refine .inr ⟨s, per, j1, fun j => ?_, j3⟩
    obtain ⟨m, hm, he⟩ := orb_mem.1 (j1.all j)
    rw [← he]; exact j2 m hm
end Go.Proofs.Ytnphoaecjeenjaa.M
namespace Go.Proofs.Ytnphoaecjeenjaa.M
open Go.RowKit Go.Proofs.Ytnphoaecjeenjaa.P Go.Proofs.Ytnphoaecjeenjaa.In Go.Proofs.YtnphoaecjeenjaaW.PrintWords Go.Proofs.YtnphoaecjeenjaaW.PrintLast
set_option linter.unusedVariables false
set_option linter.unusedSimpArgs false
theorem trCycle_dead {g : List (List Int)} {rot : List Int} (h : Rot g rot) {p : Int} (h0 : 0 ≤ p) (h1 : p < (g.length : Int)) {j : Nat} (hj : j < g.length) (hneg : nx g rot (it (nx g rot) j p) < 0) (ha : ∀ m, m < j → 0 ≤ nx g rot (it (nx g rot) m p)) : ∀ (d i : Nat), j - i = d → i ≤ j → Ev (fun k => spec_trCycle.l0 k rot (it (nx g rot) i p) i g) ([], false) := by
  have h8 := (good_iff h.good).1.2
  intro d
  induction d with
  | zero =>
    intro i hd hi
    have hij : i = j := by omega
    have hp := h.it_ok h0 h1 i (fun m hm => ha m (by omega))
    refine Ev.succ ?_
    simp only [spec_trCycle.l0]
    subst hij
    exact Ev.pos (by omega) (Ev.bind0 (trNext_eq h.rb h.len hp.1 hp.2) (Ev.pos hneg (Ev.now _)))
  | succ d ih =>
    intro i hd hi
    have hp := h.it_ok h0 h1 i (fun m hm => ha m (by omega))
    have hpos := ha i (by omega)
    refine Ev.succ ?_
    simp only [spec_trCycle.l0]
    refine Ev.pos (by omega) (Ev.bind0 (trNext_eq h.rb h.len hp.1 hp.2) (Ev.neg (by omega) ?_))
    rw [wrap_nat (by omega), ← it_succ (nx g rot) i p]
    exact ih (i + 1) (by omega) (by omega)
theorem trCycle_l1 {g : List (List Int)} {rot : List Int} (h : Rot g rot) {c : Int} (h0 : 0 ≤ c) (h1 : c < (g.length : Int)) (ha : ∀ j, 0 ≤ nx g rot (it (nx g rot) j c)) {per : Nat} (hper : per ≤ g.length) (hb : it (nx g rot) per c = c) (hf : ∀ i, 0 < i → i < per → it (nx g rot) i c ≠ c) : ∀ (d i : Nat), per - i = d → 0 < i → i ≤ per → Ev (fun k => spec_trCycle.l1 k rot c (orb (nx g rot) c i) (it (nx g rot) i c) g) (orb (nx g rot) c per, true) := by
  have h8 := (good_iff h.good).1.2
  intro d
  induction d with
  | zero =>
    intro i hd hi hi2
    have : i = per := by omega
    subst this
    refine Ev.succ ?_
    simp only [spec_trCycle.l1]
    exact Ev.pos hb (Ev.now _)
  | succ d ih =>
    intro i hd hi hi2
    have hp := h.it_ok h0 h1 i (fun m _ => ha m)
    refine Ev.succ ?_
    simp only [spec_trCycle.l1]
    refine Ev.neg (hf i hi (by omega)) (Ev.pos (by rw [orb_len]; omega) (Ev.bind0 (trNext_eq h.rb h.len hp.1 hp.2) ?_))
    have := ih (i + 1) (by omega) (by omega) (by omega)
    rw [it_succ, orb_succ] at this
    exact this
theorem trCycle_live {g : List (List Int)} {rot : List Int} (h : Rot g rot) {p : Int} (h0 : 0 ≤ p) (h1 : p < (g.length : Int)) {s per : Nat} (hr : Rho (nx g rot) g.length p s per) (ha : ∀ j, 0 ≤ nx g rot (it (nx g rot) j p)) : ∀ (d i : Nat), g.length - i = d → i ≤ g.length → Ev (fun k => spec_trCycle.l0 k rot (it (nx g rot) i p) i g) (orb (nx g rot) (it (nx g rot) g.length p) per, true) := by
  have h8 := (good_iff h.good).1.2
  intro d
  induction d with
  | zero =>
    intro i hd hi
    have : i = g.length := by omega
    subst this
    have hp := h.it_ok h0 h1 g.length (fun m _ => ha m)
    refine Ev.succ ?_
    simp only [spec_trCycle.l0]
    refine Ev.neg (by omega) (Ev.bind0 (trNext_eq h.rb h.len hp.1 hp.2) ?_)
    have hle := hr.le
    have hpos := hr.pos
    obtain ⟨t1, t2, t3⟩ := hr.turn (g.length - s)
    rw [show s + (g.length - s) = g.length by omega] at t1 t2 t3
    have := trCycle_l1 h hp.1 hp.2 (fun j => by rw [← it_add]; exact ha _) (by omega) t2 t3 (per - 1) 1 (by omega) (by omega) (by omega)
    exact this
  | succ d ih =>
    intro i hd hi
    have hp := h.it_ok h0 h1 i (fun m _ => ha m)
    have hpos := ha i
    refine Ev.succ ?_
    simp only [spec_trCycle.l0]
    refine Ev.pos (by omega) (Ev.bind0 (trNext_eq h.rb h.len hp.1 hp.2) (Ev.neg (by omega) ?_))
    rw [wrap_nat (by omega), ← it_succ (nx g rot) i p]
    exact ih (i + 1) (by omega) (by omega)
/-- From a place on, the two come to the same circle, or both to an end. -/
theorem cycle_both {g : List (List Int)} {rot : List Int} (h : Rot g rot) {p : Int} (h0 : 0 ≤ p) (h1 : p < (g.length : Int)) :
    ∃ (L M : List Int) (b : Bool), Ev (fun k => impl_Graph_cycleFrom.f k g rot p) (L, b) ∧ Ev (fun k => spec_trCycle.f k g rot p) (M, b) ∧ (∀ x, x ∈ L ↔ x ∈ M) ∧ L.length ≤ g.length ∧ M.length ≤ g.length := by
  rcases cycleFrom_ev h h0 h1 with ⟨j, j1, j2, j3, j4⟩ | ⟨s, per, hr, ha, e⟩
  · exact ⟨[], [], false, j4, trCycle_dead h h0 h1 j1 j2 j3 j 0 (by omega) (by omega), fun _ => Iff.rfl, by simp, by simp⟩
  · have hle := hr.le
    refine ⟨_, _, true, e, trCycle_live h h0 h1 hr ha g.length 0 (by omega) (by omega), fun x => ?_, by rw [orb_len]; omega, by rw [orb_len]; omega⟩
    have := (hr.turn (g.length - s)).1 x
    rw [show s + (g.length - s) = g.length by omega] at this
    exact this.symm
theorem uni_l0 {g : List (List Int)} {rot : List Int} (h : Rot g rot) (a : Int) : ∀ (d i : Nat), g.length - i = d → i ≤ g.length → ∃ r : Bool, Ev (fun k => impl_Graph_isUnicycle.l0 k g.length i g rot a) r ∧ Ev (fun k => spec_trUni.l0 k g.length i g rot a) r ∧ (r = true → ∀ p : Nat, i ≤ p → p < g.length → ∃ M, Ev (fun k => spec_trCycle.f k g rot (p : Int)) (M, true) ∧ a ∈ M) := by
  have h8 := (good_iff h.good).1.2
  intro d
  induction d with
  | zero =>
    intro i hd hi
    refine ⟨true, ?_, ?_, fun _ p h2 h3 => by omega⟩
    · refine Ev.succ ?_
      simp only [impl_Graph_isUnicycle.l0]
      exact Ev.neg (by omega) (Ev.now _)
    · refine Ev.succ ?_
      simp only [spec_trUni.l0]
      exact Ev.neg (by omega) (Ev.now _)
  | succ d ih =>
    intro i hd hi
    obtain ⟨L, M, b, e1, e2, e3, e4, e5⟩ := cycle_both h (p := (i : Int)) (by omega) (by omega)
    obtain ⟨r, r1, r2, r3⟩ := ih (i + 1) (by omega) (by omega)
    by_cases hb : b = true
    · subst hb
      by_cases hm : a ∈ L
      · have hm2 := (e3 a).1 hm
        refine ⟨r, ?_, ?_, fun hr p h2 h3 => ?_⟩
        · refine Ev.succ ?_
          simp only [impl_Graph_isUnicycle.l0]
          refine Ev.pos (by omega) (Ev.bind e1 (Ev.pos rfl (Ev.bind (contains_ev L a (by omega)) (Ev.pos (by simpa using hm) ?_))))
          rw [wrap_nat (by omega)]; exact r1
        · refine Ev.succ ?_
          simp only [spec_trUni.l0]
          refine Ev.pos (by omega) (Ev.bind e2 (Ev.pos rfl (Ev.bind (l1Has_ev M a (by omega)) (Ev.pos (by simpa using hm2) ?_))))
          rw [wrap_nat (by omega)]; exact r2
        · by_cases hp : p = i
          · subst hp; exact ⟨M, e2, hm2⟩
          · exact r3 hr p (by omega) h3
      · have hm2 : a ∉ M := fun hh => hm ((e3 a).2 hh)
        refine ⟨false, ?_, ?_, fun hr => by cases hr⟩
        · refine Ev.succ ?_
          simp only [impl_Graph_isUnicycle.l0]
          exact Ev.pos (by omega) (Ev.bind e1 (Ev.pos rfl (Ev.bind (contains_ev L a (by omega)) (Ev.neg (by simpa using hm) (Ev.now _)))))
        · refine Ev.succ ?_
          simp only [spec_trUni.l0]
          exact Ev.pos (by omega) (Ev.bind e2 (Ev.pos rfl (Ev.bind (l1Has_ev M a (by omega)) (Ev.neg (by simpa using hm2) (Ev.now _)))))
    · refine ⟨false, ?_, ?_, fun hr => by cases hr⟩
      · refine Ev.succ ?_
        simp only [impl_Graph_isUnicycle.l0]
        exact Ev.pos (by omega) (Ev.bind e1 (Ev.neg hb (Ev.now _)))
      · refine Ev.succ ?_
        simp only [spec_trUni.l0]
        exact Ev.pos (by omega) (Ev.bind e2 (Ev.neg hb (Ev.now _)))
theorem uni_ev {g : List (List Int)} {rot : List Int} (h : Rot g rot) {a : Int} (h0 : 0 ≤ a) (h1 : a < (g.length : Int)) : ∃ r : Bool, Ev (fun k => impl_Graph_isUnicycle.f k g rot a) r ∧ Ev (fun k => spec_trUni.f k g rot a) r ∧ (r = true → ∃ M, Ev (fun k => spec_trCycle.f k g rot a) (M, true) ∧ a ∈ M) := by
  obtain ⟨r, r1, r2, r3⟩ := uni_l0 h a g.length 0 (by omega) (by omega)
  have h8 := (good_iff h.good).1.2
  obtain ⟨L, M, b, e1, e2, e3, e4, e5⟩ := cycle_both h h0 h1
  have own : r = true → b = true ∧ a ∈ M := by
    intro hr
    obtain ⟨M', hM', ha⟩ := r3 hr a.toNat (by omega) (by omega)
    rw [show ((a.toNat : Nat) : Int) = a by omega] at hM'
    have := Ev.uniq hM' e2
    injection this with t1 t2
    subst t1; exact ⟨t2.symm, ha⟩
  refine ⟨r, r1, ?_, fun hr => ⟨M, by rw [← (own hr).1]; exact e2, (own hr).2⟩⟩
  unfold spec_trUni.f
  refine Ev.bind e2 ?_
  by_cases hb : b = true
  · refine Ev.pos hb (Ev.bind (l1Has_ev M a (by omega)) ?_)
    by_cases hm : a ∈ M
    · refine Ev.succ ?_
      simp only [spec_trUni.j0]
      exact Ev.neg (by simpa using hm) r2
    · refine Ev.succ ?_
      simp only [spec_trUni.j0]
      refine Ev.pos (by simpa using hm) ((Ev.now _).val ?_)
      cases r with
      | false => rfl
      | true => exact absurd (own rfl).2 hm
  · refine Ev.neg hb ?_
    refine Ev.succ ?_
    simp only [spec_trUni.j0]
    refine Ev.pos (by simp) ((Ev.now _).val ?_)
    cases r with
    | false => rfl
    | true => exact absurd (own rfl).1 hb
end Go.Proofs.Ytnphoaecjeenjaa.M
namespace Go.Proofs.Ytnphoaecjeenjaa.Pure
open Go.RowKit Go.Proofs.Ytnphoaecjeenjaa.P Go.Proofs.Ytnphoaecjeenjaa.In Go.Proofs.Ytnphoaecjeenjaa.M Go.Proofs.YtnphoaecjeenjaaW.PrintWords Go.Proofs.YtnphoaecjeenjaaW.PrintLast
set_option linter.unusedVariables false
set_option linter.unusedSimpArgs false
theorem FnExactIsUnicycle (l : List (List Int)) (hl : okSS l) (ro : List Int) (x : Int) (hro : okIs ro) (hx : okI x) : ∃ k, laws_FnExactIsUnicycle.f k l ro x = some true := by
  refine Ev.rounds (g := fun k => laws_FnExactIsUnicycle.f k l ro x) ?_
  unfold laws_FnExactIsUnicycle.f
  obtain ⟨r, hr, hr1, hs⟩ := szGraph l hl
  refine Ev.bind hr ?_
  by_cases h : r < 0
  · exact Ev.pos h (Ev.now _)
  · have sm := hs (by omega)
    obtain ⟨r2, h2, _, hs2⟩ := szWalk ro x hro r (by omega) hr1
    refine Ev.neg h (Ev.bind0 h2 ?_)
    by_cases h' : r2 < 0
    · exact Ev.pos h' (Ev.now _)
    · have sm2 := hs2 (by omega)
      obtain ⟨v, hS, hI⟩ : ∃ v : Bool × Bool, Ev (fun k => spec_IsUnicycle.f k l ro x) v ∧ Ev (fun k => impl_IsUnicycle.f k l ro x) v := by
        by_cases hg : walkB l ro x = true
        · obtain ⟨hrot, h0, h1⟩ := Rot.of_walk hg
          obtain ⟨u, u1, u2, _⟩ := uni_ev hrot h0 h1
          refine ⟨(u, true), ?_, ?_⟩
          · unfold spec_IsUnicycle.f
            exact Ev.bind (waGood l hl ro x) (Ev.pos hg (Ev.bind u2 (Ev.now _)))
          · unfold impl_IsUnicycle.f
            exact Ev.bind (isWalk l ro x) (Ev.pos hg (Ev.bind u1 (Ev.now _)))
        · refine ⟨(false, false), ?_, ?_⟩
          · unfold spec_IsUnicycle.f
            exact Ev.bind (waGood l hl ro x) (Ev.neg hg (Ev.now _))
          · unfold impl_IsUnicycle.f
            exact Ev.bind (isWalk l ro x) (Ev.neg hg (Ev.now _))
      refine Ev.neg h' (Ev.bind (toGraph l sm) (Ev.bind (toWalk ro x sm2) (Ev.bind hS (Ev.bind (toGraph l sm) (Ev.bind (toWalk ro x sm2) (Ev.bind hI (Ev.neg (by simp) ?_)))))))
      refine Ev.succ ?_
      simp only [laws_FnExactIsUnicycle.j0]
      exact Ev.neg (by simp) (Ev.bind (toGraph l sm) (Ev.bind (small_eq l sm) (Ev.pos rfl (Ev.bind (toWalk ro x sm2) (Ev.bind (eqWalk ro x sm2) (Ev.pos rfl (Ev.now _)))))))
end Go.Proofs.Ytnphoaecjeenjaa.Pure
namespace Go.Proofs.Ytnphoaecjeenjaa.fnExactIsUnicycle
open Go.ChangeShapes Go.WideShapes Go.ChangeAt Go.RowKit
open Go.ChangeMaps (open_string shut_string)
open Go.Proofs.Ytnphoaecjeenjaa.In Go.Proofs.Ytnphoaecjeenjaa.P
set_option linter.unusedVariables false
theorem own : ownKnob Try.prog.godebug = none := by kernel_rfl
theorem laidOut : laidOutB Try.prog = true := by kernel_rfl
set_option maxRecDepth 100000 in
theorem lifted (os : Os) (started : os.Started) (H : Type) (enc : TypeId × Value → H) :
    ReturnsInHanded {} Try.checked os 12 .any (Rows.fnExactIsUnicycleSpec.pre6 enc Try.prog Try.f12 Rows.fnExactIsUnicycleRow.domain false) (Rows.fnExactIsUnicycleSpec.post enc Try.prog Try.f12 false true false false) := by
  refine returnsInHanded_of_change_sized (C := Try.checked) own started (by kernel_rfl) Try.func12
    (ChangeSpec.witness6 (enc := enc) (C := Try.checked) false ⟨#[], #[.agg #[.slice none 0 0], .agg #[.slice none 0 0, .int .i64 0]], []⟩ 8 (by kernel_rfl) (by kernel_rfl) (by kernel_rfl) (by kernel_rfl)) ?_
  intro W base args ds gs before hval0 hW hcnd hsz0 _
  have hsz : (DataW.weightsEach Try.prog (Try.f12.params.toList ++ Rows.fnExactIsUnicycleSpec.plain.varTypes Try.prog) (ds ++ gs)).all (· ≤ reachBytes) = true := hsz0
  have hval : ∀ (j : Nat) t v, Try.f12.params[j]? = some t → args[j]? = some v → Value.okWide Try.prog W .any base t v := hval0
  have hW' := hW
  obtain ⟨p, q, hA0, hV, rfl, hfz, hnd⟩ := hW
  have hA : DataW.TrodAll enc Try.prog W 0 (fun _ => true) true Try.f12.params.toList args.toList ds p := hA0
  rw [Try.params12] at hA hval hsz
  obtain ⟨v0, vs0, d0, ds0, p0, q0, hargs, rfl, rfl, h0, r0⟩ := trodAll_cons hA
  obtain ⟨v1, vs1, d1, ds1, p1, q1, rfl, rfl, rfl, h1, r1⟩ := trodAll_cons r0
  obtain ⟨rfl, rfl, rfl⟩ := trodAll_nil r1
  obtain rfl : args = #[v0, v1] := by cases args; simp_all
  obtain ⟨rfl, rfl⟩ := trodVars_none hV
  have k0 := h0
  have lt0 : ∀ x ∈ p0, x.block < W.heap.size := by obtain ⟨m, hm⟩ := k0; exact DataW.trod_lt m _ _ _ hm
  obtain ⟨A0, l0, cap0, rfl, hl0, hc0, hw0⟩ := in_graph (q := 3) Try.underlying24 (by kernel_rfl) (by kernel_rfl) rfl Try.underlying22 Try.underlying35 Try.underlying3 (by kernel_rfl) (by kernel_rfl) (hval 0 24 v0 rfl rfl) h0
  have k1 := h1
  have lt1 : ∀ x ∈ p1, x.block < W.heap.size := by obtain ⟨m, hm⟩ := k1; exact DataW.trod_lt m _ _ _ hm
  obtain ⟨A1, l1, cap1, x1, rfl, hl1, hc1, hw1, hx1⟩ := in_walk (q := 3) Try.underlying52 (by kernel_rfl) (by kernel_rfl) rfl rfl Try.underlying35 Try.underlying3 Try.underlying3 (by kernel_rfl) (hval 1 52 v1 rfl rfl) h1
  clear hA0 hval0 hsz0 hsz
  obtain ⟨k, h⟩ := Pure.FnExactIsUnicycle l0 (okSS_wf hc0 hw0) l1 x1 (okIs_wf hw1) (okI_wf hx1)
  refine (laws_FnExactIsUnicycle.calls k _ _ l0 _ _ l1 x1 true W hc0 hl0 hc1 hl1 h).mono fun e W' ⟨he, bel0⟩ => ?_
  have bel : Below W.heap.size W W' := bel0
  subst he
  exact ⟨_, rfl, _, _, _, [], _, [], hW', trodAll_mk1 (shut_bool Try.underlying4 _), (trodAll_cons_mk (Below.trod laidOut (by kernel_rfl) (of_decide_eq_true (by kernel_rfl)) k0 bel lt0) (trodAll_cons_mk (Below.trod laidOut (by kernel_rfl) (of_decide_eq_true (by kernel_rfl)) k1 bel lt1) trodAll_mk0)), rfl, bel.frame _, fun h => by cases h⟩
theorem over : Rows.fnExactIsUnicycleRow.holds Try.pinned (OpenSpec.ofChange Rows.fnExactIsUnicycleSpec) :=
  OpenClaim.holds_of_wide 12 Try.f12 rfl rfl rfl rfl rfl rfl rfl ⟨rfl, rfl, rfl, rfl, rfl⟩ rfl rfl rfl rfl rfl (by kernel_rfl) Try.func12 (by kernel_rfl)
    (of_decide_eq_true (by kernel_rfl)) (by unfold Func.isWrapper; first | (rw [if_pos (by decide +kernel)]; kernel_rfl) | (rw [if_neg (by decide +kernel)]; exact ⟨rfl, rfl⟩))
    (fun os started H enc _ => lifted os started H enc)
theorem proved : Rows.FnExactIsUnicycleSaid := over
end Go.Proofs.Ytnphoaecjeenjaa.fnExactIsUnicycle
namespace Go.Proofs.Ytnphoaecjeenjaa
/-- The law, under a short name, for the claim. -/
theorem fnExactIsUnicycle_holds : Rows.FnExactIsUnicycleSaid := fnExactIsUnicycle.proved
#print axioms fnExactIsUnicycle_holds
end Go.Proofs.Ytnphoaecjeenjaa
