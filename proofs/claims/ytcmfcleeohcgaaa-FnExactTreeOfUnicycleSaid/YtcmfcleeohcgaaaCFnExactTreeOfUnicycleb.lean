/- The law FnExactTreeOfUnicycle holds for every input: the program returns what the reference returns (or what the law says), for all arguments. -/
import Derived.Test.YtcmfcleeohcgaaaPimplTreeOfUnicycle
import Derived.Test.YtcmfcleeohcgaaaPlawseqGraph
import Derived.Test.YtcmfcleeohcgaaaPlawseqIntS
import Derived.Test.YtcmfcleeohcgaaaPlawseqWalk
import Derived.Test.YtcmfcleeohcgaaaPlawsheldIntS
import Derived.Test.YtcmfcleeohcgaaaPlawsmarkGraph
import Derived.Test.YtcmfcleeohcgaaaPlawsmarkIntS
import Derived.Test.YtcmfcleeohcgaaaPlawsmarkWalk
import Derived.Test.YtcmfcleeohcgaaaPlawsszGraph
import Derived.Test.YtcmfcleeohcgaaaPlawsszWalk
import Derived.Test.YtcmfcleeohcgaaaPlawstoGraph
import Derived.Test.YtcmfcleeohcgaaaPlawstoWalk
import Derived.Test.YtcmfcleeohcgaaaCFnExactTreeOfUnicyclea
import Derived.Test.YtcmfcleeohcgaaaPspecgrGood
import Derived.Test.YtcmfcleeohcgaaaPspecl1All
import Derived.Test.YtcmfcleeohcgaaaPspecl1In
import Derived.Test.YtcmfcleeohcgaaaPimplisGraph
import Derived.Test.YtcmfcleeohcgaaaPimplhas
import Derived.Test.YtcmfcleeohcgaaaPimplisWalk
import Derived.Test.YtcmfcleeohcgaaaPlawsszIntS
import Derived.Test.YtcmfcleeohcgaaaPimplGraphnext
import Derived.Test.YtcmfcleeohcgaaaPimplGraphcycleFrom
import Derived.Test.YtcmfcleeohcgaaaPslicesContainsintint
import Derived.Test.YtcmfcleeohcgaaaPslicesIndexintint
import Derived.Test.YtcmfcleeohcgaaaPimplGraphisUnicycle
import Derived.Test.YtcmfcleeohcgaaaPlawsmarkIntSS
import Derived.Test.YtcmfcleeohcgaaaRows
import Derived.WalkKit
import Derived.ProofKit
import Derived.OpenShut
import Derived.ShutString
import Derived.ChangeOld
import Derived.Below
import Derived.SizedLaws
import Derived.Deep.Matrix
import Derived.Lib.SmallJoins
namespace Go.Proofs.Ytcmfcleeohcgaaa.P
open Go.RowKit Go.Proofs.YtcmfcleeohcgaaaW.PrintWords Go.Proofs.YtcmfcleeohcgaaaW.PrintLast Go.Proofs.YtcmfcleeohcgaaaW.PrintMore Go.Proofs.Ytcmfcleeohcgaaa.M
attribute [local go_sem] max2_int min2_int max_two min_two max_three min_three max_four min_four   -- for this text's walks alone
set_option linter.unusedVariables false
set_option linter.unusedSimpArgs false

/-- What the calls on the straight way answer. -/
def laws_FnExactTreeOfUnicycle.Good (l0_0 : List (List Int)) (l1_0 : List Int) (a1_1 : Int) : Prop :=
  ∃ x6 : Int, Ev (fun k => laws_szGraph.f k l0_0 1048576) x6 ∧ (0 ≤ x6 → ∃ x9 : Int, laws_szWalk.f l1_0 a1_1 x6 = some x9 ∧ (0 ≤ x9 → Ev (fun k => laws_toGraph.f k l0_0) l0_0 ∧ Ev (fun k => laws_toWalk.f k l1_0 a1_1) (l1_0, a1_1) ∧ ∃ x29 : List Int, ∃ x30 : Bool, Ev (fun k => spec_TreeOfUnicycle.f k l0_0 l1_0 a1_1) (x29, x30) ∧ Ev (fun k => impl_TreeOfUnicycle.f k l0_0 l1_0 a1_1) (x29, x30) ∧ Ev (fun k => laws_eqIntS.f k x29 x29) true ∧ Ev (fun k => laws_eqGraph.f k l0_0 l0_0) true ∧ Ev (fun k => laws_eqWalk.f k l1_0 a1_1 l1_0 a1_1) true ∧ ∃ x87 : Int, ∃ x88 : List (List Int), Ev (fun k => laws_markGraph.f k l0_0 1) (x87, x88) ∧ 0 ≤ x87 ∧ ∃ x92 : Int, ∃ x93 : List Int, Ev (fun k => laws_markWalk.f k l1_0 a1_1 x87) (x92, x93) ∧ 0 ≤ x92 ∧ ∃ x98 : Int, ∃ x99 : List Int, Ev (fun k => laws_markIntS.f k x29 1) (x98, x99) ∧ 0 ≤ x98 ∧ Ev (fun k => laws_heldIntS.f k x99 1) x98 ∧ True))
open Classical in
noncomputable def laws_FnExactTreeOfUnicycle.f (l0_0 : List (List Int)) (l1_0 : List Int) (a1_1 : Int) : Option Bool := if laws_FnExactTreeOfUnicycle.Good l0_0 l1_0 a1_1 then some true else none
set_option maxHeartbeats 16000000 in
set_option maxRecDepth 100000 in
theorem laws_FnExactTreeOfUnicycle.calls (A0_0 : Option Addr) (c0_0 : Nat) (l0_0 : List (List Int)) (A1_0 : Option Addr) (c1_0 : Nat) (l1_0 : List Int) (a1_1 : Int) (r : Bool) (w : World) (hr0_0 : Kd.C (Kd.slice 3 (Kd.int .i64)) w A0_0 l0_0.length l0_0) (hc0_0 : l0_0.length ≤ c0_0) (hr1_0 : Kd.C (Kd.int .i64) w A1_0 l1_0.length l1_0) (hc1_0 : l1_0.length ≤ c1_0) (h : laws_FnExactTreeOfUnicycle.f l0_0 l1_0 a1_1 = some r) :
    Calls Try.prog 6 #[.agg #[.slice A0_0 l0_0.length c0_0], .agg #[.slice A1_0 l1_0.length c1_0, .int .i64 a1_1]] w fun e w' => e = .returned (.bool r) ∧ Below w.heap.size w w' := by
  unfold laws_FnExactTreeOfUnicycle.f at h
  by_cases hg : laws_FnExactTreeOfUnicycle.Good l0_0 l1_0 a1_1
  case neg => rw [if_neg hg] at h; cases h
  rw [if_pos hg] at h
  obtain rfl := Option.some.inj h
  clear h
  unfold laws_FnExactTreeOfUnicycle.Good at hg
  have hu24 := Try.underlying24
  have hu30 := Try.underlying30
  have hu34 := Try.underlying34
  have hu44 := Try.underlying44
  obtain ⟨s0, hs0⟩ : ∃ s0, s0 = w.heap.size := ⟨_, rfl⟩
  have HS := Aside0.mk (Nat.le_of_eq hs0)
  have CH := Aside0.mk True.intro
  have HB := Aside0.mk (Below.refl w.heap.size w)
  have FA0_0 := Aside0.mk (show Kd.F (Kd.slice 3 (Kd.int .i64)) w (fun k_ => k_ < s0) A0_0 l0_0.length l0_0 by rw [hs0]; exact Kd.C_F (Kd.heap_slice 3 (Kd.heap_int .i64)) hr0_0)
  have HC0_0 := Aside0.mk hc0_0
  clear hr0_0 hc0_0
  have FA1_0 := Aside0.mk (show Kd.F (Kd.int .i64) w (fun k_ => k_ < s0) A1_0 l1_0.length l1_0 by rw [hs0]; exact Kd.C_F (Kd.heap_int .i64) hr1_0)
  have HC1_0 := Aside0.mk hc1_0
  clear hr1_0 hc1_0
  clear hs0
  obtain ⟨x6, hg⟩ := hg
  obtain ⟨E_, hg⟩ := hg
  obtain ⟨KE7, E_⟩ := E_
  have E7 := Aside0.mk (E_ KE7 (Nat.le_refl _))
  clear E_
  by_cases hz : x6 < 0
  · have hzb : decide (x6 < 0) = true := decide_eq_true hz
    clear hg hz
    go_enter Try.func6, Try.ntmps6
    go_wp2_with (first | ((with_reducible refine gate_dst (N := 2) rfl ?_); refine box_event ?hg (N := 2) ?hd (cs := #[.slice A0_0 l0_0.length c0_0]) (t := 30) ?hr ?_; (case hd => rfl); (case hg => rfl); (case hr => first | (go_simp; done) | (go_simp; rfl)); intro gb1 hg_ w2 hbox_ hb_; obtain ⟨hk_, hs1_, hs2_, hw0_⟩ := ev_kept (S := (fun _ => False)) HS.out HB.out hb_ (by repeat (first | (with_reducible first | exact Kept.refl _ _ | apply Kept.alloc | apply Kept.drewN | apply Kept.drew) | exact Kept.refl _ _)); have hw_ : w.heap.size ≤ gb1 := (by rw [hg_]; exact hw0_); have hB_ := below_step (by repeat (first | (with_reducible first | exact HB.out | apply below_alloc | apply pw_below_drewN | apply below_drew1) | exact HB.out)) hb_; have n0_ := Aside0.mk (Kd.F_kept FA0_0.out hk_ (fun _ _ hs_ => hs_.elim)); have n1_ := Aside0.mk (Kd.F_kept FA1_0.out hk_ (fun _ _ hs_ => hs_.elim)); have hS_ : s0 ≤ gb1 := (by rw [hg_]; exact hs1_); have nb_ := Aside0.mk hbox_; have ns_ := Aside0.mk (box_in hbox_); have nc_ := Aside0.mk (And.intro hS_ CH.out); have ng_ := Aside0.mk hw_; have nB_ := Aside0.mk hB_; clear HB HS CH FA0_0 FA1_0; have FA0_0 := n0_; have FA1_0 := n1_; have HB := nB_; have HS := ns_; have CH := nc_; have BKgb1 := nb_; have GEgb1 := ng_; clear nB_ ns_ nc_ nb_ ng_ n0_ n1_; clear hk_ hs1_ hs2_ hw_ hw0_ hB_ hS_ hb_ hbox_ hg_; have hczgb1_0 : w2.cell? ⟨gb1, 0, none⟩ = some (.slice A0_0 l0_0.length c0_0) := (blk_cell BKgb1.out 0).trans rfl; have hfzgb1_0 := blk_frozen BKgb1.out 0) | ((with_reducible refine gate_dst (N := 3) rfl ?_); refine box_event ?hg (N := 3) ?hd (cs := #[.slice A1_0 l1_0.length c1_0, .int .i64 a1_1]) (t := 44) ?hr ?_; (case hd => rfl); (case hg => rfl); (case hr => first | (go_simp; done) | (go_simp; rfl)); intro gb3 hg_ w4 hbox_ hb_; (try clear hczgb1_0); (try clear hfzgb1_0); obtain ⟨hk_, hs1_, hs2_, hw0_⟩ := ev_kept (S := (fun _ => False)) HS.out HB.out hb_ (by repeat (first | (with_reducible first | exact Kept.refl _ _ | apply Kept.alloc | apply Kept.drewN | apply Kept.drew) | exact Kept.refl _ _)); have hw_ : w.heap.size ≤ gb3 := (by rw [hg_]; exact hw0_); have hB_ := below_step (by repeat (first | (with_reducible first | exact HB.out | apply below_alloc | apply pw_below_drewN | apply below_drew1 | refine below_set ?_ GEgb1.out) | exact HB.out)) hb_; have n0_ := Aside0.mk (Kd.F_kept FA0_0.out hk_ (fun _ _ hs_ => hs_.elim)); have n1_ := Aside0.mk (Kd.F_kept FA1_0.out hk_ (fun _ _ hs_ => hs_.elim)); have n2_ := Aside0.mk (blk_below (g := gb1) (o := .cells #[.slice A0_0 l0_0.length c0_0] 30 (0, 0)) (by (with_reducible repeat (first | refine blk_drewN ?_ _ | refine blk_drew ?_ | refine blk_alloc ?_ _)); exact BKgb1.out) hb_); have hS_ : (gb1 + 1) ≤ gb3 := (by rw [hg_]; exact hs1_); have nb_ := Aside0.mk hbox_; have ns_ := Aside0.mk (box_in hbox_); have nc_ := Aside0.mk (And.intro hS_ CH.out); have ng_ := Aside0.mk hw_; have nB_ := Aside0.mk hB_; clear HB HS CH FA0_0 FA1_0 BKgb1; have FA0_0 := n0_; have FA1_0 := n1_; have BKgb1 := n2_; have HB := nB_; have HS := ns_; have CH := nc_; have BKgb3 := nb_; have GEgb3 := ng_; clear nB_ ns_ nc_ nb_ ng_ n0_ n1_ n2_; clear hk_ hs1_ hs2_ hw_ hw0_ hB_ hS_ hb_ hbox_ hg_; have hczgb1_0 : w4.cell? ⟨gb1, 0, none⟩ = some (.slice A0_0 l0_0.length c0_0) := (blk_cell BKgb1.out 0).trans rfl; have hfzgb1_0 := blk_frozen BKgb1.out 0; have hczgb3_0 : w4.cell? ⟨gb3, 0, none⟩ = some (.slice A1_0 l1_0.length c1_0) := (blk_cell BKgb3.out 0).trans rfl; have hczgb3_1 : w4.cell? ⟨gb3, 1, none⟩ = some (.int .i64 a1_1) := (blk_cell BKgb3.out 1).trans rfl; have hfzgb3_0 := blk_frozen BKgb3.out 0; have hfzgb3_1 := blk_frozen BKgb3.out 1; have hnbgb1gb3 : gb1 ≠ gb3 := (by have := CH.out; omega); have hnbgb3gb1 : gb3 ≠ gb1 := (by have := CH.out; omega)) | ((with_reducible refine gate_callee (f := 14) rfl ?_); refine goesL_ (some 19) rfl rfl Try.func14 (by kernel_rfl) rfl #[.agg #[.slice A0_0 l0_0.length c0_0], .int .i64 1048576] rfl (by (try simp only [List.map_toArray, List.map_cons, List.map_nil]); first | done | rfl | (simp only [List.length_drop, List.length_take]; rfl)) ?_; (with_reducible refine (laws_szGraph.calls KE7 _ _ l0_0 1048576 x6 _ ?sidehr0_0 ?sidehc0_0 E7.out).mono ?_); (case sidehr0_0 => exact F_at (S := (fun _ => False)) FA0_0.out (by repeat (first | (with_reducible first | exact Kept.refl _ _ | apply Kept.alloc | apply Kept.drewN | apply Kept.drew) | exact Kept.refl _ _)) (fun _ _ hs_ => hs_.elim)); (case sidehc0_0 => exact HC0_0.out); rintro e w5 ⟨rfl, hb_⟩; refine ⟨_, rfl, ?_⟩; (try clear hczgb1_0); (try clear hfzgb1_0); (try clear hczgb3_0); (try clear hfzgb3_0); (try clear hczgb3_1); (try clear hfzgb3_1); obtain ⟨hk_, hs1_, hs2_, hw_⟩ := ev_kept (S := (fun _ => False)) HS.out HB.out hb_ (by repeat (first | (with_reducible first | exact Kept.refl _ _ | apply Kept.alloc | apply Kept.drewN | apply Kept.drew) | exact Kept.refl _ _)); have hB_ := below_step (by repeat (first | (with_reducible first | exact HB.out | apply below_alloc | apply pw_below_drewN | apply below_drew1 | refine below_set ?_ GEgb1.out | refine below_set ?_ GEgb3.out) | exact HB.out)) hb_; have n0_ := Aside0.mk (Kd.F_kept FA0_0.out hk_ (fun _ _ hs_ => hs_.elim)); have n1_ := Aside0.mk (Kd.F_kept FA1_0.out hk_ (fun _ _ hs_ => hs_.elim)); have n2_ := Aside0.mk (blk_below (g := gb1) (o := .cells #[.slice A0_0 l0_0.length c0_0] 30 (0, 0)) (by (with_reducible repeat (first | refine blk_drewN ?_ _ | refine blk_drew ?_ | refine blk_alloc ?_ _)); exact BKgb1.out) hb_); have n3_ := Aside0.mk (blk_below (g := gb3) (o := .cells #[.slice A1_0 l1_0.length c1_0, .int .i64 a1_1] 44 (0, 0)) (by (with_reducible repeat (first | refine blk_drewN ?_ _ | refine blk_drew ?_ | refine blk_alloc ?_ _)); exact BKgb3.out) hb_); have ns_ := Aside0.mk (Nat.le_trans (Nat.le_trans hs1_ hs2_) (Nat.le_refl _)); have nB_ := Aside0.mk hB_; clear HB HS FA0_0 FA1_0 BKgb1 BKgb3; have FA0_0 := n0_; have FA1_0 := n1_; have BKgb1 := n2_; have BKgb3 := n3_; have HB := nB_; have HS := ns_; clear nB_ ns_ n0_ n1_ n2_ n3_; clear hk_ hs1_ hs2_ hw_ hB_ hb_; have hczgb1_0 : w5.cell? ⟨gb1, 0, none⟩ = some (.slice A0_0 l0_0.length c0_0) := (blk_cell BKgb1.out 0).trans rfl; have hfzgb1_0 := blk_frozen BKgb1.out 0; have hczgb3_0 : w5.cell? ⟨gb3, 0, none⟩ = some (.slice A1_0 l1_0.length c1_0) := (blk_cell BKgb3.out 0).trans rfl; have hczgb3_1 : w5.cell? ⟨gb3, 1, none⟩ = some (.int .i64 a1_1) := (blk_cell BKgb3.out 1).trans rfl; have hfzgb3_0 := blk_frozen BKgb3.out 0; have hfzgb3_1 := blk_frozen BKgb3.out 1; have hnbgb1gb3 : gb1 ≠ gb3 := (by have := CH.out; omega); have hnbgb3gb1 : gb3 ≠ gb1 := (by have := CH.out; omega)))
    go_ret
    exact ⟨by first | rfl | (simp; done), by repeat (first | (with_reducible first | exact HB.out | apply below_alloc | apply pw_below_drewN | apply below_drew1 | refine below_set ?_ GEgb1.out | refine below_set ?_ GEgb3.out | refine below_set ?_ GEgb45.out | refine below_set ?_ GEgb54.out) | exact HB.out)⟩
  have hg := hg (by omega)
  have hzx6 : decide (x6 < 0) = false := decide_eq_false hz
  clear hz
  obtain ⟨x9, hg⟩ := hg
  obtain ⟨E_, hg⟩ := hg
  have E10 := Aside0.mk E_
  clear E_
  by_cases hz : x9 < 0
  · have hzb : decide (x9 < 0) = true := decide_eq_true hz
    clear hg hz
    go_enter Try.func6, Try.ntmps6
    go_wp2_with (first | ((with_reducible refine gate_dst (N := 2) rfl ?_); refine box_event ?hg (N := 2) ?hd (cs := #[.slice A0_0 l0_0.length c0_0]) (t := 30) ?hr ?_; (case hd => rfl); (case hg => rfl); (case hr => first | (go_simp; done) | (go_simp; rfl)); intro gb1 hg_ w2 hbox_ hb_; obtain ⟨hk_, hs1_, hs2_, hw0_⟩ := ev_kept (S := (fun _ => False)) HS.out HB.out hb_ (by repeat (first | (with_reducible first | exact Kept.refl _ _ | apply Kept.alloc | apply Kept.drewN | apply Kept.drew) | exact Kept.refl _ _)); have hw_ : w.heap.size ≤ gb1 := (by rw [hg_]; exact hw0_); have hB_ := below_step (by repeat (first | (with_reducible first | exact HB.out | apply below_alloc | apply pw_below_drewN | apply below_drew1) | exact HB.out)) hb_; have n0_ := Aside0.mk (Kd.F_kept FA0_0.out hk_ (fun _ _ hs_ => hs_.elim)); have n1_ := Aside0.mk (Kd.F_kept FA1_0.out hk_ (fun _ _ hs_ => hs_.elim)); have hS_ : s0 ≤ gb1 := (by rw [hg_]; exact hs1_); have nb_ := Aside0.mk hbox_; have ns_ := Aside0.mk (box_in hbox_); have nc_ := Aside0.mk (And.intro hS_ CH.out); have ng_ := Aside0.mk hw_; have nB_ := Aside0.mk hB_; clear HB HS CH FA0_0 FA1_0; have FA0_0 := n0_; have FA1_0 := n1_; have HB := nB_; have HS := ns_; have CH := nc_; have BKgb1 := nb_; have GEgb1 := ng_; clear nB_ ns_ nc_ nb_ ng_ n0_ n1_; clear hk_ hs1_ hs2_ hw_ hw0_ hB_ hS_ hb_ hbox_ hg_; have hczgb1_0 : w2.cell? ⟨gb1, 0, none⟩ = some (.slice A0_0 l0_0.length c0_0) := (blk_cell BKgb1.out 0).trans rfl; have hfzgb1_0 := blk_frozen BKgb1.out 0) | ((with_reducible refine gate_dst (N := 3) rfl ?_); refine box_event ?hg (N := 3) ?hd (cs := #[.slice A1_0 l1_0.length c1_0, .int .i64 a1_1]) (t := 44) ?hr ?_; (case hd => rfl); (case hg => rfl); (case hr => first | (go_simp; done) | (go_simp; rfl)); intro gb3 hg_ w4 hbox_ hb_; (try clear hczgb1_0); (try clear hfzgb1_0); obtain ⟨hk_, hs1_, hs2_, hw0_⟩ := ev_kept (S := (fun _ => False)) HS.out HB.out hb_ (by repeat (first | (with_reducible first | exact Kept.refl _ _ | apply Kept.alloc | apply Kept.drewN | apply Kept.drew) | exact Kept.refl _ _)); have hw_ : w.heap.size ≤ gb3 := (by rw [hg_]; exact hw0_); have hB_ := below_step (by repeat (first | (with_reducible first | exact HB.out | apply below_alloc | apply pw_below_drewN | apply below_drew1 | refine below_set ?_ GEgb1.out) | exact HB.out)) hb_; have n0_ := Aside0.mk (Kd.F_kept FA0_0.out hk_ (fun _ _ hs_ => hs_.elim)); have n1_ := Aside0.mk (Kd.F_kept FA1_0.out hk_ (fun _ _ hs_ => hs_.elim)); have n2_ := Aside0.mk (blk_below (g := gb1) (o := .cells #[.slice A0_0 l0_0.length c0_0] 30 (0, 0)) (by (with_reducible repeat (first | refine blk_drewN ?_ _ | refine blk_drew ?_ | refine blk_alloc ?_ _)); exact BKgb1.out) hb_); have hS_ : (gb1 + 1) ≤ gb3 := (by rw [hg_]; exact hs1_); have nb_ := Aside0.mk hbox_; have ns_ := Aside0.mk (box_in hbox_); have nc_ := Aside0.mk (And.intro hS_ CH.out); have ng_ := Aside0.mk hw_; have nB_ := Aside0.mk hB_; clear HB HS CH FA0_0 FA1_0 BKgb1; have FA0_0 := n0_; have FA1_0 := n1_; have BKgb1 := n2_; have HB := nB_; have HS := ns_; have CH := nc_; have BKgb3 := nb_; have GEgb3 := ng_; clear nB_ ns_ nc_ nb_ ng_ n0_ n1_ n2_; clear hk_ hs1_ hs2_ hw_ hw0_ hB_ hS_ hb_ hbox_ hg_; have hczgb1_0 : w4.cell? ⟨gb1, 0, none⟩ = some (.slice A0_0 l0_0.length c0_0) := (blk_cell BKgb1.out 0).trans rfl; have hfzgb1_0 := blk_frozen BKgb1.out 0; have hczgb3_0 : w4.cell? ⟨gb3, 0, none⟩ = some (.slice A1_0 l1_0.length c1_0) := (blk_cell BKgb3.out 0).trans rfl; have hczgb3_1 : w4.cell? ⟨gb3, 1, none⟩ = some (.int .i64 a1_1) := (blk_cell BKgb3.out 1).trans rfl; have hfzgb3_0 := blk_frozen BKgb3.out 0; have hfzgb3_1 := blk_frozen BKgb3.out 1; have hnbgb1gb3 : gb1 ≠ gb3 := (by have := CH.out; omega); have hnbgb3gb1 : gb3 ≠ gb1 := (by have := CH.out; omega)) | ((with_reducible refine gate_callee (f := 14) rfl ?_); refine goesL_ (some 19) rfl rfl Try.func14 (by kernel_rfl) rfl #[.agg #[.slice A0_0 l0_0.length c0_0], .int .i64 1048576] rfl (by (try simp only [List.map_toArray, List.map_cons, List.map_nil]); first | done | rfl | (simp only [List.length_drop, List.length_take]; rfl)) ?_; (with_reducible refine (laws_szGraph.calls KE7 _ _ l0_0 1048576 x6 _ ?sidehr0_0 ?sidehc0_0 E7.out).mono ?_); (case sidehr0_0 => exact F_at (S := (fun _ => False)) FA0_0.out (by repeat (first | (with_reducible first | exact Kept.refl _ _ | apply Kept.alloc | apply Kept.drewN | apply Kept.drew) | exact Kept.refl _ _)) (fun _ _ hs_ => hs_.elim)); (case sidehc0_0 => exact HC0_0.out); rintro e w5 ⟨rfl, hb_⟩; refine ⟨_, rfl, ?_⟩; (try clear hczgb1_0); (try clear hfzgb1_0); (try clear hczgb3_0); (try clear hfzgb3_0); (try clear hczgb3_1); (try clear hfzgb3_1); obtain ⟨hk_, hs1_, hs2_, hw_⟩ := ev_kept (S := (fun _ => False)) HS.out HB.out hb_ (by repeat (first | (with_reducible first | exact Kept.refl _ _ | apply Kept.alloc | apply Kept.drewN | apply Kept.drew) | exact Kept.refl _ _)); have hB_ := below_step (by repeat (first | (with_reducible first | exact HB.out | apply below_alloc | apply pw_below_drewN | apply below_drew1 | refine below_set ?_ GEgb1.out | refine below_set ?_ GEgb3.out) | exact HB.out)) hb_; have n0_ := Aside0.mk (Kd.F_kept FA0_0.out hk_ (fun _ _ hs_ => hs_.elim)); have n1_ := Aside0.mk (Kd.F_kept FA1_0.out hk_ (fun _ _ hs_ => hs_.elim)); have n2_ := Aside0.mk (blk_below (g := gb1) (o := .cells #[.slice A0_0 l0_0.length c0_0] 30 (0, 0)) (by (with_reducible repeat (first | refine blk_drewN ?_ _ | refine blk_drew ?_ | refine blk_alloc ?_ _)); exact BKgb1.out) hb_); have n3_ := Aside0.mk (blk_below (g := gb3) (o := .cells #[.slice A1_0 l1_0.length c1_0, .int .i64 a1_1] 44 (0, 0)) (by (with_reducible repeat (first | refine blk_drewN ?_ _ | refine blk_drew ?_ | refine blk_alloc ?_ _)); exact BKgb3.out) hb_); have ns_ := Aside0.mk (Nat.le_trans (Nat.le_trans hs1_ hs2_) (Nat.le_refl _)); have nB_ := Aside0.mk hB_; clear HB HS FA0_0 FA1_0 BKgb1 BKgb3; have FA0_0 := n0_; have FA1_0 := n1_; have BKgb1 := n2_; have BKgb3 := n3_; have HB := nB_; have HS := ns_; clear nB_ ns_ n0_ n1_ n2_ n3_; clear hk_ hs1_ hs2_ hw_ hB_ hb_; have hczgb1_0 : w5.cell? ⟨gb1, 0, none⟩ = some (.slice A0_0 l0_0.length c0_0) := (blk_cell BKgb1.out 0).trans rfl; have hfzgb1_0 := blk_frozen BKgb1.out 0; have hczgb3_0 : w5.cell? ⟨gb3, 0, none⟩ = some (.slice A1_0 l1_0.length c1_0) := (blk_cell BKgb3.out 0).trans rfl; have hczgb3_1 : w5.cell? ⟨gb3, 1, none⟩ = some (.int .i64 a1_1) := (blk_cell BKgb3.out 1).trans rfl; have hfzgb3_0 := blk_frozen BKgb3.out 0; have hfzgb3_1 := blk_frozen BKgb3.out 1; have hnbgb1gb3 : gb1 ≠ gb3 := (by have := CH.out; omega); have hnbgb3gb1 : gb3 ≠ gb1 := (by have := CH.out; omega)) | ((with_reducible refine gate_callee (f := 24) rfl ?_); refine goesL_ (some 24) rfl rfl Try.func24 (by kernel_rfl) rfl #[.agg #[.slice A1_0 l1_0.length c1_0, .int .i64 a1_1], .int .i64 x6] rfl (by (try simp only [List.map_toArray, List.map_cons, List.map_nil]); first | done | rfl | (simp only [List.length_drop, List.length_take]; rfl)) ?_; (with_reducible refine (laws_szWalk.calls _ _ l1_0 a1_1 x6 x9 _ ?sidehr0_0 ?sidehc0_0 E10.out).mono ?_); (case sidehr0_0 => exact F_at (S := (fun _ => False)) FA1_0.out (by repeat (first | (with_reducible first | exact Kept.refl _ _ | apply Kept.alloc | apply Kept.drewN | apply Kept.drew) | exact Kept.refl _ _)) (fun _ _ hs_ => hs_.elim)); (case sidehc0_0 => exact HC1_0.out); rintro e w8 ⟨rfl, hb_⟩; refine ⟨_, rfl, ?_⟩; (try clear hczgb1_0); (try clear hfzgb1_0); (try clear hczgb3_0); (try clear hfzgb3_0); (try clear hczgb3_1); (try clear hfzgb3_1); obtain ⟨hk_, hs1_, hs2_, hw_⟩ := ev_kept (S := (fun _ => False)) HS.out HB.out hb_ (by repeat (first | (with_reducible first | exact Kept.refl _ _ | apply Kept.alloc | apply Kept.drewN | apply Kept.drew) | exact Kept.refl _ _)); have hB_ := below_step (by repeat (first | (with_reducible first | exact HB.out | apply below_alloc | apply pw_below_drewN | apply below_drew1 | refine below_set ?_ GEgb1.out | refine below_set ?_ GEgb3.out) | exact HB.out)) hb_; have n0_ := Aside0.mk (Kd.F_kept FA0_0.out hk_ (fun _ _ hs_ => hs_.elim)); have n1_ := Aside0.mk (Kd.F_kept FA1_0.out hk_ (fun _ _ hs_ => hs_.elim)); have n2_ := Aside0.mk (blk_below (g := gb1) (o := .cells #[.slice A0_0 l0_0.length c0_0] 30 (0, 0)) (by (with_reducible repeat (first | refine blk_drewN ?_ _ | refine blk_drew ?_ | refine blk_alloc ?_ _)); exact BKgb1.out) hb_); have n3_ := Aside0.mk (blk_below (g := gb3) (o := .cells #[.slice A1_0 l1_0.length c1_0, .int .i64 a1_1] 44 (0, 0)) (by (with_reducible repeat (first | refine blk_drewN ?_ _ | refine blk_drew ?_ | refine blk_alloc ?_ _)); exact BKgb3.out) hb_); have ns_ := Aside0.mk (Nat.le_trans (Nat.le_trans hs1_ hs2_) (Nat.le_refl _)); have nB_ := Aside0.mk hB_; clear HB HS FA0_0 FA1_0 BKgb1 BKgb3; have FA0_0 := n0_; have FA1_0 := n1_; have BKgb1 := n2_; have BKgb3 := n3_; have HB := nB_; have HS := ns_; clear nB_ ns_ n0_ n1_ n2_ n3_; clear hk_ hs1_ hs2_ hw_ hB_ hb_; have hczgb1_0 : w8.cell? ⟨gb1, 0, none⟩ = some (.slice A0_0 l0_0.length c0_0) := (blk_cell BKgb1.out 0).trans rfl; have hfzgb1_0 := blk_frozen BKgb1.out 0; have hczgb3_0 : w8.cell? ⟨gb3, 0, none⟩ = some (.slice A1_0 l1_0.length c1_0) := (blk_cell BKgb3.out 0).trans rfl; have hczgb3_1 : w8.cell? ⟨gb3, 1, none⟩ = some (.int .i64 a1_1) := (blk_cell BKgb3.out 1).trans rfl; have hfzgb3_0 := blk_frozen BKgb3.out 0; have hfzgb3_1 := blk_frozen BKgb3.out 1; have hnbgb1gb3 : gb1 ≠ gb3 := (by have := CH.out; omega); have hnbgb3gb1 : gb3 ≠ gb1 := (by have := CH.out; omega)))
    go_ret
    exact ⟨by first | rfl | (simp; done), by repeat (first | (with_reducible first | exact HB.out | apply below_alloc | apply pw_below_drewN | apply below_drew1 | refine below_set ?_ GEgb1.out | refine below_set ?_ GEgb3.out | refine below_set ?_ GEgb45.out | refine below_set ?_ GEgb54.out) | exact HB.out)⟩
  have hg := hg (by omega)
  have hzx9 : decide (x9 < 0) = false := decide_eq_false hz
  clear hz
  obtain ⟨E_, hg⟩ := hg
  obtain ⟨KE13, E_⟩ := E_
  have E13 := Aside0.mk (E_ KE13 (Nat.le_refl _))
  clear E_
  obtain ⟨E_, hg⟩ := hg
  obtain ⟨KE21, E_⟩ := E_
  have E21 := Aside0.mk (E_ KE21 (Nat.le_refl _))
  clear E_
  obtain ⟨x29, hg⟩ := hg
  obtain ⟨x30, hg⟩ := hg
  obtain ⟨E_, hg⟩ := hg
  obtain ⟨KE31, E_⟩ := E_
  have E31 := Aside0.mk (E_ KE31 (Nat.le_refl _))
  clear E_
  obtain ⟨E_, hg⟩ := hg
  obtain ⟨KE57, E_⟩ := E_
  have E57 := Aside0.mk (E_ KE57 (Nat.le_refl _))
  clear E_
  obtain ⟨E_, hg⟩ := hg
  obtain ⟨KE65, E_⟩ := E_
  have E65 := Aside0.mk (E_ KE65 (Nat.le_refl _))
  clear E_
  obtain ⟨E_, hg⟩ := hg
  obtain ⟨KE75, E_⟩ := E_
  have E75 := Aside0.mk (E_ KE75 (Nat.le_refl _))
  clear E_
  obtain ⟨E_, hg⟩ := hg
  obtain ⟨KE85, E_⟩ := E_
  have E85 := Aside0.mk (E_ KE85 (Nat.le_refl _))
  clear E_
  obtain ⟨x87, hg⟩ := hg
  obtain ⟨x88, hg⟩ := hg
  obtain ⟨E_, hg⟩ := hg
  obtain ⟨KE89, E_⟩ := E_
  have E89 := Aside0.mk (E_ KE89 (Nat.le_refl _))
  clear E_
  obtain ⟨hpx87, hg⟩ := hg
  have hnx87 : decide (x87 < 0) = false := decide_eq_false (by omega)
  have hex87 : (x87 != x87) = false := bne_self_eq_false _
  have hdx87 : decide (x87 = x87) = true := decide_eq_true rfl
  clear hpx87
  obtain ⟨x92, hg⟩ := hg
  obtain ⟨x93, hg⟩ := hg
  obtain ⟨E_, hg⟩ := hg
  obtain ⟨KE94, E_⟩ := E_
  have E94 := Aside0.mk (E_ KE94 (Nat.le_refl _))
  clear E_
  obtain ⟨hpx92, hg⟩ := hg
  have hnx92 : decide (x92 < 0) = false := decide_eq_false (by omega)
  have hex92 : (x92 != x92) = false := bne_self_eq_false _
  have hdx92 : decide (x92 = x92) = true := decide_eq_true rfl
  clear hpx92
  obtain ⟨x98, hg⟩ := hg
  obtain ⟨x99, hg⟩ := hg
  obtain ⟨E_, hg⟩ := hg
  obtain ⟨KE100, E_⟩ := E_
  have E100 := Aside0.mk (E_ KE100 (Nat.le_refl _))
  clear E_
  obtain ⟨hpx98, hg⟩ := hg
  have hnx98 : decide (x98 < 0) = false := decide_eq_false (by omega)
  have hex98 : (x98 != x98) = false := bne_self_eq_false _
  have hdx98 : decide (x98 = x98) = true := decide_eq_true rfl
  clear hpx98
  obtain ⟨E_, hg⟩ := hg
  obtain ⟨KE103, E_⟩ := E_
  have E103 := Aside0.mk (E_ KE103 (Nat.le_refl _))
  clear E_
  clear hg
  have hbx30 : (x30 != x30) = false := bne_self_eq_false _
  have hdx30 : (x30 == x30) = true := beq_self_eq_true _
  go_enter Try.func6, Try.ntmps6
  go_wp2_with (first | ((with_reducible refine gate_dst (N := 2) rfl ?_); refine box_event ?hg (N := 2) ?hd (cs := #[.slice A0_0 l0_0.length c0_0]) (t := 30) ?hr ?_; (case hd => rfl); (case hg => rfl); (case hr => first | (go_simp; done) | (go_simp; rfl)); intro gb1 hg_ w2 hbox_ hb_; obtain ⟨hk_, hs1_, hs2_, hw0_⟩ := ev_kept (S := (fun _ => False)) HS.out HB.out hb_ (by repeat (first | (with_reducible first | exact Kept.refl _ _ | apply Kept.alloc | apply Kept.drewN | apply Kept.drew) | exact Kept.refl _ _)); have hw_ : w.heap.size ≤ gb1 := (by rw [hg_]; exact hw0_); have hB_ := below_step (by repeat (first | (with_reducible first | exact HB.out | apply below_alloc | apply pw_below_drewN | apply below_drew1) | exact HB.out)) hb_; have n0_ := Aside0.mk (Kd.F_kept FA0_0.out hk_ (fun _ _ hs_ => hs_.elim)); have n1_ := Aside0.mk (Kd.F_kept FA1_0.out hk_ (fun _ _ hs_ => hs_.elim)); have hS_ : s0 ≤ gb1 := (by rw [hg_]; exact hs1_); have nb_ := Aside0.mk hbox_; have ns_ := Aside0.mk (box_in hbox_); have nc_ := Aside0.mk (And.intro hS_ CH.out); have ng_ := Aside0.mk hw_; have nB_ := Aside0.mk hB_; clear HB HS CH FA0_0 FA1_0; have FA0_0 := n0_; have FA1_0 := n1_; have HB := nB_; have HS := ns_; have CH := nc_; have BKgb1 := nb_; have GEgb1 := ng_; clear nB_ ns_ nc_ nb_ ng_ n0_ n1_; clear hk_ hs1_ hs2_ hw_ hw0_ hB_ hS_ hb_ hbox_ hg_; have hczgb1_0 : w2.cell? ⟨gb1, 0, none⟩ = some (.slice A0_0 l0_0.length c0_0) := (blk_cell BKgb1.out 0).trans rfl; have hfzgb1_0 := blk_frozen BKgb1.out 0) | ((with_reducible refine gate_dst (N := 3) rfl ?_); refine box_event ?hg (N := 3) ?hd (cs := #[.slice A1_0 l1_0.length c1_0, .int .i64 a1_1]) (t := 44) ?hr ?_; (case hd => rfl); (case hg => rfl); (case hr => first | (go_simp; done) | (go_simp; rfl)); intro gb3 hg_ w4 hbox_ hb_; (try clear hczgb1_0); (try clear hfzgb1_0); obtain ⟨hk_, hs1_, hs2_, hw0_⟩ := ev_kept (S := (fun _ => False)) HS.out HB.out hb_ (by repeat (first | (with_reducible first | exact Kept.refl _ _ | apply Kept.alloc | apply Kept.drewN | apply Kept.drew) | exact Kept.refl _ _)); have hw_ : w.heap.size ≤ gb3 := (by rw [hg_]; exact hw0_); have hB_ := below_step (by repeat (first | (with_reducible first | exact HB.out | apply below_alloc | apply pw_below_drewN | apply below_drew1 | refine below_set ?_ GEgb1.out) | exact HB.out)) hb_; have n0_ := Aside0.mk (Kd.F_kept FA0_0.out hk_ (fun _ _ hs_ => hs_.elim)); have n1_ := Aside0.mk (Kd.F_kept FA1_0.out hk_ (fun _ _ hs_ => hs_.elim)); have n2_ := Aside0.mk (blk_below (g := gb1) (o := .cells #[.slice A0_0 l0_0.length c0_0] 30 (0, 0)) (by (with_reducible repeat (first | refine blk_drewN ?_ _ | refine blk_drew ?_ | refine blk_alloc ?_ _)); exact BKgb1.out) hb_); have hS_ : (gb1 + 1) ≤ gb3 := (by rw [hg_]; exact hs1_); have nb_ := Aside0.mk hbox_; have ns_ := Aside0.mk (box_in hbox_); have nc_ := Aside0.mk (And.intro hS_ CH.out); have ng_ := Aside0.mk hw_; have nB_ := Aside0.mk hB_; clear HB HS CH FA0_0 FA1_0 BKgb1; have FA0_0 := n0_; have FA1_0 := n1_; have BKgb1 := n2_; have HB := nB_; have HS := ns_; have CH := nc_; have BKgb3 := nb_; have GEgb3 := ng_; clear nB_ ns_ nc_ nb_ ng_ n0_ n1_ n2_; clear hk_ hs1_ hs2_ hw_ hw0_ hB_ hS_ hb_ hbox_ hg_; have hczgb1_0 : w4.cell? ⟨gb1, 0, none⟩ = some (.slice A0_0 l0_0.length c0_0) := (blk_cell BKgb1.out 0).trans rfl; have hfzgb1_0 := blk_frozen BKgb1.out 0; have hczgb3_0 : w4.cell? ⟨gb3, 0, none⟩ = some (.slice A1_0 l1_0.length c1_0) := (blk_cell BKgb3.out 0).trans rfl; have hczgb3_1 : w4.cell? ⟨gb3, 1, none⟩ = some (.int .i64 a1_1) := (blk_cell BKgb3.out 1).trans rfl; have hfzgb3_0 := blk_frozen BKgb3.out 0; have hfzgb3_1 := blk_frozen BKgb3.out 1; have hnbgb1gb3 : gb1 ≠ gb3 := (by have := CH.out; omega); have hnbgb3gb1 : gb3 ≠ gb1 := (by have := CH.out; omega)) | ((with_reducible refine gate_callee (f := 14) rfl ?_); refine goesL_ (some 19) rfl rfl Try.func14 (by kernel_rfl) rfl #[.agg #[.slice A0_0 l0_0.length c0_0], .int .i64 1048576] rfl (by (try simp only [List.map_toArray, List.map_cons, List.map_nil]); first | done | rfl | (simp only [List.length_drop, List.length_take]; rfl)) ?_; (with_reducible refine (laws_szGraph.calls KE7 _ _ l0_0 1048576 x6 _ ?sidehr0_0 ?sidehc0_0 E7.out).mono ?_); (case sidehr0_0 => exact F_at (S := (fun _ => False)) FA0_0.out (by repeat (first | (with_reducible first | exact Kept.refl _ _ | apply Kept.alloc | apply Kept.drewN | apply Kept.drew) | exact Kept.refl _ _)) (fun _ _ hs_ => hs_.elim)); (case sidehc0_0 => exact HC0_0.out); rintro e w5 ⟨rfl, hb_⟩; refine ⟨_, rfl, ?_⟩; (try clear hczgb1_0); (try clear hfzgb1_0); (try clear hczgb3_0); (try clear hfzgb3_0); (try clear hczgb3_1); (try clear hfzgb3_1); obtain ⟨hk_, hs1_, hs2_, hw_⟩ := ev_kept (S := (fun _ => False)) HS.out HB.out hb_ (by repeat (first | (with_reducible first | exact Kept.refl _ _ | apply Kept.alloc | apply Kept.drewN | apply Kept.drew) | exact Kept.refl _ _)); have hB_ := below_step (by repeat (first | (with_reducible first | exact HB.out | apply below_alloc | apply pw_below_drewN | apply below_drew1 | refine below_set ?_ GEgb1.out | refine below_set ?_ GEgb3.out) | exact HB.out)) hb_; have n0_ := Aside0.mk (Kd.F_kept FA0_0.out hk_ (fun _ _ hs_ => hs_.elim)); have n1_ := Aside0.mk (Kd.F_kept FA1_0.out hk_ (fun _ _ hs_ => hs_.elim)); have n2_ := Aside0.mk (blk_below (g := gb1) (o := .cells #[.slice A0_0 l0_0.length c0_0] 30 (0, 0)) (by (with_reducible repeat (first | refine blk_drewN ?_ _ | refine blk_drew ?_ | refine blk_alloc ?_ _)); exact BKgb1.out) hb_); have n3_ := Aside0.mk (blk_below (g := gb3) (o := .cells #[.slice A1_0 l1_0.length c1_0, .int .i64 a1_1] 44 (0, 0)) (by (with_reducible repeat (first | refine blk_drewN ?_ _ | refine blk_drew ?_ | refine blk_alloc ?_ _)); exact BKgb3.out) hb_); have ns_ := Aside0.mk (Nat.le_trans (Nat.le_trans hs1_ hs2_) (Nat.le_refl _)); have nB_ := Aside0.mk hB_; clear HB HS FA0_0 FA1_0 BKgb1 BKgb3; have FA0_0 := n0_; have FA1_0 := n1_; have BKgb1 := n2_; have BKgb3 := n3_; have HB := nB_; have HS := ns_; clear nB_ ns_ n0_ n1_ n2_ n3_; clear hk_ hs1_ hs2_ hw_ hB_ hb_; have hczgb1_0 : w5.cell? ⟨gb1, 0, none⟩ = some (.slice A0_0 l0_0.length c0_0) := (blk_cell BKgb1.out 0).trans rfl; have hfzgb1_0 := blk_frozen BKgb1.out 0; have hczgb3_0 : w5.cell? ⟨gb3, 0, none⟩ = some (.slice A1_0 l1_0.length c1_0) := (blk_cell BKgb3.out 0).trans rfl; have hczgb3_1 : w5.cell? ⟨gb3, 1, none⟩ = some (.int .i64 a1_1) := (blk_cell BKgb3.out 1).trans rfl; have hfzgb3_0 := blk_frozen BKgb3.out 0; have hfzgb3_1 := blk_frozen BKgb3.out 1; have hnbgb1gb3 : gb1 ≠ gb3 := (by have := CH.out; omega); have hnbgb3gb1 : gb3 ≠ gb1 := (by have := CH.out; omega)) | ((with_reducible refine gate_callee (f := 24) rfl ?_); refine goesL_ (some 24) rfl rfl Try.func24 (by kernel_rfl) rfl #[.agg #[.slice A1_0 l1_0.length c1_0, .int .i64 a1_1], .int .i64 x6] rfl (by (try simp only [List.map_toArray, List.map_cons, List.map_nil]); first | done | rfl | (simp only [List.length_drop, List.length_take]; rfl)) ?_; (with_reducible refine (laws_szWalk.calls _ _ l1_0 a1_1 x6 x9 _ ?sidehr0_0 ?sidehc0_0 E10.out).mono ?_); (case sidehr0_0 => exact F_at (S := (fun _ => False)) FA1_0.out (by repeat (first | (with_reducible first | exact Kept.refl _ _ | apply Kept.alloc | apply Kept.drewN | apply Kept.drew) | exact Kept.refl _ _)) (fun _ _ hs_ => hs_.elim)); (case sidehc0_0 => exact HC1_0.out); rintro e w8 ⟨rfl, hb_⟩; refine ⟨_, rfl, ?_⟩; (try clear hczgb1_0); (try clear hfzgb1_0); (try clear hczgb3_0); (try clear hfzgb3_0); (try clear hczgb3_1); (try clear hfzgb3_1); obtain ⟨hk_, hs1_, hs2_, hw_⟩ := ev_kept (S := (fun _ => False)) HS.out HB.out hb_ (by repeat (first | (with_reducible first | exact Kept.refl _ _ | apply Kept.alloc | apply Kept.drewN | apply Kept.drew) | exact Kept.refl _ _)); have hB_ := below_step (by repeat (first | (with_reducible first | exact HB.out | apply below_alloc | apply pw_below_drewN | apply below_drew1 | refine below_set ?_ GEgb1.out | refine below_set ?_ GEgb3.out) | exact HB.out)) hb_; have n0_ := Aside0.mk (Kd.F_kept FA0_0.out hk_ (fun _ _ hs_ => hs_.elim)); have n1_ := Aside0.mk (Kd.F_kept FA1_0.out hk_ (fun _ _ hs_ => hs_.elim)); have n2_ := Aside0.mk (blk_below (g := gb1) (o := .cells #[.slice A0_0 l0_0.length c0_0] 30 (0, 0)) (by (with_reducible repeat (first | refine blk_drewN ?_ _ | refine blk_drew ?_ | refine blk_alloc ?_ _)); exact BKgb1.out) hb_); have n3_ := Aside0.mk (blk_below (g := gb3) (o := .cells #[.slice A1_0 l1_0.length c1_0, .int .i64 a1_1] 44 (0, 0)) (by (with_reducible repeat (first | refine blk_drewN ?_ _ | refine blk_drew ?_ | refine blk_alloc ?_ _)); exact BKgb3.out) hb_); have ns_ := Aside0.mk (Nat.le_trans (Nat.le_trans hs1_ hs2_) (Nat.le_refl _)); have nB_ := Aside0.mk hB_; clear HB HS FA0_0 FA1_0 BKgb1 BKgb3; have FA0_0 := n0_; have FA1_0 := n1_; have BKgb1 := n2_; have BKgb3 := n3_; have HB := nB_; have HS := ns_; clear nB_ ns_ n0_ n1_ n2_ n3_; clear hk_ hs1_ hs2_ hw_ hB_ hb_; have hczgb1_0 : w8.cell? ⟨gb1, 0, none⟩ = some (.slice A0_0 l0_0.length c0_0) := (blk_cell BKgb1.out 0).trans rfl; have hfzgb1_0 := blk_frozen BKgb1.out 0; have hczgb3_0 : w8.cell? ⟨gb3, 0, none⟩ = some (.slice A1_0 l1_0.length c1_0) := (blk_cell BKgb3.out 0).trans rfl; have hczgb3_1 : w8.cell? ⟨gb3, 1, none⟩ = some (.int .i64 a1_1) := (blk_cell BKgb3.out 1).trans rfl; have hfzgb3_0 := blk_frozen BKgb3.out 0; have hfzgb3_1 := blk_frozen BKgb3.out 1; have hnbgb1gb3 : gb1 ≠ gb3 := (by have := CH.out; omega); have hnbgb3gb1 : gb3 ≠ gb1 := (by have := CH.out; omega)))
  try go_wp2
  (try clear hczgb1_0)
  (try clear hfzgb1_0)
  (try clear hczgb3_0)
  (try clear hfzgb3_0)
  (try clear hczgb3_1)
  (try clear hfzgb3_1)
  have n0_ := Aside0.mk (Kd.F_drew FA0_0.out)
  have n1_ := Aside0.mk (Kd.F_drew FA1_0.out)
  have n2_ := Aside0.mk (blk_drew BKgb1.out)
  have n3_ := Aside0.mk (blk_drew BKgb3.out)
  have nB_ := Aside0.mk (below_drew1 HB.out)
  have nS_ : Aside0 ((gb3 + 1) ≤ w8.drew.heap.size) := ⟨HS.out⟩
  clear HB HS FA0_0 FA1_0 BKgb1 BKgb3
  have FA0_0 := n0_
  have FA1_0 := n1_
  have BKgb1 := n2_
  have BKgb3 := n3_
  have HB := nB_
  have HS := nS_
  clear nB_ nS_ n0_ n1_ n2_ n3_
  refine start_ (n := 10) (S := fun w' => w'.cell? ⟨gb1, 0, none⟩ = some (.slice A0_0 l0_0.length c0_0) ∧ w'.cell? ⟨gb3, 0, none⟩ = some (.slice A1_0 l1_0.length c1_0) ∧ w'.cell? ⟨gb3, 1, none⟩ = some (.int .i64 a1_1)) (ds := []) #[false, false, false, false, false, false, false, false, false, false] (by kernel_rfl) rfl rfl ⟨(blk_cell BKgb1.out 0).trans rfl, (blk_cell BKgb3.out 0).trans rfl, (blk_cell BKgb3.out 1).trans rfl⟩ (fun hHeld => ?_)
  generalize w8.drew = w11 at HB HS FA0_0 FA1_0 BKgb1 BKgb3 hHeld ⊢
  refine take_ (i := 0) (N := some 28) (v := ?_) (a' := ?_) #[true, false, false, false, false, false, false, false, false, false] rfl rfl (by kernel_rfl) (fun _ _ _ h => h) (Or.inl ⟨by rfl, ?_⟩) hHeld ?_ ?_
  rotate_left
  · rintro w' ⟨s0_, s1_, s2_⟩
    go_simp
    with_reducible rfl
  rotate_left
  · simp only [Act.put, List.setIfInBounds_toArray, List.set_cons_zero, List.set_cons_succ, i64_w, i32_w]
    rfl
  refine take_ (i := 2) (N := some 30) (v := ?_) (a' := ?_) #[true, false, true, false, false, false, false, false, false, false] rfl rfl (by kernel_rfl) (fun _ _ _ h => h) (Or.inl ⟨by rfl, ?_⟩) hHeld ?_ ?_
  rotate_left
  · rintro w' ⟨s0_, s1_, s2_⟩
    go_simp
    with_reducible rfl
  rotate_left
  · simp only [Act.put, List.setIfInBounds_toArray, List.set_cons_zero, List.set_cons_succ, i64_w, i32_w]
    rfl
  refine one_ (i := 1) (N := some 29) #[true, true, true, false, false, false, false, false, false, false] rfl rfl (by kernel_rfl) (by decide) (fun K hK => ?_)
  refine goes_ Try.func16 (by kernel_rfl) rfl #[.agg #[.slice A0_0 l0_0.length c0_0]] (by rfl) rfl rfl (by (try simp only [List.map_toArray, List.map_cons, List.map_nil]); first | done | rfl | (simp only [List.length_drop, List.length_take]; rfl)) ?_
  (with_reducible refine (laws_toGraph.calls KE13 _ _ l0_0 l0_0 _ ?sidehr0_0 ?sidehc0_0 E13.out).mono ?_)
  (case sidehr0_0 => exact F_at (S := (fun _ => False)) FA0_0.out (by repeat (first | (with_reducible first | exact Kept.refl _ _ | apply Kept.alloc | apply Kept.drewN | apply Kept.drew) | exact Kept.refl _ _)) (fun _ _ hs_ => hs_.elim))
  (case sidehc0_0 => exact HC0_0.out)
  rintro e w12 ⟨v14, rfl, hov0__, hb_⟩
  refine ⟨_, rfl, ?_⟩
  (try clear hczgb1_0)
  (try clear hfzgb1_0)
  (try clear hczgb3_0)
  (try clear hfzgb3_0)
  (try clear hczgb3_1)
  (try clear hfzgb3_1)
  obtain ⟨hk_, hs1_, hs2_, hw_⟩ := ev_kept (S := (fun _ => False)) HS.out HB.out hb_ (by repeat (first | (with_reducible first | exact Kept.refl _ _ | apply Kept.alloc | apply Kept.drewN | apply Kept.drew) | exact Kept.refl _ _))
  have hB_ := below_step (by repeat (first | (with_reducible first | exact HB.out | apply below_alloc | apply pw_below_drewN | apply below_drew1 | refine below_set ?_ GEgb1.out | refine below_set ?_ GEgb3.out) | exact HB.out)) hb_
  have n0_ := Aside0.mk (Kd.F_kept FA0_0.out hk_ (fun _ _ hs_ => hs_.elim))
  have n1_ := Aside0.mk (Kd.F_kept FA1_0.out hk_ (fun _ _ hs_ => hs_.elim))
  have n2_ := Aside0.mk (blk_below (g := gb1) (o := .cells #[.slice A0_0 l0_0.length c0_0] 30 (0, 0)) (by (with_reducible repeat (first | refine blk_drewN ?_ _ | refine blk_drew ?_ | refine blk_alloc ?_ _)); exact BKgb1.out) hb_)
  have n3_ := Aside0.mk (blk_below (g := gb3) (o := .cells #[.slice A1_0 l1_0.length c1_0, .int .i64 a1_1] 44 (0, 0)) (by (with_reducible repeat (first | refine blk_drewN ?_ _ | refine blk_drew ?_ | refine blk_alloc ?_ _)); exact BKgb3.out) hb_)
  have ns_ := Aside0.mk (Nat.le_trans (Nat.le_trans hs1_ hs2_) (Nat.le_refl _))
  have nB_ := Aside0.mk hB_
  obtain ⟨lo15, hi16, c1_, c2_, c3_, h_⟩ := S_new hov0__ hs2_ hw_ hs1_
  have HS17 := Aside0.mk h_
  obtain ⟨Ao18, co19, eo_⟩ := Kd.S_slice HS17.out
  subst eo_
  have HCHS17 := Aside0.mk (Kd.S_reads' HS17.out).2.1
  clear h_ hov0__
  have nc_ := Aside0.mk (And.intro c1_ (And.intro c2_ CH.out))
  clear CH ns_
  have CH := nc_
  have ns_ := Aside0.mk c3_
  clear nc_ c1_ c2_ c3_
  clear HB HS FA0_0 FA1_0 BKgb1 BKgb3
  have FA0_0 := n0_
  have FA1_0 := n1_
  have BKgb1 := n2_
  have BKgb3 := n3_
  have HB := nB_
  have HS := ns_
  clear nB_ ns_ n0_ n1_ n2_ n3_
  clear hk_ hs1_ hs2_ hw_ hB_ hb_
  refine hK.out _ _ ⟨(blk_cell BKgb1.out 0).trans rfl, (blk_cell BKgb3.out 0).trans rfl, (blk_cell BKgb3.out 1).trans rfl⟩ (fun hHeld => ?_)
  clear hK K
  refine norm_ (a' := ?_) ?_ ?_
  rotate_left
  · show Act.put _ (some 29) _ = _
    simp only [Act.put, List.setIfInBounds_toArray, List.set_cons_zero, List.set_cons_succ, i64_w, i32_w]
    rfl
  refine one_ (i := 3) (N := some 31) #[true, true, true, true, false, false, false, false, false, false] rfl rfl (by kernel_rfl) (by decide) (fun K hK => ?_)
  refine goes_ Try.func26 (by kernel_rfl) rfl #[.agg #[.slice A1_0 l1_0.length c1_0, .int .i64 a1_1]] (by rfl) rfl rfl (by (try simp only [List.map_toArray, List.map_cons, List.map_nil]); first | done | rfl | (simp only [List.length_drop, List.length_take]; rfl)) ?_
  (with_reducible refine (laws_toWalk.calls KE21 _ _ l1_0 a1_1 l1_0 a1_1 _ ?sidehr0_0 ?sidehc0_0 E21.out).mono ?_)
  (case sidehr0_0 => exact F_at (S := (fun _ => False)) FA1_0.out (by repeat (first | (with_reducible first | exact Kept.refl _ _ | apply Kept.alloc | apply Kept.drewN | apply Kept.drew) | exact Kept.refl _ _)) (fun _ _ hs_ => hs_.elim))
  (case sidehc0_0 => exact HC1_0.out)
  rintro e w20 ⟨v22, rfl, hov0__, hb_⟩
  refine ⟨_, rfl, ?_⟩
  (try clear hczgb1_0)
  (try clear hfzgb1_0)
  (try clear hczgb3_0)
  (try clear hfzgb3_0)
  (try clear hczgb3_1)
  (try clear hfzgb3_1)
  obtain ⟨hk_, hs1_, hs2_, hw_⟩ := ev_kept (S := (fun _ => False)) HS.out HB.out hb_ (by repeat (first | (with_reducible first | exact Kept.refl _ _ | apply Kept.alloc | apply Kept.drewN | apply Kept.drew) | exact Kept.refl _ _))
  have hB_ := below_step (by repeat (first | (with_reducible first | exact HB.out | apply below_alloc | apply pw_below_drewN | apply below_drew1 | refine below_set ?_ GEgb1.out | refine below_set ?_ GEgb3.out) | exact HB.out)) hb_
  have n0_ := Aside0.mk (Kd.F_kept FA0_0.out hk_ (fun _ _ hs_ => hs_.elim))
  have n1_ := Aside0.mk (Kd.F_kept FA1_0.out hk_ (fun _ _ hs_ => hs_.elim))
  have n2_ := Aside0.mk (blk_below (g := gb1) (o := .cells #[.slice A0_0 l0_0.length c0_0] 30 (0, 0)) (by (with_reducible repeat (first | refine blk_drewN ?_ _ | refine blk_drew ?_ | refine blk_alloc ?_ _)); exact BKgb1.out) hb_)
  have n3_ := Aside0.mk (blk_below (g := gb3) (o := .cells #[.slice A1_0 l1_0.length c1_0, .int .i64 a1_1] 44 (0, 0)) (by (with_reducible repeat (first | refine blk_drewN ?_ _ | refine blk_drew ?_ | refine blk_alloc ?_ _)); exact BKgb3.out) hb_)
  have n4_ := Aside0.mk (Kd.S_kept HS17.out hk_ (fun _ _ hs_ => hs_.elim))
  have ns_ := Aside0.mk (Nat.le_trans (Nat.le_trans hs1_ hs2_) (Nat.le_refl _))
  have nB_ := Aside0.mk hB_
  obtain ⟨lo23, hi24, c1_, c2_, c3_, h_⟩ := R_new hov0__ hs2_ hw_ hs1_
  have HR25 := Aside0.mk h_
  obtain ⟨Ao26, co27, eo_⟩ := Kd.R_slice HR25.out
  subst eo_
  have HCHR25 := Aside0.mk (Kd.R_reads' HR25.out).2.1
  clear h_ hov0__
  have nc_ := Aside0.mk (And.intro c1_ (And.intro c2_ CH.out))
  clear CH ns_
  have CH := nc_
  have ns_ := Aside0.mk c3_
  clear nc_ c1_ c2_ c3_
  clear HB HS FA0_0 FA1_0 BKgb1 BKgb3 HS17
  have FA0_0 := n0_
  have FA1_0 := n1_
  have BKgb1 := n2_
  have BKgb3 := n3_
  have HS17 := n4_
  have HB := nB_
  have HS := ns_
  clear nB_ ns_ n0_ n1_ n2_ n3_ n4_
  clear hk_ hs1_ hs2_ hw_ hB_ hb_
  refine hK.out _ _ ⟨(blk_cell BKgb1.out 0).trans rfl, (blk_cell BKgb3.out 0).trans rfl, (blk_cell BKgb3.out 1).trans rfl⟩ (fun hHeld => ?_)
  clear hK K
  refine norm_ (a' := ?_) ?_ ?_
  rotate_left
  · show Act.put _ (some 31) _ = _
    simp only [Act.put, List.setIfInBounds_toArray, List.set_cons_zero, List.set_cons_succ, i64_w, i32_w]
    rfl
  refine one_ (i := 4) (N := some 32) #[true, true, true, true, true, false, false, false, false, false] rfl rfl (by kernel_rfl) (by decide) (fun K hK => ?_)
  refine goes_ Try.func29 (by kernel_rfl) rfl #[.agg #[.slice Ao18 l0_0.length co19], .agg #[.slice Ao26 l1_0.length co27, .int .i64 a1_1]] (by rfl) rfl rfl (by (try simp only [List.map_toArray, List.map_cons, List.map_nil]); first | done | rfl | (simp only [List.length_drop, List.length_take]; rfl)) ?_
  (with_reducible refine (spec_TreeOfUnicycle.calls KE31 _ _ l0_0 _ _ l1_0 a1_1 x29 x30 _ ?sidehr0_0 ?sidehc0_0 ?sidehr1_0 ?sidehc1_0 E31.out).mono ?_)
  (case sidehr0_0 => exact S_now (S := (fun _ => False)) HS17.out (by repeat (first | (with_reducible first | exact Kept.refl _ _ | apply Kept.alloc | apply Kept.drewN | apply Kept.drew) | exact Kept.refl _ _)) (fun _ _ hs_ => hs_.elim))
  (case sidehc0_0 => exact HCHS17.out)
  (case sidehr1_0 => exact R_now (S := (fun _ => False)) HR25.out (by repeat (first | (with_reducible first | exact Kept.refl _ _ | apply Kept.alloc | apply Kept.drewN | apply Kept.drew) | exact Kept.refl _ _)) (fun _ _ hs_ => hs_.elim))
  (case sidehc1_0 => exact HCHR25.out)
  rintro e w28 ⟨v32, rfl, hov0__, hb_⟩
  refine ⟨_, rfl, ?_⟩
  (try clear hczgb1_0)
  (try clear hfzgb1_0)
  (try clear hczgb3_0)
  (try clear hfzgb3_0)
  (try clear hczgb3_1)
  (try clear hfzgb3_1)
  obtain ⟨hk_, hs1_, hs2_, hw_⟩ := ev_kept (S := (fun _ => False)) HS.out HB.out hb_ (by repeat (first | (with_reducible first | exact Kept.refl _ _ | apply Kept.alloc | apply Kept.drewN | apply Kept.drew) | exact Kept.refl _ _))
  have hB_ := below_step (by repeat (first | (with_reducible first | exact HB.out | apply below_alloc | apply pw_below_drewN | apply below_drew1 | refine below_set ?_ GEgb1.out | refine below_set ?_ GEgb3.out) | exact HB.out)) hb_
  have n0_ := Aside0.mk (Kd.F_kept FA0_0.out hk_ (fun _ _ hs_ => hs_.elim))
  have n1_ := Aside0.mk (Kd.F_kept FA1_0.out hk_ (fun _ _ hs_ => hs_.elim))
  have n2_ := Aside0.mk (blk_below (g := gb1) (o := .cells #[.slice A0_0 l0_0.length c0_0] 30 (0, 0)) (by (with_reducible repeat (first | refine blk_drewN ?_ _ | refine blk_drew ?_ | refine blk_alloc ?_ _)); exact BKgb1.out) hb_)
  have n3_ := Aside0.mk (blk_below (g := gb3) (o := .cells #[.slice A1_0 l1_0.length c1_0, .int .i64 a1_1] 44 (0, 0)) (by (with_reducible repeat (first | refine blk_drewN ?_ _ | refine blk_drew ?_ | refine blk_alloc ?_ _)); exact BKgb3.out) hb_)
  have n4_ := Aside0.mk (Kd.S_kept HS17.out hk_ (fun _ _ hs_ => hs_.elim))
  have n5_ := Aside0.mk (Kd.R_kept HR25.out hk_ (fun _ _ hs_ => hs_.elim))
  have ns_ := Aside0.mk (Nat.le_trans (Nat.le_trans hs1_ hs2_) (Nat.le_refl _))
  have nB_ := Aside0.mk hB_
  obtain ⟨lo33, hi34, c1_, c2_, c3_, h_⟩ := R_new hov0__ hs2_ hw_ hs1_
  have HR35 := Aside0.mk h_
  obtain ⟨Ao36, co37, eo_⟩ := Kd.R_slice HR35.out
  subst eo_
  have HCHR35 := Aside0.mk (Kd.R_reads' HR35.out).2.1
  clear h_ hov0__
  have nc_ := Aside0.mk (And.intro c1_ (And.intro c2_ CH.out))
  clear CH ns_
  have CH := nc_
  have ns_ := Aside0.mk c3_
  clear nc_ c1_ c2_ c3_
  clear HB HS FA0_0 FA1_0 BKgb1 BKgb3 HS17 HR25
  have FA0_0 := n0_
  have FA1_0 := n1_
  have BKgb1 := n2_
  have BKgb3 := n3_
  have HS17 := n4_
  have HR25 := n5_
  have HB := nB_
  have HS := ns_
  clear nB_ ns_ n0_ n1_ n2_ n3_ n4_ n5_
  clear hk_ hs1_ hs2_ hw_ hB_ hb_
  refine hK.out _ _ ⟨(blk_cell BKgb1.out 0).trans rfl, (blk_cell BKgb3.out 0).trans rfl, (blk_cell BKgb3.out 1).trans rfl⟩ (fun hHeld => ?_)
  clear hK K
  refine norm_ (a' := ?_) ?_ ?_
  rotate_left
  · show Act.put _ (some 32) _ = _
    simp only [Act.put, List.setIfInBounds_toArray, List.set_cons_zero, List.set_cons_succ, i64_w, i32_w]
    rfl
  refine pure_ (i := 5) (N := some 27) (v := ?_) (a' := ?_) #[true, true, true, true, true, true, false, false, false, false] rfl rfl (by kernel_rfl) (fun _ _ _ h => h) (Or.inl ⟨by rfl, ?_⟩) ?_ ?_
  rotate_left
  · intro w'
    go_simp
    with_reducible rfl
  rotate_left
  · simp only [Act.put, List.setIfInBounds_toArray, List.set_cons_zero, List.set_cons_succ, i64_w, i32_w]
    rfl
  refine pure_ (i := 6) (N := some 33) (v := ?_) (a' := ?_) #[true, true, true, true, true, true, true, false, false, false] rfl rfl (by kernel_rfl) (fun _ _ _ h => h) (Or.inl ⟨by rfl, ?_⟩) ?_ ?_
  rotate_left
  · intro w'
    go_simp
    with_reducible rfl
  rotate_left
  · simp only [Act.put, List.setIfInBounds_toArray, List.set_cons_zero, List.set_cons_succ, i64_w, i32_w]
    rfl
  refine pure_ (i := 7) (N := some 34) (v := ?_) (a' := ?_) #[true, true, true, true, true, true, true, true, false, false] rfl rfl (by kernel_rfl) (fun _ _ _ h => h) (Or.inl ⟨by rfl, ?_⟩) ?_ ?_
  rotate_left
  · intro w'
    go_simp
    with_reducible rfl
  rotate_left
  · simp only [Act.put, List.setIfInBounds_toArray, List.set_cons_zero, List.set_cons_succ, i64_w, i32_w]
    rfl
  refine pure_ (i := 8) (N := some 6) (v := ?_) (a' := ?_) #[true, true, true, true, true, true, true, true, true, false] rfl rfl (by kernel_rfl) (fun _ _ _ h => h) (Or.inl ⟨by rfl, ?_⟩) ?_ ?_
  rotate_left
  · intro w'
    go_simp
    with_reducible rfl
  rotate_left
  · simp only [Act.put, List.setIfInBounds_toArray, List.set_cons_zero, List.set_cons_succ, i64_w, i32_w]
    rfl
  refine pure_ (i := 9) (N := some 7) (v := ?_) (a' := ?_) #[true, true, true, true, true, true, true, true, true, true] rfl rfl (by kernel_rfl) (fun _ _ _ h => h) (Or.inl ⟨by rfl, ?_⟩) ?_ ?_
  rotate_left
  · intro w'
    go_simp
    with_reducible rfl
  rotate_left
  · simp only [Act.put, List.setIfInBounds_toArray, List.set_cons_zero, List.set_cons_succ, i64_w, i32_w]
    rfl
  refine done_ (by kernel_rfl) ?_
  go_wp2_with (first | ((with_reducible refine gate_callee (f := 16) rfl ?_); refine goesL_ (some 36) rfl rfl Try.func16 (by kernel_rfl) rfl #[.agg #[.slice A0_0 l0_0.length c0_0]] rfl (by (try simp only [List.map_toArray, List.map_cons, List.map_nil]); first | done | rfl | (simp only [List.length_drop, List.length_take]; rfl)) ?_; (with_reducible refine (laws_toGraph.calls KE13 _ _ l0_0 l0_0 _ ?sidehr0_0 ?sidehc0_0 E13.out).mono ?_); (case sidehr0_0 => exact F_at (S := (fun _ => False)) FA0_0.out (by repeat (first | (with_reducible first | exact Kept.refl _ _ | apply Kept.alloc | apply Kept.drewN | apply Kept.drew) | exact Kept.refl _ _)) (fun _ _ hs_ => hs_.elim)); (case sidehc0_0 => exact HC0_0.out); rintro e w38 ⟨v39, rfl, hov0__, hb_⟩; refine ⟨_, rfl, ?_⟩; (try clear hczgb1_0); (try clear hfzgb1_0); (try clear hczgb3_0); (try clear hfzgb3_0); (try clear hczgb3_1); (try clear hfzgb3_1); obtain ⟨hk_, hs1_, hs2_, hw_⟩ := ev_kept (S := (fun _ => False)) HS.out HB.out hb_ (by repeat (first | (with_reducible first | exact Kept.refl _ _ | apply Kept.alloc | apply Kept.drewN | apply Kept.drew) | exact Kept.refl _ _)); have hB_ := below_step (by repeat (first | (with_reducible first | exact HB.out | apply below_alloc | apply pw_below_drewN | apply below_drew1 | refine below_set ?_ GEgb1.out | refine below_set ?_ GEgb3.out) | exact HB.out)) hb_; have n0_ := Aside0.mk (Kd.F_kept FA0_0.out hk_ (fun _ _ hs_ => hs_.elim)); have n1_ := Aside0.mk (Kd.F_kept FA1_0.out hk_ (fun _ _ hs_ => hs_.elim)); have n2_ := Aside0.mk (blk_below (g := gb1) (o := .cells #[.slice A0_0 l0_0.length c0_0] 30 (0, 0)) (by (with_reducible repeat (first | refine blk_drewN ?_ _ | refine blk_drew ?_ | refine blk_alloc ?_ _)); exact BKgb1.out) hb_); have n3_ := Aside0.mk (blk_below (g := gb3) (o := .cells #[.slice A1_0 l1_0.length c1_0, .int .i64 a1_1] 44 (0, 0)) (by (with_reducible repeat (first | refine blk_drewN ?_ _ | refine blk_drew ?_ | refine blk_alloc ?_ _)); exact BKgb3.out) hb_); have n4_ := Aside0.mk (Kd.S_kept HS17.out hk_ (fun _ _ hs_ => hs_.elim)); have n5_ := Aside0.mk (Kd.R_kept HR25.out hk_ (fun _ _ hs_ => hs_.elim)); have n6_ := Aside0.mk (Kd.R_kept HR35.out hk_ (fun _ _ hs_ => hs_.elim)); have ns_ := Aside0.mk (Nat.le_trans (Nat.le_trans hs1_ hs2_) (Nat.le_refl _)); have nB_ := Aside0.mk hB_; obtain ⟨lo40, hi41, c1_, c2_, c3_, h_⟩ := S_new hov0__ hs2_ hw_ hs1_; have HS42 := Aside0.mk h_; obtain ⟨Ao43, co44, eo_⟩ := Kd.S_slice HS42.out; subst eo_; have HCHS42 := Aside0.mk (Kd.S_reads' HS42.out).2.1; clear h_ hov0__; have nc_ := Aside0.mk (And.intro c1_ (And.intro c2_ CH.out)); clear CH ns_; have CH := nc_; have ns_ := Aside0.mk c3_; clear nc_ c1_ c2_ c3_; clear HB HS FA0_0 FA1_0 BKgb1 BKgb3 HS17 HR25 HR35; have FA0_0 := n0_; have FA1_0 := n1_; have BKgb1 := n2_; have BKgb3 := n3_; have HS17 := n4_; have HR25 := n5_; have HR35 := n6_; have HB := nB_; have HS := ns_; clear nB_ ns_ n0_ n1_ n2_ n3_ n4_ n5_ n6_; clear hk_ hs1_ hs2_ hw_ hB_ hb_; have hczgb1_0 : w38.cell? ⟨gb1, 0, none⟩ = some (.slice A0_0 l0_0.length c0_0) := (blk_cell BKgb1.out 0).trans rfl; have hfzgb1_0 := blk_frozen BKgb1.out 0; have hczgb3_0 : w38.cell? ⟨gb3, 0, none⟩ = some (.slice A1_0 l1_0.length c1_0) := (blk_cell BKgb3.out 0).trans rfl; have hczgb3_1 : w38.cell? ⟨gb3, 1, none⟩ = some (.int .i64 a1_1) := (blk_cell BKgb3.out 1).trans rfl; have hfzgb3_0 := blk_frozen BKgb3.out 0; have hfzgb3_1 := blk_frozen BKgb3.out 1; have hnbgb1gb3 : gb1 ≠ gb3 := (by have := CH.out; omega); have hnbgb3gb1 : gb3 ≠ gb1 := (by have := CH.out; omega)) | ((with_reducible refine gate_dst (N := 8) rfl ?_); refine box_event ?hg (N := 8) ?hd (cs := #[.slice none 0 0]) (t := 24) ?hr ?_; (case hd => rfl); (case hg => rfl); (case hr => first | (go_simp; done) | (go_simp; rfl)); intro gb45 hg_ w46 hbox_ hb_; (try clear hczgb1_0); (try clear hfzgb1_0); (try clear hczgb3_0); (try clear hfzgb3_0); (try clear hczgb3_1); (try clear hfzgb3_1); obtain ⟨hk_, hs1_, hs2_, hw0_⟩ := ev_kept (S := (fun _ => False)) HS.out HB.out hb_ (by repeat (first | (with_reducible first | exact Kept.refl _ _ | apply Kept.alloc | apply Kept.drewN | apply Kept.drew) | exact Kept.refl _ _)); have hw_ : w.heap.size ≤ gb45 := (by rw [hg_]; exact hw0_); have hB_ := below_step (by repeat (first | (with_reducible first | exact HB.out | apply below_alloc | apply pw_below_drewN | apply below_drew1 | refine below_set ?_ GEgb1.out | refine below_set ?_ GEgb3.out) | exact HB.out)) hb_; have n0_ := Aside0.mk (Kd.F_kept FA0_0.out hk_ (fun _ _ hs_ => hs_.elim)); have n1_ := Aside0.mk (Kd.F_kept FA1_0.out hk_ (fun _ _ hs_ => hs_.elim)); have n2_ := Aside0.mk (blk_below (g := gb1) (o := .cells #[.slice A0_0 l0_0.length c0_0] 30 (0, 0)) (by (with_reducible repeat (first | refine blk_drewN ?_ _ | refine blk_drew ?_ | refine blk_alloc ?_ _)); exact BKgb1.out) hb_); have n3_ := Aside0.mk (blk_below (g := gb3) (o := .cells #[.slice A1_0 l1_0.length c1_0, .int .i64 a1_1] 44 (0, 0)) (by (with_reducible repeat (first | refine blk_drewN ?_ _ | refine blk_drew ?_ | refine blk_alloc ?_ _)); exact BKgb3.out) hb_); have n4_ := Aside0.mk (Kd.S_kept HS17.out hk_ (fun _ _ hs_ => hs_.elim)); have n5_ := Aside0.mk (Kd.R_kept HR25.out hk_ (fun _ _ hs_ => hs_.elim)); have n6_ := Aside0.mk (Kd.R_kept HR35.out hk_ (fun _ _ hs_ => hs_.elim)); have n7_ := Aside0.mk (Kd.S_kept HS42.out hk_ (fun _ _ hs_ => hs_.elim)); have hS_ : hi41 ≤ gb45 := (by rw [hg_]; exact hs1_); have nb_ := Aside0.mk hbox_; have ns_ := Aside0.mk (box_in hbox_); have nc_ := Aside0.mk (And.intro hS_ CH.out); have ng_ := Aside0.mk hw_; have nB_ := Aside0.mk hB_; clear HB HS CH FA0_0 FA1_0 BKgb1 BKgb3 HS17 HR25 HR35 HS42; have FA0_0 := n0_; have FA1_0 := n1_; have BKgb1 := n2_; have BKgb3 := n3_; have HS17 := n4_; have HR25 := n5_; have HR35 := n6_; have HS42 := n7_; have HB := nB_; have HS := ns_; have CH := nc_; have BKgb45 := nb_; have GEgb45 := ng_; clear nB_ ns_ nc_ nb_ ng_ n0_ n1_ n2_ n3_ n4_ n5_ n6_ n7_; clear hk_ hs1_ hs2_ hw_ hw0_ hB_ hS_ hb_ hbox_ hg_; have hczgb1_0 : w46.cell? ⟨gb1, 0, none⟩ = some (.slice A0_0 l0_0.length c0_0) := (blk_cell BKgb1.out 0).trans rfl; have hfzgb1_0 := blk_frozen BKgb1.out 0; have hczgb3_0 : w46.cell? ⟨gb3, 0, none⟩ = some (.slice A1_0 l1_0.length c1_0) := (blk_cell BKgb3.out 0).trans rfl; have hczgb3_1 : w46.cell? ⟨gb3, 1, none⟩ = some (.int .i64 a1_1) := (blk_cell BKgb3.out 1).trans rfl; have hfzgb3_0 := blk_frozen BKgb3.out 0; have hfzgb3_1 := blk_frozen BKgb3.out 1; have hczgb45_0 : w46.cell? ⟨gb45, 0, none⟩ = some (.slice none 0 0) := (blk_cell BKgb45.out 0).trans rfl; have hfzgb45_0 := blk_frozen BKgb45.out 0; have hnbgb1gb3 : gb1 ≠ gb3 := (by have := CH.out; omega); have hnbgb1gb45 : gb1 ≠ gb45 := (by have := CH.out; omega); have hnbgb3gb1 : gb3 ≠ gb1 := (by have := CH.out; omega); have hnbgb3gb45 : gb3 ≠ gb45 := (by have := CH.out; omega); have hnbgb45gb1 : gb45 ≠ gb1 := (by have := CH.out; omega); have hnbgb45gb3 : gb45 ≠ gb3 := (by have := CH.out; omega)) | ((with_reducible refine gate_callee (f := 26) rfl ?_); refine goesL_ (some 38) rfl rfl Try.func26 (by kernel_rfl) rfl #[.agg #[.slice A1_0 l1_0.length c1_0, .int .i64 a1_1]] rfl (by (try simp only [List.map_toArray, List.map_cons, List.map_nil]); first | done | rfl | (simp only [List.length_drop, List.length_take]; rfl)) ?_; (with_reducible refine (laws_toWalk.calls KE21 _ _ l1_0 a1_1 l1_0 a1_1 _ ?sidehr0_0 ?sidehc0_0 E21.out).mono ?_); (case sidehr0_0 => exact F_at (S := (fun k_ => k_ = gb45)) FA1_0.out (by repeat (first | (with_reducible first | exact Kept.refl _ _ | apply Kept.alloc | apply Kept.drewN | apply Kept.drew) | refine Kept.setCell ?_ (Or.inl (show gb45 = gb45 from rfl)) _ | exact Kept.refl _ _)) (fun k_ h_ hs_ => by have h1_ : k_ < s0 := h_; have g1_ : k_ = gb45 := hs_; have := CH.out; omega)); (case sidehc0_0 => exact HC1_0.out); rintro e w47 ⟨v48, rfl, hov0__, hb_⟩; refine ⟨_, rfl, ?_⟩; (try clear hczgb1_0); (try clear hfzgb1_0); (try clear hczgb3_0); (try clear hfzgb3_0); (try clear hczgb3_1); (try clear hfzgb3_1); (try clear hczgb45_0); (try clear hfzgb45_0); obtain ⟨hk_, hs1_, hs2_, hw_⟩ := ev_kept (S := (fun k_ => k_ = gb45)) HS.out HB.out hb_ (by repeat (first | (with_reducible first | exact Kept.refl _ _ | apply Kept.alloc | apply Kept.drewN | apply Kept.drew) | refine Kept.setCell ?_ (Or.inl (show gb45 = gb45 from rfl)) _ | exact Kept.refl _ _)); have hB_ := below_step (by repeat (first | (with_reducible first | exact HB.out | apply below_alloc | apply pw_below_drewN | apply below_drew1 | refine below_set ?_ GEgb1.out | refine below_set ?_ GEgb3.out | refine below_set ?_ GEgb45.out) | exact HB.out)) hb_; have n0_ := Aside0.mk (Kd.F_kept FA0_0.out hk_ (fun k_ h_ hs_ => by have h1_ : k_ < s0 := h_; have g1_ : k_ = gb45 := hs_; have := CH.out; omega)); have n1_ := Aside0.mk (Kd.F_kept FA1_0.out hk_ (fun k_ h_ hs_ => by have h1_ : k_ < s0 := h_; have g1_ : k_ = gb45 := hs_; have := CH.out; omega)); have n2_ := Aside0.mk (blk_below (g := gb1) (o := .cells #[.slice A0_0 l0_0.length c0_0] 30 (0, 0)) (by (with_reducible repeat (first | refine blk_drewN ?_ _ | refine blk_drew ?_ | refine blk_alloc ?_ _)); refine blk_far ?_ (by have := CH.out; omega) _; (with_reducible repeat (first | refine blk_drewN ?_ _ | refine blk_drew ?_ | refine blk_alloc ?_ _)); exact BKgb1.out) hb_); have n3_ := Aside0.mk (blk_below (g := gb3) (o := .cells #[.slice A1_0 l1_0.length c1_0, .int .i64 a1_1] 44 (0, 0)) (by (with_reducible repeat (first | refine blk_drewN ?_ _ | refine blk_drew ?_ | refine blk_alloc ?_ _)); refine blk_far ?_ (by have := CH.out; omega) _; (with_reducible repeat (first | refine blk_drewN ?_ _ | refine blk_drew ?_ | refine blk_alloc ?_ _)); exact BKgb3.out) hb_); have n4_ := Aside0.mk (Kd.S_kept HS17.out hk_ (fun k_ h_ hs_ => by obtain ⟨h1_, h2_⟩ := h_; have g1_ : k_ = gb45 := hs_; have := CH.out; omega)); have n5_ := Aside0.mk (Kd.R_kept HR25.out hk_ (fun k_ h_ hs_ => by obtain ⟨h1_, h2_⟩ := h_; have g1_ : k_ = gb45 := hs_; have := CH.out; omega)); have n6_ := Aside0.mk (Kd.R_kept HR35.out hk_ (fun k_ h_ hs_ => by obtain ⟨h1_, h2_⟩ := h_; have g1_ : k_ = gb45 := hs_; have := CH.out; omega)); have n7_ := Aside0.mk (Kd.S_kept HS42.out hk_ (fun k_ h_ hs_ => by obtain ⟨h1_, h2_⟩ := h_; have g1_ : k_ = gb45 := hs_; have := CH.out; omega)); have n8_ := Aside0.mk (blk_below (g := gb45) (o := .cells #[.slice Ao43 l0_0.length co44] 24 (0, 0)) (by (with_reducible repeat (first | refine blk_drewN ?_ _ | refine blk_drew ?_ | refine blk_alloc ?_ _)); refine blk_put (cs := #[.slice none 0 0]) ?_ 0 _ rfl; (with_reducible repeat (first | refine blk_drewN ?_ _ | refine blk_drew ?_ | refine blk_alloc ?_ _)); exact BKgb45.out) hb_); have ns_ := Aside0.mk (Nat.le_trans (Nat.le_trans hs1_ hs2_) (Nat.le_refl _)); have nB_ := Aside0.mk hB_; obtain ⟨lo49, hi50, c1_, c2_, c3_, h_⟩ := R_new hov0__ hs2_ hw_ hs1_; have HR51 := Aside0.mk h_; obtain ⟨Ao52, co53, eo_⟩ := Kd.R_slice HR51.out; subst eo_; have HCHR51 := Aside0.mk (Kd.R_reads' HR51.out).2.1; clear h_ hov0__; have nc_ := Aside0.mk (And.intro c1_ (And.intro c2_ CH.out)); clear CH ns_; have CH := nc_; have ns_ := Aside0.mk c3_; clear nc_ c1_ c2_ c3_; clear HB HS FA0_0 FA1_0 BKgb1 BKgb3 HS17 HR25 HR35 HS42 BKgb45; have FA0_0 := n0_; have FA1_0 := n1_; have BKgb1 := n2_; have BKgb3 := n3_; have HS17 := n4_; have HR25 := n5_; have HR35 := n6_; have HS42 := n7_; have BKgb45 := n8_; have HB := nB_; have HS := ns_; clear nB_ ns_ n0_ n1_ n2_ n3_ n4_ n5_ n6_ n7_ n8_; clear hk_ hs1_ hs2_ hw_ hB_ hb_; have hczgb1_0 : w47.cell? ⟨gb1, 0, none⟩ = some (.slice A0_0 l0_0.length c0_0) := (blk_cell BKgb1.out 0).trans rfl; have hfzgb1_0 := blk_frozen BKgb1.out 0; have hczgb3_0 : w47.cell? ⟨gb3, 0, none⟩ = some (.slice A1_0 l1_0.length c1_0) := (blk_cell BKgb3.out 0).trans rfl; have hczgb3_1 : w47.cell? ⟨gb3, 1, none⟩ = some (.int .i64 a1_1) := (blk_cell BKgb3.out 1).trans rfl; have hfzgb3_0 := blk_frozen BKgb3.out 0; have hfzgb3_1 := blk_frozen BKgb3.out 1; have hczgb45_0 : w47.cell? ⟨gb45, 0, none⟩ = some (.slice Ao43 l0_0.length co44) := (blk_cell BKgb45.out 0).trans rfl; have hfzgb45_0 := blk_frozen BKgb45.out 0; have hnbgb1gb3 : gb1 ≠ gb3 := (by have := CH.out; omega); have hnbgb1gb45 : gb1 ≠ gb45 := (by have := CH.out; omega); have hnbgb3gb1 : gb3 ≠ gb1 := (by have := CH.out; omega); have hnbgb3gb45 : gb3 ≠ gb45 := (by have := CH.out; omega); have hnbgb45gb1 : gb45 ≠ gb1 := (by have := CH.out; omega); have hnbgb45gb3 : gb45 ≠ gb3 := (by have := CH.out; omega)) | ((with_reducible refine gate_dst (N := 9) rfl ?_); refine box_event ?hg (N := 9) ?hd (cs := #[.slice none 0 0, .int .i64 0]) (t := 34) ?hr ?_; (case hd => rfl); (case hg => rfl); (case hr => first | (go_simp; done) | (go_simp; rfl)); intro gb54 hg_ w55 hbox_ hb_; (try clear hczgb1_0); (try clear hfzgb1_0); (try clear hczgb3_0); (try clear hfzgb3_0); (try clear hczgb3_1); (try clear hfzgb3_1); (try clear hczgb45_0); (try clear hfzgb45_0); obtain ⟨hk_, hs1_, hs2_, hw0_⟩ := ev_kept (S := (fun _ => False)) HS.out HB.out hb_ (by repeat (first | (with_reducible first | exact Kept.refl _ _ | apply Kept.alloc | apply Kept.drewN | apply Kept.drew) | exact Kept.refl _ _)); have hw_ : w.heap.size ≤ gb54 := (by rw [hg_]; exact hw0_); have hB_ := below_step (by repeat (first | (with_reducible first | exact HB.out | apply below_alloc | apply pw_below_drewN | apply below_drew1 | refine below_set ?_ GEgb1.out | refine below_set ?_ GEgb3.out | refine below_set ?_ GEgb45.out) | exact HB.out)) hb_; have n0_ := Aside0.mk (Kd.F_kept FA0_0.out hk_ (fun _ _ hs_ => hs_.elim)); have n1_ := Aside0.mk (Kd.F_kept FA1_0.out hk_ (fun _ _ hs_ => hs_.elim)); have n2_ := Aside0.mk (blk_below (g := gb1) (o := .cells #[.slice A0_0 l0_0.length c0_0] 30 (0, 0)) (by (with_reducible repeat (first | refine blk_drewN ?_ _ | refine blk_drew ?_ | refine blk_alloc ?_ _)); exact BKgb1.out) hb_); have n3_ := Aside0.mk (blk_below (g := gb3) (o := .cells #[.slice A1_0 l1_0.length c1_0, .int .i64 a1_1] 44 (0, 0)) (by (with_reducible repeat (first | refine blk_drewN ?_ _ | refine blk_drew ?_ | refine blk_alloc ?_ _)); exact BKgb3.out) hb_); have n4_ := Aside0.mk (Kd.S_kept HS17.out hk_ (fun _ _ hs_ => hs_.elim)); have n5_ := Aside0.mk (Kd.R_kept HR25.out hk_ (fun _ _ hs_ => hs_.elim)); have n6_ := Aside0.mk (Kd.R_kept HR35.out hk_ (fun _ _ hs_ => hs_.elim)); have n7_ := Aside0.mk (Kd.S_kept HS42.out hk_ (fun _ _ hs_ => hs_.elim)); have n8_ := Aside0.mk (blk_below (g := gb45) (o := .cells #[.slice Ao43 l0_0.length co44] 24 (0, 0)) (by (with_reducible repeat (first | refine blk_drewN ?_ _ | refine blk_drew ?_ | refine blk_alloc ?_ _)); exact BKgb45.out) hb_); have n9_ := Aside0.mk (Kd.R_kept HR51.out hk_ (fun _ _ hs_ => hs_.elim)); have hS_ : hi50 ≤ gb54 := (by rw [hg_]; exact hs1_); have nb_ := Aside0.mk hbox_; have ns_ := Aside0.mk (box_in hbox_); have nc_ := Aside0.mk (And.intro hS_ CH.out); have ng_ := Aside0.mk hw_; have nB_ := Aside0.mk hB_; clear HB HS CH FA0_0 FA1_0 BKgb1 BKgb3 HS17 HR25 HR35 HS42 BKgb45 HR51; have FA0_0 := n0_; have FA1_0 := n1_; have BKgb1 := n2_; have BKgb3 := n3_; have HS17 := n4_; have HR25 := n5_; have HR35 := n6_; have HS42 := n7_; have BKgb45 := n8_; have HR51 := n9_; have HB := nB_; have HS := ns_; have CH := nc_; have BKgb54 := nb_; have GEgb54 := ng_; clear nB_ ns_ nc_ nb_ ng_ n0_ n1_ n2_ n3_ n4_ n5_ n6_ n7_ n8_ n9_; clear hk_ hs1_ hs2_ hw_ hw0_ hB_ hS_ hb_ hbox_ hg_; have hczgb1_0 : w55.cell? ⟨gb1, 0, none⟩ = some (.slice A0_0 l0_0.length c0_0) := (blk_cell BKgb1.out 0).trans rfl; have hfzgb1_0 := blk_frozen BKgb1.out 0; have hczgb3_0 : w55.cell? ⟨gb3, 0, none⟩ = some (.slice A1_0 l1_0.length c1_0) := (blk_cell BKgb3.out 0).trans rfl; have hczgb3_1 : w55.cell? ⟨gb3, 1, none⟩ = some (.int .i64 a1_1) := (blk_cell BKgb3.out 1).trans rfl; have hfzgb3_0 := blk_frozen BKgb3.out 0; have hfzgb3_1 := blk_frozen BKgb3.out 1; have hczgb45_0 : w55.cell? ⟨gb45, 0, none⟩ = some (.slice Ao43 l0_0.length co44) := (blk_cell BKgb45.out 0).trans rfl; have hfzgb45_0 := blk_frozen BKgb45.out 0; have hczgb54_0 : w55.cell? ⟨gb54, 0, none⟩ = some (.slice none 0 0) := (blk_cell BKgb54.out 0).trans rfl; have hczgb54_1 : w55.cell? ⟨gb54, 1, none⟩ = some (.int .i64 0) := (blk_cell BKgb54.out 1).trans rfl; have hfzgb54_0 := blk_frozen BKgb54.out 0; have hfzgb54_1 := blk_frozen BKgb54.out 1; have hnbgb1gb3 : gb1 ≠ gb3 := (by have := CH.out; omega); have hnbgb1gb45 : gb1 ≠ gb45 := (by have := CH.out; omega); have hnbgb1gb54 : gb1 ≠ gb54 := (by have := CH.out; omega); have hnbgb3gb1 : gb3 ≠ gb1 := (by have := CH.out; omega); have hnbgb3gb45 : gb3 ≠ gb45 := (by have := CH.out; omega); have hnbgb3gb54 : gb3 ≠ gb54 := (by have := CH.out; omega); have hnbgb45gb1 : gb45 ≠ gb1 := (by have := CH.out; omega); have hnbgb45gb3 : gb45 ≠ gb3 := (by have := CH.out; omega); have hnbgb45gb54 : gb45 ≠ gb54 := (by have := CH.out; omega); have hnbgb54gb1 : gb54 ≠ gb1 := (by have := CH.out; omega); have hnbgb54gb3 : gb54 ≠ gb3 := (by have := CH.out; omega); have hnbgb54gb45 : gb54 ≠ gb45 := (by have := CH.out; omega)) | ((with_reducible refine gate_callee (f := 30) rfl ?_); refine goesL_ (some 42) rfl rfl Try.func30 (by kernel_rfl) rfl #[.agg #[.slice Ao43 l0_0.length co44], .agg #[.slice Ao52 l1_0.length co53, .int .i64 a1_1]] rfl (by (try simp only [List.map_toArray, List.map_cons, List.map_nil]); first | done | rfl | (simp only [List.length_drop, List.length_take]; rfl)) ?_; (with_reducible refine (impl_TreeOfUnicycle.calls KE57 _ _ l0_0 _ _ l1_0 a1_1 x29 x30 _ ?sidehr0_0 ?sidehc0_0 ?sidehr1_0 ?sidehc1_0 E57.out).mono ?_); (case sidehr0_0 => exact S_now (S := (fun k_ => k_ = gb54)) HS42.out (by repeat (first | (with_reducible first | exact Kept.refl _ _ | apply Kept.alloc | apply Kept.drewN | apply Kept.drew) | refine Kept.setCell ?_ (Or.inl (show gb54 = gb54 from rfl)) _ | exact Kept.refl _ _)) (fun k_ h_ hs_ => by obtain ⟨h1_, h2_⟩ := h_; have g1_ : k_ = gb54 := hs_; have := CH.out; omega)); (case sidehc0_0 => exact HCHS42.out); (case sidehr1_0 => exact R_now (S := (fun k_ => k_ = gb54)) HR51.out (by repeat (first | (with_reducible first | exact Kept.refl _ _ | apply Kept.alloc | apply Kept.drewN | apply Kept.drew) | refine Kept.setCell ?_ (Or.inl (show gb54 = gb54 from rfl)) _ | exact Kept.refl _ _)) (fun k_ h_ hs_ => by obtain ⟨h1_, h2_⟩ := h_; have g1_ : k_ = gb54 := hs_; have := CH.out; omega)); (case sidehc1_0 => exact HCHR51.out); rintro e w56 ⟨v58, rfl, hov0__, hb_⟩; refine ⟨_, rfl, ?_⟩; (try clear hczgb1_0); (try clear hfzgb1_0); (try clear hczgb3_0); (try clear hfzgb3_0); (try clear hczgb3_1); (try clear hfzgb3_1); (try clear hczgb45_0); (try clear hfzgb45_0); (try clear hczgb54_0); (try clear hfzgb54_0); (try clear hczgb54_1); (try clear hfzgb54_1); obtain ⟨hk_, hs1_, hs2_, hw_⟩ := ev_kept (S := (fun k_ => k_ = gb54)) HS.out HB.out hb_ (by repeat (first | (with_reducible first | exact Kept.refl _ _ | apply Kept.alloc | apply Kept.drewN | apply Kept.drew) | refine Kept.setCell ?_ (Or.inl (show gb54 = gb54 from rfl)) _ | exact Kept.refl _ _)); have hB_ := below_step (by repeat (first | (with_reducible first | exact HB.out | apply below_alloc | apply pw_below_drewN | apply below_drew1 | refine below_set ?_ GEgb1.out | refine below_set ?_ GEgb3.out | refine below_set ?_ GEgb45.out | refine below_set ?_ GEgb54.out) | exact HB.out)) hb_; have n0_ := Aside0.mk (Kd.F_kept FA0_0.out hk_ (fun k_ h_ hs_ => by have h1_ : k_ < s0 := h_; have g1_ : k_ = gb54 := hs_; have := CH.out; omega)); have n1_ := Aside0.mk (Kd.F_kept FA1_0.out hk_ (fun k_ h_ hs_ => by have h1_ : k_ < s0 := h_; have g1_ : k_ = gb54 := hs_; have := CH.out; omega)); have n2_ := Aside0.mk (blk_below (g := gb1) (o := .cells #[.slice A0_0 l0_0.length c0_0] 30 (0, 0)) (by (with_reducible repeat (first | refine blk_drewN ?_ _ | refine blk_drew ?_ | refine blk_alloc ?_ _)); refine blk_far ?_ (by have := CH.out; omega) _; (with_reducible repeat (first | refine blk_drewN ?_ _ | refine blk_drew ?_ | refine blk_alloc ?_ _)); refine blk_far ?_ (by have := CH.out; omega) _; (with_reducible repeat (first | refine blk_drewN ?_ _ | refine blk_drew ?_ | refine blk_alloc ?_ _)); exact BKgb1.out) hb_); have n3_ := Aside0.mk (blk_below (g := gb3) (o := .cells #[.slice A1_0 l1_0.length c1_0, .int .i64 a1_1] 44 (0, 0)) (by (with_reducible repeat (first | refine blk_drewN ?_ _ | refine blk_drew ?_ | refine blk_alloc ?_ _)); refine blk_far ?_ (by have := CH.out; omega) _; (with_reducible repeat (first | refine blk_drewN ?_ _ | refine blk_drew ?_ | refine blk_alloc ?_ _)); refine blk_far ?_ (by have := CH.out; omega) _; (with_reducible repeat (first | refine blk_drewN ?_ _ | refine blk_drew ?_ | refine blk_alloc ?_ _)); exact BKgb3.out) hb_); have n4_ := Aside0.mk (Kd.S_kept HS17.out hk_ (fun k_ h_ hs_ => by obtain ⟨h1_, h2_⟩ := h_; have g1_ : k_ = gb54 := hs_; have := CH.out; omega)); have n5_ := Aside0.mk (Kd.R_kept HR25.out hk_ (fun k_ h_ hs_ => by obtain ⟨h1_, h2_⟩ := h_; have g1_ : k_ = gb54 := hs_; have := CH.out; omega)); have n6_ := Aside0.mk (Kd.R_kept HR35.out hk_ (fun k_ h_ hs_ => by obtain ⟨h1_, h2_⟩ := h_; have g1_ : k_ = gb54 := hs_; have := CH.out; omega)); have n7_ := Aside0.mk (Kd.S_kept HS42.out hk_ (fun k_ h_ hs_ => by obtain ⟨h1_, h2_⟩ := h_; have g1_ : k_ = gb54 := hs_; have := CH.out; omega)); have n8_ := Aside0.mk (blk_below (g := gb45) (o := .cells #[.slice Ao43 l0_0.length co44] 24 (0, 0)) (by (with_reducible repeat (first | refine blk_drewN ?_ _ | refine blk_drew ?_ | refine blk_alloc ?_ _)); refine blk_far ?_ (by have := CH.out; omega) _; (with_reducible repeat (first | refine blk_drewN ?_ _ | refine blk_drew ?_ | refine blk_alloc ?_ _)); refine blk_far ?_ (by have := CH.out; omega) _; (with_reducible repeat (first | refine blk_drewN ?_ _ | refine blk_drew ?_ | refine blk_alloc ?_ _)); exact BKgb45.out) hb_); have n9_ := Aside0.mk (Kd.R_kept HR51.out hk_ (fun k_ h_ hs_ => by obtain ⟨h1_, h2_⟩ := h_; have g1_ : k_ = gb54 := hs_; have := CH.out; omega)); have n10_ := Aside0.mk (blk_below (g := gb54) (o := .cells #[.slice Ao52 l1_0.length co53, .int .i64 a1_1] 34 (0, 0)) (by (with_reducible repeat (first | refine blk_drewN ?_ _ | refine blk_drew ?_ | refine blk_alloc ?_ _)); refine blk_put (cs := #[.slice Ao52 l1_0.length co53, .int .i64 0]) ?_ 1 _ rfl; (with_reducible repeat (first | refine blk_drewN ?_ _ | refine blk_drew ?_ | refine blk_alloc ?_ _)); refine blk_put (cs := #[.slice none 0 0, .int .i64 0]) ?_ 0 _ rfl; (with_reducible repeat (first | refine blk_drewN ?_ _ | refine blk_drew ?_ | refine blk_alloc ?_ _)); exact BKgb54.out) hb_); have ns_ := Aside0.mk (Nat.le_trans (Nat.le_trans hs1_ hs2_) (Nat.le_refl _)); have nB_ := Aside0.mk hB_; obtain ⟨lo59, hi60, c1_, c2_, c3_, h_⟩ := R_new hov0__ hs2_ hw_ hs1_; have HR61 := Aside0.mk h_; obtain ⟨Ao62, co63, eo_⟩ := Kd.R_slice HR61.out; subst eo_; have HCHR61 := Aside0.mk (Kd.R_reads' HR61.out).2.1; clear h_ hov0__; have nc_ := Aside0.mk (And.intro c1_ (And.intro c2_ CH.out)); clear CH ns_; have CH := nc_; have ns_ := Aside0.mk c3_; clear nc_ c1_ c2_ c3_; clear HB HS FA0_0 FA1_0 BKgb1 BKgb3 HS17 HR25 HR35 HS42 BKgb45 HR51 BKgb54; have FA0_0 := n0_; have FA1_0 := n1_; have BKgb1 := n2_; have BKgb3 := n3_; have HS17 := n4_; have HR25 := n5_; have HR35 := n6_; have HS42 := n7_; have BKgb45 := n8_; have HR51 := n9_; have BKgb54 := n10_; have HB := nB_; have HS := ns_; clear nB_ ns_ n0_ n1_ n2_ n3_ n4_ n5_ n6_ n7_ n8_ n9_ n10_; clear hk_ hs1_ hs2_ hw_ hB_ hb_; have hczgb1_0 : w56.cell? ⟨gb1, 0, none⟩ = some (.slice A0_0 l0_0.length c0_0) := (blk_cell BKgb1.out 0).trans rfl; have hfzgb1_0 := blk_frozen BKgb1.out 0; have hczgb3_0 : w56.cell? ⟨gb3, 0, none⟩ = some (.slice A1_0 l1_0.length c1_0) := (blk_cell BKgb3.out 0).trans rfl; have hczgb3_1 : w56.cell? ⟨gb3, 1, none⟩ = some (.int .i64 a1_1) := (blk_cell BKgb3.out 1).trans rfl; have hfzgb3_0 := blk_frozen BKgb3.out 0; have hfzgb3_1 := blk_frozen BKgb3.out 1; have hczgb45_0 : w56.cell? ⟨gb45, 0, none⟩ = some (.slice Ao43 l0_0.length co44) := (blk_cell BKgb45.out 0).trans rfl; have hfzgb45_0 := blk_frozen BKgb45.out 0; have hczgb54_0 : w56.cell? ⟨gb54, 0, none⟩ = some (.slice Ao52 l1_0.length co53) := (blk_cell BKgb54.out 0).trans rfl; have hczgb54_1 : w56.cell? ⟨gb54, 1, none⟩ = some (.int .i64 a1_1) := (blk_cell BKgb54.out 1).trans rfl; have hfzgb54_0 := blk_frozen BKgb54.out 0; have hfzgb54_1 := blk_frozen BKgb54.out 1; have hnbgb1gb3 : gb1 ≠ gb3 := (by have := CH.out; omega); have hnbgb1gb45 : gb1 ≠ gb45 := (by have := CH.out; omega); have hnbgb1gb54 : gb1 ≠ gb54 := (by have := CH.out; omega); have hnbgb3gb1 : gb3 ≠ gb1 := (by have := CH.out; omega); have hnbgb3gb45 : gb3 ≠ gb45 := (by have := CH.out; omega); have hnbgb3gb54 : gb3 ≠ gb54 := (by have := CH.out; omega); have hnbgb45gb1 : gb45 ≠ gb1 := (by have := CH.out; omega); have hnbgb45gb3 : gb45 ≠ gb3 := (by have := CH.out; omega); have hnbgb45gb54 : gb45 ≠ gb54 := (by have := CH.out; omega); have hnbgb54gb1 : gb54 ≠ gb1 := (by have := CH.out; omega); have hnbgb54gb3 : gb54 ≠ gb3 := (by have := CH.out; omega); have hnbgb54gb45 : gb54 ≠ gb45 := (by have := CH.out; omega)) | ((with_reducible refine gate_callee (f := 20) rfl ?_); refine goesL_ (some 47) rfl rfl Try.func20 (by kernel_rfl) rfl #[.slice Ao62 x29.length co63, .slice Ao36 x29.length co37] rfl (by (try simp only [List.map_toArray, List.map_cons, List.map_nil]); first | done | rfl | (simp only [List.length_drop, List.length_take]; rfl)) ?_; (with_reducible refine (laws_eqIntS.calls KE65 _ _ x29 _ _ x29 true _ ?sidehr0 ?sidehc0 ?sidehr1 ?sidehc1 E65.out).mono ?_); (case sidehr0 => exact R_now (S := (fun _ => False)) HR61.out (by repeat (first | (with_reducible first | exact Kept.refl _ _ | apply Kept.alloc | apply Kept.drewN | apply Kept.drew) | exact Kept.refl _ _)) (fun _ _ hs_ => hs_.elim)); (case sidehc0 => exact HCHR61.out); (case sidehr1 => exact R_now (S := (fun _ => False)) HR35.out (by repeat (first | (with_reducible first | exact Kept.refl _ _ | apply Kept.alloc | apply Kept.drewN | apply Kept.drew) | exact Kept.refl _ _)) (fun _ _ hs_ => hs_.elim)); (case sidehc1 => exact HCHR35.out); rintro e w64 ⟨rfl, hd_⟩; refine ⟨_, rfl, ?_⟩; have hb_ := hd_.below; (try clear hczgb1_0); (try clear hfzgb1_0); (try clear hczgb3_0); (try clear hfzgb3_0); (try clear hczgb3_1); (try clear hfzgb3_1); (try clear hczgb45_0); (try clear hfzgb45_0); (try clear hczgb54_0); (try clear hfzgb54_0); (try clear hczgb54_1); (try clear hfzgb54_1); obtain ⟨hk_, hs1_, hs2_, hw_⟩ := ev_kept (S := (fun _ => False)) HS.out HB.out hb_ (by repeat (first | (with_reducible first | exact Kept.refl _ _ | apply Kept.alloc | apply Kept.drewN | apply Kept.drew) | exact Kept.refl _ _)); have hB_ := below_step (by repeat (first | (with_reducible first | exact HB.out | apply below_alloc | apply pw_below_drewN | apply below_drew1 | refine below_set ?_ GEgb1.out | refine below_set ?_ GEgb3.out | refine below_set ?_ GEgb45.out | refine below_set ?_ GEgb54.out) | exact HB.out)) hb_; have n0_ := Aside0.mk (Kd.F_kept FA0_0.out hk_ (fun _ _ hs_ => hs_.elim)); have n1_ := Aside0.mk (Kd.F_kept FA1_0.out hk_ (fun _ _ hs_ => hs_.elim)); have n2_ := Aside0.mk (blk_below (g := gb1) (o := .cells #[.slice A0_0 l0_0.length c0_0] 30 (0, 0)) (by (with_reducible repeat (first | refine blk_drewN ?_ _ | refine blk_drew ?_ | refine blk_alloc ?_ _)); exact BKgb1.out) hb_); have n3_ := Aside0.mk (blk_below (g := gb3) (o := .cells #[.slice A1_0 l1_0.length c1_0, .int .i64 a1_1] 44 (0, 0)) (by (with_reducible repeat (first | refine blk_drewN ?_ _ | refine blk_drew ?_ | refine blk_alloc ?_ _)); exact BKgb3.out) hb_); have n4_ := Aside0.mk (Kd.S_kept HS17.out hk_ (fun _ _ hs_ => hs_.elim)); have n5_ := Aside0.mk (Kd.R_kept HR25.out hk_ (fun _ _ hs_ => hs_.elim)); have n6_ := Aside0.mk (Kd.R_kept HR35.out hk_ (fun _ _ hs_ => hs_.elim)); have n7_ := Aside0.mk (Kd.S_kept HS42.out hk_ (fun _ _ hs_ => hs_.elim)); have n8_ := Aside0.mk (blk_below (g := gb45) (o := .cells #[.slice Ao43 l0_0.length co44] 24 (0, 0)) (by (with_reducible repeat (first | refine blk_drewN ?_ _ | refine blk_drew ?_ | refine blk_alloc ?_ _)); exact BKgb45.out) hb_); have n9_ := Aside0.mk (Kd.R_kept HR51.out hk_ (fun _ _ hs_ => hs_.elim)); have n10_ := Aside0.mk (blk_below (g := gb54) (o := .cells #[.slice Ao52 l1_0.length co53, .int .i64 a1_1] 34 (0, 0)) (by (with_reducible repeat (first | refine blk_drewN ?_ _ | refine blk_drew ?_ | refine blk_alloc ?_ _)); exact BKgb54.out) hb_); have n11_ := Aside0.mk (Kd.R_kept HR61.out hk_ (fun _ _ hs_ => hs_.elim)); have ns_ := Aside0.mk (Nat.le_trans (Nat.le_trans hs1_ hs2_) (Nat.le_refl _)); have nB_ := Aside0.mk hB_; clear HB HS FA0_0 FA1_0 BKgb1 BKgb3 HS17 HR25 HR35 HS42 BKgb45 HR51 BKgb54 HR61; have FA0_0 := n0_; have FA1_0 := n1_; have BKgb1 := n2_; have BKgb3 := n3_; have HS17 := n4_; have HR25 := n5_; have HR35 := n6_; have HS42 := n7_; have BKgb45 := n8_; have HR51 := n9_; have BKgb54 := n10_; have HR61 := n11_; have HB := nB_; have HS := ns_; clear nB_ ns_ n0_ n1_ n2_ n3_ n4_ n5_ n6_ n7_ n8_ n9_ n10_ n11_; clear hk_ hs1_ hs2_ hw_ hB_ hb_; clear hd_; have hczgb1_0 : w64.cell? ⟨gb1, 0, none⟩ = some (.slice A0_0 l0_0.length c0_0) := (blk_cell BKgb1.out 0).trans rfl; have hfzgb1_0 := blk_frozen BKgb1.out 0; have hczgb3_0 : w64.cell? ⟨gb3, 0, none⟩ = some (.slice A1_0 l1_0.length c1_0) := (blk_cell BKgb3.out 0).trans rfl; have hczgb3_1 : w64.cell? ⟨gb3, 1, none⟩ = some (.int .i64 a1_1) := (blk_cell BKgb3.out 1).trans rfl; have hfzgb3_0 := blk_frozen BKgb3.out 0; have hfzgb3_1 := blk_frozen BKgb3.out 1; have hczgb45_0 : w64.cell? ⟨gb45, 0, none⟩ = some (.slice Ao43 l0_0.length co44) := (blk_cell BKgb45.out 0).trans rfl; have hfzgb45_0 := blk_frozen BKgb45.out 0; have hczgb54_0 : w64.cell? ⟨gb54, 0, none⟩ = some (.slice Ao52 l1_0.length co53) := (blk_cell BKgb54.out 0).trans rfl; have hczgb54_1 : w64.cell? ⟨gb54, 1, none⟩ = some (.int .i64 a1_1) := (blk_cell BKgb54.out 1).trans rfl; have hfzgb54_0 := blk_frozen BKgb54.out 0; have hfzgb54_1 := blk_frozen BKgb54.out 1; have hnbgb1gb3 : gb1 ≠ gb3 := (by have := CH.out; omega); have hnbgb1gb45 : gb1 ≠ gb45 := (by have := CH.out; omega); have hnbgb1gb54 : gb1 ≠ gb54 := (by have := CH.out; omega); have hnbgb3gb1 : gb3 ≠ gb1 := (by have := CH.out; omega); have hnbgb3gb45 : gb3 ≠ gb45 := (by have := CH.out; omega); have hnbgb3gb54 : gb3 ≠ gb54 := (by have := CH.out; omega); have hnbgb45gb1 : gb45 ≠ gb1 := (by have := CH.out; omega); have hnbgb45gb3 : gb45 ≠ gb3 := (by have := CH.out; omega); have hnbgb45gb54 : gb45 ≠ gb54 := (by have := CH.out; omega); have hnbgb54gb1 : gb54 ≠ gb1 := (by have := CH.out; omega); have hnbgb54gb3 : gb54 ≠ gb3 := (by have := CH.out; omega); have hnbgb54gb45 : gb54 ≠ gb45 := (by have := CH.out; omega)))
  try go_wp2
  (try clear hczgb1_0)
  (try clear hfzgb1_0)
  (try clear hczgb3_0)
  (try clear hfzgb3_0)
  (try clear hczgb3_1)
  (try clear hfzgb3_1)
  (try clear hczgb45_0)
  (try clear hfzgb45_0)
  (try clear hczgb54_0)
  (try clear hfzgb54_0)
  (try clear hczgb54_1)
  (try clear hfzgb54_1)
  have n0_ := Aside0.mk (Kd.F_drew FA0_0.out)
  have n1_ := Aside0.mk (Kd.F_drew FA1_0.out)
  have n2_ := Aside0.mk (blk_drew BKgb1.out)
  have n3_ := Aside0.mk (blk_drew BKgb3.out)
  have n4_ := Aside0.mk (Kd.S_drew HS17.out)
  have n5_ := Aside0.mk (Kd.R_drew HR25.out)
  have n6_ := Aside0.mk (Kd.R_drew HR35.out)
  have n7_ := Aside0.mk (Kd.S_drew HS42.out)
  have n8_ := Aside0.mk (blk_drew BKgb45.out)
  have n9_ := Aside0.mk (Kd.R_drew HR51.out)
  have n10_ := Aside0.mk (blk_drew BKgb54.out)
  have n11_ := Aside0.mk (Kd.R_drew HR61.out)
  have nB_ := Aside0.mk (below_drew1 HB.out)
  have nS_ : Aside0 (hi60 ≤ w64.drew.heap.size) := ⟨HS.out⟩
  clear HB HS FA0_0 FA1_0 BKgb1 BKgb3 HS17 HR25 HR35 HS42 BKgb45 HR51 BKgb54 HR61
  have FA0_0 := n0_
  have FA1_0 := n1_
  have BKgb1 := n2_
  have BKgb3 := n3_
  have HS17 := n4_
  have HR25 := n5_
  have HR35 := n6_
  have HS42 := n7_
  have BKgb45 := n8_
  have HR51 := n9_
  have BKgb54 := n10_
  have HR61 := n11_
  have HB := nB_
  have HS := nS_
  clear nB_ nS_ n0_ n1_ n2_ n3_ n4_ n5_ n6_ n7_ n8_ n9_ n10_ n11_
  refine start_ (n := 5) (S := fun w' => w'.cell? ⟨gb1, 0, none⟩ = some (.slice A0_0 l0_0.length c0_0) ∧ w'.cell? ⟨gb3, 0, none⟩ = some (.slice A1_0 l1_0.length c1_0) ∧ w'.cell? ⟨gb3, 1, none⟩ = some (.int .i64 a1_1) ∧ w'.cell? ⟨gb45, 0, none⟩ = some (.slice Ao43 l0_0.length co44) ∧ w'.cell? ⟨gb54, 0, none⟩ = some (.slice Ao52 l1_0.length co53) ∧ w'.cell? ⟨gb54, 1, none⟩ = some (.int .i64 a1_1)) (ds := []) #[false, false, false, false, false] (by kernel_rfl) rfl rfl ⟨(blk_cell BKgb1.out 0).trans rfl, (blk_cell BKgb3.out 0).trans rfl, (blk_cell BKgb3.out 1).trans rfl, (blk_cell BKgb45.out 0).trans rfl, (blk_cell BKgb54.out 0).trans rfl, (blk_cell BKgb54.out 1).trans rfl⟩ (fun hHeld => ?_)
  generalize w64.drew = w66 at HB HS FA0_0 FA1_0 BKgb1 BKgb3 HS17 HR25 HR35 HS42 BKgb45 HR51 BKgb54 HR61 hHeld ⊢
  refine take_ (i := 0) (N := some 54) (v := ?_) (a' := ?_) #[true, false, false, false, false] rfl rfl (by kernel_rfl) (fun _ _ _ h => h) (Or.inl ⟨by rfl, ?_⟩) hHeld ?_ ?_
  rotate_left
  · rintro w' ⟨s0_, s1_, s2_, s3_, s4_, s5_⟩
    go_simp
    with_reducible rfl
  rotate_left
  · simp only [Act.put, List.setIfInBounds_toArray, List.set_cons_zero, List.set_cons_succ, i64_w, i32_w]
    rfl
  refine take_ (i := 1) (N := some 55) (v := ?_) (a' := ?_) #[true, true, false, false, false] rfl rfl (by kernel_rfl) (fun _ _ _ h => h) (Or.inl ⟨by rfl, ?_⟩) hHeld ?_ ?_
  rotate_left
  · rintro w' ⟨s0_, s1_, s2_, s3_, s4_, s5_⟩
    go_simp
    with_reducible rfl
  rotate_left
  · simp only [Act.put, List.setIfInBounds_toArray, List.set_cons_zero, List.set_cons_succ, i64_w, i32_w]
    rfl
  refine one_ (i := 2) (N := some 56) #[true, true, true, false, false] rfl rfl (by kernel_rfl) (by decide) (fun K hK => ?_)
  refine goes_ Try.func16 (by kernel_rfl) rfl #[.agg #[.slice A0_0 l0_0.length c0_0]] (by rfl) rfl rfl (by (try simp only [List.map_toArray, List.map_cons, List.map_nil]); first | done | rfl | (simp only [List.length_drop, List.length_take]; rfl)) ?_
  (with_reducible refine (laws_toGraph.calls KE13 _ _ l0_0 l0_0 _ ?sidehr0_0 ?sidehc0_0 E13.out).mono ?_)
  (case sidehr0_0 => exact F_at (S := (fun _ => False)) FA0_0.out (by repeat (first | (with_reducible first | exact Kept.refl _ _ | apply Kept.alloc | apply Kept.drewN | apply Kept.drew) | exact Kept.refl _ _)) (fun _ _ hs_ => hs_.elim))
  (case sidehc0_0 => exact HC0_0.out)
  rintro e w67 ⟨v68, rfl, hov0__, hb_⟩
  refine ⟨_, rfl, ?_⟩
  (try clear hczgb1_0)
  (try clear hfzgb1_0)
  (try clear hczgb3_0)
  (try clear hfzgb3_0)
  (try clear hczgb3_1)
  (try clear hfzgb3_1)
  (try clear hczgb45_0)
  (try clear hfzgb45_0)
  (try clear hczgb54_0)
  (try clear hfzgb54_0)
  (try clear hczgb54_1)
  (try clear hfzgb54_1)
  obtain ⟨hk_, hs1_, hs2_, hw_⟩ := ev_kept (S := (fun _ => False)) HS.out HB.out hb_ (by repeat (first | (with_reducible first | exact Kept.refl _ _ | apply Kept.alloc | apply Kept.drewN | apply Kept.drew) | exact Kept.refl _ _))
  have hB_ := below_step (by repeat (first | (with_reducible first | exact HB.out | apply below_alloc | apply pw_below_drewN | apply below_drew1 | refine below_set ?_ GEgb1.out | refine below_set ?_ GEgb3.out | refine below_set ?_ GEgb45.out | refine below_set ?_ GEgb54.out) | exact HB.out)) hb_
  have n0_ := Aside0.mk (Kd.F_kept FA0_0.out hk_ (fun _ _ hs_ => hs_.elim))
  have n1_ := Aside0.mk (Kd.F_kept FA1_0.out hk_ (fun _ _ hs_ => hs_.elim))
  have n2_ := Aside0.mk (blk_below (g := gb1) (o := .cells #[.slice A0_0 l0_0.length c0_0] 30 (0, 0)) (by (with_reducible repeat (first | refine blk_drewN ?_ _ | refine blk_drew ?_ | refine blk_alloc ?_ _)); exact BKgb1.out) hb_)
  have n3_ := Aside0.mk (blk_below (g := gb3) (o := .cells #[.slice A1_0 l1_0.length c1_0, .int .i64 a1_1] 44 (0, 0)) (by (with_reducible repeat (first | refine blk_drewN ?_ _ | refine blk_drew ?_ | refine blk_alloc ?_ _)); exact BKgb3.out) hb_)
  have n4_ := Aside0.mk (Kd.S_kept HS17.out hk_ (fun _ _ hs_ => hs_.elim))
  have n5_ := Aside0.mk (Kd.R_kept HR25.out hk_ (fun _ _ hs_ => hs_.elim))
  have n6_ := Aside0.mk (Kd.R_kept HR35.out hk_ (fun _ _ hs_ => hs_.elim))
  have n7_ := Aside0.mk (Kd.S_kept HS42.out hk_ (fun _ _ hs_ => hs_.elim))
  have n8_ := Aside0.mk (blk_below (g := gb45) (o := .cells #[.slice Ao43 l0_0.length co44] 24 (0, 0)) (by (with_reducible repeat (first | refine blk_drewN ?_ _ | refine blk_drew ?_ | refine blk_alloc ?_ _)); exact BKgb45.out) hb_)
  have n9_ := Aside0.mk (Kd.R_kept HR51.out hk_ (fun _ _ hs_ => hs_.elim))
  have n10_ := Aside0.mk (blk_below (g := gb54) (o := .cells #[.slice Ao52 l1_0.length co53, .int .i64 a1_1] 34 (0, 0)) (by (with_reducible repeat (first | refine blk_drewN ?_ _ | refine blk_drew ?_ | refine blk_alloc ?_ _)); exact BKgb54.out) hb_)
  have n11_ := Aside0.mk (Kd.R_kept HR61.out hk_ (fun _ _ hs_ => hs_.elim))
  have ns_ := Aside0.mk (Nat.le_trans (Nat.le_trans hs1_ hs2_) (Nat.le_refl _))
  have nB_ := Aside0.mk hB_
  obtain ⟨lo69, hi70, c1_, c2_, c3_, h_⟩ := S_new hov0__ hs2_ hw_ hs1_
  have HS71 := Aside0.mk h_
  obtain ⟨Ao72, co73, eo_⟩ := Kd.S_slice HS71.out
  subst eo_
  have HCHS71 := Aside0.mk (Kd.S_reads' HS71.out).2.1
  clear h_ hov0__
  have nc_ := Aside0.mk (And.intro c1_ (And.intro c2_ CH.out))
  clear CH ns_
  have CH := nc_
  have ns_ := Aside0.mk c3_
  clear nc_ c1_ c2_ c3_
  clear HB HS FA0_0 FA1_0 BKgb1 BKgb3 HS17 HR25 HR35 HS42 BKgb45 HR51 BKgb54 HR61
  have FA0_0 := n0_
  have FA1_0 := n1_
  have BKgb1 := n2_
  have BKgb3 := n3_
  have HS17 := n4_
  have HR25 := n5_
  have HR35 := n6_
  have HS42 := n7_
  have BKgb45 := n8_
  have HR51 := n9_
  have BKgb54 := n10_
  have HR61 := n11_
  have HB := nB_
  have HS := ns_
  clear nB_ ns_ n0_ n1_ n2_ n3_ n4_ n5_ n6_ n7_ n8_ n9_ n10_ n11_
  clear hk_ hs1_ hs2_ hw_ hB_ hb_
  refine hK.out _ _ ⟨(blk_cell BKgb1.out 0).trans rfl, (blk_cell BKgb3.out 0).trans rfl, (blk_cell BKgb3.out 1).trans rfl, (blk_cell BKgb45.out 0).trans rfl, (blk_cell BKgb54.out 0).trans rfl, (blk_cell BKgb54.out 1).trans rfl⟩ (fun hHeld => ?_)
  clear hK K
  refine norm_ (a' := ?_) ?_ ?_
  rotate_left
  · show Act.put _ (some 56) _ = _
    simp only [Act.put, List.setIfInBounds_toArray, List.set_cons_zero, List.set_cons_succ, i64_w, i32_w]
    rfl
  refine one_ (i := 3) (N := some 57) #[true, true, true, true, false] rfl rfl (by kernel_rfl) (by decide) (fun K hK => ?_)
  refine goes_ Try.func11 (by kernel_rfl) rfl #[.agg #[.slice Ao43 l0_0.length co44], .agg #[.slice Ao72 l0_0.length co73]] (by rfl) rfl rfl (by (try simp only [List.map_toArray, List.map_cons, List.map_nil]); first | done | rfl | (simp only [List.length_drop, List.length_take]; rfl)) ?_
  (with_reducible refine (laws_eqGraph.calls KE75 _ _ l0_0 _ _ l0_0 true _ ?sidehr0_0 ?sidehc0_0 ?sidehr1_0 ?sidehc1_0 E75.out).mono ?_)
  (case sidehr0_0 => exact S_now (S := (fun _ => False)) HS42.out (by repeat (first | (with_reducible first | exact Kept.refl _ _ | apply Kept.alloc | apply Kept.drewN | apply Kept.drew) | exact Kept.refl _ _)) (fun _ _ hs_ => hs_.elim))
  (case sidehc0_0 => exact HCHS42.out)
  (case sidehr1_0 => exact S_now (S := (fun _ => False)) HS71.out (by repeat (first | (with_reducible first | exact Kept.refl _ _ | apply Kept.alloc | apply Kept.drewN | apply Kept.drew) | exact Kept.refl _ _)) (fun _ _ hs_ => hs_.elim))
  (case sidehc1_0 => exact HCHS71.out)
  rintro e w74 ⟨rfl, hb_⟩
  refine ⟨_, rfl, ?_⟩
  (try clear hczgb1_0)
  (try clear hfzgb1_0)
  (try clear hczgb3_0)
  (try clear hfzgb3_0)
  (try clear hczgb3_1)
  (try clear hfzgb3_1)
  (try clear hczgb45_0)
  (try clear hfzgb45_0)
  (try clear hczgb54_0)
  (try clear hfzgb54_0)
  (try clear hczgb54_1)
  (try clear hfzgb54_1)
  obtain ⟨hk_, hs1_, hs2_, hw_⟩ := ev_kept (S := (fun _ => False)) HS.out HB.out hb_ (by repeat (first | (with_reducible first | exact Kept.refl _ _ | apply Kept.alloc | apply Kept.drewN | apply Kept.drew) | exact Kept.refl _ _))
  have hB_ := below_step (by repeat (first | (with_reducible first | exact HB.out | apply below_alloc | apply pw_below_drewN | apply below_drew1 | refine below_set ?_ GEgb1.out | refine below_set ?_ GEgb3.out | refine below_set ?_ GEgb45.out | refine below_set ?_ GEgb54.out) | exact HB.out)) hb_
  have n0_ := Aside0.mk (Kd.F_kept FA0_0.out hk_ (fun _ _ hs_ => hs_.elim))
  have n1_ := Aside0.mk (Kd.F_kept FA1_0.out hk_ (fun _ _ hs_ => hs_.elim))
  have n2_ := Aside0.mk (blk_below (g := gb1) (o := .cells #[.slice A0_0 l0_0.length c0_0] 30 (0, 0)) (by (with_reducible repeat (first | refine blk_drewN ?_ _ | refine blk_drew ?_ | refine blk_alloc ?_ _)); exact BKgb1.out) hb_)
  have n3_ := Aside0.mk (blk_below (g := gb3) (o := .cells #[.slice A1_0 l1_0.length c1_0, .int .i64 a1_1] 44 (0, 0)) (by (with_reducible repeat (first | refine blk_drewN ?_ _ | refine blk_drew ?_ | refine blk_alloc ?_ _)); exact BKgb3.out) hb_)
  have n4_ := Aside0.mk (Kd.S_kept HS17.out hk_ (fun _ _ hs_ => hs_.elim))
  have n5_ := Aside0.mk (Kd.R_kept HR25.out hk_ (fun _ _ hs_ => hs_.elim))
  have n6_ := Aside0.mk (Kd.R_kept HR35.out hk_ (fun _ _ hs_ => hs_.elim))
  have n7_ := Aside0.mk (Kd.S_kept HS42.out hk_ (fun _ _ hs_ => hs_.elim))
  have n8_ := Aside0.mk (blk_below (g := gb45) (o := .cells #[.slice Ao43 l0_0.length co44] 24 (0, 0)) (by (with_reducible repeat (first | refine blk_drewN ?_ _ | refine blk_drew ?_ | refine blk_alloc ?_ _)); exact BKgb45.out) hb_)
  have n9_ := Aside0.mk (Kd.R_kept HR51.out hk_ (fun _ _ hs_ => hs_.elim))
  have n10_ := Aside0.mk (blk_below (g := gb54) (o := .cells #[.slice Ao52 l1_0.length co53, .int .i64 a1_1] 34 (0, 0)) (by (with_reducible repeat (first | refine blk_drewN ?_ _ | refine blk_drew ?_ | refine blk_alloc ?_ _)); exact BKgb54.out) hb_)
  have n11_ := Aside0.mk (Kd.R_kept HR61.out hk_ (fun _ _ hs_ => hs_.elim))
  have n12_ := Aside0.mk (Kd.S_kept HS71.out hk_ (fun _ _ hs_ => hs_.elim))
  have ns_ := Aside0.mk (Nat.le_trans (Nat.le_trans hs1_ hs2_) (Nat.le_refl _))
  have nB_ := Aside0.mk hB_
  clear HB HS FA0_0 FA1_0 BKgb1 BKgb3 HS17 HR25 HR35 HS42 BKgb45 HR51 BKgb54 HR61 HS71
  have FA0_0 := n0_
  have FA1_0 := n1_
  have BKgb1 := n2_
  have BKgb3 := n3_
  have HS17 := n4_
  have HR25 := n5_
  have HR35 := n6_
  have HS42 := n7_
  have BKgb45 := n8_
  have HR51 := n9_
  have BKgb54 := n10_
  have HR61 := n11_
  have HS71 := n12_
  have HB := nB_
  have HS := ns_
  clear nB_ ns_ n0_ n1_ n2_ n3_ n4_ n5_ n6_ n7_ n8_ n9_ n10_ n11_ n12_
  clear hk_ hs1_ hs2_ hw_ hB_ hb_
  refine hK.out _ _ ⟨(blk_cell BKgb1.out 0).trans rfl, (blk_cell BKgb3.out 0).trans rfl, (blk_cell BKgb3.out 1).trans rfl, (blk_cell BKgb45.out 0).trans rfl, (blk_cell BKgb54.out 0).trans rfl, (blk_cell BKgb54.out 1).trans rfl⟩ (fun hHeld => ?_)
  clear hK K
  refine norm_ (a' := ?_) ?_ ?_
  rotate_left
  · show Act.put _ (some 57) _ = _
    simp only [Act.put, List.setIfInBounds_toArray, List.set_cons_zero, List.set_cons_succ, i64_w, i32_w]
    rfl
  refine pure_ (i := 4) (N := some 58) (v := ?_) (a' := ?_) #[true, true, true, true, true] rfl rfl (by kernel_rfl) (fun _ _ _ h => h) (Or.inl ⟨by rfl, ?_⟩) ?_ ?_
  rotate_left
  · intro w'
    go_simp
    with_reducible rfl
  rotate_left
  · simp only [Act.put, List.setIfInBounds_toArray, List.set_cons_zero, List.set_cons_succ, i64_w, i32_w]
    rfl
  refine done_ (by kernel_rfl) ?_
  try go_wp2
  (try clear hczgb1_0)
  (try clear hfzgb1_0)
  (try clear hczgb3_0)
  (try clear hfzgb3_0)
  (try clear hczgb3_1)
  (try clear hfzgb3_1)
  (try clear hczgb45_0)
  (try clear hfzgb45_0)
  (try clear hczgb54_0)
  (try clear hfzgb54_0)
  (try clear hczgb54_1)
  (try clear hfzgb54_1)
  have n0_ := Aside0.mk (Kd.F_drew FA0_0.out)
  have n1_ := Aside0.mk (Kd.F_drew FA1_0.out)
  have n2_ := Aside0.mk (blk_drew BKgb1.out)
  have n3_ := Aside0.mk (blk_drew BKgb3.out)
  have n4_ := Aside0.mk (Kd.S_drew HS17.out)
  have n5_ := Aside0.mk (Kd.R_drew HR25.out)
  have n6_ := Aside0.mk (Kd.R_drew HR35.out)
  have n7_ := Aside0.mk (Kd.S_drew HS42.out)
  have n8_ := Aside0.mk (blk_drew BKgb45.out)
  have n9_ := Aside0.mk (Kd.R_drew HR51.out)
  have n10_ := Aside0.mk (blk_drew BKgb54.out)
  have n11_ := Aside0.mk (Kd.R_drew HR61.out)
  have n12_ := Aside0.mk (Kd.S_drew HS71.out)
  have nB_ := Aside0.mk (below_drew1 HB.out)
  have nS_ : Aside0 (hi70 ≤ w74.drew.heap.size) := ⟨HS.out⟩
  clear HB HS FA0_0 FA1_0 BKgb1 BKgb3 HS17 HR25 HR35 HS42 BKgb45 HR51 BKgb54 HR61 HS71
  have FA0_0 := n0_
  have FA1_0 := n1_
  have BKgb1 := n2_
  have BKgb3 := n3_
  have HS17 := n4_
  have HR25 := n5_
  have HR35 := n6_
  have HS42 := n7_
  have BKgb45 := n8_
  have HR51 := n9_
  have BKgb54 := n10_
  have HR61 := n11_
  have HS71 := n12_
  have HB := nB_
  have HS := nS_
  clear nB_ nS_ n0_ n1_ n2_ n3_ n4_ n5_ n6_ n7_ n8_ n9_ n10_ n11_ n12_
  refine start_ (n := 5) (S := fun w' => w'.cell? ⟨gb1, 0, none⟩ = some (.slice A0_0 l0_0.length c0_0) ∧ w'.cell? ⟨gb3, 0, none⟩ = some (.slice A1_0 l1_0.length c1_0) ∧ w'.cell? ⟨gb3, 1, none⟩ = some (.int .i64 a1_1) ∧ w'.cell? ⟨gb45, 0, none⟩ = some (.slice Ao43 l0_0.length co44) ∧ w'.cell? ⟨gb54, 0, none⟩ = some (.slice Ao52 l1_0.length co53) ∧ w'.cell? ⟨gb54, 1, none⟩ = some (.int .i64 a1_1)) (ds := []) #[false, false, false, false, false] (by kernel_rfl) rfl rfl ⟨(blk_cell BKgb1.out 0).trans rfl, (blk_cell BKgb3.out 0).trans rfl, (blk_cell BKgb3.out 1).trans rfl, (blk_cell BKgb45.out 0).trans rfl, (blk_cell BKgb54.out 0).trans rfl, (blk_cell BKgb54.out 1).trans rfl⟩ (fun hHeld => ?_)
  generalize w74.drew = w76 at HB HS FA0_0 FA1_0 BKgb1 BKgb3 HS17 HR25 HR35 HS42 BKgb45 HR51 BKgb54 HR61 HS71 hHeld ⊢
  refine take_ (i := 0) (N := some 59) (v := ?_) (a' := ?_) #[true, false, false, false, false] rfl rfl (by kernel_rfl) (fun _ _ _ h => h) (Or.inl ⟨by rfl, ?_⟩) hHeld ?_ ?_
  rotate_left
  · rintro w' ⟨s0_, s1_, s2_, s3_, s4_, s5_⟩
    go_simp
    with_reducible rfl
  rotate_left
  · simp only [Act.put, List.setIfInBounds_toArray, List.set_cons_zero, List.set_cons_succ, i64_w, i32_w]
    rfl
  refine take_ (i := 1) (N := some 60) (v := ?_) (a' := ?_) #[true, true, false, false, false] rfl rfl (by kernel_rfl) (fun _ _ _ h => h) (Or.inl ⟨by rfl, ?_⟩) hHeld ?_ ?_
  rotate_left
  · rintro w' ⟨s0_, s1_, s2_, s3_, s4_, s5_⟩
    go_simp
    with_reducible rfl
  rotate_left
  · simp only [Act.put, List.setIfInBounds_toArray, List.set_cons_zero, List.set_cons_succ, i64_w, i32_w]
    rfl
  refine one_ (i := 2) (N := some 61) #[true, true, true, false, false] rfl rfl (by kernel_rfl) (by decide) (fun K hK => ?_)
  refine goes_ Try.func26 (by kernel_rfl) rfl #[.agg #[.slice A1_0 l1_0.length c1_0, .int .i64 a1_1]] (by rfl) rfl rfl (by (try simp only [List.map_toArray, List.map_cons, List.map_nil]); first | done | rfl | (simp only [List.length_drop, List.length_take]; rfl)) ?_
  (with_reducible refine (laws_toWalk.calls KE21 _ _ l1_0 a1_1 l1_0 a1_1 _ ?sidehr0_0 ?sidehc0_0 E21.out).mono ?_)
  (case sidehr0_0 => exact F_at (S := (fun _ => False)) FA1_0.out (by repeat (first | (with_reducible first | exact Kept.refl _ _ | apply Kept.alloc | apply Kept.drewN | apply Kept.drew) | exact Kept.refl _ _)) (fun _ _ hs_ => hs_.elim))
  (case sidehc0_0 => exact HC1_0.out)
  rintro e w77 ⟨v78, rfl, hov0__, hb_⟩
  refine ⟨_, rfl, ?_⟩
  (try clear hczgb1_0)
  (try clear hfzgb1_0)
  (try clear hczgb3_0)
  (try clear hfzgb3_0)
  (try clear hczgb3_1)
  (try clear hfzgb3_1)
  (try clear hczgb45_0)
  (try clear hfzgb45_0)
  (try clear hczgb54_0)
  (try clear hfzgb54_0)
  (try clear hczgb54_1)
  (try clear hfzgb54_1)
  obtain ⟨hk_, hs1_, hs2_, hw_⟩ := ev_kept (S := (fun _ => False)) HS.out HB.out hb_ (by repeat (first | (with_reducible first | exact Kept.refl _ _ | apply Kept.alloc | apply Kept.drewN | apply Kept.drew) | exact Kept.refl _ _))
  have hB_ := below_step (by repeat (first | (with_reducible first | exact HB.out | apply below_alloc | apply pw_below_drewN | apply below_drew1 | refine below_set ?_ GEgb1.out | refine below_set ?_ GEgb3.out | refine below_set ?_ GEgb45.out | refine below_set ?_ GEgb54.out) | exact HB.out)) hb_
  have n0_ := Aside0.mk (Kd.F_kept FA0_0.out hk_ (fun _ _ hs_ => hs_.elim))
  have n1_ := Aside0.mk (Kd.F_kept FA1_0.out hk_ (fun _ _ hs_ => hs_.elim))
  have n2_ := Aside0.mk (blk_below (g := gb1) (o := .cells #[.slice A0_0 l0_0.length c0_0] 30 (0, 0)) (by (with_reducible repeat (first | refine blk_drewN ?_ _ | refine blk_drew ?_ | refine blk_alloc ?_ _)); exact BKgb1.out) hb_)
  have n3_ := Aside0.mk (blk_below (g := gb3) (o := .cells #[.slice A1_0 l1_0.length c1_0, .int .i64 a1_1] 44 (0, 0)) (by (with_reducible repeat (first | refine blk_drewN ?_ _ | refine blk_drew ?_ | refine blk_alloc ?_ _)); exact BKgb3.out) hb_)
  have n4_ := Aside0.mk (Kd.S_kept HS17.out hk_ (fun _ _ hs_ => hs_.elim))
  have n5_ := Aside0.mk (Kd.R_kept HR25.out hk_ (fun _ _ hs_ => hs_.elim))
  have n6_ := Aside0.mk (Kd.R_kept HR35.out hk_ (fun _ _ hs_ => hs_.elim))
  have n7_ := Aside0.mk (Kd.S_kept HS42.out hk_ (fun _ _ hs_ => hs_.elim))
  have n8_ := Aside0.mk (blk_below (g := gb45) (o := .cells #[.slice Ao43 l0_0.length co44] 24 (0, 0)) (by (with_reducible repeat (first | refine blk_drewN ?_ _ | refine blk_drew ?_ | refine blk_alloc ?_ _)); exact BKgb45.out) hb_)
  have n9_ := Aside0.mk (Kd.R_kept HR51.out hk_ (fun _ _ hs_ => hs_.elim))
  have n10_ := Aside0.mk (blk_below (g := gb54) (o := .cells #[.slice Ao52 l1_0.length co53, .int .i64 a1_1] 34 (0, 0)) (by (with_reducible repeat (first | refine blk_drewN ?_ _ | refine blk_drew ?_ | refine blk_alloc ?_ _)); exact BKgb54.out) hb_)
  have n11_ := Aside0.mk (Kd.R_kept HR61.out hk_ (fun _ _ hs_ => hs_.elim))
  have n12_ := Aside0.mk (Kd.S_kept HS71.out hk_ (fun _ _ hs_ => hs_.elim))
  have ns_ := Aside0.mk (Nat.le_trans (Nat.le_trans hs1_ hs2_) (Nat.le_refl _))
  have nB_ := Aside0.mk hB_
  obtain ⟨lo79, hi80, c1_, c2_, c3_, h_⟩ := R_new hov0__ hs2_ hw_ hs1_
  have HR81 := Aside0.mk h_
  obtain ⟨Ao82, co83, eo_⟩ := Kd.R_slice HR81.out
  subst eo_
  have HCHR81 := Aside0.mk (Kd.R_reads' HR81.out).2.1
  clear h_ hov0__
  have nc_ := Aside0.mk (And.intro c1_ (And.intro c2_ CH.out))
  clear CH ns_
  have CH := nc_
  have ns_ := Aside0.mk c3_
  clear nc_ c1_ c2_ c3_
  clear HB HS FA0_0 FA1_0 BKgb1 BKgb3 HS17 HR25 HR35 HS42 BKgb45 HR51 BKgb54 HR61 HS71
  have FA0_0 := n0_
  have FA1_0 := n1_
  have BKgb1 := n2_
  have BKgb3 := n3_
  have HS17 := n4_
  have HR25 := n5_
  have HR35 := n6_
  have HS42 := n7_
  have BKgb45 := n8_
  have HR51 := n9_
  have BKgb54 := n10_
  have HR61 := n11_
  have HS71 := n12_
  have HB := nB_
  have HS := ns_
  clear nB_ ns_ n0_ n1_ n2_ n3_ n4_ n5_ n6_ n7_ n8_ n9_ n10_ n11_ n12_
  clear hk_ hs1_ hs2_ hw_ hB_ hb_
  refine hK.out _ _ ⟨(blk_cell BKgb1.out 0).trans rfl, (blk_cell BKgb3.out 0).trans rfl, (blk_cell BKgb3.out 1).trans rfl, (blk_cell BKgb45.out 0).trans rfl, (blk_cell BKgb54.out 0).trans rfl, (blk_cell BKgb54.out 1).trans rfl⟩ (fun hHeld => ?_)
  clear hK K
  refine norm_ (a' := ?_) ?_ ?_
  rotate_left
  · show Act.put _ (some 61) _ = _
    simp only [Act.put, List.setIfInBounds_toArray, List.set_cons_zero, List.set_cons_succ, i64_w, i32_w]
    rfl
  refine one_ (i := 3) (N := some 62) #[true, true, true, true, false] rfl rfl (by kernel_rfl) (by decide) (fun K hK => ?_)
  refine goes_ Try.func19 (by kernel_rfl) rfl #[.agg #[.slice Ao52 l1_0.length co53, .int .i64 a1_1], .agg #[.slice Ao82 l1_0.length co83, .int .i64 a1_1]] (by rfl) rfl rfl (by (try simp only [List.map_toArray, List.map_cons, List.map_nil]); first | done | rfl | (simp only [List.length_drop, List.length_take]; rfl)) ?_
  (with_reducible refine (laws_eqWalk.calls KE85 _ _ l1_0 a1_1 _ _ l1_0 a1_1 true _ ?sidehr0_0 ?sidehc0_0 ?sidehr1_0 ?sidehc1_0 E85.out).mono ?_)
  (case sidehr0_0 => exact R_now (S := (fun _ => False)) HR51.out (by repeat (first | (with_reducible first | exact Kept.refl _ _ | apply Kept.alloc | apply Kept.drewN | apply Kept.drew) | exact Kept.refl _ _)) (fun _ _ hs_ => hs_.elim))
  (case sidehc0_0 => exact HCHR51.out)
  (case sidehr1_0 => exact R_now (S := (fun _ => False)) HR81.out (by repeat (first | (with_reducible first | exact Kept.refl _ _ | apply Kept.alloc | apply Kept.drewN | apply Kept.drew) | exact Kept.refl _ _)) (fun _ _ hs_ => hs_.elim))
  (case sidehc1_0 => exact HCHR81.out)
  rintro e w84 ⟨rfl, hb_⟩
  refine ⟨_, rfl, ?_⟩
  (try clear hczgb1_0)
  (try clear hfzgb1_0)
  (try clear hczgb3_0)
  (try clear hfzgb3_0)
  (try clear hczgb3_1)
  (try clear hfzgb3_1)
  (try clear hczgb45_0)
  (try clear hfzgb45_0)
  (try clear hczgb54_0)
  (try clear hfzgb54_0)
  (try clear hczgb54_1)
  (try clear hfzgb54_1)
  obtain ⟨hk_, hs1_, hs2_, hw_⟩ := ev_kept (S := (fun _ => False)) HS.out HB.out hb_ (by repeat (first | (with_reducible first | exact Kept.refl _ _ | apply Kept.alloc | apply Kept.drewN | apply Kept.drew) | exact Kept.refl _ _))
  have hB_ := below_step (by repeat (first | (with_reducible first | exact HB.out | apply below_alloc | apply pw_below_drewN | apply below_drew1 | refine below_set ?_ GEgb1.out | refine below_set ?_ GEgb3.out | refine below_set ?_ GEgb45.out | refine below_set ?_ GEgb54.out) | exact HB.out)) hb_
  have n0_ := Aside0.mk (Kd.F_kept FA0_0.out hk_ (fun _ _ hs_ => hs_.elim))
  have n1_ := Aside0.mk (Kd.F_kept FA1_0.out hk_ (fun _ _ hs_ => hs_.elim))
  have n2_ := Aside0.mk (blk_below (g := gb1) (o := .cells #[.slice A0_0 l0_0.length c0_0] 30 (0, 0)) (by (with_reducible repeat (first | refine blk_drewN ?_ _ | refine blk_drew ?_ | refine blk_alloc ?_ _)); exact BKgb1.out) hb_)
  have n3_ := Aside0.mk (blk_below (g := gb3) (o := .cells #[.slice A1_0 l1_0.length c1_0, .int .i64 a1_1] 44 (0, 0)) (by (with_reducible repeat (first | refine blk_drewN ?_ _ | refine blk_drew ?_ | refine blk_alloc ?_ _)); exact BKgb3.out) hb_)
  have n4_ := Aside0.mk (Kd.S_kept HS17.out hk_ (fun _ _ hs_ => hs_.elim))
  have n5_ := Aside0.mk (Kd.R_kept HR25.out hk_ (fun _ _ hs_ => hs_.elim))
  have n6_ := Aside0.mk (Kd.R_kept HR35.out hk_ (fun _ _ hs_ => hs_.elim))
  have n7_ := Aside0.mk (Kd.S_kept HS42.out hk_ (fun _ _ hs_ => hs_.elim))
  have n8_ := Aside0.mk (blk_below (g := gb45) (o := .cells #[.slice Ao43 l0_0.length co44] 24 (0, 0)) (by (with_reducible repeat (first | refine blk_drewN ?_ _ | refine blk_drew ?_ | refine blk_alloc ?_ _)); exact BKgb45.out) hb_)
  have n9_ := Aside0.mk (Kd.R_kept HR51.out hk_ (fun _ _ hs_ => hs_.elim))
  have n10_ := Aside0.mk (blk_below (g := gb54) (o := .cells #[.slice Ao52 l1_0.length co53, .int .i64 a1_1] 34 (0, 0)) (by (with_reducible repeat (first | refine blk_drewN ?_ _ | refine blk_drew ?_ | refine blk_alloc ?_ _)); exact BKgb54.out) hb_)
  have n11_ := Aside0.mk (Kd.R_kept HR61.out hk_ (fun _ _ hs_ => hs_.elim))
  have n12_ := Aside0.mk (Kd.S_kept HS71.out hk_ (fun _ _ hs_ => hs_.elim))
  have n13_ := Aside0.mk (Kd.R_kept HR81.out hk_ (fun _ _ hs_ => hs_.elim))
  have ns_ := Aside0.mk (Nat.le_trans (Nat.le_trans hs1_ hs2_) (Nat.le_refl _))
  have nB_ := Aside0.mk hB_
  clear HB HS FA0_0 FA1_0 BKgb1 BKgb3 HS17 HR25 HR35 HS42 BKgb45 HR51 BKgb54 HR61 HS71 HR81
  have FA0_0 := n0_
  have FA1_0 := n1_
  have BKgb1 := n2_
  have BKgb3 := n3_
  have HS17 := n4_
  have HR25 := n5_
  have HR35 := n6_
  have HS42 := n7_
  have BKgb45 := n8_
  have HR51 := n9_
  have BKgb54 := n10_
  have HR61 := n11_
  have HS71 := n12_
  have HR81 := n13_
  have HB := nB_
  have HS := ns_
  clear nB_ ns_ n0_ n1_ n2_ n3_ n4_ n5_ n6_ n7_ n8_ n9_ n10_ n11_ n12_ n13_
  clear hk_ hs1_ hs2_ hw_ hB_ hb_
  refine hK.out _ _ ⟨(blk_cell BKgb1.out 0).trans rfl, (blk_cell BKgb3.out 0).trans rfl, (blk_cell BKgb3.out 1).trans rfl, (blk_cell BKgb45.out 0).trans rfl, (blk_cell BKgb54.out 0).trans rfl, (blk_cell BKgb54.out 1).trans rfl⟩ (fun hHeld => ?_)
  clear hK K
  refine norm_ (a' := ?_) ?_ ?_
  rotate_left
  · show Act.put _ (some 62) _ = _
    simp only [Act.put, List.setIfInBounds_toArray, List.set_cons_zero, List.set_cons_succ, i64_w, i32_w]
    rfl
  refine pure_ (i := 4) (N := some 63) (v := ?_) (a' := ?_) #[true, true, true, true, true] rfl rfl (by kernel_rfl) (fun _ _ _ h => h) (Or.inl ⟨by rfl, ?_⟩) ?_ ?_
  rotate_left
  · intro w'
    go_simp
    with_reducible rfl
  rotate_left
  · simp only [Act.put, List.setIfInBounds_toArray, List.set_cons_zero, List.set_cons_succ, i64_w, i32_w]
    rfl
  refine done_ (by kernel_rfl) ?_
  go_wp2_with (first | ((with_reducible refine gate_callee (f := 12) rfl ?_); refine goesL_ (some 66) rfl rfl Try.func12 (by kernel_rfl) rfl #[.agg #[.slice Ao43 l0_0.length co44], .int .i64 1] rfl (by (try simp only [List.map_toArray, List.map_cons, List.map_nil]); first | done | rfl | (simp only [List.length_drop, List.length_take]; rfl)) ?_; (with_reducible refine (laws_markGraph.calls KE89 (fun k_ => lo40 ≤ k_ ∧ k_ < hi41) _ l0_0 1 x87 x88 w _ ?sideB ?sideO E89.out).mono ?_); (case sideB => exact (by repeat (first | (with_reducible first | exact HB.out | apply below_alloc | apply pw_below_drewN | apply below_drew1 | refine below_set ?_ GEgb1.out | refine below_set ?_ GEgb3.out | refine below_set ?_ GEgb45.out | refine below_set ?_ GEgb54.out) | exact HB.out))); (case sideO => exact Kd.S_kept (S := (fun _ => False)) HS42.out (by repeat (first | (with_reducible first | exact Kept.refl _ _ | apply Kept.alloc | apply Kept.drewN | apply Kept.drew) | exact Kept.refl _ _)) (fun _ _ hs_ => hs_.elim)); rintro e w86 ⟨rfl, ho_, hb_, hm_⟩; refine ⟨_, rfl, ?_⟩; (try clear hczgb1_0); (try clear hfzgb1_0); (try clear hczgb3_0); (try clear hfzgb3_0); (try clear hczgb3_1); (try clear hfzgb3_1); (try clear hczgb45_0); (try clear hfzgb45_0); (try clear hczgb54_0); (try clear hfzgb54_0); (try clear hczgb54_1); (try clear hfzgb54_1); obtain ⟨hk_, hs1_⟩ := ev_mark (S := (fun k_ => lo40 ≤ k_ ∧ k_ < hi41)) HS.out hm_ (by repeat (first | (with_reducible first | exact Kept.refl _ _ | apply Kept.alloc | apply Kept.drewN | apply Kept.drew) | exact Kept.refl _ _)); have n0_ := Aside0.mk (Kd.F_kept FA0_0.out hk_ (fun k_ h_ hs_ => by have h1_ : k_ < s0 := h_; obtain ⟨g1_, g2_⟩ := hs_; have := CH.out; omega)); have n1_ := Aside0.mk (Kd.F_kept FA1_0.out hk_ (fun k_ h_ hs_ => by have h1_ : k_ < s0 := h_; obtain ⟨g1_, g2_⟩ := hs_; have := CH.out; omega)); have n2_ := Aside0.mk (blk_kept BKgb1.out hk_ (fun hs_ => by obtain ⟨g1_, g2_⟩ := hs_; have := CH.out; omega)); have n3_ := Aside0.mk (blk_kept BKgb3.out hk_ (fun hs_ => by obtain ⟨g1_, g2_⟩ := hs_; have := CH.out; omega)); have n4_ := Aside0.mk (Kd.S_kept HS17.out hk_ (fun k_ h_ hs_ => by obtain ⟨h1_, h2_⟩ := h_; obtain ⟨g1_, g2_⟩ := hs_; have := CH.out; omega)); have n5_ := Aside0.mk (Kd.R_kept HR25.out hk_ (fun k_ h_ hs_ => by obtain ⟨h1_, h2_⟩ := h_; obtain ⟨g1_, g2_⟩ := hs_; have := CH.out; omega)); have n6_ := Aside0.mk (Kd.R_kept HR35.out hk_ (fun k_ h_ hs_ => by obtain ⟨h1_, h2_⟩ := h_; obtain ⟨g1_, g2_⟩ := hs_; have := CH.out; omega)); have n7_ := Aside0.mk (blk_kept BKgb45.out hk_ (fun hs_ => by obtain ⟨g1_, g2_⟩ := hs_; have := CH.out; omega)); have n8_ := Aside0.mk (Kd.R_kept HR51.out hk_ (fun k_ h_ hs_ => by obtain ⟨h1_, h2_⟩ := h_; obtain ⟨g1_, g2_⟩ := hs_; have := CH.out; omega)); have n9_ := Aside0.mk (blk_kept BKgb54.out hk_ (fun hs_ => by obtain ⟨g1_, g2_⟩ := hs_; have := CH.out; omega)); have n10_ := Aside0.mk (Kd.R_kept HR61.out hk_ (fun k_ h_ hs_ => by obtain ⟨h1_, h2_⟩ := h_; obtain ⟨g1_, g2_⟩ := hs_; have := CH.out; omega)); have n11_ := Aside0.mk (Kd.S_kept HS71.out hk_ (fun k_ h_ hs_ => by obtain ⟨h1_, h2_⟩ := h_; obtain ⟨g1_, g2_⟩ := hs_; have := CH.out; omega)); have n12_ := Aside0.mk (Kd.R_kept HR81.out hk_ (fun k_ h_ hs_ => by obtain ⟨h1_, h2_⟩ := h_; obtain ⟨g1_, g2_⟩ := hs_; have := CH.out; omega)); have nB_ := Aside0.mk hb_; have ns_ := Aside0.mk hs1_; clear HB HS FA0_0 FA1_0 BKgb1 BKgb3 HS17 HR25 HR35 BKgb45 HR51 BKgb54 HR61 HS71 HR81; have FA0_0 := n0_; have FA1_0 := n1_; have BKgb1 := n2_; have BKgb3 := n3_; have HS17 := n4_; have HR25 := n5_; have HR35 := n6_; have BKgb45 := n7_; have HR51 := n8_; have BKgb54 := n9_; have HR61 := n10_; have HS71 := n11_; have HR81 := n12_; have HB := nB_; have HS := ns_; clear nB_ ns_ n0_ n1_ n2_ n3_ n4_ n5_ n6_ n7_ n8_ n9_ n10_ n11_ n12_; have hl_ : l0_0.length = x88.length := (Kd.S_reads' ho_).1; have FM90 := Aside0.mk (Kd.S_F ho_); rw [hl_] at FM90; have HCHS42_ := Aside0.mk (show x88.length ≤ co44 by rw [← hl_]; exact HCHS42.out); have HLFM90 := Aside0.mk hl_; clear ho_ hm_ hb_ hk_ hs1_ hl_ HS42; have hczgb1_0 : w86.cell? ⟨gb1, 0, none⟩ = some (.slice A0_0 l0_0.length c0_0) := (blk_cell BKgb1.out 0).trans rfl; have hfzgb1_0 := blk_frozen BKgb1.out 0; have hczgb3_0 : w86.cell? ⟨gb3, 0, none⟩ = some (.slice A1_0 l1_0.length c1_0) := (blk_cell BKgb3.out 0).trans rfl; have hczgb3_1 : w86.cell? ⟨gb3, 1, none⟩ = some (.int .i64 a1_1) := (blk_cell BKgb3.out 1).trans rfl; have hfzgb3_0 := blk_frozen BKgb3.out 0; have hfzgb3_1 := blk_frozen BKgb3.out 1; have hczgb45_0 : w86.cell? ⟨gb45, 0, none⟩ = some (.slice Ao43 l0_0.length co44) := (blk_cell BKgb45.out 0).trans rfl; have hfzgb45_0 := blk_frozen BKgb45.out 0; have hczgb54_0 : w86.cell? ⟨gb54, 0, none⟩ = some (.slice Ao52 l1_0.length co53) := (blk_cell BKgb54.out 0).trans rfl; have hczgb54_1 : w86.cell? ⟨gb54, 1, none⟩ = some (.int .i64 a1_1) := (blk_cell BKgb54.out 1).trans rfl; have hfzgb54_0 := blk_frozen BKgb54.out 0; have hfzgb54_1 := blk_frozen BKgb54.out 1; have hnbgb1gb3 : gb1 ≠ gb3 := (by have := CH.out; omega); have hnbgb1gb45 : gb1 ≠ gb45 := (by have := CH.out; omega); have hnbgb1gb54 : gb1 ≠ gb54 := (by have := CH.out; omega); have hnbgb3gb1 : gb3 ≠ gb1 := (by have := CH.out; omega); have hnbgb3gb45 : gb3 ≠ gb45 := (by have := CH.out; omega); have hnbgb3gb54 : gb3 ≠ gb54 := (by have := CH.out; omega); have hnbgb45gb1 : gb45 ≠ gb1 := (by have := CH.out; omega); have hnbgb45gb3 : gb45 ≠ gb3 := (by have := CH.out; omega); have hnbgb45gb54 : gb45 ≠ gb54 := (by have := CH.out; omega); have hnbgb54gb1 : gb54 ≠ gb1 := (by have := CH.out; omega); have hnbgb54gb3 : gb54 ≠ gb3 := (by have := CH.out; omega); have hnbgb54gb45 : gb54 ≠ gb45 := (by have := CH.out; omega)) | ((with_reducible refine gate_callee (f := 22) rfl ?_); refine goesL_ (some 69) rfl rfl Try.func22 (by kernel_rfl) rfl #[.agg #[.slice Ao52 l1_0.length co53, .int .i64 a1_1], .int .i64 x87] rfl (by (try simp only [List.map_toArray, List.map_cons, List.map_nil]); first | done | rfl | (simp only [List.length_drop, List.length_take]; rfl)) ?_; (with_reducible refine (laws_markWalk.calls KE94 (fun k_ => lo49 ≤ k_ ∧ k_ < hi50) _ l1_0 a1_1 x87 x92 x93 w _ ?sideB ?sideO E94.out).mono ?_); (case sideB => exact (by repeat (first | (with_reducible first | exact HB.out | apply below_alloc | apply pw_below_drewN | apply below_drew1 | refine below_set ?_ GEgb1.out | refine below_set ?_ GEgb3.out | refine below_set ?_ GEgb45.out | refine below_set ?_ GEgb54.out) | exact HB.out))); (case sideO => exact Kd.R_kept (S := (fun _ => False)) HR51.out (by repeat (first | (with_reducible first | exact Kept.refl _ _ | apply Kept.alloc | apply Kept.drewN | apply Kept.drew) | exact Kept.refl _ _)) (fun _ _ hs_ => hs_.elim)); rintro e w91 ⟨rfl, ho_, hb_, hm_⟩; refine ⟨_, rfl, ?_⟩; (try clear hczgb1_0); (try clear hfzgb1_0); (try clear hczgb3_0); (try clear hfzgb3_0); (try clear hczgb3_1); (try clear hfzgb3_1); (try clear hczgb45_0); (try clear hfzgb45_0); (try clear hczgb54_0); (try clear hfzgb54_0); (try clear hczgb54_1); (try clear hfzgb54_1); obtain ⟨hk_, hs1_⟩ := ev_mark (S := (fun k_ => lo49 ≤ k_ ∧ k_ < hi50)) HS.out hm_ (by repeat (first | (with_reducible first | exact Kept.refl _ _ | apply Kept.alloc | apply Kept.drewN | apply Kept.drew) | exact Kept.refl _ _)); have n0_ := Aside0.mk (Kd.F_kept FA0_0.out hk_ (fun k_ h_ hs_ => by have h1_ : k_ < s0 := h_; obtain ⟨g1_, g2_⟩ := hs_; have := CH.out; omega)); have n1_ := Aside0.mk (Kd.F_kept FA1_0.out hk_ (fun k_ h_ hs_ => by have h1_ : k_ < s0 := h_; obtain ⟨g1_, g2_⟩ := hs_; have := CH.out; omega)); have n2_ := Aside0.mk (blk_kept BKgb1.out hk_ (fun hs_ => by obtain ⟨g1_, g2_⟩ := hs_; have := CH.out; omega)); have n3_ := Aside0.mk (blk_kept BKgb3.out hk_ (fun hs_ => by obtain ⟨g1_, g2_⟩ := hs_; have := CH.out; omega)); have n4_ := Aside0.mk (Kd.S_kept HS17.out hk_ (fun k_ h_ hs_ => by obtain ⟨h1_, h2_⟩ := h_; obtain ⟨g1_, g2_⟩ := hs_; have := CH.out; omega)); have n5_ := Aside0.mk (Kd.R_kept HR25.out hk_ (fun k_ h_ hs_ => by obtain ⟨h1_, h2_⟩ := h_; obtain ⟨g1_, g2_⟩ := hs_; have := CH.out; omega)); have n6_ := Aside0.mk (Kd.R_kept HR35.out hk_ (fun k_ h_ hs_ => by obtain ⟨h1_, h2_⟩ := h_; obtain ⟨g1_, g2_⟩ := hs_; have := CH.out; omega)); have n7_ := Aside0.mk (blk_kept BKgb45.out hk_ (fun hs_ => by obtain ⟨g1_, g2_⟩ := hs_; have := CH.out; omega)); have n8_ := Aside0.mk (blk_kept BKgb54.out hk_ (fun hs_ => by obtain ⟨g1_, g2_⟩ := hs_; have := CH.out; omega)); have n9_ := Aside0.mk (Kd.R_kept HR61.out hk_ (fun k_ h_ hs_ => by obtain ⟨h1_, h2_⟩ := h_; obtain ⟨g1_, g2_⟩ := hs_; have := CH.out; omega)); have n10_ := Aside0.mk (Kd.S_kept HS71.out hk_ (fun k_ h_ hs_ => by obtain ⟨h1_, h2_⟩ := h_; obtain ⟨g1_, g2_⟩ := hs_; have := CH.out; omega)); have n11_ := Aside0.mk (Kd.R_kept HR81.out hk_ (fun k_ h_ hs_ => by obtain ⟨h1_, h2_⟩ := h_; obtain ⟨g1_, g2_⟩ := hs_; have := CH.out; omega)); have n12_ := Aside0.mk (Kd.F_kept FM90.out hk_ (fun k_ h_ hs_ => by obtain ⟨h1_, h2_⟩ := h_; obtain ⟨g1_, g2_⟩ := hs_; have := CH.out; omega)); have nB_ := Aside0.mk hb_; have ns_ := Aside0.mk hs1_; clear HB HS FA0_0 FA1_0 BKgb1 BKgb3 HS17 HR25 HR35 BKgb45 BKgb54 HR61 HS71 HR81 FM90; have FA0_0 := n0_; have FA1_0 := n1_; have BKgb1 := n2_; have BKgb3 := n3_; have HS17 := n4_; have HR25 := n5_; have HR35 := n6_; have BKgb45 := n7_; have BKgb54 := n8_; have HR61 := n9_; have HS71 := n10_; have HR81 := n11_; have FM90 := n12_; have HB := nB_; have HS := ns_; clear nB_ ns_ n0_ n1_ n2_ n3_ n4_ n5_ n6_ n7_ n8_ n9_ n10_ n11_ n12_; have hl_ : l1_0.length = x93.length := (Kd.R_reads' ho_).1; have FM95 := Aside0.mk (Kd.R_F (Kd.R_mono (Kd.R_tight rfl ho_) (fun k_ hk_ => HR51.out.1 k_ hk_.symm))); rw [hl_] at FM95; have HCHR51_ := Aside0.mk (show x93.length ≤ co53 by rw [← hl_]; exact HCHR51.out); have HLFM95 := Aside0.mk hl_; clear ho_ hm_ hb_ hk_ hs1_ hl_ HR51; have hczgb1_0 : w91.cell? ⟨gb1, 0, none⟩ = some (.slice A0_0 l0_0.length c0_0) := (blk_cell BKgb1.out 0).trans rfl; have hfzgb1_0 := blk_frozen BKgb1.out 0; have hczgb3_0 : w91.cell? ⟨gb3, 0, none⟩ = some (.slice A1_0 l1_0.length c1_0) := (blk_cell BKgb3.out 0).trans rfl; have hczgb3_1 : w91.cell? ⟨gb3, 1, none⟩ = some (.int .i64 a1_1) := (blk_cell BKgb3.out 1).trans rfl; have hfzgb3_0 := blk_frozen BKgb3.out 0; have hfzgb3_1 := blk_frozen BKgb3.out 1; have hczgb45_0 : w91.cell? ⟨gb45, 0, none⟩ = some (.slice Ao43 l0_0.length co44) := (blk_cell BKgb45.out 0).trans rfl; have hfzgb45_0 := blk_frozen BKgb45.out 0; have hczgb54_0 : w91.cell? ⟨gb54, 0, none⟩ = some (.slice Ao52 l1_0.length co53) := (blk_cell BKgb54.out 0).trans rfl; have hczgb54_1 : w91.cell? ⟨gb54, 1, none⟩ = some (.int .i64 a1_1) := (blk_cell BKgb54.out 1).trans rfl; have hfzgb54_0 := blk_frozen BKgb54.out 0; have hfzgb54_1 := blk_frozen BKgb54.out 1; have hnbgb1gb3 : gb1 ≠ gb3 := (by have := CH.out; omega); have hnbgb1gb45 : gb1 ≠ gb45 := (by have := CH.out; omega); have hnbgb1gb54 : gb1 ≠ gb54 := (by have := CH.out; omega); have hnbgb3gb1 : gb3 ≠ gb1 := (by have := CH.out; omega); have hnbgb3gb45 : gb3 ≠ gb45 := (by have := CH.out; omega); have hnbgb3gb54 : gb3 ≠ gb54 := (by have := CH.out; omega); have hnbgb45gb1 : gb45 ≠ gb1 := (by have := CH.out; omega); have hnbgb45gb3 : gb45 ≠ gb3 := (by have := CH.out; omega); have hnbgb45gb54 : gb45 ≠ gb54 := (by have := CH.out; omega); have hnbgb54gb1 : gb54 ≠ gb1 := (by have := CH.out; omega); have hnbgb54gb3 : gb54 ≠ gb3 := (by have := CH.out; omega); have hnbgb54gb45 : gb54 ≠ gb45 := (by have := CH.out; omega)) | ((with_reducible refine gate_callee (f := 20) rfl ?_); (try (refine gate_guard (by rfl) ?_; dsimp only)); refine goesL_ (some 75) rfl rfl Try.func20 (by kernel_rfl) rfl #[.slice Ao62 x29.length co63, .slice Ao36 x29.length co37] rfl (by (try simp only [List.map_toArray, List.map_cons, List.map_nil]); first | done | rfl | (simp only [List.length_drop, List.length_take]; rfl)) ?_; (with_reducible refine (laws_eqIntS.calls KE65 _ _ x29 _ _ x29 true _ ?sidehr0 ?sidehc0 ?sidehr1 ?sidehc1 E65.out).mono ?_); (case sidehr0 => exact R_now (S := (fun _ => False)) HR61.out (by repeat (first | (with_reducible first | exact Kept.refl _ _ | apply Kept.alloc | apply Kept.drewN | apply Kept.drew) | exact Kept.refl _ _)) (fun _ _ hs_ => hs_.elim)); (case sidehc0 => exact HCHR61.out); (case sidehr1 => exact R_now (S := (fun _ => False)) HR35.out (by repeat (first | (with_reducible first | exact Kept.refl _ _ | apply Kept.alloc | apply Kept.drewN | apply Kept.drew) | exact Kept.refl _ _)) (fun _ _ hs_ => hs_.elim)); (case sidehc1 => exact HCHR35.out); rintro e w96 ⟨rfl, hd_⟩; refine ⟨_, rfl, ?_⟩; have hb_ := hd_.below; (try clear hczgb1_0); (try clear hfzgb1_0); (try clear hczgb3_0); (try clear hfzgb3_0); (try clear hczgb3_1); (try clear hfzgb3_1); (try clear hczgb45_0); (try clear hfzgb45_0); (try clear hczgb54_0); (try clear hfzgb54_0); (try clear hczgb54_1); (try clear hfzgb54_1); obtain ⟨hk_, hs1_, hs2_, hw_⟩ := ev_kept (S := (fun _ => False)) HS.out HB.out hb_ (by repeat (first | (with_reducible first | exact Kept.refl _ _ | apply Kept.alloc | apply Kept.drewN | apply Kept.drew) | exact Kept.refl _ _)); have hB_ := below_step (by repeat (first | (with_reducible first | exact HB.out | apply below_alloc | apply pw_below_drewN | apply below_drew1 | refine below_set ?_ GEgb1.out | refine below_set ?_ GEgb3.out | refine below_set ?_ GEgb45.out | refine below_set ?_ GEgb54.out) | exact HB.out)) hb_; have n0_ := Aside0.mk (Kd.F_kept FA0_0.out hk_ (fun _ _ hs_ => hs_.elim)); have n1_ := Aside0.mk (Kd.F_kept FA1_0.out hk_ (fun _ _ hs_ => hs_.elim)); have n2_ := Aside0.mk (blk_below (g := gb1) (o := .cells #[.slice A0_0 l0_0.length c0_0] 30 (0, 0)) (by (with_reducible repeat (first | refine blk_drewN ?_ _ | refine blk_drew ?_ | refine blk_alloc ?_ _)); exact BKgb1.out) hb_); have n3_ := Aside0.mk (blk_below (g := gb3) (o := .cells #[.slice A1_0 l1_0.length c1_0, .int .i64 a1_1] 44 (0, 0)) (by (with_reducible repeat (first | refine blk_drewN ?_ _ | refine blk_drew ?_ | refine blk_alloc ?_ _)); exact BKgb3.out) hb_); have n4_ := Aside0.mk (Kd.S_kept HS17.out hk_ (fun _ _ hs_ => hs_.elim)); have n5_ := Aside0.mk (Kd.R_kept HR25.out hk_ (fun _ _ hs_ => hs_.elim)); have n6_ := Aside0.mk (Kd.R_kept HR35.out hk_ (fun _ _ hs_ => hs_.elim)); have n7_ := Aside0.mk (blk_below (g := gb45) (o := .cells #[.slice Ao43 l0_0.length co44] 24 (0, 0)) (by (with_reducible repeat (first | refine blk_drewN ?_ _ | refine blk_drew ?_ | refine blk_alloc ?_ _)); exact BKgb45.out) hb_); have n8_ := Aside0.mk (blk_below (g := gb54) (o := .cells #[.slice Ao52 l1_0.length co53, .int .i64 a1_1] 34 (0, 0)) (by (with_reducible repeat (first | refine blk_drewN ?_ _ | refine blk_drew ?_ | refine blk_alloc ?_ _)); exact BKgb54.out) hb_); have n9_ := Aside0.mk (Kd.R_kept HR61.out hk_ (fun _ _ hs_ => hs_.elim)); have n10_ := Aside0.mk (Kd.S_kept HS71.out hk_ (fun _ _ hs_ => hs_.elim)); have n11_ := Aside0.mk (Kd.R_kept HR81.out hk_ (fun _ _ hs_ => hs_.elim)); have n12_ := Aside0.mk (Kd.F_kept FM90.out hk_ (fun _ _ hs_ => hs_.elim)); have n13_ := Aside0.mk (Kd.F_kept FM95.out hk_ (fun _ _ hs_ => hs_.elim)); have ns_ := Aside0.mk (Nat.le_trans (Nat.le_trans hs1_ hs2_) (Nat.le_refl _)); have nB_ := Aside0.mk hB_; clear HB HS FA0_0 FA1_0 BKgb1 BKgb3 HS17 HR25 HR35 BKgb45 BKgb54 HR61 HS71 HR81 FM90 FM95; have FA0_0 := n0_; have FA1_0 := n1_; have BKgb1 := n2_; have BKgb3 := n3_; have HS17 := n4_; have HR25 := n5_; have HR35 := n6_; have BKgb45 := n7_; have BKgb54 := n8_; have HR61 := n9_; have HS71 := n10_; have HR81 := n11_; have FM90 := n12_; have FM95 := n13_; have HB := nB_; have HS := ns_; clear nB_ ns_ n0_ n1_ n2_ n3_ n4_ n5_ n6_ n7_ n8_ n9_ n10_ n11_ n12_ n13_; clear hk_ hs1_ hs2_ hw_ hB_ hb_; clear hd_; have hczgb1_0 : w96.cell? ⟨gb1, 0, none⟩ = some (.slice A0_0 l0_0.length c0_0) := (blk_cell BKgb1.out 0).trans rfl; have hfzgb1_0 := blk_frozen BKgb1.out 0; have hczgb3_0 : w96.cell? ⟨gb3, 0, none⟩ = some (.slice A1_0 l1_0.length c1_0) := (blk_cell BKgb3.out 0).trans rfl; have hczgb3_1 : w96.cell? ⟨gb3, 1, none⟩ = some (.int .i64 a1_1) := (blk_cell BKgb3.out 1).trans rfl; have hfzgb3_0 := blk_frozen BKgb3.out 0; have hfzgb3_1 := blk_frozen BKgb3.out 1; have hczgb45_0 : w96.cell? ⟨gb45, 0, none⟩ = some (.slice Ao43 l0_0.length co44) := (blk_cell BKgb45.out 0).trans rfl; have hfzgb45_0 := blk_frozen BKgb45.out 0; have hczgb54_0 : w96.cell? ⟨gb54, 0, none⟩ = some (.slice Ao52 l1_0.length co53) := (blk_cell BKgb54.out 0).trans rfl; have hczgb54_1 : w96.cell? ⟨gb54, 1, none⟩ = some (.int .i64 a1_1) := (blk_cell BKgb54.out 1).trans rfl; have hfzgb54_0 := blk_frozen BKgb54.out 0; have hfzgb54_1 := blk_frozen BKgb54.out 1; have hnbgb1gb3 : gb1 ≠ gb3 := (by have := CH.out; omega); have hnbgb1gb45 : gb1 ≠ gb45 := (by have := CH.out; omega); have hnbgb1gb54 : gb1 ≠ gb54 := (by have := CH.out; omega); have hnbgb3gb1 : gb3 ≠ gb1 := (by have := CH.out; omega); have hnbgb3gb45 : gb3 ≠ gb45 := (by have := CH.out; omega); have hnbgb3gb54 : gb3 ≠ gb54 := (by have := CH.out; omega); have hnbgb45gb1 : gb45 ≠ gb1 := (by have := CH.out; omega); have hnbgb45gb3 : gb45 ≠ gb3 := (by have := CH.out; omega); have hnbgb45gb54 : gb45 ≠ gb54 := (by have := CH.out; omega); have hnbgb54gb1 : gb54 ≠ gb1 := (by have := CH.out; omega); have hnbgb54gb3 : gb54 ≠ gb3 := (by have := CH.out; omega); have hnbgb54gb45 : gb54 ≠ gb45 := (by have := CH.out; omega)) | ((with_reducible refine gate_callee (f := 21) rfl ?_); refine goesL_ (some 85) rfl rfl Try.func21 (by kernel_rfl) rfl #[.slice Ao62 x29.length co63, .int .i64 1] rfl (by (try simp only [List.map_toArray, List.map_cons, List.map_nil]); first | done | rfl | (simp only [List.length_drop, List.length_take]; rfl)) ?_; (with_reducible refine (laws_markIntS.calls KE100 (fun k_ => lo59 ≤ k_ ∧ k_ < hi60) _ x29 1 x98 x99 w _ ?sideB ?sideO E100.out).mono ?_); (case sideB => exact (by repeat (first | (with_reducible first | exact HB.out | apply below_alloc | apply pw_below_drewN | apply below_drew1 | refine below_set ?_ GEgb1.out | refine below_set ?_ GEgb3.out | refine below_set ?_ GEgb45.out | refine below_set ?_ GEgb54.out) | exact HB.out))); (case sideO => exact Kd.R_kept (S := (fun _ => False)) HR61.out (by repeat (first | (with_reducible first | exact Kept.refl _ _ | apply Kept.alloc | apply Kept.drewN | apply Kept.drew) | exact Kept.refl _ _)) (fun _ _ hs_ => hs_.elim)); rintro e w97 ⟨rfl, ho_, hb_, hm_⟩; refine ⟨_, rfl, ?_⟩; (try clear hczgb1_0); (try clear hfzgb1_0); (try clear hczgb3_0); (try clear hfzgb3_0); (try clear hczgb3_1); (try clear hfzgb3_1); (try clear hczgb45_0); (try clear hfzgb45_0); (try clear hczgb54_0); (try clear hfzgb54_0); (try clear hczgb54_1); (try clear hfzgb54_1); obtain ⟨hk_, hs1_⟩ := ev_mark (S := (fun k_ => lo59 ≤ k_ ∧ k_ < hi60)) HS.out hm_ (by repeat (first | (with_reducible first | exact Kept.refl _ _ | apply Kept.alloc | apply Kept.drewN | apply Kept.drew) | exact Kept.refl _ _)); have n0_ := Aside0.mk (Kd.F_kept FA0_0.out hk_ (fun k_ h_ hs_ => by have h1_ : k_ < s0 := h_; obtain ⟨g1_, g2_⟩ := hs_; have := CH.out; omega)); have n1_ := Aside0.mk (Kd.F_kept FA1_0.out hk_ (fun k_ h_ hs_ => by have h1_ : k_ < s0 := h_; obtain ⟨g1_, g2_⟩ := hs_; have := CH.out; omega)); have n2_ := Aside0.mk (blk_kept BKgb1.out hk_ (fun hs_ => by obtain ⟨g1_, g2_⟩ := hs_; have := CH.out; omega)); have n3_ := Aside0.mk (blk_kept BKgb3.out hk_ (fun hs_ => by obtain ⟨g1_, g2_⟩ := hs_; have := CH.out; omega)); have n4_ := Aside0.mk (Kd.S_kept HS17.out hk_ (fun k_ h_ hs_ => by obtain ⟨h1_, h2_⟩ := h_; obtain ⟨g1_, g2_⟩ := hs_; have := CH.out; omega)); have n5_ := Aside0.mk (Kd.R_kept HR25.out hk_ (fun k_ h_ hs_ => by obtain ⟨h1_, h2_⟩ := h_; obtain ⟨g1_, g2_⟩ := hs_; have := CH.out; omega)); have n6_ := Aside0.mk (Kd.R_kept HR35.out hk_ (fun k_ h_ hs_ => by obtain ⟨h1_, h2_⟩ := h_; obtain ⟨g1_, g2_⟩ := hs_; have := CH.out; omega)); have n7_ := Aside0.mk (blk_kept BKgb45.out hk_ (fun hs_ => by obtain ⟨g1_, g2_⟩ := hs_; have := CH.out; omega)); have n8_ := Aside0.mk (blk_kept BKgb54.out hk_ (fun hs_ => by obtain ⟨g1_, g2_⟩ := hs_; have := CH.out; omega)); have n9_ := Aside0.mk (Kd.S_kept HS71.out hk_ (fun k_ h_ hs_ => by obtain ⟨h1_, h2_⟩ := h_; obtain ⟨g1_, g2_⟩ := hs_; have := CH.out; omega)); have n10_ := Aside0.mk (Kd.R_kept HR81.out hk_ (fun k_ h_ hs_ => by obtain ⟨h1_, h2_⟩ := h_; obtain ⟨g1_, g2_⟩ := hs_; have := CH.out; omega)); have n11_ := Aside0.mk (Kd.F_kept FM90.out hk_ (fun k_ h_ hs_ => by obtain ⟨h1_, h2_⟩ := h_; obtain ⟨g1_, g2_⟩ := hs_; have := CH.out; omega)); have n12_ := Aside0.mk (Kd.F_kept FM95.out hk_ (fun k_ h_ hs_ => by obtain ⟨h1_, h2_⟩ := h_; obtain ⟨g1_, g2_⟩ := hs_; have := CH.out; omega)); have nB_ := Aside0.mk hb_; have ns_ := Aside0.mk hs1_; clear HB HS FA0_0 FA1_0 BKgb1 BKgb3 HS17 HR25 HR35 BKgb45 BKgb54 HS71 HR81 FM90 FM95; have FA0_0 := n0_; have FA1_0 := n1_; have BKgb1 := n2_; have BKgb3 := n3_; have HS17 := n4_; have HR25 := n5_; have HR35 := n6_; have BKgb45 := n7_; have BKgb54 := n8_; have HS71 := n9_; have HR81 := n10_; have FM90 := n11_; have FM95 := n12_; have HB := nB_; have HS := ns_; clear nB_ ns_ n0_ n1_ n2_ n3_ n4_ n5_ n6_ n7_ n8_ n9_ n10_ n11_ n12_; have hl_ : x29.length = x99.length := (Kd.R_reads' ho_).1; have FM101 := Aside0.mk (Kd.R_F (Kd.R_mono (Kd.R_tight rfl ho_) (fun k_ hk_ => HR61.out.1 k_ hk_.symm))); rw [hl_] at FM101; have HCHR61_ := Aside0.mk (show x99.length ≤ co63 by rw [← hl_]; exact HCHR61.out); have HLFM101 := Aside0.mk hl_; clear ho_ hm_ hb_ hk_ hs1_ hl_ HR61; have hczgb1_0 : w97.cell? ⟨gb1, 0, none⟩ = some (.slice A0_0 l0_0.length c0_0) := (blk_cell BKgb1.out 0).trans rfl; have hfzgb1_0 := blk_frozen BKgb1.out 0; have hczgb3_0 : w97.cell? ⟨gb3, 0, none⟩ = some (.slice A1_0 l1_0.length c1_0) := (blk_cell BKgb3.out 0).trans rfl; have hczgb3_1 : w97.cell? ⟨gb3, 1, none⟩ = some (.int .i64 a1_1) := (blk_cell BKgb3.out 1).trans rfl; have hfzgb3_0 := blk_frozen BKgb3.out 0; have hfzgb3_1 := blk_frozen BKgb3.out 1; have hczgb45_0 : w97.cell? ⟨gb45, 0, none⟩ = some (.slice Ao43 l0_0.length co44) := (blk_cell BKgb45.out 0).trans rfl; have hfzgb45_0 := blk_frozen BKgb45.out 0; have hczgb54_0 : w97.cell? ⟨gb54, 0, none⟩ = some (.slice Ao52 l1_0.length co53) := (blk_cell BKgb54.out 0).trans rfl; have hczgb54_1 : w97.cell? ⟨gb54, 1, none⟩ = some (.int .i64 a1_1) := (blk_cell BKgb54.out 1).trans rfl; have hfzgb54_0 := blk_frozen BKgb54.out 0; have hfzgb54_1 := blk_frozen BKgb54.out 1; have hnbgb1gb3 : gb1 ≠ gb3 := (by have := CH.out; omega); have hnbgb1gb45 : gb1 ≠ gb45 := (by have := CH.out; omega); have hnbgb1gb54 : gb1 ≠ gb54 := (by have := CH.out; omega); have hnbgb3gb1 : gb3 ≠ gb1 := (by have := CH.out; omega); have hnbgb3gb45 : gb3 ≠ gb45 := (by have := CH.out; omega); have hnbgb3gb54 : gb3 ≠ gb54 := (by have := CH.out; omega); have hnbgb45gb1 : gb45 ≠ gb1 := (by have := CH.out; omega); have hnbgb45gb3 : gb45 ≠ gb3 := (by have := CH.out; omega); have hnbgb45gb54 : gb45 ≠ gb54 := (by have := CH.out; omega); have hnbgb54gb1 : gb54 ≠ gb1 := (by have := CH.out; omega); have hnbgb54gb3 : gb54 ≠ gb3 := (by have := CH.out; omega); have hnbgb54gb45 : gb54 ≠ gb45 := (by have := CH.out; omega)) | ((with_reducible refine gate_callee (f := 28) rfl ?_); refine goesL_ (some 88) rfl rfl Try.func28 (by kernel_rfl) rfl #[.slice Ao62 x29.length co63, .int .i64 1] rfl (by (try simp only [List.map_toArray, List.map_cons, List.map_nil]); first | done | rfl | (simp only [List.length_drop, List.length_take]; rfl)) ?_; refine calls_len (args' := #[.slice Ao62 x99.length co63, .int .i64 1]) (by simp only [HLFM101.out]) ?_; (with_reducible refine (laws_heldIntS.calls KE103 _ _ x99 1 x98 _ ?sidehr0 ?sidehc0 E103.out).mono ?_); (case sidehr0 => exact F_at (S := (fun _ => False)) FM101.out (by repeat (first | (with_reducible first | exact Kept.refl _ _ | apply Kept.alloc | apply Kept.drewN | apply Kept.drew) | exact Kept.refl _ _)) (fun _ _ hs_ => hs_.elim)); (case sidehc0 => exact HCHR61_.out); rintro e w102 ⟨rfl, hd_⟩; refine ⟨_, rfl, ?_⟩; have hb_ := hd_.below; (try clear hczgb1_0); (try clear hfzgb1_0); (try clear hczgb3_0); (try clear hfzgb3_0); (try clear hczgb3_1); (try clear hfzgb3_1); (try clear hczgb45_0); (try clear hfzgb45_0); (try clear hczgb54_0); (try clear hfzgb54_0); (try clear hczgb54_1); (try clear hfzgb54_1); obtain ⟨hk_, hs1_, hs2_, hw_⟩ := ev_kept (S := (fun _ => False)) HS.out HB.out hb_ (by repeat (first | (with_reducible first | exact Kept.refl _ _ | apply Kept.alloc | apply Kept.drewN | apply Kept.drew) | exact Kept.refl _ _)); have hB_ := below_step (by repeat (first | (with_reducible first | exact HB.out | apply below_alloc | apply pw_below_drewN | apply below_drew1 | refine below_set ?_ GEgb1.out | refine below_set ?_ GEgb3.out | refine below_set ?_ GEgb45.out | refine below_set ?_ GEgb54.out) | exact HB.out)) hb_; have n0_ := Aside0.mk (Kd.F_kept FA0_0.out hk_ (fun _ _ hs_ => hs_.elim)); have n1_ := Aside0.mk (Kd.F_kept FA1_0.out hk_ (fun _ _ hs_ => hs_.elim)); have n2_ := Aside0.mk (blk_below (g := gb1) (o := .cells #[.slice A0_0 l0_0.length c0_0] 30 (0, 0)) (by (with_reducible repeat (first | refine blk_drewN ?_ _ | refine blk_drew ?_ | refine blk_alloc ?_ _)); exact BKgb1.out) hb_); have n3_ := Aside0.mk (blk_below (g := gb3) (o := .cells #[.slice A1_0 l1_0.length c1_0, .int .i64 a1_1] 44 (0, 0)) (by (with_reducible repeat (first | refine blk_drewN ?_ _ | refine blk_drew ?_ | refine blk_alloc ?_ _)); exact BKgb3.out) hb_); have n4_ := Aside0.mk (Kd.S_kept HS17.out hk_ (fun _ _ hs_ => hs_.elim)); have n5_ := Aside0.mk (Kd.R_kept HR25.out hk_ (fun _ _ hs_ => hs_.elim)); have n6_ := Aside0.mk (Kd.R_kept HR35.out hk_ (fun _ _ hs_ => hs_.elim)); have n7_ := Aside0.mk (blk_below (g := gb45) (o := .cells #[.slice Ao43 l0_0.length co44] 24 (0, 0)) (by (with_reducible repeat (first | refine blk_drewN ?_ _ | refine blk_drew ?_ | refine blk_alloc ?_ _)); exact BKgb45.out) hb_); have n8_ := Aside0.mk (blk_below (g := gb54) (o := .cells #[.slice Ao52 l1_0.length co53, .int .i64 a1_1] 34 (0, 0)) (by (with_reducible repeat (first | refine blk_drewN ?_ _ | refine blk_drew ?_ | refine blk_alloc ?_ _)); exact BKgb54.out) hb_); have n9_ := Aside0.mk (Kd.S_kept HS71.out hk_ (fun _ _ hs_ => hs_.elim)); have n10_ := Aside0.mk (Kd.R_kept HR81.out hk_ (fun _ _ hs_ => hs_.elim)); have n11_ := Aside0.mk (Kd.F_kept FM90.out hk_ (fun _ _ hs_ => hs_.elim)); have n12_ := Aside0.mk (Kd.F_kept FM95.out hk_ (fun _ _ hs_ => hs_.elim)); have n13_ := Aside0.mk (Kd.F_kept FM101.out hk_ (fun _ _ hs_ => hs_.elim)); have ns_ := Aside0.mk (Nat.le_trans (Nat.le_trans hs1_ hs2_) (Nat.le_refl _)); have nB_ := Aside0.mk hB_; clear HB HS FA0_0 FA1_0 BKgb1 BKgb3 HS17 HR25 HR35 BKgb45 BKgb54 HS71 HR81 FM90 FM95 FM101; have FA0_0 := n0_; have FA1_0 := n1_; have BKgb1 := n2_; have BKgb3 := n3_; have HS17 := n4_; have HR25 := n5_; have HR35 := n6_; have BKgb45 := n7_; have BKgb54 := n8_; have HS71 := n9_; have HR81 := n10_; have FM90 := n11_; have FM95 := n12_; have FM101 := n13_; have HB := nB_; have HS := ns_; clear nB_ ns_ n0_ n1_ n2_ n3_ n4_ n5_ n6_ n7_ n8_ n9_ n10_ n11_ n12_ n13_; clear hk_ hs1_ hs2_ hw_ hB_ hb_; clear hd_; have hczgb1_0 : w102.cell? ⟨gb1, 0, none⟩ = some (.slice A0_0 l0_0.length c0_0) := (blk_cell BKgb1.out 0).trans rfl; have hfzgb1_0 := blk_frozen BKgb1.out 0; have hczgb3_0 : w102.cell? ⟨gb3, 0, none⟩ = some (.slice A1_0 l1_0.length c1_0) := (blk_cell BKgb3.out 0).trans rfl; have hczgb3_1 : w102.cell? ⟨gb3, 1, none⟩ = some (.int .i64 a1_1) := (blk_cell BKgb3.out 1).trans rfl; have hfzgb3_0 := blk_frozen BKgb3.out 0; have hfzgb3_1 := blk_frozen BKgb3.out 1; have hczgb45_0 : w102.cell? ⟨gb45, 0, none⟩ = some (.slice Ao43 l0_0.length co44) := (blk_cell BKgb45.out 0).trans rfl; have hfzgb45_0 := blk_frozen BKgb45.out 0; have hczgb54_0 : w102.cell? ⟨gb54, 0, none⟩ = some (.slice Ao52 l1_0.length co53) := (blk_cell BKgb54.out 0).trans rfl; have hczgb54_1 : w102.cell? ⟨gb54, 1, none⟩ = some (.int .i64 a1_1) := (blk_cell BKgb54.out 1).trans rfl; have hfzgb54_0 := blk_frozen BKgb54.out 0; have hfzgb54_1 := blk_frozen BKgb54.out 1; have hnbgb1gb3 : gb1 ≠ gb3 := (by have := CH.out; omega); have hnbgb1gb45 : gb1 ≠ gb45 := (by have := CH.out; omega); have hnbgb1gb54 : gb1 ≠ gb54 := (by have := CH.out; omega); have hnbgb3gb1 : gb3 ≠ gb1 := (by have := CH.out; omega); have hnbgb3gb45 : gb3 ≠ gb45 := (by have := CH.out; omega); have hnbgb3gb54 : gb3 ≠ gb54 := (by have := CH.out; omega); have hnbgb45gb1 : gb45 ≠ gb1 := (by have := CH.out; omega); have hnbgb45gb3 : gb45 ≠ gb3 := (by have := CH.out; omega); have hnbgb45gb54 : gb45 ≠ gb54 := (by have := CH.out; omega); have hnbgb54gb1 : gb54 ≠ gb1 := (by have := CH.out; omega); have hnbgb54gb3 : gb54 ≠ gb3 := (by have := CH.out; omega); have hnbgb54gb45 : gb54 ≠ gb45 := (by have := CH.out; omega)))
  try go_wp2
  (try clear hczgb1_0)
  (try clear hfzgb1_0)
  (try clear hczgb3_0)
  (try clear hfzgb3_0)
  (try clear hczgb3_1)
  (try clear hfzgb3_1)
  (try clear hczgb45_0)
  (try clear hfzgb45_0)
  (try clear hczgb54_0)
  (try clear hfzgb54_0)
  (try clear hczgb54_1)
  (try clear hfzgb54_1)
  have n0_ := Aside0.mk (Kd.F_drew FA0_0.out)
  have n1_ := Aside0.mk (Kd.F_drew FA1_0.out)
  have n2_ := Aside0.mk (blk_drew BKgb1.out)
  have n3_ := Aside0.mk (blk_drew BKgb3.out)
  have n4_ := Aside0.mk (Kd.S_drew HS17.out)
  have n5_ := Aside0.mk (Kd.R_drew HR25.out)
  have n6_ := Aside0.mk (Kd.R_drew HR35.out)
  have n7_ := Aside0.mk (blk_drew BKgb45.out)
  have n8_ := Aside0.mk (blk_drew BKgb54.out)
  have n9_ := Aside0.mk (Kd.S_drew HS71.out)
  have n10_ := Aside0.mk (Kd.R_drew HR81.out)
  have n11_ := Aside0.mk (Kd.F_drew FM90.out)
  have n12_ := Aside0.mk (Kd.F_drew FM95.out)
  have n13_ := Aside0.mk (Kd.F_drew FM101.out)
  have nB_ := Aside0.mk (below_drew1 HB.out)
  have nS_ : Aside0 (hi80 ≤ w102.drew.heap.size) := ⟨HS.out⟩
  clear HB HS FA0_0 FA1_0 BKgb1 BKgb3 HS17 HR25 HR35 BKgb45 BKgb54 HS71 HR81 FM90 FM95 FM101
  have FA0_0 := n0_
  have FA1_0 := n1_
  have BKgb1 := n2_
  have BKgb3 := n3_
  have HS17 := n4_
  have HR25 := n5_
  have HR35 := n6_
  have BKgb45 := n7_
  have BKgb54 := n8_
  have HS71 := n9_
  have HR81 := n10_
  have FM90 := n11_
  have FM95 := n12_
  have FM101 := n13_
  have HB := nB_
  have HS := nS_
  clear nB_ nS_ n0_ n1_ n2_ n3_ n4_ n5_ n6_ n7_ n8_ n9_ n10_ n11_ n12_ n13_
  refine start_ (n := 10) (S := fun w' => w'.cell? ⟨gb1, 0, none⟩ = some (.slice A0_0 l0_0.length c0_0) ∧ w'.cell? ⟨gb3, 0, none⟩ = some (.slice A1_0 l1_0.length c1_0) ∧ w'.cell? ⟨gb3, 1, none⟩ = some (.int .i64 a1_1) ∧ w'.cell? ⟨gb45, 0, none⟩ = some (.slice Ao43 l0_0.length co44) ∧ w'.cell? ⟨gb54, 0, none⟩ = some (.slice Ao52 l1_0.length co53) ∧ w'.cell? ⟨gb54, 1, none⟩ = some (.int .i64 a1_1)) (ds := []) #[false, false, false, false, false, false, false, false, false, false] (by kernel_rfl) rfl rfl ⟨(blk_cell BKgb1.out 0).trans rfl, (blk_cell BKgb3.out 0).trans rfl, (blk_cell BKgb3.out 1).trans rfl, (blk_cell BKgb45.out 0).trans rfl, (blk_cell BKgb54.out 0).trans rfl, (blk_cell BKgb54.out 1).trans rfl⟩ (fun hHeld => ?_)
  generalize w102.drew = w104 at HB HS FA0_0 FA1_0 BKgb1 BKgb3 HS17 HR25 HR35 BKgb45 BKgb54 HS71 HR81 FM90 FM95 FM101 hHeld ⊢
  refine take_ (i := 0) (N := some 95) (v := ?_) (a' := ?_) #[true, false, false, false, false, false, false, false, false, false] rfl rfl (by kernel_rfl) (fun _ _ _ h => h) (Or.inl ⟨by rfl, ?_⟩) hHeld ?_ ?_
  rotate_left
  · rintro w' ⟨s0_, s1_, s2_, s3_, s4_, s5_⟩
    go_simp
    with_reducible rfl
  rotate_left
  · simp only [Act.put, List.setIfInBounds_toArray, List.set_cons_zero, List.set_cons_succ, i64_w, i32_w]
    rfl
  refine take_ (i := 2) (N := some 97) (v := ?_) (a' := ?_) #[true, false, true, false, false, false, false, false, false, false] rfl rfl (by kernel_rfl) (fun _ _ _ h => h) (Or.inl ⟨by rfl, ?_⟩) hHeld ?_ ?_
  rotate_left
  · rintro w' ⟨s0_, s1_, s2_, s3_, s4_, s5_⟩
    go_simp
    with_reducible rfl
  rotate_left
  · simp only [Act.put, List.setIfInBounds_toArray, List.set_cons_zero, List.set_cons_succ, i64_w, i32_w]
    rfl
  refine one_ (i := 1) (N := some 96) #[true, true, true, false, false, false, false, false, false, false] rfl rfl (by kernel_rfl) (by decide) (fun K hK => ?_)
  refine goes_ Try.func16 (by kernel_rfl) rfl #[.agg #[.slice A0_0 l0_0.length c0_0]] (by rfl) rfl rfl (by (try simp only [List.map_toArray, List.map_cons, List.map_nil]); first | done | rfl | (simp only [List.length_drop, List.length_take]; rfl)) ?_
  (with_reducible refine (laws_toGraph.calls KE13 _ _ l0_0 l0_0 _ ?sidehr0_0 ?sidehc0_0 E13.out).mono ?_)
  (case sidehr0_0 => exact F_at (S := (fun _ => False)) FA0_0.out (by repeat (first | (with_reducible first | exact Kept.refl _ _ | apply Kept.alloc | apply Kept.drewN | apply Kept.drew) | exact Kept.refl _ _)) (fun _ _ hs_ => hs_.elim))
  (case sidehc0_0 => exact HC0_0.out)
  rintro e w105 ⟨v106, rfl, hov0__, hb_⟩
  refine ⟨_, rfl, ?_⟩
  (try clear hczgb1_0)
  (try clear hfzgb1_0)
  (try clear hczgb3_0)
  (try clear hfzgb3_0)
  (try clear hczgb3_1)
  (try clear hfzgb3_1)
  (try clear hczgb45_0)
  (try clear hfzgb45_0)
  (try clear hczgb54_0)
  (try clear hfzgb54_0)
  (try clear hczgb54_1)
  (try clear hfzgb54_1)
  obtain ⟨hk_, hs1_, hs2_, hw_⟩ := ev_kept (S := (fun _ => False)) HS.out HB.out hb_ (by repeat (first | (with_reducible first | exact Kept.refl _ _ | apply Kept.alloc | apply Kept.drewN | apply Kept.drew) | exact Kept.refl _ _))
  have hB_ := below_step (by repeat (first | (with_reducible first | exact HB.out | apply below_alloc | apply pw_below_drewN | apply below_drew1 | refine below_set ?_ GEgb1.out | refine below_set ?_ GEgb3.out | refine below_set ?_ GEgb45.out | refine below_set ?_ GEgb54.out) | exact HB.out)) hb_
  have n0_ := Aside0.mk (Kd.F_kept FA0_0.out hk_ (fun _ _ hs_ => hs_.elim))
  have n1_ := Aside0.mk (Kd.F_kept FA1_0.out hk_ (fun _ _ hs_ => hs_.elim))
  have n2_ := Aside0.mk (blk_below (g := gb1) (o := .cells #[.slice A0_0 l0_0.length c0_0] 30 (0, 0)) (by (with_reducible repeat (first | refine blk_drewN ?_ _ | refine blk_drew ?_ | refine blk_alloc ?_ _)); exact BKgb1.out) hb_)
  have n3_ := Aside0.mk (blk_below (g := gb3) (o := .cells #[.slice A1_0 l1_0.length c1_0, .int .i64 a1_1] 44 (0, 0)) (by (with_reducible repeat (first | refine blk_drewN ?_ _ | refine blk_drew ?_ | refine blk_alloc ?_ _)); exact BKgb3.out) hb_)
  have n4_ := Aside0.mk (Kd.S_kept HS17.out hk_ (fun _ _ hs_ => hs_.elim))
  have n5_ := Aside0.mk (Kd.R_kept HR25.out hk_ (fun _ _ hs_ => hs_.elim))
  have n6_ := Aside0.mk (Kd.R_kept HR35.out hk_ (fun _ _ hs_ => hs_.elim))
  have n7_ := Aside0.mk (blk_below (g := gb45) (o := .cells #[.slice Ao43 l0_0.length co44] 24 (0, 0)) (by (with_reducible repeat (first | refine blk_drewN ?_ _ | refine blk_drew ?_ | refine blk_alloc ?_ _)); exact BKgb45.out) hb_)
  have n8_ := Aside0.mk (blk_below (g := gb54) (o := .cells #[.slice Ao52 l1_0.length co53, .int .i64 a1_1] 34 (0, 0)) (by (with_reducible repeat (first | refine blk_drewN ?_ _ | refine blk_drew ?_ | refine blk_alloc ?_ _)); exact BKgb54.out) hb_)
  have n9_ := Aside0.mk (Kd.S_kept HS71.out hk_ (fun _ _ hs_ => hs_.elim))
  have n10_ := Aside0.mk (Kd.R_kept HR81.out hk_ (fun _ _ hs_ => hs_.elim))
  have n11_ := Aside0.mk (Kd.F_kept FM90.out hk_ (fun _ _ hs_ => hs_.elim))
  have n12_ := Aside0.mk (Kd.F_kept FM95.out hk_ (fun _ _ hs_ => hs_.elim))
  have n13_ := Aside0.mk (Kd.F_kept FM101.out hk_ (fun _ _ hs_ => hs_.elim))
  have ns_ := Aside0.mk (Nat.le_trans (Nat.le_trans hs1_ hs2_) (Nat.le_refl _))
  have nB_ := Aside0.mk hB_
  obtain ⟨lo107, hi108, c1_, c2_, c3_, h_⟩ := S_new hov0__ hs2_ hw_ hs1_
  have HS109 := Aside0.mk h_
  obtain ⟨Ao110, co111, eo_⟩ := Kd.S_slice HS109.out
  subst eo_
  have HCHS109 := Aside0.mk (Kd.S_reads' HS109.out).2.1
  clear h_ hov0__
  have nc_ := Aside0.mk (And.intro c1_ (And.intro c2_ CH.out))
  clear CH ns_
  have CH := nc_
  have ns_ := Aside0.mk c3_
  clear nc_ c1_ c2_ c3_
  clear HB HS FA0_0 FA1_0 BKgb1 BKgb3 HS17 HR25 HR35 BKgb45 BKgb54 HS71 HR81 FM90 FM95 FM101
  have FA0_0 := n0_
  have FA1_0 := n1_
  have BKgb1 := n2_
  have BKgb3 := n3_
  have HS17 := n4_
  have HR25 := n5_
  have HR35 := n6_
  have BKgb45 := n7_
  have BKgb54 := n8_
  have HS71 := n9_
  have HR81 := n10_
  have FM90 := n11_
  have FM95 := n12_
  have FM101 := n13_
  have HB := nB_
  have HS := ns_
  clear nB_ ns_ n0_ n1_ n2_ n3_ n4_ n5_ n6_ n7_ n8_ n9_ n10_ n11_ n12_ n13_
  clear hk_ hs1_ hs2_ hw_ hB_ hb_
  refine hK.out _ _ ⟨(blk_cell BKgb1.out 0).trans rfl, (blk_cell BKgb3.out 0).trans rfl, (blk_cell BKgb3.out 1).trans rfl, (blk_cell BKgb45.out 0).trans rfl, (blk_cell BKgb54.out 0).trans rfl, (blk_cell BKgb54.out 1).trans rfl⟩ (fun hHeld => ?_)
  clear hK K
  refine norm_ (a' := ?_) ?_ ?_
  rotate_left
  · show Act.put _ (some 96) _ = _
    simp only [Act.put, List.setIfInBounds_toArray, List.set_cons_zero, List.set_cons_succ, i64_w, i32_w]
    rfl
  refine one_ (i := 3) (N := some 98) #[true, true, true, true, false, false, false, false, false, false] rfl rfl (by kernel_rfl) (by decide) (fun K hK => ?_)
  refine goes_ Try.func26 (by kernel_rfl) rfl #[.agg #[.slice A1_0 l1_0.length c1_0, .int .i64 a1_1]] (by rfl) rfl rfl (by (try simp only [List.map_toArray, List.map_cons, List.map_nil]); first | done | rfl | (simp only [List.length_drop, List.length_take]; rfl)) ?_
  (with_reducible refine (laws_toWalk.calls KE21 _ _ l1_0 a1_1 l1_0 a1_1 _ ?sidehr0_0 ?sidehc0_0 E21.out).mono ?_)
  (case sidehr0_0 => exact F_at (S := (fun _ => False)) FA1_0.out (by repeat (first | (with_reducible first | exact Kept.refl _ _ | apply Kept.alloc | apply Kept.drewN | apply Kept.drew) | exact Kept.refl _ _)) (fun _ _ hs_ => hs_.elim))
  (case sidehc0_0 => exact HC1_0.out)
  rintro e w112 ⟨v113, rfl, hov0__, hb_⟩
  refine ⟨_, rfl, ?_⟩
  (try clear hczgb1_0)
  (try clear hfzgb1_0)
  (try clear hczgb3_0)
  (try clear hfzgb3_0)
  (try clear hczgb3_1)
  (try clear hfzgb3_1)
  (try clear hczgb45_0)
  (try clear hfzgb45_0)
  (try clear hczgb54_0)
  (try clear hfzgb54_0)
  (try clear hczgb54_1)
  (try clear hfzgb54_1)
  obtain ⟨hk_, hs1_, hs2_, hw_⟩ := ev_kept (S := (fun _ => False)) HS.out HB.out hb_ (by repeat (first | (with_reducible first | exact Kept.refl _ _ | apply Kept.alloc | apply Kept.drewN | apply Kept.drew) | exact Kept.refl _ _))
  have hB_ := below_step (by repeat (first | (with_reducible first | exact HB.out | apply below_alloc | apply pw_below_drewN | apply below_drew1 | refine below_set ?_ GEgb1.out | refine below_set ?_ GEgb3.out | refine below_set ?_ GEgb45.out | refine below_set ?_ GEgb54.out) | exact HB.out)) hb_
  have n0_ := Aside0.mk (Kd.F_kept FA0_0.out hk_ (fun _ _ hs_ => hs_.elim))
  have n1_ := Aside0.mk (Kd.F_kept FA1_0.out hk_ (fun _ _ hs_ => hs_.elim))
  have n2_ := Aside0.mk (blk_below (g := gb1) (o := .cells #[.slice A0_0 l0_0.length c0_0] 30 (0, 0)) (by (with_reducible repeat (first | refine blk_drewN ?_ _ | refine blk_drew ?_ | refine blk_alloc ?_ _)); exact BKgb1.out) hb_)
  have n3_ := Aside0.mk (blk_below (g := gb3) (o := .cells #[.slice A1_0 l1_0.length c1_0, .int .i64 a1_1] 44 (0, 0)) (by (with_reducible repeat (first | refine blk_drewN ?_ _ | refine blk_drew ?_ | refine blk_alloc ?_ _)); exact BKgb3.out) hb_)
  have n4_ := Aside0.mk (Kd.S_kept HS17.out hk_ (fun _ _ hs_ => hs_.elim))
  have n5_ := Aside0.mk (Kd.R_kept HR25.out hk_ (fun _ _ hs_ => hs_.elim))
  have n6_ := Aside0.mk (Kd.R_kept HR35.out hk_ (fun _ _ hs_ => hs_.elim))
  have n7_ := Aside0.mk (blk_below (g := gb45) (o := .cells #[.slice Ao43 l0_0.length co44] 24 (0, 0)) (by (with_reducible repeat (first | refine blk_drewN ?_ _ | refine blk_drew ?_ | refine blk_alloc ?_ _)); exact BKgb45.out) hb_)
  have n8_ := Aside0.mk (blk_below (g := gb54) (o := .cells #[.slice Ao52 l1_0.length co53, .int .i64 a1_1] 34 (0, 0)) (by (with_reducible repeat (first | refine blk_drewN ?_ _ | refine blk_drew ?_ | refine blk_alloc ?_ _)); exact BKgb54.out) hb_)
  have n9_ := Aside0.mk (Kd.S_kept HS71.out hk_ (fun _ _ hs_ => hs_.elim))
  have n10_ := Aside0.mk (Kd.R_kept HR81.out hk_ (fun _ _ hs_ => hs_.elim))
  have n11_ := Aside0.mk (Kd.F_kept FM90.out hk_ (fun _ _ hs_ => hs_.elim))
  have n12_ := Aside0.mk (Kd.F_kept FM95.out hk_ (fun _ _ hs_ => hs_.elim))
  have n13_ := Aside0.mk (Kd.F_kept FM101.out hk_ (fun _ _ hs_ => hs_.elim))
  have n14_ := Aside0.mk (Kd.S_kept HS109.out hk_ (fun _ _ hs_ => hs_.elim))
  have ns_ := Aside0.mk (Nat.le_trans (Nat.le_trans hs1_ hs2_) (Nat.le_refl _))
  have nB_ := Aside0.mk hB_
  obtain ⟨lo114, hi115, c1_, c2_, c3_, h_⟩ := R_new hov0__ hs2_ hw_ hs1_
  have HR116 := Aside0.mk h_
  obtain ⟨Ao117, co118, eo_⟩ := Kd.R_slice HR116.out
  subst eo_
  have HCHR116 := Aside0.mk (Kd.R_reads' HR116.out).2.1
  clear h_ hov0__
  have nc_ := Aside0.mk (And.intro c1_ (And.intro c2_ CH.out))
  clear CH ns_
  have CH := nc_
  have ns_ := Aside0.mk c3_
  clear nc_ c1_ c2_ c3_
  clear HB HS FA0_0 FA1_0 BKgb1 BKgb3 HS17 HR25 HR35 BKgb45 BKgb54 HS71 HR81 FM90 FM95 FM101 HS109
  have FA0_0 := n0_
  have FA1_0 := n1_
  have BKgb1 := n2_
  have BKgb3 := n3_
  have HS17 := n4_
  have HR25 := n5_
  have HR35 := n6_
  have BKgb45 := n7_
  have BKgb54 := n8_
  have HS71 := n9_
  have HR81 := n10_
  have FM90 := n11_
  have FM95 := n12_
  have FM101 := n13_
  have HS109 := n14_
  have HB := nB_
  have HS := ns_
  clear nB_ ns_ n0_ n1_ n2_ n3_ n4_ n5_ n6_ n7_ n8_ n9_ n10_ n11_ n12_ n13_ n14_
  clear hk_ hs1_ hs2_ hw_ hB_ hb_
  refine hK.out _ _ ⟨(blk_cell BKgb1.out 0).trans rfl, (blk_cell BKgb3.out 0).trans rfl, (blk_cell BKgb3.out 1).trans rfl, (blk_cell BKgb45.out 0).trans rfl, (blk_cell BKgb54.out 0).trans rfl, (blk_cell BKgb54.out 1).trans rfl⟩ (fun hHeld => ?_)
  clear hK K
  refine norm_ (a' := ?_) ?_ ?_
  rotate_left
  · show Act.put _ (some 98) _ = _
    simp only [Act.put, List.setIfInBounds_toArray, List.set_cons_zero, List.set_cons_succ, i64_w, i32_w]
    rfl
  refine one_ (i := 4) (N := some 99) #[true, true, true, true, true, false, false, false, false, false] rfl rfl (by kernel_rfl) (by decide) (fun K hK => ?_)
  refine goes_ Try.func30 (by kernel_rfl) rfl #[.agg #[.slice Ao110 l0_0.length co111], .agg #[.slice Ao117 l1_0.length co118, .int .i64 a1_1]] (by rfl) rfl rfl (by (try simp only [List.map_toArray, List.map_cons, List.map_nil]); first | done | rfl | (simp only [List.length_drop, List.length_take]; rfl)) ?_
  (with_reducible refine (impl_TreeOfUnicycle.calls KE57 _ _ l0_0 _ _ l1_0 a1_1 x29 x30 _ ?sidehr0_0 ?sidehc0_0 ?sidehr1_0 ?sidehc1_0 E57.out).mono ?_)
  (case sidehr0_0 => exact S_now (S := (fun _ => False)) HS109.out (by repeat (first | (with_reducible first | exact Kept.refl _ _ | apply Kept.alloc | apply Kept.drewN | apply Kept.drew) | exact Kept.refl _ _)) (fun _ _ hs_ => hs_.elim))
  (case sidehc0_0 => exact HCHS109.out)
  (case sidehr1_0 => exact R_now (S := (fun _ => False)) HR116.out (by repeat (first | (with_reducible first | exact Kept.refl _ _ | apply Kept.alloc | apply Kept.drewN | apply Kept.drew) | exact Kept.refl _ _)) (fun _ _ hs_ => hs_.elim))
  (case sidehc1_0 => exact HCHR116.out)
  rintro e w119 ⟨v120, rfl, hov0__, hb_⟩
  refine ⟨_, rfl, ?_⟩
  (try clear hczgb1_0)
  (try clear hfzgb1_0)
  (try clear hczgb3_0)
  (try clear hfzgb3_0)
  (try clear hczgb3_1)
  (try clear hfzgb3_1)
  (try clear hczgb45_0)
  (try clear hfzgb45_0)
  (try clear hczgb54_0)
  (try clear hfzgb54_0)
  (try clear hczgb54_1)
  (try clear hfzgb54_1)
  obtain ⟨hk_, hs1_, hs2_, hw_⟩ := ev_kept (S := (fun _ => False)) HS.out HB.out hb_ (by repeat (first | (with_reducible first | exact Kept.refl _ _ | apply Kept.alloc | apply Kept.drewN | apply Kept.drew) | exact Kept.refl _ _))
  have hB_ := below_step (by repeat (first | (with_reducible first | exact HB.out | apply below_alloc | apply pw_below_drewN | apply below_drew1 | refine below_set ?_ GEgb1.out | refine below_set ?_ GEgb3.out | refine below_set ?_ GEgb45.out | refine below_set ?_ GEgb54.out) | exact HB.out)) hb_
  have n0_ := Aside0.mk (Kd.F_kept FA0_0.out hk_ (fun _ _ hs_ => hs_.elim))
  have n1_ := Aside0.mk (Kd.F_kept FA1_0.out hk_ (fun _ _ hs_ => hs_.elim))
  have n2_ := Aside0.mk (blk_below (g := gb1) (o := .cells #[.slice A0_0 l0_0.length c0_0] 30 (0, 0)) (by (with_reducible repeat (first | refine blk_drewN ?_ _ | refine blk_drew ?_ | refine blk_alloc ?_ _)); exact BKgb1.out) hb_)
  have n3_ := Aside0.mk (blk_below (g := gb3) (o := .cells #[.slice A1_0 l1_0.length c1_0, .int .i64 a1_1] 44 (0, 0)) (by (with_reducible repeat (first | refine blk_drewN ?_ _ | refine blk_drew ?_ | refine blk_alloc ?_ _)); exact BKgb3.out) hb_)
  have n4_ := Aside0.mk (Kd.S_kept HS17.out hk_ (fun _ _ hs_ => hs_.elim))
  have n5_ := Aside0.mk (Kd.R_kept HR25.out hk_ (fun _ _ hs_ => hs_.elim))
  have n6_ := Aside0.mk (Kd.R_kept HR35.out hk_ (fun _ _ hs_ => hs_.elim))
  have n7_ := Aside0.mk (blk_below (g := gb45) (o := .cells #[.slice Ao43 l0_0.length co44] 24 (0, 0)) (by (with_reducible repeat (first | refine blk_drewN ?_ _ | refine blk_drew ?_ | refine blk_alloc ?_ _)); exact BKgb45.out) hb_)
  have n8_ := Aside0.mk (blk_below (g := gb54) (o := .cells #[.slice Ao52 l1_0.length co53, .int .i64 a1_1] 34 (0, 0)) (by (with_reducible repeat (first | refine blk_drewN ?_ _ | refine blk_drew ?_ | refine blk_alloc ?_ _)); exact BKgb54.out) hb_)
  have n9_ := Aside0.mk (Kd.S_kept HS71.out hk_ (fun _ _ hs_ => hs_.elim))
  have n10_ := Aside0.mk (Kd.R_kept HR81.out hk_ (fun _ _ hs_ => hs_.elim))
  have n11_ := Aside0.mk (Kd.F_kept FM90.out hk_ (fun _ _ hs_ => hs_.elim))
  have n12_ := Aside0.mk (Kd.F_kept FM95.out hk_ (fun _ _ hs_ => hs_.elim))
  have n13_ := Aside0.mk (Kd.F_kept FM101.out hk_ (fun _ _ hs_ => hs_.elim))
  have n14_ := Aside0.mk (Kd.S_kept HS109.out hk_ (fun _ _ hs_ => hs_.elim))
  have n15_ := Aside0.mk (Kd.R_kept HR116.out hk_ (fun _ _ hs_ => hs_.elim))
  have ns_ := Aside0.mk (Nat.le_trans (Nat.le_trans hs1_ hs2_) (Nat.le_refl _))
  have nB_ := Aside0.mk hB_
  obtain ⟨lo121, hi122, c1_, c2_, c3_, h_⟩ := R_new hov0__ hs2_ hw_ hs1_
  have HR123 := Aside0.mk h_
  obtain ⟨Ao124, co125, eo_⟩ := Kd.R_slice HR123.out
  subst eo_
  have HCHR123 := Aside0.mk (Kd.R_reads' HR123.out).2.1
  clear h_ hov0__
  have nc_ := Aside0.mk (And.intro c1_ (And.intro c2_ CH.out))
  clear CH ns_
  have CH := nc_
  have ns_ := Aside0.mk c3_
  clear nc_ c1_ c2_ c3_
  clear HB HS FA0_0 FA1_0 BKgb1 BKgb3 HS17 HR25 HR35 BKgb45 BKgb54 HS71 HR81 FM90 FM95 FM101 HS109 HR116
  have FA0_0 := n0_
  have FA1_0 := n1_
  have BKgb1 := n2_
  have BKgb3 := n3_
  have HS17 := n4_
  have HR25 := n5_
  have HR35 := n6_
  have BKgb45 := n7_
  have BKgb54 := n8_
  have HS71 := n9_
  have HR81 := n10_
  have FM90 := n11_
  have FM95 := n12_
  have FM101 := n13_
  have HS109 := n14_
  have HR116 := n15_
  have HB := nB_
  have HS := ns_
  clear nB_ ns_ n0_ n1_ n2_ n3_ n4_ n5_ n6_ n7_ n8_ n9_ n10_ n11_ n12_ n13_ n14_ n15_
  clear hk_ hs1_ hs2_ hw_ hB_ hb_
  refine hK.out _ _ ⟨(blk_cell BKgb1.out 0).trans rfl, (blk_cell BKgb3.out 0).trans rfl, (blk_cell BKgb3.out 1).trans rfl, (blk_cell BKgb45.out 0).trans rfl, (blk_cell BKgb54.out 0).trans rfl, (blk_cell BKgb54.out 1).trans rfl⟩ (fun hHeld => ?_)
  clear hK K
  refine norm_ (a' := ?_) ?_ ?_
  rotate_left
  · show Act.put _ (some 99) _ = _
    simp only [Act.put, List.setIfInBounds_toArray, List.set_cons_zero, List.set_cons_succ, i64_w, i32_w]
    rfl
  refine pure_ (i := 5) (N := some 94) (v := ?_) (a' := ?_) #[true, true, true, true, true, true, false, false, false, false] rfl rfl (by kernel_rfl) (fun _ _ _ h => h) (Or.inl ⟨by rfl, ?_⟩) ?_ ?_
  rotate_left
  · intro w'
    go_simp
    with_reducible rfl
  rotate_left
  · simp only [Act.put, List.setIfInBounds_toArray, List.set_cons_zero, List.set_cons_succ, i64_w, i32_w]
    rfl
  refine pure_ (i := 6) (N := some 100) (v := ?_) (a' := ?_) #[true, true, true, true, true, true, true, false, false, false] rfl rfl (by kernel_rfl) (fun _ _ _ h => h) (Or.inl ⟨by rfl, ?_⟩) ?_ ?_
  rotate_left
  · intro w'
    go_simp
    with_reducible rfl
  rotate_left
  · simp only [Act.put, List.setIfInBounds_toArray, List.set_cons_zero, List.set_cons_succ, i64_w, i32_w]
    rfl
  refine pure_ (i := 7) (N := some 101) (v := ?_) (a' := ?_) #[true, true, true, true, true, true, true, true, false, false] rfl rfl (by kernel_rfl) (fun _ _ _ h => h) (Or.inl ⟨by rfl, ?_⟩) ?_ ?_
  rotate_left
  · intro w'
    go_simp
    with_reducible rfl
  rotate_left
  · simp only [Act.put, List.setIfInBounds_toArray, List.set_cons_zero, List.set_cons_succ, i64_w, i32_w]
    rfl
  refine pure_ (i := 8) (N := some 15) (v := ?_) (a' := ?_) #[true, true, true, true, true, true, true, true, true, false] rfl rfl (by kernel_rfl) (fun _ _ _ h => h) (Or.inl ⟨by rfl, ?_⟩) ?_ ?_
  rotate_left
  · intro w'
    go_simp
    with_reducible rfl
  rotate_left
  · simp only [Act.put, List.setIfInBounds_toArray, List.set_cons_zero, List.set_cons_succ, i64_w, i32_w]
    rfl
  refine pure_ (i := 9) (N := some 16) (v := ?_) (a' := ?_) #[true, true, true, true, true, true, true, true, true, true] rfl rfl (by kernel_rfl) (fun _ _ _ h => h) (Or.inl ⟨by rfl, ?_⟩) ?_ ?_
  rotate_left
  · intro w'
    go_simp
    with_reducible rfl
  rotate_left
  · simp only [Act.put, List.setIfInBounds_toArray, List.set_cons_zero, List.set_cons_succ, i64_w, i32_w]
    rfl
  refine done_ (by kernel_rfl) ?_
  go_wp2_with (first | ((with_reducible refine gate_callee (f := 20) rfl ?_); refine goesL_ (some 104) rfl rfl Try.func20 (by kernel_rfl) rfl #[.slice Ao124 x29.length co125, .slice Ao36 x29.length co37] rfl (by (try simp only [List.map_toArray, List.map_cons, List.map_nil]); first | done | rfl | (simp only [List.length_drop, List.length_take]; rfl)) ?_; (with_reducible refine (laws_eqIntS.calls KE65 _ _ x29 _ _ x29 true _ ?sidehr0 ?sidehc0 ?sidehr1 ?sidehc1 E65.out).mono ?_); (case sidehr0 => exact R_now (S := (fun _ => False)) HR123.out (by repeat (first | (with_reducible first | exact Kept.refl _ _ | apply Kept.alloc | apply Kept.drewN | apply Kept.drew) | exact Kept.refl _ _)) (fun _ _ hs_ => hs_.elim)); (case sidehc0 => exact HCHR123.out); (case sidehr1 => exact R_now (S := (fun _ => False)) HR35.out (by repeat (first | (with_reducible first | exact Kept.refl _ _ | apply Kept.alloc | apply Kept.drewN | apply Kept.drew) | exact Kept.refl _ _)) (fun _ _ hs_ => hs_.elim)); (case sidehc1 => exact HCHR35.out); rintro e w126 ⟨rfl, hd_⟩; refine ⟨_, rfl, ?_⟩; have hb_ := hd_.below; (try clear hczgb1_0); (try clear hfzgb1_0); (try clear hczgb3_0); (try clear hfzgb3_0); (try clear hczgb3_1); (try clear hfzgb3_1); (try clear hczgb45_0); (try clear hfzgb45_0); (try clear hczgb54_0); (try clear hfzgb54_0); (try clear hczgb54_1); (try clear hfzgb54_1); obtain ⟨hk_, hs1_, hs2_, hw_⟩ := ev_kept (S := (fun _ => False)) HS.out HB.out hb_ (by repeat (first | (with_reducible first | exact Kept.refl _ _ | apply Kept.alloc | apply Kept.drewN | apply Kept.drew) | exact Kept.refl _ _)); have hB_ := below_step (by repeat (first | (with_reducible first | exact HB.out | apply below_alloc | apply pw_below_drewN | apply below_drew1 | refine below_set ?_ GEgb1.out | refine below_set ?_ GEgb3.out | refine below_set ?_ GEgb45.out | refine below_set ?_ GEgb54.out) | exact HB.out)) hb_; have n0_ := Aside0.mk (Kd.F_kept FA0_0.out hk_ (fun _ _ hs_ => hs_.elim)); have n1_ := Aside0.mk (Kd.F_kept FA1_0.out hk_ (fun _ _ hs_ => hs_.elim)); have n2_ := Aside0.mk (blk_below (g := gb1) (o := .cells #[.slice A0_0 l0_0.length c0_0] 30 (0, 0)) (by (with_reducible repeat (first | refine blk_drewN ?_ _ | refine blk_drew ?_ | refine blk_alloc ?_ _)); exact BKgb1.out) hb_); have n3_ := Aside0.mk (blk_below (g := gb3) (o := .cells #[.slice A1_0 l1_0.length c1_0, .int .i64 a1_1] 44 (0, 0)) (by (with_reducible repeat (first | refine blk_drewN ?_ _ | refine blk_drew ?_ | refine blk_alloc ?_ _)); exact BKgb3.out) hb_); have n4_ := Aside0.mk (Kd.S_kept HS17.out hk_ (fun _ _ hs_ => hs_.elim)); have n5_ := Aside0.mk (Kd.R_kept HR25.out hk_ (fun _ _ hs_ => hs_.elim)); have n6_ := Aside0.mk (Kd.R_kept HR35.out hk_ (fun _ _ hs_ => hs_.elim)); have n7_ := Aside0.mk (blk_below (g := gb45) (o := .cells #[.slice Ao43 l0_0.length co44] 24 (0, 0)) (by (with_reducible repeat (first | refine blk_drewN ?_ _ | refine blk_drew ?_ | refine blk_alloc ?_ _)); exact BKgb45.out) hb_); have n8_ := Aside0.mk (blk_below (g := gb54) (o := .cells #[.slice Ao52 l1_0.length co53, .int .i64 a1_1] 34 (0, 0)) (by (with_reducible repeat (first | refine blk_drewN ?_ _ | refine blk_drew ?_ | refine blk_alloc ?_ _)); exact BKgb54.out) hb_); have n9_ := Aside0.mk (Kd.S_kept HS71.out hk_ (fun _ _ hs_ => hs_.elim)); have n10_ := Aside0.mk (Kd.R_kept HR81.out hk_ (fun _ _ hs_ => hs_.elim)); have n11_ := Aside0.mk (Kd.F_kept FM90.out hk_ (fun _ _ hs_ => hs_.elim)); have n12_ := Aside0.mk (Kd.F_kept FM95.out hk_ (fun _ _ hs_ => hs_.elim)); have n13_ := Aside0.mk (Kd.F_kept FM101.out hk_ (fun _ _ hs_ => hs_.elim)); have n14_ := Aside0.mk (Kd.S_kept HS109.out hk_ (fun _ _ hs_ => hs_.elim)); have n15_ := Aside0.mk (Kd.R_kept HR116.out hk_ (fun _ _ hs_ => hs_.elim)); have n16_ := Aside0.mk (Kd.R_kept HR123.out hk_ (fun _ _ hs_ => hs_.elim)); have ns_ := Aside0.mk (Nat.le_trans (Nat.le_trans hs1_ hs2_) (Nat.le_refl _)); have nB_ := Aside0.mk hB_; clear HB HS FA0_0 FA1_0 BKgb1 BKgb3 HS17 HR25 HR35 BKgb45 BKgb54 HS71 HR81 FM90 FM95 FM101 HS109 HR116 HR123; have FA0_0 := n0_; have FA1_0 := n1_; have BKgb1 := n2_; have BKgb3 := n3_; have HS17 := n4_; have HR25 := n5_; have HR35 := n6_; have BKgb45 := n7_; have BKgb54 := n8_; have HS71 := n9_; have HR81 := n10_; have FM90 := n11_; have FM95 := n12_; have FM101 := n13_; have HS109 := n14_; have HR116 := n15_; have HR123 := n16_; have HB := nB_; have HS := ns_; clear nB_ ns_ n0_ n1_ n2_ n3_ n4_ n5_ n6_ n7_ n8_ n9_ n10_ n11_ n12_ n13_ n14_ n15_ n16_; clear hk_ hs1_ hs2_ hw_ hB_ hb_; clear hd_; have hczgb1_0 : w126.cell? ⟨gb1, 0, none⟩ = some (.slice A0_0 l0_0.length c0_0) := (blk_cell BKgb1.out 0).trans rfl; have hfzgb1_0 := blk_frozen BKgb1.out 0; have hczgb3_0 : w126.cell? ⟨gb3, 0, none⟩ = some (.slice A1_0 l1_0.length c1_0) := (blk_cell BKgb3.out 0).trans rfl; have hczgb3_1 : w126.cell? ⟨gb3, 1, none⟩ = some (.int .i64 a1_1) := (blk_cell BKgb3.out 1).trans rfl; have hfzgb3_0 := blk_frozen BKgb3.out 0; have hfzgb3_1 := blk_frozen BKgb3.out 1; have hczgb45_0 : w126.cell? ⟨gb45, 0, none⟩ = some (.slice Ao43 l0_0.length co44) := (blk_cell BKgb45.out 0).trans rfl; have hfzgb45_0 := blk_frozen BKgb45.out 0; have hczgb54_0 : w126.cell? ⟨gb54, 0, none⟩ = some (.slice Ao52 l1_0.length co53) := (blk_cell BKgb54.out 0).trans rfl; have hczgb54_1 : w126.cell? ⟨gb54, 1, none⟩ = some (.int .i64 a1_1) := (blk_cell BKgb54.out 1).trans rfl; have hfzgb54_0 := blk_frozen BKgb54.out 0; have hfzgb54_1 := blk_frozen BKgb54.out 1; have hnbgb1gb3 : gb1 ≠ gb3 := (by have := CH.out; omega); have hnbgb1gb45 : gb1 ≠ gb45 := (by have := CH.out; omega); have hnbgb1gb54 : gb1 ≠ gb54 := (by have := CH.out; omega); have hnbgb3gb1 : gb3 ≠ gb1 := (by have := CH.out; omega); have hnbgb3gb45 : gb3 ≠ gb45 := (by have := CH.out; omega); have hnbgb3gb54 : gb3 ≠ gb54 := (by have := CH.out; omega); have hnbgb45gb1 : gb45 ≠ gb1 := (by have := CH.out; omega); have hnbgb45gb3 : gb45 ≠ gb3 := (by have := CH.out; omega); have hnbgb45gb54 : gb45 ≠ gb54 := (by have := CH.out; omega); have hnbgb54gb1 : gb54 ≠ gb1 := (by have := CH.out; omega); have hnbgb54gb3 : gb54 ≠ gb3 := (by have := CH.out; omega); have hnbgb54gb45 : gb54 ≠ gb45 := (by have := CH.out; omega)) | ((with_reducible refine gate_callee (f := 28) rfl ?_); refine goesL_ (some 113) rfl rfl Try.func28 (by kernel_rfl) rfl #[.slice Ao62 x29.length co63, .int .i64 1] rfl (by (try simp only [List.map_toArray, List.map_cons, List.map_nil]); first | done | rfl | (simp only [List.length_drop, List.length_take]; rfl)) ?_; refine calls_len (args' := #[.slice Ao62 x99.length co63, .int .i64 1]) (by simp only [HLFM101.out]) ?_; (with_reducible refine (laws_heldIntS.calls KE103 _ _ x99 1 x98 _ ?sidehr0 ?sidehc0 E103.out).mono ?_); (case sidehr0 => exact F_at (S := (fun _ => False)) FM101.out (by repeat (first | (with_reducible first | exact Kept.refl _ _ | apply Kept.alloc | apply Kept.drewN | apply Kept.drew) | exact Kept.refl _ _)) (fun _ _ hs_ => hs_.elim)); (case sidehc0 => exact HCHR61_.out); rintro e w127 ⟨rfl, hd_⟩; refine ⟨_, rfl, ?_⟩; have hb_ := hd_.below; (try clear hczgb1_0); (try clear hfzgb1_0); (try clear hczgb3_0); (try clear hfzgb3_0); (try clear hczgb3_1); (try clear hfzgb3_1); (try clear hczgb45_0); (try clear hfzgb45_0); (try clear hczgb54_0); (try clear hfzgb54_0); (try clear hczgb54_1); (try clear hfzgb54_1); obtain ⟨hk_, hs1_, hs2_, hw_⟩ := ev_kept (S := (fun _ => False)) HS.out HB.out hb_ (by repeat (first | (with_reducible first | exact Kept.refl _ _ | apply Kept.alloc | apply Kept.drewN | apply Kept.drew) | exact Kept.refl _ _)); have hB_ := below_step (by repeat (first | (with_reducible first | exact HB.out | apply below_alloc | apply pw_below_drewN | apply below_drew1 | refine below_set ?_ GEgb1.out | refine below_set ?_ GEgb3.out | refine below_set ?_ GEgb45.out | refine below_set ?_ GEgb54.out) | exact HB.out)) hb_; have n0_ := Aside0.mk (Kd.F_kept FA0_0.out hk_ (fun _ _ hs_ => hs_.elim)); have n1_ := Aside0.mk (Kd.F_kept FA1_0.out hk_ (fun _ _ hs_ => hs_.elim)); have n2_ := Aside0.mk (blk_below (g := gb1) (o := .cells #[.slice A0_0 l0_0.length c0_0] 30 (0, 0)) (by (with_reducible repeat (first | refine blk_drewN ?_ _ | refine blk_drew ?_ | refine blk_alloc ?_ _)); exact BKgb1.out) hb_); have n3_ := Aside0.mk (blk_below (g := gb3) (o := .cells #[.slice A1_0 l1_0.length c1_0, .int .i64 a1_1] 44 (0, 0)) (by (with_reducible repeat (first | refine blk_drewN ?_ _ | refine blk_drew ?_ | refine blk_alloc ?_ _)); exact BKgb3.out) hb_); have n4_ := Aside0.mk (Kd.S_kept HS17.out hk_ (fun _ _ hs_ => hs_.elim)); have n5_ := Aside0.mk (Kd.R_kept HR25.out hk_ (fun _ _ hs_ => hs_.elim)); have n6_ := Aside0.mk (Kd.R_kept HR35.out hk_ (fun _ _ hs_ => hs_.elim)); have n7_ := Aside0.mk (blk_below (g := gb45) (o := .cells #[.slice Ao43 l0_0.length co44] 24 (0, 0)) (by (with_reducible repeat (first | refine blk_drewN ?_ _ | refine blk_drew ?_ | refine blk_alloc ?_ _)); exact BKgb45.out) hb_); have n8_ := Aside0.mk (blk_below (g := gb54) (o := .cells #[.slice Ao52 l1_0.length co53, .int .i64 a1_1] 34 (0, 0)) (by (with_reducible repeat (first | refine blk_drewN ?_ _ | refine blk_drew ?_ | refine blk_alloc ?_ _)); exact BKgb54.out) hb_); have n9_ := Aside0.mk (Kd.S_kept HS71.out hk_ (fun _ _ hs_ => hs_.elim)); have n10_ := Aside0.mk (Kd.R_kept HR81.out hk_ (fun _ _ hs_ => hs_.elim)); have n11_ := Aside0.mk (Kd.F_kept FM90.out hk_ (fun _ _ hs_ => hs_.elim)); have n12_ := Aside0.mk (Kd.F_kept FM95.out hk_ (fun _ _ hs_ => hs_.elim)); have n13_ := Aside0.mk (Kd.F_kept FM101.out hk_ (fun _ _ hs_ => hs_.elim)); have n14_ := Aside0.mk (Kd.S_kept HS109.out hk_ (fun _ _ hs_ => hs_.elim)); have n15_ := Aside0.mk (Kd.R_kept HR116.out hk_ (fun _ _ hs_ => hs_.elim)); have n16_ := Aside0.mk (Kd.R_kept HR123.out hk_ (fun _ _ hs_ => hs_.elim)); have ns_ := Aside0.mk (Nat.le_trans (Nat.le_trans hs1_ hs2_) (Nat.le_refl _)); have nB_ := Aside0.mk hB_; clear HB HS FA0_0 FA1_0 BKgb1 BKgb3 HS17 HR25 HR35 BKgb45 BKgb54 HS71 HR81 FM90 FM95 FM101 HS109 HR116 HR123; have FA0_0 := n0_; have FA1_0 := n1_; have BKgb1 := n2_; have BKgb3 := n3_; have HS17 := n4_; have HR25 := n5_; have HR35 := n6_; have BKgb45 := n7_; have BKgb54 := n8_; have HS71 := n9_; have HR81 := n10_; have FM90 := n11_; have FM95 := n12_; have FM101 := n13_; have HS109 := n14_; have HR116 := n15_; have HR123 := n16_; have HB := nB_; have HS := ns_; clear nB_ ns_ n0_ n1_ n2_ n3_ n4_ n5_ n6_ n7_ n8_ n9_ n10_ n11_ n12_ n13_ n14_ n15_ n16_; clear hk_ hs1_ hs2_ hw_ hB_ hb_; clear hd_; have hczgb1_0 : w127.cell? ⟨gb1, 0, none⟩ = some (.slice A0_0 l0_0.length c0_0) := (blk_cell BKgb1.out 0).trans rfl; have hfzgb1_0 := blk_frozen BKgb1.out 0; have hczgb3_0 : w127.cell? ⟨gb3, 0, none⟩ = some (.slice A1_0 l1_0.length c1_0) := (blk_cell BKgb3.out 0).trans rfl; have hczgb3_1 : w127.cell? ⟨gb3, 1, none⟩ = some (.int .i64 a1_1) := (blk_cell BKgb3.out 1).trans rfl; have hfzgb3_0 := blk_frozen BKgb3.out 0; have hfzgb3_1 := blk_frozen BKgb3.out 1; have hczgb45_0 : w127.cell? ⟨gb45, 0, none⟩ = some (.slice Ao43 l0_0.length co44) := (blk_cell BKgb45.out 0).trans rfl; have hfzgb45_0 := blk_frozen BKgb45.out 0; have hczgb54_0 : w127.cell? ⟨gb54, 0, none⟩ = some (.slice Ao52 l1_0.length co53) := (blk_cell BKgb54.out 0).trans rfl; have hczgb54_1 : w127.cell? ⟨gb54, 1, none⟩ = some (.int .i64 a1_1) := (blk_cell BKgb54.out 1).trans rfl; have hfzgb54_0 := blk_frozen BKgb54.out 0; have hfzgb54_1 := blk_frozen BKgb54.out 1; have hnbgb1gb3 : gb1 ≠ gb3 := (by have := CH.out; omega); have hnbgb1gb45 : gb1 ≠ gb45 := (by have := CH.out; omega); have hnbgb1gb54 : gb1 ≠ gb54 := (by have := CH.out; omega); have hnbgb3gb1 : gb3 ≠ gb1 := (by have := CH.out; omega); have hnbgb3gb45 : gb3 ≠ gb45 := (by have := CH.out; omega); have hnbgb3gb54 : gb3 ≠ gb54 := (by have := CH.out; omega); have hnbgb45gb1 : gb45 ≠ gb1 := (by have := CH.out; omega); have hnbgb45gb3 : gb45 ≠ gb3 := (by have := CH.out; omega); have hnbgb45gb54 : gb45 ≠ gb54 := (by have := CH.out; omega); have hnbgb54gb1 : gb54 ≠ gb1 := (by have := CH.out; omega); have hnbgb54gb3 : gb54 ≠ gb3 := (by have := CH.out; omega); have hnbgb54gb45 : gb54 ≠ gb45 := (by have := CH.out; omega)))
  go_ret
  exact ⟨by first | rfl | (simp; done), by repeat (first | (with_reducible first | exact HB.out | apply below_alloc | apply pw_below_drewN | apply below_drew1 | refine below_set ?_ GEgb1.out | refine below_set ?_ GEgb3.out | refine below_set ?_ GEgb45.out | refine below_set ?_ GEgb54.out) | exact HB.out)⟩

end Go.Proofs.Ytcmfcleeohcgaaa.P
namespace Go.Proofs.Ytcmfcleeohcgaaa.M
open Go.RowKit Go.Proofs.Ytcmfcleeohcgaaa.P Go.Proofs.Ytcmfcleeohcgaaa.In Go.Proofs.YtcmfcleeohcgaaaW.PrintWords Go.Proofs.YtcmfcleeohcgaaaW.PrintLast
set_option linter.unusedVariables false
set_option linter.unusedSimpArgs false
/-! numbers -/
theorem wrap_id {x : Int} (h : -9223372036854775808 ≤ x ∧ x ≤ 9223372036854775807) : wrap64 x = x := by unfold wrap64; omega
theorem wrap_nat {n : Nat} (h : n < 9223372036854775807) : wrap64 ((n : Int) + 1) = ((n + 1 : Nat) : Int) := by unfold wrap64; omega
theorem rd_at {l : List Int} {n : Nat} (h : n < l.length) : rd l (n : Int) = l[n] := by simp [rd, h]
theorem rdL_at {l : List (List Int)} {n : Nat} (h : n < l.length) : rd_L1 l (n : Int) = l[n] := by simp [rd_L1, h]
theorem _root_.Go.Proofs.YtcmfcleeohcgaaaW.PrintWords.Ev.val {α : Type} {g : Nat → Option α} {r r' : α} (h : Ev g r) (e : r = r') : Ev g r' := e ▸ h
theorem _root_.Go.Proofs.YtcmfcleeohcgaaaW.PrintWords.Ev.const {α : Type} {g : Nat → Option α} {r : α} (h : ∀ k, g k = some r) : Ev g r := ⟨0, fun k _ => h k⟩
theorem _root_.Go.Proofs.YtcmfcleeohcgaaaW.PrintWords.Ev.const1 {α : Type} {g : Nat → Option α} {r : α} (h : ∀ k, g (k + 1) = some r) : Ev g r := Ev.step (f := fun _ => some r) h (Ev.const fun _ => rfl)
theorem _root_.Go.Proofs.YtcmfcleeohcgaaaW.PrintWords.Ev.succ {α : Type} {g : Nat → Option α} {r : α} (h : Ev (fun k => g (k + 1)) r) : Ev g r := Ev.step (f := fun k => g (k + 1)) (fun _ => rfl) h
theorem _root_.Go.Proofs.YtcmfcleeohcgaaaW.PrintWords.Ev.uniq {α : Type} {g : Nat → Option α} {r r' : α} (h : Ev g r) (h' : Ev g r') : r = r' := by
  obtain ⟨K, hK⟩ := h
  obtain ⟨K', hK'⟩ := h'
  have := (hK (max K K') (Nat.le_max_left _ _)).symm.trans (hK' (max K K') (Nat.le_max_right _ _))
  exact Option.some.inj this
theorem _root_.Go.Proofs.YtcmfcleeohcgaaaW.PrintWords.Ev.bind0 {α β : Type} {g : Option α} {f : Nat → α → Option β} {a : α} {r : β} (h : g = some a) (k : Ev (fun n => f n a) r) : Ev (fun n => g.bind (f n)) r := by
  subst h; exact k
theorem _root_.Go.Proofs.YtcmfcleeohcgaaaW.PrintWords.Ev.pos {α : Type} {g f : Nat → Option α} {r : α} {c : Prop} [Decidable c] (h : c) (k : Ev g r) : Ev (fun n => if c then g n else f n) r := by
  simp only [if_pos h]; exact k
theorem _root_.Go.Proofs.YtcmfcleeohcgaaaW.PrintWords.Ev.neg {α : Type} {g f : Nat → Option α} {r : α} {c : Prop} [Decidable c] (h : ¬ c) (k : Ev f r) : Ev (fun n => if c then g n else f n) r := by
  simp only [if_neg h]; exact k

/-! copies -/
theorem toIntS_l0 (l : List Int) (hl : l.length < 9223372036854775807) : ∀ (d i : Nat) (y : List Int), l.length - i = d → i ≤ l.length → y.length = l.length → y.take i = l.take i → Ev (fun k => laws_toIntS.l0 k l y i) l := by
  intro d
  induction d with
  | zero =>
    intro i y hd hi hy ht
    have : i = l.length := by omega
    subst this
    refine Ev.const1 (fun k => ?_)
    simp only [laws_toIntS.l0]
    rw [if_neg (by omega)]
    rw [List.take_of_length_le (by omega), List.take_of_length_le (by omega)] at ht
    rw [ht]
  | succ d ih =>
    intro i y hd hi hy ht
    have hlt : i < l.length := by omega
    refine Ev.step (f := fun k => laws_toIntS.l0 k l (y.set i l[i]) (i + 1 : Nat)) (fun k => ?_) (ih (i + 1) (y.set i l[i]) (by omega) (by omega) (by rw [List.length_set]; exact hy) ?_)
    · simp only [laws_toIntS.l0]
      rw [if_pos (by omega), if_pos (by omega), if_pos (by omega), wrap_nat (by omega), rd_at hlt, Int.toNat_natCast]
    · rw [List.take_succ_eq_append_getElem (by rw [List.length_set]; omega), List.take_succ_eq_append_getElem hlt, List.take_set_of_le (Nat.le_refl _), ht, List.getElem_set_self]
theorem toIntS (l : List Int) (hl : l.length ≤ 35184372088832) : Ev (fun k => laws_toIntS.f k l) l := by
  unfold laws_toIntS.f
  refine Ev.pos (by omega) (Ev.pos (by omega) ?_)
  exact toIntS_l0 l (by omega) l.length 0 _ (by omega) (by omega) (by simp) (by simp)
theorem toIntSS_l0 (l : List (List Int)) (hl : l.length < 9223372036854775807) (hr : ∀ row ∈ l, row.length ≤ 35184372088832) : ∀ (d i : Nat) (y : List (List Int)), l.length - i = d → i ≤ l.length → y.length = l.length → y.take i = l.take i → Ev (fun k => laws_toIntSS.l0 k l y i) l := by
  intro d
  induction d with
  | zero =>
    intro i y hd hi hy ht
    have : i = l.length := by omega
    subst this
    refine Ev.const1 (fun k => ?_)
    simp only [laws_toIntSS.l0]
    rw [if_neg (by omega)]
    rw [List.take_of_length_le (by omega), List.take_of_length_le (by omega)] at ht
    rw [ht]
  | succ d ih =>
    intro i y hd hi hy ht
    have hlt : i < l.length := by omega
    refine Ev.step (f := fun k => (laws_toIntS.f k l[i]).bind fun t => laws_toIntSS.l0 k l (y.set i t) (i + 1 : Nat)) (fun k => ?_) (Ev.bind (toIntS l[i] (hr _ (List.getElem_mem hlt))) (ih (i + 1) (y.set i l[i]) (by omega) (by omega) (by rw [List.length_set]; exact hy) ?_))
    · simp only [laws_toIntSS.l0]
      rw [if_pos (by omega), if_pos (by omega), wrap_nat (by omega), rdL_at hlt, Int.toNat_natCast]
      congr 1
      funext t
      rw [if_pos (by omega)]
    · rw [List.take_succ_eq_append_getElem (by rw [List.length_set]; omega), List.take_succ_eq_append_getElem hlt, List.take_set_of_le (Nat.le_refl _), ht, List.getElem_set_self]
theorem toIntSS (l : List (List Int)) (hl : l.length ≤ 11728124029610) (hr : ∀ row ∈ l, row.length ≤ 35184372088832) : Ev (fun k => laws_toIntSS.f k l) l := by
  unfold laws_toIntSS.f
  refine Ev.pos (by omega) (Ev.pos (by omega) ?_)
  exact toIntSS_l0 l (by omega) hr l.length 0 _ (by omega) (by omega) (by simp) (by simp)
/-- A graph that is small enough for a law to look at it. -/
def small (l : List (List Int)) : Prop := l.length ≤ 1048576 ∧ ∀ row ∈ l, row.length ≤ 1048576
theorem toGraph (l : List (List Int)) (h : small l) : Ev (fun k => laws_toGraph.f k l) l := by
  unfold laws_toGraph.f
  exact Ev.bind (toIntSS l (by have := h.1; omega) (fun row hr => by have := h.2 row hr; omega)) (Ev.now _)

/-! sizes -/
theorem szIntSS_l0 (l : List (List Int)) (hl : okSS l) : ∀ (d i : Nat) (a : Int), l.length - i = d → i ≤ l.length → 0 ≤ a → a ≤ 1048576 → ∃ r, Ev (fun k => laws_szIntSS.l0 k l a i) r ∧ r ≤ 1048576 ∧ (0 ≤ r → ∀ j (hj : j < l.length), i ≤ j → l[j].length ≤ 1048576) := by
  intro d
  induction d with
  | zero =>
    intro i a hd hi h0 h1
    refine ⟨a, Ev.const1 (fun k => ?_), h1, fun _ j hj hij => by omega⟩
    simp only [laws_szIntSS.l0]
    rw [if_neg (by omega)]
  | succ d ih =>
    intro i a hd hi h0 h1
    have hlt : i < l.length := by omega
    have hll := hl.1
    have hrow := (hl.2 _ (List.getElem_mem hlt)).1
    by_cases hneg : a - (l[i].length : Int) < 0
    · refine ⟨-1, Ev.const1 (fun k => ?_), by omega, fun h => by omega⟩
      simp only [laws_szIntSS.l0, laws_szIntS.f]
      rw [if_pos (by omega), if_pos (by omega), rdL_at hlt, if_pos (by rw [wrap_id (by omega)]; exact hneg)]
      rfl
    · obtain ⟨r, h2, h3, h4⟩ := ih (i + 1) (a - (l[i].length : Int)) (by omega) (by omega) (by omega) (by omega)
      refine ⟨r, Ev.step (fun k => ?_) h2, h3, fun h j hj hij => ?_⟩
      · simp only [laws_szIntSS.l0, laws_szIntS.f]
        rw [if_pos (by omega), if_pos (by omega), rdL_at hlt, wrap_id (by omega), if_neg hneg, wrap_nat (by omega)]
        simp only [Option.bind_some]
        rw [if_neg hneg]
      · by_cases e : j = i
        · subst e; omega
        · exact h4 h j hj (by omega)
theorem szGraph (l : List (List Int)) (hl : okSS l) : ∃ r, Ev (fun k => laws_szGraph.f k l 1048576) r ∧ r ≤ 1048576 ∧ (0 ≤ r → small l) := by
  have hll := hl.1
  unfold laws_szGraph.f laws_szIntSS.f
  rw [wrap_id (by omega)]
  by_cases h : (1048576 : Int) - (l.length : Int) < 0
  · exact ⟨-1, Ev.bind (Ev.pos h (Ev.now _)) (Ev.pos (by omega) (Ev.now _)), by omega, fun h => by omega⟩
  · obtain ⟨r, h2, h3, h4⟩ := szIntSS_l0 l hl l.length 0 (1048576 - (l.length : Int)) (by omega) (by omega) (by omega) (by omega)
    by_cases hr : r < 0
    · exact ⟨-1, Ev.bind (Ev.neg h h2) (Ev.pos hr (Ev.now _)), by omega, fun h => by omega⟩
    · refine ⟨r, Ev.bind (Ev.neg h h2) (Ev.neg hr (Ev.now _)), h3, fun h0 => ⟨by omega, fun row hrow => ?_⟩⟩
      obtain ⟨j, hj, rfl⟩ := List.getElem_of_mem hrow
      exact h4 h0 j hj (Nat.zero_le _)

/-! comparisons -/
theorem cons_dec {α : Type} [DecidableEq α] {a b : α} {l m : List α} (e : a = b) : decide (l = m) = decide (a :: l = b :: m) := by
  subst e; exact decide_eq_decide.mpr ⟨fun h => by rw [h], fun h => (List.cons.inj h).2⟩
theorem eqIntS_l0 (x y : List Int) (hl : x.length ≤ 9223372036854775807) (hxy : x.length = y.length) : ∀ (d i : Nat), x.length - i = d → i ≤ x.length → Ev (fun k => laws_eqIntS.l0 k x y i) (decide (x.drop i = y.drop i)) := by
  intro d
  induction d with
  | zero =>
    intro i hd hi
    refine Ev.const1 (fun k => ?_)
    simp only [laws_eqIntS.l0]
    rw [if_neg (by omega), List.drop_of_length_le (by omega), List.drop_of_length_le (by omega)]
    simp
  | succ d ih =>
    intro i hd hi
    have hlt : i < x.length := by omega
    have hlt2 : i < y.length := by omega
    rw [List.drop_eq_getElem_cons hlt, List.drop_eq_getElem_cons hlt2]
    by_cases e : x[i] = y[i]
    · refine Ev.step (f := fun k => laws_eqIntS.l0 k x y (i + 1 : Nat)) (fun k => ?_) ((ih (i + 1) (by omega) (by omega)).val (cons_dec e))
      simp only [laws_eqIntS.l0]
      rw [if_pos (by omega), if_pos (by omega), if_pos (by omega), rd_at hlt, rd_at hlt2, if_pos e, wrap_nat (by omega)]
    · refine Ev.const1 (fun k => ?_)
      simp only [laws_eqIntS.l0]
      rw [if_pos (by omega), if_pos (by omega), if_pos (by omega), rd_at hlt, rd_at hlt2, if_neg e, decide_eq_false (fun h => e (List.cons.inj h).1)]
theorem eqIntS (x y : List Int) (hl : x.length ≤ 9223372036854775807) : Ev (fun k => laws_eqIntS.f k x y) (decide (x = y)) := by
  unfold laws_eqIntS.f
  by_cases h : x.length = y.length
  · refine Ev.pos (by omega) ?_
    exact eqIntS_l0 x y hl h x.length 0 (by omega) (by omega)
  · refine Ev.neg (by omega) ?_
    exact (Ev.now _).val (by have : x ≠ y := fun e => h (by rw [e]); simp [this])
theorem eqIntSS_l0 (x y : List (List Int)) (hl : x.length ≤ 9223372036854775807) (hr : ∀ row ∈ x, row.length ≤ 9223372036854775807) (hxy : x.length = y.length) : ∀ (d i : Nat), x.length - i = d → i ≤ x.length → Ev (fun k => laws_eqIntSS.l0 k x y i) (decide (x.drop i = y.drop i)) := by
  intro d
  induction d with
  | zero =>
    intro i hd hi
    refine Ev.const1 (fun k => ?_)
    simp only [laws_eqIntSS.l0]
    rw [if_neg (by omega), List.drop_of_length_le (by omega), List.drop_of_length_le (by omega)]
    simp
  | succ d ih =>
    intro i hd hi
    have hlt : i < x.length := by omega
    have hlt2 : i < y.length := by omega
    rw [List.drop_eq_getElem_cons hlt, List.drop_eq_getElem_cons hlt2]
    refine Ev.step (f := fun k => (laws_eqIntS.f k x[i] y[i]).bind fun t => if t = true then laws_eqIntSS.l0 k x y (i + 1 : Nat) else some false) (fun k => ?_) ?_
    · simp only [laws_eqIntSS.l0]
      rw [if_pos (by omega), if_pos (by omega), if_pos (by omega), rdL_at hlt, rdL_at hlt2, wrap_nat (by omega)]
    · by_cases e : x[i] = y[i]
      · exact Ev.bind ((eqIntS x[i] y[i] (hr _ (List.getElem_mem hlt))).val (decide_eq_true e)) (Ev.pos rfl ((ih (i + 1) (by omega) (by omega)).val (cons_dec e)))
      · exact Ev.bind ((eqIntS x[i] y[i] (hr _ (List.getElem_mem hlt))).val (decide_eq_false e)) (Ev.neg (by simp) ((Ev.now _).val (decide_eq_false (fun h => e (List.cons.inj h).1)).symm))
theorem eqIntSS (x y : List (List Int)) (hl : x.length ≤ 9223372036854775807) (hr : ∀ row ∈ x, row.length ≤ 9223372036854775807) : Ev (fun k => laws_eqIntSS.f k x y) (decide (x = y)) := by
  unfold laws_eqIntSS.f
  by_cases h : x.length = y.length
  · refine Ev.pos (by omega) ?_
    exact eqIntSS_l0 x y hl hr h x.length 0 (by omega) (by omega)
  · refine Ev.neg (by omega) ?_
    exact (Ev.now _).val (by have : x ≠ y := fun e => h (by rw [e]); simp [this])
theorem eqGraph (x y : List (List Int)) (hl : x.length ≤ 9223372036854775807) (hr : ∀ row ∈ x, row.length ≤ 9223372036854775807) : Ev (fun k => laws_eqGraph.f k x y) (decide (x = y)) := by
  unfold laws_eqGraph.f
  refine Ev.bind (eqIntSS x y hl hr) ?_
  by_cases e : x = y
  · exact Ev.pos (decide_eq_true e) ((Ev.now _).val (decide_eq_true e).symm)
  · exact Ev.neg (by simp [e]) ((Ev.now _).val (decide_eq_false e).symm)
theorem small_eq (l : List (List Int)) (h : small l) : Ev (fun k => laws_eqGraph.f k l l) true := (eqGraph l l (by have := h.1; omega) (fun row hr => by have := h.2 row hr; omega)).val (decide_eq_true rfl)

/-! what a graph is -/
theorem l1In (a lo hi : Int) : spec_l1In.f a lo hi = some (decide (lo ≤ a) && decide (a ≤ hi)) := by
  unfold spec_l1In.f
  by_cases h : a ≥ lo
  · rw [if_pos h]; have : lo ≤ a := h; simp [this]
  · rw [if_neg h]; have : ¬ lo ≤ a := h; simp [this]
theorem implin (a lo hi : Int) : impl_in.f a lo hi = some (decide (lo ≤ a) && decide (a ≤ hi)) := by
  unfold impl_in.f
  by_cases h : lo ≤ a
  · rw [if_pos h]; simp [h]
  · rw [if_neg h]; simp [h]
theorem l1All_l0 (l : List Int) (lo hi : Int) (hl : l.length ≤ 9223372036854775807) : ∀ (d i : Nat), l.length - i = d → i ≤ l.length → Ev (fun k => spec_l1All.l0 k lo hi l l.length i) ((l.drop i).all fun x => decide (lo ≤ x) && decide (x ≤ hi)) := by
  intro d
  induction d with
  | zero =>
    intro i hd hi
    refine Ev.const1 (fun k => ?_)
    simp only [spec_l1All.l0]
    rw [if_neg (by omega), List.drop_of_length_le (by omega)]
    rfl
  | succ d ih =>
    intro i hd hi'
    have hlt : i < l.length := by omega
    rw [List.drop_eq_getElem_cons hlt, List.all_cons]
    by_cases e : (decide (lo ≤ l[i]) && decide (l[i] ≤ hi)) = true
    · refine Ev.step (f := fun k => spec_l1All.l0 k lo hi l l.length (i + 1 : Nat)) (fun k => ?_) ((ih (i + 1) (by omega) (by omega)).val (by rw [e]; simp))
      simp only [spec_l1All.l0, l1In]
      rw [if_pos (by omega), if_pos (by omega), if_pos (by omega), rd_at hlt, wrap_nat (by omega)]
      simp only [Option.bind_some]
      rw [if_pos e]
    · refine Ev.const1 (fun k => ?_)
      simp only [spec_l1All.l0, l1In]
      rw [if_pos (by omega), if_pos (by omega), if_pos (by omega), rd_at hlt]
      simp only [Option.bind_some]
      rw [if_neg e]
      simp only [Bool.not_eq_true] at e
      rw [e]; rfl
theorem l1All (l : List Int) (lo hi : Int) (hl : l.length ≤ 9223372036854775807) : Ev (fun k => spec_l1All.f k l lo hi) (l.all fun x => decide (lo ≤ x) && decide (x ≤ hi)) := by
  unfold spec_l1All.f
  exact l1All_l0 l lo hi hl l.length 0 (by omega) (by omega)
theorem grGood_l0 (l : List (List Int)) (hl : okSS l) : ∀ (d i : Nat), l.length - i = d → i ≤ l.length → Ev (fun k => spec_grGood.l0 k l.length l l.length i) ((l.drop i).all (goodRow l.length)) := by
  intro d
  induction d with
  | zero =>
    intro i hd hi
    refine Ev.const1 (fun k => ?_)
    simp only [spec_grGood.l0]
    rw [if_neg (by omega), List.drop_of_length_le (by omega)]
    rfl
  | succ d ih =>
    intro i hd hi'
    have hlt : i < l.length := by omega
    have hll := hl.1
    have hrow := (hl.2 _ (List.getElem_mem hlt)).1
    rw [List.drop_eq_getElem_cons hlt, List.all_cons]
    by_cases h5 : l[i].length ≤ 5
    · refine Ev.step (f := fun k => (spec_l1All.f k l[i] 0 ((l.length : Int) - 1)).bind fun t => if t = true then spec_grGood.l0 k l.length l l.length (i + 1 : Nat) else some false) (fun k => ?_) ?_
      · simp only [spec_grGood.l0]
        rw [if_pos (by omega), if_pos (by omega), if_pos (by omega), rdL_at hlt, if_neg (by omega), wrap_nat (by omega), wrap_id (by omega)]
      · by_cases e : (l[i].all fun x => decide (0 ≤ x) && decide (x ≤ (l.length : Int) - 1)) = true
        · exact Ev.bind ((l1All _ 0 _ hrow).val e) (Ev.pos rfl ((ih (i + 1) (by omega) (by omega)).val (by unfold goodRow; rw [e]; simp [h5])))
        · exact Ev.bind ((l1All _ 0 _ hrow).val (Bool.eq_false_iff.mpr e)) (Ev.neg (by simp) ((Ev.now _).val (by unfold goodRow; simp only [Bool.not_eq_true] at e; rw [e]; simp)))
    · refine Ev.const1 (fun k => ?_)
      simp only [spec_grGood.l0]
      rw [if_pos (by omega), if_pos (by omega), if_pos (by omega), rdL_at hlt, if_pos (by omega)]
      simp [goodRow, h5]
theorem grGood (l : List (List Int)) (hl : okSS l) : Ev (fun k => spec_grGood.f k l) (goodG l) := by
  unfold spec_grGood.f
  rw [l1In]
  simp only [Option.bind_some]
  by_cases h : 1 ≤ l.length ∧ l.length ≤ 8
  · have h1 : (1 : Int) ≤ l.length := by omega
    have h2 : (l.length : Int) ≤ 8 := by omega
    refine Ev.pos (by simp [h1, h2]) ?_
    exact (grGood_l0 l hl l.length 0 (by omega) (by omega)).val (by simp [goodG, h.1, h.2])
  · refine Ev.neg (by simp; omega) ((Ev.now _).val ?_)
    unfold goodG
    by_cases h1 : 1 ≤ l.length
    · have h2 : ¬ l.length ≤ 8 := by omega
      simp [h1, h2]
    · simp [h1]
theorem ok_small {l : List (List Int)} (h : okSS l) : l.length ≤ 9223372036854775807 ∧ ∀ row ∈ l, row.length ≤ 9223372036854775807 := ⟨h.1, fun row hr => (h.2 row hr).1⟩
end Go.Proofs.Ytcmfcleeohcgaaa.M
namespace Go.Proofs.Ytcmfcleeohcgaaa.M
open Go.RowKit Go.Proofs.Ytcmfcleeohcgaaa.P Go.Proofs.Ytcmfcleeohcgaaa.In Go.Proofs.YtcmfcleeohcgaaaW.PrintWords Go.Proofs.YtcmfcleeohcgaaaW.PrintLast
set_option linter.unusedVariables false
set_option linter.unusedSimpArgs false
theorem good_iff {l : List (List Int)} (h : goodG l = true) : (1 ≤ l.length ∧ l.length ≤ 8) ∧ ∀ row ∈ l, row.length ≤ 5 ∧ ∀ q ∈ row, 0 ≤ q ∧ q < (l.length : Int) := by
  simp only [goodG, goodRow, Bool.and_eq_true, decide_eq_true_eq, List.all_eq_true] at h
  refine ⟨⟨h.1, h.2.1⟩, fun row hr => ⟨(h.2.2 row hr).1, fun q hq => ?_⟩⟩
  have := (h.2.2 row hr).2 q hq
  omega
/-- A place of a graph. -/
def placeB (l : List (List Int)) (p : Int) : Bool := goodG l && (decide (0 ≤ p) && decide (p ≤ (l.length : Int) - 1))
theorem place_iff {l : List (List Int)} {p : Int} (h : placeB l p = true) : goodG l = true ∧ 0 ≤ p ∧ p < (l.length : Int) := by
  simp only [placeB, Bool.and_eq_true, decide_eq_true_eq] at h
  exact ⟨h.1, h.2.1, by omega⟩
theorem grPlace (l : List (List Int)) (p : Int) (hl : okSS l) : Ev (fun k => spec_grPlace.f k l p) (placeB l p) := by
  unfold spec_grPlace.f
  have hll := hl.1
  refine Ev.bind (grGood l hl) ?_
  by_cases h : goodG l = true
  · refine Ev.pos h ?_
    rw [l1In, wrap_id (by omega)]
    exact Ev.bind0 rfl ((Ev.now _).val (by simp [placeB, h]))
  · exact Ev.neg h ((Ev.now _).val (by simp only [Bool.not_eq_true] at h; simp [placeB, h]))
theorem has1 (l : List (List Int)) (p : Int) : impl_has.f l [p] = some (placeB l p) := by
  unfold impl_has.f placeB; simp
theorem has2 (l : List (List Int)) (p q : Int) : impl_has.f l [p, q] = some (placeB l p && placeB l q) := by
  unfold impl_has.f placeB
  cases goodG l <;> simp

theorem rd_get {l : List Int} {q : Int} (h0 : 0 ≤ q) (h1 : q < (l.length : Int)) : rd l q = l[q.toNat]'(by omega) := by
  unfold rd; rw [List.getD_eq_getElem?_getD, List.getElem?_eq_getElem (by omega)]; rfl
theorem rdL_get {l : List (List Int)} {q : Int} (h0 : 0 ≤ q) (h1 : q < (l.length : Int)) : rd_L1 l q = l[q.toNat]'(by omega) := by
  unfold rd_L1; rw [List.getD_eq_getElem?_getD, List.getElem?_eq_getElem (by omega)]; rfl
theorem rd_set {o : List Int} {q x v : Int} (hq0 : 0 ≤ q) (hq : q < (o.length : Int)) (hx0 : 0 ≤ x) : rd (o.set q.toNat v) x = if x = q then v else rd o x := by
  unfold rd
  rw [List.getD_eq_getElem?_getD, List.getElem?_set, List.getD_eq_getElem?_getD]
  by_cases e : x = q
  · subst e; rw [if_pos rfl, if_pos (by omega), if_pos rfl]; rfl
  · rw [if_neg (by omega), if_neg e]
theorem drop_rd {row : List Int} {i : Nat} (h : i < row.length) : row.drop i = rd row (i : Int) :: row.drop (i + 1) := by
  rw [List.drop_eq_getElem_cons h, rd_at h]
end Go.Proofs.Ytcmfcleeohcgaaa.M
namespace Go.Proofs.Ytcmfcleeohcgaaa.M
open Go.RowKit Go.Proofs.Ytcmfcleeohcgaaa.P Go.Proofs.Ytcmfcleeohcgaaa.In Go.Proofs.YtcmfcleeohcgaaaW.PrintWords Go.Proofs.YtcmfcleeohcgaaaW.PrintLast
set_option linter.unusedVariables false
set_option linter.unusedSimpArgs false
/-- Are these rotors of these rows. -/
def rotB : List Int → List (List Int) → Bool
  | r :: rs, row :: rows => (decide (0 ≤ r) && decide (r ≤ if (row.length : Int) - 1 < 0 then 0 else (row.length : Int) - 1)) && rotB rs rows
  | _, _ => true
/-- A walk on a graph. -/
def walkB (g : List (List Int)) (rot : List Int) (at_ : Int) : Bool := placeB g at_ && (decide (rot.length = g.length) && rotB rot g)
theorem most0 (n : Nat) : mx ((n : Int) - 1) 0 = if (n : Int) - 1 < 0 then 0 else (n : Int) - 1 := by unfold mx; rfl
theorem l1Most0 (n : Nat) : spec_l1Most.f 0 ((n : Int) - 1) = some (if (n : Int) - 1 < 0 then 0 else (n : Int) - 1) := by
  unfold spec_l1Most.f
  by_cases h : (n : Int) - 1 < 0
  · rw [if_pos h]; split <;> first | rfl | omega
  · rw [if_neg h]; split
    · congr 1; omega
    · rfl
theorem isWalk_l0 (g : List (List Int)) (h8 : g.length ≤ 8) (hr : ∀ row ∈ g, row.length ≤ 5) (rot : List Int) (hlen : rot.length = g.length) : ∀ (d i : Nat), g.length - i = d → i ≤ g.length → Ev (fun k => impl_isWalk.l0 k rot rot.length i g) (rotB (rot.drop i) (g.drop i)) := by
  intro d
  induction d with
  | zero =>
    intro i hd hi
    refine Ev.const1 (fun k => ?_)
    simp only [impl_isWalk.l0]
    rw [if_neg (by omega), List.drop_of_length_le (by omega)]
    rfl
  | succ d ih =>
    intro i hd hi
    have hlt : i < g.length := by omega
    have hlt2 : i < rot.length := by omega
    have hrow : (rd_L1 g i).length ≤ 5 := hr _ (by rw [rdL_at hlt]; exact List.getElem_mem _)
    rw [List.drop_eq_getElem_cons hlt, List.drop_eq_getElem_cons hlt2, ← rdL_at hlt, ← rd_at hlt2]
    simp only [rotB]
    refine Ev.step (f := fun k => if (decide (0 ≤ rd rot i) && decide (rd rot i ≤ if ((rd_L1 g i).length : Int) - 1 < 0 then 0 else ((rd_L1 g i).length : Int) - 1)) = true then impl_isWalk.l0 k rot rot.length (i + 1 : Nat) g else some false) (fun k => ?_) ?_
    · simp only [impl_isWalk.l0]
      rw [if_pos (by omega), if_pos (by omega), if_pos (by omega), if_pos (by omega), wrap_id (by omega), most0, implin, wrap_nat (by omega)]
      simp only [Option.bind_some]
    · by_cases e : (decide (0 ≤ rd rot i) && decide (rd rot i ≤ if ((rd_L1 g i).length : Int) - 1 < 0 then 0 else ((rd_L1 g i).length : Int) - 1)) = true
      · exact Ev.pos e ((ih (i + 1) (by omega) (by omega)).val (by rw [e]; simp))
      · exact Ev.neg e ((Ev.now _).val (by simp only [Bool.not_eq_true] at e; rw [e]; simp))
theorem waGood_l0 (g : List (List Int)) (h8 : g.length ≤ 8) (hr : ∀ row ∈ g, row.length ≤ 5) (rot : List Int) (a : Int) (hlen : rot.length = g.length) : ∀ (d i : Nat), g.length - i = d → i ≤ g.length → Ev (fun k => spec_waGood.l0 k g g.length i rot a) (rotB (rot.drop i) (g.drop i)) := by
  intro d
  induction d with
  | zero =>
    intro i hd hi
    refine Ev.const1 (fun k => ?_)
    simp only [spec_waGood.l0]
    rw [if_neg (by omega), List.drop_of_length_le (by omega)]
    rfl
  | succ d ih =>
    intro i hd hi
    have hlt : i < g.length := by omega
    have hlt2 : i < rot.length := by omega
    have hrow : (rd_L1 g i).length ≤ 5 := hr _ (by rw [rdL_at hlt]; exact List.getElem_mem _)
    rw [List.drop_eq_getElem_cons hlt, List.drop_eq_getElem_cons hlt2, ← rdL_at hlt, ← rd_at hlt2]
    simp only [rotB]
    refine Ev.step (f := fun k => if (decide (0 ≤ rd rot i) && decide (rd rot i ≤ if ((rd_L1 g i).length : Int) - 1 < 0 then 0 else ((rd_L1 g i).length : Int) - 1)) = true then spec_waGood.l0 k g g.length (i + 1 : Nat) rot a else some false) (fun k => ?_) ?_
    · simp only [spec_waGood.l0]
      rw [if_pos (by omega), if_pos (by omega), if_pos (by omega), if_pos (by omega), wrap_id (by omega), l1Most0, wrap_nat (by omega)]
      simp only [Option.bind_some, l1In]
    · by_cases e : (decide (0 ≤ rd rot i) && decide (rd rot i ≤ if ((rd_L1 g i).length : Int) - 1 < 0 then 0 else ((rd_L1 g i).length : Int) - 1)) = true
      · exact Ev.pos e ((ih (i + 1) (by omega) (by omega)).val (by rw [e]; simp))
      · exact Ev.neg e ((Ev.now _).val (by simp only [Bool.not_eq_true] at e; rw [e]; simp))
theorem isWalk (g : List (List Int)) (rot : List Int) (a : Int) : Ev (fun k => impl_isWalk.f k g rot a) (walkB g rot a) := by
  unfold impl_isWalk.f
  refine Ev.bind0 (has1 g a) ?_
  by_cases h : placeB g a = true
  · obtain ⟨hg, _, _⟩ := place_iff h
    obtain ⟨⟨h1, h8⟩, hrows⟩ := good_iff hg
    refine Ev.pos h (Ev.succ ?_)
    simp only [impl_isWalk.j0]
    by_cases e : rot.length = g.length
    · refine Ev.neg (by simp [e]) ?_
      exact (isWalk_l0 g h8 (fun row hr => (hrows row hr).1) rot e g.length 0 (by omega) (by omega)).val (by simp [walkB, h, e])
    · refine Ev.pos (by simp; omega) ((Ev.now _).val (by simp [walkB, e]))
  · refine Ev.neg h (Ev.succ ?_)
    simp only [impl_isWalk.j0]
    exact Ev.pos trivial ((Ev.now _).val (by simp only [Bool.not_eq_true] at h; simp [walkB, h]))
theorem waGood (g : List (List Int)) (hl : okSS g) (rot : List Int) (a : Int) : Ev (fun k => spec_waGood.f k g rot a) (walkB g rot a) := by
  unfold spec_waGood.f
  refine Ev.bind (grPlace g a hl) ?_
  by_cases h : placeB g a = true
  · obtain ⟨hg, _, _⟩ := place_iff h
    obtain ⟨⟨h1, h8⟩, hrows⟩ := good_iff hg
    refine Ev.pos h (Ev.succ ?_)
    simp only [spec_waGood.j0]
    by_cases e : rot.length = g.length
    · refine Ev.neg (by simp [e]) ?_
      exact (waGood_l0 g h8 (fun row hr => (hrows row hr).1) rot a e g.length 0 (by omega) (by omega)).val (by simp [walkB, h, e])
    · refine Ev.pos (by simp; omega) ((Ev.now _).val (by simp [walkB, e]))
  · refine Ev.neg h (Ev.succ ?_)
    simp only [spec_waGood.j0]
    exact Ev.pos trivial ((Ev.now _).val (by simp only [Bool.not_eq_true] at h; simp [walkB, h]))
/-! the laws' helpers -/
end Go.Proofs.Ytcmfcleeohcgaaa.M
namespace Go.Proofs.Ytcmfcleeohcgaaa.M
open Go.RowKit Go.Proofs.Ytcmfcleeohcgaaa.P Go.Proofs.Ytcmfcleeohcgaaa.In Go.Proofs.YtcmfcleeohcgaaaW.PrintWords Go.Proofs.YtcmfcleeohcgaaaW.PrintLast
set_option linter.unusedVariables false
set_option linter.unusedSimpArgs false
theorem szIntS (l : List Int) (hl : okIs l) (a : Int) (h0 : 0 ≤ a) (h1 : a ≤ 1048576) : ∃ r, laws_szIntS.f l a = some r ∧ r ≤ 1048576 ∧ (0 ≤ r → l.length ≤ 1048576) := by
  have := hl.1
  unfold laws_szIntS.f
  rw [wrap_id (by omega)]
  by_cases h : a - (l.length : Int) < 0
  · rw [if_pos h]; exact ⟨-1, rfl, by omega, fun h => by omega⟩
  · rw [if_neg h]; exact ⟨_, rfl, by omega, fun _ => by omega⟩
end Go.Proofs.Ytcmfcleeohcgaaa.M
namespace Go.Proofs.Ytcmfcleeohcgaaa.M
open Go.RowKit Go.Proofs.Ytcmfcleeohcgaaa.P Go.Proofs.Ytcmfcleeohcgaaa.In Go.Proofs.YtcmfcleeohcgaaaW.PrintWords Go.Proofs.YtcmfcleeohcgaaaW.PrintLast
set_option linter.unusedVariables false
set_option linter.unusedSimpArgs false
theorem szWalk (l : List Int) (x : Int) (hl : okIs l) (a : Int) (h0 : 0 ≤ a) (h1 : a ≤ 1048576) : ∃ r, laws_szWalk.f l x a = some r ∧ r ≤ 1048576 ∧ (0 ≤ r → l.length ≤ 1048576) := by
  obtain ⟨r, h2, h3, h4⟩ := szIntS l hl a h0 h1
  unfold laws_szWalk.f
  rw [h2]
  simp only [Option.bind_some]
  by_cases h : r < 0
  · rw [if_pos h]; exact ⟨-1, rfl, by omega, fun h => by omega⟩
  · rw [if_neg h]; exact ⟨r, rfl, h3, h4⟩
theorem toWalk (l : List Int) (x : Int) (hl : l.length ≤ 1048576) : Ev (fun k => laws_toWalk.f k l x) (l, x) := by
  unfold laws_toWalk.f
  exact Ev.bind (toIntS l (by omega)) (Ev.now _)
theorem eqWalk (l : List Int) (x : Int) (hl : l.length ≤ 1048576) : Ev (fun k => laws_eqWalk.f k l x l x) true := by
  unfold laws_eqWalk.f
  exact Ev.bind ((eqIntS l l (by omega)).val (decide_eq_true rfl)) (Ev.pos rfl (Ev.pos rfl (Ev.now _)))
end Go.Proofs.Ytcmfcleeohcgaaa.M
namespace Go.Proofs.Ytcmfcleeohcgaaa.M
open Go.RowKit Go.Proofs.Ytcmfcleeohcgaaa.P Go.Proofs.Ytcmfcleeohcgaaa.In Go.Proofs.YtcmfcleeohcgaaaW.PrintWords Go.Proofs.YtcmfcleeohcgaaaW.PrintLast
set_option linter.unusedVariables false
set_option linter.unusedSimpArgs false
theorem pigeon : ∀ (n : Nat) (l : List Int), l.Nodup → (∀ x ∈ l, 0 ≤ x ∧ x < (n : Int)) → l.length ≤ n
  | 0, l, _, h => by
    cases l with
    | nil => simp
    | cons x l => have := h x (by simp); omega
  | n + 1, l, hn, h => by
    have h1 := pigeon n (l.erase (n : Int)) (hn.erase _) (fun x hx => by
      have hx' := hn.mem_erase_iff.1 hx
      have h2 := h x hx'.2
      have h3 := hx'.1
      omega)
    by_cases hm : (n : Int) ∈ l
    · have := List.length_erase_of_mem hm; omega
    · rw [List.erase_of_not_mem hm] at h1; omega
def it (f : Int → Int) : Nat → Int → Int
  | 0, p => p
  | i + 1, p => it f i (f p)
theorem it_succ (f : Int → Int) (i : Nat) (p : Int) : it f (i + 1) p = f (it f i p) := by
  induction i generalizing p with
  | zero => rfl
  | succ i ih => rw [it, ih]; rfl
theorem it_add (f : Int → Int) (i j : Nat) (p : Int) : it f (i + j) p = it f j (it f i p) := by
  induction i generalizing p with
  | zero => simp [it]
  | succ i ih => rw [Nat.succ_add, it, ih]; rfl
def orb (f : Int → Int) (p : Int) (m : Nat) : List Int := (List.range m).map fun j => it f j p
theorem orb_len (f : Int → Int) (p : Int) (m : Nat) : (orb f p m).length = m := by simp [orb]
theorem orb_succ (f : Int → Int) (p : Int) (m : Nat) : orb f p (m + 1) = orb f p m ++ [it f m p] := by simp [orb, List.range_succ]
theorem orb_mem {f : Int → Int} {p x : Int} {m : Nat} : x ∈ orb f p m ↔ ∃ j, j < m ∧ it f j p = x := by simp [orb]
theorem orb_get {f : Int → Int} {p : Int} {m j : Nat} (h : j < m) : (orb f p m)[j]'(by rw [orb_len]; exact h) = it f j p := by simp [orb]
theorem orb_drop (f : Int → Int) (p : Int) (s per : Nat) : (orb f p (s + per)).drop s = orb f (it f s p) per := by
  apply List.ext_getElem
  · simp [orb]
  · intro i h1 h2
    simp only [orb, List.getElem_drop, List.getElem_map, List.getElem_range]
    rw [it_add]
theorem orb_inj {f : Int → Int} {p : Int} {m i j : Nat} (hn : (orb f p m).Nodup) (hi : i < m) (hj : j < m) (h : it f i p = it f j p) : i = j := by
  have h1 : (orb f p m)[i]'(by rw [orb_len]; exact hi) = (orb f p m)[j]'(by rw [orb_len]; exact hj) := by rw [orb_get hi, orb_get hj, h]
  exact (List.getElem_inj hn).1 h1
theorem nodup_snoc {l : List Int} {x : Int} (hn : l.Nodup) (hx : x ∉ l) : (l ++ [x]).Nodup := by
  rw [List.nodup_append]
  refine ⟨hn, by simp, ?_⟩
  intro a ha b hb
  simp at hb
  subst hb
  intro e; subst e; exact hx ha
/-- A way that comes again: p leads over s places into a circle of per places. -/
structure Rho (f : Int → Int) (n : Nat) (p : Int) (s per : Nat) : Prop where
  pos : 0 < per
  le : s + per ≤ n
  nodup : (orb f p (s + per)).Nodup
  back : it f per (it f s p) = it f s p
theorem Rho.all {f : Int → Int} {n : Nat} {p : Int} {s per : Nat} (h : Rho f n p s per) (j : Nat) : it f j p ∈ orb f p (s + per) := by
  induction j with
  | zero => exact orb_mem.2 ⟨0, by have := h.pos; omega, rfl⟩
  | succ j ih =>
    obtain ⟨m, hm, he⟩ := orb_mem.1 ih
    rw [it_succ, ← he, ← it_succ f m p]
    by_cases h2 : m + 1 < s + per
    · exact orb_mem.2 ⟨m + 1, h2, rfl⟩
    · have h3 : m + 1 = s + per := by omega
      rw [h3, it_add, h.back]
      exact orb_mem.2 ⟨s, by have := h.pos; omega, rfl⟩
theorem Rho.far {f : Int → Int} {n : Nat} {p : Int} {s per : Nat} (h : Rho f n p s per) (j : Nat) : it f (s + j + per) p = it f (s + j) p := by
  rw [show s + j + per = s + per + j by omega, it_add f (s + per), it_add f s per, h.back, ← it_add]
/-- From s steps on, the way is in the circle. -/
theorem Rho.ring {f : Int → Int} {n : Nat} {p : Int} {s per : Nat} (h : Rho f n p s per) (j : Nat) : ∃ a, a < per ∧ it f (s + j) p = it f a (it f s p) := by
  induction j with
  | zero => exact ⟨0, h.pos, rfl⟩
  | succ j ih =>
    obtain ⟨a, ha, he⟩ := ih
    rw [show s + (j + 1) = (s + j) + 1 by omega, it_succ, he, ← it_succ f a]
    by_cases h2 : a + 1 < per
    · exact ⟨a + 1, h2, rfl⟩
    · rw [show a + 1 = per by omega, h.back]
      exact ⟨0, h.pos, rfl⟩
/-- The circle, from another of its places on: its places are the same, and it comes again behind as many steps, not before. -/
theorem Rho.turn {f : Int → Int} {n : Nat} {p : Int} {s per : Nat} (h : Rho f n p s per) (j : Nat) :
    (∀ x, x ∈ orb f (it f (s + j) p) per ↔ x ∈ orb f (it f s p) per) ∧ it f per (it f (s + j) p) = it f (s + j) p ∧ ∀ i, 0 < i → i < per → it f i (it f (s + j) p) ≠ it f (s + j) p := by
  have hb : it f per (it f (s + j) p) = it f (s + j) p := by rw [← it_add]; exact h.far j
  obtain ⟨a, ha, hea⟩ := h.ring j
  have hc : ∀ m x, it f m (it f s p) = x → ∃ b, b < per ∧ it f b (it f s p) = x := by
    intro m x hx
    obtain ⟨b, hb, he⟩ := h.ring m
    exact ⟨b, hb, by rw [← he, it_add]; exact hx⟩
  refine ⟨fun x => ⟨fun hx => ?_, fun hx => ?_⟩, hb, fun i h0 hi he => ?_⟩
  · obtain ⟨m, hm, he⟩ := orb_mem.1 hx
    rw [hea, ← it_add] at he
    obtain ⟨b, hb, he2⟩ := hc _ _ he
    exact orb_mem.2 ⟨b, hb, he2⟩
  · obtain ⟨m, hm, he⟩ := orb_mem.1 hx
    by_cases h2 : a ≤ m
    · exact orb_mem.2 ⟨m - a, by omega, by rw [hea, ← it_add, show a + (m - a) = m by omega, he]⟩
    · refine orb_mem.2 ⟨per - a + m, by omega, ?_⟩
      rw [hea, ← it_add, show a + (per - a + m) = per + m by omega, it_add, h.back, he]
  · rw [hea, ← it_add] at he
    by_cases h2 : a + i < per
    · have := orb_inj (i := s + (a + i)) (j := s + a) h.nodup (by omega) (by omega) (by rw [it_add, it_add f s a]; exact he)
      omega
    · have e2 : it f (a + i) (it f s p) = it f (a + i - per) (it f s p) := by
        rw [show a + i = per + (a + i - per) by omega, it_add, h.back]; congr 1; omega
      rw [e2] at he
      have := orb_inj (i := s + (a + i - per)) (j := s + a) h.nodup (by omega) (by omega) (by rw [it_add, it_add f s a]; exact he)
      omega
/-- Behind fewer than s steps the way isn't in the circle. -/
theorem Rho.out {f : Int → Int} {n : Nat} {p : Int} {s per : Nat} (h : Rho f n p s per) {i : Nat} (hi : i < s) : it f i p ∉ orb f (it f s p) per := by
  intro hm
  obtain ⟨m, hm, he⟩ := orb_mem.1 hm
  rw [← it_add] at he
  have := orb_inj (i := s + m) (j := i) h.nodup (by omega) (by omega) he
  omega
end Go.Proofs.Ytcmfcleeohcgaaa.M
namespace Go.Proofs.Ytcmfcleeohcgaaa.M
open Go.RowKit Go.Proofs.Ytcmfcleeohcgaaa.P Go.Proofs.Ytcmfcleeohcgaaa.In Go.Proofs.YtcmfcleeohcgaaaW.PrintWords Go.Proofs.YtcmfcleeohcgaaaW.PrintLast
set_option linter.unusedVariables false
set_option linter.unusedSimpArgs false
def nx (g : List (List Int)) (rot : List Int) (p : Int) : Int := if ((rd_L1 g p).length : Int) = 0 then -1 else rd (rd_L1 g p) (rd rot p)
theorem rot_at : ∀ (rot : List Int) (g : List (List Int)), rotB rot g = true → ∀ (i : Nat) (h1 : i < rot.length) (h2 : i < g.length), 0 ≤ rot[i] ∧ (rot[i] < (g[i].length : Int) ∨ rot[i] = 0) := by
  intro rot
  induction rot with
  | nil => intro g h i h1; simp at h1
  | cons r rot ih =>
    intro g h i h1 h2
    cases g with
    | nil => simp at h2
    | cons row g =>
      simp only [rotB, Bool.and_eq_true, decide_eq_true_eq] at h
      cases i with
      | zero =>
        simp only [List.getElem_cons_zero]
        have := h.1; unfold mx at this; split at this <;> omega
      | succ i =>
        simp only [List.getElem_cons_succ]
        exact ih g h.2 i (by simpa using h1) (by simpa using h2)
theorem rot_rd {g : List (List Int)} {rot : List Int} (hr : rotB rot g = true) (hl : rot.length = g.length) {p : Int} (h0 : 0 ≤ p) (h1 : p < (g.length : Int)) : 0 ≤ rd rot p ∧ (((rd_L1 g p).length : Int) = 0 ∨ rd rot p < ((rd_L1 g p).length : Int)) := by
  have := rot_at rot g hr p.toNat (by omega) (by omega)
  rw [rd_get h0 (by omega), rdL_get h0 h1]
  omega
theorem next_eq {g : List (List Int)} {rot : List Int} (hr : rotB rot g = true) (hl : rot.length = g.length) {p : Int} (h0 : 0 ≤ p) (h1 : p < (g.length : Int)) : impl_Graph_next.f g rot p = some (nx g rot p) := by
  obtain ⟨a, b⟩ := rot_rd hr hl h0 h1
  unfold impl_Graph_next.f nx
  rw [if_pos h0, if_pos h1]
  by_cases h : ((rd_L1 g p).length : Int) = 0
  · rw [if_pos h, if_pos h]
  · rw [if_neg h, if_neg h, if_pos (by omega), if_pos a, if_pos (by omega)]
theorem trNext_eq {g : List (List Int)} {rot : List Int} (hr : rotB rot g = true) (hl : rot.length = g.length) {p : Int} (h0 : 0 ≤ p) (h1 : p < (g.length : Int)) : spec_trNext.f g rot p = some (nx g rot p) := by
  obtain ⟨a, b⟩ := rot_rd hr hl h0 h1
  unfold spec_trNext.f nx
  rw [if_pos h0, if_pos h1]
  by_cases h : ((rd_L1 g p).length : Int) = 0
  · rw [if_pos h, if_pos h]
  · rw [if_neg h, if_neg h, if_pos (by omega), if_pos a, if_pos (by omega)]
theorem nx_lt {g : List (List Int)} (hg : goodG g = true) {rot : List Int} (hr : rotB rot g = true) (hl : rot.length = g.length) {p : Int} (h0 : 0 ≤ p) (h1 : p < (g.length : Int)) : nx g rot p < (g.length : Int) ∧ -1 ≤ nx g rot p := by
  obtain ⟨a, b⟩ := rot_rd hr hl h0 h1
  have hrow := ((good_iff hg).2 (rd_L1 g p) (by rw [rdL_get h0 h1]; exact List.getElem_mem _)).2
  unfold nx
  split
  · omega
  · have := hrow (rd (rd_L1 g p) (rd rot p)) (by rw [rd_get a (by omega)]; exact List.getElem_mem _)
    omega

def find : List Int → Int → Nat → Int
  | [], _, _ => -1
  | y :: ys, x, i => if x = y then (i : Int) else find ys x (i + 1)
theorem find_no : ∀ (l : List Int) (x : Int) (i : Nat), x ∉ l → find l x i = -1 := by
  intro l
  induction l with
  | nil => intro x i _; rfl
  | cons y ys ih =>
    intro x i h
    simp only [List.mem_cons, not_or] at h
    simp only [find]; rw [if_neg h.1]; exact ih x (i + 1) h.2
theorem find_at : ∀ (l : List Int) (i s : Nat) (hs : s < l.length), l.Nodup → find l l[s] i = ((i + s : Nat) : Int) := by
  intro l
  induction l with
  | nil => intro i s hs; simp at hs
  | cons y ys ih =>
    intro i s hs hn
    rw [List.nodup_cons] at hn
    cases s with
    | zero => simp [find]
    | succ s =>
      simp only [List.getElem_cons_succ, find]
      have hs2 : s < ys.length := by simpa using hs
      rw [if_neg (fun (e : ys[s] = y) => hn.1 (by rw [← e]; exact List.getElem_mem _)), ih (i + 1) s hs2 hn.2]
      congr 1; omega
theorem find_in : ∀ (l : List Int) (x : Int) (i : Nat), x ∈ l → 0 ≤ find l x i := by
  intro l
  induction l with
  | nil => intro x i h; cases h
  | cons y ys ih =>
    intro x i h
    simp only [find]
    split
    · omega
    · rcases List.mem_cons.1 h with h2 | h2
      · contradiction
      · exact ih x (i + 1) h2
theorem index_l0 (l : List Int) (x : Int) (hl : l.length ≤ 4611686018427387904) : ∀ (d i : Nat), l.length - i = d → i ≤ l.length → Ev (fun k => slices_Index_int_int.l0 k l x l.length i) (find (l.drop i) x i) := by
  intro d
  induction d with
  | zero =>
    intro i hd hi
    refine Ev.succ ?_
    simp only [slices_Index_int_int.l0]
    rw [List.drop_of_length_le (by omega)]
    exact Ev.neg (by omega) (Ev.now _)
  | succ d ih =>
    intro i hd hi
    have hlt : i < l.length := by omega
    refine Ev.succ ?_
    simp only [slices_Index_int_int.l0]
    rw [List.drop_eq_getElem_cons hlt]
    simp only [find]
    refine Ev.pos (by omega) (Ev.pos (by omega) (Ev.pos (by omega) ?_))
    rw [rd_at hlt]
    by_cases h : x = l[i]
    · rw [if_pos h]; exact Ev.pos h (Ev.now _)
    · rw [if_neg h]
      refine Ev.neg h ?_
      rw [wrap_nat (by omega)]
      exact ih (i + 1) (by omega) (by omega)
theorem index_ev (l : List Int) (x : Int) (hl : l.length ≤ 4611686018427387904) : Ev (fun k => slices_Index_int_int.f k l x) (find l x 0) := by
  unfold slices_Index_int_int.f
  exact index_l0 l x hl l.length 0 (by omega) (by omega)
theorem contains_ev (l : List Int) (x : Int) (hl : l.length ≤ 4611686018427387904) : Ev (fun k => slices_Contains_int_int.f k l x) (decide (x ∈ l)) := by
  unfold slices_Contains_int_int.f
  refine Ev.bind (index_ev l x hl) ((Ev.now _).val ?_)
  by_cases h : x ∈ l
  · rw [decide_eq_true h, decide_eq_true (find_in l x 0 h)]
  · rw [decide_eq_false h, find_no l x 0 h]; rfl
theorem l1Has_l0 (l : List Int) (x : Int) (hl : l.length ≤ 4611686018427387904) : ∀ (d i : Nat), l.length - i = d → i ≤ l.length → Ev (fun k => spec_l1Has.l0 k x l l.length i) (decide (x ∈ l.drop i)) := by
  intro d
  induction d with
  | zero =>
    intro i hd hi
    refine Ev.succ ?_
    simp only [spec_l1Has.l0]
    rw [List.drop_of_length_le (by omega)]
    exact Ev.neg (by omega) ((Ev.now _).val (by simp))
  | succ d ih =>
    intro i hd hi
    have hlt : i < l.length := by omega
    refine Ev.succ ?_
    simp only [spec_l1Has.l0]
    rw [List.drop_eq_getElem_cons hlt]
    refine Ev.pos (by omega) (Ev.pos (by omega) (Ev.pos (by omega) ?_))
    rw [rd_at hlt]
    by_cases h : l[i] = x
    · exact Ev.pos h ((Ev.now _).val (by simp only [List.mem_cons, h, true_or, decide_true]))
    · refine Ev.neg h ?_
      rw [wrap_nat (by omega)]
      refine (ih (i + 1) (by omega) (by omega)).val ?_
      have : x ≠ l[i] := fun e => h e.symm
      simp only [List.mem_cons, this, false_or]
theorem l1Has_ev (l : List Int) (x : Int) (hl : l.length ≤ 4611686018427387904) : Ev (fun k => spec_l1Has.f k l x) (decide (x ∈ l)) := by
  unfold spec_l1Has.f
  exact l1Has_l0 l x hl l.length 0 (by omega) (by omega)

/-- Rotors of a graph. -/
structure Rot (g : List (List Int)) (rot : List Int) : Prop where
  good : goodG g = true
  rb : rotB rot g = true
  len : rot.length = g.length
theorem Rot.of_walk {g : List (List Int)} {rot : List Int} {a : Int} (h : walkB g rot a = true) : Rot g rot ∧ 0 ≤ a ∧ a < (g.length : Int) := by
  unfold walkB at h
  simp only [Bool.and_eq_true, decide_eq_true_eq] at h
  obtain ⟨hg, h0, h1⟩ := place_iff h.1
  exact ⟨⟨hg, h.2.2, h.2.1⟩, h0, h1⟩
theorem Rot.it_ok {g : List (List Int)} {rot : List Int} (h : Rot g rot) {p : Int} (h0 : 0 ≤ p) (h1 : p < (g.length : Int)) : ∀ i, (∀ j, j < i → 0 ≤ nx g rot (it (nx g rot) j p)) → 0 ≤ it (nx g rot) i p ∧ it (nx g rot) i p < (g.length : Int) := by
  intro i
  induction i with
  | zero => intro _; exact ⟨h0, h1⟩
  | succ i ih =>
    intro ha
    obtain ⟨a, b⟩ := ih (fun j hj => ha j (by omega))
    rw [it_succ]
    exact ⟨ha i (by omega), (nx_lt h.good h.rb h.len a b).1⟩
theorem Rot.orb_ok {g : List (List Int)} {rot : List Int} (h : Rot g rot) {p : Int} (h0 : 0 ≤ p) (h1 : p < (g.length : Int)) {i : Nat} (ha : ∀ j, j + 1 < i → 0 ≤ nx g rot (it (nx g rot) j p)) : ∀ x ∈ orb (nx g rot) p i, 0 ≤ x ∧ x < (g.length : Int) := by
  intro x hx
  obtain ⟨j, hj, rfl⟩ := orb_mem.1 hx
  exact h.it_ok h0 h1 j (fun m hm => ha m (by omega))
/-- The program's way: it comes to a place without exits, or it comes again. -/
theorem cycleFrom_l0 {g : List (List Int)} {rot : List Int} (h : Rot g rot) {p : Int} (h0 : 0 ≤ p) (h1 : p < (g.length : Int)) : ∀ (d i : Nat), g.length - i = d → i ≤ g.length → (orb (nx g rot) p i).Nodup → (∀ j, j < i → 0 ≤ nx g rot (it (nx g rot) j p)) →
    (∃ j, j < g.length ∧ nx g rot (it (nx g rot) j p) < 0 ∧ (∀ m, m < j → 0 ≤ nx g rot (it (nx g rot) m p)) ∧ Ev (fun k => impl_Graph_cycleFrom.l0 k rot (it (nx g rot) i p) (orb (nx g rot) p i) g) ([], false)) ∨
    (∃ s per, Rho (nx g rot) g.length p s per ∧ (∀ j, j < s + per → 0 ≤ nx g rot (it (nx g rot) j p)) ∧ Ev (fun k => impl_Graph_cycleFrom.l0 k rot (it (nx g rot) i p) (orb (nx g rot) p i) g) (orb (nx g rot) (it (nx g rot) s p) per, true)) := by
  have h8 := (good_iff h.good).1.2
  intro d
  induction d with
  | zero =>
    intro i hd hi hn ha
    have hi2 : i = g.length := by omega
    have hp := h.it_ok h0 h1 i ha
    have hm : it (nx g rot) i p ∈ orb (nx g rot) p i := by
      apply Classical.byContradiction
      intro hm
      have := pigeon g.length (orb (nx g rot) p i ++ [it (nx g rot) i p]) (nodup_snoc hn hm) (fun x hx => by
        rcases List.mem_append.1 hx with h2 | h2
        · exact h.orb_ok h0 h1 (fun j hj => ha j (by omega)) x h2
        · simp at h2; subst h2; exact hp)
      simp [orb_len] at this; omega
    right
    obtain ⟨s, hs, he⟩ := orb_mem.1 hm
    have hsp : s + (i - s) = i := by omega
    refine ⟨s, i - s, ⟨by omega, by omega, by rw [hsp]; exact hn, by rw [← it_add, hsp, he]⟩, by rw [hsp]; exact ha, ?_⟩
    refine Ev.succ ?_
    simp only [impl_Graph_cycleFrom.l0]
    refine Ev.bind (contains_ev _ _ (by rw [orb_len]; omega)) (Ev.pos (by simpa using hm) (Ev.bind (index_ev _ _ (by rw [orb_len]; omega)) ?_))
    have hfi : find (orb (nx g rot) p i) (it (nx g rot) i p) 0 = (s : Int) := by
      have := find_at (orb (nx g rot) p i) 0 s (by rw [orb_len]; exact hs) hn
      rw [orb_get hs, he] at this; simpa using this
    rw [hfi]
    refine Ev.pos (by omega) (Ev.pos (by rw [orb_len]; omega) ((Ev.now _).val ?_))
    have := orb_drop (nx g rot) p s (i - s)
    rw [hsp] at this
    rw [Int.toNat_natCast, this]
  | succ d ih =>
    intro i hd hi hn ha
    have hp := h.it_ok h0 h1 i ha
    by_cases hm : it (nx g rot) i p ∈ orb (nx g rot) p i
    · right
      obtain ⟨s, hs, he⟩ := orb_mem.1 hm
      have hsp : s + (i - s) = i := by omega
      refine ⟨s, i - s, ⟨by omega, by omega, by rw [hsp]; exact hn, by rw [← it_add, hsp, he]⟩, by rw [hsp]; exact ha, ?_⟩
      refine Ev.succ ?_
      simp only [impl_Graph_cycleFrom.l0]
      refine Ev.bind (contains_ev _ _ (by rw [orb_len]; omega)) (Ev.pos (by simpa using hm) (Ev.bind (index_ev _ _ (by rw [orb_len]; omega)) ?_))
      have hfi : find (orb (nx g rot) p i) (it (nx g rot) i p) 0 = (s : Int) := by
        have := find_at (orb (nx g rot) p i) 0 s (by rw [orb_len]; exact hs) hn
        rw [orb_get hs, he] at this; simpa using this
      rw [hfi]
      refine Ev.pos (by omega) (Ev.pos (by rw [orb_len]; omega) ((Ev.now _).val ?_))
      have := orb_drop (nx g rot) p s (i - s)
      rw [hsp] at this
      rw [Int.toNat_natCast, this]
    · by_cases hneg : nx g rot (it (nx g rot) i p) < 0
      · left
        refine ⟨i, by omega, hneg, ha, ?_⟩
        refine Ev.succ ?_
        simp only [impl_Graph_cycleFrom.l0]
        refine Ev.bind (contains_ev _ _ (by rw [orb_len]; omega)) (Ev.neg (by simpa using hm) (Ev.pos (by rw [orb_len]; omega) (Ev.bind0 (next_eq h.rb h.len hp.1 hp.2) (Ev.pos hneg (Ev.now _)))))
      · have hstep : ∀ r, Ev (fun k => impl_Graph_cycleFrom.l0 k rot (it (nx g rot) (i + 1) p) (orb (nx g rot) p (i + 1)) g) r → Ev (fun k => impl_Graph_cycleFrom.l0 k rot (it (nx g rot) i p) (orb (nx g rot) p i) g) r := by
          intro r hr
          rw [it_succ, orb_succ] at hr
          refine Ev.succ ?_
          simp only [impl_Graph_cycleFrom.l0]
          exact Ev.bind (contains_ev _ _ (by rw [orb_len]; omega)) (Ev.neg (by simpa using hm) (Ev.pos (by rw [orb_len]; omega) (Ev.bind0 (next_eq h.rb h.len hp.1 hp.2) (Ev.neg hneg hr))))
        have ha2 : ∀ j, j < i + 1 → 0 ≤ nx g rot (it (nx g rot) j p) := by
          intro j hj
          by_cases hj2 : j = i
          · subst hj2; omega
          · exact ha j (by omega)
        rcases ih (i + 1) (by omega) (by omega) (by rw [orb_succ]; exact nodup_snoc hn hm) ha2 with ⟨j, j1, j2, j3, j4⟩ | ⟨s, per, j1, j2, j3⟩
        · exact .inl ⟨j, j1, j2, j3, hstep _ j4⟩
        · exact .inr ⟨s, per, j1, j2, hstep _ j3⟩
theorem cycleFrom_ev {g : List (List Int)} {rot : List Int} (h : Rot g rot) {p : Int} (h0 : 0 ≤ p) (h1 : p < (g.length : Int)) :
    (∃ j, j < g.length ∧ nx g rot (it (nx g rot) j p) < 0 ∧ (∀ m, m < j → 0 ≤ nx g rot (it (nx g rot) m p)) ∧ Ev (fun k => impl_Graph_cycleFrom.f k g rot p) ([], false)) ∨
    (∃ s per, Rho (nx g rot) g.length p s per ∧ (∀ j, 0 ≤ nx g rot (it (nx g rot) j p)) ∧ Ev (fun k => impl_Graph_cycleFrom.f k g rot p) (orb (nx g rot) (it (nx g rot) s p) per, true)) := by
  rcases cycleFrom_l0 h h0 h1 g.length 0 (by omega) (by omega) (by simp [orb]) (fun j hj => by omega) with h2 | ⟨s, per, j1, j2, j3⟩
  · exact .inl h2
  · refine .inr ⟨s, per, j1, fun j => ?_, j3⟩
    obtain ⟨m, hm, he⟩ := orb_mem.1 (j1.all j)
    rw [← he]; exact j2 m hm
end Go.Proofs.Ytcmfcleeohcgaaa.M
namespace Go.Proofs.Ytcmfcleeohcgaaa.M
open Go.RowKit Go.Proofs.Ytcmfcleeohcgaaa.P Go.Proofs.Ytcmfcleeohcgaaa.In Go.Proofs.YtcmfcleeohcgaaaW.PrintWords Go.Proofs.YtcmfcleeohcgaaaW.PrintLast
set_option linter.unusedVariables false
set_option linter.unusedSimpArgs false
theorem trCycle_dead {g : List (List Int)} {rot : List Int} (h : Rot g rot) {p : Int} (h0 : 0 ≤ p) (h1 : p < (g.length : Int)) {j : Nat} (hj : j < g.length) (hneg : nx g rot (it (nx g rot) j p) < 0) (ha : ∀ m, m < j → 0 ≤ nx g rot (it (nx g rot) m p)) : ∀ (d i : Nat), j - i = d → i ≤ j → Ev (fun k => spec_trCycle.l0 k rot (it (nx g rot) i p) i g) ([], false) := by
  have h8 := (good_iff h.good).1.2
  intro d
  induction d with
  | zero =>
    intro i hd hi
    have hij : i = j := by omega
    have hp := h.it_ok h0 h1 i (fun m hm => ha m (by omega))
    refine Ev.succ ?_
    simp only [spec_trCycle.l0]
    subst hij
    exact Ev.pos (by omega) (Ev.bind0 (trNext_eq h.rb h.len hp.1 hp.2) (Ev.pos hneg (Ev.now _)))
  | succ d ih =>
    intro i hd hi
    have hp := h.it_ok h0 h1 i (fun m hm => ha m (by omega))
    have hpos := ha i (by omega)
    refine Ev.succ ?_
    simp only [spec_trCycle.l0]
    refine Ev.pos (by omega) (Ev.bind0 (trNext_eq h.rb h.len hp.1 hp.2) (Ev.neg (by omega) ?_))
    rw [wrap_nat (by omega), ← it_succ (nx g rot) i p]
    exact ih (i + 1) (by omega) (by omega)
theorem trCycle_l1 {g : List (List Int)} {rot : List Int} (h : Rot g rot) {c : Int} (h0 : 0 ≤ c) (h1 : c < (g.length : Int)) (ha : ∀ j, 0 ≤ nx g rot (it (nx g rot) j c)) {per : Nat} (hper : per ≤ g.length) (hb : it (nx g rot) per c = c) (hf : ∀ i, 0 < i → i < per → it (nx g rot) i c ≠ c) : ∀ (d i : Nat), per - i = d → 0 < i → i ≤ per → Ev (fun k => spec_trCycle.l1 k rot c (orb (nx g rot) c i) (it (nx g rot) i c) g) (orb (nx g rot) c per, true) := by
  have h8 := (good_iff h.good).1.2
  intro d
  induction d with
  | zero =>
    intro i hd hi hi2
    have : i = per := by omega
    subst this
    refine Ev.succ ?_
    simp only [spec_trCycle.l1]
    exact Ev.pos hb (Ev.now _)
  | succ d ih =>
    intro i hd hi hi2
    have hp := h.it_ok h0 h1 i (fun m _ => ha m)
    refine Ev.succ ?_
    simp only [spec_trCycle.l1]
    refine Ev.neg (hf i hi (by omega)) (Ev.pos (by rw [orb_len]; omega) (Ev.bind0 (trNext_eq h.rb h.len hp.1 hp.2) ?_))
    have := ih (i + 1) (by omega) (by omega) (by omega)
    rw [it_succ, orb_succ] at this
    exact this
theorem trCycle_live {g : List (List Int)} {rot : List Int} (h : Rot g rot) {p : Int} (h0 : 0 ≤ p) (h1 : p < (g.length : Int)) {s per : Nat} (hr : Rho (nx g rot) g.length p s per) (ha : ∀ j, 0 ≤ nx g rot (it (nx g rot) j p)) : ∀ (d i : Nat), g.length - i = d → i ≤ g.length → Ev (fun k => spec_trCycle.l0 k rot (it (nx g rot) i p) i g) (orb (nx g rot) (it (nx g rot) g.length p) per, true) := by
  have h8 := (good_iff h.good).1.2
  intro d
  induction d with
  | zero =>
    intro i hd hi
    have : i = g.length := by omega
    subst this
    have hp := h.it_ok h0 h1 g.length (fun m _ => ha m)
    refine Ev.succ ?_
    simp only [spec_trCycle.l0]
    refine Ev.neg (by omega) (Ev.bind0 (trNext_eq h.rb h.len hp.1 hp.2) ?_)
    have hle := hr.le
    have hpos := hr.pos
    obtain ⟨t1, t2, t3⟩ := hr.turn (g.length - s)
    rw [show s + (g.length - s) = g.length by omega] at t1 t2 t3
    have := trCycle_l1 h hp.1 hp.2 (fun j => by rw [← it_add]; exact ha _) (by omega) t2 t3 (per - 1) 1 (by omega) (by omega) (by omega)
    exact this
  | succ d ih =>
    intro i hd hi
    have hp := h.it_ok h0 h1 i (fun m _ => ha m)
    have hpos := ha i
    refine Ev.succ ?_
    simp only [spec_trCycle.l0]
    refine Ev.pos (by omega) (Ev.bind0 (trNext_eq h.rb h.len hp.1 hp.2) (Ev.neg (by omega) ?_))
    rw [wrap_nat (by omega), ← it_succ (nx g rot) i p]
    exact ih (i + 1) (by omega) (by omega)
/-- From a place on, the two come to the same circle, or both to an end. -/
theorem cycle_both {g : List (List Int)} {rot : List Int} (h : Rot g rot) {p : Int} (h0 : 0 ≤ p) (h1 : p < (g.length : Int)) :
    ∃ (L M : List Int) (b : Bool), Ev (fun k => impl_Graph_cycleFrom.f k g rot p) (L, b) ∧ Ev (fun k => spec_trCycle.f k g rot p) (M, b) ∧ (∀ x, x ∈ L ↔ x ∈ M) ∧ L.length ≤ g.length ∧ M.length ≤ g.length := by
  rcases cycleFrom_ev h h0 h1 with ⟨j, j1, j2, j3, j4⟩ | ⟨s, per, hr, ha, e⟩
  · exact ⟨[], [], false, j4, trCycle_dead h h0 h1 j1 j2 j3 j 0 (by omega) (by omega), fun _ => Iff.rfl, by simp, by simp⟩
  · have hle := hr.le
    refine ⟨_, _, true, e, trCycle_live h h0 h1 hr ha g.length 0 (by omega) (by omega), fun x => ?_, by rw [orb_len]; omega, by rw [orb_len]; omega⟩
    have := (hr.turn (g.length - s)).1 x
    rw [show s + (g.length - s) = g.length by omega] at this
    exact this.symm
theorem uni_l0 {g : List (List Int)} {rot : List Int} (h : Rot g rot) (a : Int) : ∀ (d i : Nat), g.length - i = d → i ≤ g.length → ∃ r : Bool, Ev (fun k => impl_Graph_isUnicycle.l0 k g.length i g rot a) r ∧ Ev (fun k => spec_trUni.l0 k g.length i g rot a) r ∧ (r = true → ∀ p : Nat, i ≤ p → p < g.length → ∃ M, Ev (fun k => spec_trCycle.f k g rot (p : Int)) (M, true) ∧ a ∈ M) := by
  have h8 := (good_iff h.good).1.2
  intro d
  induction d with
  | zero =>
    intro i hd hi
    refine ⟨true, ?_, ?_, fun _ p h2 h3 => by omega⟩
    · refine Ev.succ ?_
      simp only [impl_Graph_isUnicycle.l0]
      exact Ev.neg (by omega) (Ev.now _)
    · refine Ev.succ ?_
      simp only [spec_trUni.l0]
      exact Ev.neg (by omega) (Ev.now _)
  | succ d ih =>
    intro i hd hi
    obtain ⟨L, M, b, e1, e2, e3, e4, e5⟩ := cycle_both h (p := (i : Int)) (by omega) (by omega)
    obtain ⟨r, r1, r2, r3⟩ := ih (i + 1) (by omega) (by omega)
    by_cases hb : b = true
    · subst hb
      by_cases hm : a ∈ L
      · have hm2 := (e3 a).1 hm
        refine ⟨r, ?_, ?_, fun hr p h2 h3 => ?_⟩
        · refine Ev.succ ?_
          simp only [impl_Graph_isUnicycle.l0]
          refine Ev.pos (by omega) (Ev.bind e1 (Ev.pos rfl (Ev.bind (contains_ev L a (by omega)) (Ev.pos (by simpa using hm) ?_))))
          rw [wrap_nat (by omega)]; exact r1
        · refine Ev.succ ?_
          simp only [spec_trUni.l0]
          refine Ev.pos (by omega) (Ev.bind e2 (Ev.pos rfl (Ev.bind (l1Has_ev M a (by omega)) (Ev.pos (by simpa using hm2) ?_))))
          rw [wrap_nat (by omega)]; exact r2
        · by_cases hp : p = i
          · subst hp; exact ⟨M, e2, hm2⟩
          · exact r3 hr p (by omega) h3
      · have hm2 : a ∉ M := fun hh => hm ((e3 a).2 hh)
        refine ⟨false, ?_, ?_, fun hr => by cases hr⟩
        · refine Ev.succ ?_
          simp only [impl_Graph_isUnicycle.l0]
          exact Ev.pos (by omega) (Ev.bind e1 (Ev.pos rfl (Ev.bind (contains_ev L a (by omega)) (Ev.neg (by simpa using hm) (Ev.now _)))))
        · refine Ev.succ ?_
          simp only [spec_trUni.l0]
          exact Ev.pos (by omega) (Ev.bind e2 (Ev.pos rfl (Ev.bind (l1Has_ev M a (by omega)) (Ev.neg (by simpa using hm2) (Ev.now _)))))
    · refine ⟨false, ?_, ?_, fun hr => by cases hr⟩
      · refine Ev.succ ?_
        simp only [impl_Graph_isUnicycle.l0]
        exact Ev.pos (by omega) (Ev.bind e1 (Ev.neg hb (Ev.now _)))
      · refine Ev.succ ?_
        simp only [spec_trUni.l0]
        exact Ev.pos (by omega) (Ev.bind e2 (Ev.neg hb (Ev.now _)))
theorem uni_ev {g : List (List Int)} {rot : List Int} (h : Rot g rot) {a : Int} (h0 : 0 ≤ a) (h1 : a < (g.length : Int)) : ∃ r : Bool, Ev (fun k => impl_Graph_isUnicycle.f k g rot a) r ∧ Ev (fun k => spec_trUni.f k g rot a) r ∧ (r = true → ∃ M, Ev (fun k => spec_trCycle.f k g rot a) (M, true) ∧ a ∈ M) := by
  obtain ⟨r, r1, r2, r3⟩ := uni_l0 h a g.length 0 (by omega) (by omega)
  have h8 := (good_iff h.good).1.2
  obtain ⟨L, M, b, e1, e2, e3, e4, e5⟩ := cycle_both h h0 h1
  have own : r = true → b = true ∧ a ∈ M := by
    intro hr
    obtain ⟨M', hM', ha⟩ := r3 hr a.toNat (by omega) (by omega)
    rw [show ((a.toNat : Nat) : Int) = a by omega] at hM'
    have := Ev.uniq hM' e2
    injection this with t1 t2
    subst t1; exact ⟨t2.symm, ha⟩
  refine ⟨r, r1, ?_, fun hr => ⟨M, by rw [← (own hr).1]; exact e2, (own hr).2⟩⟩
  unfold spec_trUni.f
  refine Ev.bind e2 ?_
  by_cases hb : b = true
  · refine Ev.pos hb (Ev.bind (l1Has_ev M a (by omega)) ?_)
    by_cases hm : a ∈ M
    · refine Ev.succ ?_
      simp only [spec_trUni.j0]
      exact Ev.neg (by simpa using hm) r2
    · refine Ev.succ ?_
      simp only [spec_trUni.j0]
      refine Ev.pos (by simpa using hm) ((Ev.now _).val ?_)
      cases r with
      | false => rfl
      | true => exact absurd (own rfl).2 hm
  · refine Ev.neg hb ?_
    refine Ev.succ ?_
    simp only [spec_trUni.j0]
    refine Ev.pos (by simp) ((Ev.now _).val ?_)
    cases r with
    | false => rfl
    | true => exact absurd (own rfl).1 hb
end Go.Proofs.Ytcmfcleeohcgaaa.M
namespace Go.Proofs.Ytcmfcleeohcgaaa.M
open Go.RowKit Go.Proofs.Ytcmfcleeohcgaaa.P Go.Proofs.Ytcmfcleeohcgaaa.In Go.Proofs.YtcmfcleeohcgaaaW.PrintWords Go.Proofs.YtcmfcleeohcgaaaW.PrintLast
set_option linter.unusedVariables false
set_option linter.unusedSimpArgs false
def marks (a : Int) : Nat → List Int
  | 0 => []
  | n + 1 => a :: marks (a + 1) n
theorem marks_len (a : Int) (n : Nat) : (marks a n).length = n := by
  induction n generalizing a with
  | zero => rfl
  | succ n ih => simp [marks, ih]
theorem markIntS_l0 (n : Nat) (hn : n ≤ 4611686018427387904) : ∀ (d i : Nat) (x : List Int) (a : Int), x.length = n → n - i = d → i ≤ n → 0 ≤ a → a + d ≤ 4611686018427387904 → Ev (fun k => laws_markIntS.l0 k x a i) (a + d, x.take i ++ marks a d) := by
  intro d
  induction d with
  | zero =>
    intro i x a hx hd hi h0 h1
    refine Ev.succ ?_
    simp only [laws_markIntS.l0]
    refine Ev.neg (by omega) ((Ev.now _).val ?_)
    rw [List.take_of_length_le (by omega)]; simp [marks]
  | succ d ih =>
    intro i x a hx hd hi h0 h1
    refine Ev.succ ?_
    simp only [laws_markIntS.l0]
    refine Ev.pos (by omega) (Ev.pos (by omega) ?_)
    rw [wrap_id (x := a + 1) (by omega), wrap_nat (by omega), Int.toNat_natCast]
    refine (ih (i + 1) (x.set i a) (a + 1) (by rw [List.length_set]; exact hx) (by omega) (by omega) (by omega) (by omega)).val ?_
    rw [List.take_succ_eq_append_getElem (by rw [List.length_set]; omega), List.take_set_of_le (Nat.le_refl _), List.getElem_set_self]
    simp only [marks, List.append_assoc, List.singleton_append]
    congr 1; omega
theorem markIntS (x : List Int) (a : Int) (hn : x.length ≤ 4611686018427387904) (h0 : 0 ≤ a) (h1 : a + x.length ≤ 4611686018427387904) : Ev (fun k => laws_markIntS.f k x a) (a + x.length, marks a x.length) := by
  have := markIntS_l0 x.length hn x.length 0 x a rfl (by omega) (by omega) h0 h1
  unfold laws_markIntS.f
  simpa using this
theorem heldIntS_l0 (n : Nat) (hn : n ≤ 4611686018427387904) (y : List Int) (hy : y.length = n) : ∀ (d i : Nat) (a : Int), n - i = d → i ≤ n → 0 ≤ a → a + d ≤ 4611686018427387904 → y.drop i = marks a d → Ev (fun k => laws_heldIntS.l0 k y a i) (a + d) := by
  intro d
  induction d with
  | zero =>
    intro i a hd hi h0 h1 he
    refine Ev.succ ?_
    simp only [laws_heldIntS.l0]
    exact Ev.neg (by omega) ((Ev.now _).val (by simp))
  | succ d ih =>
    intro i a hd hi h0 h1 he
    have hlt : i < y.length := by omega
    rw [List.drop_eq_getElem_cons hlt] at he
    simp only [marks, List.cons.injEq] at he
    refine Ev.succ ?_
    simp only [laws_heldIntS.l0]
    refine Ev.pos (by omega) (Ev.pos (by omega) (Ev.pos (by rw [rd_at hlt]; exact he.1) ?_))
    rw [wrap_id (x := a + 1) (by omega), wrap_nat (by omega)]
    exact (ih (i + 1) (a + 1) (by omega) (by omega) (by omega) (by omega) he.2).val (by omega)
theorem heldIntS (a : Int) (n : Nat) (h0 : 0 ≤ a) (h1 : a + n ≤ 4611686018427387904) : Ev (fun k => laws_heldIntS.f k (marks a n) a) (a + n) :=
  heldIntS_l0 n (by omega) _ (marks_len a n) n 0 a (by omega) (by omega) h0 h1 (by simp)
theorem markR (r : List Int) (h : r.length ≤ 1048576) : ∃ q r', Ev (fun k => laws_markIntS.f k r 1) (q, r') ∧ 0 ≤ q ∧ Ev (fun k => laws_heldIntS.f k r' 1) q ∧ True :=
  ⟨_, _, markIntS r 1 (by omega) (by omega) (by omega), by omega, heldIntS 1 r.length (by omega) (by omega), trivial⟩
end Go.Proofs.Ytcmfcleeohcgaaa.M
namespace Go.Proofs.Ytcmfcleeohcgaaa.M
open Go.RowKit Go.Proofs.Ytcmfcleeohcgaaa.P Go.Proofs.Ytcmfcleeohcgaaa.In Go.Proofs.YtcmfcleeohcgaaaW.PrintWords Go.Proofs.YtcmfcleeohcgaaaW.PrintLast
set_option linter.unusedVariables false
set_option linter.unusedSimpArgs false
def markRows (a : Int) : List (List Int) → Int × List (List Int)
  | [] => (a, [])
  | row :: rest => ((markRows (a + row.length) rest).1, marks a row.length :: (markRows (a + row.length) rest).2)
theorem markIntSS_l0 (n : Nat) (hn : n ≤ 1048576) : ∀ (d i : Nat) (x : List (List Int)) (a : Int), x.length = n → (∀ row ∈ x.drop i, row.length ≤ 1048576) → n - i = d → i ≤ n → 0 ≤ a → a + 1048576 * d ≤ 4611686018427387904 → Ev (fun k => laws_markIntSS.l0 k x a i) ((markRows a (x.drop i)).1, x.take i ++ (markRows a (x.drop i)).2) ∧ a ≤ (markRows a (x.drop i)).1 ∧ (markRows a (x.drop i)).1 ≤ a + 1048576 * d := by
  intro d
  induction d with
  | zero =>
    intro i x a hx hr hd hi h0 h1
    rw [List.drop_of_length_le (by omega)]
    refine ⟨?_, by simp [markRows], by simp [markRows]⟩
    refine Ev.succ ?_
    simp only [laws_markIntSS.l0]
    refine Ev.neg (by omega) ((Ev.now _).val ?_)
    rw [List.take_of_length_le (by omega)]; simp [markRows]
  | succ d ih =>
    intro i x a hx hr hd hi h0 h1
    have hlt : i < x.length := by omega
    have hrow := hr x[i] (by rw [List.drop_eq_getElem_cons hlt]; exact List.mem_cons_self)
    have hdrop : (x.set i (marks a x[i].length)).drop (i + 1) = x.drop (i + 1) := List.drop_set_of_lt (by omega)
    obtain ⟨e1, e2, e3⟩ := ih (i + 1) (x.set i (marks a x[i].length)) (a + x[i].length) (by rw [List.length_set]; exact hx) (fun row hm => hr row (by rw [hdrop] at hm; rw [List.drop_eq_getElem_cons hlt]; exact List.mem_cons_of_mem _ hm)) (by omega) (by omega) (by omega) (by omega)
    rw [hdrop] at e1 e2 e3
    rw [List.drop_eq_getElem_cons hlt]
    simp only [markRows]
    refine ⟨?_, by omega, by omega⟩
    refine Ev.succ ?_
    simp only [laws_markIntSS.l0]
    refine Ev.pos (by omega) (Ev.pos (by omega) ?_)
    rw [rdL_at hlt]
    refine Ev.bind (markIntS x[i] a (by omega) h0 (by omega)) ?_
    rw [wrap_nat (by omega), Int.toNat_natCast]
    refine e1.val ?_
    rw [List.take_succ_eq_append_getElem (by rw [List.length_set]; omega), List.take_set_of_le (Nat.le_refl _), List.getElem_set_self]
    simp
theorem markIntSS (x : List (List Int)) (hx : small x) (a : Int) (h0 : 0 ≤ a) (h1 : a ≤ 1099511627776) : Ev (fun k => laws_markIntSS.f k x a) ((markRows a x).1, (markRows a x).2) ∧ a ≤ (markRows a x).1 ∧ (markRows a x).1 ≤ a + 1099511627776 := by
  have hl := hx.1
  obtain ⟨e1, e2, e3⟩ := markIntSS_l0 x.length hx.1 x.length 0 x a rfl (fun row hm => hx.2 row (by simpa using hm)) (by omega) (by omega) h0 (by omega)
  refine ⟨by unfold laws_markIntSS.f; simpa using e1, by simpa using e2, ?_⟩
  have : (markRows a x).1 ≤ a + 1048576 * x.length := by simpa using e3
  omega
theorem markG (x : List (List Int)) (hx : small x) : ∃ m x', Ev (fun k => laws_markGraph.f k x 1) (m, x') ∧ 0 ≤ m ∧ m ≤ 1099511627777 := by
  obtain ⟨e1, e2, e3⟩ := markIntSS x hx 1 (by omega) (by omega)
  exact ⟨_, _, e1, by omega, by omega⟩
end Go.Proofs.Ytcmfcleeohcgaaa.M
namespace Go.Proofs.Ytcmfcleeohcgaaa.Pure
open Go.RowKit Go.Proofs.Ytcmfcleeohcgaaa.P Go.Proofs.Ytcmfcleeohcgaaa.In Go.Proofs.Ytcmfcleeohcgaaa.M Go.Proofs.YtcmfcleeohcgaaaW.PrintWords Go.Proofs.YtcmfcleeohcgaaaW.PrintLast
set_option linter.unusedVariables false
set_option linter.unusedSimpArgs false
theorem FnExactTreeOfUnicycle (l : List (List Int)) (hl : okSS l) (ro : List Int) (x : Int) (hro : okIs ro) (hx : okI x) : laws_FnExactTreeOfUnicycle.f l ro x = some true := by
  unfold laws_FnExactTreeOfUnicycle.f
  rw [if_pos]
  unfold laws_FnExactTreeOfUnicycle.Good
  obtain ⟨r, hr, hr1, hs⟩ := szGraph l hl
  refine ⟨r, hr, fun h => ?_⟩
  have sm := hs h
  obtain ⟨r2, h2, _, hs2⟩ := szWalk ro x hro r h hr1
  refine ⟨r2, h2, fun h' => ?_⟩
  have sm2 := hs2 h'
  obtain ⟨v, b, hS, hI, hv⟩ : ∃ (v : List Int) (b : Bool), Ev (fun k => spec_TreeOfUnicycle.f k l ro x) (v, b) ∧ Ev (fun k => impl_TreeOfUnicycle.f k l ro x) (v, b) ∧ v.length ≤ 1048576 := by
    by_cases hg : walkB l ro x = true
    · obtain ⟨hrot, h0, h1⟩ := Rot.of_walk hg
      have h8 := (good_iff hrot.good).1.2
      have hrl := hrot.len
      have hcl : slices_Clone_int_int.f ro = some ro := by unfold slices_Clone_int_int.f; first | rfl | rw [if_pos (by omega)]
      have hown : spec_l1Own.f ro = some ro := by
        unfold spec_l1Own.f
        show (if ([] : List Int).length + ro.length < 17592186044416 then some ([] ++ ro) else none) = some ro
        rw [if_pos (by simp; omega)]; rfl
      obtain ⟨u, u1, u2, _⟩ := uni_ev hrot h0 h1
      by_cases hu : u = true
      · refine ⟨ro.set x.toNat 0, true, ?_, ?_, by simp; omega⟩
        · unfold spec_TreeOfUnicycle.f
          exact Ev.bind (waGood l hl ro x) (Ev.pos hg (Ev.bind u2 (Ev.pos hu (Ev.bind0 hown (Ev.pos h0 (Ev.pos (by omega) (Ev.now _)))))))
        · unfold impl_TreeOfUnicycle.f
          exact Ev.bind (isWalk l ro x) (Ev.pos hg (Ev.bind u1 (Ev.pos hu (Ev.bind0 hcl (Ev.pos h0 (Ev.pos (by omega) (Ev.now _)))))))
      · refine ⟨[], false, ?_, ?_, by simp⟩
        · unfold spec_TreeOfUnicycle.f
          exact Ev.bind (waGood l hl ro x) (Ev.pos hg (Ev.bind u2 (Ev.neg hu (Ev.now _))))
        · unfold impl_TreeOfUnicycle.f
          exact Ev.bind (isWalk l ro x) (Ev.pos hg (Ev.bind u1 (Ev.neg hu (Ev.now _))))
    · refine ⟨[], false, ?_, ?_, by simp⟩
      · unfold spec_TreeOfUnicycle.f
        exact Ev.bind (waGood l hl ro x) (Ev.neg hg (Ev.now _))
      · unfold impl_TreeOfUnicycle.f
        exact Ev.bind (isWalk l ro x) (Ev.neg hg (Ev.now _))
  obtain ⟨m, l', hm, hm0, hm1⟩ := markG l sm
  have hmw : Ev (fun k => laws_markWalk.f k ro x m) (m + ro.length, marks m ro.length) := by
    unfold laws_markWalk.f
    exact Ev.bind (markIntS ro m (by omega) hm0 (by omega)) (Ev.now _)
  exact ⟨toGraph l sm, toWalk ro x sm2, v, b, hS, hI, (eqIntS v v (by omega)).val (decide_eq_true rfl), small_eq l sm, eqWalk ro x sm2, m, l', hm, hm0, _, _, hmw, by omega, markR v hv⟩
end Go.Proofs.Ytcmfcleeohcgaaa.Pure
namespace Go.Proofs.Ytcmfcleeohcgaaa.fnExactTreeOfUnicycle
open Go.ChangeShapes Go.WideShapes Go.ChangeAt Go.RowKit
open Go.ChangeMaps (open_string shut_string)
open Go.Proofs.Ytcmfcleeohcgaaa.In Go.Proofs.Ytcmfcleeohcgaaa.P
set_option linter.unusedVariables false
theorem own : ownKnob Try.prog.godebug = none := by kernel_rfl
theorem laidOut : laidOutB Try.prog = true := by kernel_rfl
set_option maxRecDepth 100000 in
theorem lifted (os : Os) (started : os.Started) (H : Type) (enc : TypeId × Value → H) :
    ReturnsInHanded {} Try.checked os 6 .any (Rows.fnExactTreeOfUnicycleSpec.pre6 enc Try.prog Try.f6 Rows.fnExactTreeOfUnicycleRow.domain false) (Rows.fnExactTreeOfUnicycleSpec.post enc Try.prog Try.f6 false true false false) := by
  refine returnsInHanded_of_change_sized (C := Try.checked) own started (by kernel_rfl) Try.func6
    (ChangeSpec.witness6 (enc := enc) (C := Try.checked) false ⟨#[], #[.agg #[.slice none 0 0], .agg #[.slice none 0 0, .int .i64 0]], []⟩ 8 (by kernel_rfl) (by kernel_rfl) (by kernel_rfl) (by kernel_rfl)) ?_
  intro W base args ds gs before hval0 hW hcnd hsz0 _
  have hsz : (DataW.weightsEach Try.prog (Try.f6.params.toList ++ Rows.fnExactTreeOfUnicycleSpec.plain.varTypes Try.prog) (ds ++ gs)).all (· ≤ reachBytes) = true := hsz0
  have hval : ∀ (j : Nat) t v, Try.f6.params[j]? = some t → args[j]? = some v → Value.okWide Try.prog W .any base t v := hval0
  have hW' := hW
  obtain ⟨p, q, hA0, hV, rfl, hfz, hnd⟩ := hW
  have hA : DataW.TrodAll enc Try.prog W 0 (fun _ => true) true Try.f6.params.toList args.toList ds p := hA0
  rw [Try.params6] at hA hval hsz
  obtain ⟨v0, vs0, d0, ds0, p0, q0, hargs, rfl, rfl, h0, r0⟩ := trodAll_cons hA
  obtain ⟨v1, vs1, d1, ds1, p1, q1, rfl, rfl, rfl, h1, r1⟩ := trodAll_cons r0
  obtain ⟨rfl, rfl, rfl⟩ := trodAll_nil r1
  obtain rfl : args = #[v0, v1] := by cases args; simp_all
  obtain ⟨rfl, rfl⟩ := trodVars_none hV
  have k0 := h0
  have lt0 : ∀ x ∈ p0, x.block < W.heap.size := by obtain ⟨m, hm⟩ := k0; exact DataW.trod_lt m _ _ _ hm
  obtain ⟨A0, l0, cap0, rfl, hl0, hc0, hw0⟩ := in_graph (q := 3) Try.underlying30 (by kernel_rfl) (by kernel_rfl) rfl Try.underlying22 Try.underlying31 Try.underlying3 (by kernel_rfl) (by kernel_rfl) (hval 0 30 v0 rfl rfl) h0
  have k1 := h1
  have lt1 : ∀ x ∈ p1, x.block < W.heap.size := by obtain ⟨m, hm⟩ := k1; exact DataW.trod_lt m _ _ _ hm
  obtain ⟨A1, l1, cap1, x1, rfl, hl1, hc1, hw1, hx1⟩ := in_walk (q := 3) Try.underlying44 (by kernel_rfl) (by kernel_rfl) rfl rfl Try.underlying31 Try.underlying3 Try.underlying3 (by kernel_rfl) (hval 1 44 v1 rfl rfl) h1
  clear hA0 hval0 hsz0 hsz
  have h := Pure.FnExactTreeOfUnicycle l0 (okSS_wf hc0 hw0) l1 x1 (okIs_wf hw1) (okI_wf hx1)
  refine (laws_FnExactTreeOfUnicycle.calls _ _ l0 _ _ l1 x1 true W hc0 hl0 hc1 hl1 h).mono fun e W' ⟨he, bel0⟩ => ?_
  have bel : Below W.heap.size W W' := bel0
  subst he
  exact ⟨_, rfl, _, _, _, [], _, [], hW', trodAll_mk1 (shut_bool Try.underlying4 _), (trodAll_cons_mk (Below.trod laidOut (by kernel_rfl) (of_decide_eq_true (by kernel_rfl)) k0 bel lt0) (trodAll_cons_mk (Below.trod laidOut (by kernel_rfl) (of_decide_eq_true (by kernel_rfl)) k1 bel lt1) trodAll_mk0)), rfl, bel.frame _, fun h => by cases h⟩
theorem over : Rows.fnExactTreeOfUnicycleRow.holds Try.pinned (OpenSpec.ofChange Rows.fnExactTreeOfUnicycleSpec) :=
  OpenClaim.holds_of_wide 6 Try.f6 rfl rfl rfl rfl rfl rfl rfl ⟨rfl, rfl, rfl, rfl, rfl⟩ rfl rfl rfl rfl rfl (by kernel_rfl) Try.func6 (by kernel_rfl)
    (of_decide_eq_true (by kernel_rfl)) (by unfold Func.isWrapper; first | (rw [if_pos (by decide +kernel)]; kernel_rfl) | (rw [if_neg (by decide +kernel)]; exact ⟨rfl, rfl⟩))
    (fun os started H enc _ => lifted os started H enc)
theorem proved : Rows.FnExactTreeOfUnicycleSaid := over
end Go.Proofs.Ytcmfcleeohcgaaa.fnExactTreeOfUnicycle
namespace Go.Proofs.Ytcmfcleeohcgaaa
/-- The law, under a short name, for the claim. -/
theorem fnExactTreeOfUnicycle_holds : Rows.FnExactTreeOfUnicycleSaid := fnExactTreeOfUnicycle.proved
#print axioms fnExactTreeOfUnicycle_holds
end Go.Proofs.Ytcmfcleeohcgaaa
