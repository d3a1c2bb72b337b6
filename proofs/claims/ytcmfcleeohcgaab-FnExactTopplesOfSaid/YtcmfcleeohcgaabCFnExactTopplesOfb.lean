/- The law FnExactTopplesOf holds for every input: the program returns what the reference returns (or what the law says), for all arguments. -/
import Derived.Test.YtcmfcleeohcgaabPimplTopplesOf
import Derived.Test.YtcmfcleeohcgaabPlawseqGraph
import Derived.Test.YtcmfcleeohcgaabPlawseqIntS
import Derived.Test.YtcmfcleeohcgaabPlawsheldIntS
import Derived.Test.YtcmfcleeohcgaabPlawsmarkGraph
import Derived.Test.YtcmfcleeohcgaabPlawsmarkIntS
import Derived.Test.YtcmfcleeohcgaabPlawsszGraph
import Derived.Test.YtcmfcleeohcgaabPlawstoGraph
import Derived.Test.YtcmfcleeohcgaabPlawstoIntS
import Derived.Test.YtcmfcleeohcgaabCFnExactTopplesOfa
import Derived.Test.YtcmfcleeohcgaabPspecl1All
import Derived.Test.YtcmfcleeohcgaabPspecl1In
import Derived.Test.YtcmfcleeohcgaabPimplisGraph
import Derived.Test.YtcmfcleeohcgaabPimplhas
import Derived.Test.YtcmfcleeohcgaabPimplGraphlengths
import Derived.Test.YtcmfcleeohcgaabPimplGraphleadsTo
import Derived.Test.YtcmfcleeohcgaabPimplhasSink
import Derived.Test.YtcmfcleeohcgaabPimplareChips
import Derived.Test.YtcmfcleeohcgaabPimplisHeap
import Derived.Test.YtcmfcleeohcgaabPimplcanTopple
import Derived.Test.YtcmfcleeohcgaabPimpltopple
import Derived.Test.YtcmfcleeohcgaabPslicesCloneintint
import Derived.Test.YtcmfcleeohcgaabPimplsettle
import Derived.Test.YtcmfcleeohcgaabPlawsmarkIntSS
import Derived.Test.YtcmfcleeohcgaabRows
import Derived.WalkKit
import Derived.ProofKit
import Derived.OpenShut
import Derived.ShutString
import Derived.ChangeOld
import Derived.Below
import Derived.SizedLaws
import Derived.Deep.Matrix
import Derived.Lib.SmallJoins
namespace Go.Proofs.Ytcmfcleeohcgaab.P
open Go.RowKit Go.Proofs.YtcmfcleeohcgaabW.PrintWords Go.Proofs.YtcmfcleeohcgaabW.PrintLast Go.Proofs.YtcmfcleeohcgaabW.PrintMore Go.Proofs.Ytcmfcleeohcgaab.M
attribute [local go_sem] max2_int min2_int max_two min_two max_three min_three max_four min_four   -- for this text's walks alone
set_option linter.unusedVariables false
set_option linter.unusedSimpArgs false

/-- What the calls on the straight way answer. -/
def laws_FnExactTopplesOf.Good (l0_0 : List (List Int)) (a1 : Int) (l2 : List Int) : Prop :=
  ((l2.length : Int) ≤ 1048576 → ∃ x4 : Int, Ev (fun k => laws_szGraph.f k l0_0 1048576) x4 ∧ (0 ≤ x4 → Ev (fun k => laws_toGraph.f k l0_0) l0_0 ∧ Ev (fun k => laws_toIntS.f k l2) l2 ∧ ∃ x23 : List Int, ∃ x24 : Bool, Ev (fun k => spec_TopplesOf.f k l0_0 a1 l2) (x23, x24) ∧ Ev (fun k => impl_TopplesOf.f k l0_0 a1 l2) (x23, x24) ∧ Ev (fun k => laws_eqIntS.f k x23 x23) true ∧ Ev (fun k => laws_eqGraph.f k l0_0 l0_0) true ∧ Ev (fun k => laws_eqIntS.f k l2 l2) true ∧ ∃ x78 : Int, ∃ x79 : List (List Int), Ev (fun k => laws_markGraph.f k l0_0 1) (x78, x79) ∧ 0 ≤ x78 ∧ ∃ x83 : Int, ∃ x84 : List Int, Ev (fun k => laws_markIntS.f k l2 x78) (x83, x84) ∧ 0 ≤ x83 ∧ ∃ x89 : Int, ∃ x90 : List Int, Ev (fun k => laws_markIntS.f k x23 1) (x89, x90) ∧ 0 ≤ x89 ∧ Ev (fun k => laws_heldIntS.f k x90 1) x89 ∧ True))
open Classical in
noncomputable def laws_FnExactTopplesOf.f (l0_0 : List (List Int)) (a1 : Int) (l2 : List Int) : Option Bool := if laws_FnExactTopplesOf.Good l0_0 a1 l2 then some true else none
set_option maxHeartbeats 16000000 in
set_option maxRecDepth 100000 in
theorem laws_FnExactTopplesOf.calls (A0_0 : Option Addr) (c0_0 : Nat) (l0_0 : List (List Int)) (a1 : Int) (A2 : Option Addr) (c2 : Nat) (l2 : List Int) (r : Bool) (w : World) (hr0_0 : Kd.C (Kd.slice 3 (Kd.int .i64)) w A0_0 l0_0.length l0_0) (hc0_0 : l0_0.length ≤ c0_0) (hr2 : Kd.C (Kd.int .i64) w A2 l2.length l2) (hc2 : l2.length ≤ c2) (h : laws_FnExactTopplesOf.f l0_0 a1 l2 = some r) :
    Calls Try.prog 7 #[.agg #[.slice A0_0 l0_0.length c0_0], .int .i64 a1, .slice A2 l2.length c2] w fun e w' => e = .returned (.bool r) ∧ Below w.heap.size w w' := by
  unfold laws_FnExactTopplesOf.f at h
  by_cases hg : laws_FnExactTopplesOf.Good l0_0 a1 l2
  case neg => rw [if_neg hg] at h; cases h
  rw [if_pos hg] at h
  obtain rfl := Option.some.inj h
  clear h
  unfold laws_FnExactTopplesOf.Good at hg
  have hu24 := Try.underlying24
  have hu32 := Try.underlying32
  obtain ⟨s0, hs0⟩ : ∃ s0, s0 = w.heap.size := ⟨_, rfl⟩
  have HS := Aside0.mk (Nat.le_of_eq hs0)
  have CH := Aside0.mk True.intro
  have HB := Aside0.mk (Below.refl w.heap.size w)
  have FA0_0 := Aside0.mk (show Kd.F (Kd.slice 3 (Kd.int .i64)) w (fun k_ => k_ < s0) A0_0 l0_0.length l0_0 by rw [hs0]; exact Kd.C_F (Kd.heap_slice 3 (Kd.heap_int .i64)) hr0_0)
  have HC0_0 := Aside0.mk hc0_0
  clear hr0_0 hc0_0
  have FA2 := Aside0.mk (show Kd.F (Kd.int .i64) w (fun k_ => k_ < s0) A2 l2.length l2 by rw [hs0]; exact Kd.C_F (Kd.heap_int .i64) hr2)
  have HC2 := Aside0.mk hc2
  clear hr2 hc2
  clear hs0
  by_cases hz : (l2.length : Int) > 1048576
  · have hzb : decide ((l2.length : Int) > 1048576) = true := decide_eq_true hz
    have hzc : decide (1048576 < l2.length) = true := decide_eq_true (by omega)
    have hzd : decide (1048576 < (l2.length : Int)) = true := hzb
    clear hg hz
    go_enter Try.func7, Try.ntmps7
    go_wp2_with (first | ((with_reducible refine gate_dst (N := 3) rfl ?_); refine box_event ?hg (N := 3) ?hd (cs := #[.slice A0_0 l0_0.length c0_0]) (t := 24) ?hr ?_; (case hd => rfl); (case hg => rfl); (case hr => first | (go_simp; done) | (go_simp; rfl)); intro gb1 hg_ w2 hbox_ hb_; obtain ⟨hk_, hs1_, hs2_, hw0_⟩ := ev_kept (S := (fun _ => False)) HS.out HB.out hb_ (by repeat (first | (with_reducible first | exact Kept.refl _ _ | apply Kept.alloc | apply Kept.drewN | apply Kept.drew) | exact Kept.refl _ _)); have hw_ : w.heap.size ≤ gb1 := (by rw [hg_]; exact hw0_); have hB_ := below_step (by repeat (first | (with_reducible first | exact HB.out | apply below_alloc | apply pw_below_drewN | apply below_drew1) | exact HB.out)) hb_; have n0_ := Aside0.mk (Kd.F_kept FA0_0.out hk_ (fun _ _ hs_ => hs_.elim)); have n1_ := Aside0.mk (Kd.F_kept FA2.out hk_ (fun _ _ hs_ => hs_.elim)); have hS_ : s0 ≤ gb1 := (by rw [hg_]; exact hs1_); have nb_ := Aside0.mk hbox_; have ns_ := Aside0.mk (box_in hbox_); have nc_ := Aside0.mk (And.intro hS_ CH.out); have ng_ := Aside0.mk hw_; have nB_ := Aside0.mk hB_; clear HB HS CH FA0_0 FA2; have FA0_0 := n0_; have FA2 := n1_; have HB := nB_; have HS := ns_; have CH := nc_; have BKgb1 := nb_; have GEgb1 := ng_; clear nB_ ns_ nc_ nb_ ng_ n0_ n1_; clear hk_ hs1_ hs2_ hw_ hw0_ hB_ hS_ hb_ hbox_ hg_; have hczgb1_0 : w2.cell? ⟨gb1, 0, none⟩ = some (.slice A0_0 l0_0.length c0_0) := (blk_cell BKgb1.out 0).trans rfl; have hfzgb1_0 := blk_frozen BKgb1.out 0))
    go_ret
    exact ⟨by first | rfl | (simp; done), by repeat (first | (with_reducible first | exact HB.out | apply below_alloc | apply pw_below_drewN | apply below_drew1 | refine below_set ?_ GEgb1.out | refine below_set ?_ GEgb39.out) | exact HB.out)⟩
  have hg := hg (by omega)
  have hzLl2 : decide ((l2.length : Int) > 1048576) = false := decide_eq_false hz
  have hzcLl2 : decide (1048576 < l2.length) = false := decide_eq_false (by omega)
  have hzdLl2 : decide (1048576 < (l2.length : Int)) = false := hzLl2
  clear hz
  obtain ⟨x4, hg⟩ := hg
  obtain ⟨E_, hg⟩ := hg
  obtain ⟨KE5, E_⟩ := E_
  have E5 := Aside0.mk (E_ KE5 (Nat.le_refl _))
  clear E_
  by_cases hz : x4 < 0
  · have hzb : decide (x4 < 0) = true := decide_eq_true hz
    clear hg hz
    go_enter Try.func7, Try.ntmps7
    go_wp2_with (first | ((with_reducible refine gate_dst (N := 3) rfl ?_); refine box_event ?hg (N := 3) ?hd (cs := #[.slice A0_0 l0_0.length c0_0]) (t := 24) ?hr ?_; (case hd => rfl); (case hg => rfl); (case hr => first | (go_simp; done) | (go_simp; rfl)); intro gb1 hg_ w2 hbox_ hb_; obtain ⟨hk_, hs1_, hs2_, hw0_⟩ := ev_kept (S := (fun _ => False)) HS.out HB.out hb_ (by repeat (first | (with_reducible first | exact Kept.refl _ _ | apply Kept.alloc | apply Kept.drewN | apply Kept.drew) | exact Kept.refl _ _)); have hw_ : w.heap.size ≤ gb1 := (by rw [hg_]; exact hw0_); have hB_ := below_step (by repeat (first | (with_reducible first | exact HB.out | apply below_alloc | apply pw_below_drewN | apply below_drew1) | exact HB.out)) hb_; have n0_ := Aside0.mk (Kd.F_kept FA0_0.out hk_ (fun _ _ hs_ => hs_.elim)); have n1_ := Aside0.mk (Kd.F_kept FA2.out hk_ (fun _ _ hs_ => hs_.elim)); have hS_ : s0 ≤ gb1 := (by rw [hg_]; exact hs1_); have nb_ := Aside0.mk hbox_; have ns_ := Aside0.mk (box_in hbox_); have nc_ := Aside0.mk (And.intro hS_ CH.out); have ng_ := Aside0.mk hw_; have nB_ := Aside0.mk hB_; clear HB HS CH FA0_0 FA2; have FA0_0 := n0_; have FA2 := n1_; have HB := nB_; have HS := ns_; have CH := nc_; have BKgb1 := nb_; have GEgb1 := ng_; clear nB_ ns_ nc_ nb_ ng_ n0_ n1_; clear hk_ hs1_ hs2_ hw_ hw0_ hB_ hS_ hb_ hbox_ hg_; have hczgb1_0 : w2.cell? ⟨gb1, 0, none⟩ = some (.slice A0_0 l0_0.length c0_0) := (blk_cell BKgb1.out 0).trans rfl; have hfzgb1_0 := blk_frozen BKgb1.out 0) | ((with_reducible refine gate_callee (f := 8) rfl ?_); refine goesL_ (some 24) rfl rfl Try.func8 (by kernel_rfl) rfl #[.agg #[.slice A0_0 l0_0.length c0_0], .int .i64 1048576] rfl (by (try simp only [List.map_toArray, List.map_cons, List.map_nil]); first | done | rfl | (simp only [List.length_drop, List.length_take]; rfl)) ?_; (with_reducible refine (laws_szGraph.calls KE5 _ _ l0_0 1048576 x4 _ ?sidehr0_0 ?sidehc0_0 E5.out).mono ?_); (case sidehr0_0 => exact F_at (S := (fun _ => False)) FA0_0.out (by repeat (first | (with_reducible first | exact Kept.refl _ _ | apply Kept.alloc | apply Kept.drewN | apply Kept.drew) | exact Kept.refl _ _)) (fun _ _ hs_ => hs_.elim)); (case sidehc0_0 => exact HC0_0.out); rintro e w3 ⟨rfl, hb_⟩; refine ⟨_, rfl, ?_⟩; (try clear hczgb1_0); (try clear hfzgb1_0); obtain ⟨hk_, hs1_, hs2_, hw_⟩ := ev_kept (S := (fun _ => False)) HS.out HB.out hb_ (by repeat (first | (with_reducible first | exact Kept.refl _ _ | apply Kept.alloc | apply Kept.drewN | apply Kept.drew) | exact Kept.refl _ _)); have hB_ := below_step (by repeat (first | (with_reducible first | exact HB.out | apply below_alloc | apply pw_below_drewN | apply below_drew1 | refine below_set ?_ GEgb1.out) | exact HB.out)) hb_; have n0_ := Aside0.mk (Kd.F_kept FA0_0.out hk_ (fun _ _ hs_ => hs_.elim)); have n1_ := Aside0.mk (Kd.F_kept FA2.out hk_ (fun _ _ hs_ => hs_.elim)); have n2_ := Aside0.mk (blk_below (g := gb1) (o := .cells #[.slice A0_0 l0_0.length c0_0] 24 (0, 0)) (by (with_reducible repeat (first | refine blk_drewN ?_ _ | refine blk_drew ?_ | refine blk_alloc ?_ _)); exact BKgb1.out) hb_); have ns_ := Aside0.mk (Nat.le_trans (Nat.le_trans hs1_ hs2_) (Nat.le_refl _)); have nB_ := Aside0.mk hB_; clear HB HS FA0_0 FA2 BKgb1; have FA0_0 := n0_; have FA2 := n1_; have BKgb1 := n2_; have HB := nB_; have HS := ns_; clear nB_ ns_ n0_ n1_ n2_; clear hk_ hs1_ hs2_ hw_ hB_ hb_; have hczgb1_0 : w3.cell? ⟨gb1, 0, none⟩ = some (.slice A0_0 l0_0.length c0_0) := (blk_cell BKgb1.out 0).trans rfl; have hfzgb1_0 := blk_frozen BKgb1.out 0))
    go_ret
    exact ⟨by first | rfl | (simp; done), by repeat (first | (with_reducible first | exact HB.out | apply below_alloc | apply pw_below_drewN | apply below_drew1 | refine below_set ?_ GEgb1.out | refine below_set ?_ GEgb39.out) | exact HB.out)⟩
  have hg := hg (by omega)
  have hzx4 : decide (x4 < 0) = false := decide_eq_false hz
  clear hz
  obtain ⟨E_, hg⟩ := hg
  obtain ⟨KE7, E_⟩ := E_
  have E7 := Aside0.mk (E_ KE7 (Nat.le_refl _))
  clear E_
  obtain ⟨E_, hg⟩ := hg
  obtain ⟨KE15, E_⟩ := E_
  have E15 := Aside0.mk (E_ KE15 (Nat.le_refl _))
  clear E_
  obtain ⟨x23, hg⟩ := hg
  obtain ⟨x24, hg⟩ := hg
  obtain ⟨E_, hg⟩ := hg
  obtain ⟨KE25, E_⟩ := E_
  have E25 := Aside0.mk (E_ KE25 (Nat.le_refl _))
  clear E_
  obtain ⟨E_, hg⟩ := hg
  obtain ⟨KE49, E_⟩ := E_
  have E49 := Aside0.mk (E_ KE49 (Nat.le_refl _))
  clear E_
  obtain ⟨E_, hg⟩ := hg
  obtain ⟨KE57, E_⟩ := E_
  have E57 := Aside0.mk (E_ KE57 (Nat.le_refl _))
  clear E_
  obtain ⟨E_, hg⟩ := hg
  obtain ⟨KE67, E_⟩ := E_
  have E67 := Aside0.mk (E_ KE67 (Nat.le_refl _))
  clear E_
  obtain ⟨E_, hg⟩ := hg
  obtain ⟨KE76, E_⟩ := E_
  have E76 := Aside0.mk (E_ KE76 (Nat.le_refl _))
  clear E_
  obtain ⟨x78, hg⟩ := hg
  obtain ⟨x79, hg⟩ := hg
  obtain ⟨E_, hg⟩ := hg
  obtain ⟨KE80, E_⟩ := E_
  have E80 := Aside0.mk (E_ KE80 (Nat.le_refl _))
  clear E_
  obtain ⟨hpx78, hg⟩ := hg
  have hnx78 : decide (x78 < 0) = false := decide_eq_false (by omega)
  have hex78 : (x78 != x78) = false := bne_self_eq_false _
  have hdx78 : decide (x78 = x78) = true := decide_eq_true rfl
  clear hpx78
  obtain ⟨x83, hg⟩ := hg
  obtain ⟨x84, hg⟩ := hg
  obtain ⟨E_, hg⟩ := hg
  obtain ⟨KE85, E_⟩ := E_
  have E85 := Aside0.mk (E_ KE85 (Nat.le_refl _))
  clear E_
  obtain ⟨hpx83, hg⟩ := hg
  have hnx83 : decide (x83 < 0) = false := decide_eq_false (by omega)
  have hex83 : (x83 != x83) = false := bne_self_eq_false _
  have hdx83 : decide (x83 = x83) = true := decide_eq_true rfl
  clear hpx83
  obtain ⟨x89, hg⟩ := hg
  obtain ⟨x90, hg⟩ := hg
  obtain ⟨E_, hg⟩ := hg
  obtain ⟨KE91, E_⟩ := E_
  have E91 := Aside0.mk (E_ KE91 (Nat.le_refl _))
  clear E_
  obtain ⟨hpx89, hg⟩ := hg
  have hnx89 : decide (x89 < 0) = false := decide_eq_false (by omega)
  have hex89 : (x89 != x89) = false := bne_self_eq_false _
  have hdx89 : decide (x89 = x89) = true := decide_eq_true rfl
  clear hpx89
  obtain ⟨E_, hg⟩ := hg
  obtain ⟨KE94, E_⟩ := E_
  have E94 := Aside0.mk (E_ KE94 (Nat.le_refl _))
  clear E_
  clear hg
  have hbx24 : (x24 != x24) = false := bne_self_eq_false _
  have hdx24 : (x24 == x24) = true := beq_self_eq_true _
  go_enter Try.func7, Try.ntmps7
  go_wp2_with (first | ((with_reducible refine gate_dst (N := 3) rfl ?_); refine box_event ?hg (N := 3) ?hd (cs := #[.slice A0_0 l0_0.length c0_0]) (t := 24) ?hr ?_; (case hd => rfl); (case hg => rfl); (case hr => first | (go_simp; done) | (go_simp; rfl)); intro gb1 hg_ w2 hbox_ hb_; obtain ⟨hk_, hs1_, hs2_, hw0_⟩ := ev_kept (S := (fun _ => False)) HS.out HB.out hb_ (by repeat (first | (with_reducible first | exact Kept.refl _ _ | apply Kept.alloc | apply Kept.drewN | apply Kept.drew) | exact Kept.refl _ _)); have hw_ : w.heap.size ≤ gb1 := (by rw [hg_]; exact hw0_); have hB_ := below_step (by repeat (first | (with_reducible first | exact HB.out | apply below_alloc | apply pw_below_drewN | apply below_drew1) | exact HB.out)) hb_; have n0_ := Aside0.mk (Kd.F_kept FA0_0.out hk_ (fun _ _ hs_ => hs_.elim)); have n1_ := Aside0.mk (Kd.F_kept FA2.out hk_ (fun _ _ hs_ => hs_.elim)); have hS_ : s0 ≤ gb1 := (by rw [hg_]; exact hs1_); have nb_ := Aside0.mk hbox_; have ns_ := Aside0.mk (box_in hbox_); have nc_ := Aside0.mk (And.intro hS_ CH.out); have ng_ := Aside0.mk hw_; have nB_ := Aside0.mk hB_; clear HB HS CH FA0_0 FA2; have FA0_0 := n0_; have FA2 := n1_; have HB := nB_; have HS := ns_; have CH := nc_; have BKgb1 := nb_; have GEgb1 := ng_; clear nB_ ns_ nc_ nb_ ng_ n0_ n1_; clear hk_ hs1_ hs2_ hw_ hw0_ hB_ hS_ hb_ hbox_ hg_; have hczgb1_0 : w2.cell? ⟨gb1, 0, none⟩ = some (.slice A0_0 l0_0.length c0_0) := (blk_cell BKgb1.out 0).trans rfl; have hfzgb1_0 := blk_frozen BKgb1.out 0) | ((with_reducible refine gate_callee (f := 8) rfl ?_); refine goesL_ (some 24) rfl rfl Try.func8 (by kernel_rfl) rfl #[.agg #[.slice A0_0 l0_0.length c0_0], .int .i64 1048576] rfl (by (try simp only [List.map_toArray, List.map_cons, List.map_nil]); first | done | rfl | (simp only [List.length_drop, List.length_take]; rfl)) ?_; (with_reducible refine (laws_szGraph.calls KE5 _ _ l0_0 1048576 x4 _ ?sidehr0_0 ?sidehc0_0 E5.out).mono ?_); (case sidehr0_0 => exact F_at (S := (fun _ => False)) FA0_0.out (by repeat (first | (with_reducible first | exact Kept.refl _ _ | apply Kept.alloc | apply Kept.drewN | apply Kept.drew) | exact Kept.refl _ _)) (fun _ _ hs_ => hs_.elim)); (case sidehc0_0 => exact HC0_0.out); rintro e w3 ⟨rfl, hb_⟩; refine ⟨_, rfl, ?_⟩; (try clear hczgb1_0); (try clear hfzgb1_0); obtain ⟨hk_, hs1_, hs2_, hw_⟩ := ev_kept (S := (fun _ => False)) HS.out HB.out hb_ (by repeat (first | (with_reducible first | exact Kept.refl _ _ | apply Kept.alloc | apply Kept.drewN | apply Kept.drew) | exact Kept.refl _ _)); have hB_ := below_step (by repeat (first | (with_reducible first | exact HB.out | apply below_alloc | apply pw_below_drewN | apply below_drew1 | refine below_set ?_ GEgb1.out) | exact HB.out)) hb_; have n0_ := Aside0.mk (Kd.F_kept FA0_0.out hk_ (fun _ _ hs_ => hs_.elim)); have n1_ := Aside0.mk (Kd.F_kept FA2.out hk_ (fun _ _ hs_ => hs_.elim)); have n2_ := Aside0.mk (blk_below (g := gb1) (o := .cells #[.slice A0_0 l0_0.length c0_0] 24 (0, 0)) (by (with_reducible repeat (first | refine blk_drewN ?_ _ | refine blk_drew ?_ | refine blk_alloc ?_ _)); exact BKgb1.out) hb_); have ns_ := Aside0.mk (Nat.le_trans (Nat.le_trans hs1_ hs2_) (Nat.le_refl _)); have nB_ := Aside0.mk hB_; clear HB HS FA0_0 FA2 BKgb1; have FA0_0 := n0_; have FA2 := n1_; have BKgb1 := n2_; have HB := nB_; have HS := ns_; clear nB_ ns_ n0_ n1_ n2_; clear hk_ hs1_ hs2_ hw_ hB_ hb_; have hczgb1_0 : w3.cell? ⟨gb1, 0, none⟩ = some (.slice A0_0 l0_0.length c0_0) := (blk_cell BKgb1.out 0).trans rfl; have hfzgb1_0 := blk_frozen BKgb1.out 0) | ((with_reducible refine gate_callee (f := 11) rfl ?_); refine goesL_ (some 29) rfl rfl Try.func11 (by kernel_rfl) rfl #[.agg #[.slice A0_0 l0_0.length c0_0]] rfl (by (try simp only [List.map_toArray, List.map_cons, List.map_nil]); first | done | rfl | (simp only [List.length_drop, List.length_take]; rfl)) ?_; (with_reducible refine (laws_toGraph.calls KE7 _ _ l0_0 l0_0 _ ?sidehr0_0 ?sidehc0_0 E7.out).mono ?_); (case sidehr0_0 => exact F_at (S := (fun _ => False)) FA0_0.out (by repeat (first | (with_reducible first | exact Kept.refl _ _ | apply Kept.alloc | apply Kept.drewN | apply Kept.drew) | exact Kept.refl _ _)) (fun _ _ hs_ => hs_.elim)); (case sidehc0_0 => exact HC0_0.out); rintro e w6 ⟨v8, rfl, hov0__, hb_⟩; refine ⟨_, rfl, ?_⟩; (try clear hczgb1_0); (try clear hfzgb1_0); obtain ⟨hk_, hs1_, hs2_, hw_⟩ := ev_kept (S := (fun _ => False)) HS.out HB.out hb_ (by repeat (first | (with_reducible first | exact Kept.refl _ _ | apply Kept.alloc | apply Kept.drewN | apply Kept.drew) | exact Kept.refl _ _)); have hB_ := below_step (by repeat (first | (with_reducible first | exact HB.out | apply below_alloc | apply pw_below_drewN | apply below_drew1 | refine below_set ?_ GEgb1.out) | exact HB.out)) hb_; have n0_ := Aside0.mk (Kd.F_kept FA0_0.out hk_ (fun _ _ hs_ => hs_.elim)); have n1_ := Aside0.mk (Kd.F_kept FA2.out hk_ (fun _ _ hs_ => hs_.elim)); have n2_ := Aside0.mk (blk_below (g := gb1) (o := .cells #[.slice A0_0 l0_0.length c0_0] 24 (0, 0)) (by (with_reducible repeat (first | refine blk_drewN ?_ _ | refine blk_drew ?_ | refine blk_alloc ?_ _)); exact BKgb1.out) hb_); have ns_ := Aside0.mk (Nat.le_trans (Nat.le_trans hs1_ hs2_) (Nat.le_refl _)); have nB_ := Aside0.mk hB_; obtain ⟨lo9, hi10, c1_, c2_, c3_, h_⟩ := S_new hov0__ hs2_ hw_ hs1_; have HS11 := Aside0.mk h_; obtain ⟨Ao12, co13, eo_⟩ := Kd.S_slice HS11.out; subst eo_; have HCHS11 := Aside0.mk (Kd.S_reads' HS11.out).2.1; clear h_ hov0__; have nc_ := Aside0.mk (And.intro c1_ (And.intro c2_ CH.out)); clear CH ns_; have CH := nc_; have ns_ := Aside0.mk c3_; clear nc_ c1_ c2_ c3_; clear HB HS FA0_0 FA2 BKgb1; have FA0_0 := n0_; have FA2 := n1_; have BKgb1 := n2_; have HB := nB_; have HS := ns_; clear nB_ ns_ n0_ n1_ n2_; clear hk_ hs1_ hs2_ hw_ hB_ hb_; have hczgb1_0 : w6.cell? ⟨gb1, 0, none⟩ = some (.slice A0_0 l0_0.length c0_0) := (blk_cell BKgb1.out 0).trans rfl; have hfzgb1_0 := blk_frozen BKgb1.out 0) | ((with_reducible refine gate_callee (f := 17) rfl ?_); refine goesL_ (some 32) rfl rfl Try.func17 (by kernel_rfl) rfl #[.slice A2 l2.length c2] rfl (by (try simp only [List.map_toArray, List.map_cons, List.map_nil]); first | done | rfl | (simp only [List.length_drop, List.length_take]; rfl)) ?_; (with_reducible refine (laws_toIntS.calls KE15 _ _ l2 l2 _ ?sidehr0 ?sidehc0 E15.out).mono ?_); (case sidehr0 => exact F_at (S := (fun _ => False)) FA2.out (by repeat (first | (with_reducible first | exact Kept.refl _ _ | apply Kept.alloc | apply Kept.drewN | apply Kept.drew) | exact Kept.refl _ _)) (fun _ _ hs_ => hs_.elim)); (case sidehc0 => exact HC2.out); rintro e w14 ⟨v16, rfl, hov0__, hb_⟩; refine ⟨_, rfl, ?_⟩; (try clear hczgb1_0); (try clear hfzgb1_0); obtain ⟨hk_, hs1_, hs2_, hw_⟩ := ev_kept (S := (fun _ => False)) HS.out HB.out hb_ (by repeat (first | (with_reducible first | exact Kept.refl _ _ | apply Kept.alloc | apply Kept.drewN | apply Kept.drew) | exact Kept.refl _ _)); have hB_ := below_step (by repeat (first | (with_reducible first | exact HB.out | apply below_alloc | apply pw_below_drewN | apply below_drew1 | refine below_set ?_ GEgb1.out) | exact HB.out)) hb_; have n0_ := Aside0.mk (Kd.F_kept FA0_0.out hk_ (fun _ _ hs_ => hs_.elim)); have n1_ := Aside0.mk (Kd.F_kept FA2.out hk_ (fun _ _ hs_ => hs_.elim)); have n2_ := Aside0.mk (blk_below (g := gb1) (o := .cells #[.slice A0_0 l0_0.length c0_0] 24 (0, 0)) (by (with_reducible repeat (first | refine blk_drewN ?_ _ | refine blk_drew ?_ | refine blk_alloc ?_ _)); exact BKgb1.out) hb_); have n3_ := Aside0.mk (Kd.S_kept HS11.out hk_ (fun _ _ hs_ => hs_.elim)); have ns_ := Aside0.mk (Nat.le_trans (Nat.le_trans hs1_ hs2_) (Nat.le_refl _)); have nB_ := Aside0.mk hB_; obtain ⟨lo17, hi18, c1_, c2_, c3_, h_⟩ := R_new hov0__ hs2_ hw_ hs1_; have HR19 := Aside0.mk h_; obtain ⟨Ao20, co21, eo_⟩ := Kd.R_slice HR19.out; subst eo_; have HCHR19 := Aside0.mk (Kd.R_reads' HR19.out).2.1; clear h_ hov0__; have nc_ := Aside0.mk (And.intro c1_ (And.intro c2_ CH.out)); clear CH ns_; have CH := nc_; have ns_ := Aside0.mk c3_; clear nc_ c1_ c2_ c3_; clear HB HS FA0_0 FA2 BKgb1 HS11; have FA0_0 := n0_; have FA2 := n1_; have BKgb1 := n2_; have HS11 := n3_; have HB := nB_; have HS := ns_; clear nB_ ns_ n0_ n1_ n2_ n3_; clear hk_ hs1_ hs2_ hw_ hB_ hb_; have hczgb1_0 : w14.cell? ⟨gb1, 0, none⟩ = some (.slice A0_0 l0_0.length c0_0) := (blk_cell BKgb1.out 0).trans rfl; have hfzgb1_0 := blk_frozen BKgb1.out 0) | ((with_reducible refine gate_callee (f := 27) rfl ?_); refine goesL_ (some 33) rfl rfl Try.func27 (by kernel_rfl) rfl #[.agg #[.slice Ao12 l0_0.length co13], .int .i64 a1, .slice Ao20 l2.length co21] rfl (by (try simp only [List.map_toArray, List.map_cons, List.map_nil]); first | done | rfl | (simp only [List.length_drop, List.length_take]; rfl)) ?_; (with_reducible refine (spec_TopplesOf.calls KE25 _ _ l0_0 a1 _ _ l2 x23 x24 _ ?sidehr0_0 ?sidehc0_0 ?sidehr2 ?sidehc2 E25.out).mono ?_); (case sidehr0_0 => exact S_now (S := (fun _ => False)) HS11.out (by repeat (first | (with_reducible first | exact Kept.refl _ _ | apply Kept.alloc | apply Kept.drewN | apply Kept.drew) | exact Kept.refl _ _)) (fun _ _ hs_ => hs_.elim)); (case sidehc0_0 => exact HCHS11.out); (case sidehr2 => exact R_now (S := (fun _ => False)) HR19.out (by repeat (first | (with_reducible first | exact Kept.refl _ _ | apply Kept.alloc | apply Kept.drewN | apply Kept.drew) | exact Kept.refl _ _)) (fun _ _ hs_ => hs_.elim)); (case sidehc2 => exact HCHR19.out); rintro e w22 ⟨v26, rfl, hov0__, hb_⟩; refine ⟨_, rfl, ?_⟩; (try clear hczgb1_0); (try clear hfzgb1_0); obtain ⟨hk_, hs1_, hs2_, hw_⟩ := ev_kept (S := (fun _ => False)) HS.out HB.out hb_ (by repeat (first | (with_reducible first | exact Kept.refl _ _ | apply Kept.alloc | apply Kept.drewN | apply Kept.drew) | exact Kept.refl _ _)); have hB_ := below_step (by repeat (first | (with_reducible first | exact HB.out | apply below_alloc | apply pw_below_drewN | apply below_drew1 | refine below_set ?_ GEgb1.out) | exact HB.out)) hb_; have n0_ := Aside0.mk (Kd.F_kept FA0_0.out hk_ (fun _ _ hs_ => hs_.elim)); have n1_ := Aside0.mk (Kd.F_kept FA2.out hk_ (fun _ _ hs_ => hs_.elim)); have n2_ := Aside0.mk (blk_below (g := gb1) (o := .cells #[.slice A0_0 l0_0.length c0_0] 24 (0, 0)) (by (with_reducible repeat (first | refine blk_drewN ?_ _ | refine blk_drew ?_ | refine blk_alloc ?_ _)); exact BKgb1.out) hb_); have n3_ := Aside0.mk (Kd.S_kept HS11.out hk_ (fun _ _ hs_ => hs_.elim)); have n4_ := Aside0.mk (Kd.R_kept HR19.out hk_ (fun _ _ hs_ => hs_.elim)); have ns_ := Aside0.mk (Nat.le_trans (Nat.le_trans hs1_ hs2_) (Nat.le_refl _)); have nB_ := Aside0.mk hB_; obtain ⟨lo27, hi28, c1_, c2_, c3_, h_⟩ := R_new hov0__ hs2_ hw_ hs1_; have HR29 := Aside0.mk h_; obtain ⟨Ao30, co31, eo_⟩ := Kd.R_slice HR29.out; subst eo_; have HCHR29 := Aside0.mk (Kd.R_reads' HR29.out).2.1; clear h_ hov0__; have nc_ := Aside0.mk (And.intro c1_ (And.intro c2_ CH.out)); clear CH ns_; have CH := nc_; have ns_ := Aside0.mk c3_; clear nc_ c1_ c2_ c3_; clear HB HS FA0_0 FA2 BKgb1 HS11 HR19; have FA0_0 := n0_; have FA2 := n1_; have BKgb1 := n2_; have HS11 := n3_; have HR19 := n4_; have HB := nB_; have HS := ns_; clear nB_ ns_ n0_ n1_ n2_ n3_ n4_; clear hk_ hs1_ hs2_ hw_ hB_ hb_; have hczgb1_0 : w22.cell? ⟨gb1, 0, none⟩ = some (.slice A0_0 l0_0.length c0_0) := (blk_cell BKgb1.out 0).trans rfl; have hfzgb1_0 := blk_frozen BKgb1.out 0) | ((with_reducible refine gate_callee (f := 11) rfl ?_); refine goesL_ (some 37) rfl rfl Try.func11 (by kernel_rfl) rfl #[.agg #[.slice A0_0 l0_0.length c0_0]] rfl (by (try simp only [List.map_toArray, List.map_cons, List.map_nil]); first | done | rfl | (simp only [List.length_drop, List.length_take]; rfl)) ?_; (with_reducible refine (laws_toGraph.calls KE7 _ _ l0_0 l0_0 _ ?sidehr0_0 ?sidehc0_0 E7.out).mono ?_); (case sidehr0_0 => exact F_at (S := (fun _ => False)) FA0_0.out (by repeat (first | (with_reducible first | exact Kept.refl _ _ | apply Kept.alloc | apply Kept.drewN | apply Kept.drew) | exact Kept.refl _ _)) (fun _ _ hs_ => hs_.elim)); (case sidehc0_0 => exact HC0_0.out); rintro e w32 ⟨v33, rfl, hov0__, hb_⟩; refine ⟨_, rfl, ?_⟩; (try clear hczgb1_0); (try clear hfzgb1_0); obtain ⟨hk_, hs1_, hs2_, hw_⟩ := ev_kept (S := (fun _ => False)) HS.out HB.out hb_ (by repeat (first | (with_reducible first | exact Kept.refl _ _ | apply Kept.alloc | apply Kept.drewN | apply Kept.drew) | exact Kept.refl _ _)); have hB_ := below_step (by repeat (first | (with_reducible first | exact HB.out | apply below_alloc | apply pw_below_drewN | apply below_drew1 | refine below_set ?_ GEgb1.out) | exact HB.out)) hb_; have n0_ := Aside0.mk (Kd.F_kept FA0_0.out hk_ (fun _ _ hs_ => hs_.elim)); have n1_ := Aside0.mk (Kd.F_kept FA2.out hk_ (fun _ _ hs_ => hs_.elim)); have n2_ := Aside0.mk (blk_below (g := gb1) (o := .cells #[.slice A0_0 l0_0.length c0_0] 24 (0, 0)) (by (with_reducible repeat (first | refine blk_drewN ?_ _ | refine blk_drew ?_ | refine blk_alloc ?_ _)); exact BKgb1.out) hb_); have n3_ := Aside0.mk (Kd.S_kept HS11.out hk_ (fun _ _ hs_ => hs_.elim)); have n4_ := Aside0.mk (Kd.R_kept HR19.out hk_ (fun _ _ hs_ => hs_.elim)); have n5_ := Aside0.mk (Kd.R_kept HR29.out hk_ (fun _ _ hs_ => hs_.elim)); have ns_ := Aside0.mk (Nat.le_trans (Nat.le_trans hs1_ hs2_) (Nat.le_refl _)); have nB_ := Aside0.mk hB_; obtain ⟨lo34, hi35, c1_, c2_, c3_, h_⟩ := S_new hov0__ hs2_ hw_ hs1_; have HS36 := Aside0.mk h_; obtain ⟨Ao37, co38, eo_⟩ := Kd.S_slice HS36.out; subst eo_; have HCHS36 := Aside0.mk (Kd.S_reads' HS36.out).2.1; clear h_ hov0__; have nc_ := Aside0.mk (And.intro c1_ (And.intro c2_ CH.out)); clear CH ns_; have CH := nc_; have ns_ := Aside0.mk c3_; clear nc_ c1_ c2_ c3_; clear HB HS FA0_0 FA2 BKgb1 HS11 HR19 HR29; have FA0_0 := n0_; have FA2 := n1_; have BKgb1 := n2_; have HS11 := n3_; have HR19 := n4_; have HR29 := n5_; have HB := nB_; have HS := ns_; clear nB_ ns_ n0_ n1_ n2_ n3_ n4_ n5_; clear hk_ hs1_ hs2_ hw_ hB_ hb_; have hczgb1_0 : w32.cell? ⟨gb1, 0, none⟩ = some (.slice A0_0 l0_0.length c0_0) := (blk_cell BKgb1.out 0).trans rfl; have hfzgb1_0 := blk_frozen BKgb1.out 0) | ((with_reducible refine gate_dst (N := 10) rfl ?_); refine box_event ?hg (N := 10) ?hd (cs := #[.slice none 0 0]) (t := 32) ?hr ?_; (case hd => rfl); (case hg => rfl); (case hr => first | (go_simp; done) | (go_simp; rfl)); intro gb39 hg_ w40 hbox_ hb_; (try clear hczgb1_0); (try clear hfzgb1_0); obtain ⟨hk_, hs1_, hs2_, hw0_⟩ := ev_kept (S := (fun _ => False)) HS.out HB.out hb_ (by repeat (first | (with_reducible first | exact Kept.refl _ _ | apply Kept.alloc | apply Kept.drewN | apply Kept.drew) | exact Kept.refl _ _)); have hw_ : w.heap.size ≤ gb39 := (by rw [hg_]; exact hw0_); have hB_ := below_step (by repeat (first | (with_reducible first | exact HB.out | apply below_alloc | apply pw_below_drewN | apply below_drew1 | refine below_set ?_ GEgb1.out) | exact HB.out)) hb_; have n0_ := Aside0.mk (Kd.F_kept FA0_0.out hk_ (fun _ _ hs_ => hs_.elim)); have n1_ := Aside0.mk (Kd.F_kept FA2.out hk_ (fun _ _ hs_ => hs_.elim)); have n2_ := Aside0.mk (blk_below (g := gb1) (o := .cells #[.slice A0_0 l0_0.length c0_0] 24 (0, 0)) (by (with_reducible repeat (first | refine blk_drewN ?_ _ | refine blk_drew ?_ | refine blk_alloc ?_ _)); exact BKgb1.out) hb_); have n3_ := Aside0.mk (Kd.S_kept HS11.out hk_ (fun _ _ hs_ => hs_.elim)); have n4_ := Aside0.mk (Kd.R_kept HR19.out hk_ (fun _ _ hs_ => hs_.elim)); have n5_ := Aside0.mk (Kd.R_kept HR29.out hk_ (fun _ _ hs_ => hs_.elim)); have n6_ := Aside0.mk (Kd.S_kept HS36.out hk_ (fun _ _ hs_ => hs_.elim)); have hS_ : hi35 ≤ gb39 := (by rw [hg_]; exact hs1_); have nb_ := Aside0.mk hbox_; have ns_ := Aside0.mk (box_in hbox_); have nc_ := Aside0.mk (And.intro hS_ CH.out); have ng_ := Aside0.mk hw_; have nB_ := Aside0.mk hB_; clear HB HS CH FA0_0 FA2 BKgb1 HS11 HR19 HR29 HS36; have FA0_0 := n0_; have FA2 := n1_; have BKgb1 := n2_; have HS11 := n3_; have HR19 := n4_; have HR29 := n5_; have HS36 := n6_; have HB := nB_; have HS := ns_; have CH := nc_; have BKgb39 := nb_; have GEgb39 := ng_; clear nB_ ns_ nc_ nb_ ng_ n0_ n1_ n2_ n3_ n4_ n5_ n6_; clear hk_ hs1_ hs2_ hw_ hw0_ hB_ hS_ hb_ hbox_ hg_; have hczgb1_0 : w40.cell? ⟨gb1, 0, none⟩ = some (.slice A0_0 l0_0.length c0_0) := (blk_cell BKgb1.out 0).trans rfl; have hfzgb1_0 := blk_frozen BKgb1.out 0; have hczgb39_0 : w40.cell? ⟨gb39, 0, none⟩ = some (.slice none 0 0) := (blk_cell BKgb39.out 0).trans rfl; have hfzgb39_0 := blk_frozen BKgb39.out 0; have hnbgb1gb39 : gb1 ≠ gb39 := (by have := CH.out; omega); have hnbgb39gb1 : gb39 ≠ gb1 := (by have := CH.out; omega)) | ((with_reducible refine gate_callee (f := 17) rfl ?_); refine goesL_ (some 39) rfl rfl Try.func17 (by kernel_rfl) rfl #[.slice A2 l2.length c2] rfl (by (try simp only [List.map_toArray, List.map_cons, List.map_nil]); first | done | rfl | (simp only [List.length_drop, List.length_take]; rfl)) ?_; (with_reducible refine (laws_toIntS.calls KE15 _ _ l2 l2 _ ?sidehr0 ?sidehc0 E15.out).mono ?_); (case sidehr0 => exact F_at (S := (fun k_ => k_ = gb39)) FA2.out (by repeat (first | (with_reducible first | exact Kept.refl _ _ | apply Kept.alloc | apply Kept.drewN | apply Kept.drew) | refine Kept.setCell ?_ (Or.inl (show gb39 = gb39 from rfl)) _ | exact Kept.refl _ _)) (fun k_ h_ hs_ => by have h1_ : k_ < s0 := h_; have g1_ : k_ = gb39 := hs_; have := CH.out; omega)); (case sidehc0 => exact HC2.out); rintro e w41 ⟨v42, rfl, hov0__, hb_⟩; refine ⟨_, rfl, ?_⟩; (try clear hczgb1_0); (try clear hfzgb1_0); (try clear hczgb39_0); (try clear hfzgb39_0); obtain ⟨hk_, hs1_, hs2_, hw_⟩ := ev_kept (S := (fun k_ => k_ = gb39)) HS.out HB.out hb_ (by repeat (first | (with_reducible first | exact Kept.refl _ _ | apply Kept.alloc | apply Kept.drewN | apply Kept.drew) | refine Kept.setCell ?_ (Or.inl (show gb39 = gb39 from rfl)) _ | exact Kept.refl _ _)); have hB_ := below_step (by repeat (first | (with_reducible first | exact HB.out | apply below_alloc | apply pw_below_drewN | apply below_drew1 | refine below_set ?_ GEgb1.out | refine below_set ?_ GEgb39.out) | exact HB.out)) hb_; have n0_ := Aside0.mk (Kd.F_kept FA0_0.out hk_ (fun k_ h_ hs_ => by have h1_ : k_ < s0 := h_; have g1_ : k_ = gb39 := hs_; have := CH.out; omega)); have n1_ := Aside0.mk (Kd.F_kept FA2.out hk_ (fun k_ h_ hs_ => by have h1_ : k_ < s0 := h_; have g1_ : k_ = gb39 := hs_; have := CH.out; omega)); have n2_ := Aside0.mk (blk_below (g := gb1) (o := .cells #[.slice A0_0 l0_0.length c0_0] 24 (0, 0)) (by (with_reducible repeat (first | refine blk_drewN ?_ _ | refine blk_drew ?_ | refine blk_alloc ?_ _)); refine blk_far ?_ (by have := CH.out; omega) _; (with_reducible repeat (first | refine blk_drewN ?_ _ | refine blk_drew ?_ | refine blk_alloc ?_ _)); exact BKgb1.out) hb_); have n3_ := Aside0.mk (Kd.S_kept HS11.out hk_ (fun k_ h_ hs_ => by obtain ⟨h1_, h2_⟩ := h_; have g1_ : k_ = gb39 := hs_; have := CH.out; omega)); have n4_ := Aside0.mk (Kd.R_kept HR19.out hk_ (fun k_ h_ hs_ => by obtain ⟨h1_, h2_⟩ := h_; have g1_ : k_ = gb39 := hs_; have := CH.out; omega)); have n5_ := Aside0.mk (Kd.R_kept HR29.out hk_ (fun k_ h_ hs_ => by obtain ⟨h1_, h2_⟩ := h_; have g1_ : k_ = gb39 := hs_; have := CH.out; omega)); have n6_ := Aside0.mk (Kd.S_kept HS36.out hk_ (fun k_ h_ hs_ => by obtain ⟨h1_, h2_⟩ := h_; have g1_ : k_ = gb39 := hs_; have := CH.out; omega)); have n7_ := Aside0.mk (blk_below (g := gb39) (o := .cells #[.slice Ao37 l0_0.length co38] 32 (0, 0)) (by (with_reducible repeat (first | refine blk_drewN ?_ _ | refine blk_drew ?_ | refine blk_alloc ?_ _)); refine blk_put (cs := #[.slice none 0 0]) ?_ 0 _ rfl; (with_reducible repeat (first | refine blk_drewN ?_ _ | refine blk_drew ?_ | refine blk_alloc ?_ _)); exact BKgb39.out) hb_); have ns_ := Aside0.mk (Nat.le_trans (Nat.le_trans hs1_ hs2_) (Nat.le_refl _)); have nB_ := Aside0.mk hB_; obtain ⟨lo43, hi44, c1_, c2_, c3_, h_⟩ := R_new hov0__ hs2_ hw_ hs1_; have HR45 := Aside0.mk h_; obtain ⟨Ao46, co47, eo_⟩ := Kd.R_slice HR45.out; subst eo_; have HCHR45 := Aside0.mk (Kd.R_reads' HR45.out).2.1; clear h_ hov0__; have nc_ := Aside0.mk (And.intro c1_ (And.intro c2_ CH.out)); clear CH ns_; have CH := nc_; have ns_ := Aside0.mk c3_; clear nc_ c1_ c2_ c3_; clear HB HS FA0_0 FA2 BKgb1 HS11 HR19 HR29 HS36 BKgb39; have FA0_0 := n0_; have FA2 := n1_; have BKgb1 := n2_; have HS11 := n3_; have HR19 := n4_; have HR29 := n5_; have HS36 := n6_; have BKgb39 := n7_; have HB := nB_; have HS := ns_; clear nB_ ns_ n0_ n1_ n2_ n3_ n4_ n5_ n6_ n7_; clear hk_ hs1_ hs2_ hw_ hB_ hb_; have hczgb1_0 : w41.cell? ⟨gb1, 0, none⟩ = some (.slice A0_0 l0_0.length c0_0) := (blk_cell BKgb1.out 0).trans rfl; have hfzgb1_0 := blk_frozen BKgb1.out 0; have hczgb39_0 : w41.cell? ⟨gb39, 0, none⟩ = some (.slice Ao37 l0_0.length co38) := (blk_cell BKgb39.out 0).trans rfl; have hfzgb39_0 := blk_frozen BKgb39.out 0; have hnbgb1gb39 : gb1 ≠ gb39 := (by have := CH.out; omega); have hnbgb39gb1 : gb39 ≠ gb1 := (by have := CH.out; omega)) | ((with_reducible refine gate_callee (f := 28) rfl ?_); refine goesL_ (some 44) rfl rfl Try.func28 (by kernel_rfl) rfl #[.agg #[.slice Ao37 l0_0.length co38], .int .i64 a1, .slice Ao46 l2.length co47] rfl (by (try simp only [List.map_toArray, List.map_cons, List.map_nil]); first | done | rfl | (simp only [List.length_drop, List.length_take]; rfl)) ?_; (with_reducible refine (impl_TopplesOf.calls KE49 _ _ l0_0 a1 _ _ l2 x23 x24 _ ?sidehr0_0 ?sidehc0_0 ?sidehr2 ?sidehc2 E49.out).mono ?_); (case sidehr0_0 => exact S_now (S := (fun _ => False)) HS36.out (by repeat (first | (with_reducible first | exact Kept.refl _ _ | apply Kept.alloc | apply Kept.drewN | apply Kept.drew) | exact Kept.refl _ _)) (fun _ _ hs_ => hs_.elim)); (case sidehc0_0 => exact HCHS36.out); (case sidehr2 => exact R_now (S := (fun _ => False)) HR45.out (by repeat (first | (with_reducible first | exact Kept.refl _ _ | apply Kept.alloc | apply Kept.drewN | apply Kept.drew) | exact Kept.refl _ _)) (fun _ _ hs_ => hs_.elim)); (case sidehc2 => exact HCHR45.out); rintro e w48 ⟨v50, rfl, hov0__, hb_⟩; refine ⟨_, rfl, ?_⟩; (try clear hczgb1_0); (try clear hfzgb1_0); (try clear hczgb39_0); (try clear hfzgb39_0); obtain ⟨hk_, hs1_, hs2_, hw_⟩ := ev_kept (S := (fun _ => False)) HS.out HB.out hb_ (by repeat (first | (with_reducible first | exact Kept.refl _ _ | apply Kept.alloc | apply Kept.drewN | apply Kept.drew) | exact Kept.refl _ _)); have hB_ := below_step (by repeat (first | (with_reducible first | exact HB.out | apply below_alloc | apply pw_below_drewN | apply below_drew1 | refine below_set ?_ GEgb1.out | refine below_set ?_ GEgb39.out) | exact HB.out)) hb_; have n0_ := Aside0.mk (Kd.F_kept FA0_0.out hk_ (fun _ _ hs_ => hs_.elim)); have n1_ := Aside0.mk (Kd.F_kept FA2.out hk_ (fun _ _ hs_ => hs_.elim)); have n2_ := Aside0.mk (blk_below (g := gb1) (o := .cells #[.slice A0_0 l0_0.length c0_0] 24 (0, 0)) (by (with_reducible repeat (first | refine blk_drewN ?_ _ | refine blk_drew ?_ | refine blk_alloc ?_ _)); exact BKgb1.out) hb_); have n3_ := Aside0.mk (Kd.S_kept HS11.out hk_ (fun _ _ hs_ => hs_.elim)); have n4_ := Aside0.mk (Kd.R_kept HR19.out hk_ (fun _ _ hs_ => hs_.elim)); have n5_ := Aside0.mk (Kd.R_kept HR29.out hk_ (fun _ _ hs_ => hs_.elim)); have n6_ := Aside0.mk (Kd.S_kept HS36.out hk_ (fun _ _ hs_ => hs_.elim)); have n7_ := Aside0.mk (blk_below (g := gb39) (o := .cells #[.slice Ao37 l0_0.length co38] 32 (0, 0)) (by (with_reducible repeat (first | refine blk_drewN ?_ _ | refine blk_drew ?_ | refine blk_alloc ?_ _)); exact BKgb39.out) hb_); have n8_ := Aside0.mk (Kd.R_kept HR45.out hk_ (fun _ _ hs_ => hs_.elim)); have ns_ := Aside0.mk (Nat.le_trans (Nat.le_trans hs1_ hs2_) (Nat.le_refl _)); have nB_ := Aside0.mk hB_; obtain ⟨lo51, hi52, c1_, c2_, c3_, h_⟩ := R_new hov0__ hs2_ hw_ hs1_; have HR53 := Aside0.mk h_; obtain ⟨Ao54, co55, eo_⟩ := Kd.R_slice HR53.out; subst eo_; have HCHR53 := Aside0.mk (Kd.R_reads' HR53.out).2.1; clear h_ hov0__; have nc_ := Aside0.mk (And.intro c1_ (And.intro c2_ CH.out)); clear CH ns_; have CH := nc_; have ns_ := Aside0.mk c3_; clear nc_ c1_ c2_ c3_; clear HB HS FA0_0 FA2 BKgb1 HS11 HR19 HR29 HS36 BKgb39 HR45; have FA0_0 := n0_; have FA2 := n1_; have BKgb1 := n2_; have HS11 := n3_; have HR19 := n4_; have HR29 := n5_; have HS36 := n6_; have BKgb39 := n7_; have HR45 := n8_; have HB := nB_; have HS := ns_; clear nB_ ns_ n0_ n1_ n2_ n3_ n4_ n5_ n6_ n7_ n8_; clear hk_ hs1_ hs2_ hw_ hB_ hb_; have hczgb1_0 : w48.cell? ⟨gb1, 0, none⟩ = some (.slice A0_0 l0_0.length c0_0) := (blk_cell BKgb1.out 0).trans rfl; have hfzgb1_0 := blk_frozen BKgb1.out 0; have hczgb39_0 : w48.cell? ⟨gb39, 0, none⟩ = some (.slice Ao37 l0_0.length co38) := (blk_cell BKgb39.out 0).trans rfl; have hfzgb39_0 := blk_frozen BKgb39.out 0; have hnbgb1gb39 : gb1 ≠ gb39 := (by have := CH.out; omega); have hnbgb39gb1 : gb39 ≠ gb1 := (by have := CH.out; omega)) | ((with_reducible refine gate_callee (f := 19) rfl ?_); refine goesL_ (some 49) rfl rfl Try.func19 (by kernel_rfl) rfl #[.slice Ao54 x23.length co55, .slice Ao30 x23.length co31] rfl (by (try simp only [List.map_toArray, List.map_cons, List.map_nil]); first | done | rfl | (simp only [List.length_drop, List.length_take]; rfl)) ?_; (with_reducible refine (laws_eqIntS.calls KE57 _ _ x23 _ _ x23 true _ ?sidehr0 ?sidehc0 ?sidehr1 ?sidehc1 E57.out).mono ?_); (case sidehr0 => exact R_now (S := (fun _ => False)) HR53.out (by repeat (first | (with_reducible first | exact Kept.refl _ _ | apply Kept.alloc | apply Kept.drewN | apply Kept.drew) | exact Kept.refl _ _)) (fun _ _ hs_ => hs_.elim)); (case sidehc0 => exact HCHR53.out); (case sidehr1 => exact R_now (S := (fun _ => False)) HR29.out (by repeat (first | (with_reducible first | exact Kept.refl _ _ | apply Kept.alloc | apply Kept.drewN | apply Kept.drew) | exact Kept.refl _ _)) (fun _ _ hs_ => hs_.elim)); (case sidehc1 => exact HCHR29.out); rintro e w56 ⟨rfl, hd_⟩; refine ⟨_, rfl, ?_⟩; have hb_ := hd_.below; (try clear hczgb1_0); (try clear hfzgb1_0); (try clear hczgb39_0); (try clear hfzgb39_0); obtain ⟨hk_, hs1_, hs2_, hw_⟩ := ev_kept (S := (fun _ => False)) HS.out HB.out hb_ (by repeat (first | (with_reducible first | exact Kept.refl _ _ | apply Kept.alloc | apply Kept.drewN | apply Kept.drew) | exact Kept.refl _ _)); have hB_ := below_step (by repeat (first | (with_reducible first | exact HB.out | apply below_alloc | apply pw_below_drewN | apply below_drew1 | refine below_set ?_ GEgb1.out | refine below_set ?_ GEgb39.out) | exact HB.out)) hb_; have n0_ := Aside0.mk (Kd.F_kept FA0_0.out hk_ (fun _ _ hs_ => hs_.elim)); have n1_ := Aside0.mk (Kd.F_kept FA2.out hk_ (fun _ _ hs_ => hs_.elim)); have n2_ := Aside0.mk (blk_below (g := gb1) (o := .cells #[.slice A0_0 l0_0.length c0_0] 24 (0, 0)) (by (with_reducible repeat (first | refine blk_drewN ?_ _ | refine blk_drew ?_ | refine blk_alloc ?_ _)); exact BKgb1.out) hb_); have n3_ := Aside0.mk (Kd.S_kept HS11.out hk_ (fun _ _ hs_ => hs_.elim)); have n4_ := Aside0.mk (Kd.R_kept HR19.out hk_ (fun _ _ hs_ => hs_.elim)); have n5_ := Aside0.mk (Kd.R_kept HR29.out hk_ (fun _ _ hs_ => hs_.elim)); have n6_ := Aside0.mk (Kd.S_kept HS36.out hk_ (fun _ _ hs_ => hs_.elim)); have n7_ := Aside0.mk (blk_below (g := gb39) (o := .cells #[.slice Ao37 l0_0.length co38] 32 (0, 0)) (by (with_reducible repeat (first | refine blk_drewN ?_ _ | refine blk_drew ?_ | refine blk_alloc ?_ _)); exact BKgb39.out) hb_); have n8_ := Aside0.mk (Kd.R_kept HR45.out hk_ (fun _ _ hs_ => hs_.elim)); have n9_ := Aside0.mk (Kd.R_kept HR53.out hk_ (fun _ _ hs_ => hs_.elim)); have ns_ := Aside0.mk (Nat.le_trans (Nat.le_trans hs1_ hs2_) (Nat.le_refl _)); have nB_ := Aside0.mk hB_; clear HB HS FA0_0 FA2 BKgb1 HS11 HR19 HR29 HS36 BKgb39 HR45 HR53; have FA0_0 := n0_; have FA2 := n1_; have BKgb1 := n2_; have HS11 := n3_; have HR19 := n4_; have HR29 := n5_; have HS36 := n6_; have BKgb39 := n7_; have HR45 := n8_; have HR53 := n9_; have HB := nB_; have HS := ns_; clear nB_ ns_ n0_ n1_ n2_ n3_ n4_ n5_ n6_ n7_ n8_ n9_; clear hk_ hs1_ hs2_ hw_ hB_ hb_; clear hd_; have hczgb1_0 : w56.cell? ⟨gb1, 0, none⟩ = some (.slice A0_0 l0_0.length c0_0) := (blk_cell BKgb1.out 0).trans rfl; have hfzgb1_0 := blk_frozen BKgb1.out 0; have hczgb39_0 : w56.cell? ⟨gb39, 0, none⟩ = some (.slice Ao37 l0_0.length co38) := (blk_cell BKgb39.out 0).trans rfl; have hfzgb39_0 := blk_frozen BKgb39.out 0; have hnbgb1gb39 : gb1 ≠ gb39 := (by have := CH.out; omega); have hnbgb39gb1 : gb39 ≠ gb1 := (by have := CH.out; omega)))
  try go_wp2
  (try clear hczgb1_0)
  (try clear hfzgb1_0)
  (try clear hczgb39_0)
  (try clear hfzgb39_0)
  have n0_ := Aside0.mk (Kd.F_drew FA0_0.out)
  have n1_ := Aside0.mk (Kd.F_drew FA2.out)
  have n2_ := Aside0.mk (blk_drew BKgb1.out)
  have n3_ := Aside0.mk (Kd.S_drew HS11.out)
  have n4_ := Aside0.mk (Kd.R_drew HR19.out)
  have n5_ := Aside0.mk (Kd.R_drew HR29.out)
  have n6_ := Aside0.mk (Kd.S_drew HS36.out)
  have n7_ := Aside0.mk (blk_drew BKgb39.out)
  have n8_ := Aside0.mk (Kd.R_drew HR45.out)
  have n9_ := Aside0.mk (Kd.R_drew HR53.out)
  have nB_ := Aside0.mk (below_drew1 HB.out)
  have nS_ : Aside0 (hi52 ≤ w56.drew.heap.size) := ⟨HS.out⟩
  clear HB HS FA0_0 FA2 BKgb1 HS11 HR19 HR29 HS36 BKgb39 HR45 HR53
  have FA0_0 := n0_
  have FA2 := n1_
  have BKgb1 := n2_
  have HS11 := n3_
  have HR19 := n4_
  have HR29 := n5_
  have HS36 := n6_
  have BKgb39 := n7_
  have HR45 := n8_
  have HR53 := n9_
  have HB := nB_
  have HS := nS_
  clear nB_ nS_ n0_ n1_ n2_ n3_ n4_ n5_ n6_ n7_ n8_ n9_
  refine start_ (n := 5) (S := fun w' => w'.cell? ⟨gb1, 0, none⟩ = some (.slice A0_0 l0_0.length c0_0) ∧ w'.cell? ⟨gb39, 0, none⟩ = some (.slice Ao37 l0_0.length co38)) (ds := []) #[false, false, false, false, false] (by kernel_rfl) rfl rfl ⟨(blk_cell BKgb1.out 0).trans rfl, (blk_cell BKgb39.out 0).trans rfl⟩ (fun hHeld => ?_)
  generalize w56.drew = w58 at HB HS FA0_0 FA2 BKgb1 HS11 HR19 HR29 HS36 BKgb39 HR45 HR53 hHeld ⊢
  refine take_ (i := 0) (N := some 56) (v := ?_) (a' := ?_) #[true, false, false, false, false] rfl rfl (by kernel_rfl) (fun _ _ _ h => h) (Or.inl ⟨by rfl, ?_⟩) hHeld ?_ ?_
  rotate_left
  · rintro w' ⟨s0_, s1_⟩
    go_simp
    with_reducible rfl
  rotate_left
  · simp only [Act.put, List.setIfInBounds_toArray, List.set_cons_zero, List.set_cons_succ, i64_w, i32_w]
    rfl
  refine take_ (i := 1) (N := some 57) (v := ?_) (a' := ?_) #[true, true, false, false, false] rfl rfl (by kernel_rfl) (fun _ _ _ h => h) (Or.inl ⟨by rfl, ?_⟩) hHeld ?_ ?_
  rotate_left
  · rintro w' ⟨s0_, s1_⟩
    go_simp
    with_reducible rfl
  rotate_left
  · simp only [Act.put, List.setIfInBounds_toArray, List.set_cons_zero, List.set_cons_succ, i64_w, i32_w]
    rfl
  refine one_ (i := 2) (N := some 58) #[true, true, true, false, false] rfl rfl (by kernel_rfl) (by decide) (fun K hK => ?_)
  refine goes_ Try.func11 (by kernel_rfl) rfl #[.agg #[.slice A0_0 l0_0.length c0_0]] (by rfl) rfl rfl (by (try simp only [List.map_toArray, List.map_cons, List.map_nil]); first | done | rfl | (simp only [List.length_drop, List.length_take]; rfl)) ?_
  (with_reducible refine (laws_toGraph.calls KE7 _ _ l0_0 l0_0 _ ?sidehr0_0 ?sidehc0_0 E7.out).mono ?_)
  (case sidehr0_0 => exact F_at (S := (fun _ => False)) FA0_0.out (by repeat (first | (with_reducible first | exact Kept.refl _ _ | apply Kept.alloc | apply Kept.drewN | apply Kept.drew) | exact Kept.refl _ _)) (fun _ _ hs_ => hs_.elim))
  (case sidehc0_0 => exact HC0_0.out)
  rintro e w59 ⟨v60, rfl, hov0__, hb_⟩
  refine ⟨_, rfl, ?_⟩
  (try clear hczgb1_0)
  (try clear hfzgb1_0)
  (try clear hczgb39_0)
  (try clear hfzgb39_0)
  obtain ⟨hk_, hs1_, hs2_, hw_⟩ := ev_kept (S := (fun _ => False)) HS.out HB.out hb_ (by repeat (first | (with_reducible first | exact Kept.refl _ _ | apply Kept.alloc | apply Kept.drewN | apply Kept.drew) | exact Kept.refl _ _))
  have hB_ := below_step (by repeat (first | (with_reducible first | exact HB.out | apply below_alloc | apply pw_below_drewN | apply below_drew1 | refine below_set ?_ GEgb1.out | refine below_set ?_ GEgb39.out) | exact HB.out)) hb_
  have n0_ := Aside0.mk (Kd.F_kept FA0_0.out hk_ (fun _ _ hs_ => hs_.elim))
  have n1_ := Aside0.mk (Kd.F_kept FA2.out hk_ (fun _ _ hs_ => hs_.elim))
  have n2_ := Aside0.mk (blk_below (g := gb1) (o := .cells #[.slice A0_0 l0_0.length c0_0] 24 (0, 0)) (by (with_reducible repeat (first | refine blk_drewN ?_ _ | refine blk_drew ?_ | refine blk_alloc ?_ _)); exact BKgb1.out) hb_)
  have n3_ := Aside0.mk (Kd.S_kept HS11.out hk_ (fun _ _ hs_ => hs_.elim))
  have n4_ := Aside0.mk (Kd.R_kept HR19.out hk_ (fun _ _ hs_ => hs_.elim))
  have n5_ := Aside0.mk (Kd.R_kept HR29.out hk_ (fun _ _ hs_ => hs_.elim))
  have n6_ := Aside0.mk (Kd.S_kept HS36.out hk_ (fun _ _ hs_ => hs_.elim))
  have n7_ := Aside0.mk (blk_below (g := gb39) (o := .cells #[.slice Ao37 l0_0.length co38] 32 (0, 0)) (by (with_reducible repeat (first | refine blk_drewN ?_ _ | refine blk_drew ?_ | refine blk_alloc ?_ _)); exact BKgb39.out) hb_)
  have n8_ := Aside0.mk (Kd.R_kept HR45.out hk_ (fun _ _ hs_ => hs_.elim))
  have n9_ := Aside0.mk (Kd.R_kept HR53.out hk_ (fun _ _ hs_ => hs_.elim))
  have ns_ := Aside0.mk (Nat.le_trans (Nat.le_trans hs1_ hs2_) (Nat.le_refl _))
  have nB_ := Aside0.mk hB_
  obtain ⟨lo61, hi62, c1_, c2_, c3_, h_⟩ := S_new hov0__ hs2_ hw_ hs1_
  have HS63 := Aside0.mk h_
  obtain ⟨Ao64, co65, eo_⟩ := Kd.S_slice HS63.out
  subst eo_
  have HCHS63 := Aside0.mk (Kd.S_reads' HS63.out).2.1
  clear h_ hov0__
  have nc_ := Aside0.mk (And.intro c1_ (And.intro c2_ CH.out))
  clear CH ns_
  have CH := nc_
  have ns_ := Aside0.mk c3_
  clear nc_ c1_ c2_ c3_
  clear HB HS FA0_0 FA2 BKgb1 HS11 HR19 HR29 HS36 BKgb39 HR45 HR53
  have FA0_0 := n0_
  have FA2 := n1_
  have BKgb1 := n2_
  have HS11 := n3_
  have HR19 := n4_
  have HR29 := n5_
  have HS36 := n6_
  have BKgb39 := n7_
  have HR45 := n8_
  have HR53 := n9_
  have HB := nB_
  have HS := ns_
  clear nB_ ns_ n0_ n1_ n2_ n3_ n4_ n5_ n6_ n7_ n8_ n9_
  clear hk_ hs1_ hs2_ hw_ hB_ hb_
  refine hK.out _ _ ⟨(blk_cell BKgb1.out 0).trans rfl, (blk_cell BKgb39.out 0).trans rfl⟩ (fun hHeld => ?_)
  clear hK K
  refine norm_ (a' := ?_) ?_ ?_
  rotate_left
  · show Act.put _ (some 58) _ = _
    simp only [Act.put, List.setIfInBounds_toArray, List.set_cons_zero, List.set_cons_succ, i64_w, i32_w]
    rfl
  refine one_ (i := 3) (N := some 59) #[true, true, true, true, false] rfl rfl (by kernel_rfl) (by decide) (fun K hK => ?_)
  refine goes_ Try.func14 (by kernel_rfl) rfl #[.agg #[.slice Ao37 l0_0.length co38], .agg #[.slice Ao64 l0_0.length co65]] (by rfl) rfl rfl (by (try simp only [List.map_toArray, List.map_cons, List.map_nil]); first | done | rfl | (simp only [List.length_drop, List.length_take]; rfl)) ?_
  (with_reducible refine (laws_eqGraph.calls KE67 _ _ l0_0 _ _ l0_0 true _ ?sidehr0_0 ?sidehc0_0 ?sidehr1_0 ?sidehc1_0 E67.out).mono ?_)
  (case sidehr0_0 => exact S_now (S := (fun _ => False)) HS36.out (by repeat (first | (with_reducible first | exact Kept.refl _ _ | apply Kept.alloc | apply Kept.drewN | apply Kept.drew) | exact Kept.refl _ _)) (fun _ _ hs_ => hs_.elim))
  (case sidehc0_0 => exact HCHS36.out)
  (case sidehr1_0 => exact S_now (S := (fun _ => False)) HS63.out (by repeat (first | (with_reducible first | exact Kept.refl _ _ | apply Kept.alloc | apply Kept.drewN | apply Kept.drew) | exact Kept.refl _ _)) (fun _ _ hs_ => hs_.elim))
  (case sidehc1_0 => exact HCHS63.out)
  rintro e w66 ⟨rfl, hb_⟩
  refine ⟨_, rfl, ?_⟩
  (try clear hczgb1_0)
  (try clear hfzgb1_0)
  (try clear hczgb39_0)
  (try clear hfzgb39_0)
  obtain ⟨hk_, hs1_, hs2_, hw_⟩ := ev_kept (S := (fun _ => False)) HS.out HB.out hb_ (by repeat (first | (with_reducible first | exact Kept.refl _ _ | apply Kept.alloc | apply Kept.drewN | apply Kept.drew) | exact Kept.refl _ _))
  have hB_ := below_step (by repeat (first | (with_reducible first | exact HB.out | apply below_alloc | apply pw_below_drewN | apply below_drew1 | refine below_set ?_ GEgb1.out | refine below_set ?_ GEgb39.out) | exact HB.out)) hb_
  have n0_ := Aside0.mk (Kd.F_kept FA0_0.out hk_ (fun _ _ hs_ => hs_.elim))
  have n1_ := Aside0.mk (Kd.F_kept FA2.out hk_ (fun _ _ hs_ => hs_.elim))
  have n2_ := Aside0.mk (blk_below (g := gb1) (o := .cells #[.slice A0_0 l0_0.length c0_0] 24 (0, 0)) (by (with_reducible repeat (first | refine blk_drewN ?_ _ | refine blk_drew ?_ | refine blk_alloc ?_ _)); exact BKgb1.out) hb_)
  have n3_ := Aside0.mk (Kd.S_kept HS11.out hk_ (fun _ _ hs_ => hs_.elim))
  have n4_ := Aside0.mk (Kd.R_kept HR19.out hk_ (fun _ _ hs_ => hs_.elim))
  have n5_ := Aside0.mk (Kd.R_kept HR29.out hk_ (fun _ _ hs_ => hs_.elim))
  have n6_ := Aside0.mk (Kd.S_kept HS36.out hk_ (fun _ _ hs_ => hs_.elim))
  have n7_ := Aside0.mk (blk_below (g := gb39) (o := .cells #[.slice Ao37 l0_0.length co38] 32 (0, 0)) (by (with_reducible repeat (first | refine blk_drewN ?_ _ | refine blk_drew ?_ | refine blk_alloc ?_ _)); exact BKgb39.out) hb_)
  have n8_ := Aside0.mk (Kd.R_kept HR45.out hk_ (fun _ _ hs_ => hs_.elim))
  have n9_ := Aside0.mk (Kd.R_kept HR53.out hk_ (fun _ _ hs_ => hs_.elim))
  have n10_ := Aside0.mk (Kd.S_kept HS63.out hk_ (fun _ _ hs_ => hs_.elim))
  have ns_ := Aside0.mk (Nat.le_trans (Nat.le_trans hs1_ hs2_) (Nat.le_refl _))
  have nB_ := Aside0.mk hB_
  clear HB HS FA0_0 FA2 BKgb1 HS11 HR19 HR29 HS36 BKgb39 HR45 HR53 HS63
  have FA0_0 := n0_
  have FA2 := n1_
  have BKgb1 := n2_
  have HS11 := n3_
  have HR19 := n4_
  have HR29 := n5_
  have HS36 := n6_
  have BKgb39 := n7_
  have HR45 := n8_
  have HR53 := n9_
  have HS63 := n10_
  have HB := nB_
  have HS := ns_
  clear nB_ ns_ n0_ n1_ n2_ n3_ n4_ n5_ n6_ n7_ n8_ n9_ n10_
  clear hk_ hs1_ hs2_ hw_ hB_ hb_
  refine hK.out _ _ ⟨(blk_cell BKgb1.out 0).trans rfl, (blk_cell BKgb39.out 0).trans rfl⟩ (fun hHeld => ?_)
  clear hK K
  refine norm_ (a' := ?_) ?_ ?_
  rotate_left
  · show Act.put _ (some 59) _ = _
    simp only [Act.put, List.setIfInBounds_toArray, List.set_cons_zero, List.set_cons_succ, i64_w, i32_w]
    rfl
  refine pure_ (i := 4) (N := some 60) (v := ?_) (a' := ?_) #[true, true, true, true, true] rfl rfl (by kernel_rfl) (fun _ _ _ h => h) (Or.inl ⟨by rfl, ?_⟩) ?_ ?_
  rotate_left
  · intro w'
    go_simp
    with_reducible rfl
  rotate_left
  · simp only [Act.put, List.setIfInBounds_toArray, List.set_cons_zero, List.set_cons_succ, i64_w, i32_w]
    rfl
  refine done_ (by kernel_rfl) ?_
  go_wp2_with (first | ((with_reducible refine gate_callee (f := 17) rfl ?_); refine goesL_ (some 63) rfl rfl Try.func17 (by kernel_rfl) rfl #[.slice A2 l2.length c2] rfl (by (try simp only [List.map_toArray, List.map_cons, List.map_nil]); first | done | rfl | (simp only [List.length_drop, List.length_take]; rfl)) ?_; (with_reducible refine (laws_toIntS.calls KE15 _ _ l2 l2 _ ?sidehr0 ?sidehc0 E15.out).mono ?_); (case sidehr0 => exact F_at (S := (fun _ => False)) FA2.out (by repeat (first | (with_reducible first | exact Kept.refl _ _ | apply Kept.alloc | apply Kept.drewN | apply Kept.drew) | exact Kept.refl _ _)) (fun _ _ hs_ => hs_.elim)); (case sidehc0 => exact HC2.out); rintro e w68 ⟨v69, rfl, hov0__, hb_⟩; refine ⟨_, rfl, ?_⟩; (try clear hczgb1_0); (try clear hfzgb1_0); (try clear hczgb39_0); (try clear hfzgb39_0); obtain ⟨hk_, hs1_, hs2_, hw_⟩ := ev_kept (S := (fun _ => False)) HS.out HB.out hb_ (by repeat (first | (with_reducible first | exact Kept.refl _ _ | apply Kept.alloc | apply Kept.drewN | apply Kept.drew) | exact Kept.refl _ _)); have hB_ := below_step (by repeat (first | (with_reducible first | exact HB.out | apply below_alloc | apply pw_below_drewN | apply below_drew1 | refine below_set ?_ GEgb1.out | refine below_set ?_ GEgb39.out) | exact HB.out)) hb_; have n0_ := Aside0.mk (Kd.F_kept FA0_0.out hk_ (fun _ _ hs_ => hs_.elim)); have n1_ := Aside0.mk (Kd.F_kept FA2.out hk_ (fun _ _ hs_ => hs_.elim)); have n2_ := Aside0.mk (blk_below (g := gb1) (o := .cells #[.slice A0_0 l0_0.length c0_0] 24 (0, 0)) (by (with_reducible repeat (first | refine blk_drewN ?_ _ | refine blk_drew ?_ | refine blk_alloc ?_ _)); exact BKgb1.out) hb_); have n3_ := Aside0.mk (Kd.S_kept HS11.out hk_ (fun _ _ hs_ => hs_.elim)); have n4_ := Aside0.mk (Kd.R_kept HR19.out hk_ (fun _ _ hs_ => hs_.elim)); have n5_ := Aside0.mk (Kd.R_kept HR29.out hk_ (fun _ _ hs_ => hs_.elim)); have n6_ := Aside0.mk (Kd.S_kept HS36.out hk_ (fun _ _ hs_ => hs_.elim)); have n7_ := Aside0.mk (blk_below (g := gb39) (o := .cells #[.slice Ao37 l0_0.length co38] 32 (0, 0)) (by (with_reducible repeat (first | refine blk_drewN ?_ _ | refine blk_drew ?_ | refine blk_alloc ?_ _)); exact BKgb39.out) hb_); have n8_ := Aside0.mk (Kd.R_kept HR45.out hk_ (fun _ _ hs_ => hs_.elim)); have n9_ := Aside0.mk (Kd.R_kept HR53.out hk_ (fun _ _ hs_ => hs_.elim)); have n10_ := Aside0.mk (Kd.S_kept HS63.out hk_ (fun _ _ hs_ => hs_.elim)); have ns_ := Aside0.mk (Nat.le_trans (Nat.le_trans hs1_ hs2_) (Nat.le_refl _)); have nB_ := Aside0.mk hB_; obtain ⟨lo70, hi71, c1_, c2_, c3_, h_⟩ := R_new hov0__ hs2_ hw_ hs1_; have HR72 := Aside0.mk h_; obtain ⟨Ao73, co74, eo_⟩ := Kd.R_slice HR72.out; subst eo_; have HCHR72 := Aside0.mk (Kd.R_reads' HR72.out).2.1; clear h_ hov0__; have nc_ := Aside0.mk (And.intro c1_ (And.intro c2_ CH.out)); clear CH ns_; have CH := nc_; have ns_ := Aside0.mk c3_; clear nc_ c1_ c2_ c3_; clear HB HS FA0_0 FA2 BKgb1 HS11 HR19 HR29 HS36 BKgb39 HR45 HR53 HS63; have FA0_0 := n0_; have FA2 := n1_; have BKgb1 := n2_; have HS11 := n3_; have HR19 := n4_; have HR29 := n5_; have HS36 := n6_; have BKgb39 := n7_; have HR45 := n8_; have HR53 := n9_; have HS63 := n10_; have HB := nB_; have HS := ns_; clear nB_ ns_ n0_ n1_ n2_ n3_ n4_ n5_ n6_ n7_ n8_ n9_ n10_; clear hk_ hs1_ hs2_ hw_ hB_ hb_; have hczgb1_0 : w68.cell? ⟨gb1, 0, none⟩ = some (.slice A0_0 l0_0.length c0_0) := (blk_cell BKgb1.out 0).trans rfl; have hfzgb1_0 := blk_frozen BKgb1.out 0; have hczgb39_0 : w68.cell? ⟨gb39, 0, none⟩ = some (.slice Ao37 l0_0.length co38) := (blk_cell BKgb39.out 0).trans rfl; have hfzgb39_0 := blk_frozen BKgb39.out 0; have hnbgb1gb39 : gb1 ≠ gb39 := (by have := CH.out; omega); have hnbgb39gb1 : gb39 ≠ gb1 := (by have := CH.out; omega)) | ((with_reducible refine gate_callee (f := 19) rfl ?_); refine goesL_ (some 64) rfl rfl Try.func19 (by kernel_rfl) rfl #[.slice Ao46 l2.length co47, .slice Ao73 l2.length co74] rfl (by (try simp only [List.map_toArray, List.map_cons, List.map_nil]); first | done | rfl | (simp only [List.length_drop, List.length_take]; rfl)) ?_; (with_reducible refine (laws_eqIntS.calls KE76 _ _ l2 _ _ l2 true _ ?sidehr0 ?sidehc0 ?sidehr1 ?sidehc1 E76.out).mono ?_); (case sidehr0 => exact R_now (S := (fun _ => False)) HR45.out (by repeat (first | (with_reducible first | exact Kept.refl _ _ | apply Kept.alloc | apply Kept.drewN | apply Kept.drew) | exact Kept.refl _ _)) (fun _ _ hs_ => hs_.elim)); (case sidehc0 => exact HCHR45.out); (case sidehr1 => exact R_now (S := (fun _ => False)) HR72.out (by repeat (first | (with_reducible first | exact Kept.refl _ _ | apply Kept.alloc | apply Kept.drewN | apply Kept.drew) | exact Kept.refl _ _)) (fun _ _ hs_ => hs_.elim)); (case sidehc1 => exact HCHR72.out); rintro e w75 ⟨rfl, hd_⟩; refine ⟨_, rfl, ?_⟩; have hb_ := hd_.below; (try clear hczgb1_0); (try clear hfzgb1_0); (try clear hczgb39_0); (try clear hfzgb39_0); obtain ⟨hk_, hs1_, hs2_, hw_⟩ := ev_kept (S := (fun _ => False)) HS.out HB.out hb_ (by repeat (first | (with_reducible first | exact Kept.refl _ _ | apply Kept.alloc | apply Kept.drewN | apply Kept.drew) | exact Kept.refl _ _)); have hB_ := below_step (by repeat (first | (with_reducible first | exact HB.out | apply below_alloc | apply pw_below_drewN | apply below_drew1 | refine below_set ?_ GEgb1.out | refine below_set ?_ GEgb39.out) | exact HB.out)) hb_; have n0_ := Aside0.mk (Kd.F_kept FA0_0.out hk_ (fun _ _ hs_ => hs_.elim)); have n1_ := Aside0.mk (Kd.F_kept FA2.out hk_ (fun _ _ hs_ => hs_.elim)); have n2_ := Aside0.mk (blk_below (g := gb1) (o := .cells #[.slice A0_0 l0_0.length c0_0] 24 (0, 0)) (by (with_reducible repeat (first | refine blk_drewN ?_ _ | refine blk_drew ?_ | refine blk_alloc ?_ _)); exact BKgb1.out) hb_); have n3_ := Aside0.mk (Kd.S_kept HS11.out hk_ (fun _ _ hs_ => hs_.elim)); have n4_ := Aside0.mk (Kd.R_kept HR19.out hk_ (fun _ _ hs_ => hs_.elim)); have n5_ := Aside0.mk (Kd.R_kept HR29.out hk_ (fun _ _ hs_ => hs_.elim)); have n6_ := Aside0.mk (Kd.S_kept HS36.out hk_ (fun _ _ hs_ => hs_.elim)); have n7_ := Aside0.mk (blk_below (g := gb39) (o := .cells #[.slice Ao37 l0_0.length co38] 32 (0, 0)) (by (with_reducible repeat (first | refine blk_drewN ?_ _ | refine blk_drew ?_ | refine blk_alloc ?_ _)); exact BKgb39.out) hb_); have n8_ := Aside0.mk (Kd.R_kept HR45.out hk_ (fun _ _ hs_ => hs_.elim)); have n9_ := Aside0.mk (Kd.R_kept HR53.out hk_ (fun _ _ hs_ => hs_.elim)); have n10_ := Aside0.mk (Kd.S_kept HS63.out hk_ (fun _ _ hs_ => hs_.elim)); have n11_ := Aside0.mk (Kd.R_kept HR72.out hk_ (fun _ _ hs_ => hs_.elim)); have ns_ := Aside0.mk (Nat.le_trans (Nat.le_trans hs1_ hs2_) (Nat.le_refl _)); have nB_ := Aside0.mk hB_; clear HB HS FA0_0 FA2 BKgb1 HS11 HR19 HR29 HS36 BKgb39 HR45 HR53 HS63 HR72; have FA0_0 := n0_; have FA2 := n1_; have BKgb1 := n2_; have HS11 := n3_; have HR19 := n4_; have HR29 := n5_; have HS36 := n6_; have BKgb39 := n7_; have HR45 := n8_; have HR53 := n9_; have HS63 := n10_; have HR72 := n11_; have HB := nB_; have HS := ns_; clear nB_ ns_ n0_ n1_ n2_ n3_ n4_ n5_ n6_ n7_ n8_ n9_ n10_ n11_; clear hk_ hs1_ hs2_ hw_ hB_ hb_; clear hd_; have hczgb1_0 : w75.cell? ⟨gb1, 0, none⟩ = some (.slice A0_0 l0_0.length c0_0) := (blk_cell BKgb1.out 0).trans rfl; have hfzgb1_0 := blk_frozen BKgb1.out 0; have hczgb39_0 : w75.cell? ⟨gb39, 0, none⟩ = some (.slice Ao37 l0_0.length co38) := (blk_cell BKgb39.out 0).trans rfl; have hfzgb39_0 := blk_frozen BKgb39.out 0; have hnbgb1gb39 : gb1 ≠ gb39 := (by have := CH.out; omega); have hnbgb39gb1 : gb39 ≠ gb1 := (by have := CH.out; omega)) | ((with_reducible refine gate_callee (f := 22) rfl ?_); refine goesL_ (some 68) rfl rfl Try.func22 (by kernel_rfl) rfl #[.agg #[.slice Ao37 l0_0.length co38], .int .i64 1] rfl (by (try simp only [List.map_toArray, List.map_cons, List.map_nil]); first | done | rfl | (simp only [List.length_drop, List.length_take]; rfl)) ?_; (with_reducible refine (laws_markGraph.calls KE80 (fun k_ => lo34 ≤ k_ ∧ k_ < hi35) _ l0_0 1 x78 x79 w _ ?sideB ?sideO E80.out).mono ?_); (case sideB => exact (by repeat (first | (with_reducible first | exact HB.out | apply below_alloc | apply pw_below_drewN | apply below_drew1 | refine below_set ?_ GEgb1.out | refine below_set ?_ GEgb39.out) | exact HB.out))); (case sideO => exact Kd.S_kept (S := (fun _ => False)) HS36.out (by repeat (first | (with_reducible first | exact Kept.refl _ _ | apply Kept.alloc | apply Kept.drewN | apply Kept.drew) | exact Kept.refl _ _)) (fun _ _ hs_ => hs_.elim)); rintro e w77 ⟨rfl, ho_, hb_, hm_⟩; refine ⟨_, rfl, ?_⟩; (try clear hczgb1_0); (try clear hfzgb1_0); (try clear hczgb39_0); (try clear hfzgb39_0); obtain ⟨hk_, hs1_⟩ := ev_mark (S := (fun k_ => lo34 ≤ k_ ∧ k_ < hi35)) HS.out hm_ (by repeat (first | (with_reducible first | exact Kept.refl _ _ | apply Kept.alloc | apply Kept.drewN | apply Kept.drew) | exact Kept.refl _ _)); have n0_ := Aside0.mk (Kd.F_kept FA0_0.out hk_ (fun k_ h_ hs_ => by have h1_ : k_ < s0 := h_; obtain ⟨g1_, g2_⟩ := hs_; have := CH.out; omega)); have n1_ := Aside0.mk (Kd.F_kept FA2.out hk_ (fun k_ h_ hs_ => by have h1_ : k_ < s0 := h_; obtain ⟨g1_, g2_⟩ := hs_; have := CH.out; omega)); have n2_ := Aside0.mk (blk_kept BKgb1.out hk_ (fun hs_ => by obtain ⟨g1_, g2_⟩ := hs_; have := CH.out; omega)); have n3_ := Aside0.mk (Kd.S_kept HS11.out hk_ (fun k_ h_ hs_ => by obtain ⟨h1_, h2_⟩ := h_; obtain ⟨g1_, g2_⟩ := hs_; have := CH.out; omega)); have n4_ := Aside0.mk (Kd.R_kept HR19.out hk_ (fun k_ h_ hs_ => by obtain ⟨h1_, h2_⟩ := h_; obtain ⟨g1_, g2_⟩ := hs_; have := CH.out; omega)); have n5_ := Aside0.mk (Kd.R_kept HR29.out hk_ (fun k_ h_ hs_ => by obtain ⟨h1_, h2_⟩ := h_; obtain ⟨g1_, g2_⟩ := hs_; have := CH.out; omega)); have n6_ := Aside0.mk (blk_kept BKgb39.out hk_ (fun hs_ => by obtain ⟨g1_, g2_⟩ := hs_; have := CH.out; omega)); have n7_ := Aside0.mk (Kd.R_kept HR45.out hk_ (fun k_ h_ hs_ => by obtain ⟨h1_, h2_⟩ := h_; obtain ⟨g1_, g2_⟩ := hs_; have := CH.out; omega)); have n8_ := Aside0.mk (Kd.R_kept HR53.out hk_ (fun k_ h_ hs_ => by obtain ⟨h1_, h2_⟩ := h_; obtain ⟨g1_, g2_⟩ := hs_; have := CH.out; omega)); have n9_ := Aside0.mk (Kd.S_kept HS63.out hk_ (fun k_ h_ hs_ => by obtain ⟨h1_, h2_⟩ := h_; obtain ⟨g1_, g2_⟩ := hs_; have := CH.out; omega)); have n10_ := Aside0.mk (Kd.R_kept HR72.out hk_ (fun k_ h_ hs_ => by obtain ⟨h1_, h2_⟩ := h_; obtain ⟨g1_, g2_⟩ := hs_; have := CH.out; omega)); have nB_ := Aside0.mk hb_; have ns_ := Aside0.mk hs1_; clear HB HS FA0_0 FA2 BKgb1 HS11 HR19 HR29 BKgb39 HR45 HR53 HS63 HR72; have FA0_0 := n0_; have FA2 := n1_; have BKgb1 := n2_; have HS11 := n3_; have HR19 := n4_; have HR29 := n5_; have BKgb39 := n6_; have HR45 := n7_; have HR53 := n8_; have HS63 := n9_; have HR72 := n10_; have HB := nB_; have HS := ns_; clear nB_ ns_ n0_ n1_ n2_ n3_ n4_ n5_ n6_ n7_ n8_ n9_ n10_; have hl_ : l0_0.length = x79.length := (Kd.S_reads' ho_).1; have FM81 := Aside0.mk (Kd.S_F ho_); rw [hl_] at FM81; have HCHS36_ := Aside0.mk (show x79.length ≤ co38 by rw [← hl_]; exact HCHS36.out); have HLFM81 := Aside0.mk hl_; clear ho_ hm_ hb_ hk_ hs1_ hl_ HS36; have hczgb1_0 : w77.cell? ⟨gb1, 0, none⟩ = some (.slice A0_0 l0_0.length c0_0) := (blk_cell BKgb1.out 0).trans rfl; have hfzgb1_0 := blk_frozen BKgb1.out 0; have hczgb39_0 : w77.cell? ⟨gb39, 0, none⟩ = some (.slice Ao37 l0_0.length co38) := (blk_cell BKgb39.out 0).trans rfl; have hfzgb39_0 := blk_frozen BKgb39.out 0; have hnbgb1gb39 : gb1 ≠ gb39 := (by have := CH.out; omega); have hnbgb39gb1 : gb39 ≠ gb1 := (by have := CH.out; omega)) | ((with_reducible refine gate_callee (f := 23) rfl ?_); refine goesL_ (some 71) rfl rfl Try.func23 (by kernel_rfl) rfl #[.slice Ao46 l2.length co47, .int .i64 x78] rfl (by (try simp only [List.map_toArray, List.map_cons, List.map_nil]); first | done | rfl | (simp only [List.length_drop, List.length_take]; rfl)) ?_; (with_reducible refine (laws_markIntS.calls KE85 (fun k_ => lo43 ≤ k_ ∧ k_ < hi44) _ l2 x78 x83 x84 w _ ?sideB ?sideO E85.out).mono ?_); (case sideB => exact (by repeat (first | (with_reducible first | exact HB.out | apply below_alloc | apply pw_below_drewN | apply below_drew1 | refine below_set ?_ GEgb1.out | refine below_set ?_ GEgb39.out) | exact HB.out))); (case sideO => exact Kd.R_kept (S := (fun _ => False)) HR45.out (by repeat (first | (with_reducible first | exact Kept.refl _ _ | apply Kept.alloc | apply Kept.drewN | apply Kept.drew) | exact Kept.refl _ _)) (fun _ _ hs_ => hs_.elim)); rintro e w82 ⟨rfl, ho_, hb_, hm_⟩; refine ⟨_, rfl, ?_⟩; (try clear hczgb1_0); (try clear hfzgb1_0); (try clear hczgb39_0); (try clear hfzgb39_0); obtain ⟨hk_, hs1_⟩ := ev_mark (S := (fun k_ => lo43 ≤ k_ ∧ k_ < hi44)) HS.out hm_ (by repeat (first | (with_reducible first | exact Kept.refl _ _ | apply Kept.alloc | apply Kept.drewN | apply Kept.drew) | exact Kept.refl _ _)); have n0_ := Aside0.mk (Kd.F_kept FA0_0.out hk_ (fun k_ h_ hs_ => by have h1_ : k_ < s0 := h_; obtain ⟨g1_, g2_⟩ := hs_; have := CH.out; omega)); have n1_ := Aside0.mk (Kd.F_kept FA2.out hk_ (fun k_ h_ hs_ => by have h1_ : k_ < s0 := h_; obtain ⟨g1_, g2_⟩ := hs_; have := CH.out; omega)); have n2_ := Aside0.mk (blk_kept BKgb1.out hk_ (fun hs_ => by obtain ⟨g1_, g2_⟩ := hs_; have := CH.out; omega)); have n3_ := Aside0.mk (Kd.S_kept HS11.out hk_ (fun k_ h_ hs_ => by obtain ⟨h1_, h2_⟩ := h_; obtain ⟨g1_, g2_⟩ := hs_; have := CH.out; omega)); have n4_ := Aside0.mk (Kd.R_kept HR19.out hk_ (fun k_ h_ hs_ => by obtain ⟨h1_, h2_⟩ := h_; obtain ⟨g1_, g2_⟩ := hs_; have := CH.out; omega)); have n5_ := Aside0.mk (Kd.R_kept HR29.out hk_ (fun k_ h_ hs_ => by obtain ⟨h1_, h2_⟩ := h_; obtain ⟨g1_, g2_⟩ := hs_; have := CH.out; omega)); have n6_ := Aside0.mk (blk_kept BKgb39.out hk_ (fun hs_ => by obtain ⟨g1_, g2_⟩ := hs_; have := CH.out; omega)); have n7_ := Aside0.mk (Kd.R_kept HR53.out hk_ (fun k_ h_ hs_ => by obtain ⟨h1_, h2_⟩ := h_; obtain ⟨g1_, g2_⟩ := hs_; have := CH.out; omega)); have n8_ := Aside0.mk (Kd.S_kept HS63.out hk_ (fun k_ h_ hs_ => by obtain ⟨h1_, h2_⟩ := h_; obtain ⟨g1_, g2_⟩ := hs_; have := CH.out; omega)); have n9_ := Aside0.mk (Kd.R_kept HR72.out hk_ (fun k_ h_ hs_ => by obtain ⟨h1_, h2_⟩ := h_; obtain ⟨g1_, g2_⟩ := hs_; have := CH.out; omega)); have n10_ := Aside0.mk (Kd.F_kept FM81.out hk_ (fun k_ h_ hs_ => by obtain ⟨h1_, h2_⟩ := h_; obtain ⟨g1_, g2_⟩ := hs_; have := CH.out; omega)); have nB_ := Aside0.mk hb_; have ns_ := Aside0.mk hs1_; clear HB HS FA0_0 FA2 BKgb1 HS11 HR19 HR29 BKgb39 HR53 HS63 HR72 FM81; have FA0_0 := n0_; have FA2 := n1_; have BKgb1 := n2_; have HS11 := n3_; have HR19 := n4_; have HR29 := n5_; have BKgb39 := n6_; have HR53 := n7_; have HS63 := n8_; have HR72 := n9_; have FM81 := n10_; have HB := nB_; have HS := ns_; clear nB_ ns_ n0_ n1_ n2_ n3_ n4_ n5_ n6_ n7_ n8_ n9_ n10_; have hl_ : l2.length = x84.length := (Kd.R_reads' ho_).1; have FM86 := Aside0.mk (Kd.R_F (Kd.R_mono (Kd.R_tight rfl ho_) (fun k_ hk_ => HR45.out.1 k_ hk_.symm))); rw [hl_] at FM86; have HCHR45_ := Aside0.mk (show x84.length ≤ co47 by rw [← hl_]; exact HCHR45.out); have HLFM86 := Aside0.mk hl_; clear ho_ hm_ hb_ hk_ hs1_ hl_ HR45; have hczgb1_0 : w82.cell? ⟨gb1, 0, none⟩ = some (.slice A0_0 l0_0.length c0_0) := (blk_cell BKgb1.out 0).trans rfl; have hfzgb1_0 := blk_frozen BKgb1.out 0; have hczgb39_0 : w82.cell? ⟨gb39, 0, none⟩ = some (.slice Ao37 l0_0.length co38) := (blk_cell BKgb39.out 0).trans rfl; have hfzgb39_0 := blk_frozen BKgb39.out 0; have hnbgb1gb39 : gb1 ≠ gb39 := (by have := CH.out; omega); have hnbgb39gb1 : gb39 ≠ gb1 := (by have := CH.out; omega)) | ((with_reducible refine gate_callee (f := 19) rfl ?_); (try (refine gate_guard (by rfl) ?_; dsimp only)); refine goesL_ (some 77) rfl rfl Try.func19 (by kernel_rfl) rfl #[.slice Ao54 x23.length co55, .slice Ao30 x23.length co31] rfl (by (try simp only [List.map_toArray, List.map_cons, List.map_nil]); first | done | rfl | (simp only [List.length_drop, List.length_take]; rfl)) ?_; (with_reducible refine (laws_eqIntS.calls KE57 _ _ x23 _ _ x23 true _ ?sidehr0 ?sidehc0 ?sidehr1 ?sidehc1 E57.out).mono ?_); (case sidehr0 => exact R_now (S := (fun _ => False)) HR53.out (by repeat (first | (with_reducible first | exact Kept.refl _ _ | apply Kept.alloc | apply Kept.drewN | apply Kept.drew) | exact Kept.refl _ _)) (fun _ _ hs_ => hs_.elim)); (case sidehc0 => exact HCHR53.out); (case sidehr1 => exact R_now (S := (fun _ => False)) HR29.out (by repeat (first | (with_reducible first | exact Kept.refl _ _ | apply Kept.alloc | apply Kept.drewN | apply Kept.drew) | exact Kept.refl _ _)) (fun _ _ hs_ => hs_.elim)); (case sidehc1 => exact HCHR29.out); rintro e w87 ⟨rfl, hd_⟩; refine ⟨_, rfl, ?_⟩; have hb_ := hd_.below; (try clear hczgb1_0); (try clear hfzgb1_0); (try clear hczgb39_0); (try clear hfzgb39_0); obtain ⟨hk_, hs1_, hs2_, hw_⟩ := ev_kept (S := (fun _ => False)) HS.out HB.out hb_ (by repeat (first | (with_reducible first | exact Kept.refl _ _ | apply Kept.alloc | apply Kept.drewN | apply Kept.drew) | exact Kept.refl _ _)); have hB_ := below_step (by repeat (first | (with_reducible first | exact HB.out | apply below_alloc | apply pw_below_drewN | apply below_drew1 | refine below_set ?_ GEgb1.out | refine below_set ?_ GEgb39.out) | exact HB.out)) hb_; have n0_ := Aside0.mk (Kd.F_kept FA0_0.out hk_ (fun _ _ hs_ => hs_.elim)); have n1_ := Aside0.mk (Kd.F_kept FA2.out hk_ (fun _ _ hs_ => hs_.elim)); have n2_ := Aside0.mk (blk_below (g := gb1) (o := .cells #[.slice A0_0 l0_0.length c0_0] 24 (0, 0)) (by (with_reducible repeat (first | refine blk_drewN ?_ _ | refine blk_drew ?_ | refine blk_alloc ?_ _)); exact BKgb1.out) hb_); have n3_ := Aside0.mk (Kd.S_kept HS11.out hk_ (fun _ _ hs_ => hs_.elim)); have n4_ := Aside0.mk (Kd.R_kept HR19.out hk_ (fun _ _ hs_ => hs_.elim)); have n5_ := Aside0.mk (Kd.R_kept HR29.out hk_ (fun _ _ hs_ => hs_.elim)); have n6_ := Aside0.mk (blk_below (g := gb39) (o := .cells #[.slice Ao37 l0_0.length co38] 32 (0, 0)) (by (with_reducible repeat (first | refine blk_drewN ?_ _ | refine blk_drew ?_ | refine blk_alloc ?_ _)); exact BKgb39.out) hb_); have n7_ := Aside0.mk (Kd.R_kept HR53.out hk_ (fun _ _ hs_ => hs_.elim)); have n8_ := Aside0.mk (Kd.S_kept HS63.out hk_ (fun _ _ hs_ => hs_.elim)); have n9_ := Aside0.mk (Kd.R_kept HR72.out hk_ (fun _ _ hs_ => hs_.elim)); have n10_ := Aside0.mk (Kd.F_kept FM81.out hk_ (fun _ _ hs_ => hs_.elim)); have n11_ := Aside0.mk (Kd.F_kept FM86.out hk_ (fun _ _ hs_ => hs_.elim)); have ns_ := Aside0.mk (Nat.le_trans (Nat.le_trans hs1_ hs2_) (Nat.le_refl _)); have nB_ := Aside0.mk hB_; clear HB HS FA0_0 FA2 BKgb1 HS11 HR19 HR29 BKgb39 HR53 HS63 HR72 FM81 FM86; have FA0_0 := n0_; have FA2 := n1_; have BKgb1 := n2_; have HS11 := n3_; have HR19 := n4_; have HR29 := n5_; have BKgb39 := n6_; have HR53 := n7_; have HS63 := n8_; have HR72 := n9_; have FM81 := n10_; have FM86 := n11_; have HB := nB_; have HS := ns_; clear nB_ ns_ n0_ n1_ n2_ n3_ n4_ n5_ n6_ n7_ n8_ n9_ n10_ n11_; clear hk_ hs1_ hs2_ hw_ hB_ hb_; clear hd_; have hczgb1_0 : w87.cell? ⟨gb1, 0, none⟩ = some (.slice A0_0 l0_0.length c0_0) := (blk_cell BKgb1.out 0).trans rfl; have hfzgb1_0 := blk_frozen BKgb1.out 0; have hczgb39_0 : w87.cell? ⟨gb39, 0, none⟩ = some (.slice Ao37 l0_0.length co38) := (blk_cell BKgb39.out 0).trans rfl; have hfzgb39_0 := blk_frozen BKgb39.out 0; have hnbgb1gb39 : gb1 ≠ gb39 := (by have := CH.out; omega); have hnbgb39gb1 : gb39 ≠ gb1 := (by have := CH.out; omega)) | ((with_reducible refine gate_callee (f := 23) rfl ?_); refine goesL_ (some 87) rfl rfl Try.func23 (by kernel_rfl) rfl #[.slice Ao54 x23.length co55, .int .i64 1] rfl (by (try simp only [List.map_toArray, List.map_cons, List.map_nil]); first | done | rfl | (simp only [List.length_drop, List.length_take]; rfl)) ?_; (with_reducible refine (laws_markIntS.calls KE91 (fun k_ => lo51 ≤ k_ ∧ k_ < hi52) _ x23 1 x89 x90 w _ ?sideB ?sideO E91.out).mono ?_); (case sideB => exact (by repeat (first | (with_reducible first | exact HB.out | apply below_alloc | apply pw_below_drewN | apply below_drew1 | refine below_set ?_ GEgb1.out | refine below_set ?_ GEgb39.out) | exact HB.out))); (case sideO => exact Kd.R_kept (S := (fun _ => False)) HR53.out (by repeat (first | (with_reducible first | exact Kept.refl _ _ | apply Kept.alloc | apply Kept.drewN | apply Kept.drew) | exact Kept.refl _ _)) (fun _ _ hs_ => hs_.elim)); rintro e w88 ⟨rfl, ho_, hb_, hm_⟩; refine ⟨_, rfl, ?_⟩; (try clear hczgb1_0); (try clear hfzgb1_0); (try clear hczgb39_0); (try clear hfzgb39_0); obtain ⟨hk_, hs1_⟩ := ev_mark (S := (fun k_ => lo51 ≤ k_ ∧ k_ < hi52)) HS.out hm_ (by repeat (first | (with_reducible first | exact Kept.refl _ _ | apply Kept.alloc | apply Kept.drewN | apply Kept.drew) | exact Kept.refl _ _)); have n0_ := Aside0.mk (Kd.F_kept FA0_0.out hk_ (fun k_ h_ hs_ => by have h1_ : k_ < s0 := h_; obtain ⟨g1_, g2_⟩ := hs_; have := CH.out; omega)); have n1_ := Aside0.mk (Kd.F_kept FA2.out hk_ (fun k_ h_ hs_ => by have h1_ : k_ < s0 := h_; obtain ⟨g1_, g2_⟩ := hs_; have := CH.out; omega)); have n2_ := Aside0.mk (blk_kept BKgb1.out hk_ (fun hs_ => by obtain ⟨g1_, g2_⟩ := hs_; have := CH.out; omega)); have n3_ := Aside0.mk (Kd.S_kept HS11.out hk_ (fun k_ h_ hs_ => by obtain ⟨h1_, h2_⟩ := h_; obtain ⟨g1_, g2_⟩ := hs_; have := CH.out; omega)); have n4_ := Aside0.mk (Kd.R_kept HR19.out hk_ (fun k_ h_ hs_ => by obtain ⟨h1_, h2_⟩ := h_; obtain ⟨g1_, g2_⟩ := hs_; have := CH.out; omega)); have n5_ := Aside0.mk (Kd.R_kept HR29.out hk_ (fun k_ h_ hs_ => by obtain ⟨h1_, h2_⟩ := h_; obtain ⟨g1_, g2_⟩ := hs_; have := CH.out; omega)); have n6_ := Aside0.mk (blk_kept BKgb39.out hk_ (fun hs_ => by obtain ⟨g1_, g2_⟩ := hs_; have := CH.out; omega)); have n7_ := Aside0.mk (Kd.S_kept HS63.out hk_ (fun k_ h_ hs_ => by obtain ⟨h1_, h2_⟩ := h_; obtain ⟨g1_, g2_⟩ := hs_; have := CH.out; omega)); have n8_ := Aside0.mk (Kd.R_kept HR72.out hk_ (fun k_ h_ hs_ => by obtain ⟨h1_, h2_⟩ := h_; obtain ⟨g1_, g2_⟩ := hs_; have := CH.out; omega)); have n9_ := Aside0.mk (Kd.F_kept FM81.out hk_ (fun k_ h_ hs_ => by obtain ⟨h1_, h2_⟩ := h_; obtain ⟨g1_, g2_⟩ := hs_; have := CH.out; omega)); have n10_ := Aside0.mk (Kd.F_kept FM86.out hk_ (fun k_ h_ hs_ => by obtain ⟨h1_, h2_⟩ := h_; obtain ⟨g1_, g2_⟩ := hs_; have := CH.out; omega)); have nB_ := Aside0.mk hb_; have ns_ := Aside0.mk hs1_; clear HB HS FA0_0 FA2 BKgb1 HS11 HR19 HR29 BKgb39 HS63 HR72 FM81 FM86; have FA0_0 := n0_; have FA2 := n1_; have BKgb1 := n2_; have HS11 := n3_; have HR19 := n4_; have HR29 := n5_; have BKgb39 := n6_; have HS63 := n7_; have HR72 := n8_; have FM81 := n9_; have FM86 := n10_; have HB := nB_; have HS := ns_; clear nB_ ns_ n0_ n1_ n2_ n3_ n4_ n5_ n6_ n7_ n8_ n9_ n10_; have hl_ : x23.length = x90.length := (Kd.R_reads' ho_).1; have FM92 := Aside0.mk (Kd.R_F (Kd.R_mono (Kd.R_tight rfl ho_) (fun k_ hk_ => HR53.out.1 k_ hk_.symm))); rw [hl_] at FM92; have HCHR53_ := Aside0.mk (show x90.length ≤ co55 by rw [← hl_]; exact HCHR53.out); have HLFM92 := Aside0.mk hl_; clear ho_ hm_ hb_ hk_ hs1_ hl_ HR53; have hczgb1_0 : w88.cell? ⟨gb1, 0, none⟩ = some (.slice A0_0 l0_0.length c0_0) := (blk_cell BKgb1.out 0).trans rfl; have hfzgb1_0 := blk_frozen BKgb1.out 0; have hczgb39_0 : w88.cell? ⟨gb39, 0, none⟩ = some (.slice Ao37 l0_0.length co38) := (blk_cell BKgb39.out 0).trans rfl; have hfzgb39_0 := blk_frozen BKgb39.out 0; have hnbgb1gb39 : gb1 ≠ gb39 := (by have := CH.out; omega); have hnbgb39gb1 : gb39 ≠ gb1 := (by have := CH.out; omega)) | ((with_reducible refine gate_callee (f := 24) rfl ?_); refine goesL_ (some 90) rfl rfl Try.func24 (by kernel_rfl) rfl #[.slice Ao54 x23.length co55, .int .i64 1] rfl (by (try simp only [List.map_toArray, List.map_cons, List.map_nil]); first | done | rfl | (simp only [List.length_drop, List.length_take]; rfl)) ?_; refine calls_len (args' := #[.slice Ao54 x90.length co55, .int .i64 1]) (by simp only [HLFM92.out]) ?_; (with_reducible refine (laws_heldIntS.calls KE94 _ _ x90 1 x89 _ ?sidehr0 ?sidehc0 E94.out).mono ?_); (case sidehr0 => exact F_at (S := (fun _ => False)) FM92.out (by repeat (first | (with_reducible first | exact Kept.refl _ _ | apply Kept.alloc | apply Kept.drewN | apply Kept.drew) | exact Kept.refl _ _)) (fun _ _ hs_ => hs_.elim)); (case sidehc0 => exact HCHR53_.out); rintro e w93 ⟨rfl, hd_⟩; refine ⟨_, rfl, ?_⟩; have hb_ := hd_.below; (try clear hczgb1_0); (try clear hfzgb1_0); (try clear hczgb39_0); (try clear hfzgb39_0); obtain ⟨hk_, hs1_, hs2_, hw_⟩ := ev_kept (S := (fun _ => False)) HS.out HB.out hb_ (by repeat (first | (with_reducible first | exact Kept.refl _ _ | apply Kept.alloc | apply Kept.drewN | apply Kept.drew) | exact Kept.refl _ _)); have hB_ := below_step (by repeat (first | (with_reducible first | exact HB.out | apply below_alloc | apply pw_below_drewN | apply below_drew1 | refine below_set ?_ GEgb1.out | refine below_set ?_ GEgb39.out) | exact HB.out)) hb_; have n0_ := Aside0.mk (Kd.F_kept FA0_0.out hk_ (fun _ _ hs_ => hs_.elim)); have n1_ := Aside0.mk (Kd.F_kept FA2.out hk_ (fun _ _ hs_ => hs_.elim)); have n2_ := Aside0.mk (blk_below (g := gb1) (o := .cells #[.slice A0_0 l0_0.length c0_0] 24 (0, 0)) (by (with_reducible repeat (first | refine blk_drewN ?_ _ | refine blk_drew ?_ | refine blk_alloc ?_ _)); exact BKgb1.out) hb_); have n3_ := Aside0.mk (Kd.S_kept HS11.out hk_ (fun _ _ hs_ => hs_.elim)); have n4_ := Aside0.mk (Kd.R_kept HR19.out hk_ (fun _ _ hs_ => hs_.elim)); have n5_ := Aside0.mk (Kd.R_kept HR29.out hk_ (fun _ _ hs_ => hs_.elim)); have n6_ := Aside0.mk (blk_below (g := gb39) (o := .cells #[.slice Ao37 l0_0.length co38] 32 (0, 0)) (by (with_reducible repeat (first | refine blk_drewN ?_ _ | refine blk_drew ?_ | refine blk_alloc ?_ _)); exact BKgb39.out) hb_); have n7_ := Aside0.mk (Kd.S_kept HS63.out hk_ (fun _ _ hs_ => hs_.elim)); have n8_ := Aside0.mk (Kd.R_kept HR72.out hk_ (fun _ _ hs_ => hs_.elim)); have n9_ := Aside0.mk (Kd.F_kept FM81.out hk_ (fun _ _ hs_ => hs_.elim)); have n10_ := Aside0.mk (Kd.F_kept FM86.out hk_ (fun _ _ hs_ => hs_.elim)); have n11_ := Aside0.mk (Kd.F_kept FM92.out hk_ (fun _ _ hs_ => hs_.elim)); have ns_ := Aside0.mk (Nat.le_trans (Nat.le_trans hs1_ hs2_) (Nat.le_refl _)); have nB_ := Aside0.mk hB_; clear HB HS FA0_0 FA2 BKgb1 HS11 HR19 HR29 BKgb39 HS63 HR72 FM81 FM86 FM92; have FA0_0 := n0_; have FA2 := n1_; have BKgb1 := n2_; have HS11 := n3_; have HR19 := n4_; have HR29 := n5_; have BKgb39 := n6_; have HS63 := n7_; have HR72 := n8_; have FM81 := n9_; have FM86 := n10_; have FM92 := n11_; have HB := nB_; have HS := ns_; clear nB_ ns_ n0_ n1_ n2_ n3_ n4_ n5_ n6_ n7_ n8_ n9_ n10_ n11_; clear hk_ hs1_ hs2_ hw_ hB_ hb_; clear hd_; have hczgb1_0 : w93.cell? ⟨gb1, 0, none⟩ = some (.slice A0_0 l0_0.length c0_0) := (blk_cell BKgb1.out 0).trans rfl; have hfzgb1_0 := blk_frozen BKgb1.out 0; have hczgb39_0 : w93.cell? ⟨gb39, 0, none⟩ = some (.slice Ao37 l0_0.length co38) := (blk_cell BKgb39.out 0).trans rfl; have hfzgb39_0 := blk_frozen BKgb39.out 0; have hnbgb1gb39 : gb1 ≠ gb39 := (by have := CH.out; omega); have hnbgb39gb1 : gb39 ≠ gb1 := (by have := CH.out; omega)) | ((with_reducible refine gate_callee (f := 11) rfl ?_); refine goesL_ (some 98) rfl rfl Try.func11 (by kernel_rfl) rfl #[.agg #[.slice A0_0 l0_0.length c0_0]] rfl (by (try simp only [List.map_toArray, List.map_cons, List.map_nil]); first | done | rfl | (simp only [List.length_drop, List.length_take]; rfl)) ?_; (with_reducible refine (laws_toGraph.calls KE7 _ _ l0_0 l0_0 _ ?sidehr0_0 ?sidehc0_0 E7.out).mono ?_); (case sidehr0_0 => exact F_at (S := (fun _ => False)) FA0_0.out (by repeat (first | (with_reducible first | exact Kept.refl _ _ | apply Kept.alloc | apply Kept.drewN | apply Kept.drew) | exact Kept.refl _ _)) (fun _ _ hs_ => hs_.elim)); (case sidehc0_0 => exact HC0_0.out); rintro e w95 ⟨v96, rfl, hov0__, hb_⟩; refine ⟨_, rfl, ?_⟩; (try clear hczgb1_0); (try clear hfzgb1_0); (try clear hczgb39_0); (try clear hfzgb39_0); obtain ⟨hk_, hs1_, hs2_, hw_⟩ := ev_kept (S := (fun _ => False)) HS.out HB.out hb_ (by repeat (first | (with_reducible first | exact Kept.refl _ _ | apply Kept.alloc | apply Kept.drewN | apply Kept.drew) | exact Kept.refl _ _)); have hB_ := below_step (by repeat (first | (with_reducible first | exact HB.out | apply below_alloc | apply pw_below_drewN | apply below_drew1 | refine below_set ?_ GEgb1.out | refine below_set ?_ GEgb39.out) | exact HB.out)) hb_; have n0_ := Aside0.mk (Kd.F_kept FA0_0.out hk_ (fun _ _ hs_ => hs_.elim)); have n1_ := Aside0.mk (Kd.F_kept FA2.out hk_ (fun _ _ hs_ => hs_.elim)); have n2_ := Aside0.mk (blk_below (g := gb1) (o := .cells #[.slice A0_0 l0_0.length c0_0] 24 (0, 0)) (by (with_reducible repeat (first | refine blk_drewN ?_ _ | refine blk_drew ?_ | refine blk_alloc ?_ _)); exact BKgb1.out) hb_); have n3_ := Aside0.mk (Kd.S_kept HS11.out hk_ (fun _ _ hs_ => hs_.elim)); have n4_ := Aside0.mk (Kd.R_kept HR19.out hk_ (fun _ _ hs_ => hs_.elim)); have n5_ := Aside0.mk (Kd.R_kept HR29.out hk_ (fun _ _ hs_ => hs_.elim)); have n6_ := Aside0.mk (blk_below (g := gb39) (o := .cells #[.slice Ao37 l0_0.length co38] 32 (0, 0)) (by (with_reducible repeat (first | refine blk_drewN ?_ _ | refine blk_drew ?_ | refine blk_alloc ?_ _)); exact BKgb39.out) hb_); have n7_ := Aside0.mk (Kd.S_kept HS63.out hk_ (fun _ _ hs_ => hs_.elim)); have n8_ := Aside0.mk (Kd.R_kept HR72.out hk_ (fun _ _ hs_ => hs_.elim)); have n9_ := Aside0.mk (Kd.F_kept FM81.out hk_ (fun _ _ hs_ => hs_.elim)); have n10_ := Aside0.mk (Kd.F_kept FM86.out hk_ (fun _ _ hs_ => hs_.elim)); have n11_ := Aside0.mk (Kd.F_kept FM92.out hk_ (fun _ _ hs_ => hs_.elim)); have ns_ := Aside0.mk (Nat.le_trans (Nat.le_trans hs1_ hs2_) (Nat.le_refl _)); have nB_ := Aside0.mk hB_; obtain ⟨lo97, hi98, c1_, c2_, c3_, h_⟩ := S_new hov0__ hs2_ hw_ hs1_; have HS99 := Aside0.mk h_; obtain ⟨Ao100, co101, eo_⟩ := Kd.S_slice HS99.out; subst eo_; have HCHS99 := Aside0.mk (Kd.S_reads' HS99.out).2.1; clear h_ hov0__; have nc_ := Aside0.mk (And.intro c1_ (And.intro c2_ CH.out)); clear CH ns_; have CH := nc_; have ns_ := Aside0.mk c3_; clear nc_ c1_ c2_ c3_; clear HB HS FA0_0 FA2 BKgb1 HS11 HR19 HR29 BKgb39 HS63 HR72 FM81 FM86 FM92; have FA0_0 := n0_; have FA2 := n1_; have BKgb1 := n2_; have HS11 := n3_; have HR19 := n4_; have HR29 := n5_; have BKgb39 := n6_; have HS63 := n7_; have HR72 := n8_; have FM81 := n9_; have FM86 := n10_; have FM92 := n11_; have HB := nB_; have HS := ns_; clear nB_ ns_ n0_ n1_ n2_ n3_ n4_ n5_ n6_ n7_ n8_ n9_ n10_ n11_; clear hk_ hs1_ hs2_ hw_ hB_ hb_; have hczgb1_0 : w95.cell? ⟨gb1, 0, none⟩ = some (.slice A0_0 l0_0.length c0_0) := (blk_cell BKgb1.out 0).trans rfl; have hfzgb1_0 := blk_frozen BKgb1.out 0; have hczgb39_0 : w95.cell? ⟨gb39, 0, none⟩ = some (.slice Ao37 l0_0.length co38) := (blk_cell BKgb39.out 0).trans rfl; have hfzgb39_0 := blk_frozen BKgb39.out 0; have hnbgb1gb39 : gb1 ≠ gb39 := (by have := CH.out; omega); have hnbgb39gb1 : gb39 ≠ gb1 := (by have := CH.out; omega)) | ((with_reducible refine gate_callee (f := 17) rfl ?_); refine goesL_ (some 101) rfl rfl Try.func17 (by kernel_rfl) rfl #[.slice A2 l2.length c2] rfl (by (try simp only [List.map_toArray, List.map_cons, List.map_nil]); first | done | rfl | (simp only [List.length_drop, List.length_take]; rfl)) ?_; (with_reducible refine (laws_toIntS.calls KE15 _ _ l2 l2 _ ?sidehr0 ?sidehc0 E15.out).mono ?_); (case sidehr0 => exact F_at (S := (fun _ => False)) FA2.out (by repeat (first | (with_reducible first | exact Kept.refl _ _ | apply Kept.alloc | apply Kept.drewN | apply Kept.drew) | exact Kept.refl _ _)) (fun _ _ hs_ => hs_.elim)); (case sidehc0 => exact HC2.out); rintro e w102 ⟨v103, rfl, hov0__, hb_⟩; refine ⟨_, rfl, ?_⟩; (try clear hczgb1_0); (try clear hfzgb1_0); (try clear hczgb39_0); (try clear hfzgb39_0); obtain ⟨hk_, hs1_, hs2_, hw_⟩ := ev_kept (S := (fun _ => False)) HS.out HB.out hb_ (by repeat (first | (with_reducible first | exact Kept.refl _ _ | apply Kept.alloc | apply Kept.drewN | apply Kept.drew) | exact Kept.refl _ _)); have hB_ := below_step (by repeat (first | (with_reducible first | exact HB.out | apply below_alloc | apply pw_below_drewN | apply below_drew1 | refine below_set ?_ GEgb1.out | refine below_set ?_ GEgb39.out) | exact HB.out)) hb_; have n0_ := Aside0.mk (Kd.F_kept FA0_0.out hk_ (fun _ _ hs_ => hs_.elim)); have n1_ := Aside0.mk (Kd.F_kept FA2.out hk_ (fun _ _ hs_ => hs_.elim)); have n2_ := Aside0.mk (blk_below (g := gb1) (o := .cells #[.slice A0_0 l0_0.length c0_0] 24 (0, 0)) (by (with_reducible repeat (first | refine blk_drewN ?_ _ | refine blk_drew ?_ | refine blk_alloc ?_ _)); exact BKgb1.out) hb_); have n3_ := Aside0.mk (Kd.S_kept HS11.out hk_ (fun _ _ hs_ => hs_.elim)); have n4_ := Aside0.mk (Kd.R_kept HR19.out hk_ (fun _ _ hs_ => hs_.elim)); have n5_ := Aside0.mk (Kd.R_kept HR29.out hk_ (fun _ _ hs_ => hs_.elim)); have n6_ := Aside0.mk (blk_below (g := gb39) (o := .cells #[.slice Ao37 l0_0.length co38] 32 (0, 0)) (by (with_reducible repeat (first | refine blk_drewN ?_ _ | refine blk_drew ?_ | refine blk_alloc ?_ _)); exact BKgb39.out) hb_); have n7_ := Aside0.mk (Kd.S_kept HS63.out hk_ (fun _ _ hs_ => hs_.elim)); have n8_ := Aside0.mk (Kd.R_kept HR72.out hk_ (fun _ _ hs_ => hs_.elim)); have n9_ := Aside0.mk (Kd.F_kept FM81.out hk_ (fun _ _ hs_ => hs_.elim)); have n10_ := Aside0.mk (Kd.F_kept FM86.out hk_ (fun _ _ hs_ => hs_.elim)); have n11_ := Aside0.mk (Kd.F_kept FM92.out hk_ (fun _ _ hs_ => hs_.elim)); have n12_ := Aside0.mk (Kd.S_kept HS99.out hk_ (fun _ _ hs_ => hs_.elim)); have ns_ := Aside0.mk (Nat.le_trans (Nat.le_trans hs1_ hs2_) (Nat.le_refl _)); have nB_ := Aside0.mk hB_; obtain ⟨lo104, hi105, c1_, c2_, c3_, h_⟩ := R_new hov0__ hs2_ hw_ hs1_; have HR106 := Aside0.mk h_; obtain ⟨Ao107, co108, eo_⟩ := Kd.R_slice HR106.out; subst eo_; have HCHR106 := Aside0.mk (Kd.R_reads' HR106.out).2.1; clear h_ hov0__; have nc_ := Aside0.mk (And.intro c1_ (And.intro c2_ CH.out)); clear CH ns_; have CH := nc_; have ns_ := Aside0.mk c3_; clear nc_ c1_ c2_ c3_; clear HB HS FA0_0 FA2 BKgb1 HS11 HR19 HR29 BKgb39 HS63 HR72 FM81 FM86 FM92 HS99; have FA0_0 := n0_; have FA2 := n1_; have BKgb1 := n2_; have HS11 := n3_; have HR19 := n4_; have HR29 := n5_; have BKgb39 := n6_; have HS63 := n7_; have HR72 := n8_; have FM81 := n9_; have FM86 := n10_; have FM92 := n11_; have HS99 := n12_; have HB := nB_; have HS := ns_; clear nB_ ns_ n0_ n1_ n2_ n3_ n4_ n5_ n6_ n7_ n8_ n9_ n10_ n11_ n12_; clear hk_ hs1_ hs2_ hw_ hB_ hb_; have hczgb1_0 : w102.cell? ⟨gb1, 0, none⟩ = some (.slice A0_0 l0_0.length c0_0) := (blk_cell BKgb1.out 0).trans rfl; have hfzgb1_0 := blk_frozen BKgb1.out 0; have hczgb39_0 : w102.cell? ⟨gb39, 0, none⟩ = some (.slice Ao37 l0_0.length co38) := (blk_cell BKgb39.out 0).trans rfl; have hfzgb39_0 := blk_frozen BKgb39.out 0; have hnbgb1gb39 : gb1 ≠ gb39 := (by have := CH.out; omega); have hnbgb39gb1 : gb39 ≠ gb1 := (by have := CH.out; omega)) | ((with_reducible refine gate_callee (f := 28) rfl ?_); refine goesL_ (some 102) rfl rfl Try.func28 (by kernel_rfl) rfl #[.agg #[.slice Ao100 l0_0.length co101], .int .i64 a1, .slice Ao107 l2.length co108] rfl (by (try simp only [List.map_toArray, List.map_cons, List.map_nil]); first | done | rfl | (simp only [List.length_drop, List.length_take]; rfl)) ?_; (with_reducible refine (impl_TopplesOf.calls KE49 _ _ l0_0 a1 _ _ l2 x23 x24 _ ?sidehr0_0 ?sidehc0_0 ?sidehr2 ?sidehc2 E49.out).mono ?_); (case sidehr0_0 => exact S_now (S := (fun _ => False)) HS99.out (by repeat (first | (with_reducible first | exact Kept.refl _ _ | apply Kept.alloc | apply Kept.drewN | apply Kept.drew) | exact Kept.refl _ _)) (fun _ _ hs_ => hs_.elim)); (case sidehc0_0 => exact HCHS99.out); (case sidehr2 => exact R_now (S := (fun _ => False)) HR106.out (by repeat (first | (with_reducible first | exact Kept.refl _ _ | apply Kept.alloc | apply Kept.drewN | apply Kept.drew) | exact Kept.refl _ _)) (fun _ _ hs_ => hs_.elim)); (case sidehc2 => exact HCHR106.out); rintro e w109 ⟨v110, rfl, hov0__, hb_⟩; refine ⟨_, rfl, ?_⟩; (try clear hczgb1_0); (try clear hfzgb1_0); (try clear hczgb39_0); (try clear hfzgb39_0); obtain ⟨hk_, hs1_, hs2_, hw_⟩ := ev_kept (S := (fun _ => False)) HS.out HB.out hb_ (by repeat (first | (with_reducible first | exact Kept.refl _ _ | apply Kept.alloc | apply Kept.drewN | apply Kept.drew) | exact Kept.refl _ _)); have hB_ := below_step (by repeat (first | (with_reducible first | exact HB.out | apply below_alloc | apply pw_below_drewN | apply below_drew1 | refine below_set ?_ GEgb1.out | refine below_set ?_ GEgb39.out) | exact HB.out)) hb_; have n0_ := Aside0.mk (Kd.F_kept FA0_0.out hk_ (fun _ _ hs_ => hs_.elim)); have n1_ := Aside0.mk (Kd.F_kept FA2.out hk_ (fun _ _ hs_ => hs_.elim)); have n2_ := Aside0.mk (blk_below (g := gb1) (o := .cells #[.slice A0_0 l0_0.length c0_0] 24 (0, 0)) (by (with_reducible repeat (first | refine blk_drewN ?_ _ | refine blk_drew ?_ | refine blk_alloc ?_ _)); exact BKgb1.out) hb_); have n3_ := Aside0.mk (Kd.S_kept HS11.out hk_ (fun _ _ hs_ => hs_.elim)); have n4_ := Aside0.mk (Kd.R_kept HR19.out hk_ (fun _ _ hs_ => hs_.elim)); have n5_ := Aside0.mk (Kd.R_kept HR29.out hk_ (fun _ _ hs_ => hs_.elim)); have n6_ := Aside0.mk (blk_below (g := gb39) (o := .cells #[.slice Ao37 l0_0.length co38] 32 (0, 0)) (by (with_reducible repeat (first | refine blk_drewN ?_ _ | refine blk_drew ?_ | refine blk_alloc ?_ _)); exact BKgb39.out) hb_); have n7_ := Aside0.mk (Kd.S_kept HS63.out hk_ (fun _ _ hs_ => hs_.elim)); have n8_ := Aside0.mk (Kd.R_kept HR72.out hk_ (fun _ _ hs_ => hs_.elim)); have n9_ := Aside0.mk (Kd.F_kept FM81.out hk_ (fun _ _ hs_ => hs_.elim)); have n10_ := Aside0.mk (Kd.F_kept FM86.out hk_ (fun _ _ hs_ => hs_.elim)); have n11_ := Aside0.mk (Kd.F_kept FM92.out hk_ (fun _ _ hs_ => hs_.elim)); have n12_ := Aside0.mk (Kd.S_kept HS99.out hk_ (fun _ _ hs_ => hs_.elim)); have n13_ := Aside0.mk (Kd.R_kept HR106.out hk_ (fun _ _ hs_ => hs_.elim)); have ns_ := Aside0.mk (Nat.le_trans (Nat.le_trans hs1_ hs2_) (Nat.le_refl _)); have nB_ := Aside0.mk hB_; obtain ⟨lo111, hi112, c1_, c2_, c3_, h_⟩ := R_new hov0__ hs2_ hw_ hs1_; have HR113 := Aside0.mk h_; obtain ⟨Ao114, co115, eo_⟩ := Kd.R_slice HR113.out; subst eo_; have HCHR113 := Aside0.mk (Kd.R_reads' HR113.out).2.1; clear h_ hov0__; have nc_ := Aside0.mk (And.intro c1_ (And.intro c2_ CH.out)); clear CH ns_; have CH := nc_; have ns_ := Aside0.mk c3_; clear nc_ c1_ c2_ c3_; clear HB HS FA0_0 FA2 BKgb1 HS11 HR19 HR29 BKgb39 HS63 HR72 FM81 FM86 FM92 HS99 HR106; have FA0_0 := n0_; have FA2 := n1_; have BKgb1 := n2_; have HS11 := n3_; have HR19 := n4_; have HR29 := n5_; have BKgb39 := n6_; have HS63 := n7_; have HR72 := n8_; have FM81 := n9_; have FM86 := n10_; have FM92 := n11_; have HS99 := n12_; have HR106 := n13_; have HB := nB_; have HS := ns_; clear nB_ ns_ n0_ n1_ n2_ n3_ n4_ n5_ n6_ n7_ n8_ n9_ n10_ n11_ n12_ n13_; clear hk_ hs1_ hs2_ hw_ hB_ hb_; have hczgb1_0 : w109.cell? ⟨gb1, 0, none⟩ = some (.slice A0_0 l0_0.length c0_0) := (blk_cell BKgb1.out 0).trans rfl; have hfzgb1_0 := blk_frozen BKgb1.out 0; have hczgb39_0 : w109.cell? ⟨gb39, 0, none⟩ = some (.slice Ao37 l0_0.length co38) := (blk_cell BKgb39.out 0).trans rfl; have hfzgb39_0 := blk_frozen BKgb39.out 0; have hnbgb1gb39 : gb1 ≠ gb39 := (by have := CH.out; omega); have hnbgb39gb1 : gb39 ≠ gb1 := (by have := CH.out; omega)) | ((with_reducible refine gate_callee (f := 19) rfl ?_); refine goesL_ (some 107) rfl rfl Try.func19 (by kernel_rfl) rfl #[.slice Ao114 x23.length co115, .slice Ao30 x23.length co31] rfl (by (try simp only [List.map_toArray, List.map_cons, List.map_nil]); first | done | rfl | (simp only [List.length_drop, List.length_take]; rfl)) ?_; (with_reducible refine (laws_eqIntS.calls KE57 _ _ x23 _ _ x23 true _ ?sidehr0 ?sidehc0 ?sidehr1 ?sidehc1 E57.out).mono ?_); (case sidehr0 => exact R_now (S := (fun _ => False)) HR113.out (by repeat (first | (with_reducible first | exact Kept.refl _ _ | apply Kept.alloc | apply Kept.drewN | apply Kept.drew) | exact Kept.refl _ _)) (fun _ _ hs_ => hs_.elim)); (case sidehc0 => exact HCHR113.out); (case sidehr1 => exact R_now (S := (fun _ => False)) HR29.out (by repeat (first | (with_reducible first | exact Kept.refl _ _ | apply Kept.alloc | apply Kept.drewN | apply Kept.drew) | exact Kept.refl _ _)) (fun _ _ hs_ => hs_.elim)); (case sidehc1 => exact HCHR29.out); rintro e w116 ⟨rfl, hd_⟩; refine ⟨_, rfl, ?_⟩; have hb_ := hd_.below; (try clear hczgb1_0); (try clear hfzgb1_0); (try clear hczgb39_0); (try clear hfzgb39_0); obtain ⟨hk_, hs1_, hs2_, hw_⟩ := ev_kept (S := (fun _ => False)) HS.out HB.out hb_ (by repeat (first | (with_reducible first | exact Kept.refl _ _ | apply Kept.alloc | apply Kept.drewN | apply Kept.drew) | exact Kept.refl _ _)); have hB_ := below_step (by repeat (first | (with_reducible first | exact HB.out | apply below_alloc | apply pw_below_drewN | apply below_drew1 | refine below_set ?_ GEgb1.out | refine below_set ?_ GEgb39.out) | exact HB.out)) hb_; have n0_ := Aside0.mk (Kd.F_kept FA0_0.out hk_ (fun _ _ hs_ => hs_.elim)); have n1_ := Aside0.mk (Kd.F_kept FA2.out hk_ (fun _ _ hs_ => hs_.elim)); have n2_ := Aside0.mk (blk_below (g := gb1) (o := .cells #[.slice A0_0 l0_0.length c0_0] 24 (0, 0)) (by (with_reducible repeat (first | refine blk_drewN ?_ _ | refine blk_drew ?_ | refine blk_alloc ?_ _)); exact BKgb1.out) hb_); have n3_ := Aside0.mk (Kd.S_kept HS11.out hk_ (fun _ _ hs_ => hs_.elim)); have n4_ := Aside0.mk (Kd.R_kept HR19.out hk_ (fun _ _ hs_ => hs_.elim)); have n5_ := Aside0.mk (Kd.R_kept HR29.out hk_ (fun _ _ hs_ => hs_.elim)); have n6_ := Aside0.mk (blk_below (g := gb39) (o := .cells #[.slice Ao37 l0_0.length co38] 32 (0, 0)) (by (with_reducible repeat (first | refine blk_drewN ?_ _ | refine blk_drew ?_ | refine blk_alloc ?_ _)); exact BKgb39.out) hb_); have n7_ := Aside0.mk (Kd.S_kept HS63.out hk_ (fun _ _ hs_ => hs_.elim)); have n8_ := Aside0.mk (Kd.R_kept HR72.out hk_ (fun _ _ hs_ => hs_.elim)); have n9_ := Aside0.mk (Kd.F_kept FM81.out hk_ (fun _ _ hs_ => hs_.elim)); have n10_ := Aside0.mk (Kd.F_kept FM86.out hk_ (fun _ _ hs_ => hs_.elim)); have n11_ := Aside0.mk (Kd.F_kept FM92.out hk_ (fun _ _ hs_ => hs_.elim)); have n12_ := Aside0.mk (Kd.S_kept HS99.out hk_ (fun _ _ hs_ => hs_.elim)); have n13_ := Aside0.mk (Kd.R_kept HR106.out hk_ (fun _ _ hs_ => hs_.elim)); have n14_ := Aside0.mk (Kd.R_kept HR113.out hk_ (fun _ _ hs_ => hs_.elim)); have ns_ := Aside0.mk (Nat.le_trans (Nat.le_trans hs1_ hs2_) (Nat.le_refl _)); have nB_ := Aside0.mk hB_; clear HB HS FA0_0 FA2 BKgb1 HS11 HR19 HR29 BKgb39 HS63 HR72 FM81 FM86 FM92 HS99 HR106 HR113; have FA0_0 := n0_; have FA2 := n1_; have BKgb1 := n2_; have HS11 := n3_; have HR19 := n4_; have HR29 := n5_; have BKgb39 := n6_; have HS63 := n7_; have HR72 := n8_; have FM81 := n9_; have FM86 := n10_; have FM92 := n11_; have HS99 := n12_; have HR106 := n13_; have HR113 := n14_; have HB := nB_; have HS := ns_; clear nB_ ns_ n0_ n1_ n2_ n3_ n4_ n5_ n6_ n7_ n8_ n9_ n10_ n11_ n12_ n13_ n14_; clear hk_ hs1_ hs2_ hw_ hB_ hb_; clear hd_; have hczgb1_0 : w116.cell? ⟨gb1, 0, none⟩ = some (.slice A0_0 l0_0.length c0_0) := (blk_cell BKgb1.out 0).trans rfl; have hfzgb1_0 := blk_frozen BKgb1.out 0; have hczgb39_0 : w116.cell? ⟨gb39, 0, none⟩ = some (.slice Ao37 l0_0.length co38) := (blk_cell BKgb39.out 0).trans rfl; have hfzgb39_0 := blk_frozen BKgb39.out 0; have hnbgb1gb39 : gb1 ≠ gb39 := (by have := CH.out; omega); have hnbgb39gb1 : gb39 ≠ gb1 := (by have := CH.out; omega)) | ((with_reducible refine gate_callee (f := 24) rfl ?_); refine goesL_ (some 116) rfl rfl Try.func24 (by kernel_rfl) rfl #[.slice Ao54 x23.length co55, .int .i64 1] rfl (by (try simp only [List.map_toArray, List.map_cons, List.map_nil]); first | done | rfl | (simp only [List.length_drop, List.length_take]; rfl)) ?_; refine calls_len (args' := #[.slice Ao54 x90.length co55, .int .i64 1]) (by simp only [HLFM92.out]) ?_; (with_reducible refine (laws_heldIntS.calls KE94 _ _ x90 1 x89 _ ?sidehr0 ?sidehc0 E94.out).mono ?_); (case sidehr0 => exact F_at (S := (fun _ => False)) FM92.out (by repeat (first | (with_reducible first | exact Kept.refl _ _ | apply Kept.alloc | apply Kept.drewN | apply Kept.drew) | exact Kept.refl _ _)) (fun _ _ hs_ => hs_.elim)); (case sidehc0 => exact HCHR53_.out); rintro e w117 ⟨rfl, hd_⟩; refine ⟨_, rfl, ?_⟩; have hb_ := hd_.below; (try clear hczgb1_0); (try clear hfzgb1_0); (try clear hczgb39_0); (try clear hfzgb39_0); obtain ⟨hk_, hs1_, hs2_, hw_⟩ := ev_kept (S := (fun _ => False)) HS.out HB.out hb_ (by repeat (first | (with_reducible first | exact Kept.refl _ _ | apply Kept.alloc | apply Kept.drewN | apply Kept.drew) | exact Kept.refl _ _)); have hB_ := below_step (by repeat (first | (with_reducible first | exact HB.out | apply below_alloc | apply pw_below_drewN | apply below_drew1 | refine below_set ?_ GEgb1.out | refine below_set ?_ GEgb39.out) | exact HB.out)) hb_; have n0_ := Aside0.mk (Kd.F_kept FA0_0.out hk_ (fun _ _ hs_ => hs_.elim)); have n1_ := Aside0.mk (Kd.F_kept FA2.out hk_ (fun _ _ hs_ => hs_.elim)); have n2_ := Aside0.mk (blk_below (g := gb1) (o := .cells #[.slice A0_0 l0_0.length c0_0] 24 (0, 0)) (by (with_reducible repeat (first | refine blk_drewN ?_ _ | refine blk_drew ?_ | refine blk_alloc ?_ _)); exact BKgb1.out) hb_); have n3_ := Aside0.mk (Kd.S_kept HS11.out hk_ (fun _ _ hs_ => hs_.elim)); have n4_ := Aside0.mk (Kd.R_kept HR19.out hk_ (fun _ _ hs_ => hs_.elim)); have n5_ := Aside0.mk (Kd.R_kept HR29.out hk_ (fun _ _ hs_ => hs_.elim)); have n6_ := Aside0.mk (blk_below (g := gb39) (o := .cells #[.slice Ao37 l0_0.length co38] 32 (0, 0)) (by (with_reducible repeat (first | refine blk_drewN ?_ _ | refine blk_drew ?_ | refine blk_alloc ?_ _)); exact BKgb39.out) hb_); have n7_ := Aside0.mk (Kd.S_kept HS63.out hk_ (fun _ _ hs_ => hs_.elim)); have n8_ := Aside0.mk (Kd.R_kept HR72.out hk_ (fun _ _ hs_ => hs_.elim)); have n9_ := Aside0.mk (Kd.F_kept FM81.out hk_ (fun _ _ hs_ => hs_.elim)); have n10_ := Aside0.mk (Kd.F_kept FM86.out hk_ (fun _ _ hs_ => hs_.elim)); have n11_ := Aside0.mk (Kd.F_kept FM92.out hk_ (fun _ _ hs_ => hs_.elim)); have n12_ := Aside0.mk (Kd.S_kept HS99.out hk_ (fun _ _ hs_ => hs_.elim)); have n13_ := Aside0.mk (Kd.R_kept HR106.out hk_ (fun _ _ hs_ => hs_.elim)); have n14_ := Aside0.mk (Kd.R_kept HR113.out hk_ (fun _ _ hs_ => hs_.elim)); have ns_ := Aside0.mk (Nat.le_trans (Nat.le_trans hs1_ hs2_) (Nat.le_refl _)); have nB_ := Aside0.mk hB_; clear HB HS FA0_0 FA2 BKgb1 HS11 HR19 HR29 BKgb39 HS63 HR72 FM81 FM86 FM92 HS99 HR106 HR113; have FA0_0 := n0_; have FA2 := n1_; have BKgb1 := n2_; have HS11 := n3_; have HR19 := n4_; have HR29 := n5_; have BKgb39 := n6_; have HS63 := n7_; have HR72 := n8_; have FM81 := n9_; have FM86 := n10_; have FM92 := n11_; have HS99 := n12_; have HR106 := n13_; have HR113 := n14_; have HB := nB_; have HS := ns_; clear nB_ ns_ n0_ n1_ n2_ n3_ n4_ n5_ n6_ n7_ n8_ n9_ n10_ n11_ n12_ n13_ n14_; clear hk_ hs1_ hs2_ hw_ hB_ hb_; clear hd_; have hczgb1_0 : w117.cell? ⟨gb1, 0, none⟩ = some (.slice A0_0 l0_0.length c0_0) := (blk_cell BKgb1.out 0).trans rfl; have hfzgb1_0 := blk_frozen BKgb1.out 0; have hczgb39_0 : w117.cell? ⟨gb39, 0, none⟩ = some (.slice Ao37 l0_0.length co38) := (blk_cell BKgb39.out 0).trans rfl; have hfzgb39_0 := blk_frozen BKgb39.out 0; have hnbgb1gb39 : gb1 ≠ gb39 := (by have := CH.out; omega); have hnbgb39gb1 : gb39 ≠ gb1 := (by have := CH.out; omega)))
  go_ret
  exact ⟨by first | rfl | (simp; done), by repeat (first | (with_reducible first | exact HB.out | apply below_alloc | apply pw_below_drewN | apply below_drew1 | refine below_set ?_ GEgb1.out | refine below_set ?_ GEgb39.out) | exact HB.out)⟩

end Go.Proofs.Ytcmfcleeohcgaab.P
namespace Go.Proofs.Ytcmfcleeohcgaab.M
open Go.RowKit Go.Proofs.Ytcmfcleeohcgaab.P Go.Proofs.Ytcmfcleeohcgaab.In Go.Proofs.YtcmfcleeohcgaabW.PrintWords Go.Proofs.YtcmfcleeohcgaabW.PrintLast
set_option linter.unusedVariables false
set_option linter.unusedSimpArgs false
/-! numbers -/
theorem wrap_id {x : Int} (h : -9223372036854775808 ≤ x ∧ x ≤ 9223372036854775807) : wrap64 x = x := by unfold wrap64; omega
theorem wrap_nat {n : Nat} (h : n < 9223372036854775807) : wrap64 ((n : Int) + 1) = ((n + 1 : Nat) : Int) := by unfold wrap64; omega
theorem rd_at {l : List Int} {n : Nat} (h : n < l.length) : rd l (n : Int) = l[n] := by simp [rd, h]
theorem rdL_at {l : List (List Int)} {n : Nat} (h : n < l.length) : rd_L1 l (n : Int) = l[n] := by simp [rd_L1, h]
theorem _root_.Go.Proofs.YtcmfcleeohcgaabW.PrintWords.Ev.val {α : Type} {g : Nat → Option α} {r r' : α} (h : Ev g r) (e : r = r') : Ev g r' := e ▸ h
theorem _root_.Go.Proofs.YtcmfcleeohcgaabW.PrintWords.Ev.const {α : Type} {g : Nat → Option α} {r : α} (h : ∀ k, g k = some r) : Ev g r := ⟨0, fun k _ => h k⟩
theorem _root_.Go.Proofs.YtcmfcleeohcgaabW.PrintWords.Ev.const1 {α : Type} {g : Nat → Option α} {r : α} (h : ∀ k, g (k + 1) = some r) : Ev g r := Ev.step (f := fun _ => some r) h (Ev.const fun _ => rfl)
theorem _root_.Go.Proofs.YtcmfcleeohcgaabW.PrintWords.Ev.succ {α : Type} {g : Nat → Option α} {r : α} (h : Ev (fun k => g (k + 1)) r) : Ev g r := Ev.step (f := fun k => g (k + 1)) (fun _ => rfl) h
theorem _root_.Go.Proofs.YtcmfcleeohcgaabW.PrintWords.Ev.uniq {α : Type} {g : Nat → Option α} {r r' : α} (h : Ev g r) (h' : Ev g r') : r = r' := by
  obtain ⟨K, hK⟩ := h
  obtain ⟨K', hK'⟩ := h'
  have := (hK (max K K') (Nat.le_max_left _ _)).symm.trans (hK' (max K K') (Nat.le_max_right _ _))
  exact Option.some.inj this
theorem _root_.Go.Proofs.YtcmfcleeohcgaabW.PrintWords.Ev.bind0 {α β : Type} {g : Option α} {f : Nat → α → Option β} {a : α} {r : β} (h : g = some a) (k : Ev (fun n => f n a) r) : Ev (fun n => g.bind (f n)) r := by
  subst h; exact k
theorem _root_.Go.Proofs.YtcmfcleeohcgaabW.PrintWords.Ev.pos {α : Type} {g f : Nat → Option α} {r : α} {c : Prop} [Decidable c] (h : c) (k : Ev g r) : Ev (fun n => if c then g n else f n) r := by
  simp only [if_pos h]; exact k
theorem _root_.Go.Proofs.YtcmfcleeohcgaabW.PrintWords.Ev.neg {α : Type} {g f : Nat → Option α} {r : α} {c : Prop} [Decidable c] (h : ¬ c) (k : Ev f r) : Ev (fun n => if c then g n else f n) r := by
  simp only [if_neg h]; exact k

/-! copies -/
theorem toIntS_l0 (l : List Int) (hl : l.length < 9223372036854775807) : ∀ (d i : Nat) (y : List Int), l.length - i = d → i ≤ l.length → y.length = l.length → y.take i = l.take i → Ev (fun k => laws_toIntS.l0 k l y i) l := by
  intro d
  induction d with
  | zero =>
    intro i y hd hi hy ht
    have : i = l.length := by omega
    subst this
    refine Ev.const1 (fun k => ?_)
    simp only [laws_toIntS.l0]
    rw [if_neg (by omega)]
    rw [List.take_of_length_le (by omega), List.take_of_length_le (by omega)] at ht
    rw [ht]
  | succ d ih =>
    intro i y hd hi hy ht
    have hlt : i < l.length := by omega
    refine Ev.step (f := fun k => laws_toIntS.l0 k l (y.set i l[i]) (i + 1 : Nat)) (fun k => ?_) (ih (i + 1) (y.set i l[i]) (by omega) (by omega) (by rw [List.length_set]; exact hy) ?_)
    · simp only [laws_toIntS.l0]
      rw [if_pos (by omega), if_pos (by omega), if_pos (by omega), wrap_nat (by omega), rd_at hlt, Int.toNat_natCast]
    · rw [List.take_succ_eq_append_getElem (by rw [List.length_set]; omega), List.take_succ_eq_append_getElem hlt, List.take_set_of_le (Nat.le_refl _), ht, List.getElem_set_self]
theorem toIntS (l : List Int) (hl : l.length ≤ 35184372088832) : Ev (fun k => laws_toIntS.f k l) l := by
  unfold laws_toIntS.f
  refine Ev.pos (by omega) (Ev.pos (by omega) ?_)
  exact toIntS_l0 l (by omega) l.length 0 _ (by omega) (by omega) (by simp) (by simp)
theorem toIntSS_l0 (l : List (List Int)) (hl : l.length < 9223372036854775807) (hr : ∀ row ∈ l, row.length ≤ 35184372088832) : ∀ (d i : Nat) (y : List (List Int)), l.length - i = d → i ≤ l.length → y.length = l.length → y.take i = l.take i → Ev (fun k => laws_toIntSS.l0 k l y i) l := by
  intro d
  induction d with
  | zero =>
    intro i y hd hi hy ht
    have : i = l.length := by omega
    subst this
    refine Ev.const1 (fun k => ?_)
    simp only [laws_toIntSS.l0]
    rw [if_neg (by omega)]
    rw [List.take_of_length_le (by omega), List.take_of_length_le (by omega)] at ht
    rw [ht]
  | succ d ih =>
    intro i y hd hi hy ht
    have hlt : i < l.length := by omega
    refine Ev.step (f := fun k => (laws_toIntS.f k l[i]).bind fun t => laws_toIntSS.l0 k l (y.set i t) (i + 1 : Nat)) (fun k => ?_) (Ev.bind (toIntS l[i] (hr _ (List.getElem_mem hlt))) (ih (i + 1) (y.set i l[i]) (by omega) (by omega) (by rw [List.length_set]; exact hy) ?_))
    · simp only [laws_toIntSS.l0]
      rw [if_pos (by omega), if_pos (by omega), wrap_nat (by omega), rdL_at hlt, Int.toNat_natCast]
      congr 1
      funext t
      rw [if_pos (by omega)]
    · rw [List.take_succ_eq_append_getElem (by rw [List.length_set]; omega), List.take_succ_eq_append_getElem hlt, List.take_set_of_le (Nat.le_refl _), ht, List.getElem_set_self]
theorem toIntSS (l : List (List Int)) (hl : l.length ≤ 11728124029610) (hr : ∀ row ∈ l, row.length ≤ 35184372088832) : Ev (fun k => laws_toIntSS.f k l) l := by
  unfold laws_toIntSS.f
  refine Ev.pos (by omega) (Ev.pos (by omega) ?_)
  exact toIntSS_l0 l (by omega) hr l.length 0 _ (by omega) (by omega) (by simp) (by simp)
/-- A graph that is small enough for a law to look at it. -/
def small (l : List (List Int)) : Prop := l.length ≤ 1048576 ∧ ∀ row ∈ l, row.length ≤ 1048576
theorem toGraph (l : List (List Int)) (h : small l) : Ev (fun k => laws_toGraph.f k l) l := by
  unfold laws_toGraph.f
  exact Ev.bind (toIntSS l (by have := h.1; omega) (fun row hr => by have := h.2 row hr; omega)) (Ev.now _)

/-! sizes -/
theorem szIntSS_l0 (l : List (List Int)) (hl : okSS l) : ∀ (d i : Nat) (a : Int), l.length - i = d → i ≤ l.length → 0 ≤ a → a ≤ 1048576 → ∃ r, Ev (fun k => laws_szIntSS.l0 k l a i) r ∧ r ≤ 1048576 ∧ (0 ≤ r → ∀ j (hj : j < l.length), i ≤ j → l[j].length ≤ 1048576) := by
  intro d
  induction d with
  | zero =>
    intro i a hd hi h0 h1
    refine ⟨a, Ev.const1 (fun k => ?_), h1, fun _ j hj hij => by omega⟩
    simp only [laws_szIntSS.l0]
    rw [if_neg (by omega)]
  | succ d ih =>
    intro i a hd hi h0 h1
    have hlt : i < l.length := by omega
    have hll := hl.1
    have hrow := (hl.2 _ (List.getElem_mem hlt)).1
    by_cases hneg : a - (l[i].length : Int) < 0
    · refine ⟨-1, Ev.const1 (fun k => ?_), by omega, fun h => by omega⟩
      simp only [laws_szIntSS.l0, laws_szIntS.f]
      rw [if_pos (by omega), if_pos (by omega), rdL_at hlt, if_pos (by rw [wrap_id (by omega)]; exact hneg)]
      rfl
    · obtain ⟨r, h2, h3, h4⟩ := ih (i + 1) (a - (l[i].length : Int)) (by omega) (by omega) (by omega) (by omega)
      refine ⟨r, Ev.step (fun k => ?_) h2, h3, fun h j hj hij => ?_⟩
      · simp only [laws_szIntSS.l0, laws_szIntS.f]
        rw [if_pos (by omega), if_pos (by omega), rdL_at hlt, wrap_id (by omega), if_neg hneg, wrap_nat (by omega)]
        simp only [Option.bind_some]
        rw [if_neg hneg]
      · by_cases e : j = i
        · subst e; omega
        · exact h4 h j hj (by omega)
theorem szGraph (l : List (List Int)) (hl : okSS l) : ∃ r, Ev (fun k => laws_szGraph.f k l 1048576) r ∧ r ≤ 1048576 ∧ (0 ≤ r → small l) := by
  have hll := hl.1
  unfold laws_szGraph.f laws_szIntSS.f
  rw [wrap_id (by omega)]
  by_cases h : (1048576 : Int) - (l.length : Int) < 0
  · exact ⟨-1, Ev.bind (Ev.pos h (Ev.now _)) (Ev.pos (by omega) (Ev.now _)), by omega, fun h => by omega⟩
  · obtain ⟨r, h2, h3, h4⟩ := szIntSS_l0 l hl l.length 0 (1048576 - (l.length : Int)) (by omega) (by omega) (by omega) (by omega)
    by_cases hr : r < 0
    · exact ⟨-1, Ev.bind (Ev.neg h h2) (Ev.pos hr (Ev.now _)), by omega, fun h => by omega⟩
    · refine ⟨r, Ev.bind (Ev.neg h h2) (Ev.neg hr (Ev.now _)), h3, fun h0 => ⟨by omega, fun row hrow => ?_⟩⟩
      obtain ⟨j, hj, rfl⟩ := List.getElem_of_mem hrow
      exact h4 h0 j hj (Nat.zero_le _)

/-! comparisons -/
theorem cons_dec {α : Type} [DecidableEq α] {a b : α} {l m : List α} (e : a = b) : decide (l = m) = decide (a :: l = b :: m) := by
  subst e; exact decide_eq_decide.mpr ⟨fun h => by rw [h], fun h => (List.cons.inj h).2⟩
theorem eqIntS_l0 (x y : List Int) (hl : x.length ≤ 9223372036854775807) (hxy : x.length = y.length) : ∀ (d i : Nat), x.length - i = d → i ≤ x.length → Ev (fun k => laws_eqIntS.l0 k x y i) (decide (x.drop i = y.drop i)) := by
  intro d
  induction d with
  | zero =>
    intro i hd hi
    refine Ev.const1 (fun k => ?_)
    simp only [laws_eqIntS.l0]
    rw [if_neg (by omega), List.drop_of_length_le (by omega), List.drop_of_length_le (by omega)]
    simp
  | succ d ih =>
    intro i hd hi
    have hlt : i < x.length := by omega
    have hlt2 : i < y.length := by omega
    rw [List.drop_eq_getElem_cons hlt, List.drop_eq_getElem_cons hlt2]
    by_cases e : x[i] = y[i]
    · refine Ev.step (f := fun k => laws_eqIntS.l0 k x y (i + 1 : Nat)) (fun k => ?_) ((ih (i + 1) (by omega) (by omega)).val (cons_dec e))
      simp only [laws_eqIntS.l0]
      rw [if_pos (by omega), if_pos (by omega), if_pos (by omega), rd_at hlt, rd_at hlt2, if_pos e, wrap_nat (by omega)]
    · refine Ev.const1 (fun k => ?_)
      simp only [laws_eqIntS.l0]
      rw [if_pos (by omega), if_pos (by omega), if_pos (by omega), rd_at hlt, rd_at hlt2, if_neg e, decide_eq_false (fun h => e (List.cons.inj h).1)]
theorem eqIntS (x y : List Int) (hl : x.length ≤ 9223372036854775807) : Ev (fun k => laws_eqIntS.f k x y) (decide (x = y)) := by
  unfold laws_eqIntS.f
  by_cases h : x.length = y.length
  · refine Ev.pos (by omega) ?_
    exact eqIntS_l0 x y hl h x.length 0 (by omega) (by omega)
  · refine Ev.neg (by omega) ?_
    exact (Ev.now _).val (by have : x ≠ y := fun e => h (by rw [e]); simp [this])
theorem eqIntSS_l0 (x y : List (List Int)) (hl : x.length ≤ 9223372036854775807) (hr : ∀ row ∈ x, row.length ≤ 9223372036854775807) (hxy : x.length = y.length) : ∀ (d i : Nat), x.length - i = d → i ≤ x.length → Ev (fun k => laws_eqIntSS.l0 k x y i) (decide (x.drop i = y.drop i)) := by
  intro d
  induction d with
  | zero =>
    intro i hd hi
    refine Ev.const1 (fun k => ?_)
    simp only [laws_eqIntSS.l0]
    rw [if_neg (by omega), List.drop_of_length_le (by omega), List.drop_of_length_le (by omega)]
    simp
  | succ d ih =>
    intro i hd hi
    have hlt : i < x.length := by omega
    have hlt2 : i < y.length := by omega
    rw [List.drop_eq_getElem_cons hlt, List.drop_eq_getElem_cons hlt2]
    refine Ev.step (f := fun k => (laws_eqIntS.f k x[i] y[i]).bind fun t => if t = true then laws_eqIntSS.l0 k x y (i + 1 : Nat) else some false) (fun k => ?_) ?_
    · simp only [laws_eqIntSS.l0]
      rw [if_pos (by omega), if_pos (by omega), if_pos (by omega), rdL_at hlt, rdL_at hlt2, wrap_nat (by omega)]
    · by_cases e : x[i] = y[i]
      · exact Ev.bind ((eqIntS x[i] y[i] (hr _ (List.getElem_mem hlt))).val (decide_eq_true e)) (Ev.pos rfl ((ih (i + 1) (by omega) (by omega)).val (cons_dec e)))
      · exact Ev.bind ((eqIntS x[i] y[i] (hr _ (List.getElem_mem hlt))).val (decide_eq_false e)) (Ev.neg (by simp) ((Ev.now _).val (decide_eq_false (fun h => e (List.cons.inj h).1)).symm))
theorem eqIntSS (x y : List (List Int)) (hl : x.length ≤ 9223372036854775807) (hr : ∀ row ∈ x, row.length ≤ 9223372036854775807) : Ev (fun k => laws_eqIntSS.f k x y) (decide (x = y)) := by
  unfold laws_eqIntSS.f
  by_cases h : x.length = y.length
  · refine Ev.pos (by omega) ?_
    exact eqIntSS_l0 x y hl hr h x.length 0 (by omega) (by omega)
  · refine Ev.neg (by omega) ?_
    exact (Ev.now _).val (by have : x ≠ y := fun e => h (by rw [e]); simp [this])
theorem eqGraph (x y : List (List Int)) (hl : x.length ≤ 9223372036854775807) (hr : ∀ row ∈ x, row.length ≤ 9223372036854775807) : Ev (fun k => laws_eqGraph.f k x y) (decide (x = y)) := by
  unfold laws_eqGraph.f
  refine Ev.bind (eqIntSS x y hl hr) ?_
  by_cases e : x = y
  · exact Ev.pos (decide_eq_true e) ((Ev.now _).val (decide_eq_true e).symm)
  · exact Ev.neg (by simp [e]) ((Ev.now _).val (decide_eq_false e).symm)
theorem small_eq (l : List (List Int)) (h : small l) : Ev (fun k => laws_eqGraph.f k l l) true := (eqGraph l l (by have := h.1; omega) (fun row hr => by have := h.2 row hr; omega)).val (decide_eq_true rfl)

/-! what a graph is -/
theorem l1In (a lo hi : Int) : spec_l1In.f a lo hi = some (decide (lo ≤ a) && decide (a ≤ hi)) := by
  unfold spec_l1In.f
  by_cases h : a ≥ lo
  · rw [if_pos h]; have : lo ≤ a := h; simp [this]
  · rw [if_neg h]; have : ¬ lo ≤ a := h; simp [this]
theorem implin (a lo hi : Int) : impl_in.f a lo hi = some (decide (lo ≤ a) && decide (a ≤ hi)) := by
  unfold impl_in.f
  by_cases h : lo ≤ a
  · rw [if_pos h]; simp [h]
  · rw [if_neg h]; simp [h]
theorem l1All_l0 (l : List Int) (lo hi : Int) (hl : l.length ≤ 9223372036854775807) : ∀ (d i : Nat), l.length - i = d → i ≤ l.length → Ev (fun k => spec_l1All.l0 k lo hi l l.length i) ((l.drop i).all fun x => decide (lo ≤ x) && decide (x ≤ hi)) := by
  intro d
  induction d with
  | zero =>
    intro i hd hi
    refine Ev.const1 (fun k => ?_)
    simp only [spec_l1All.l0]
    rw [if_neg (by omega), List.drop_of_length_le (by omega)]
    rfl
  | succ d ih =>
    intro i hd hi'
    have hlt : i < l.length := by omega
    rw [List.drop_eq_getElem_cons hlt, List.all_cons]
    by_cases e : (decide (lo ≤ l[i]) && decide (l[i] ≤ hi)) = true
    · refine Ev.step (f := fun k => spec_l1All.l0 k lo hi l l.length (i + 1 : Nat)) (fun k => ?_) ((ih (i + 1) (by omega) (by omega)).val (by rw [e]; simp))
      simp only [spec_l1All.l0, l1In]
      rw [if_pos (by omega), if_pos (by omega), if_pos (by omega), rd_at hlt, wrap_nat (by omega)]
      simp only [Option.bind_some]
      rw [if_pos e]
    · refine Ev.const1 (fun k => ?_)
      simp only [spec_l1All.l0, l1In]
      rw [if_pos (by omega), if_pos (by omega), if_pos (by omega), rd_at hlt]
      simp only [Option.bind_some]
      rw [if_neg e]
      simp only [Bool.not_eq_true] at e
      rw [e]; rfl
theorem l1All (l : List Int) (lo hi : Int) (hl : l.length ≤ 9223372036854775807) : Ev (fun k => spec_l1All.f k l lo hi) (l.all fun x => decide (lo ≤ x) && decide (x ≤ hi)) := by
  unfold spec_l1All.f
  exact l1All_l0 l lo hi hl l.length 0 (by omega) (by omega)
theorem grGood_l0 (l : List (List Int)) (hl : okSS l) : ∀ (d i : Nat), l.length - i = d → i ≤ l.length → Ev (fun k => spec_grGood.l0 k l.length l l.length i) ((l.drop i).all (goodRow l.length)) := by
  intro d
  induction d with
  | zero =>
    intro i hd hi
    refine Ev.const1 (fun k => ?_)
    simp only [spec_grGood.l0]
    rw [if_neg (by omega), List.drop_of_length_le (by omega)]
    rfl
  | succ d ih =>
    intro i hd hi'
    have hlt : i < l.length := by omega
    have hll := hl.1
    have hrow := (hl.2 _ (List.getElem_mem hlt)).1
    rw [List.drop_eq_getElem_cons hlt, List.all_cons]
    by_cases h5 : l[i].length ≤ 5
    · refine Ev.step (f := fun k => (spec_l1All.f k l[i] 0 ((l.length : Int) - 1)).bind fun t => if t = true then spec_grGood.l0 k l.length l l.length (i + 1 : Nat) else some false) (fun k => ?_) ?_
      · simp only [spec_grGood.l0]
        rw [if_pos (by omega), if_pos (by omega), if_pos (by omega), rdL_at hlt, if_neg (by omega), wrap_nat (by omega), wrap_id (by omega)]
      · by_cases e : (l[i].all fun x => decide (0 ≤ x) && decide (x ≤ (l.length : Int) - 1)) = true
        · exact Ev.bind ((l1All _ 0 _ hrow).val e) (Ev.pos rfl ((ih (i + 1) (by omega) (by omega)).val (by unfold goodRow; rw [e]; simp [h5])))
        · exact Ev.bind ((l1All _ 0 _ hrow).val (Bool.eq_false_iff.mpr e)) (Ev.neg (by simp) ((Ev.now _).val (by unfold goodRow; simp only [Bool.not_eq_true] at e; rw [e]; simp)))
    · refine Ev.const1 (fun k => ?_)
      simp only [spec_grGood.l0]
      rw [if_pos (by omega), if_pos (by omega), if_pos (by omega), rdL_at hlt, if_pos (by omega)]
      simp [goodRow, h5]
theorem grGood (l : List (List Int)) (hl : okSS l) : Ev (fun k => spec_grGood.f k l) (goodG l) := by
  unfold spec_grGood.f
  rw [l1In]
  simp only [Option.bind_some]
  by_cases h : 1 ≤ l.length ∧ l.length ≤ 8
  · have h1 : (1 : Int) ≤ l.length := by omega
    have h2 : (l.length : Int) ≤ 8 := by omega
    refine Ev.pos (by simp [h1, h2]) ?_
    exact (grGood_l0 l hl l.length 0 (by omega) (by omega)).val (by simp [goodG, h.1, h.2])
  · refine Ev.neg (by simp; omega) ((Ev.now _).val ?_)
    unfold goodG
    by_cases h1 : 1 ≤ l.length
    · have h2 : ¬ l.length ≤ 8 := by omega
      simp [h1, h2]
    · simp [h1]
theorem ok_small {l : List (List Int)} (h : okSS l) : l.length ≤ 9223372036854775807 ∧ ∀ row ∈ l, row.length ≤ 9223372036854775807 := ⟨h.1, fun row hr => (h.2 row hr).1⟩
end Go.Proofs.Ytcmfcleeohcgaab.M
namespace Go.Proofs.Ytcmfcleeohcgaab.M
open Go.RowKit Go.Proofs.Ytcmfcleeohcgaab.P Go.Proofs.Ytcmfcleeohcgaab.In Go.Proofs.YtcmfcleeohcgaabW.PrintWords Go.Proofs.YtcmfcleeohcgaabW.PrintLast
set_option linter.unusedVariables false
set_option linter.unusedSimpArgs false
theorem good_iff {l : List (List Int)} (h : goodG l = true) : (1 ≤ l.length ∧ l.length ≤ 8) ∧ ∀ row ∈ l, row.length ≤ 5 ∧ ∀ q ∈ row, 0 ≤ q ∧ q < (l.length : Int) := by
  simp only [goodG, goodRow, Bool.and_eq_true, decide_eq_true_eq, List.all_eq_true] at h
  refine ⟨⟨h.1, h.2.1⟩, fun row hr => ⟨(h.2.2 row hr).1, fun q hq => ?_⟩⟩
  have := (h.2.2 row hr).2 q hq
  omega
/-- A place of a graph. -/
def placeB (l : List (List Int)) (p : Int) : Bool := goodG l && (decide (0 ≤ p) && decide (p ≤ (l.length : Int) - 1))
theorem place_iff {l : List (List Int)} {p : Int} (h : placeB l p = true) : goodG l = true ∧ 0 ≤ p ∧ p < (l.length : Int) := by
  simp only [placeB, Bool.and_eq_true, decide_eq_true_eq] at h
  exact ⟨h.1, h.2.1, by omega⟩
theorem grPlace (l : List (List Int)) (p : Int) (hl : okSS l) : Ev (fun k => spec_grPlace.f k l p) (placeB l p) := by
  unfold spec_grPlace.f
  have hll := hl.1
  refine Ev.bind (grGood l hl) ?_
  by_cases h : goodG l = true
  · refine Ev.pos h ?_
    rw [l1In, wrap_id (by omega)]
    exact Ev.bind0 rfl ((Ev.now _).val (by simp [placeB, h]))
  · exact Ev.neg h ((Ev.now _).val (by simp only [Bool.not_eq_true] at h; simp [placeB, h]))
theorem has1 (l : List (List Int)) (p : Int) : impl_has.f l [p] = some (placeB l p) := by
  unfold impl_has.f placeB; simp
theorem has2 (l : List (List Int)) (p q : Int) : impl_has.f l [p, q] = some (placeB l p && placeB l q) := by
  unfold impl_has.f placeB
  cases goodG l <;> simp

theorem rd_get {l : List Int} {q : Int} (h0 : 0 ≤ q) (h1 : q < (l.length : Int)) : rd l q = l[q.toNat]'(by omega) := by
  unfold rd; rw [List.getD_eq_getElem?_getD, List.getElem?_eq_getElem (by omega)]; rfl
theorem rdL_get {l : List (List Int)} {q : Int} (h0 : 0 ≤ q) (h1 : q < (l.length : Int)) : rd_L1 l q = l[q.toNat]'(by omega) := by
  unfold rd_L1; rw [List.getD_eq_getElem?_getD, List.getElem?_eq_getElem (by omega)]; rfl
theorem rd_set {o : List Int} {q x v : Int} (hq0 : 0 ≤ q) (hq : q < (o.length : Int)) (hx0 : 0 ≤ x) : rd (o.set q.toNat v) x = if x = q then v else rd o x := by
  unfold rd
  rw [List.getD_eq_getElem?_getD, List.getElem?_set, List.getD_eq_getElem?_getD]
  by_cases e : x = q
  · subst e; rw [if_pos rfl, if_pos (by omega), if_pos rfl]; rfl
  · rw [if_neg (by omega), if_neg e]
theorem drop_rd {row : List Int} {i : Nat} (h : i < row.length) : row.drop i = rd row (i : Int) :: row.drop (i + 1) := by
  rw [List.drop_eq_getElem_cons h, rd_at h]
theorem place_of {g : List (List Int)} (hg : goodG g = true) {i : Nat} (hi : i < g.length) : placeB g (i : Int) = true := by
  unfold placeB; rw [hg]; simp; omega
end Go.Proofs.Ytcmfcleeohcgaab.M
namespace Go.Proofs.Ytcmfcleeohcgaab.M
open Go.RowKit Go.Proofs.Ytcmfcleeohcgaab.P Go.Proofs.Ytcmfcleeohcgaab.In Go.Proofs.YtcmfcleeohcgaabW.PrintWords Go.Proofs.YtcmfcleeohcgaabW.PrintLast
set_option linter.unusedVariables false
set_option linter.unusedSimpArgs false
/-! how far -/
def neg : List Int → Nat
  | [] => 0
  | x :: l => (if x < 0 then 1 else 0) + neg l
theorem neg_set (o : List Int) (i : Nat) (hi : i < o.length) (h : o[i] < 0) (v : Int) (hv : 0 ≤ v) : neg (o.set i v) + 1 = neg o := by
  induction o generalizing i with
  | nil => simp at hi
  | cons x o ih =>
    cases i with
    | zero =>
      simp only [List.getElem_cons_zero] at h
      simp only [List.set_cons_zero, neg]
      rw [if_neg (by omega), if_pos h]; omega
    | succ i =>
      simp only [List.getElem_cons_succ] at h
      simp only [List.set_cons_succ, neg]
      have := ih i (by simpa using hi) h
      omega
theorem neg_le (o : List Int) : neg o ≤ o.length := by
  induction o with
  | nil => simp [neg]
  | cons x o ih => simp only [neg, List.length_cons]; split <;> omega
/-- What is known of the lengths, on the way. -/
structure Known (n : Nat) (o : List Int) : Prop where
  len : o.length = n
  lo : ∀ x ∈ o, -1 ≤ x
  hi : ∀ x ∈ o, x + 1 ≤ (n : Int) - neg o
theorem Known.at {n : Nat} {o : List Int} (h : Known n o) {q : Int} (h0 : 0 ≤ q) (h1 : q < (n : Int)) : -1 ≤ rd o q ∧ rd o q + 1 ≤ (n : Int) - neg o := by
  have hl := h.len
  rw [rd_get h0 (by omega)]
  exact ⟨h.lo _ (List.getElem_mem _), h.hi _ (List.getElem_mem _)⟩
theorem Known.set {n : Nat} {o : List Int} (h : Known n o) {q : Int} (h0 : 0 ≤ q) (h1 : q < (n : Int)) (hq : rd o q < 0) {v : Int} (hv0 : 0 ≤ v) (hv : v ≤ (n : Int) - neg o) : Known n (o.set q.toNat v) ∧ neg (o.set q.toNat v) + 1 = neg o := by
  have hl := h.len
  rw [rd_get h0 (by omega)] at hq
  have hn := neg_set o q.toNat (by omega) hq v hv0
  refine ⟨⟨by rw [List.length_set]; exact hl, fun x hx => ?_, fun x hx => ?_⟩, hn⟩
  · rcases List.mem_or_eq_of_mem_set hx with h' | h'
    · exact h.lo x h'
    · omega
  · rcases List.mem_or_eq_of_mem_set hx with h' | h'
    · have := h.hi x h'; omega
    · omega
/-- The exits of a place are looked at. -/
def vis (c : Int) : List Int → List Int → List Int → List Int × List Int
  | [], o, qs => (o, qs)
  | q :: row, o, qs => if rd o q < 0 then vis c row (o.set q.toNat (rd o c + 1)) (qs ++ [q]) else vis c row o qs
def bfs (g : List (List Int)) : Nat → List Int → List Int → List Int
  | 0, o, _ => o
  | _ + 1, o, [] => o
  | f + 1, o, c :: qs => bfs g f (vis c (rd_L1 g c) o qs).1 (vis c (rd_L1 g c) o qs).2
/-- How far each place is from p, -1 where no way leads. -/
def far (g : List (List Int)) (p : Int) : List Int := bfs g g.length ((List.replicate g.length (-1)).set p.toNat 0) [p]
/-- The places that wait: places that are known. -/
def Wait (n : Nat) (o qs : List Int) : Prop := ∀ q ∈ qs, 0 ≤ q ∧ q < (n : Int) ∧ 0 ≤ rd o q
theorem vis_keeps {n : Nat} (hn : n ≤ 8) (c : Int) : ∀ (row o qs : List Int), (∀ q ∈ row, 0 ≤ q ∧ q < (n : Int)) → Known n o → Wait n o qs → (0 ≤ c ∧ c < (n : Int) ∧ 0 ≤ rd o c) →
    Known n (vis c row o qs).1 ∧ Wait n (vis c row o qs).1 (vis c row o qs).2 ∧ (vis c row o qs).2.length + neg (vis c row o qs).1 = qs.length + neg o := by
  intro row
  induction row with
  | nil => intro o qs _ hk hw _; exact ⟨hk, hw, rfl⟩
  | cons q row ih =>
    intro o qs hr hk hw hc
    obtain ⟨hq0, hq1⟩ := hr q List.mem_cons_self
    have hr' : ∀ x ∈ row, 0 ≤ x ∧ x < (n : Int) := fun x hx => hr x (List.mem_cons_of_mem _ hx)
    simp only [vis]
    by_cases h : rd o q < 0
    · rw [if_pos h]
      have hl := hk.len
      have hcc := hk.at hc.1 hc.2.1
      obtain ⟨hk', hn'⟩ := hk.set hq0 hq1 h (v := rd o c + 1) (by omega) (by omega)
      have hs : ∀ x, 0 ≤ x → 0 ≤ rd o x → 0 ≤ rd (o.set q.toNat (rd o c + 1)) x := fun x hx hx1 => by
        rw [rd_set hq0 (by omega) hx]; split <;> omega
      obtain ⟨h1, h2, h3⟩ := ih _ (qs ++ [q]) hr' hk' (fun x hx => by
        rcases List.mem_append.1 hx with hx | hx
        · obtain ⟨a, b, c'⟩ := hw x hx; exact ⟨a, b, hs x a c'⟩
        · rw [List.mem_singleton.1 hx]; exact ⟨hq0, hq1, by rw [rd_set hq0 (by omega) hq0, if_pos rfl]; omega⟩) ⟨hc.1, hc.2.1, hs c hc.1 hc.2.2⟩
      refine ⟨h1, h2, ?_⟩
      rw [h3, List.length_append]; simp; omega
    · rw [if_neg h]
      exact ih o qs hr' hk hw hc
/-- The program's look at the exits. -/
theorem lengths_l1 {n : Nat} (hn : n ≤ 8) (g : List (List Int)) (c : Int) (row : List Int) (hr : ∀ q ∈ row, 0 ≤ q ∧ q < (n : Int)) (hrl : row.length ≤ 5) (r : List Int) : ∀ (d i : Nat) (o qs : List Int), row.length - i = d → i ≤ row.length → Known n o → Wait n o qs → (0 ≤ c ∧ c < (n : Int) ∧ 0 ≤ rd o c) → qs.length + neg o ≤ 8 →
    Ev (fun k => impl_Graph_lengths.l0 k (vis c (row.drop i) o qs).1 (vis c (row.drop i) o qs).2 g) r → Ev (fun k => impl_Graph_lengths.l1 k o (c :: qs) row row.length i g) r := by
  intro d
  induction d with
  | zero =>
    intro i o qs hd hi hk hw hc hb h
    rw [List.drop_of_length_le (by omega)] at h
    refine Ev.step (fun k => ?_) h
    simp only [impl_Graph_lengths.l1, vis]
    rw [if_neg (by omega), if_pos (by simp; omega)]
    rfl
  | succ d ih =>
    intro i o qs hd hi hk hw hc hb h
    have hlt : i < row.length := by omega
    have hq := hr (rd row i) (by rw [rd_at hlt]; exact List.getElem_mem _)
    have hl := hk.len
    rw [drop_rd hlt] at h
    simp only [vis] at h
    by_cases hneg : rd o (rd row i) < 0
    · rw [if_pos hneg] at h
      have hcc := hk.at hc.1 hc.2.1
      obtain ⟨hk', hn'⟩ := hk.set hq.1 hq.2 hneg (v := rd o c + 1) (by omega) (by omega)
      have hs : ∀ x, 0 ≤ x → 0 ≤ rd o x → 0 ≤ rd (o.set (rd row i).toNat (rd o c + 1)) x := fun x hx hx1 => by
        rw [rd_set hq.1 (by omega) hx]; split <;> omega
      refine Ev.step (fun k => ?_) (ih (i + 1) _ (qs ++ [rd row i]) (by omega) (by omega) hk' (fun x hx => by
        rcases List.mem_append.1 hx with hx | hx
        · obtain ⟨a, b, c'⟩ := hw x hx; exact ⟨a, b, hs x a c'⟩
        · rw [List.mem_singleton.1 hx]; exact ⟨hq.1, hq.2, by rw [rd_set hq.1 (by omega) hq.1, if_pos rfl]; omega⟩) ⟨hc.1, hc.2.1, hs c hc.1 hc.2.2⟩ (by rw [List.length_append]; simp; omega) h)
      simp only [impl_Graph_lengths.l1]
      have e0 : rd (c :: qs) 0 = c := rfl
      rw [if_pos (by omega), if_pos (by omega), if_pos (by omega), if_pos hq.1, if_pos (by omega), if_pos hneg, if_pos (by rw [List.length_cons]; omega), e0, if_pos hc.1, if_pos (by omega), if_pos (by rw [List.length_cons]; omega), wrap_nat (by omega), wrap_id (by omega)]
      rfl
    · rw [if_neg hneg] at h
      refine Ev.step (fun k => ?_) (ih (i + 1) o qs (by omega) (by omega) hk hw hc hb h)
      simp only [impl_Graph_lengths.l1]
      rw [if_pos (by omega), if_pos (by omega), if_pos (by omega), if_pos hq.1, if_pos (by omega), if_neg hneg, wrap_nat (by omega)]
theorem lengths_l0 {g : List (List Int)} (hg : goodG g = true) : ∀ (f : Nat) (o qs : List Int), Known g.length o → Wait g.length o qs → qs.length + neg o ≤ f → f ≤ 8 → Ev (fun k => impl_Graph_lengths.l0 k o qs g) (bfs g f o qs) := by
  obtain ⟨⟨h1, h8⟩, hrows⟩ := good_iff hg
  intro f
  induction f with
  | zero =>
    intro o qs hk hw hb hf
    have : qs = [] := List.eq_nil_of_length_eq_zero (by omega)
    subst this
    refine Ev.const1 (fun k => ?_)
    simp only [impl_Graph_lengths.l0]
    rw [if_neg (by simp)]; rfl
  | succ f ih =>
    intro o qs hk hw hb hf
    cases qs with
    | nil =>
      refine Ev.const1 (fun k => ?_)
      simp only [impl_Graph_lengths.l0]
      rw [if_neg (by simp)]; rfl
    | cons c qs =>
      obtain ⟨hc0, hc1, hc2⟩ := hw c List.mem_cons_self
      have hrow := hrows (rd_L1 g c) (by rw [rdL_get hc0 hc1]; exact List.getElem_mem _)
      have hw' : Wait g.length o qs := fun x hx => hw x (List.mem_cons_of_mem _ hx)
      obtain ⟨k1, k2, k3⟩ := vis_keeps h8 c (rd_L1 g c) o qs hrow.2 hk hw' ⟨hc0, hc1, hc2⟩
      simp only [List.length_cons] at hb
      have := lengths_l1 h8 g c (rd_L1 g c) hrow.2 hrow.1 (bfs g (f + 1) o (c :: qs)) _ 0 o qs rfl (Nat.zero_le _) hk hw' ⟨hc0, hc1, hc2⟩ (by omega) (by
        rw [List.drop_zero]
        exact ih _ _ k1 k2 (by omega) (by omega))
      refine Ev.step (fun k => ?_) this
      simp only [impl_Graph_lengths.l0]
      have e0 : rd (c :: qs) 0 = c := rfl
      rw [if_pos (by rw [List.length_cons]; omega), if_pos (by rw [List.length_cons]; omega), e0, if_pos hc0, if_pos hc1]
      rfl
theorem neg_rep (n : Nat) : neg (List.replicate n (-1)) = n := by
  induction n with
  | zero => rfl
  | succ n ih => simp only [List.replicate_succ, neg, ih]; rw [if_pos (by omega)]; omega
theorem known0 {n : Nat} {p : Int} (h0 : 0 ≤ p) (h1 : p < (n : Int)) : Known n ((List.replicate n (-1)).set p.toNat 0) ∧ Wait n ((List.replicate n (-1)).set p.toNat 0) [p] ∧ [p].length + neg ((List.replicate n (-1)).set p.toNat 0) ≤ n := by
  have hk : Known n (List.replicate n (-1)) := ⟨by simp, fun x hx => by rw [(List.mem_replicate.1 hx).2]; omega, fun x hx => by rw [(List.mem_replicate.1 hx).2, neg_rep]; omega⟩
  have hr : rd (List.replicate n (-1)) p < 0 := by rw [rd_get h0 (by simpa using h1)]; simp
  obtain ⟨k1, k2⟩ := hk.set h0 h1 hr (v := 0) (by omega) (by rw [neg_rep]; omega)
  rw [neg_rep] at k2
  refine ⟨k1, fun x hx => ?_, by simp; omega⟩
  rw [List.mem_singleton.1 hx]
  exact ⟨h0, h1, by rw [rd_set h0 (by simpa using h1) h0, if_pos rfl]; omega⟩
theorem lengths {g : List (List Int)} {p : Int} (h : placeB g p = true) : Ev (fun k => impl_Graph_lengths.f k g p) (far g p) := by
  obtain ⟨hg, h0, h1⟩ := place_iff h
  obtain ⟨⟨hn1, hn8⟩, _⟩ := good_iff hg
  obtain ⟨k1, k2, k3⟩ := known0 h0 h1
  unfold impl_Graph_lengths.f
  have hR : slices_Repeat_int_int.f [-1] (g.length : Int) = some (List.replicate g.length (-1)) := by
    unfold slices_Repeat_int_int.f; rw [if_pos ⟨rfl, by omega, by omega⟩]; rfl
  exact Ev.bind0 hR (Ev.pos h0 (Ev.pos (by simpa using h1) (lengths_l0 hg g.length _ _ k1 k2 k3 hn8)))
theorem far_len {g : List (List Int)} {p : Int} (h : placeB g p = true) : Known g.length (far g p) := by
  obtain ⟨hg, h0, h1⟩ := place_iff h
  obtain ⟨⟨hn1, hn8⟩, hrows⟩ := good_iff hg
  obtain ⟨k1, k2, k3⟩ := known0 h0 h1
  have : ∀ (f : Nat) (o qs : List Int), Known g.length o → Wait g.length o qs → Known g.length (bfs g f o qs) := by
    intro f
    induction f with
    | zero => intro o qs hk hw; exact hk
    | succ f ih =>
      intro o qs hk hw
      cases qs with
      | nil => exact hk
      | cons c qs =>
        obtain ⟨hc0, hc1, hc2⟩ := hw c List.mem_cons_self
        have hrow := hrows (rd_L1 g c) (by rw [rdL_get hc0 hc1]; exact List.getElem_mem _)
        obtain ⟨k1, k2, k3⟩ := vis_keeps hn8 c (rd_L1 g c) o qs hrow.2 hk (fun x hx => hw x (List.mem_cons_of_mem _ hx)) ⟨hc0, hc1, hc2⟩
        exact ih _ _ k1 k2
  exact this _ _ _ k1 k2
/-! the reference's search -/
theorem far_l2 {n : Nat} (hn : n ≤ 8) (g : List (List Int)) (c : Int) (pre : List Int) (row : List Int) (hr : ∀ q ∈ row, 0 ≤ q ∧ q < (n : Int)) (hrl : row.length ≤ 5) (r : List Int) : ∀ (d i : Nat) (o qs : List Int), row.length - i = d → i ≤ row.length → Known n o → (0 ≤ c ∧ c < (n : Int) ∧ 0 ≤ rd o c) → pre.length + qs.length + neg o ≤ 8 →
    Ev (fun k => spec_grFar.l1 k (vis c (row.drop i) o qs).1 (pre ++ c :: (vis c (row.drop i) o qs).2) ((pre.length + 1 : Nat) : Int) g) r → Ev (fun k => spec_grFar.l2 k o (pre ++ c :: qs) (pre.length : Int) row row.length i g) r := by
  intro d
  induction d with
  | zero =>
    intro i o qs hd hi hk hc hb h
    rw [List.drop_of_length_le (by omega)] at h
    refine Ev.step (fun k => ?_) h
    simp only [spec_grFar.l2, vis]
    rw [if_neg (by omega), wrap_nat (by omega)]
  | succ d ih =>
    intro i o qs hd hi hk hc hb h
    have hlt : i < row.length := by omega
    have hq := hr (rd row i) (by rw [rd_at hlt]; exact List.getElem_mem _)
    have hl := hk.len
    rw [drop_rd hlt] at h
    simp only [vis] at h
    by_cases hneg : rd o (rd row i) < 0
    · rw [if_pos hneg] at h
      have hcc := hk.at hc.1 hc.2.1
      obtain ⟨hk', hn'⟩ := hk.set hq.1 hq.2 hneg (v := rd o c + 1) (by omega) (by omega)
      have hs : ∀ x, 0 ≤ x → 0 ≤ rd o x → 0 ≤ rd (o.set (rd row i).toNat (rd o c + 1)) x := fun x hx hx1 => by
        rw [rd_set hq.1 (by omega) hx]; split <;> omega
      refine Ev.step (fun k => ?_) (ih (i + 1) _ (qs ++ [rd row i]) (by omega) (by omega) hk' ⟨hc.1, hc.2.1, hs c hc.1 hc.2.2⟩ (by rw [List.length_append]; simp; omega) h)
      simp only [spec_grFar.l2]
      have e0 : rd (pre ++ c :: qs) (pre.length : Int) = c := by rw [rd_at (by simp)]; simp
      rw [if_pos (by omega), if_pos (by omega), if_pos (by omega), if_pos hq.1, if_pos (by omega), if_pos hneg, if_pos (by omega), if_pos (by simp; omega), e0, if_pos hc.1, if_pos (by omega), if_pos (by simp; omega), wrap_nat (by omega), wrap_id (by omega)]
      simp
    · rw [if_neg hneg] at h
      refine Ev.step (fun k => ?_) (ih (i + 1) o qs (by omega) (by omega) hk hc hb h)
      simp only [spec_grFar.l2]
      rw [if_pos (by omega), if_pos (by omega), if_pos (by omega), if_pos hq.1, if_pos (by omega), if_neg hneg, wrap_nat (by omega)]
theorem far_l1 {g : List (List Int)} (hg : goodG g = true) : ∀ (f : Nat) (o pre qs : List Int), Known g.length o → Wait g.length o qs → qs.length + neg o ≤ f → f ≤ 8 → pre.length + qs.length + neg o ≤ 8 → Ev (fun k => spec_grFar.l1 k o (pre ++ qs) (pre.length : Int) g) (bfs g f o qs) := by
  obtain ⟨⟨h1, h8⟩, hrows⟩ := good_iff hg
  intro f
  induction f with
  | zero =>
    intro o pre qs hk hw hb hf hp
    have : qs = [] := List.eq_nil_of_length_eq_zero (by omega)
    subst this
    refine Ev.const1 (fun k => ?_)
    simp only [spec_grFar.l1]
    rw [if_neg (by simp)]; rfl
  | succ f ih =>
    intro o pre qs hk hw hb hf hp
    cases qs with
    | nil =>
      refine Ev.const1 (fun k => ?_)
      simp only [spec_grFar.l1]
      rw [if_neg (by simp)]; rfl
    | cons c qs =>
      obtain ⟨hc0, hc1, hc2⟩ := hw c List.mem_cons_self
      have hrow := hrows (rd_L1 g c) (by rw [rdL_get hc0 hc1]; exact List.getElem_mem _)
      have hw' : Wait g.length o qs := fun x hx => hw x (List.mem_cons_of_mem _ hx)
      obtain ⟨k1, k2, k3⟩ := vis_keeps h8 c (rd_L1 g c) o qs hrow.2 hk hw' ⟨hc0, hc1, hc2⟩
      simp only [List.length_cons] at hb hp
      have := far_l2 h8 g c pre (rd_L1 g c) hrow.2 hrow.1 (bfs g (f + 1) o (c :: qs)) _ 0 o qs rfl (Nat.zero_le _) hk ⟨hc0, hc1, hc2⟩ (by omega) (by
        rw [List.drop_zero]
        have := ih (vis c (rd_L1 g c) o qs).1 (pre ++ [c]) (vis c (rd_L1 g c) o qs).2 k1 k2 (by omega) (by omega) (by simp; omega)
        simpa [bfs] using this)
      refine Ev.step (fun k => ?_) this
      simp only [spec_grFar.l1]
      have e0 : rd (pre ++ c :: qs) (pre.length : Int) = c := by rw [rd_at (by simp)]; simp
      rw [if_pos (by simp; omega), if_pos (by omega), e0, if_pos hc0, if_pos hc1]
      rfl
theorem far_l0 (g : List (List Int)) (p : Int) (n : Nat) (hn : n ≤ 8) (r : List Int) : ∀ (d i : Nat), n - i = d → i ≤ n → (0 ≤ p ∧ p < (n : Int)) → Ev (fun k => spec_grFar.l1 k ((List.replicate n (-1)).set p.toNat 0) [p] 0 g) r → Ev (fun k => spec_grFar.l0 k p (List.replicate i (-1) ++ List.replicate (n - i) 0) n i g) r := by
  intro d
  induction d with
  | zero =>
    intro i hd hi hp h
    have : i = n := by omega
    subst this
    refine Ev.step (fun k => ?_) h
    simp only [spec_grFar.l0]
    rw [if_neg (by omega), if_pos hp.1, if_pos (by simp; omega)]
    simp
  | succ d ih =>
    intro i hd hi hp h
    refine Ev.step (fun k => ?_) (ih (i + 1) (by omega) (by omega) hp h)
    simp only [spec_grFar.l0]
    rw [if_pos (by omega), if_pos (by omega), if_pos (by simp; omega), wrap_nat (by omega), Int.toNat_natCast]
    congr 1
    obtain ⟨m, hm⟩ : ∃ m, n - i = m + 1 := ⟨n - i - 1, by omega⟩
    rw [hm, show n - (i + 1) = m by omega, List.replicate_succ, List.replicate_succ', List.set_append_right _ _ (by simp)]
    simp
theorem grFar {g : List (List Int)} {p : Int} (h : placeB g p = true) : Ev (fun k => spec_grFar.f k g p) (far g p) := by
  obtain ⟨hg, h0, h1⟩ := place_iff h
  obtain ⟨⟨hn1, hn8⟩, _⟩ := good_iff hg
  obtain ⟨k1, k2, k3⟩ := known0 h0 h1
  unfold spec_grFar.f
  refine Ev.pos (by omega) (Ev.pos (by omega) (Ev.bind0 rfl ?_))
  have := far_l0 g p g.length hn8 (far g p) g.length 0 (by omega) (by omega) ⟨h0, h1⟩ (by
    have := far_l1 hg g.length _ [] [p] k1 k2 k3 hn8 (by simpa using by simp at k3; omega)
    exact this)
  simpa using this
end Go.Proofs.Ytcmfcleeohcgaab.M
namespace Go.Proofs.Ytcmfcleeohcgaab.M
open Go.RowKit Go.Proofs.Ytcmfcleeohcgaab.P Go.Proofs.Ytcmfcleeohcgaab.In Go.Proofs.YtcmfcleeohcgaabW.PrintWords Go.Proofs.YtcmfcleeohcgaabW.PrintLast
set_option linter.unusedVariables false
set_option linter.unusedSimpArgs false
def leadsFrom (g : List (List Int)) (p : Int) : Nat → Nat → Bool
  | 0, _ => true
  | d + 1, i => if rd (far g i) p < 0 then false else leadsFrom g p d (i + 1)
def leads (g : List (List Int)) (p : Int) : Bool := leadsFrom g p g.length 0
theorem leadsTo_l0 {g : List (List Int)} (hg : goodG g = true) (p : Int) (h0 : 0 ≤ p) (h1 : p < (g.length : Int)) : ∀ (d i : Nat), g.length - i = d → i ≤ g.length → Ev (fun k => impl_Graph_leadsTo.l0 k p g.length i g) (leadsFrom g p d i) := by
  have h8 := (good_iff hg).1
  intro d
  induction d with
  | zero =>
    intro i hd hi
    refine Ev.succ ?_
    simp only [impl_Graph_leadsTo.l0]
    exact Ev.neg (by omega) (Ev.now _)
  | succ d ih =>
    intro i hd hi
    have hp := place_of hg (i := i) (by omega)
    have hlen := (far_len hp).len
    refine Ev.succ ?_
    simp only [impl_Graph_leadsTo.l0, leadsFrom]
    refine Ev.pos (by omega) (Ev.bind (lengths hp) (Ev.pos h0 (Ev.pos (by omega) ?_)))
    by_cases h : rd (far g i) p < 0
    · rw [if_pos h]; exact Ev.pos h (Ev.now _)
    · rw [if_neg h]
      refine Ev.neg h ?_
      rw [wrap_nat (by omega)]
      exact ih (i + 1) (by omega) (by omega)
theorem leadsTo {g : List (List Int)} {p : Int} (h : placeB g p = true) : Ev (fun k => impl_Graph_leadsTo.f k g p) (leads g p) := by
  obtain ⟨hg, h0, h1⟩ := place_iff h
  exact leadsTo_l0 hg p h0 h1 g.length 0 (by omega) (by omega)
theorem grLeads_l0 {g : List (List Int)} (hg : goodG g = true) (p : Int) (h0 : 0 ≤ p) (h1 : p < (g.length : Int)) : ∀ (d i : Nat), g.length - i = d → i ≤ g.length → Ev (fun k => spec_grLeads.l0 k p g.length i g) (leadsFrom g p d i) := by
  have h8 := (good_iff hg).1
  intro d
  induction d with
  | zero =>
    intro i hd hi
    refine Ev.succ ?_
    simp only [spec_grLeads.l0]
    exact Ev.neg (by omega) (Ev.now _)
  | succ d ih =>
    intro i hd hi
    have hp := place_of hg (i := i) (by omega)
    have hlen := (far_len hp).len
    refine Ev.succ ?_
    simp only [spec_grLeads.l0, leadsFrom]
    refine Ev.pos (by omega) (Ev.bind (grFar hp) (Ev.pos h0 (Ev.pos (by omega) ?_)))
    by_cases h : rd (far g i) p < 0
    · rw [if_pos h]; exact Ev.pos h (Ev.now _)
    · rw [if_neg h]
      refine Ev.neg h ?_
      rw [wrap_nat (by omega)]
      exact ih (i + 1) (by omega) (by omega)
theorem grLeads {g : List (List Int)} {p : Int} (h : placeB g p = true) : Ev (fun k => spec_grLeads.f k g p) (leads g p) := by
  obtain ⟨hg, h0, h1⟩ := place_iff h
  exact grLeads_l0 hg p h0 h1 g.length 0 (by omega) (by omega)
end Go.Proofs.Ytcmfcleeohcgaab.M
namespace Go.Proofs.Ytcmfcleeohcgaab.M
open Go.RowKit Go.Proofs.Ytcmfcleeohcgaab.P Go.Proofs.Ytcmfcleeohcgaab.In Go.Proofs.YtcmfcleeohcgaabW.PrintWords Go.Proofs.YtcmfcleeohcgaabW.PrintLast
set_option linter.unusedVariables false
set_option linter.unusedSimpArgs false
/-- A sink: all places lead there. -/
def sunkB (g : List (List Int)) (sink : Int) : Bool := placeB g sink && leads g sink
theorem hasSink_ev (g : List (List Int)) (sink : Int) : Ev (fun k => impl_hasSink.f k g sink) (sunkB g sink) := by
  unfold impl_hasSink.f sunkB
  refine Ev.bind0 (has1 g sink) ?_
  by_cases hp : placeB g sink = true
  · exact Ev.pos hp (Ev.bind (leadsTo hp) ((Ev.now _).val (by rw [hp]; rfl)))
  · exact Ev.neg hp ((Ev.now _).val (by rw [Bool.eq_false_iff.mpr hp]; rfl))
theorem chSink_ev (g : List (List Int)) (hl : okSS g) (sink : Int) : Ev (fun k => spec_chSink.f k g sink) (sunkB g sink) := by
  unfold spec_chSink.f sunkB
  refine Ev.bind (grPlace g sink hl) ?_
  by_cases hp : placeB g sink = true
  · exact Ev.pos hp (Ev.bind (grLeads hp) ((Ev.now _).val (by rw [hp]; rfl)))
  · exact Ev.neg hp ((Ev.now _).val (by rw [Bool.eq_false_iff.mpr hp]; rfl))
theorem sunk_iff {g : List (List Int)} {sink : Int} (h : sunkB g sink = true) : placeB g sink = true ∧ leads g sink = true := by
  unfold sunkB at h; simpa using h
end Go.Proofs.Ytcmfcleeohcgaab.M
namespace Go.Proofs.Ytcmfcleeohcgaab.M
open Go.RowKit Go.Proofs.Ytcmfcleeohcgaab.P Go.Proofs.Ytcmfcleeohcgaab.In Go.Proofs.YtcmfcleeohcgaabW.PrintWords Go.Proofs.YtcmfcleeohcgaabW.PrintLast
set_option linter.unusedVariables false
set_option linter.unusedSimpArgs false
def heapB (g : List (List Int)) (sink : Int) (l : List Int) : Bool := sunkB g sink && ((decide (l.length = g.length) && l.all (fun q => decide (0 ≤ q) && decide (q ≤ 20))) && (rd l sink == 0))
theorem heap_iff {g : List (List Int)} {sink : Int} {l : List Int} (h : heapB g sink l = true) : sunkB g sink = true ∧ l.length = g.length ∧ ∀ q ∈ l, 0 ≤ q ∧ q ≤ 20 := by
  unfold heapB at h
  simp only [Bool.and_eq_true, decide_eq_true_eq, List.all_eq_true] at h
  exact ⟨h.1, h.2.1.1, fun q hq => by have := h.2.1.2 q hq; omega⟩
theorem isHeap_ev (g : List (List Int)) (sink : Int) (l : List Int) : Ev (fun k => impl_isHeap.f k g sink l) (heapB g sink l) := by
  unfold impl_isHeap.f heapB
  refine Ev.bind (hasSink_ev g sink) ?_
  by_cases hs : sunkB g sink = true
  · have hp := place_iff (sunk_iff hs).1
    rw [hs, Bool.true_and]
    refine Ev.pos rfl (Ev.bind0 (show impl_areChips.f g l = some (decide (l.length = g.length) && l.all (fun q => decide (0 ≤ q) && decide (q ≤ 20))) from rfl) ?_)
    by_cases hc : (decide (l.length = g.length) && l.all (fun q => decide (0 ≤ q) && decide (q ≤ 20))) = true
    · rw [hc, Bool.true_and]
      have hle : l.length = g.length := by simp only [Bool.and_eq_true, decide_eq_true_eq] at hc; exact hc.1
      exact Ev.pos rfl (Ev.pos hp.2.1 (Ev.pos (by omega) (Ev.now _)))
    · rw [Bool.eq_false_iff.mpr hc, Bool.false_and]; exact Ev.neg (by simp) (Ev.now _)
  · rw [Bool.eq_false_iff.mpr hs, Bool.false_and]; exact Ev.neg (by simp) (Ev.now _)
theorem chHeap_ev (g : List (List Int)) (hl : okSS g) (sink : Int) (l : List Int) (hll : okIs l) : Ev (fun k => spec_chHeap.f k g sink l) (heapB g sink l) := by
  unfold spec_chHeap.f heapB
  refine Ev.bind (chSink_ev g hl sink) ?_
  by_cases hs : sunkB g sink = true
  · have hp := place_iff (sunk_iff hs).1
    rw [hs, Bool.true_and]
    refine Ev.pos rfl ?_
    by_cases hle : l.length = g.length
    · refine Ev.pos (by omega) (Ev.bind (l1All l 0 20 hll.1) ?_)
      rw [decide_eq_true hle, Bool.true_and]
      by_cases hc : (l.all fun x => decide (0 ≤ x) && decide (x ≤ 20)) = true
      · rw [hc, Bool.true_and]
        exact Ev.pos rfl (Ev.pos hp.2.1 (Ev.pos (by omega) (Ev.now _)))
      · rw [Bool.eq_false_iff.mpr hc, Bool.false_and]; exact Ev.neg (by simp) (Ev.now _)
    · rw [decide_eq_false hle, Bool.false_and, Bool.false_and]
      exact Ev.neg (by omega) (Ev.now _)
  · rw [Bool.eq_false_iff.mpr hs, Bool.false_and]; exact Ev.neg (by simp) (Ev.now _)
/-- A place can topple. -/
def canB (g : List (List Int)) (sink : Int) (l : List Int) (p : Int) : Bool := decide (p ≠ sink) && decide (rd l p ≥ ((rd_L1 g p).length : Int))
theorem canTopple {g : List (List Int)} {sink : Int} {l : List Int} {p : Int} (h0 : 0 ≤ p) (h1 : p < (l.length : Int)) (h2 : p < (g.length : Int)) : impl_canTopple.f g sink l p = some (canB g sink l p) := by
  unfold impl_canTopple.f canB
  by_cases h : p = sink
  · rw [if_pos h]; simp [h]
  · rw [if_neg h, if_pos h0, if_pos h1, if_pos h2]; simp [h]
/-- The first place from i on that can topple, or how many places there are. -/
def fst (g : List (List Int)) (sink : Int) (l : List Int) : Nat → Nat → Nat
  | 0, i => i
  | d + 1, i => if canB g sink l i = true then i else fst g sink l d (i + 1)
theorem fst_le (g : List (List Int)) (sink : Int) (l : List Int) : ∀ d i, fst g sink l d i ≤ i + d := by
  intro d
  induction d with
  | zero => intro i; simp [fst]
  | succ d ih => intro i; simp only [fst]; split
                 · omega
                 · have := ih (i + 1); omega
end Go.Proofs.Ytcmfcleeohcgaab.M
namespace Go.Proofs.Ytcmfcleeohcgaab.M
open Go.RowKit Go.Proofs.Ytcmfcleeohcgaab.P Go.Proofs.Ytcmfcleeohcgaab.In Go.Proofs.YtcmfcleeohcgaabW.PrintWords Go.Proofs.YtcmfcleeohcgaabW.PrintLast
set_option linter.unusedVariables false
set_option linter.unusedSimpArgs false
def high (g : List (List Int)) (sink : Int) (l : List Int) : Int := if fst g sink l g.length 0 = g.length then -1 else (fst g sink l g.length 0 : Int)
theorem chHigh_l0 {g : List (List Int)} (h8 : g.length ≤ 8) (sink : Int) (l : List Int) (hl : l.length = g.length) : ∀ (d i : Nat), g.length - i = d → i ≤ g.length → Ev (fun k => spec_chHigh.l0 k sink l g.length i g) (if fst g sink l d i = g.length then -1 else (fst g sink l d i : Int)) := by
  intro d
  induction d with
  | zero =>
    intro i hd hi
    refine Ev.succ ?_
    simp only [spec_chHigh.l0]
    refine Ev.neg (by omega) ((Ev.now _).val ?_)
    rw [show fst g sink l 0 i = i from rfl, if_pos (by omega)]
  | succ d ih =>
    intro i hd hi
    refine Ev.succ ?_
    simp only [spec_chHigh.l0]
    have hf : fst g sink l (d + 1) i = if canB g sink l i = true then i else fst g sink l d (i + 1) := rfl
    refine Ev.pos (by omega) (Ev.pos (by omega) (Ev.pos (by omega) ?_))
    have hn := ih (i + 1) (by omega) (by omega)
    by_cases h : (i : Int) = sink
    · have hc : canB g sink l i = false := by unfold canB; simp [h]
      rw [show fst g sink l (d + 1) i = fst g sink l d (i + 1) by rw [hf, hc]; rfl]
      refine Ev.pos h ?_
      rw [wrap_nat (by omega)]; exact hn
    · refine Ev.neg h (Ev.pos (by omega) ?_)
      by_cases h2 : rd l i ≥ ((rd_L1 g i).length : Int)
      · have hc : canB g sink l i = true := by unfold canB; simp [h, h2]
        rw [show fst g sink l (d + 1) i = i by rw [hf, hc]; rfl]
        refine Ev.pos h2 ((Ev.now _).val ?_)
        rw [if_neg (by omega)]
      · have hc : canB g sink l i = false := by unfold canB; simp only [decide_eq_false h2, Bool.and_false]
        rw [show fst g sink l (d + 1) i = fst g sink l d (i + 1) by rw [hf, hc]; rfl]
        refine Ev.neg h2 ?_
        rw [wrap_nat (by omega)]; exact hn
theorem chHigh_ev {g : List (List Int)} (h8 : g.length ≤ 8) (sink : Int) (l : List Int) (hl : l.length = g.length) : Ev (fun k => spec_chHigh.f k g sink l) (high g sink l) := by
  unfold spec_chHigh.f high
  rw [hl]
  exact chHigh_l0 h8 sink l hl g.length 0 (by omega) (by omega)
end Go.Proofs.Ytcmfcleeohcgaab.M
namespace Go.Proofs.Ytcmfcleeohcgaab.M
open Go.RowKit Go.Proofs.Ytcmfcleeohcgaab.P Go.Proofs.Ytcmfcleeohcgaab.In Go.Proofs.YtcmfcleeohcgaabW.PrintWords Go.Proofs.YtcmfcleeohcgaabW.PrintLast
set_option linter.unusedVariables false
set_option linter.unusedSimpArgs false
def topRow (sink : Int) : List Int → List Int → List Int
  | [], c => c
  | q :: row, c => topRow sink row (if q = sink then c else c.set q.toNat (wrap64 (rd c q + 1)))
def topp (g : List (List Int)) (sink : Int) (c : List Int) (p : Int) : List Int := topRow sink (rd_L1 g p) (c.set p.toNat (wrap64 (rd c p - ((rd_L1 g p).length : Int))))
theorem topRow_len (sink : Int) : ∀ (row c : List Int), (topRow sink row c).length = c.length := by
  intro row
  induction row with
  | nil => intro c; rfl
  | cons q row ih => intro c; simp only [topRow]; rw [ih]; split <;> simp
theorem topp_len (g : List (List Int)) (sink : Int) (c : List Int) (p : Int) : (topp g sink c p).length = c.length := by unfold topp; rw [topRow_len]; simp
theorem topple_l0 (sink : Int) (row : List Int) (n : Nat) (h5 : row.length ≤ 5) (hr : ∀ q ∈ row, 0 ≤ q ∧ q < (n : Int)) : ∀ (d i : Nat) (c : List Int), row.length - i = d → i ≤ row.length → c.length = n → Ev (fun k => impl_topple.l0 k sink c row row.length i) (topRow sink (row.drop i) c) := by
  intro d
  induction d with
  | zero =>
    intro i c hd hi hc
    refine Ev.succ ?_
    simp only [impl_topple.l0]
    refine Ev.neg (by omega) ((Ev.now _).val ?_)
    rw [List.drop_of_length_le (by omega)]; rfl
  | succ d ih =>
    intro i c hd hi hc
    have hlt : i < row.length := by omega
    have hq := hr (rd row i) (by rw [rd_at hlt]; exact List.getElem_mem _)
    refine Ev.succ ?_
    simp only [impl_topple.l0]
    rw [drop_rd hlt]; simp only [topRow]
    refine Ev.pos (by omega) (Ev.pos (by omega) (Ev.pos (by omega) ?_))
    rw [wrap_nat (by omega)]
    by_cases h : rd row i = sink
    · rw [if_pos h]
      exact Ev.pos h (ih (i + 1) c (by omega) (by omega) hc)
    · rw [if_neg h]
      exact Ev.neg h (Ev.pos hq.1 (Ev.pos (by omega) (ih (i + 1) _ (by omega) (by omega) (by simp; exact hc))))
theorem topple_ev {g : List (List Int)} (hg : goodG g = true) (sink : Int) {c : List Int} (hc : c.length = g.length) {p : Int} (h0 : 0 ≤ p) (h1 : p < (g.length : Int)) : Ev (fun k => impl_topple.f k g sink c p) (topp g sink c p) := by
  have hrow := (good_iff hg).2 (rd_L1 g p) (by rw [rdL_get h0 h1]; exact List.getElem_mem _)
  unfold impl_topple.f topp
  refine Ev.pos h0 (Ev.pos (by omega) (Ev.pos h1 ?_))
  exact (topple_l0 sink (rd_L1 g p) g.length hrow.1 hrow.2 (rd_L1 g p).length 0 _ (by omega) (by omega) (by simp; exact hc)).val (by simp)
theorem chTopple_l0 (sink : Int) (row : List Int) (n : Nat) (h5 : row.length ≤ 5) (hr : ∀ q ∈ row, 0 ≤ q ∧ q < (n : Int)) : ∀ (d i : Nat) (c : List Int), row.length - i = d → i ≤ row.length → c.length = n → Ev (fun k => spec_chTopple.l0 k sink c row row.length i) (topRow sink (row.drop i) c) := by
  intro d
  induction d with
  | zero =>
    intro i c hd hi hc
    refine Ev.succ ?_
    simp only [spec_chTopple.l0]
    refine Ev.neg (by omega) ((Ev.now _).val ?_)
    rw [List.drop_of_length_le (by omega)]; rfl
  | succ d ih =>
    intro i c hd hi hc
    have hlt : i < row.length := by omega
    have hq := hr (rd row i) (by rw [rd_at hlt]; exact List.getElem_mem _)
    refine Ev.succ ?_
    simp only [spec_chTopple.l0]
    rw [drop_rd hlt]; simp only [topRow]
    refine Ev.pos (by omega) (Ev.pos (by omega) (Ev.pos (by omega) ?_))
    rw [wrap_nat (by omega)]
    by_cases h : rd row i = sink
    · rw [if_pos h]
      exact Ev.pos h (ih (i + 1) c (by omega) (by omega) hc)
    · rw [if_neg h]
      exact Ev.neg h (Ev.pos hq.1 (Ev.pos (by omega) (ih (i + 1) _ (by omega) (by omega) (by simp; exact hc))))
theorem chTopple_ev {g : List (List Int)} (hg : goodG g = true) (sink : Int) {c : List Int} (hc : c.length = g.length) {p : Int} (h0 : 0 ≤ p) (h1 : p < (g.length : Int)) : Ev (fun k => spec_chTopple.f k g sink c p) (topp g sink c p) := by
  have hrow := (good_iff hg).2 (rd_L1 g p) (by rw [rdL_get h0 h1]; exact List.getElem_mem _)
  unfold spec_chTopple.f topp
  refine Ev.pos h0 (Ev.pos (by omega) (Ev.pos h1 ?_))
  exact (chTopple_l0 sink (rd_L1 g p) g.length hrow.1 hrow.2 (rd_L1 g p).length 0 _ (by omega) (by omega) (by simp; exact hc)).val (by simp)
theorem clone_ev (l : List Int) (h : l.length ≤ 1048576) : slices_Clone_int_int.f l = some l := by unfold slices_Clone_int_int.f; first | rfl | rw [if_pos (by omega)]
theorem own_ev (l : List Int) (h : l.length ≤ 1048576) : spec_l1Own.f l = some l := by
  unfold spec_l1Own.f
  show (if ([] : List Int).length + l.length < 17592186044416 then some ([] ++ l) else none) = some l
  rw [if_pos (by simp; omega)]; rfl
end Go.Proofs.Ytcmfcleeohcgaab.M
namespace Go.Proofs.Ytcmfcleeohcgaab.M
open Go.RowKit Go.Proofs.Ytcmfcleeohcgaab.P Go.Proofs.Ytcmfcleeohcgaab.In Go.Proofs.YtcmfcleeohcgaabW.PrintWords Go.Proofs.YtcmfcleeohcgaabW.PrintLast
set_option linter.unusedVariables false
set_option linter.unusedSimpArgs false
theorem settle_scan {g : List (List Int)} (h8 : g.length ≤ 8) (sink : Int) (c t : List Int) (hc : c.length = g.length) (m : Int) (r : List Int × List Int × Bool) : ∀ (d i : Nat), g.length - i = d → i ≤ g.length → Ev (fun k => impl_settle.j2 k sink 4000 c t m (fst g sink c d i) g) r → Ev (fun k => impl_settle.l1 k sink 4000 c t m i g) r := by
  intro d
  induction d with
  | zero =>
    intro i hd hi h
    refine Ev.succ ?_
    simp only [impl_settle.l1]
    refine Ev.neg (by omega) ?_
    exact h
  | succ d ih =>
    intro i hd hi h
    refine Ev.succ ?_
    simp only [impl_settle.l1]
    refine Ev.pos (by omega) (Ev.bind0 (canTopple (by omega) (by omega) (by omega)) ?_)
    simp only [fst] at h
    by_cases hb : canB g sink c i = true
    · rw [if_pos hb] at h
      exact Ev.pos hb h
    · rw [if_neg hb] at h
      refine Ev.neg hb ?_
      rw [wrap_nat (by omega)]
      exact ih (i + 1) (by omega) (by omega) h
theorem settle_both {g : List (List Int)} (hg : goodG g = true) (sink : Int) : ∀ (d m : Nat) (c t : List Int), 4000 - m = d → m ≤ 4000 → c.length = g.length → t.length = g.length →
    ∃ r : List Int × List Int × Bool, Ev (fun k => impl_settle.l0 k sink 4000 c t m g) r ∧ Ev (fun k => spec_chStable.l0 k sink c t m g) r ∧ r.1.length ≤ g.length ∧ r.2.1.length ≤ g.length := by
  have h8 := (good_iff hg).1.2
  intro d
  induction d with
  | zero =>
    intro m c t hd hm hc ht
    by_cases hf : fst g sink c g.length 0 = g.length
    · refine ⟨(c, t, true), ?_, ?_, by simp; omega, by simp; omega⟩
      · refine Ev.succ ?_
        simp only [impl_settle.l0]
        refine settle_scan h8 sink c t hc m _ g.length 0 (by omega) (by omega) ?_
        refine Ev.succ ?_
        simp only [impl_settle.j2]
        exact Ev.pos (by omega) (Ev.now _)
      · refine Ev.succ ?_
        simp only [spec_chStable.l0]
        refine Ev.bind (chHigh_ev h8 sink c hc) ?_
        unfold high; rw [if_pos hf]
        exact Ev.pos (by omega) (Ev.now _)
    · refine ⟨([], [], false), ?_, ?_, by simp, by simp⟩
      · refine Ev.succ ?_
        simp only [impl_settle.l0]
        refine settle_scan h8 sink c t hc m _ g.length 0 (by omega) (by omega) ?_
        refine Ev.succ ?_
        simp only [impl_settle.j2]
        exact Ev.neg (by omega) (Ev.pos (by omega) (Ev.now _))
      · refine Ev.succ ?_
        simp only [spec_chStable.l0]
        refine Ev.bind (chHigh_ev h8 sink c hc) ?_
        unfold high; rw [if_neg hf]
        exact Ev.neg (by omega) (Ev.pos (by omega) (Ev.now _))
  | succ d ih =>
    intro m c t hd hm hc ht
    by_cases hf : fst g sink c g.length 0 = g.length
    · refine ⟨(c, t, true), ?_, ?_, by simp; omega, by simp; omega⟩
      · refine Ev.succ ?_
        simp only [impl_settle.l0]
        refine settle_scan h8 sink c t hc m _ g.length 0 (by omega) (by omega) ?_
        refine Ev.succ ?_
        simp only [impl_settle.j2]
        exact Ev.pos (by omega) (Ev.now _)
      · refine Ev.succ ?_
        simp only [spec_chStable.l0]
        refine Ev.bind (chHigh_ev h8 sink c hc) ?_
        unfold high; rw [if_pos hf]
        exact Ev.pos (by omega) (Ev.now _)
    · have hle := fst_le g sink c g.length 0
      obtain ⟨r, r1, r2, r3, r4⟩ := ih (m + 1) (topp g sink c (fst g sink c g.length 0)) (t.set (fst g sink c g.length 0) (wrap64 (rd t (fst g sink c g.length 0) + 1))) (by omega) (by omega) (by rw [topp_len]; exact hc) (by simp; exact ht)
      refine ⟨r, ?_, ?_, r3, r4⟩
      · refine Ev.succ ?_
        simp only [impl_settle.l0]
        refine settle_scan h8 sink c t hc m _ g.length 0 (by omega) (by omega) ?_
        refine Ev.succ ?_
        simp only [impl_settle.j2]
        refine Ev.neg (by omega) (Ev.neg (by omega) (Ev.bind (topple_ev hg sink hc (by omega) (by omega)) (Ev.pos (by omega) (Ev.pos (by omega) ?_))))
        rw [wrap_nat (by omega), Int.toNat_natCast]
        exact r1
      · refine Ev.succ ?_
        simp only [spec_chStable.l0]
        refine Ev.bind (chHigh_ev h8 sink c hc) ?_
        unfold high; rw [if_neg hf]
        refine Ev.neg (by omega) (Ev.neg (by omega) (Ev.bind (chTopple_ev hg sink hc (by omega) (by omega)) (Ev.pos (by omega) (Ev.pos (by omega) ?_))))
        rw [wrap_nat (by omega), Int.toNat_natCast]
        exact r2
theorem settle_ev {g : List (List Int)} (hg : goodG g = true) (sink : Int) (c : List Int) (hc : c.length = g.length) :
    ∃ r : List Int × List Int × Bool, Ev (fun k => impl_settle.f k g sink c 4000) r ∧ Ev (fun k => spec_chStable.f k g sink c) r ∧ r.1.length ≤ g.length ∧ r.2.1.length ≤ g.length := by
  have h8 := (good_iff hg).1.2
  obtain ⟨r, r1, r2, r3, r4⟩ := settle_both hg sink 4000 0 c (List.replicate g.length 0) (by omega) (by omega) hc (by simp)
  refine ⟨r, ?_, ?_, r3, r4⟩
  · unfold impl_settle.f
    refine Ev.bind0 (clone_ev c (by omega)) (Ev.pos (by omega) (Ev.pos (by omega) ?_))
    rw [show ((c.length : Int)).toNat = g.length by omega]
    exact r1
  · unfold spec_chStable.f
    refine Ev.bind0 (own_ev c (by omega)) (Ev.pos (by omega) (Ev.pos (by omega) ?_))
    rw [show ((g.length : Int)).toNat = g.length by omega]
    exact r2
end Go.Proofs.Ytcmfcleeohcgaab.M
namespace Go.Proofs.Ytcmfcleeohcgaab.M
open Go.RowKit Go.Proofs.Ytcmfcleeohcgaab.P Go.Proofs.Ytcmfcleeohcgaab.In Go.Proofs.YtcmfcleeohcgaabW.PrintWords Go.Proofs.YtcmfcleeohcgaabW.PrintLast
set_option linter.unusedVariables false
set_option linter.unusedSimpArgs false
def marks (a : Int) : Nat → List Int
  | 0 => []
  | n + 1 => a :: marks (a + 1) n
theorem marks_len (a : Int) (n : Nat) : (marks a n).length = n := by
  induction n generalizing a with
  | zero => rfl
  | succ n ih => simp [marks, ih]
theorem markIntS_l0 (n : Nat) (hn : n ≤ 4611686018427387904) : ∀ (d i : Nat) (x : List Int) (a : Int), x.length = n → n - i = d → i ≤ n → 0 ≤ a → a + d ≤ 4611686018427387904 → Ev (fun k => laws_markIntS.l0 k x a i) (a + d, x.take i ++ marks a d) := by
  intro d
  induction d with
  | zero =>
    intro i x a hx hd hi h0 h1
    refine Ev.succ ?_
    simp only [laws_markIntS.l0]
    refine Ev.neg (by omega) ((Ev.now _).val ?_)
    rw [List.take_of_length_le (by omega)]; simp [marks]
  | succ d ih =>
    intro i x a hx hd hi h0 h1
    refine Ev.succ ?_
    simp only [laws_markIntS.l0]
    refine Ev.pos (by omega) (Ev.pos (by omega) ?_)
    rw [wrap_id (x := a + 1) (by omega), wrap_nat (by omega), Int.toNat_natCast]
    refine (ih (i + 1) (x.set i a) (a + 1) (by rw [List.length_set]; exact hx) (by omega) (by omega) (by omega) (by omega)).val ?_
    rw [List.take_succ_eq_append_getElem (by rw [List.length_set]; omega), List.take_set_of_le (Nat.le_refl _), List.getElem_set_self]
    simp only [marks, List.append_assoc, List.singleton_append]
    congr 1; omega
theorem markIntS (x : List Int) (a : Int) (hn : x.length ≤ 4611686018427387904) (h0 : 0 ≤ a) (h1 : a + x.length ≤ 4611686018427387904) : Ev (fun k => laws_markIntS.f k x a) (a + x.length, marks a x.length) := by
  have := markIntS_l0 x.length hn x.length 0 x a rfl (by omega) (by omega) h0 h1
  unfold laws_markIntS.f
  simpa using this
theorem heldIntS_l0 (n : Nat) (hn : n ≤ 4611686018427387904) (y : List Int) (hy : y.length = n) : ∀ (d i : Nat) (a : Int), n - i = d → i ≤ n → 0 ≤ a → a + d ≤ 4611686018427387904 → y.drop i = marks a d → Ev (fun k => laws_heldIntS.l0 k y a i) (a + d) := by
  intro d
  induction d with
  | zero =>
    intro i a hd hi h0 h1 he
    refine Ev.succ ?_
    simp only [laws_heldIntS.l0]
    exact Ev.neg (by omega) ((Ev.now _).val (by simp))
  | succ d ih =>
    intro i a hd hi h0 h1 he
    have hlt : i < y.length := by omega
    rw [List.drop_eq_getElem_cons hlt] at he
    simp only [marks, List.cons.injEq] at he
    refine Ev.succ ?_
    simp only [laws_heldIntS.l0]
    refine Ev.pos (by omega) (Ev.pos (by omega) (Ev.pos (by rw [rd_at hlt]; exact he.1) ?_))
    rw [wrap_id (x := a + 1) (by omega), wrap_nat (by omega)]
    exact (ih (i + 1) (a + 1) (by omega) (by omega) (by omega) (by omega) he.2).val (by omega)
theorem heldIntS (a : Int) (n : Nat) (h0 : 0 ≤ a) (h1 : a + n ≤ 4611686018427387904) : Ev (fun k => laws_heldIntS.f k (marks a n) a) (a + n) :=
  heldIntS_l0 n (by omega) _ (marks_len a n) n 0 a (by omega) (by omega) h0 h1 (by simp)
theorem markR (r : List Int) (h : r.length ≤ 1048576) : ∃ q r', Ev (fun k => laws_markIntS.f k r 1) (q, r') ∧ 0 ≤ q ∧ Ev (fun k => laws_heldIntS.f k r' 1) q ∧ True :=
  ⟨_, _, markIntS r 1 (by omega) (by omega) (by omega), by omega, heldIntS 1 r.length (by omega) (by omega), trivial⟩
end Go.Proofs.Ytcmfcleeohcgaab.M
namespace Go.Proofs.Ytcmfcleeohcgaab.M
open Go.RowKit Go.Proofs.Ytcmfcleeohcgaab.P Go.Proofs.Ytcmfcleeohcgaab.In Go.Proofs.YtcmfcleeohcgaabW.PrintWords Go.Proofs.YtcmfcleeohcgaabW.PrintLast
set_option linter.unusedVariables false
set_option linter.unusedSimpArgs false
def markRows (a : Int) : List (List Int) → Int × List (List Int)
  | [] => (a, [])
  | row :: rest => ((markRows (a + row.length) rest).1, marks a row.length :: (markRows (a + row.length) rest).2)
theorem markIntSS_l0 (n : Nat) (hn : n ≤ 1048576) : ∀ (d i : Nat) (x : List (List Int)) (a : Int), x.length = n → (∀ row ∈ x.drop i, row.length ≤ 1048576) → n - i = d → i ≤ n → 0 ≤ a → a + 1048576 * d ≤ 4611686018427387904 → Ev (fun k => laws_markIntSS.l0 k x a i) ((markRows a (x.drop i)).1, x.take i ++ (markRows a (x.drop i)).2) ∧ a ≤ (markRows a (x.drop i)).1 ∧ (markRows a (x.drop i)).1 ≤ a + 1048576 * d := by
  intro d
  induction d with
  | zero =>
    intro i x a hx hr hd hi h0 h1
    rw [List.drop_of_length_le (by omega)]
    refine ⟨?_, by simp [markRows], by simp [markRows]⟩
    refine Ev.succ ?_
    simp only [laws_markIntSS.l0]
    refine Ev.neg (by omega) ((Ev.now _).val ?_)
    rw [List.take_of_length_le (by omega)]; simp [markRows]
  | succ d ih =>
    intro i x a hx hr hd hi h0 h1
    have hlt : i < x.length := by omega
    have hrow := hr x[i] (by rw [List.drop_eq_getElem_cons hlt]; exact List.mem_cons_self)
    have hdrop : (x.set i (marks a x[i].length)).drop (i + 1) = x.drop (i + 1) := List.drop_set_of_lt (by omega)
    obtain ⟨e1, e2, e3⟩ := ih (i + 1) (x.set i (marks a x[i].length)) (a + x[i].length) (by rw [List.length_set]; exact hx) (fun row hm => hr row (by rw [hdrop] at hm; rw [List.drop_eq_getElem_cons hlt]; exact List.mem_cons_of_mem _ hm)) (by omega) (by omega) (by omega) (by omega)
    rw [hdrop] at e1 e2 e3
    rw [List.drop_eq_getElem_cons hlt]
    simp only [markRows]
    refine ⟨?_, by omega, by omega⟩
    refine Ev.succ ?_
    simp only [laws_markIntSS.l0]
    refine Ev.pos (by omega) (Ev.pos (by omega) ?_)
    rw [rdL_at hlt]
    refine Ev.bind (markIntS x[i] a (by omega) h0 (by omega)) ?_
    rw [wrap_nat (by omega), Int.toNat_natCast]
    refine e1.val ?_
    rw [List.take_succ_eq_append_getElem (by rw [List.length_set]; omega), List.take_set_of_le (Nat.le_refl _), List.getElem_set_self]
    simp
theorem markIntSS (x : List (List Int)) (hx : small x) (a : Int) (h0 : 0 ≤ a) (h1 : a ≤ 1099511627776) : Ev (fun k => laws_markIntSS.f k x a) ((markRows a x).1, (markRows a x).2) ∧ a ≤ (markRows a x).1 ∧ (markRows a x).1 ≤ a + 1099511627776 := by
  have hl := hx.1
  obtain ⟨e1, e2, e3⟩ := markIntSS_l0 x.length hx.1 x.length 0 x a rfl (fun row hm => hx.2 row (by simpa using hm)) (by omega) (by omega) h0 (by omega)
  refine ⟨by unfold laws_markIntSS.f; simpa using e1, by simpa using e2, ?_⟩
  have : (markRows a x).1 ≤ a + 1048576 * x.length := by simpa using e3
  omega
theorem markG (x : List (List Int)) (hx : small x) : ∃ m x', Ev (fun k => laws_markGraph.f k x 1) (m, x') ∧ 0 ≤ m ∧ m ≤ 1099511627777 := by
  obtain ⟨e1, e2, e3⟩ := markIntSS x hx 1 (by omega) (by omega)
  exact ⟨_, _, e1, by omega, by omega⟩
end Go.Proofs.Ytcmfcleeohcgaab.M
namespace Go.Proofs.Ytcmfcleeohcgaab.Pure
open Go.RowKit Go.Proofs.Ytcmfcleeohcgaab.P Go.Proofs.Ytcmfcleeohcgaab.In Go.Proofs.Ytcmfcleeohcgaab.M Go.Proofs.YtcmfcleeohcgaabW.PrintWords Go.Proofs.YtcmfcleeohcgaabW.PrintLast
set_option linter.unusedVariables false
set_option linter.unusedSimpArgs false
theorem FnExactTopplesOf (l : List (List Int)) (hl : okSS l) (p : Int) (hp : okI p) (ch : List Int) (hch : okIs ch) : laws_FnExactTopplesOf.f l p ch = some true := by
  unfold laws_FnExactTopplesOf.f
  rw [if_pos]
  unfold laws_FnExactTopplesOf.Good
  intro hlen
  obtain ⟨r, hr, _, hs⟩ := szGraph l hl
  refine ⟨r, hr, fun h => ?_⟩
  have sm := hs h
  obtain ⟨v, b, hS, hI, hv⟩ : ∃ (v : List Int) (b : Bool), Ev (fun k => spec_TopplesOf.f k l p ch) (v, b) ∧ Ev (fun k => impl_TopplesOf.f k l p ch) (v, b) ∧ v.length ≤ 1048576 := by
    by_cases hh : heapB l p ch = true
    · obtain ⟨hs, hc, _⟩ := heap_iff hh
      have hg := (place_iff (sunk_iff hs).1).1
      have h8 := (good_iff hg).1.2
      obtain ⟨r, r1, r2, r3, r4⟩ := settle_ev hg p ch hc
      refine ⟨r.2.1, r.2.2, ?_, ?_, by omega⟩
      · unfold spec_TopplesOf.f
        exact Ev.bind (chHeap_ev l hl p ch hch) (Ev.pos hh (Ev.bind r2 (Ev.now _)))
      · unfold impl_TopplesOf.f
        exact Ev.bind (isHeap_ev l p ch) (Ev.pos hh (Ev.bind r1 (Ev.now _)))
    · refine ⟨[], false, ?_, ?_, by simp⟩
      · unfold spec_TopplesOf.f
        exact Ev.bind (chHeap_ev l hl p ch hch) (Ev.neg hh (Ev.now _))
      · unfold impl_TopplesOf.f
        exact Ev.bind (isHeap_ev l p ch) (Ev.neg hh (Ev.now _))
  obtain ⟨m, l', hm, hm0, hm1⟩ := markG l sm
  exact ⟨toGraph l sm, toIntS ch (by omega), v, b, hS, hI, (eqIntS v v (by omega)).val (decide_eq_true rfl), small_eq l sm, (eqIntS ch ch (by omega)).val (decide_eq_true rfl), m, l', hm, hm0, _, _, markIntS ch m (by omega) hm0 (by omega), by omega, markR v hv⟩
end Go.Proofs.Ytcmfcleeohcgaab.Pure
namespace Go.Proofs.Ytcmfcleeohcgaab.fnExactTopplesOf
open Go.ChangeShapes Go.WideShapes Go.ChangeAt Go.RowKit
open Go.ChangeMaps (open_string shut_string)
open Go.Proofs.Ytcmfcleeohcgaab.In Go.Proofs.Ytcmfcleeohcgaab.P
set_option linter.unusedVariables false
theorem own : ownKnob Try.prog.godebug = none := by kernel_rfl
theorem laidOut : laidOutB Try.prog = true := by kernel_rfl
set_option maxRecDepth 100000 in
theorem lifted (os : Os) (started : os.Started) (H : Type) (enc : TypeId × Value → H) :
    ReturnsInHanded {} Try.checked os 7 .any (Rows.fnExactTopplesOfSpec.pre6 enc Try.prog Try.f7 Rows.fnExactTopplesOfRow.domain false) (Rows.fnExactTopplesOfSpec.post enc Try.prog Try.f7 false true false false) := by
  refine returnsInHanded_of_change_sized (C := Try.checked) own started (by kernel_rfl) Try.func7
    (ChangeSpec.witness6 (enc := enc) (C := Try.checked) false ⟨#[], #[.agg #[.slice none 0 0], .int .i64 0, .slice none 0 0], []⟩ 8 (by kernel_rfl) (by kernel_rfl) (by kernel_rfl) (by kernel_rfl)) ?_
  intro W base args ds gs before hval0 hW hcnd hsz0 _
  have hsz : (DataW.weightsEach Try.prog (Try.f7.params.toList ++ Rows.fnExactTopplesOfSpec.plain.varTypes Try.prog) (ds ++ gs)).all (· ≤ reachBytes) = true := hsz0
  have hval : ∀ (j : Nat) t v, Try.f7.params[j]? = some t → args[j]? = some v → Value.okWide Try.prog W .any base t v := hval0
  have hW' := hW
  obtain ⟨p, q, hA0, hV, rfl, hfz, hnd⟩ := hW
  have hA : DataW.TrodAll enc Try.prog W 0 (fun _ => true) true Try.f7.params.toList args.toList ds p := hA0
  rw [Try.params7] at hA hval hsz
  obtain ⟨v0, vs0, d0, ds0, p0, q0, hargs, rfl, rfl, h0, r0⟩ := trodAll_cons hA
  obtain ⟨v1, vs1, d1, ds1, p1, q1, rfl, rfl, rfl, h1, r1⟩ := trodAll_cons r0
  obtain ⟨v2, vs2, d2, ds2, p2, q2, rfl, rfl, rfl, h2, r2⟩ := trodAll_cons r1
  obtain ⟨rfl, rfl, rfl⟩ := trodAll_nil r2
  obtain rfl : args = #[v0, v1, v2] := by cases args; simp_all
  obtain ⟨rfl, rfl⟩ := trodVars_none hV
  have k0 := h0
  have lt0 : ∀ x ∈ p0, x.block < W.heap.size := by obtain ⟨m, hm⟩ := k0; exact DataW.trod_lt m _ _ _ hm
  obtain ⟨A0, l0, cap0, rfl, hl0, hc0, hw0⟩ := in_graph (q := 3) Try.underlying24 (by kernel_rfl) (by kernel_rfl) rfl Try.underlying22 Try.underlying25 Try.underlying3 (by kernel_rfl) (by kernel_rfl) (hval 0 24 v0 rfl rfl) h0
  obtain ⟨a1, rfl, rfl, rfl, w1⟩ := open_int Try.underlying3 (hval 1 3 v1 rfl rfl) h1
  have k2 := h2
  have lt2 : ∀ x ∈ p2, x.block < W.heap.size := by obtain ⟨m, hm⟩ := k2; exact DataW.trod_lt m _ _ _ hm
  obtain ⟨A2, l2, cap2, rfl, hl2, hc2, hw2⟩ := in_slice (q := 3) Try.underlying25 Try.underlying3 (by kernel_rfl) (hval 2 25 v2 rfl rfl) h2
  clear hA0 hval0 hsz0 hsz
  have h := Pure.FnExactTopplesOf l0 (okSS_wf hc0 hw0) a1 (okI_wf w1) l2 (okIs_wf hw2)
  refine (laws_FnExactTopplesOf.calls _ _ l0 a1 _ _ l2 true W hc0 hl0 hc2 hl2 h).mono fun e W' ⟨he, bel0⟩ => ?_
  have bel : Below W.heap.size W W' := bel0
  subst he
  exact ⟨_, rfl, _, _, _, [], _, [], hW', trodAll_mk1 (shut_bool Try.underlying4 _), (trodAll_cons_mk (Below.trod laidOut (by kernel_rfl) (of_decide_eq_true (by kernel_rfl)) k0 bel lt0) (trodAll_cons_mk (shut_int Try.underlying3 w1) (trodAll_cons_mk (Below.trod laidOut (by kernel_rfl) (of_decide_eq_true (by kernel_rfl)) k2 bel lt2) trodAll_mk0))), rfl, bel.frame _, fun h => by cases h⟩
theorem over : Rows.fnExactTopplesOfRow.holds Try.pinned (OpenSpec.ofChange Rows.fnExactTopplesOfSpec) :=
  OpenClaim.holds_of_wide 7 Try.f7 rfl rfl rfl rfl rfl rfl rfl ⟨rfl, rfl, rfl, rfl, rfl⟩ rfl rfl rfl rfl rfl (by kernel_rfl) Try.func7 (by kernel_rfl)
    (of_decide_eq_true (by kernel_rfl)) (by unfold Func.isWrapper; first | (rw [if_pos (by decide +kernel)]; kernel_rfl) | (rw [if_neg (by decide +kernel)]; exact ⟨rfl, rfl⟩))
    (fun os started H enc _ => lifted os started H enc)
theorem proved : Rows.FnExactTopplesOfSaid := over
end Go.Proofs.Ytcmfcleeohcgaab.fnExactTopplesOf
namespace Go.Proofs.Ytcmfcleeohcgaab
/-- The law, under a short name, for the claim. -/
theorem fnExactTopplesOf_holds : Rows.FnExactTopplesOfSaid := fnExactTopplesOf.proved
#print axioms fnExactTopplesOf_holds
end Go.Proofs.Ytcmfcleeohcgaab
