/- The law FnExactFirstTree holds for every input: the program returns what the reference returns (or what the law says), for all arguments. -/
import Derived.Test.YthjkhbfaenidpaaPimplFirstTree
import Derived.Test.YthjkhbfaenidpaaPlawseqGraph
import Derived.Test.YthjkhbfaenidpaaPlawseqIntS
import Derived.Test.YthjkhbfaenidpaaPlawsheldIntS
import Derived.Test.YthjkhbfaenidpaaPlawsmarkGraph
import Derived.Test.YthjkhbfaenidpaaPlawsmarkIntS
import Derived.Test.YthjkhbfaenidpaaPlawsszGraph
import Derived.Test.YthjkhbfaenidpaaPlawstoGraph
import Derived.Test.YthjkhbfaenidpaaCFnExactFirstTreea
import Derived.Test.YthjkhbfaenidpaaPspecgrGood
import Derived.Test.YthjkhbfaenidpaaPspecl1All
import Derived.Test.YthjkhbfaenidpaaPspecl1In
import Derived.Test.YthjkhbfaenidpaaPimplisGraph
import Derived.Test.YthjkhbfaenidpaaPimplhas
import Derived.Test.YthjkhbfaenidpaaPimplGraphlengths
import Derived.Test.YthjkhbfaenidpaaPimplGraphleadsTo
import Derived.Test.YthjkhbfaenidpaaPimplhasSink
import Derived.Test.YthjkhbfaenidpaaPimplGraphnext
import Derived.Test.YthjkhbfaenidpaaPimplGraphtreeWays
import Derived.Test.YthjkhbfaenidpaaPimplGraphisTree
import Derived.Test.YthjkhbfaenidpaaPimplallTrees
import Derived.Test.YthjkhbfaenidpaaPlawsmarkIntSS
import Derived.Test.YthjkhbfaenidpaaRows
import Derived.WalkKit
import Derived.ProofKit
import Derived.OpenShut
import Derived.ShutString
import Derived.ChangeOld
import Derived.Below
import Derived.SizedLaws
import Derived.Deep.Matrix
import Derived.Lib.SmallJoins
namespace Go.Proofs.Ythjkhbfaenidpaa.P
open Go.RowKit Go.Proofs.YthjkhbfaenidpaaW.PrintWords Go.Proofs.YthjkhbfaenidpaaW.PrintLast Go.Proofs.YthjkhbfaenidpaaW.PrintMore Go.Proofs.Ythjkhbfaenidpaa.M
attribute [local go_sem] max2_int min2_int max_two min_two max_three min_three max_four min_four   -- for this text's walks alone
set_option linter.unusedVariables false
set_option linter.unusedSimpArgs false

/-- What the calls on the straight way answer. -/
def laws_FnExactFirstTree.Good (l0_0 : List (List Int)) (a1 : Int) : Prop :=
  ∃ x4 : Int, Ev (fun k => laws_szGraph.f k l0_0 1048576) x4 ∧ (0 ≤ x4 → Ev (fun k => laws_toGraph.f k l0_0) l0_0 ∧ ∃ x15 : List Int, ∃ x16 : Bool, Ev (fun k => spec_FirstTree.f k l0_0 a1) (x15, x16) ∧ Ev (fun k => impl_FirstTree.f k l0_0 a1) (x15, x16) ∧ Ev (fun k => laws_eqIntS.f k x15 x15) true ∧ Ev (fun k => laws_eqGraph.f k l0_0 l0_0) true ∧ ∃ x54 : Int, ∃ x55 : List (List Int), Ev (fun k => laws_markGraph.f k l0_0 1) (x54, x55) ∧ 0 ≤ x54 ∧ ∃ x60 : Int, ∃ x61 : List Int, Ev (fun k => laws_markIntS.f k x15 1) (x60, x61) ∧ 0 ≤ x60 ∧ Ev (fun k => laws_heldIntS.f k x61 1) x60 ∧ True)
open Classical in
noncomputable def laws_FnExactFirstTree.f (l0_0 : List (List Int)) (a1 : Int) : Option Bool := if laws_FnExactFirstTree.Good l0_0 a1 then some true else none
set_option maxHeartbeats 16000000 in
set_option maxRecDepth 100000 in
theorem laws_FnExactFirstTree.calls (A0_0 : Option Addr) (c0_0 : Nat) (l0_0 : List (List Int)) (a1 : Int) (r : Bool) (w : World) (hr0_0 : Kd.C (Kd.slice 3 (Kd.int .i64)) w A0_0 l0_0.length l0_0) (hc0_0 : l0_0.length ≤ c0_0) (h : laws_FnExactFirstTree.f l0_0 a1 = some r) :
    Calls Try.prog 4 #[.agg #[.slice A0_0 l0_0.length c0_0], .int .i64 a1] w fun e w' => e = .returned (.bool r) ∧ Below w.heap.size w w' := by
  unfold laws_FnExactFirstTree.f at h
  by_cases hg : laws_FnExactFirstTree.Good l0_0 a1
  case neg => rw [if_neg hg] at h; cases h
  rw [if_pos hg] at h
  obtain rfl := Option.some.inj h
  clear h
  unfold laws_FnExactFirstTree.Good at hg
  have hu24 := Try.underlying24
  have hu28 := Try.underlying28
  obtain ⟨s0, hs0⟩ : ∃ s0, s0 = w.heap.size := ⟨_, rfl⟩
  have HS := Aside0.mk (Nat.le_of_eq hs0)
  have CH := Aside0.mk True.intro
  have HB := Aside0.mk (Below.refl w.heap.size w)
  have FA0_0 := Aside0.mk (show Kd.F (Kd.slice 3 (Kd.int .i64)) w (fun k_ => k_ < s0) A0_0 l0_0.length l0_0 by rw [hs0]; exact Kd.C_F (Kd.heap_slice 3 (Kd.heap_int .i64)) hr0_0)
  have HC0_0 := Aside0.mk hc0_0
  clear hr0_0 hc0_0
  clear hs0
  obtain ⟨x4, hg⟩ := hg
  obtain ⟨E_, hg⟩ := hg
  obtain ⟨KE5, E_⟩ := E_
  have E5 := Aside0.mk (E_ KE5 (Nat.le_refl _))
  clear E_
  by_cases hz : x4 < 0
  · have hzb : decide (x4 < 0) = true := decide_eq_true hz
    clear hg hz
    go_enter Try.func4, Try.ntmps4
    go_wp2_with (first | ((with_reducible refine gate_dst (N := 2) rfl ?_); refine box_event ?hg (N := 2) ?hd (cs := #[.slice A0_0 l0_0.length c0_0]) (t := 24) ?hr ?_; (case hd => rfl); (case hg => rfl); (case hr => first | (go_simp; done) | (go_simp; rfl)); intro gb1 hg_ w2 hbox_ hb_; obtain ⟨hk_, hs1_, hs2_, hw0_⟩ := ev_kept (S := (fun _ => False)) HS.out HB.out hb_ (by repeat (first | (with_reducible first | exact Kept.refl _ _ | apply Kept.alloc | apply Kept.drewN | apply Kept.drew) | exact Kept.refl _ _)); have hw_ : w.heap.size ≤ gb1 := (by rw [hg_]; exact hw0_); have hB_ := below_step (by repeat (first | (with_reducible first | exact HB.out | apply below_alloc | apply pw_below_drewN | apply below_drew1) | exact HB.out)) hb_; have n0_ := Aside0.mk (Kd.F_kept FA0_0.out hk_ (fun _ _ hs_ => hs_.elim)); have hS_ : s0 ≤ gb1 := (by rw [hg_]; exact hs1_); have nb_ := Aside0.mk hbox_; have ns_ := Aside0.mk (box_in hbox_); have nc_ := Aside0.mk (And.intro hS_ CH.out); have ng_ := Aside0.mk hw_; have nB_ := Aside0.mk hB_; clear HB HS CH FA0_0; have FA0_0 := n0_; have HB := nB_; have HS := ns_; have CH := nc_; have BKgb1 := nb_; have GEgb1 := ng_; clear nB_ ns_ nc_ nb_ ng_ n0_; clear hk_ hs1_ hs2_ hw_ hw0_ hB_ hS_ hb_ hbox_ hg_; have hczgb1_0 : w2.cell? ⟨gb1, 0, none⟩ = some (.slice A0_0 l0_0.length c0_0) := (blk_cell BKgb1.out 0).trans rfl; have hfzgb1_0 := blk_frozen BKgb1.out 0) | ((with_reducible refine gate_callee (f := 6) rfl ?_); refine goesL_ (some 18) rfl rfl Try.func6 (by kernel_rfl) rfl #[.agg #[.slice A0_0 l0_0.length c0_0], .int .i64 1048576] rfl (by (try simp only [List.map_toArray, List.map_cons, List.map_nil]); first | done | rfl | (simp only [List.length_drop, List.length_take]; rfl)) ?_; (with_reducible refine (laws_szGraph.calls KE5 _ _ l0_0 1048576 x4 _ ?sidehr0_0 ?sidehc0_0 E5.out).mono ?_); (case sidehr0_0 => exact F_at (S := (fun _ => False)) FA0_0.out (by repeat (first | (with_reducible first | exact Kept.refl _ _ | apply Kept.alloc | apply Kept.drewN | apply Kept.drew) | exact Kept.refl _ _)) (fun _ _ hs_ => hs_.elim)); (case sidehc0_0 => exact HC0_0.out); rintro e w3 ⟨rfl, hb_⟩; refine ⟨_, rfl, ?_⟩; (try clear hczgb1_0); (try clear hfzgb1_0); obtain ⟨hk_, hs1_, hs2_, hw_⟩ := ev_kept (S := (fun _ => False)) HS.out HB.out hb_ (by repeat (first | (with_reducible first | exact Kept.refl _ _ | apply Kept.alloc | apply Kept.drewN | apply Kept.drew) | exact Kept.refl _ _)); have hB_ := below_step (by repeat (first | (with_reducible first | exact HB.out | apply below_alloc | apply pw_below_drewN | apply below_drew1 | refine below_set ?_ GEgb1.out) | exact HB.out)) hb_; have n0_ := Aside0.mk (Kd.F_kept FA0_0.out hk_ (fun _ _ hs_ => hs_.elim)); have n1_ := Aside0.mk (blk_below (g := gb1) (o := .cells #[.slice A0_0 l0_0.length c0_0] 24 (0, 0)) (by (with_reducible repeat (first | refine blk_drewN ?_ _ | refine blk_drew ?_ | refine blk_alloc ?_ _)); exact BKgb1.out) hb_); have ns_ := Aside0.mk (Nat.le_trans (Nat.le_trans hs1_ hs2_) (Nat.le_refl _)); have nB_ := Aside0.mk hB_; clear HB HS FA0_0 BKgb1; have FA0_0 := n0_; have BKgb1 := n1_; have HB := nB_; have HS := ns_; clear nB_ ns_ n0_ n1_; clear hk_ hs1_ hs2_ hw_ hB_ hb_; have hczgb1_0 : w3.cell? ⟨gb1, 0, none⟩ = some (.slice A0_0 l0_0.length c0_0) := (blk_cell BKgb1.out 0).trans rfl; have hfzgb1_0 := blk_frozen BKgb1.out 0))
    go_ret
    exact ⟨by first | rfl | (simp; done), by repeat (first | (with_reducible first | exact HB.out | apply below_alloc | apply pw_below_drewN | apply below_drew1 | refine below_set ?_ GEgb1.out | refine below_set ?_ GEgb31.out) | exact HB.out)⟩
  have hg := hg (by omega)
  have hzx4 : decide (x4 < 0) = false := decide_eq_false hz
  clear hz
  obtain ⟨E_, hg⟩ := hg
  obtain ⟨KE7, E_⟩ := E_
  have E7 := Aside0.mk (E_ KE7 (Nat.le_refl _))
  clear E_
  obtain ⟨x15, hg⟩ := hg
  obtain ⟨x16, hg⟩ := hg
  obtain ⟨E_, hg⟩ := hg
  obtain ⟨KE17, E_⟩ := E_
  have E17 := Aside0.mk (E_ KE17 (Nat.le_refl _))
  clear E_
  obtain ⟨E_, hg⟩ := hg
  obtain ⟨KE34, E_⟩ := E_
  have E34 := Aside0.mk (E_ KE34 (Nat.le_refl _))
  clear E_
  obtain ⟨E_, hg⟩ := hg
  obtain ⟨KE42, E_⟩ := E_
  have E42 := Aside0.mk (E_ KE42 (Nat.le_refl _))
  clear E_
  obtain ⟨E_, hg⟩ := hg
  obtain ⟨KE52, E_⟩ := E_
  have E52 := Aside0.mk (E_ KE52 (Nat.le_refl _))
  clear E_
  obtain ⟨x54, hg⟩ := hg
  obtain ⟨x55, hg⟩ := hg
  obtain ⟨E_, hg⟩ := hg
  obtain ⟨KE56, E_⟩ := E_
  have E56 := Aside0.mk (E_ KE56 (Nat.le_refl _))
  clear E_
  obtain ⟨hpx54, hg⟩ := hg
  have hnx54 : decide (x54 < 0) = false := decide_eq_false (by omega)
  have hex54 : (x54 != x54) = false := bne_self_eq_false _
  have hdx54 : decide (x54 = x54) = true := decide_eq_true rfl
  clear hpx54
  obtain ⟨x60, hg⟩ := hg
  obtain ⟨x61, hg⟩ := hg
  obtain ⟨E_, hg⟩ := hg
  obtain ⟨KE62, E_⟩ := E_
  have E62 := Aside0.mk (E_ KE62 (Nat.le_refl _))
  clear E_
  obtain ⟨hpx60, hg⟩ := hg
  have hnx60 : decide (x60 < 0) = false := decide_eq_false (by omega)
  have hex60 : (x60 != x60) = false := bne_self_eq_false _
  have hdx60 : decide (x60 = x60) = true := decide_eq_true rfl
  clear hpx60
  obtain ⟨E_, hg⟩ := hg
  obtain ⟨KE65, E_⟩ := E_
  have E65 := Aside0.mk (E_ KE65 (Nat.le_refl _))
  clear E_
  clear hg
  have hbx16 : (x16 != x16) = false := bne_self_eq_false _
  have hdx16 : (x16 == x16) = true := beq_self_eq_true _
  go_enter Try.func4, Try.ntmps4
  go_wp2_with (first | ((with_reducible refine gate_dst (N := 2) rfl ?_); refine box_event ?hg (N := 2) ?hd (cs := #[.slice A0_0 l0_0.length c0_0]) (t := 24) ?hr ?_; (case hd => rfl); (case hg => rfl); (case hr => first | (go_simp; done) | (go_simp; rfl)); intro gb1 hg_ w2 hbox_ hb_; obtain ⟨hk_, hs1_, hs2_, hw0_⟩ := ev_kept (S := (fun _ => False)) HS.out HB.out hb_ (by repeat (first | (with_reducible first | exact Kept.refl _ _ | apply Kept.alloc | apply Kept.drewN | apply Kept.drew) | exact Kept.refl _ _)); have hw_ : w.heap.size ≤ gb1 := (by rw [hg_]; exact hw0_); have hB_ := below_step (by repeat (first | (with_reducible first | exact HB.out | apply below_alloc | apply pw_below_drewN | apply below_drew1) | exact HB.out)) hb_; have n0_ := Aside0.mk (Kd.F_kept FA0_0.out hk_ (fun _ _ hs_ => hs_.elim)); have hS_ : s0 ≤ gb1 := (by rw [hg_]; exact hs1_); have nb_ := Aside0.mk hbox_; have ns_ := Aside0.mk (box_in hbox_); have nc_ := Aside0.mk (And.intro hS_ CH.out); have ng_ := Aside0.mk hw_; have nB_ := Aside0.mk hB_; clear HB HS CH FA0_0; have FA0_0 := n0_; have HB := nB_; have HS := ns_; have CH := nc_; have BKgb1 := nb_; have GEgb1 := ng_; clear nB_ ns_ nc_ nb_ ng_ n0_; clear hk_ hs1_ hs2_ hw_ hw0_ hB_ hS_ hb_ hbox_ hg_; have hczgb1_0 : w2.cell? ⟨gb1, 0, none⟩ = some (.slice A0_0 l0_0.length c0_0) := (blk_cell BKgb1.out 0).trans rfl; have hfzgb1_0 := blk_frozen BKgb1.out 0) | ((with_reducible refine gate_callee (f := 6) rfl ?_); refine goesL_ (some 18) rfl rfl Try.func6 (by kernel_rfl) rfl #[.agg #[.slice A0_0 l0_0.length c0_0], .int .i64 1048576] rfl (by (try simp only [List.map_toArray, List.map_cons, List.map_nil]); first | done | rfl | (simp only [List.length_drop, List.length_take]; rfl)) ?_; (with_reducible refine (laws_szGraph.calls KE5 _ _ l0_0 1048576 x4 _ ?sidehr0_0 ?sidehc0_0 E5.out).mono ?_); (case sidehr0_0 => exact F_at (S := (fun _ => False)) FA0_0.out (by repeat (first | (with_reducible first | exact Kept.refl _ _ | apply Kept.alloc | apply Kept.drewN | apply Kept.drew) | exact Kept.refl _ _)) (fun _ _ hs_ => hs_.elim)); (case sidehc0_0 => exact HC0_0.out); rintro e w3 ⟨rfl, hb_⟩; refine ⟨_, rfl, ?_⟩; (try clear hczgb1_0); (try clear hfzgb1_0); obtain ⟨hk_, hs1_, hs2_, hw_⟩ := ev_kept (S := (fun _ => False)) HS.out HB.out hb_ (by repeat (first | (with_reducible first | exact Kept.refl _ _ | apply Kept.alloc | apply Kept.drewN | apply Kept.drew) | exact Kept.refl _ _)); have hB_ := below_step (by repeat (first | (with_reducible first | exact HB.out | apply below_alloc | apply pw_below_drewN | apply below_drew1 | refine below_set ?_ GEgb1.out) | exact HB.out)) hb_; have n0_ := Aside0.mk (Kd.F_kept FA0_0.out hk_ (fun _ _ hs_ => hs_.elim)); have n1_ := Aside0.mk (blk_below (g := gb1) (o := .cells #[.slice A0_0 l0_0.length c0_0] 24 (0, 0)) (by (with_reducible repeat (first | refine blk_drewN ?_ _ | refine blk_drew ?_ | refine blk_alloc ?_ _)); exact BKgb1.out) hb_); have ns_ := Aside0.mk (Nat.le_trans (Nat.le_trans hs1_ hs2_) (Nat.le_refl _)); have nB_ := Aside0.mk hB_; clear HB HS FA0_0 BKgb1; have FA0_0 := n0_; have BKgb1 := n1_; have HB := nB_; have HS := ns_; clear nB_ ns_ n0_ n1_; clear hk_ hs1_ hs2_ hw_ hB_ hb_; have hczgb1_0 : w3.cell? ⟨gb1, 0, none⟩ = some (.slice A0_0 l0_0.length c0_0) := (blk_cell BKgb1.out 0).trans rfl; have hfzgb1_0 := blk_frozen BKgb1.out 0) | ((with_reducible refine gate_callee (f := 8) rfl ?_); refine goesL_ (some 23) rfl rfl Try.func8 (by kernel_rfl) rfl #[.agg #[.slice A0_0 l0_0.length c0_0]] rfl (by (try simp only [List.map_toArray, List.map_cons, List.map_nil]); first | done | rfl | (simp only [List.length_drop, List.length_take]; rfl)) ?_; (with_reducible refine (laws_toGraph.calls KE7 _ _ l0_0 l0_0 _ ?sidehr0_0 ?sidehc0_0 E7.out).mono ?_); (case sidehr0_0 => exact F_at (S := (fun _ => False)) FA0_0.out (by repeat (first | (with_reducible first | exact Kept.refl _ _ | apply Kept.alloc | apply Kept.drewN | apply Kept.drew) | exact Kept.refl _ _)) (fun _ _ hs_ => hs_.elim)); (case sidehc0_0 => exact HC0_0.out); rintro e w6 ⟨v8, rfl, hov0__, hb_⟩; refine ⟨_, rfl, ?_⟩; (try clear hczgb1_0); (try clear hfzgb1_0); obtain ⟨hk_, hs1_, hs2_, hw_⟩ := ev_kept (S := (fun _ => False)) HS.out HB.out hb_ (by repeat (first | (with_reducible first | exact Kept.refl _ _ | apply Kept.alloc | apply Kept.drewN | apply Kept.drew) | exact Kept.refl _ _)); have hB_ := below_step (by repeat (first | (with_reducible first | exact HB.out | apply below_alloc | apply pw_below_drewN | apply below_drew1 | refine below_set ?_ GEgb1.out) | exact HB.out)) hb_; have n0_ := Aside0.mk (Kd.F_kept FA0_0.out hk_ (fun _ _ hs_ => hs_.elim)); have n1_ := Aside0.mk (blk_below (g := gb1) (o := .cells #[.slice A0_0 l0_0.length c0_0] 24 (0, 0)) (by (with_reducible repeat (first | refine blk_drewN ?_ _ | refine blk_drew ?_ | refine blk_alloc ?_ _)); exact BKgb1.out) hb_); have ns_ := Aside0.mk (Nat.le_trans (Nat.le_trans hs1_ hs2_) (Nat.le_refl _)); have nB_ := Aside0.mk hB_; obtain ⟨lo9, hi10, c1_, c2_, c3_, h_⟩ := S_new hov0__ hs2_ hw_ hs1_; have HS11 := Aside0.mk h_; obtain ⟨Ao12, co13, eo_⟩ := Kd.S_slice HS11.out; subst eo_; have HCHS11 := Aside0.mk (Kd.S_reads' HS11.out).2.1; clear h_ hov0__; have nc_ := Aside0.mk (And.intro c1_ (And.intro c2_ CH.out)); clear CH ns_; have CH := nc_; have ns_ := Aside0.mk c3_; clear nc_ c1_ c2_ c3_; clear HB HS FA0_0 BKgb1; have FA0_0 := n0_; have BKgb1 := n1_; have HB := nB_; have HS := ns_; clear nB_ ns_ n0_ n1_; clear hk_ hs1_ hs2_ hw_ hB_ hb_; have hczgb1_0 : w6.cell? ⟨gb1, 0, none⟩ = some (.slice A0_0 l0_0.length c0_0) := (blk_cell BKgb1.out 0).trans rfl; have hfzgb1_0 := blk_frozen BKgb1.out 0) | ((with_reducible refine gate_callee (f := 15) rfl ?_); refine goesL_ (some 25) rfl rfl Try.func15 (by kernel_rfl) rfl #[.agg #[.slice Ao12 l0_0.length co13], .int .i64 a1] rfl (by (try simp only [List.map_toArray, List.map_cons, List.map_nil]); first | done | rfl | (simp only [List.length_drop, List.length_take]; rfl)) ?_; (with_reducible refine (spec_FirstTree.calls KE17 _ _ l0_0 a1 x15 x16 _ ?sidehr0_0 ?sidehc0_0 E17.out).mono ?_); (case sidehr0_0 => exact S_now (S := (fun _ => False)) HS11.out (by repeat (first | (with_reducible first | exact Kept.refl _ _ | apply Kept.alloc | apply Kept.drewN | apply Kept.drew) | exact Kept.refl _ _)) (fun _ _ hs_ => hs_.elim)); (case sidehc0_0 => exact HCHS11.out); rintro e w14 ⟨v18, rfl, hov0__, hb_⟩; refine ⟨_, rfl, ?_⟩; (try clear hczgb1_0); (try clear hfzgb1_0); obtain ⟨hk_, hs1_, hs2_, hw_⟩ := ev_kept (S := (fun _ => False)) HS.out HB.out hb_ (by repeat (first | (with_reducible first | exact Kept.refl _ _ | apply Kept.alloc | apply Kept.drewN | apply Kept.drew) | exact Kept.refl _ _)); have hB_ := below_step (by repeat (first | (with_reducible first | exact HB.out | apply below_alloc | apply pw_below_drewN | apply below_drew1 | refine below_set ?_ GEgb1.out) | exact HB.out)) hb_; have n0_ := Aside0.mk (Kd.F_kept FA0_0.out hk_ (fun _ _ hs_ => hs_.elim)); have n1_ := Aside0.mk (blk_below (g := gb1) (o := .cells #[.slice A0_0 l0_0.length c0_0] 24 (0, 0)) (by (with_reducible repeat (first | refine blk_drewN ?_ _ | refine blk_drew ?_ | refine blk_alloc ?_ _)); exact BKgb1.out) hb_); have n2_ := Aside0.mk (Kd.S_kept HS11.out hk_ (fun _ _ hs_ => hs_.elim)); have ns_ := Aside0.mk (Nat.le_trans (Nat.le_trans hs1_ hs2_) (Nat.le_refl _)); have nB_ := Aside0.mk hB_; obtain ⟨lo19, hi20, c1_, c2_, c3_, h_⟩ := R_new hov0__ hs2_ hw_ hs1_; have HR21 := Aside0.mk h_; obtain ⟨Ao22, co23, eo_⟩ := Kd.R_slice HR21.out; subst eo_; have HCHR21 := Aside0.mk (Kd.R_reads' HR21.out).2.1; clear h_ hov0__; have nc_ := Aside0.mk (And.intro c1_ (And.intro c2_ CH.out)); clear CH ns_; have CH := nc_; have ns_ := Aside0.mk c3_; clear nc_ c1_ c2_ c3_; clear HB HS FA0_0 BKgb1 HS11; have FA0_0 := n0_; have BKgb1 := n1_; have HS11 := n2_; have HB := nB_; have HS := ns_; clear nB_ ns_ n0_ n1_ n2_; clear hk_ hs1_ hs2_ hw_ hB_ hb_; have hczgb1_0 : w14.cell? ⟨gb1, 0, none⟩ = some (.slice A0_0 l0_0.length c0_0) := (blk_cell BKgb1.out 0).trans rfl; have hfzgb1_0 := blk_frozen BKgb1.out 0) | ((with_reducible refine gate_callee (f := 8) rfl ?_); refine goesL_ (some 29) rfl rfl Try.func8 (by kernel_rfl) rfl #[.agg #[.slice A0_0 l0_0.length c0_0]] rfl (by (try simp only [List.map_toArray, List.map_cons, List.map_nil]); first | done | rfl | (simp only [List.length_drop, List.length_take]; rfl)) ?_; (with_reducible refine (laws_toGraph.calls KE7 _ _ l0_0 l0_0 _ ?sidehr0_0 ?sidehc0_0 E7.out).mono ?_); (case sidehr0_0 => exact F_at (S := (fun _ => False)) FA0_0.out (by repeat (first | (with_reducible first | exact Kept.refl _ _ | apply Kept.alloc | apply Kept.drewN | apply Kept.drew) | exact Kept.refl _ _)) (fun _ _ hs_ => hs_.elim)); (case sidehc0_0 => exact HC0_0.out); rintro e w24 ⟨v25, rfl, hov0__, hb_⟩; refine ⟨_, rfl, ?_⟩; (try clear hczgb1_0); (try clear hfzgb1_0); obtain ⟨hk_, hs1_, hs2_, hw_⟩ := ev_kept (S := (fun _ => False)) HS.out HB.out hb_ (by repeat (first | (with_reducible first | exact Kept.refl _ _ | apply Kept.alloc | apply Kept.drewN | apply Kept.drew) | exact Kept.refl _ _)); have hB_ := below_step (by repeat (first | (with_reducible first | exact HB.out | apply below_alloc | apply pw_below_drewN | apply below_drew1 | refine below_set ?_ GEgb1.out) | exact HB.out)) hb_; have n0_ := Aside0.mk (Kd.F_kept FA0_0.out hk_ (fun _ _ hs_ => hs_.elim)); have n1_ := Aside0.mk (blk_below (g := gb1) (o := .cells #[.slice A0_0 l0_0.length c0_0] 24 (0, 0)) (by (with_reducible repeat (first | refine blk_drewN ?_ _ | refine blk_drew ?_ | refine blk_alloc ?_ _)); exact BKgb1.out) hb_); have n2_ := Aside0.mk (Kd.S_kept HS11.out hk_ (fun _ _ hs_ => hs_.elim)); have n3_ := Aside0.mk (Kd.R_kept HR21.out hk_ (fun _ _ hs_ => hs_.elim)); have ns_ := Aside0.mk (Nat.le_trans (Nat.le_trans hs1_ hs2_) (Nat.le_refl _)); have nB_ := Aside0.mk hB_; obtain ⟨lo26, hi27, c1_, c2_, c3_, h_⟩ := S_new hov0__ hs2_ hw_ hs1_; have HS28 := Aside0.mk h_; obtain ⟨Ao29, co30, eo_⟩ := Kd.S_slice HS28.out; subst eo_; have HCHS28 := Aside0.mk (Kd.S_reads' HS28.out).2.1; clear h_ hov0__; have nc_ := Aside0.mk (And.intro c1_ (And.intro c2_ CH.out)); clear CH ns_; have CH := nc_; have ns_ := Aside0.mk c3_; clear nc_ c1_ c2_ c3_; clear HB HS FA0_0 BKgb1 HS11 HR21; have FA0_0 := n0_; have BKgb1 := n1_; have HS11 := n2_; have HR21 := n3_; have HB := nB_; have HS := ns_; clear nB_ ns_ n0_ n1_ n2_ n3_; clear hk_ hs1_ hs2_ hw_ hB_ hb_; have hczgb1_0 : w24.cell? ⟨gb1, 0, none⟩ = some (.slice A0_0 l0_0.length c0_0) := (blk_cell BKgb1.out 0).trans rfl; have hfzgb1_0 := blk_frozen BKgb1.out 0) | ((with_reducible refine gate_dst (N := 8) rfl ?_); refine box_event ?hg (N := 8) ?hd (cs := #[.slice none 0 0]) (t := 28) ?hr ?_; (case hd => rfl); (case hg => rfl); (case hr => first | (go_simp; done) | (go_simp; rfl)); intro gb31 hg_ w32 hbox_ hb_; (try clear hczgb1_0); (try clear hfzgb1_0); obtain ⟨hk_, hs1_, hs2_, hw0_⟩ := ev_kept (S := (fun _ => False)) HS.out HB.out hb_ (by repeat (first | (with_reducible first | exact Kept.refl _ _ | apply Kept.alloc | apply Kept.drewN | apply Kept.drew) | exact Kept.refl _ _)); have hw_ : w.heap.size ≤ gb31 := (by rw [hg_]; exact hw0_); have hB_ := below_step (by repeat (first | (with_reducible first | exact HB.out | apply below_alloc | apply pw_below_drewN | apply below_drew1 | refine below_set ?_ GEgb1.out) | exact HB.out)) hb_; have n0_ := Aside0.mk (Kd.F_kept FA0_0.out hk_ (fun _ _ hs_ => hs_.elim)); have n1_ := Aside0.mk (blk_below (g := gb1) (o := .cells #[.slice A0_0 l0_0.length c0_0] 24 (0, 0)) (by (with_reducible repeat (first | refine blk_drewN ?_ _ | refine blk_drew ?_ | refine blk_alloc ?_ _)); exact BKgb1.out) hb_); have n2_ := Aside0.mk (Kd.S_kept HS11.out hk_ (fun _ _ hs_ => hs_.elim)); have n3_ := Aside0.mk (Kd.R_kept HR21.out hk_ (fun _ _ hs_ => hs_.elim)); have n4_ := Aside0.mk (Kd.S_kept HS28.out hk_ (fun _ _ hs_ => hs_.elim)); have hS_ : hi27 ≤ gb31 := (by rw [hg_]; exact hs1_); have nb_ := Aside0.mk hbox_; have ns_ := Aside0.mk (box_in hbox_); have nc_ := Aside0.mk (And.intro hS_ CH.out); have ng_ := Aside0.mk hw_; have nB_ := Aside0.mk hB_; clear HB HS CH FA0_0 BKgb1 HS11 HR21 HS28; have FA0_0 := n0_; have BKgb1 := n1_; have HS11 := n2_; have HR21 := n3_; have HS28 := n4_; have HB := nB_; have HS := ns_; have CH := nc_; have BKgb31 := nb_; have GEgb31 := ng_; clear nB_ ns_ nc_ nb_ ng_ n0_ n1_ n2_ n3_ n4_; clear hk_ hs1_ hs2_ hw_ hw0_ hB_ hS_ hb_ hbox_ hg_; have hczgb1_0 : w32.cell? ⟨gb1, 0, none⟩ = some (.slice A0_0 l0_0.length c0_0) := (blk_cell BKgb1.out 0).trans rfl; have hfzgb1_0 := blk_frozen BKgb1.out 0; have hczgb31_0 : w32.cell? ⟨gb31, 0, none⟩ = some (.slice none 0 0) := (blk_cell BKgb31.out 0).trans rfl; have hfzgb31_0 := blk_frozen BKgb31.out 0; have hnbgb1gb31 : gb1 ≠ gb31 := (by have := CH.out; omega); have hnbgb31gb1 : gb31 ≠ gb1 := (by have := CH.out; omega)) | ((with_reducible refine gate_callee (f := 16) rfl ?_); refine goesL_ (some 33) rfl rfl Try.func16 (by kernel_rfl) rfl #[.agg #[.slice Ao29 l0_0.length co30], .int .i64 a1] rfl (by (try simp only [List.map_toArray, List.map_cons, List.map_nil]); first | done | rfl | (simp only [List.length_drop, List.length_take]; rfl)) ?_; (with_reducible refine (impl_FirstTree.calls KE34 _ _ l0_0 a1 x15 x16 _ ?sidehr0_0 ?sidehc0_0 E34.out).mono ?_); (case sidehr0_0 => exact S_now (S := (fun k_ => k_ = gb31)) HS28.out (by repeat (first | (with_reducible first | exact Kept.refl _ _ | apply Kept.alloc | apply Kept.drewN | apply Kept.drew) | refine Kept.setCell ?_ (Or.inl (show gb31 = gb31 from rfl)) _ | exact Kept.refl _ _)) (fun k_ h_ hs_ => by obtain ⟨h1_, h2_⟩ := h_; have g1_ : k_ = gb31 := hs_; have := CH.out; omega)); (case sidehc0_0 => exact HCHS28.out); rintro e w33 ⟨v35, rfl, hov0__, hb_⟩; refine ⟨_, rfl, ?_⟩; (try clear hczgb1_0); (try clear hfzgb1_0); (try clear hczgb31_0); (try clear hfzgb31_0); obtain ⟨hk_, hs1_, hs2_, hw_⟩ := ev_kept (S := (fun k_ => k_ = gb31)) HS.out HB.out hb_ (by repeat (first | (with_reducible first | exact Kept.refl _ _ | apply Kept.alloc | apply Kept.drewN | apply Kept.drew) | refine Kept.setCell ?_ (Or.inl (show gb31 = gb31 from rfl)) _ | exact Kept.refl _ _)); have hB_ := below_step (by repeat (first | (with_reducible first | exact HB.out | apply below_alloc | apply pw_below_drewN | apply below_drew1 | refine below_set ?_ GEgb1.out | refine below_set ?_ GEgb31.out) | exact HB.out)) hb_; have n0_ := Aside0.mk (Kd.F_kept FA0_0.out hk_ (fun k_ h_ hs_ => by have h1_ : k_ < s0 := h_; have g1_ : k_ = gb31 := hs_; have := CH.out; omega)); have n1_ := Aside0.mk (blk_below (g := gb1) (o := .cells #[.slice A0_0 l0_0.length c0_0] 24 (0, 0)) (by (with_reducible repeat (first | refine blk_drewN ?_ _ | refine blk_drew ?_ | refine blk_alloc ?_ _)); refine blk_far ?_ (by have := CH.out; omega) _; (with_reducible repeat (first | refine blk_drewN ?_ _ | refine blk_drew ?_ | refine blk_alloc ?_ _)); exact BKgb1.out) hb_); have n2_ := Aside0.mk (Kd.S_kept HS11.out hk_ (fun k_ h_ hs_ => by obtain ⟨h1_, h2_⟩ := h_; have g1_ : k_ = gb31 := hs_; have := CH.out; omega)); have n3_ := Aside0.mk (Kd.R_kept HR21.out hk_ (fun k_ h_ hs_ => by obtain ⟨h1_, h2_⟩ := h_; have g1_ : k_ = gb31 := hs_; have := CH.out; omega)); have n4_ := Aside0.mk (Kd.S_kept HS28.out hk_ (fun k_ h_ hs_ => by obtain ⟨h1_, h2_⟩ := h_; have g1_ : k_ = gb31 := hs_; have := CH.out; omega)); have n5_ := Aside0.mk (blk_below (g := gb31) (o := .cells #[.slice Ao29 l0_0.length co30] 28 (0, 0)) (by (with_reducible repeat (first | refine blk_drewN ?_ _ | refine blk_drew ?_ | refine blk_alloc ?_ _)); refine blk_put (cs := #[.slice none 0 0]) ?_ 0 _ rfl; (with_reducible repeat (first | refine blk_drewN ?_ _ | refine blk_drew ?_ | refine blk_alloc ?_ _)); exact BKgb31.out) hb_); have ns_ := Aside0.mk (Nat.le_trans (Nat.le_trans hs1_ hs2_) (Nat.le_refl _)); have nB_ := Aside0.mk hB_; obtain ⟨lo36, hi37, c1_, c2_, c3_, h_⟩ := R_new hov0__ hs2_ hw_ hs1_; have HR38 := Aside0.mk h_; obtain ⟨Ao39, co40, eo_⟩ := Kd.R_slice HR38.out; subst eo_; have HCHR38 := Aside0.mk (Kd.R_reads' HR38.out).2.1; clear h_ hov0__; have nc_ := Aside0.mk (And.intro c1_ (And.intro c2_ CH.out)); clear CH ns_; have CH := nc_; have ns_ := Aside0.mk c3_; clear nc_ c1_ c2_ c3_; clear HB HS FA0_0 BKgb1 HS11 HR21 HS28 BKgb31; have FA0_0 := n0_; have BKgb1 := n1_; have HS11 := n2_; have HR21 := n3_; have HS28 := n4_; have BKgb31 := n5_; have HB := nB_; have HS := ns_; clear nB_ ns_ n0_ n1_ n2_ n3_ n4_ n5_; clear hk_ hs1_ hs2_ hw_ hB_ hb_; have hczgb1_0 : w33.cell? ⟨gb1, 0, none⟩ = some (.slice A0_0 l0_0.length c0_0) := (blk_cell BKgb1.out 0).trans rfl; have hfzgb1_0 := blk_frozen BKgb1.out 0; have hczgb31_0 : w33.cell? ⟨gb31, 0, none⟩ = some (.slice Ao29 l0_0.length co30) := (blk_cell BKgb31.out 0).trans rfl; have hfzgb31_0 := blk_frozen BKgb31.out 0; have hnbgb1gb31 : gb1 ≠ gb31 := (by have := CH.out; omega); have hnbgb31gb1 : gb31 ≠ gb1 := (by have := CH.out; omega)) | ((with_reducible refine gate_callee (f := 17) rfl ?_); refine goesL_ (some 38) rfl rfl Try.func17 (by kernel_rfl) rfl #[.slice Ao39 x15.length co40, .slice Ao22 x15.length co23] rfl (by (try simp only [List.map_toArray, List.map_cons, List.map_nil]); first | done | rfl | (simp only [List.length_drop, List.length_take]; rfl)) ?_; (with_reducible refine (laws_eqIntS.calls KE42 _ _ x15 _ _ x15 true _ ?sidehr0 ?sidehc0 ?sidehr1 ?sidehc1 E42.out).mono ?_); (case sidehr0 => exact R_now (S := (fun _ => False)) HR38.out (by repeat (first | (with_reducible first | exact Kept.refl _ _ | apply Kept.alloc | apply Kept.drewN | apply Kept.drew) | exact Kept.refl _ _)) (fun _ _ hs_ => hs_.elim)); (case sidehc0 => exact HCHR38.out); (case sidehr1 => exact R_now (S := (fun _ => False)) HR21.out (by repeat (first | (with_reducible first | exact Kept.refl _ _ | apply Kept.alloc | apply Kept.drewN | apply Kept.drew) | exact Kept.refl _ _)) (fun _ _ hs_ => hs_.elim)); (case sidehc1 => exact HCHR21.out); rintro e w41 ⟨rfl, hd_⟩; refine ⟨_, rfl, ?_⟩; have hb_ := hd_.below; (try clear hczgb1_0); (try clear hfzgb1_0); (try clear hczgb31_0); (try clear hfzgb31_0); obtain ⟨hk_, hs1_, hs2_, hw_⟩ := ev_kept (S := (fun _ => False)) HS.out HB.out hb_ (by repeat (first | (with_reducible first | exact Kept.refl _ _ | apply Kept.alloc | apply Kept.drewN | apply Kept.drew) | exact Kept.refl _ _)); have hB_ := below_step (by repeat (first | (with_reducible first | exact HB.out | apply below_alloc | apply pw_below_drewN | apply below_drew1 | refine below_set ?_ GEgb1.out | refine below_set ?_ GEgb31.out) | exact HB.out)) hb_; have n0_ := Aside0.mk (Kd.F_kept FA0_0.out hk_ (fun _ _ hs_ => hs_.elim)); have n1_ := Aside0.mk (blk_below (g := gb1) (o := .cells #[.slice A0_0 l0_0.length c0_0] 24 (0, 0)) (by (with_reducible repeat (first | refine blk_drewN ?_ _ | refine blk_drew ?_ | refine blk_alloc ?_ _)); exact BKgb1.out) hb_); have n2_ := Aside0.mk (Kd.S_kept HS11.out hk_ (fun _ _ hs_ => hs_.elim)); have n3_ := Aside0.mk (Kd.R_kept HR21.out hk_ (fun _ _ hs_ => hs_.elim)); have n4_ := Aside0.mk (Kd.S_kept HS28.out hk_ (fun _ _ hs_ => hs_.elim)); have n5_ := Aside0.mk (blk_below (g := gb31) (o := .cells #[.slice Ao29 l0_0.length co30] 28 (0, 0)) (by (with_reducible repeat (first | refine blk_drewN ?_ _ | refine blk_drew ?_ | refine blk_alloc ?_ _)); exact BKgb31.out) hb_); have n6_ := Aside0.mk (Kd.R_kept HR38.out hk_ (fun _ _ hs_ => hs_.elim)); have ns_ := Aside0.mk (Nat.le_trans (Nat.le_trans hs1_ hs2_) (Nat.le_refl _)); have nB_ := Aside0.mk hB_; clear HB HS FA0_0 BKgb1 HS11 HR21 HS28 BKgb31 HR38; have FA0_0 := n0_; have BKgb1 := n1_; have HS11 := n2_; have HR21 := n3_; have HS28 := n4_; have BKgb31 := n5_; have HR38 := n6_; have HB := nB_; have HS := ns_; clear nB_ ns_ n0_ n1_ n2_ n3_ n4_ n5_ n6_; clear hk_ hs1_ hs2_ hw_ hB_ hb_; clear hd_; have hczgb1_0 : w41.cell? ⟨gb1, 0, none⟩ = some (.slice A0_0 l0_0.length c0_0) := (blk_cell BKgb1.out 0).trans rfl; have hfzgb1_0 := blk_frozen BKgb1.out 0; have hczgb31_0 : w41.cell? ⟨gb31, 0, none⟩ = some (.slice Ao29 l0_0.length co30) := (blk_cell BKgb31.out 0).trans rfl; have hfzgb31_0 := blk_frozen BKgb31.out 0; have hnbgb1gb31 : gb1 ≠ gb31 := (by have := CH.out; omega); have hnbgb31gb1 : gb31 ≠ gb1 := (by have := CH.out; omega)))
  try go_wp2
  (try clear hczgb1_0)
  (try clear hfzgb1_0)
  (try clear hczgb31_0)
  (try clear hfzgb31_0)
  have n0_ := Aside0.mk (Kd.F_drew FA0_0.out)
  have n1_ := Aside0.mk (blk_drew BKgb1.out)
  have n2_ := Aside0.mk (Kd.S_drew HS11.out)
  have n3_ := Aside0.mk (Kd.R_drew HR21.out)
  have n4_ := Aside0.mk (Kd.S_drew HS28.out)
  have n5_ := Aside0.mk (blk_drew BKgb31.out)
  have n6_ := Aside0.mk (Kd.R_drew HR38.out)
  have nB_ := Aside0.mk (below_drew1 HB.out)
  have nS_ : Aside0 (hi37 ≤ w41.drew.heap.size) := ⟨HS.out⟩
  clear HB HS FA0_0 BKgb1 HS11 HR21 HS28 BKgb31 HR38
  have FA0_0 := n0_
  have BKgb1 := n1_
  have HS11 := n2_
  have HR21 := n3_
  have HS28 := n4_
  have BKgb31 := n5_
  have HR38 := n6_
  have HB := nB_
  have HS := nS_
  clear nB_ nS_ n0_ n1_ n2_ n3_ n4_ n5_ n6_
  refine start_ (n := 5) (S := fun w' => w'.cell? ⟨gb1, 0, none⟩ = some (.slice A0_0 l0_0.length c0_0) ∧ w'.cell? ⟨gb31, 0, none⟩ = some (.slice Ao29 l0_0.length co30)) (ds := []) #[false, false, false, false, false] (by kernel_rfl) rfl rfl ⟨(blk_cell BKgb1.out 0).trans rfl, (blk_cell BKgb31.out 0).trans rfl⟩ (fun hHeld => ?_)
  generalize w41.drew = w43 at HB HS FA0_0 BKgb1 HS11 HR21 HS28 BKgb31 HR38 hHeld ⊢
  refine take_ (i := 0) (N := some 45) (v := ?_) (a' := ?_) #[true, false, false, false, false] rfl rfl (by kernel_rfl) (fun _ _ _ h => h) (Or.inl ⟨by rfl, ?_⟩) hHeld ?_ ?_
  rotate_left
  · rintro w' ⟨s0_, s1_⟩
    go_simp
    with_reducible rfl
  rotate_left
  · simp only [Act.put, List.setIfInBounds_toArray, List.set_cons_zero, List.set_cons_succ, i64_w, i32_w]
    rfl
  refine take_ (i := 1) (N := some 46) (v := ?_) (a' := ?_) #[true, true, false, false, false] rfl rfl (by kernel_rfl) (fun _ _ _ h => h) (Or.inl ⟨by rfl, ?_⟩) hHeld ?_ ?_
  rotate_left
  · rintro w' ⟨s0_, s1_⟩
    go_simp
    with_reducible rfl
  rotate_left
  · simp only [Act.put, List.setIfInBounds_toArray, List.set_cons_zero, List.set_cons_succ, i64_w, i32_w]
    rfl
  refine one_ (i := 2) (N := some 47) #[true, true, true, false, false] rfl rfl (by kernel_rfl) (by decide) (fun K hK => ?_)
  refine goes_ Try.func8 (by kernel_rfl) rfl #[.agg #[.slice A0_0 l0_0.length c0_0]] (by rfl) rfl rfl (by (try simp only [List.map_toArray, List.map_cons, List.map_nil]); first | done | rfl | (simp only [List.length_drop, List.length_take]; rfl)) ?_
  (with_reducible refine (laws_toGraph.calls KE7 _ _ l0_0 l0_0 _ ?sidehr0_0 ?sidehc0_0 E7.out).mono ?_)
  (case sidehr0_0 => exact F_at (S := (fun _ => False)) FA0_0.out (by repeat (first | (with_reducible first | exact Kept.refl _ _ | apply Kept.alloc | apply Kept.drewN | apply Kept.drew) | exact Kept.refl _ _)) (fun _ _ hs_ => hs_.elim))
  (case sidehc0_0 => exact HC0_0.out)
  rintro e w44 ⟨v45, rfl, hov0__, hb_⟩
  refine ⟨_, rfl, ?_⟩
  (try clear hczgb1_0)
  (try clear hfzgb1_0)
  (try clear hczgb31_0)
  (try clear hfzgb31_0)
  obtain ⟨hk_, hs1_, hs2_, hw_⟩ := ev_kept (S := (fun _ => False)) HS.out HB.out hb_ (by repeat (first | (with_reducible first | exact Kept.refl _ _ | apply Kept.alloc | apply Kept.drewN | apply Kept.drew) | exact Kept.refl _ _))
  have hB_ := below_step (by repeat (first | (with_reducible first | exact HB.out | apply below_alloc | apply pw_below_drewN | apply below_drew1 | refine below_set ?_ GEgb1.out | refine below_set ?_ GEgb31.out) | exact HB.out)) hb_
  have n0_ := Aside0.mk (Kd.F_kept FA0_0.out hk_ (fun _ _ hs_ => hs_.elim))
  have n1_ := Aside0.mk (blk_below (g := gb1) (o := .cells #[.slice A0_0 l0_0.length c0_0] 24 (0, 0)) (by (with_reducible repeat (first | refine blk_drewN ?_ _ | refine blk_drew ?_ | refine blk_alloc ?_ _)); exact BKgb1.out) hb_)
  have n2_ := Aside0.mk (Kd.S_kept HS11.out hk_ (fun _ _ hs_ => hs_.elim))
  have n3_ := Aside0.mk (Kd.R_kept HR21.out hk_ (fun _ _ hs_ => hs_.elim))
  have n4_ := Aside0.mk (Kd.S_kept HS28.out hk_ (fun _ _ hs_ => hs_.elim))
  have n5_ := Aside0.mk (blk_below (g := gb31) (o := .cells #[.slice Ao29 l0_0.length co30] 28 (0, 0)) (by (with_reducible repeat (first | refine blk_drewN ?_ _ | refine blk_drew ?_ | refine blk_alloc ?_ _)); exact BKgb31.out) hb_)
  have n6_ := Aside0.mk (Kd.R_kept HR38.out hk_ (fun _ _ hs_ => hs_.elim))
  have ns_ := Aside0.mk (Nat.le_trans (Nat.le_trans hs1_ hs2_) (Nat.le_refl _))
  have nB_ := Aside0.mk hB_
  obtain ⟨lo46, hi47, c1_, c2_, c3_, h_⟩ := S_new hov0__ hs2_ hw_ hs1_
  have HS48 := Aside0.mk h_
  obtain ⟨Ao49, co50, eo_⟩ := Kd.S_slice HS48.out
  subst eo_
  have HCHS48 := Aside0.mk (Kd.S_reads' HS48.out).2.1
  clear h_ hov0__
  have nc_ := Aside0.mk (And.intro c1_ (And.intro c2_ CH.out))
  clear CH ns_
  have CH := nc_
  have ns_ := Aside0.mk c3_
  clear nc_ c1_ c2_ c3_
  clear HB HS FA0_0 BKgb1 HS11 HR21 HS28 BKgb31 HR38
  have FA0_0 := n0_
  have BKgb1 := n1_
  have HS11 := n2_
  have HR21 := n3_
  have HS28 := n4_
  have BKgb31 := n5_
  have HR38 := n6_
  have HB := nB_
  have HS := ns_
  clear nB_ ns_ n0_ n1_ n2_ n3_ n4_ n5_ n6_
  clear hk_ hs1_ hs2_ hw_ hB_ hb_
  refine hK.out _ _ ⟨(blk_cell BKgb1.out 0).trans rfl, (blk_cell BKgb31.out 0).trans rfl⟩ (fun hHeld => ?_)
  clear hK K
  refine norm_ (a' := ?_) ?_ ?_
  rotate_left
  · show Act.put _ (some 47) _ = _
    simp only [Act.put, List.setIfInBounds_toArray, List.set_cons_zero, List.set_cons_succ, i64_w, i32_w]
    rfl
  refine one_ (i := 3) (N := some 48) #[true, true, true, true, false] rfl rfl (by kernel_rfl) (by decide) (fun K hK => ?_)
  refine goes_ Try.func11 (by kernel_rfl) rfl #[.agg #[.slice Ao29 l0_0.length co30], .agg #[.slice Ao49 l0_0.length co50]] (by rfl) rfl rfl (by (try simp only [List.map_toArray, List.map_cons, List.map_nil]); first | done | rfl | (simp only [List.length_drop, List.length_take]; rfl)) ?_
  (with_reducible refine (laws_eqGraph.calls KE52 _ _ l0_0 _ _ l0_0 true _ ?sidehr0_0 ?sidehc0_0 ?sidehr1_0 ?sidehc1_0 E52.out).mono ?_)
  (case sidehr0_0 => exact S_now (S := (fun _ => False)) HS28.out (by repeat (first | (with_reducible first | exact Kept.refl _ _ | apply Kept.alloc | apply Kept.drewN | apply Kept.drew) | exact Kept.refl _ _)) (fun _ _ hs_ => hs_.elim))
  (case sidehc0_0 => exact HCHS28.out)
  (case sidehr1_0 => exact S_now (S := (fun _ => False)) HS48.out (by repeat (first | (with_reducible first | exact Kept.refl _ _ | apply Kept.alloc | apply Kept.drewN | apply Kept.drew) | exact Kept.refl _ _)) (fun _ _ hs_ => hs_.elim))
  (case sidehc1_0 => exact HCHS48.out)
  rintro e w51 ⟨rfl, hb_⟩
  refine ⟨_, rfl, ?_⟩
  (try clear hczgb1_0)
  (try clear hfzgb1_0)
  (try clear hczgb31_0)
  (try clear hfzgb31_0)
  obtain ⟨hk_, hs1_, hs2_, hw_⟩ := ev_kept (S := (fun _ => False)) HS.out HB.out hb_ (by repeat (first | (with_reducible first | exact Kept.refl _ _ | apply Kept.alloc | apply Kept.drewN | apply Kept.drew) | exact Kept.refl _ _))
  have hB_ := below_step (by repeat (first | (with_reducible first | exact HB.out | apply below_alloc | apply pw_below_drewN | apply below_drew1 | refine below_set ?_ GEgb1.out | refine below_set ?_ GEgb31.out) | exact HB.out)) hb_
  have n0_ := Aside0.mk (Kd.F_kept FA0_0.out hk_ (fun _ _ hs_ => hs_.elim))
  have n1_ := Aside0.mk (blk_below (g := gb1) (o := .cells #[.slice A0_0 l0_0.length c0_0] 24 (0, 0)) (by (with_reducible repeat (first | refine blk_drewN ?_ _ | refine blk_drew ?_ | refine blk_alloc ?_ _)); exact BKgb1.out) hb_)
  have n2_ := Aside0.mk (Kd.S_kept HS11.out hk_ (fun _ _ hs_ => hs_.elim))
  have n3_ := Aside0.mk (Kd.R_kept HR21.out hk_ (fun _ _ hs_ => hs_.elim))
  have n4_ := Aside0.mk (Kd.S_kept HS28.out hk_ (fun _ _ hs_ => hs_.elim))
  have n5_ := Aside0.mk (blk_below (g := gb31) (o := .cells #[.slice Ao29 l0_0.length co30] 28 (0, 0)) (by (with_reducible repeat (first | refine blk_drewN ?_ _ | refine blk_drew ?_ | refine blk_alloc ?_ _)); exact BKgb31.out) hb_)
  have n6_ := Aside0.mk (Kd.R_kept HR38.out hk_ (fun _ _ hs_ => hs_.elim))
  have n7_ := Aside0.mk (Kd.S_kept HS48.out hk_ (fun _ _ hs_ => hs_.elim))
  have ns_ := Aside0.mk (Nat.le_trans (Nat.le_trans hs1_ hs2_) (Nat.le_refl _))
  have nB_ := Aside0.mk hB_
  clear HB HS FA0_0 BKgb1 HS11 HR21 HS28 BKgb31 HR38 HS48
  have FA0_0 := n0_
  have BKgb1 := n1_
  have HS11 := n2_
  have HR21 := n3_
  have HS28 := n4_
  have BKgb31 := n5_
  have HR38 := n6_
  have HS48 := n7_
  have HB := nB_
  have HS := ns_
  clear nB_ ns_ n0_ n1_ n2_ n3_ n4_ n5_ n6_ n7_
  clear hk_ hs1_ hs2_ hw_ hB_ hb_
  refine hK.out _ _ ⟨(blk_cell BKgb1.out 0).trans rfl, (blk_cell BKgb31.out 0).trans rfl⟩ (fun hHeld => ?_)
  clear hK K
  refine norm_ (a' := ?_) ?_ ?_
  rotate_left
  · show Act.put _ (some 48) _ = _
    simp only [Act.put, List.setIfInBounds_toArray, List.set_cons_zero, List.set_cons_succ, i64_w, i32_w]
    rfl
  refine pure_ (i := 4) (N := some 49) (v := ?_) (a' := ?_) #[true, true, true, true, true] rfl rfl (by kernel_rfl) (fun _ _ _ h => h) (Or.inl ⟨by rfl, ?_⟩) ?_ ?_
  rotate_left
  · intro w'
    go_simp
    with_reducible rfl
  rotate_left
  · simp only [Act.put, List.setIfInBounds_toArray, List.set_cons_zero, List.set_cons_succ, i64_w, i32_w]
    rfl
  refine done_ (by kernel_rfl) ?_
  go_wp2_with (first | ((with_reducible refine gate_callee (f := 12) rfl ?_); refine goesL_ (some 52) rfl rfl Try.func12 (by kernel_rfl) rfl #[.agg #[.slice Ao29 l0_0.length co30], .int .i64 1] rfl (by (try simp only [List.map_toArray, List.map_cons, List.map_nil]); first | done | rfl | (simp only [List.length_drop, List.length_take]; rfl)) ?_; (with_reducible refine (laws_markGraph.calls KE56 (fun k_ => lo26 ≤ k_ ∧ k_ < hi27) _ l0_0 1 x54 x55 w _ ?sideB ?sideO E56.out).mono ?_); (case sideB => exact (by repeat (first | (with_reducible first | exact HB.out | apply below_alloc | apply pw_below_drewN | apply below_drew1 | refine below_set ?_ GEgb1.out | refine below_set ?_ GEgb31.out) | exact HB.out))); (case sideO => exact Kd.S_kept (S := (fun _ => False)) HS28.out (by repeat (first | (with_reducible first | exact Kept.refl _ _ | apply Kept.alloc | apply Kept.drewN | apply Kept.drew) | exact Kept.refl _ _)) (fun _ _ hs_ => hs_.elim)); rintro e w53 ⟨rfl, ho_, hb_, hm_⟩; refine ⟨_, rfl, ?_⟩; (try clear hczgb1_0); (try clear hfzgb1_0); (try clear hczgb31_0); (try clear hfzgb31_0); obtain ⟨hk_, hs1_⟩ := ev_mark (S := (fun k_ => lo26 ≤ k_ ∧ k_ < hi27)) HS.out hm_ (by repeat (first | (with_reducible first | exact Kept.refl _ _ | apply Kept.alloc | apply Kept.drewN | apply Kept.drew) | exact Kept.refl _ _)); have n0_ := Aside0.mk (Kd.F_kept FA0_0.out hk_ (fun k_ h_ hs_ => by have h1_ : k_ < s0 := h_; obtain ⟨g1_, g2_⟩ := hs_; have := CH.out; omega)); have n1_ := Aside0.mk (blk_kept BKgb1.out hk_ (fun hs_ => by obtain ⟨g1_, g2_⟩ := hs_; have := CH.out; omega)); have n2_ := Aside0.mk (Kd.S_kept HS11.out hk_ (fun k_ h_ hs_ => by obtain ⟨h1_, h2_⟩ := h_; obtain ⟨g1_, g2_⟩ := hs_; have := CH.out; omega)); have n3_ := Aside0.mk (Kd.R_kept HR21.out hk_ (fun k_ h_ hs_ => by obtain ⟨h1_, h2_⟩ := h_; obtain ⟨g1_, g2_⟩ := hs_; have := CH.out; omega)); have n4_ := Aside0.mk (blk_kept BKgb31.out hk_ (fun hs_ => by obtain ⟨g1_, g2_⟩ := hs_; have := CH.out; omega)); have n5_ := Aside0.mk (Kd.R_kept HR38.out hk_ (fun k_ h_ hs_ => by obtain ⟨h1_, h2_⟩ := h_; obtain ⟨g1_, g2_⟩ := hs_; have := CH.out; omega)); have n6_ := Aside0.mk (Kd.S_kept HS48.out hk_ (fun k_ h_ hs_ => by obtain ⟨h1_, h2_⟩ := h_; obtain ⟨g1_, g2_⟩ := hs_; have := CH.out; omega)); have nB_ := Aside0.mk hb_; have ns_ := Aside0.mk hs1_; clear HB HS FA0_0 BKgb1 HS11 HR21 BKgb31 HR38 HS48; have FA0_0 := n0_; have BKgb1 := n1_; have HS11 := n2_; have HR21 := n3_; have BKgb31 := n4_; have HR38 := n5_; have HS48 := n6_; have HB := nB_; have HS := ns_; clear nB_ ns_ n0_ n1_ n2_ n3_ n4_ n5_ n6_; have hl_ : l0_0.length = x55.length := (Kd.S_reads' ho_).1; have FM57 := Aside0.mk (Kd.S_F ho_); rw [hl_] at FM57; have HCHS28_ := Aside0.mk (show x55.length ≤ co30 by rw [← hl_]; exact HCHS28.out); have HLFM57 := Aside0.mk hl_; clear ho_ hm_ hb_ hk_ hs1_ hl_ HS28; have hczgb1_0 : w53.cell? ⟨gb1, 0, none⟩ = some (.slice A0_0 l0_0.length c0_0) := (blk_cell BKgb1.out 0).trans rfl; have hfzgb1_0 := blk_frozen BKgb1.out 0; have hczgb31_0 : w53.cell? ⟨gb31, 0, none⟩ = some (.slice Ao29 l0_0.length co30) := (blk_cell BKgb31.out 0).trans rfl; have hfzgb31_0 := blk_frozen BKgb31.out 0; have hnbgb1gb31 : gb1 ≠ gb31 := (by have := CH.out; omega); have hnbgb31gb1 : gb31 ≠ gb1 := (by have := CH.out; omega)) | ((with_reducible refine gate_callee (f := 17) rfl ?_); (try (refine gate_guard (by rfl) ?_; dsimp only)); refine goesL_ (some 58) rfl rfl Try.func17 (by kernel_rfl) rfl #[.slice Ao39 x15.length co40, .slice Ao22 x15.length co23] rfl (by (try simp only [List.map_toArray, List.map_cons, List.map_nil]); first | done | rfl | (simp only [List.length_drop, List.length_take]; rfl)) ?_; (with_reducible refine (laws_eqIntS.calls KE42 _ _ x15 _ _ x15 true _ ?sidehr0 ?sidehc0 ?sidehr1 ?sidehc1 E42.out).mono ?_); (case sidehr0 => exact R_now (S := (fun _ => False)) HR38.out (by repeat (first | (with_reducible first | exact Kept.refl _ _ | apply Kept.alloc | apply Kept.drewN | apply Kept.drew) | exact Kept.refl _ _)) (fun _ _ hs_ => hs_.elim)); (case sidehc0 => exact HCHR38.out); (case sidehr1 => exact R_now (S := (fun _ => False)) HR21.out (by repeat (first | (with_reducible first | exact Kept.refl _ _ | apply Kept.alloc | apply Kept.drewN | apply Kept.drew) | exact Kept.refl _ _)) (fun _ _ hs_ => hs_.elim)); (case sidehc1 => exact HCHR21.out); rintro e w58 ⟨rfl, hd_⟩; refine ⟨_, rfl, ?_⟩; have hb_ := hd_.below; (try clear hczgb1_0); (try clear hfzgb1_0); (try clear hczgb31_0); (try clear hfzgb31_0); obtain ⟨hk_, hs1_, hs2_, hw_⟩ := ev_kept (S := (fun _ => False)) HS.out HB.out hb_ (by repeat (first | (with_reducible first | exact Kept.refl _ _ | apply Kept.alloc | apply Kept.drewN | apply Kept.drew) | exact Kept.refl _ _)); have hB_ := below_step (by repeat (first | (with_reducible first | exact HB.out | apply below_alloc | apply pw_below_drewN | apply below_drew1 | refine below_set ?_ GEgb1.out | refine below_set ?_ GEgb31.out) | exact HB.out)) hb_; have n0_ := Aside0.mk (Kd.F_kept FA0_0.out hk_ (fun _ _ hs_ => hs_.elim)); have n1_ := Aside0.mk (blk_below (g := gb1) (o := .cells #[.slice A0_0 l0_0.length c0_0] 24 (0, 0)) (by (with_reducible repeat (first | refine blk_drewN ?_ _ | refine blk_drew ?_ | refine blk_alloc ?_ _)); exact BKgb1.out) hb_); have n2_ := Aside0.mk (Kd.S_kept HS11.out hk_ (fun _ _ hs_ => hs_.elim)); have n3_ := Aside0.mk (Kd.R_kept HR21.out hk_ (fun _ _ hs_ => hs_.elim)); have n4_ := Aside0.mk (blk_below (g := gb31) (o := .cells #[.slice Ao29 l0_0.length co30] 28 (0, 0)) (by (with_reducible repeat (first | refine blk_drewN ?_ _ | refine blk_drew ?_ | refine blk_alloc ?_ _)); exact BKgb31.out) hb_); have n5_ := Aside0.mk (Kd.R_kept HR38.out hk_ (fun _ _ hs_ => hs_.elim)); have n6_ := Aside0.mk (Kd.S_kept HS48.out hk_ (fun _ _ hs_ => hs_.elim)); have n7_ := Aside0.mk (Kd.F_kept FM57.out hk_ (fun _ _ hs_ => hs_.elim)); have ns_ := Aside0.mk (Nat.le_trans (Nat.le_trans hs1_ hs2_) (Nat.le_refl _)); have nB_ := Aside0.mk hB_; clear HB HS FA0_0 BKgb1 HS11 HR21 BKgb31 HR38 HS48 FM57; have FA0_0 := n0_; have BKgb1 := n1_; have HS11 := n2_; have HR21 := n3_; have BKgb31 := n4_; have HR38 := n5_; have HS48 := n6_; have FM57 := n7_; have HB := nB_; have HS := ns_; clear nB_ ns_ n0_ n1_ n2_ n3_ n4_ n5_ n6_ n7_; clear hk_ hs1_ hs2_ hw_ hB_ hb_; clear hd_; have hczgb1_0 : w58.cell? ⟨gb1, 0, none⟩ = some (.slice A0_0 l0_0.length c0_0) := (blk_cell BKgb1.out 0).trans rfl; have hfzgb1_0 := blk_frozen BKgb1.out 0; have hczgb31_0 : w58.cell? ⟨gb31, 0, none⟩ = some (.slice Ao29 l0_0.length co30) := (blk_cell BKgb31.out 0).trans rfl; have hfzgb31_0 := blk_frozen BKgb31.out 0; have hnbgb1gb31 : gb1 ≠ gb31 := (by have := CH.out; omega); have hnbgb31gb1 : gb31 ≠ gb1 := (by have := CH.out; omega)) | ((with_reducible refine gate_callee (f := 18) rfl ?_); refine goesL_ (some 68) rfl rfl Try.func18 (by kernel_rfl) rfl #[.slice Ao39 x15.length co40, .int .i64 1] rfl (by (try simp only [List.map_toArray, List.map_cons, List.map_nil]); first | done | rfl | (simp only [List.length_drop, List.length_take]; rfl)) ?_; (with_reducible refine (laws_markIntS.calls KE62 (fun k_ => lo36 ≤ k_ ∧ k_ < hi37) _ x15 1 x60 x61 w _ ?sideB ?sideO E62.out).mono ?_); (case sideB => exact (by repeat (first | (with_reducible first | exact HB.out | apply below_alloc | apply pw_below_drewN | apply below_drew1 | refine below_set ?_ GEgb1.out | refine below_set ?_ GEgb31.out) | exact HB.out))); (case sideO => exact Kd.R_kept (S := (fun _ => False)) HR38.out (by repeat (first | (with_reducible first | exact Kept.refl _ _ | apply Kept.alloc | apply Kept.drewN | apply Kept.drew) | exact Kept.refl _ _)) (fun _ _ hs_ => hs_.elim)); rintro e w59 ⟨rfl, ho_, hb_, hm_⟩; refine ⟨_, rfl, ?_⟩; (try clear hczgb1_0); (try clear hfzgb1_0); (try clear hczgb31_0); (try clear hfzgb31_0); obtain ⟨hk_, hs1_⟩ := ev_mark (S := (fun k_ => lo36 ≤ k_ ∧ k_ < hi37)) HS.out hm_ (by repeat (first | (with_reducible first | exact Kept.refl _ _ | apply Kept.alloc | apply Kept.drewN | apply Kept.drew) | exact Kept.refl _ _)); have n0_ := Aside0.mk (Kd.F_kept FA0_0.out hk_ (fun k_ h_ hs_ => by have h1_ : k_ < s0 := h_; obtain ⟨g1_, g2_⟩ := hs_; have := CH.out; omega)); have n1_ := Aside0.mk (blk_kept BKgb1.out hk_ (fun hs_ => by obtain ⟨g1_, g2_⟩ := hs_; have := CH.out; omega)); have n2_ := Aside0.mk (Kd.S_kept HS11.out hk_ (fun k_ h_ hs_ => by obtain ⟨h1_, h2_⟩ := h_; obtain ⟨g1_, g2_⟩ := hs_; have := CH.out; omega)); have n3_ := Aside0.mk (Kd.R_kept HR21.out hk_ (fun k_ h_ hs_ => by obtain ⟨h1_, h2_⟩ := h_; obtain ⟨g1_, g2_⟩ := hs_; have := CH.out; omega)); have n4_ := Aside0.mk (blk_kept BKgb31.out hk_ (fun hs_ => by obtain ⟨g1_, g2_⟩ := hs_; have := CH.out; omega)); have n5_ := Aside0.mk (Kd.S_kept HS48.out hk_ (fun k_ h_ hs_ => by obtain ⟨h1_, h2_⟩ := h_; obtain ⟨g1_, g2_⟩ := hs_; have := CH.out; omega)); have n6_ := Aside0.mk (Kd.F_kept FM57.out hk_ (fun k_ h_ hs_ => by obtain ⟨h1_, h2_⟩ := h_; obtain ⟨g1_, g2_⟩ := hs_; have := CH.out; omega)); have nB_ := Aside0.mk hb_; have ns_ := Aside0.mk hs1_; clear HB HS FA0_0 BKgb1 HS11 HR21 BKgb31 HS48 FM57; have FA0_0 := n0_; have BKgb1 := n1_; have HS11 := n2_; have HR21 := n3_; have BKgb31 := n4_; have HS48 := n5_; have FM57 := n6_; have HB := nB_; have HS := ns_; clear nB_ ns_ n0_ n1_ n2_ n3_ n4_ n5_ n6_; have hl_ : x15.length = x61.length := (Kd.R_reads' ho_).1; have FM63 := Aside0.mk (Kd.R_F (Kd.R_mono (Kd.R_tight rfl ho_) (fun k_ hk_ => HR38.out.1 k_ hk_.symm))); rw [hl_] at FM63; have HCHR38_ := Aside0.mk (show x61.length ≤ co40 by rw [← hl_]; exact HCHR38.out); have HLFM63 := Aside0.mk hl_; clear ho_ hm_ hb_ hk_ hs1_ hl_ HR38; have hczgb1_0 : w59.cell? ⟨gb1, 0, none⟩ = some (.slice A0_0 l0_0.length c0_0) := (blk_cell BKgb1.out 0).trans rfl; have hfzgb1_0 := blk_frozen BKgb1.out 0; have hczgb31_0 : w59.cell? ⟨gb31, 0, none⟩ = some (.slice Ao29 l0_0.length co30) := (blk_cell BKgb31.out 0).trans rfl; have hfzgb31_0 := blk_frozen BKgb31.out 0; have hnbgb1gb31 : gb1 ≠ gb31 := (by have := CH.out; omega); have hnbgb31gb1 : gb31 ≠ gb1 := (by have := CH.out; omega)) | ((with_reducible refine gate_callee (f := 19) rfl ?_); refine goesL_ (some 71) rfl rfl Try.func19 (by kernel_rfl) rfl #[.slice Ao39 x15.length co40, .int .i64 1] rfl (by (try simp only [List.map_toArray, List.map_cons, List.map_nil]); first | done | rfl | (simp only [List.length_drop, List.length_take]; rfl)) ?_; refine calls_len (args' := #[.slice Ao39 x61.length co40, .int .i64 1]) (by simp only [HLFM63.out]) ?_; (with_reducible refine (laws_heldIntS.calls KE65 _ _ x61 1 x60 _ ?sidehr0 ?sidehc0 E65.out).mono ?_); (case sidehr0 => exact F_at (S := (fun _ => False)) FM63.out (by repeat (first | (with_reducible first | exact Kept.refl _ _ | apply Kept.alloc | apply Kept.drewN | apply Kept.drew) | exact Kept.refl _ _)) (fun _ _ hs_ => hs_.elim)); (case sidehc0 => exact HCHR38_.out); rintro e w64 ⟨rfl, hd_⟩; refine ⟨_, rfl, ?_⟩; have hb_ := hd_.below; (try clear hczgb1_0); (try clear hfzgb1_0); (try clear hczgb31_0); (try clear hfzgb31_0); obtain ⟨hk_, hs1_, hs2_, hw_⟩ := ev_kept (S := (fun _ => False)) HS.out HB.out hb_ (by repeat (first | (with_reducible first | exact Kept.refl _ _ | apply Kept.alloc | apply Kept.drewN | apply Kept.drew) | exact Kept.refl _ _)); have hB_ := below_step (by repeat (first | (with_reducible first | exact HB.out | apply below_alloc | apply pw_below_drewN | apply below_drew1 | refine below_set ?_ GEgb1.out | refine below_set ?_ GEgb31.out) | exact HB.out)) hb_; have n0_ := Aside0.mk (Kd.F_kept FA0_0.out hk_ (fun _ _ hs_ => hs_.elim)); have n1_ := Aside0.mk (blk_below (g := gb1) (o := .cells #[.slice A0_0 l0_0.length c0_0] 24 (0, 0)) (by (with_reducible repeat (first | refine blk_drewN ?_ _ | refine blk_drew ?_ | refine blk_alloc ?_ _)); exact BKgb1.out) hb_); have n2_ := Aside0.mk (Kd.S_kept HS11.out hk_ (fun _ _ hs_ => hs_.elim)); have n3_ := Aside0.mk (Kd.R_kept HR21.out hk_ (fun _ _ hs_ => hs_.elim)); have n4_ := Aside0.mk (blk_below (g := gb31) (o := .cells #[.slice Ao29 l0_0.length co30] 28 (0, 0)) (by (with_reducible repeat (first | refine blk_drewN ?_ _ | refine blk_drew ?_ | refine blk_alloc ?_ _)); exact BKgb31.out) hb_); have n5_ := Aside0.mk (Kd.S_kept HS48.out hk_ (fun _ _ hs_ => hs_.elim)); have n6_ := Aside0.mk (Kd.F_kept FM57.out hk_ (fun _ _ hs_ => hs_.elim)); have n7_ := Aside0.mk (Kd.F_kept FM63.out hk_ (fun _ _ hs_ => hs_.elim)); have ns_ := Aside0.mk (Nat.le_trans (Nat.le_trans hs1_ hs2_) (Nat.le_refl _)); have nB_ := Aside0.mk hB_; clear HB HS FA0_0 BKgb1 HS11 HR21 BKgb31 HS48 FM57 FM63; have FA0_0 := n0_; have BKgb1 := n1_; have HS11 := n2_; have HR21 := n3_; have BKgb31 := n4_; have HS48 := n5_; have FM57 := n6_; have FM63 := n7_; have HB := nB_; have HS := ns_; clear nB_ ns_ n0_ n1_ n2_ n3_ n4_ n5_ n6_ n7_; clear hk_ hs1_ hs2_ hw_ hB_ hb_; clear hd_; have hczgb1_0 : w64.cell? ⟨gb1, 0, none⟩ = some (.slice A0_0 l0_0.length c0_0) := (blk_cell BKgb1.out 0).trans rfl; have hfzgb1_0 := blk_frozen BKgb1.out 0; have hczgb31_0 : w64.cell? ⟨gb31, 0, none⟩ = some (.slice Ao29 l0_0.length co30) := (blk_cell BKgb31.out 0).trans rfl; have hfzgb31_0 := blk_frozen BKgb31.out 0; have hnbgb1gb31 : gb1 ≠ gb31 := (by have := CH.out; omega); have hnbgb31gb1 : gb31 ≠ gb1 := (by have := CH.out; omega)) | ((with_reducible refine gate_callee (f := 8) rfl ?_); refine goesL_ (some 79) rfl rfl Try.func8 (by kernel_rfl) rfl #[.agg #[.slice A0_0 l0_0.length c0_0]] rfl (by (try simp only [List.map_toArray, List.map_cons, List.map_nil]); first | done | rfl | (simp only [List.length_drop, List.length_take]; rfl)) ?_; (with_reducible refine (laws_toGraph.calls KE7 _ _ l0_0 l0_0 _ ?sidehr0_0 ?sidehc0_0 E7.out).mono ?_); (case sidehr0_0 => exact F_at (S := (fun _ => False)) FA0_0.out (by repeat (first | (with_reducible first | exact Kept.refl _ _ | apply Kept.alloc | apply Kept.drewN | apply Kept.drew) | exact Kept.refl _ _)) (fun _ _ hs_ => hs_.elim)); (case sidehc0_0 => exact HC0_0.out); rintro e w66 ⟨v67, rfl, hov0__, hb_⟩; refine ⟨_, rfl, ?_⟩; (try clear hczgb1_0); (try clear hfzgb1_0); (try clear hczgb31_0); (try clear hfzgb31_0); obtain ⟨hk_, hs1_, hs2_, hw_⟩ := ev_kept (S := (fun _ => False)) HS.out HB.out hb_ (by repeat (first | (with_reducible first | exact Kept.refl _ _ | apply Kept.alloc | apply Kept.drewN | apply Kept.drew) | exact Kept.refl _ _)); have hB_ := below_step (by repeat (first | (with_reducible first | exact HB.out | apply below_alloc | apply pw_below_drewN | apply below_drew1 | refine below_set ?_ GEgb1.out | refine below_set ?_ GEgb31.out) | exact HB.out)) hb_; have n0_ := Aside0.mk (Kd.F_kept FA0_0.out hk_ (fun _ _ hs_ => hs_.elim)); have n1_ := Aside0.mk (blk_below (g := gb1) (o := .cells #[.slice A0_0 l0_0.length c0_0] 24 (0, 0)) (by (with_reducible repeat (first | refine blk_drewN ?_ _ | refine blk_drew ?_ | refine blk_alloc ?_ _)); exact BKgb1.out) hb_); have n2_ := Aside0.mk (Kd.S_kept HS11.out hk_ (fun _ _ hs_ => hs_.elim)); have n3_ := Aside0.mk (Kd.R_kept HR21.out hk_ (fun _ _ hs_ => hs_.elim)); have n4_ := Aside0.mk (blk_below (g := gb31) (o := .cells #[.slice Ao29 l0_0.length co30] 28 (0, 0)) (by (with_reducible repeat (first | refine blk_drewN ?_ _ | refine blk_drew ?_ | refine blk_alloc ?_ _)); exact BKgb31.out) hb_); have n5_ := Aside0.mk (Kd.S_kept HS48.out hk_ (fun _ _ hs_ => hs_.elim)); have n6_ := Aside0.mk (Kd.F_kept FM57.out hk_ (fun _ _ hs_ => hs_.elim)); have n7_ := Aside0.mk (Kd.F_kept FM63.out hk_ (fun _ _ hs_ => hs_.elim)); have ns_ := Aside0.mk (Nat.le_trans (Nat.le_trans hs1_ hs2_) (Nat.le_refl _)); have nB_ := Aside0.mk hB_; obtain ⟨lo68, hi69, c1_, c2_, c3_, h_⟩ := S_new hov0__ hs2_ hw_ hs1_; have HS70 := Aside0.mk h_; obtain ⟨Ao71, co72, eo_⟩ := Kd.S_slice HS70.out; subst eo_; have HCHS70 := Aside0.mk (Kd.S_reads' HS70.out).2.1; clear h_ hov0__; have nc_ := Aside0.mk (And.intro c1_ (And.intro c2_ CH.out)); clear CH ns_; have CH := nc_; have ns_ := Aside0.mk c3_; clear nc_ c1_ c2_ c3_; clear HB HS FA0_0 BKgb1 HS11 HR21 BKgb31 HS48 FM57 FM63; have FA0_0 := n0_; have BKgb1 := n1_; have HS11 := n2_; have HR21 := n3_; have BKgb31 := n4_; have HS48 := n5_; have FM57 := n6_; have FM63 := n7_; have HB := nB_; have HS := ns_; clear nB_ ns_ n0_ n1_ n2_ n3_ n4_ n5_ n6_ n7_; clear hk_ hs1_ hs2_ hw_ hB_ hb_; have hczgb1_0 : w66.cell? ⟨gb1, 0, none⟩ = some (.slice A0_0 l0_0.length c0_0) := (blk_cell BKgb1.out 0).trans rfl; have hfzgb1_0 := blk_frozen BKgb1.out 0; have hczgb31_0 : w66.cell? ⟨gb31, 0, none⟩ = some (.slice Ao29 l0_0.length co30) := (blk_cell BKgb31.out 0).trans rfl; have hfzgb31_0 := blk_frozen BKgb31.out 0; have hnbgb1gb31 : gb1 ≠ gb31 := (by have := CH.out; omega); have hnbgb31gb1 : gb31 ≠ gb1 := (by have := CH.out; omega)) | ((with_reducible refine gate_callee (f := 16) rfl ?_); refine goesL_ (some 81) rfl rfl Try.func16 (by kernel_rfl) rfl #[.agg #[.slice Ao71 l0_0.length co72], .int .i64 a1] rfl (by (try simp only [List.map_toArray, List.map_cons, List.map_nil]); first | done | rfl | (simp only [List.length_drop, List.length_take]; rfl)) ?_; (with_reducible refine (impl_FirstTree.calls KE34 _ _ l0_0 a1 x15 x16 _ ?sidehr0_0 ?sidehc0_0 E34.out).mono ?_); (case sidehr0_0 => exact S_now (S := (fun _ => False)) HS70.out (by repeat (first | (with_reducible first | exact Kept.refl _ _ | apply Kept.alloc | apply Kept.drewN | apply Kept.drew) | exact Kept.refl _ _)) (fun _ _ hs_ => hs_.elim)); (case sidehc0_0 => exact HCHS70.out); rintro e w73 ⟨v74, rfl, hov0__, hb_⟩; refine ⟨_, rfl, ?_⟩; (try clear hczgb1_0); (try clear hfzgb1_0); (try clear hczgb31_0); (try clear hfzgb31_0); obtain ⟨hk_, hs1_, hs2_, hw_⟩ := ev_kept (S := (fun _ => False)) HS.out HB.out hb_ (by repeat (first | (with_reducible first | exact Kept.refl _ _ | apply Kept.alloc | apply Kept.drewN | apply Kept.drew) | exact Kept.refl _ _)); have hB_ := below_step (by repeat (first | (with_reducible first | exact HB.out | apply below_alloc | apply pw_below_drewN | apply below_drew1 | refine below_set ?_ GEgb1.out | refine below_set ?_ GEgb31.out) | exact HB.out)) hb_; have n0_ := Aside0.mk (Kd.F_kept FA0_0.out hk_ (fun _ _ hs_ => hs_.elim)); have n1_ := Aside0.mk (blk_below (g := gb1) (o := .cells #[.slice A0_0 l0_0.length c0_0] 24 (0, 0)) (by (with_reducible repeat (first | refine blk_drewN ?_ _ | refine blk_drew ?_ | refine blk_alloc ?_ _)); exact BKgb1.out) hb_); have n2_ := Aside0.mk (Kd.S_kept HS11.out hk_ (fun _ _ hs_ => hs_.elim)); have n3_ := Aside0.mk (Kd.R_kept HR21.out hk_ (fun _ _ hs_ => hs_.elim)); have n4_ := Aside0.mk (blk_below (g := gb31) (o := .cells #[.slice Ao29 l0_0.length co30] 28 (0, 0)) (by (with_reducible repeat (first | refine blk_drewN ?_ _ | refine blk_drew ?_ | refine blk_alloc ?_ _)); exact BKgb31.out) hb_); have n5_ := Aside0.mk (Kd.S_kept HS48.out hk_ (fun _ _ hs_ => hs_.elim)); have n6_ := Aside0.mk (Kd.F_kept FM57.out hk_ (fun _ _ hs_ => hs_.elim)); have n7_ := Aside0.mk (Kd.F_kept FM63.out hk_ (fun _ _ hs_ => hs_.elim)); have n8_ := Aside0.mk (Kd.S_kept HS70.out hk_ (fun _ _ hs_ => hs_.elim)); have ns_ := Aside0.mk (Nat.le_trans (Nat.le_trans hs1_ hs2_) (Nat.le_refl _)); have nB_ := Aside0.mk hB_; obtain ⟨lo75, hi76, c1_, c2_, c3_, h_⟩ := R_new hov0__ hs2_ hw_ hs1_; have HR77 := Aside0.mk h_; obtain ⟨Ao78, co79, eo_⟩ := Kd.R_slice HR77.out; subst eo_; have HCHR77 := Aside0.mk (Kd.R_reads' HR77.out).2.1; clear h_ hov0__; have nc_ := Aside0.mk (And.intro c1_ (And.intro c2_ CH.out)); clear CH ns_; have CH := nc_; have ns_ := Aside0.mk c3_; clear nc_ c1_ c2_ c3_; clear HB HS FA0_0 BKgb1 HS11 HR21 BKgb31 HS48 FM57 FM63 HS70; have FA0_0 := n0_; have BKgb1 := n1_; have HS11 := n2_; have HR21 := n3_; have BKgb31 := n4_; have HS48 := n5_; have FM57 := n6_; have FM63 := n7_; have HS70 := n8_; have HB := nB_; have HS := ns_; clear nB_ ns_ n0_ n1_ n2_ n3_ n4_ n5_ n6_ n7_ n8_; clear hk_ hs1_ hs2_ hw_ hB_ hb_; have hczgb1_0 : w73.cell? ⟨gb1, 0, none⟩ = some (.slice A0_0 l0_0.length c0_0) := (blk_cell BKgb1.out 0).trans rfl; have hfzgb1_0 := blk_frozen BKgb1.out 0; have hczgb31_0 : w73.cell? ⟨gb31, 0, none⟩ = some (.slice Ao29 l0_0.length co30) := (blk_cell BKgb31.out 0).trans rfl; have hfzgb31_0 := blk_frozen BKgb31.out 0; have hnbgb1gb31 : gb1 ≠ gb31 := (by have := CH.out; omega); have hnbgb31gb1 : gb31 ≠ gb1 := (by have := CH.out; omega)) | ((with_reducible refine gate_callee (f := 17) rfl ?_); refine goesL_ (some 86) rfl rfl Try.func17 (by kernel_rfl) rfl #[.slice Ao78 x15.length co79, .slice Ao22 x15.length co23] rfl (by (try simp only [List.map_toArray, List.map_cons, List.map_nil]); first | done | rfl | (simp only [List.length_drop, List.length_take]; rfl)) ?_; (with_reducible refine (laws_eqIntS.calls KE42 _ _ x15 _ _ x15 true _ ?sidehr0 ?sidehc0 ?sidehr1 ?sidehc1 E42.out).mono ?_); (case sidehr0 => exact R_now (S := (fun _ => False)) HR77.out (by repeat (first | (with_reducible first | exact Kept.refl _ _ | apply Kept.alloc | apply Kept.drewN | apply Kept.drew) | exact Kept.refl _ _)) (fun _ _ hs_ => hs_.elim)); (case sidehc0 => exact HCHR77.out); (case sidehr1 => exact R_now (S := (fun _ => False)) HR21.out (by repeat (first | (with_reducible first | exact Kept.refl _ _ | apply Kept.alloc | apply Kept.drewN | apply Kept.drew) | exact Kept.refl _ _)) (fun _ _ hs_ => hs_.elim)); (case sidehc1 => exact HCHR21.out); rintro e w80 ⟨rfl, hd_⟩; refine ⟨_, rfl, ?_⟩; have hb_ := hd_.below; (try clear hczgb1_0); (try clear hfzgb1_0); (try clear hczgb31_0); (try clear hfzgb31_0); obtain ⟨hk_, hs1_, hs2_, hw_⟩ := ev_kept (S := (fun _ => False)) HS.out HB.out hb_ (by repeat (first | (with_reducible first | exact Kept.refl _ _ | apply Kept.alloc | apply Kept.drewN | apply Kept.drew) | exact Kept.refl _ _)); have hB_ := below_step (by repeat (first | (with_reducible first | exact HB.out | apply below_alloc | apply pw_below_drewN | apply below_drew1 | refine below_set ?_ GEgb1.out | refine below_set ?_ GEgb31.out) | exact HB.out)) hb_; have n0_ := Aside0.mk (Kd.F_kept FA0_0.out hk_ (fun _ _ hs_ => hs_.elim)); have n1_ := Aside0.mk (blk_below (g := gb1) (o := .cells #[.slice A0_0 l0_0.length c0_0] 24 (0, 0)) (by (with_reducible repeat (first | refine blk_drewN ?_ _ | refine blk_drew ?_ | refine blk_alloc ?_ _)); exact BKgb1.out) hb_); have n2_ := Aside0.mk (Kd.S_kept HS11.out hk_ (fun _ _ hs_ => hs_.elim)); have n3_ := Aside0.mk (Kd.R_kept HR21.out hk_ (fun _ _ hs_ => hs_.elim)); have n4_ := Aside0.mk (blk_below (g := gb31) (o := .cells #[.slice Ao29 l0_0.length co30] 28 (0, 0)) (by (with_reducible repeat (first | refine blk_drewN ?_ _ | refine blk_drew ?_ | refine blk_alloc ?_ _)); exact BKgb31.out) hb_); have n5_ := Aside0.mk (Kd.S_kept HS48.out hk_ (fun _ _ hs_ => hs_.elim)); have n6_ := Aside0.mk (Kd.F_kept FM57.out hk_ (fun _ _ hs_ => hs_.elim)); have n7_ := Aside0.mk (Kd.F_kept FM63.out hk_ (fun _ _ hs_ => hs_.elim)); have n8_ := Aside0.mk (Kd.S_kept HS70.out hk_ (fun _ _ hs_ => hs_.elim)); have n9_ := Aside0.mk (Kd.R_kept HR77.out hk_ (fun _ _ hs_ => hs_.elim)); have ns_ := Aside0.mk (Nat.le_trans (Nat.le_trans hs1_ hs2_) (Nat.le_refl _)); have nB_ := Aside0.mk hB_; clear HB HS FA0_0 BKgb1 HS11 HR21 BKgb31 HS48 FM57 FM63 HS70 HR77; have FA0_0 := n0_; have BKgb1 := n1_; have HS11 := n2_; have HR21 := n3_; have BKgb31 := n4_; have HS48 := n5_; have FM57 := n6_; have FM63 := n7_; have HS70 := n8_; have HR77 := n9_; have HB := nB_; have HS := ns_; clear nB_ ns_ n0_ n1_ n2_ n3_ n4_ n5_ n6_ n7_ n8_ n9_; clear hk_ hs1_ hs2_ hw_ hB_ hb_; clear hd_; have hczgb1_0 : w80.cell? ⟨gb1, 0, none⟩ = some (.slice A0_0 l0_0.length c0_0) := (blk_cell BKgb1.out 0).trans rfl; have hfzgb1_0 := blk_frozen BKgb1.out 0; have hczgb31_0 : w80.cell? ⟨gb31, 0, none⟩ = some (.slice Ao29 l0_0.length co30) := (blk_cell BKgb31.out 0).trans rfl; have hfzgb31_0 := blk_frozen BKgb31.out 0; have hnbgb1gb31 : gb1 ≠ gb31 := (by have := CH.out; omega); have hnbgb31gb1 : gb31 ≠ gb1 := (by have := CH.out; omega)) | ((with_reducible refine gate_callee (f := 19) rfl ?_); refine goesL_ (some 95) rfl rfl Try.func19 (by kernel_rfl) rfl #[.slice Ao39 x15.length co40, .int .i64 1] rfl (by (try simp only [List.map_toArray, List.map_cons, List.map_nil]); first | done | rfl | (simp only [List.length_drop, List.length_take]; rfl)) ?_; refine calls_len (args' := #[.slice Ao39 x61.length co40, .int .i64 1]) (by simp only [HLFM63.out]) ?_; (with_reducible refine (laws_heldIntS.calls KE65 _ _ x61 1 x60 _ ?sidehr0 ?sidehc0 E65.out).mono ?_); (case sidehr0 => exact F_at (S := (fun _ => False)) FM63.out (by repeat (first | (with_reducible first | exact Kept.refl _ _ | apply Kept.alloc | apply Kept.drewN | apply Kept.drew) | exact Kept.refl _ _)) (fun _ _ hs_ => hs_.elim)); (case sidehc0 => exact HCHR38_.out); rintro e w81 ⟨rfl, hd_⟩; refine ⟨_, rfl, ?_⟩; have hb_ := hd_.below; (try clear hczgb1_0); (try clear hfzgb1_0); (try clear hczgb31_0); (try clear hfzgb31_0); obtain ⟨hk_, hs1_, hs2_, hw_⟩ := ev_kept (S := (fun _ => False)) HS.out HB.out hb_ (by repeat (first | (with_reducible first | exact Kept.refl _ _ | apply Kept.alloc | apply Kept.drewN | apply Kept.drew) | exact Kept.refl _ _)); have hB_ := below_step (by repeat (first | (with_reducible first | exact HB.out | apply below_alloc | apply pw_below_drewN | apply below_drew1 | refine below_set ?_ GEgb1.out | refine below_set ?_ GEgb31.out) | exact HB.out)) hb_; have n0_ := Aside0.mk (Kd.F_kept FA0_0.out hk_ (fun _ _ hs_ => hs_.elim)); have n1_ := Aside0.mk (blk_below (g := gb1) (o := .cells #[.slice A0_0 l0_0.length c0_0] 24 (0, 0)) (by (with_reducible repeat (first | refine blk_drewN ?_ _ | refine blk_drew ?_ | refine blk_alloc ?_ _)); exact BKgb1.out) hb_); have n2_ := Aside0.mk (Kd.S_kept HS11.out hk_ (fun _ _ hs_ => hs_.elim)); have n3_ := Aside0.mk (Kd.R_kept HR21.out hk_ (fun _ _ hs_ => hs_.elim)); have n4_ := Aside0.mk (blk_below (g := gb31) (o := .cells #[.slice Ao29 l0_0.length co30] 28 (0, 0)) (by (with_reducible repeat (first | refine blk_drewN ?_ _ | refine blk_drew ?_ | refine blk_alloc ?_ _)); exact BKgb31.out) hb_); have n5_ := Aside0.mk (Kd.S_kept HS48.out hk_ (fun _ _ hs_ => hs_.elim)); have n6_ := Aside0.mk (Kd.F_kept FM57.out hk_ (fun _ _ hs_ => hs_.elim)); have n7_ := Aside0.mk (Kd.F_kept FM63.out hk_ (fun _ _ hs_ => hs_.elim)); have n8_ := Aside0.mk (Kd.S_kept HS70.out hk_ (fun _ _ hs_ => hs_.elim)); have n9_ := Aside0.mk (Kd.R_kept HR77.out hk_ (fun _ _ hs_ => hs_.elim)); have ns_ := Aside0.mk (Nat.le_trans (Nat.le_trans hs1_ hs2_) (Nat.le_refl _)); have nB_ := Aside0.mk hB_; clear HB HS FA0_0 BKgb1 HS11 HR21 BKgb31 HS48 FM57 FM63 HS70 HR77; have FA0_0 := n0_; have BKgb1 := n1_; have HS11 := n2_; have HR21 := n3_; have BKgb31 := n4_; have HS48 := n5_; have FM57 := n6_; have FM63 := n7_; have HS70 := n8_; have HR77 := n9_; have HB := nB_; have HS := ns_; clear nB_ ns_ n0_ n1_ n2_ n3_ n4_ n5_ n6_ n7_ n8_ n9_; clear hk_ hs1_ hs2_ hw_ hB_ hb_; clear hd_; have hczgb1_0 : w81.cell? ⟨gb1, 0, none⟩ = some (.slice A0_0 l0_0.length c0_0) := (blk_cell BKgb1.out 0).trans rfl; have hfzgb1_0 := blk_frozen BKgb1.out 0; have hczgb31_0 : w81.cell? ⟨gb31, 0, none⟩ = some (.slice Ao29 l0_0.length co30) := (blk_cell BKgb31.out 0).trans rfl; have hfzgb31_0 := blk_frozen BKgb31.out 0; have hnbgb1gb31 : gb1 ≠ gb31 := (by have := CH.out; omega); have hnbgb31gb1 : gb31 ≠ gb1 := (by have := CH.out; omega)))
  go_ret
  exact ⟨by first | rfl | (simp; done), by repeat (first | (with_reducible first | exact HB.out | apply below_alloc | apply pw_below_drewN | apply below_drew1 | refine below_set ?_ GEgb1.out | refine below_set ?_ GEgb31.out) | exact HB.out)⟩

end Go.Proofs.Ythjkhbfaenidpaa.P
namespace Go.Proofs.Ythjkhbfaenidpaa.M
open Go.RowKit Go.Proofs.Ythjkhbfaenidpaa.P Go.Proofs.Ythjkhbfaenidpaa.In Go.Proofs.YthjkhbfaenidpaaW.PrintWords Go.Proofs.YthjkhbfaenidpaaW.PrintLast
set_option linter.unusedVariables false
set_option linter.unusedSimpArgs false
/-! numbers -/
theorem wrap_id {x : Int} (h : -9223372036854775808 ≤ x ∧ x ≤ 9223372036854775807) : wrap64 x = x := by unfold wrap64; omega
theorem wrap_nat {n : Nat} (h : n < 9223372036854775807) : wrap64 ((n : Int) + 1) = ((n + 1 : Nat) : Int) := by unfold wrap64; omega
theorem rd_at {l : List Int} {n : Nat} (h : n < l.length) : rd l (n : Int) = l[n] := by simp [rd, h]
theorem rdL_at {l : List (List Int)} {n : Nat} (h : n < l.length) : rd_L1 l (n : Int) = l[n] := by simp [rd_L1, h]
theorem _root_.Go.Proofs.YthjkhbfaenidpaaW.PrintWords.Ev.val {α : Type} {g : Nat → Option α} {r r' : α} (h : Ev g r) (e : r = r') : Ev g r' := e ▸ h
theorem _root_.Go.Proofs.YthjkhbfaenidpaaW.PrintWords.Ev.const {α : Type} {g : Nat → Option α} {r : α} (h : ∀ k, g k = some r) : Ev g r := ⟨0, fun k _ => h k⟩
theorem _root_.Go.Proofs.YthjkhbfaenidpaaW.PrintWords.Ev.const1 {α : Type} {g : Nat → Option α} {r : α} (h : ∀ k, g (k + 1) = some r) : Ev g r := Ev.step (f := fun _ => some r) h (Ev.const fun _ => rfl)
theorem _root_.Go.Proofs.YthjkhbfaenidpaaW.PrintWords.Ev.succ {α : Type} {g : Nat → Option α} {r : α} (h : Ev (fun k => g (k + 1)) r) : Ev g r := Ev.step (f := fun k => g (k + 1)) (fun _ => rfl) h
theorem _root_.Go.Proofs.YthjkhbfaenidpaaW.PrintWords.Ev.uniq {α : Type} {g : Nat → Option α} {r r' : α} (h : Ev g r) (h' : Ev g r') : r = r' := by
  obtain ⟨K, hK⟩ := h
  obtain ⟨K', hK'⟩ := h'
  have := (hK (max K K') (Nat.le_max_left _ _)).symm.trans (hK' (max K K') (Nat.le_max_right _ _))
  exact Option.some.inj this
theorem _root_.Go.Proofs.YthjkhbfaenidpaaW.PrintWords.Ev.bind0 {α β : Type} {g : Option α} {f : Nat → α → Option β} {a : α} {r : β} (h : g = some a) (k : Ev (fun n => f n a) r) : Ev (fun n => g.bind (f n)) r := by
  subst h; exact k
theorem _root_.Go.Proofs.YthjkhbfaenidpaaW.PrintWords.Ev.pos {α : Type} {g f : Nat → Option α} {r : α} {c : Prop} [Decidable c] (h : c) (k : Ev g r) : Ev (fun n => if c then g n else f n) r := by
  simp only [if_pos h]; exact k
theorem _root_.Go.Proofs.YthjkhbfaenidpaaW.PrintWords.Ev.neg {α : Type} {g f : Nat → Option α} {r : α} {c : Prop} [Decidable c] (h : ¬ c) (k : Ev f r) : Ev (fun n => if c then g n else f n) r := by
  simp only [if_neg h]; exact k

/-! copies -/
theorem toIntS_l0 (l : List Int) (hl : l.length < 9223372036854775807) : ∀ (d i : Nat) (y : List Int), l.length - i = d → i ≤ l.length → y.length = l.length → y.take i = l.take i → Ev (fun k => laws_toIntS.l0 k l y i) l := by
  intro d
  induction d with
  | zero =>
    intro i y hd hi hy ht
    have : i = l.length := by omega
    subst this
    refine Ev.const1 (fun k => ?_)
    simp only [laws_toIntS.l0]
    rw [if_neg (by omega)]
    rw [List.take_of_length_le (by omega), List.take_of_length_le (by omega)] at ht
    rw [ht]
  | succ d ih =>
    intro i y hd hi hy ht
    have hlt : i < l.length := by omega
    refine Ev.step (f := fun k => laws_toIntS.l0 k l (y.set i l[i]) (i + 1 : Nat)) (fun k => ?_) (ih (i + 1) (y.set i l[i]) (by omega) (by omega) (by rw [List.length_set]; exact hy) ?_)
    · simp only [laws_toIntS.l0]
      rw [if_pos (by omega), if_pos (by omega), if_pos (by omega), wrap_nat (by omega), rd_at hlt, Int.toNat_natCast]
    · rw [List.take_succ_eq_append_getElem (by rw [List.length_set]; omega), List.take_succ_eq_append_getElem hlt, List.take_set_of_le (Nat.le_refl _), ht, List.getElem_set_self]
theorem toIntS (l : List Int) (hl : l.length ≤ 35184372088832) : Ev (fun k => laws_toIntS.f k l) l := by
  unfold laws_toIntS.f
  refine Ev.pos (by omega) (Ev.pos (by omega) ?_)
  exact toIntS_l0 l (by omega) l.length 0 _ (by omega) (by omega) (by simp) (by simp)
theorem toIntSS_l0 (l : List (List Int)) (hl : l.length < 9223372036854775807) (hr : ∀ row ∈ l, row.length ≤ 35184372088832) : ∀ (d i : Nat) (y : List (List Int)), l.length - i = d → i ≤ l.length → y.length = l.length → y.take i = l.take i → Ev (fun k => laws_toIntSS.l0 k l y i) l := by
  intro d
  induction d with
  | zero =>
    intro i y hd hi hy ht
    have : i = l.length := by omega
    subst this
    refine Ev.const1 (fun k => ?_)
    simp only [laws_toIntSS.l0]
    rw [if_neg (by omega)]
    rw [List.take_of_length_le (by omega), List.take_of_length_le (by omega)] at ht
    rw [ht]
  | succ d ih =>
    intro i y hd hi hy ht
    have hlt : i < l.length := by omega
    refine Ev.step (f := fun k => (laws_toIntS.f k l[i]).bind fun t => laws_toIntSS.l0 k l (y.set i t) (i + 1 : Nat)) (fun k => ?_) (Ev.bind (toIntS l[i] (hr _ (List.getElem_mem hlt))) (ih (i + 1) (y.set i l[i]) (by omega) (by omega) (by rw [List.length_set]; exact hy) ?_))
    · simp only [laws_toIntSS.l0]
      rw [if_pos (by omega), if_pos (by omega), wrap_nat (by omega), rdL_at hlt, Int.toNat_natCast]
      congr 1
      funext t
      rw [if_pos (by omega)]
    · rw [List.take_succ_eq_append_getElem (by rw [List.length_set]; omega), List.take_succ_eq_append_getElem hlt, List.take_set_of_le (Nat.le_refl _), ht, List.getElem_set_self]
theorem toIntSS (l : List (List Int)) (hl : l.length ≤ 11728124029610) (hr : ∀ row ∈ l, row.length ≤ 35184372088832) : Ev (fun k => laws_toIntSS.f k l) l := by
  unfold laws_toIntSS.f
  refine Ev.pos (by omega) (Ev.pos (by omega) ?_)
  exact toIntSS_l0 l (by omega) hr l.length 0 _ (by omega) (by omega) (by simp) (by simp)
/-- A graph that is small enough for a law to look at it. -/
def small (l : List (List Int)) : Prop := l.length ≤ 1048576 ∧ ∀ row ∈ l, row.length ≤ 1048576
theorem toGraph (l : List (List Int)) (h : small l) : Ev (fun k => laws_toGraph.f k l) l := by
  unfold laws_toGraph.f
  exact Ev.bind (toIntSS l (by have := h.1; omega) (fun row hr => by have := h.2 row hr; omega)) (Ev.now _)

/-! sizes -/
theorem szIntSS_l0 (l : List (List Int)) (hl : okSS l) : ∀ (d i : Nat) (a : Int), l.length - i = d → i ≤ l.length → 0 ≤ a → a ≤ 1048576 → ∃ r, Ev (fun k => laws_szIntSS.l0 k l a i) r ∧ r ≤ 1048576 ∧ (0 ≤ r → ∀ j (hj : j < l.length), i ≤ j → l[j].length ≤ 1048576) := by
  intro d
  induction d with
  | zero =>
    intro i a hd hi h0 h1
    refine ⟨a, Ev.const1 (fun k => ?_), h1, fun _ j hj hij => by omega⟩
    simp only [laws_szIntSS.l0]
    rw [if_neg (by omega)]
  | succ d ih =>
    intro i a hd hi h0 h1
    have hlt : i < l.length := by omega
    have hll := hl.1
    have hrow := (hl.2 _ (List.getElem_mem hlt)).1
    by_cases hneg : a - (l[i].length : Int) < 0
    · refine ⟨-1, Ev.const1 (fun k => ?_), by omega, fun h => by omega⟩
      simp only [laws_szIntSS.l0, laws_szIntS.f]
      rw [if_pos (by omega), if_pos (by omega), rdL_at hlt, if_pos (by rw [wrap_id (by omega)]; exact hneg)]
      rfl
    · obtain ⟨r, h2, h3, h4⟩ := ih (i + 1) (a - (l[i].length : Int)) (by omega) (by omega) (by omega) (by omega)
      refine ⟨r, Ev.step (fun k => ?_) h2, h3, fun h j hj hij => ?_⟩
      · simp only [laws_szIntSS.l0, laws_szIntS.f]
        rw [if_pos (by omega), if_pos (by omega), rdL_at hlt, wrap_id (by omega), if_neg hneg, wrap_nat (by omega)]
        simp only [Option.bind_some]
        rw [if_neg hneg]
      · by_cases e : j = i
        · subst e; omega
        · exact h4 h j hj (by omega)
theorem szGraph (l : List (List Int)) (hl : okSS l) : ∃ r, Ev (fun k => laws_szGraph.f k l 1048576) r ∧ r ≤ 1048576 ∧ (0 ≤ r → small l) := by
  have hll := hl.1
  unfold laws_szGraph.f laws_szIntSS.f
  rw [wrap_id (by omega)]
  by_cases h : (1048576 : Int) - (l.length : Int) < 0
  · exact ⟨-1, Ev.bind (Ev.pos h (Ev.now _)) (Ev.pos (by omega) (Ev.now _)), by omega, fun h => by omega⟩
  · obtain ⟨r, h2, h3, h4⟩ := szIntSS_l0 l hl l.length 0 (1048576 - (l.length : Int)) (by omega) (by omega) (by omega) (by omega)
    by_cases hr : r < 0
    · exact ⟨-1, Ev.bind (Ev.neg h h2) (Ev.pos hr (Ev.now _)), by omega, fun h => by omega⟩
    · refine ⟨r, Ev.bind (Ev.neg h h2) (Ev.neg hr (Ev.now _)), h3, fun h0 => ⟨by omega, fun row hrow => ?_⟩⟩
      obtain ⟨j, hj, rfl⟩ := List.getElem_of_mem hrow
      exact h4 h0 j hj (Nat.zero_le _)

/-! comparisons -/
theorem cons_dec {α : Type} [DecidableEq α] {a b : α} {l m : List α} (e : a = b) : decide (l = m) = decide (a :: l = b :: m) := by
  subst e; exact decide_eq_decide.mpr ⟨fun h => by rw [h], fun h => (List.cons.inj h).2⟩
theorem eqIntS_l0 (x y : List Int) (hl : x.length ≤ 9223372036854775807) (hxy : x.length = y.length) : ∀ (d i : Nat), x.length - i = d → i ≤ x.length → Ev (fun k => laws_eqIntS.l0 k x y i) (decide (x.drop i = y.drop i)) := by
  intro d
  induction d with
  | zero =>
    intro i hd hi
    refine Ev.const1 (fun k => ?_)
    simp only [laws_eqIntS.l0]
    rw [if_neg (by omega), List.drop_of_length_le (by omega), List.drop_of_length_le (by omega)]
    simp
  | succ d ih =>
    intro i hd hi
    have hlt : i < x.length := by omega
    have hlt2 : i < y.length := by omega
    rw [List.drop_eq_getElem_cons hlt, List.drop_eq_getElem_cons hlt2]
    by_cases e : x[i] = y[i]
    · refine Ev.step (f := fun k => laws_eqIntS.l0 k x y (i + 1 : Nat)) (fun k => ?_) ((ih (i + 1) (by omega) (by omega)).val (cons_dec e))
      simp only [laws_eqIntS.l0]
      rw [if_pos (by omega), if_pos (by omega), if_pos (by omega), rd_at hlt, rd_at hlt2, if_pos e, wrap_nat (by omega)]
    · refine Ev.const1 (fun k => ?_)
      simp only [laws_eqIntS.l0]
      rw [if_pos (by omega), if_pos (by omega), if_pos (by omega), rd_at hlt, rd_at hlt2, if_neg e, decide_eq_false (fun h => e (List.cons.inj h).1)]
theorem eqIntS (x y : List Int) (hl : x.length ≤ 9223372036854775807) : Ev (fun k => laws_eqIntS.f k x y) (decide (x = y)) := by
  unfold laws_eqIntS.f
  by_cases h : x.length = y.length
  · refine Ev.pos (by omega) ?_
    exact eqIntS_l0 x y hl h x.length 0 (by omega) (by omega)
  · refine Ev.neg (by omega) ?_
    exact (Ev.now _).val (by have : x ≠ y := fun e => h (by rw [e]); simp [this])
theorem eqIntSS_l0 (x y : List (List Int)) (hl : x.length ≤ 9223372036854775807) (hr : ∀ row ∈ x, row.length ≤ 9223372036854775807) (hxy : x.length = y.length) : ∀ (d i : Nat), x.length - i = d → i ≤ x.length → Ev (fun k => laws_eqIntSS.l0 k x y i) (decide (x.drop i = y.drop i)) := by
  intro d
  induction d with
  | zero =>
    intro i hd hi
    refine Ev.const1 (fun k => ?_)
    simp only [laws_eqIntSS.l0]
    rw [if_neg (by omega), List.drop_of_length_le (by omega), List.drop_of_length_le (by omega)]
    simp
  | succ d ih =>
    intro i hd hi
    have hlt : i < x.length := by omega
    have hlt2 : i < y.length := by omega
    rw [List.drop_eq_getElem_cons hlt, List.drop_eq_getElem_cons hlt2]
    refine Ev.step (f := fun k => (laws_eqIntS.f k x[i] y[i]).bind fun t => if t = true then laws_eqIntSS.l0 k x y (i + 1 : Nat) else some false) (fun k => ?_) ?_
    · simp only [laws_eqIntSS.l0]
      rw [if_pos (by omega), if_pos (by omega), if_pos (by omega), rdL_at hlt, rdL_at hlt2, wrap_nat (by omega)]
    · by_cases e : x[i] = y[i]
      · exact Ev.bind ((eqIntS x[i] y[i] (hr _ (List.getElem_mem hlt))).val (decide_eq_true e)) (Ev.pos rfl ((ih (i + 1) (by omega) (by omega)).val (cons_dec e)))
      · exact Ev.bind ((eqIntS x[i] y[i] (hr _ (List.getElem_mem hlt))).val (decide_eq_false e)) (Ev.neg (by simp) ((Ev.now _).val (decide_eq_false (fun h => e (List.cons.inj h).1)).symm))
theorem eqIntSS (x y : List (List Int)) (hl : x.length ≤ 9223372036854775807) (hr : ∀ row ∈ x, row.length ≤ 9223372036854775807) : Ev (fun k => laws_eqIntSS.f k x y) (decide (x = y)) := by
  unfold laws_eqIntSS.f
  by_cases h : x.length = y.length
  · refine Ev.pos (by omega) ?_
    exact eqIntSS_l0 x y hl hr h x.length 0 (by omega) (by omega)
  · refine Ev.neg (by omega) ?_
    exact (Ev.now _).val (by have : x ≠ y := fun e => h (by rw [e]); simp [this])
theorem eqGraph (x y : List (List Int)) (hl : x.length ≤ 9223372036854775807) (hr : ∀ row ∈ x, row.length ≤ 9223372036854775807) : Ev (fun k => laws_eqGraph.f k x y) (decide (x = y)) := by
  unfold laws_eqGraph.f
  refine Ev.bind (eqIntSS x y hl hr) ?_
  by_cases e : x = y
  · exact Ev.pos (decide_eq_true e) ((Ev.now _).val (decide_eq_true e).symm)
  · exact Ev.neg (by simp [e]) ((Ev.now _).val (decide_eq_false e).symm)
theorem small_eq (l : List (List Int)) (h : small l) : Ev (fun k => laws_eqGraph.f k l l) true := (eqGraph l l (by have := h.1; omega) (fun row hr => by have := h.2 row hr; omega)).val (decide_eq_true rfl)

/-! what a graph is -/
theorem l1In (a lo hi : Int) : spec_l1In.f a lo hi = some (decide (lo ≤ a) && decide (a ≤ hi)) := by
  unfold spec_l1In.f
  by_cases h : a ≥ lo
  · rw [if_pos h]; have : lo ≤ a := h; simp [this]
  · rw [if_neg h]; have : ¬ lo ≤ a := h; simp [this]
theorem implin (a lo hi : Int) : impl_in.f a lo hi = some (decide (lo ≤ a) && decide (a ≤ hi)) := by
  unfold impl_in.f
  by_cases h : lo ≤ a
  · rw [if_pos h]; simp [h]
  · rw [if_neg h]; simp [h]
theorem l1All_l0 (l : List Int) (lo hi : Int) (hl : l.length ≤ 9223372036854775807) : ∀ (d i : Nat), l.length - i = d → i ≤ l.length → Ev (fun k => spec_l1All.l0 k lo hi l l.length i) ((l.drop i).all fun x => decide (lo ≤ x) && decide (x ≤ hi)) := by
  intro d
  induction d with
  | zero =>
    intro i hd hi
    refine Ev.const1 (fun k => ?_)
    simp only [spec_l1All.l0]
    rw [if_neg (by omega), List.drop_of_length_le (by omega)]
    rfl
  | succ d ih =>
    intro i hd hi'
    have hlt : i < l.length := by omega
    rw [List.drop_eq_getElem_cons hlt, List.all_cons]
    by_cases e : (decide (lo ≤ l[i]) && decide (l[i] ≤ hi)) = true
    · refine Ev.step (f := fun k => spec_l1All.l0 k lo hi l l.length (i + 1 : Nat)) (fun k => ?_) ((ih (i + 1) (by omega) (by omega)).val (by rw [e]; simp))
      simp only [spec_l1All.l0, l1In]
      rw [if_pos (by omega), if_pos (by omega), if_pos (by omega), rd_at hlt, wrap_nat (by omega)]
      simp only [Option.bind_some]
      rw [if_pos e]
    · refine Ev.const1 (fun k => ?_)
      simp only [spec_l1All.l0, l1In]
      rw [if_pos (by omega), if_pos (by omega), if_pos (by omega), rd_at hlt]
      simp only [Option.bind_some]
      rw [if_neg e]
      simp only [Bool.not_eq_true] at e
      rw [e]; rfl
theorem l1All (l : List Int) (lo hi : Int) (hl : l.length ≤ 9223372036854775807) : Ev (fun k => spec_l1All.f k l lo hi) (l.all fun x => decide (lo ≤ x) && decide (x ≤ hi)) := by
  unfold spec_l1All.f
  exact l1All_l0 l lo hi hl l.length 0 (by omega) (by omega)
theorem grGood_l0 (l : List (List Int)) (hl : okSS l) : ∀ (d i : Nat), l.length - i = d → i ≤ l.length → Ev (fun k => spec_grGood.l0 k l.length l l.length i) ((l.drop i).all (goodRow l.length)) := by
  intro d
  induction d with
  | zero =>
    intro i hd hi
    refine Ev.const1 (fun k => ?_)
    simp only [spec_grGood.l0]
    rw [if_neg (by omega), List.drop_of_length_le (by omega)]
    rfl
  | succ d ih =>
    intro i hd hi'
    have hlt : i < l.length := by omega
    have hll := hl.1
    have hrow := (hl.2 _ (List.getElem_mem hlt)).1
    rw [List.drop_eq_getElem_cons hlt, List.all_cons]
    by_cases h5 : l[i].length ≤ 5
    · refine Ev.step (f := fun k => (spec_l1All.f k l[i] 0 ((l.length : Int) - 1)).bind fun t => if t = true then spec_grGood.l0 k l.length l l.length (i + 1 : Nat) else some false) (fun k => ?_) ?_
      · simp only [spec_grGood.l0]
        rw [if_pos (by omega), if_pos (by omega), if_pos (by omega), rdL_at hlt, if_neg (by omega), wrap_nat (by omega), wrap_id (by omega)]
      · by_cases e : (l[i].all fun x => decide (0 ≤ x) && decide (x ≤ (l.length : Int) - 1)) = true
        · exact Ev.bind ((l1All _ 0 _ hrow).val e) (Ev.pos rfl ((ih (i + 1) (by omega) (by omega)).val (by unfold goodRow; rw [e]; simp [h5])))
        · exact Ev.bind ((l1All _ 0 _ hrow).val (Bool.eq_false_iff.mpr e)) (Ev.neg (by simp) ((Ev.now _).val (by unfold goodRow; simp only [Bool.not_eq_true] at e; rw [e]; simp)))
    · refine Ev.const1 (fun k => ?_)
      simp only [spec_grGood.l0]
      rw [if_pos (by omega), if_pos (by omega), if_pos (by omega), rdL_at hlt, if_pos (by omega)]
      simp [goodRow, h5]
theorem grGood (l : List (List Int)) (hl : okSS l) : Ev (fun k => spec_grGood.f k l) (goodG l) := by
  unfold spec_grGood.f
  rw [l1In]
  simp only [Option.bind_some]
  by_cases h : 1 ≤ l.length ∧ l.length ≤ 8
  · have h1 : (1 : Int) ≤ l.length := by omega
    have h2 : (l.length : Int) ≤ 8 := by omega
    refine Ev.pos (by simp [h1, h2]) ?_
    exact (grGood_l0 l hl l.length 0 (by omega) (by omega)).val (by simp [goodG, h.1, h.2])
  · refine Ev.neg (by simp; omega) ((Ev.now _).val ?_)
    unfold goodG
    by_cases h1 : 1 ≤ l.length
    · have h2 : ¬ l.length ≤ 8 := by omega
      simp [h1, h2]
    · simp [h1]
theorem ok_small {l : List (List Int)} (h : okSS l) : l.length ≤ 9223372036854775807 ∧ ∀ row ∈ l, row.length ≤ 9223372036854775807 := ⟨h.1, fun row hr => (h.2 row hr).1⟩
end Go.Proofs.Ythjkhbfaenidpaa.M
namespace Go.Proofs.Ythjkhbfaenidpaa.M
open Go.RowKit Go.Proofs.Ythjkhbfaenidpaa.P Go.Proofs.Ythjkhbfaenidpaa.In Go.Proofs.YthjkhbfaenidpaaW.PrintWords Go.Proofs.YthjkhbfaenidpaaW.PrintLast
set_option linter.unusedVariables false
set_option linter.unusedSimpArgs false
theorem good_iff {l : List (List Int)} (h : goodG l = true) : (1 ≤ l.length ∧ l.length ≤ 8) ∧ ∀ row ∈ l, row.length ≤ 5 ∧ ∀ q ∈ row, 0 ≤ q ∧ q < (l.length : Int) := by
  simp only [goodG, goodRow, Bool.and_eq_true, decide_eq_true_eq, List.all_eq_true] at h
  refine ⟨⟨h.1, h.2.1⟩, fun row hr => ⟨(h.2.2 row hr).1, fun q hq => ?_⟩⟩
  have := (h.2.2 row hr).2 q hq
  omega
/-- A place of a graph. -/
def placeB (l : List (List Int)) (p : Int) : Bool := goodG l && (decide (0 ≤ p) && decide (p ≤ (l.length : Int) - 1))
theorem place_iff {l : List (List Int)} {p : Int} (h : placeB l p = true) : goodG l = true ∧ 0 ≤ p ∧ p < (l.length : Int) := by
  simp only [placeB, Bool.and_eq_true, decide_eq_true_eq] at h
  exact ⟨h.1, h.2.1, by omega⟩
theorem grPlace (l : List (List Int)) (p : Int) (hl : okSS l) : Ev (fun k => spec_grPlace.f k l p) (placeB l p) := by
  unfold spec_grPlace.f
  have hll := hl.1
  refine Ev.bind (grGood l hl) ?_
  by_cases h : goodG l = true
  · refine Ev.pos h ?_
    rw [l1In, wrap_id (by omega)]
    exact Ev.bind0 rfl ((Ev.now _).val (by simp [placeB, h]))
  · exact Ev.neg h ((Ev.now _).val (by simp only [Bool.not_eq_true] at h; simp [placeB, h]))
theorem has1 (l : List (List Int)) (p : Int) : impl_has.f l [p] = some (placeB l p) := by
  unfold impl_has.f placeB; simp
theorem has2 (l : List (List Int)) (p q : Int) : impl_has.f l [p, q] = some (placeB l p && placeB l q) := by
  unfold impl_has.f placeB
  cases goodG l <;> simp

theorem rd_get {l : List Int} {q : Int} (h0 : 0 ≤ q) (h1 : q < (l.length : Int)) : rd l q = l[q.toNat]'(by omega) := by
  unfold rd; rw [List.getD_eq_getElem?_getD, List.getElem?_eq_getElem (by omega)]; rfl
theorem rdL_get {l : List (List Int)} {q : Int} (h0 : 0 ≤ q) (h1 : q < (l.length : Int)) : rd_L1 l q = l[q.toNat]'(by omega) := by
  unfold rd_L1; rw [List.getD_eq_getElem?_getD, List.getElem?_eq_getElem (by omega)]; rfl
theorem rd_set {o : List Int} {q x v : Int} (hq0 : 0 ≤ q) (hq : q < (o.length : Int)) (hx0 : 0 ≤ x) : rd (o.set q.toNat v) x = if x = q then v else rd o x := by
  unfold rd
  rw [List.getD_eq_getElem?_getD, List.getElem?_set, List.getD_eq_getElem?_getD]
  by_cases e : x = q
  · subst e; rw [if_pos rfl, if_pos (by omega), if_pos rfl]; rfl
  · rw [if_neg (by omega), if_neg e]
theorem drop_rd {row : List Int} {i : Nat} (h : i < row.length) : row.drop i = rd row (i : Int) :: row.drop (i + 1) := by
  rw [List.drop_eq_getElem_cons h, rd_at h]
theorem place_of {g : List (List Int)} (hg : goodG g = true) {i : Nat} (hi : i < g.length) : placeB g (i : Int) = true := by
  unfold placeB; rw [hg]; simp; omega
end Go.Proofs.Ythjkhbfaenidpaa.M
namespace Go.Proofs.Ythjkhbfaenidpaa.M
open Go.RowKit Go.Proofs.Ythjkhbfaenidpaa.P Go.Proofs.Ythjkhbfaenidpaa.In Go.Proofs.YthjkhbfaenidpaaW.PrintWords Go.Proofs.YthjkhbfaenidpaaW.PrintLast
set_option linter.unusedVariables false
set_option linter.unusedSimpArgs false
/-! how far -/
def neg : List Int → Nat
  | [] => 0
  | x :: l => (if x < 0 then 1 else 0) + neg l
theorem neg_set (o : List Int) (i : Nat) (hi : i < o.length) (h : o[i] < 0) (v : Int) (hv : 0 ≤ v) : neg (o.set i v) + 1 = neg o := by
  induction o generalizing i with
  | nil => simp at hi
  | cons x o ih =>
    cases i with
    | zero =>
      simp only [List.getElem_cons_zero] at h
      simp only [List.set_cons_zero, neg]
      rw [if_neg (by omega), if_pos h]; omega
    | succ i =>
      simp only [List.getElem_cons_succ] at h
      simp only [List.set_cons_succ, neg]
      have := ih i (by simpa using hi) h
      omega
theorem neg_le (o : List Int) : neg o ≤ o.length := by
  induction o with
  | nil => simp [neg]
  | cons x o ih => simp only [neg, List.length_cons]; split <;> omega
/-- What is known of the lengths, on the way. -/
structure Known (n : Nat) (o : List Int) : Prop where
  len : o.length = n
  lo : ∀ x ∈ o, -1 ≤ x
  hi : ∀ x ∈ o, x + 1 ≤ (n : Int) - neg o
theorem Known.at {n : Nat} {o : List Int} (h : Known n o) {q : Int} (h0 : 0 ≤ q) (h1 : q < (n : Int)) : -1 ≤ rd o q ∧ rd o q + 1 ≤ (n : Int) - neg o := by
  have hl := h.len
  rw [rd_get h0 (by omega)]
  exact ⟨h.lo _ (List.getElem_mem _), h.hi _ (List.getElem_mem _)⟩
theorem Known.set {n : Nat} {o : List Int} (h : Known n o) {q : Int} (h0 : 0 ≤ q) (h1 : q < (n : Int)) (hq : rd o q < 0) {v : Int} (hv0 : 0 ≤ v) (hv : v ≤ (n : Int) - neg o) : Known n (o.set q.toNat v) ∧ neg (o.set q.toNat v) + 1 = neg o := by
  have hl := h.len
  rw [rd_get h0 (by omega)] at hq
  have hn := neg_set o q.toNat (by omega) hq v hv0
  refine ⟨⟨by rw [List.length_set]; exact hl, fun x hx => ?_, fun x hx => ?_⟩, hn⟩
  · rcases List.mem_or_eq_of_mem_set hx with h' | h'
    · exact h.lo x h'
    · omega
  · rcases List.mem_or_eq_of_mem_set hx with h' | h'
    · have := h.hi x h'; omega
    · omega
/-- The exits of a place are looked at. -/
def vis (c : Int) : List Int → List Int → List Int → List Int × List Int
  | [], o, qs => (o, qs)
  | q :: row, o, qs => if rd o q < 0 then vis c row (o.set q.toNat (rd o c + 1)) (qs ++ [q]) else vis c row o qs
def bfs (g : List (List Int)) : Nat → List Int → List Int → List Int
  | 0, o, _ => o
  | _ + 1, o, [] => o
  | f + 1, o, c :: qs => bfs g f (vis c (rd_L1 g c) o qs).1 (vis c (rd_L1 g c) o qs).2
/-- How far each place is from p, -1 where no way leads. -/
def far (g : List (List Int)) (p : Int) : List Int := bfs g g.length ((List.replicate g.length (-1)).set p.toNat 0) [p]
/-- The places that wait: places that are known. -/
def Wait (n : Nat) (o qs : List Int) : Prop := ∀ q ∈ qs, 0 ≤ q ∧ q < (n : Int) ∧ 0 ≤ rd o q
theorem vis_keeps {n : Nat} (hn : n ≤ 8) (c : Int) : ∀ (row o qs : List Int), (∀ q ∈ row, 0 ≤ q ∧ q < (n : Int)) → Known n o → Wait n o qs → (0 ≤ c ∧ c < (n : Int) ∧ 0 ≤ rd o c) →
    Known n (vis c row o qs).1 ∧ Wait n (vis c row o qs).1 (vis c row o qs).2 ∧ (vis c row o qs).2.length + neg (vis c row o qs).1 = qs.length + neg o := by
  intro row
  induction row with
  | nil => intro o qs _ hk hw _; exact ⟨hk, hw, rfl⟩
  | cons q row ih =>
    intro o qs hr hk hw hc
    obtain ⟨hq0, hq1⟩ := hr q List.mem_cons_self
    have hr' : ∀ x ∈ row, 0 ≤ x ∧ x < (n : Int) := fun x hx => hr x (List.mem_cons_of_mem _ hx)
    simp only [vis]
    by_cases h : rd o q < 0
    · rw [if_pos h]
      have hl := hk.len
      have hcc := hk.at hc.1 hc.2.1
      obtain ⟨hk', hn'⟩ := hk.set hq0 hq1 h (v := rd o c + 1) (by omega) (by omega)
      have hs : ∀ x, 0 ≤ x → 0 ≤ rd o x → 0 ≤ rd (o.set q.toNat (rd o c + 1)) x := fun x hx hx1 => by
        rw [rd_set hq0 (by omega) hx]; split <;> omega
      obtain ⟨h1, h2, h3⟩ := ih _ (qs ++ [q]) hr' hk' (fun x hx => by
        rcases List.mem_append.1 hx with hx | hx
        · obtain ⟨a, b, c'⟩ := hw x hx; exact ⟨a, b, hs x a c'⟩
        · rw [List.mem_singleton.1 hx]; exact ⟨hq0, hq1, by rw [rd_set hq0 (by omega) hq0, if_pos rfl]; omega⟩) ⟨hc.1, hc.2.1, hs c hc.1 hc.2.2⟩
      refine ⟨h1, h2, ?_⟩
      rw [h3, List.length_append]; simp; omega
    · rw [if_neg h]
      exact ih o qs hr' hk hw hc
/-- The program's look at the exits. -/
theorem lengths_l1 {n : Nat} (hn : n ≤ 8) (g : List (List Int)) (c : Int) (row : List Int) (hr : ∀ q ∈ row, 0 ≤ q ∧ q < (n : Int)) (hrl : row.length ≤ 5) (r : List Int) : ∀ (d i : Nat) (o qs : List Int), row.length - i = d → i ≤ row.length → Known n o → Wait n o qs → (0 ≤ c ∧ c < (n : Int) ∧ 0 ≤ rd o c) → qs.length + neg o ≤ 8 →
    Ev (fun k => impl_Graph_lengths.l0 k (vis c (row.drop i) o qs).1 (vis c (row.drop i) o qs).2 g) r → Ev (fun k => impl_Graph_lengths.l1 k o (c :: qs) row row.length i g) r := by
  intro d
  induction d with
  | zero =>
    intro i o qs hd hi hk hw hc hb h
    rw [List.drop_of_length_le (by omega)] at h
    refine Ev.step (fun k => ?_) h
    simp only [impl_Graph_lengths.l1, vis]
    rw [if_neg (by omega), if_pos (by simp; omega)]
    rfl
  | succ d ih =>
    intro i o qs hd hi hk hw hc hb h
    have hlt : i < row.length := by omega
    have hq := hr (rd row i) (by rw [rd_at hlt]; exact List.getElem_mem _)
    have hl := hk.len
    rw [drop_rd hlt] at h
    simp only [vis] at h
    by_cases hneg : rd o (rd row i) < 0
    · rw [if_pos hneg] at h
      have hcc := hk.at hc.1 hc.2.1
      obtain ⟨hk', hn'⟩ := hk.set hq.1 hq.2 hneg (v := rd o c + 1) (by omega) (by omega)
      have hs : ∀ x, 0 ≤ x → 0 ≤ rd o x → 0 ≤ rd (o.set (rd row i).toNat (rd o c + 1)) x := fun x hx hx1 => by
        rw [rd_set hq.1 (by omega) hx]; split <;> omega
      refine Ev.step (fun k => ?_) (ih (i + 1) _ (qs ++ [rd row i]) (by omega) (by omega) hk' (fun x hx => by
        rcases List.mem_append.1 hx with hx | hx
        · obtain ⟨a, b, c'⟩ := hw x hx; exact ⟨a, b, hs x a c'⟩
        · rw [List.mem_singleton.1 hx]; exact ⟨hq.1, hq.2, by rw [rd_set hq.1 (by omega) hq.1, if_pos rfl]; omega⟩) ⟨hc.1, hc.2.1, hs c hc.1 hc.2.2⟩ (by rw [List.length_append]; simp; omega) h)
      simp only [impl_Graph_lengths.l1]
      have e0 : rd (c :: qs) 0 = c := rfl
      rw [if_pos (by omega), if_pos (by omega), if_pos (by omega), if_pos hq.1, if_pos (by omega), if_pos hneg, if_pos (by rw [List.length_cons]; omega), e0, if_pos hc.1, if_pos (by omega), if_pos (by rw [List.length_cons]; omega), wrap_nat (by omega), wrap_id (by omega)]
      rfl
    · rw [if_neg hneg] at h
      refine Ev.step (fun k => ?_) (ih (i + 1) o qs (by omega) (by omega) hk hw hc hb h)
      simp only [impl_Graph_lengths.l1]
      rw [if_pos (by omega), if_pos (by omega), if_pos (by omega), if_pos hq.1, if_pos (by omega), if_neg hneg, wrap_nat (by omega)]
theorem lengths_l0 {g : List (List Int)} (hg : goodG g = true) : ∀ (f : Nat) (o qs : List Int), Known g.length o → Wait g.length o qs → qs.length + neg o ≤ f → f ≤ 8 → Ev (fun k => impl_Graph_lengths.l0 k o qs g) (bfs g f o qs) := by
  obtain ⟨⟨h1, h8⟩, hrows⟩ := good_iff hg
  intro f
  induction f with
  | zero =>
    intro o qs hk hw hb hf
    have : qs = [] := List.eq_nil_of_length_eq_zero (by omega)
    subst this
    refine Ev.const1 (fun k => ?_)
    simp only [impl_Graph_lengths.l0]
    rw [if_neg (by simp)]; rfl
  | succ f ih =>
    intro o qs hk hw hb hf
    cases qs with
    | nil =>
      refine Ev.const1 (fun k => ?_)
      simp only [impl_Graph_lengths.l0]
      rw [if_neg (by simp)]; rfl
    | cons c qs =>
      obtain ⟨hc0, hc1, hc2⟩ := hw c List.mem_cons_self
      have hrow := hrows (rd_L1 g c) (by rw [rdL_get hc0 hc1]; exact List.getElem_mem _)
      have hw' : Wait g.length o qs := fun x hx => hw x (List.mem_cons_of_mem _ hx)
      obtain ⟨k1, k2, k3⟩ := vis_keeps h8 c (rd_L1 g c) o qs hrow.2 hk hw' ⟨hc0, hc1, hc2⟩
      simp only [List.length_cons] at hb
      have := lengths_l1 h8 g c (rd_L1 g c) hrow.2 hrow.1 (bfs g (f + 1) o (c :: qs)) _ 0 o qs rfl (Nat.zero_le _) hk hw' ⟨hc0, hc1, hc2⟩ (by omega) (by
        rw [List.drop_zero]
        exact ih _ _ k1 k2 (by omega) (by omega))
      refine Ev.step (fun k => ?_) this
      simp only [impl_Graph_lengths.l0]
      have e0 : rd (c :: qs) 0 = c := rfl
      rw [if_pos (by rw [List.length_cons]; omega), if_pos (by rw [List.length_cons]; omega), e0, if_pos hc0, if_pos hc1]
      rfl
theorem neg_rep (n : Nat) : neg (List.replicate n (-1)) = n := by
  induction n with
  | zero => rfl
  | succ n ih => simp only [List.replicate_succ, neg, ih]; rw [if_pos (by omega)]; omega
theorem known0 {n : Nat} {p : Int} (h0 : 0 ≤ p) (h1 : p < (n : Int)) : Known n ((List.replicate n (-1)).set p.toNat 0) ∧ Wait n ((List.replicate n (-1)).set p.toNat 0) [p] ∧ [p].length + neg ((List.replicate n (-1)).set p.toNat 0) ≤ n := by
  have hk : Known n (List.replicate n (-1)) := ⟨by simp, fun x hx => by rw [(List.mem_replicate.1 hx).2]; omega, fun x hx => by rw [(List.mem_replicate.1 hx).2, neg_rep]; omega⟩
  have hr : rd (List.replicate n (-1)) p < 0 := by rw [rd_get h0 (by simpa using h1)]; simp
  obtain ⟨k1, k2⟩ := hk.set h0 h1 hr (v := 0) (by omega) (by rw [neg_rep]; omega)
  rw [neg_rep] at k2
  refine ⟨k1, fun x hx => ?_, by simp; omega⟩
  rw [List.mem_singleton.1 hx]
  exact ⟨h0, h1, by rw [rd_set h0 (by simpa using h1) h0, if_pos rfl]; omega⟩
theorem lengths {g : List (List Int)} {p : Int} (h : placeB g p = true) : Ev (fun k => impl_Graph_lengths.f k g p) (far g p) := by
  obtain ⟨hg, h0, h1⟩ := place_iff h
  obtain ⟨⟨hn1, hn8⟩, _⟩ := good_iff hg
  obtain ⟨k1, k2, k3⟩ := known0 h0 h1
  unfold impl_Graph_lengths.f
  have hR : slices_Repeat_int_int.f [-1] (g.length : Int) = some (List.replicate g.length (-1)) := by
    unfold slices_Repeat_int_int.f; rw [if_pos ⟨rfl, by omega, by omega⟩]; rfl
  exact Ev.bind0 hR (Ev.pos h0 (Ev.pos (by simpa using h1) (lengths_l0 hg g.length _ _ k1 k2 k3 hn8)))
theorem far_len {g : List (List Int)} {p : Int} (h : placeB g p = true) : Known g.length (far g p) := by
  obtain ⟨hg, h0, h1⟩ := place_iff h
  obtain ⟨⟨hn1, hn8⟩, hrows⟩ := good_iff hg
  obtain ⟨k1, k2, k3⟩ := known0 h0 h1
  have : ∀ (f : Nat) (o qs : List Int), Known g.length o → Wait g.length o qs → Known g.length (bfs g f o qs) := by
    intro f
    induction f with
    | zero => intro o qs hk hw; exact hk
    | succ f ih =>
      intro o qs hk hw
      cases qs with
      | nil => exact hk
      | cons c qs =>
        obtain ⟨hc0, hc1, hc2⟩ := hw c List.mem_cons_self
        have hrow := hrows (rd_L1 g c) (by rw [rdL_get hc0 hc1]; exact List.getElem_mem _)
        obtain ⟨k1, k2, k3⟩ := vis_keeps hn8 c (rd_L1 g c) o qs hrow.2 hk (fun x hx => hw x (List.mem_cons_of_mem _ hx)) ⟨hc0, hc1, hc2⟩
        exact ih _ _ k1 k2
  exact this _ _ _ k1 k2
/-! the reference's search -/
theorem far_l2 {n : Nat} (hn : n ≤ 8) (g : List (List Int)) (c : Int) (pre : List Int) (row : List Int) (hr : ∀ q ∈ row, 0 ≤ q ∧ q < (n : Int)) (hrl : row.length ≤ 5) (r : List Int) : ∀ (d i : Nat) (o qs : List Int), row.length - i = d → i ≤ row.length → Known n o → (0 ≤ c ∧ c < (n : Int) ∧ 0 ≤ rd o c) → pre.length + qs.length + neg o ≤ 8 →
    Ev (fun k => spec_grFar.l1 k (vis c (row.drop i) o qs).1 (pre ++ c :: (vis c (row.drop i) o qs).2) ((pre.length + 1 : Nat) : Int) g) r → Ev (fun k => spec_grFar.l2 k o (pre ++ c :: qs) (pre.length : Int) row row.length i g) r := by
  intro d
  induction d with
  | zero =>
    intro i o qs hd hi hk hc hb h
    rw [List.drop_of_length_le (by omega)] at h
    refine Ev.step (fun k => ?_) h
    simp only [spec_grFar.l2, vis]
    rw [if_neg (by omega), wrap_nat (by omega)]
  | succ d ih =>
    intro i o qs hd hi hk hc hb h
    have hlt : i < row.length := by omega
    have hq := hr (rd row i) (by rw [rd_at hlt]; exact List.getElem_mem _)
    have hl := hk.len
    rw [drop_rd hlt] at h
    simp only [vis] at h
    by_cases hneg : rd o (rd row i) < 0
    · rw [if_pos hneg] at h
      have hcc := hk.at hc.1 hc.2.1
      obtain ⟨hk', hn'⟩ := hk.set hq.1 hq.2 hneg (v := rd o c + 1) (by omega) (by omega)
      have hs : ∀ x, 0 ≤ x → 0 ≤ rd o x → 0 ≤ rd (o.set (rd row i).toNat (rd o c + 1)) x := fun x hx hx1 => by
        rw [rd_set hq.1 (by omega) hx]; split <;> omega
      refine Ev.step (fun k => ?_) (ih (i + 1) _ (qs ++ [rd row i]) (by omega) (by omega) hk' ⟨hc.1, hc.2.1, hs c hc.1 hc.2.2⟩ (by rw [List.length_append]; simp; omega) h)
      simp only [spec_grFar.l2]
      have e0 : rd (pre ++ c :: qs) (pre.length : Int) = c := by rw [rd_at (by simp)]; simp
      rw [if_pos (by omega), if_pos (by omega), if_pos (by omega), if_pos hq.1, if_pos (by omega), if_pos hneg, if_pos (by omega), if_pos (by simp; omega), e0, if_pos hc.1, if_pos (by omega), if_pos (by simp; omega), wrap_nat (by omega), wrap_id (by omega)]
      simp
    · rw [if_neg hneg] at h
      refine Ev.step (fun k => ?_) (ih (i + 1) o qs (by omega) (by omega) hk hc hb h)
      simp only [spec_grFar.l2]
      rw [if_pos (by omega), if_pos (by omega), if_pos (by omega), if_pos hq.1, if_pos (by omega), if_neg hneg, wrap_nat (by omega)]
theorem far_l1 {g : List (List Int)} (hg : goodG g = true) : ∀ (f : Nat) (o pre qs : List Int), Known g.length o → Wait g.length o qs → qs.length + neg o ≤ f → f ≤ 8 → pre.length + qs.length + neg o ≤ 8 → Ev (fun k => spec_grFar.l1 k o (pre ++ qs) (pre.length : Int) g) (bfs g f o qs) := by
  obtain ⟨⟨h1, h8⟩, hrows⟩ := good_iff hg
  intro f
  induction f with
  | zero =>
    intro o pre qs hk hw hb hf hp
    have : qs = [] := List.eq_nil_of_length_eq_zero (by omega)
    subst this
    refine Ev.const1 (fun k => ?_)
    simp only [spec_grFar.l1]
    rw [if_neg (by simp)]; rfl
  | succ f ih =>
    intro o pre qs hk hw hb hf hp
    cases qs with
    | nil =>
      refine Ev.const1 (fun k => ?_)
      simp only [spec_grFar.l1]
      rw [if_neg (by simp)]; rfl
    | cons c qs =>
      obtain ⟨hc0, hc1, hc2⟩ := hw c List.mem_cons_self
      have hrow := hrows (rd_L1 g c) (by rw [rdL_get hc0 hc1]; exact List.getElem_mem _)
      have hw' : Wait g.length o qs := fun x hx => hw x (List.mem_cons_of_mem _ hx)
      obtain ⟨k1, k2, k3⟩ := vis_keeps h8 c (rd_L1 g c) o qs hrow.2 hk hw' ⟨hc0, hc1, hc2⟩
      simp only [List.length_cons] at hb hp
      have := far_l2 h8 g c pre (rd_L1 g c) hrow.2 hrow.1 (bfs g (f + 1) o (c :: qs)) _ 0 o qs rfl (Nat.zero_le _) hk ⟨hc0, hc1, hc2⟩ (by omega) (by
        rw [List.drop_zero]
        have := ih (vis c (rd_L1 g c) o qs).1 (pre ++ [c]) (vis c (rd_L1 g c) o qs).2 k1 k2 (by omega) (by omega) (by simp; omega)
        simpa [bfs] using this)
      refine Ev.step (fun k => ?_) this
      simp only [spec_grFar.l1]
      have e0 : rd (pre ++ c :: qs) (pre.length : Int) = c := by rw [rd_at (by simp)]; simp
      rw [if_pos (by simp; omega), if_pos (by omega), e0, if_pos hc0, if_pos hc1]
      rfl
theorem far_l0 (g : List (List Int)) (p : Int) (n : Nat) (hn : n ≤ 8) (r : List Int) : ∀ (d i : Nat), n - i = d → i ≤ n → (0 ≤ p ∧ p < (n : Int)) → Ev (fun k => spec_grFar.l1 k ((List.replicate n (-1)).set p.toNat 0) [p] 0 g) r → Ev (fun k => spec_grFar.l0 k p (List.replicate i (-1) ++ List.replicate (n - i) 0) n i g) r := by
  intro d
  induction d with
  | zero =>
    intro i hd hi hp h
    have : i = n := by omega
    subst this
    refine Ev.step (fun k => ?_) h
    simp only [spec_grFar.l0]
    rw [if_neg (by omega), if_pos hp.1, if_pos (by simp; omega)]
    simp
  | succ d ih =>
    intro i hd hi hp h
    refine Ev.step (fun k => ?_) (ih (i + 1) (by omega) (by omega) hp h)
    simp only [spec_grFar.l0]
    rw [if_pos (by omega), if_pos (by omega), if_pos (by simp; omega), wrap_nat (by omega), Int.toNat_natCast]
    congr 1
    obtain ⟨m, hm⟩ : ∃ m, n - i = m + 1 := ⟨n - i - 1, by omega⟩
    rw [hm, show n - (i + 1) = m by omega, List.replicate_succ, List.replicate_succ', List.set_append_right _ _ (by simp)]
    simp
theorem grFar {g : List (List Int)} {p : Int} (h : placeB g p = true) : Ev (fun k => spec_grFar.f k g p) (far g p) := by
  obtain ⟨hg, h0, h1⟩ := place_iff h
  obtain ⟨⟨hn1, hn8⟩, _⟩ := good_iff hg
  obtain ⟨k1, k2, k3⟩ := known0 h0 h1
  unfold spec_grFar.f
  refine Ev.pos (by omega) (Ev.pos (by omega) (Ev.bind0 rfl ?_))
  have := far_l0 g p g.length hn8 (far g p) g.length 0 (by omega) (by omega) ⟨h0, h1⟩ (by
    have := far_l1 hg g.length _ [] [p] k1 k2 k3 hn8 (by simpa using by simp at k3; omega)
    exact this)
  simpa using this
end Go.Proofs.Ythjkhbfaenidpaa.M
namespace Go.Proofs.Ythjkhbfaenidpaa.M
open Go.RowKit Go.Proofs.Ythjkhbfaenidpaa.P Go.Proofs.Ythjkhbfaenidpaa.In Go.Proofs.YthjkhbfaenidpaaW.PrintWords Go.Proofs.YthjkhbfaenidpaaW.PrintLast
set_option linter.unusedVariables false
set_option linter.unusedSimpArgs false
def leadsFrom (g : List (List Int)) (p : Int) : Nat → Nat → Bool
  | 0, _ => true
  | d + 1, i => if rd (far g i) p < 0 then false else leadsFrom g p d (i + 1)
def leads (g : List (List Int)) (p : Int) : Bool := leadsFrom g p g.length 0
theorem leadsTo_l0 {g : List (List Int)} (hg : goodG g = true) (p : Int) (h0 : 0 ≤ p) (h1 : p < (g.length : Int)) : ∀ (d i : Nat), g.length - i = d → i ≤ g.length → Ev (fun k => impl_Graph_leadsTo.l0 k p g.length i g) (leadsFrom g p d i) := by
  have h8 := (good_iff hg).1
  intro d
  induction d with
  | zero =>
    intro i hd hi
    refine Ev.succ ?_
    simp only [impl_Graph_leadsTo.l0]
    exact Ev.neg (by omega) (Ev.now _)
  | succ d ih =>
    intro i hd hi
    have hp := place_of hg (i := i) (by omega)
    have hlen := (far_len hp).len
    refine Ev.succ ?_
    simp only [impl_Graph_leadsTo.l0, leadsFrom]
    refine Ev.pos (by omega) (Ev.bind (lengths hp) (Ev.pos h0 (Ev.pos (by omega) ?_)))
    by_cases h : rd (far g i) p < 0
    · rw [if_pos h]; exact Ev.pos h (Ev.now _)
    · rw [if_neg h]
      refine Ev.neg h ?_
      rw [wrap_nat (by omega)]
      exact ih (i + 1) (by omega) (by omega)
theorem leadsTo {g : List (List Int)} {p : Int} (h : placeB g p = true) : Ev (fun k => impl_Graph_leadsTo.f k g p) (leads g p) := by
  obtain ⟨hg, h0, h1⟩ := place_iff h
  exact leadsTo_l0 hg p h0 h1 g.length 0 (by omega) (by omega)
theorem grLeads_l0 {g : List (List Int)} (hg : goodG g = true) (p : Int) (h0 : 0 ≤ p) (h1 : p < (g.length : Int)) : ∀ (d i : Nat), g.length - i = d → i ≤ g.length → Ev (fun k => spec_grLeads.l0 k p g.length i g) (leadsFrom g p d i) := by
  have h8 := (good_iff hg).1
  intro d
  induction d with
  | zero =>
    intro i hd hi
    refine Ev.succ ?_
    simp only [spec_grLeads.l0]
    exact Ev.neg (by omega) (Ev.now _)
  | succ d ih =>
    intro i hd hi
    have hp := place_of hg (i := i) (by omega)
    have hlen := (far_len hp).len
    refine Ev.succ ?_
    simp only [spec_grLeads.l0, leadsFrom]
    refine Ev.pos (by omega) (Ev.bind (grFar hp) (Ev.pos h0 (Ev.pos (by omega) ?_)))
    by_cases h : rd (far g i) p < 0
    · rw [if_pos h]; exact Ev.pos h (Ev.now _)
    · rw [if_neg h]
      refine Ev.neg h ?_
      rw [wrap_nat (by omega)]
      exact ih (i + 1) (by omega) (by omega)
theorem grLeads {g : List (List Int)} {p : Int} (h : placeB g p = true) : Ev (fun k => spec_grLeads.f k g p) (leads g p) := by
  obtain ⟨hg, h0, h1⟩ := place_iff h
  exact grLeads_l0 hg p h0 h1 g.length 0 (by omega) (by omega)
end Go.Proofs.Ythjkhbfaenidpaa.M
namespace Go.Proofs.Ythjkhbfaenidpaa.M
open Go.RowKit Go.Proofs.Ythjkhbfaenidpaa.P Go.Proofs.Ythjkhbfaenidpaa.In Go.Proofs.YthjkhbfaenidpaaW.PrintWords Go.Proofs.YthjkhbfaenidpaaW.PrintLast
set_option linter.unusedVariables false
set_option linter.unusedSimpArgs false
/-- A sink: all places lead there. -/
def sunkB (g : List (List Int)) (sink : Int) : Bool := placeB g sink && leads g sink
theorem hasSink_ev (g : List (List Int)) (sink : Int) : Ev (fun k => impl_hasSink.f k g sink) (sunkB g sink) := by
  unfold impl_hasSink.f sunkB
  refine Ev.bind0 (has1 g sink) ?_
  by_cases hp : placeB g sink = true
  · exact Ev.pos hp (Ev.bind (leadsTo hp) ((Ev.now _).val (by rw [hp]; rfl)))
  · exact Ev.neg hp ((Ev.now _).val (by rw [Bool.eq_false_iff.mpr hp]; rfl))
theorem sunk_iff {g : List (List Int)} {sink : Int} (h : sunkB g sink = true) : placeB g sink = true ∧ leads g sink = true := by
  unfold sunkB at h; simpa using h
end Go.Proofs.Ythjkhbfaenidpaa.M
namespace Go.Proofs.Ythjkhbfaenidpaa.M
open Go.RowKit Go.Proofs.Ythjkhbfaenidpaa.P Go.Proofs.Ythjkhbfaenidpaa.In Go.Proofs.YthjkhbfaenidpaaW.PrintWords Go.Proofs.YthjkhbfaenidpaaW.PrintLast
set_option linter.unusedVariables false
set_option linter.unusedSimpArgs false
theorem pigeon : ∀ (n : Nat) (l : List Int), l.Nodup → (∀ x ∈ l, 0 ≤ x ∧ x < (n : Int)) → l.length ≤ n
  | 0, l, _, h => by
    cases l with
    | nil => simp
    | cons x l => have := h x (by simp); omega
  | n + 1, l, hn, h => by
    have h1 := pigeon n (l.erase (n : Int)) (hn.erase _) (fun x hx => by
      have hx' := hn.mem_erase_iff.1 hx
      have h2 := h x hx'.2
      have h3 := hx'.1
      omega)
    by_cases hm : (n : Int) ∈ l
    · have := List.length_erase_of_mem hm; omega
    · rw [List.erase_of_not_mem hm] at h1; omega
def it (f : Int → Int) : Nat → Int → Int
  | 0, p => p
  | i + 1, p => it f i (f p)
theorem it_succ (f : Int → Int) (i : Nat) (p : Int) : it f (i + 1) p = f (it f i p) := by
  induction i generalizing p with
  | zero => rfl
  | succ i ih => rw [it, ih]; rfl
theorem it_add (f : Int → Int) (i j : Nat) (p : Int) : it f (i + j) p = it f j (it f i p) := by
  induction i generalizing p with
  | zero => simp [it]
  | succ i ih => rw [Nat.succ_add, it, ih]; rfl
def orb (f : Int → Int) (p : Int) (m : Nat) : List Int := (List.range m).map fun j => it f j p
theorem orb_len (f : Int → Int) (p : Int) (m : Nat) : (orb f p m).length = m := by simp [orb]
theorem orb_succ (f : Int → Int) (p : Int) (m : Nat) : orb f p (m + 1) = orb f p m ++ [it f m p] := by simp [orb, List.range_succ]
theorem orb_mem {f : Int → Int} {p x : Int} {m : Nat} : x ∈ orb f p m ↔ ∃ j, j < m ∧ it f j p = x := by simp [orb]
theorem orb_get {f : Int → Int} {p : Int} {m j : Nat} (h : j < m) : (orb f p m)[j]'(by rw [orb_len]; exact h) = it f j p := by simp [orb]
theorem orb_drop (f : Int → Int) (p : Int) (s per : Nat) : (orb f p (s + per)).drop s = orb f (it f s p) per := by
  apply List.ext_getElem
  · simp [orb]
  · intro i h1 h2
    simp only [orb, List.getElem_drop, List.getElem_map, List.getElem_range]
    rw [it_add]
theorem orb_inj {f : Int → Int} {p : Int} {m i j : Nat} (hn : (orb f p m).Nodup) (hi : i < m) (hj : j < m) (h : it f i p = it f j p) : i = j := by
  have h1 : (orb f p m)[i]'(by rw [orb_len]; exact hi) = (orb f p m)[j]'(by rw [orb_len]; exact hj) := by rw [orb_get hi, orb_get hj, h]
  exact (List.getElem_inj hn).1 h1
theorem nodup_snoc {l : List Int} {x : Int} (hn : l.Nodup) (hx : x ∉ l) : (l ++ [x]).Nodup := by
  rw [List.nodup_append]
  refine ⟨hn, by simp, ?_⟩
  intro a ha b hb
  simp at hb
  subst hb
  intro e; subst e; exact hx ha
/-- A way that comes again: p leads over s places into a circle of per places. -/
structure Rho (f : Int → Int) (n : Nat) (p : Int) (s per : Nat) : Prop where
  pos : 0 < per
  le : s + per ≤ n
  nodup : (orb f p (s + per)).Nodup
  back : it f per (it f s p) = it f s p
theorem Rho.all {f : Int → Int} {n : Nat} {p : Int} {s per : Nat} (h : Rho f n p s per) (j : Nat) : it f j p ∈ orb f p (s + per) := by
  induction j with
  | zero => exact orb_mem.2 ⟨0, by have := h.pos; omega, rfl⟩
  | succ j ih =>
    obtain ⟨m, hm, he⟩ := orb_mem.1 ih
    rw [it_succ, ← he, ← it_succ f m p]
    by_cases h2 : m + 1 < s + per
    · exact orb_mem.2 ⟨m + 1, h2, rfl⟩
    · have h3 : m + 1 = s + per := by omega
      rw [h3, it_add, h.back]
      exact orb_mem.2 ⟨s, by have := h.pos; omega, rfl⟩
theorem Rho.far {f : Int → Int} {n : Nat} {p : Int} {s per : Nat} (h : Rho f n p s per) (j : Nat) : it f (s + j + per) p = it f (s + j) p := by
  rw [show s + j + per = s + per + j by omega, it_add f (s + per), it_add f s per, h.back, ← it_add]
/-- From s steps on, the way is in the circle. -/
theorem Rho.ring {f : Int → Int} {n : Nat} {p : Int} {s per : Nat} (h : Rho f n p s per) (j : Nat) : ∃ a, a < per ∧ it f (s + j) p = it f a (it f s p) := by
  induction j with
  | zero => exact ⟨0, h.pos, rfl⟩
  | succ j ih =>
    obtain ⟨a, ha, he⟩ := ih
    rw [show s + (j + 1) = (s + j) + 1 by omega, it_succ, he, ← it_succ f a]
    by_cases h2 : a + 1 < per
    · exact ⟨a + 1, h2, rfl⟩
    · rw [show a + 1 = per by omega, h.back]
      exact ⟨0, h.pos, rfl⟩
/-- The circle, from another of its places on: its places are the same, and it comes again behind as many steps, not before. -/
theorem Rho.turn {f : Int → Int} {n : Nat} {p : Int} {s per : Nat} (h : Rho f n p s per) (j : Nat) :
    (∀ x, x ∈ orb f (it f (s + j) p) per ↔ x ∈ orb f (it f s p) per) ∧ it f per (it f (s + j) p) = it f (s + j) p ∧ ∀ i, 0 < i → i < per → it f i (it f (s + j) p) ≠ it f (s + j) p := by
  have hb : it f per (it f (s + j) p) = it f (s + j) p := by rw [← it_add]; exact h.far j
  obtain ⟨a, ha, hea⟩ := h.ring j
  have hc : ∀ m x, it f m (it f s p) = x → ∃ b, b < per ∧ it f b (it f s p) = x := by
    intro m x hx
    obtain ⟨b, hb, he⟩ := h.ring m
    exact ⟨b, hb, by rw [← he, it_add]; exact hx⟩
  refine ⟨fun x => ⟨fun hx => ?_, fun hx => ?_⟩, hb, fun i h0 hi he => ?_⟩
  · obtain ⟨m, hm, he⟩ := orb_mem.1 hx
    rw [hea, ← it_add] at he
    obtain ⟨b, hb, he2⟩ := hc _ _ he
    exact orb_mem.2 ⟨b, hb, he2⟩
  · obtain ⟨m, hm, he⟩ := orb_mem.1 hx
    by_cases h2 : a ≤ m
    · exact orb_mem.2 ⟨m - a, by omega, by rw [hea, ← it_add, show a + (m - a) = m by omega, he]⟩
    · refine orb_mem.2 ⟨per - a + m, by omega, ?_⟩
      rw [hea, ← it_add, show a + (per - a + m) = per + m by omega, it_add, h.back, he]
  · rw [hea, ← it_add] at he
    by_cases h2 : a + i < per
    · have := orb_inj (i := s + (a + i)) (j := s + a) h.nodup (by omega) (by omega) (by rw [it_add, it_add f s a]; exact he)
      omega
    · have e2 : it f (a + i) (it f s p) = it f (a + i - per) (it f s p) := by
        rw [show a + i = per + (a + i - per) by omega, it_add, h.back]; congr 1; omega
      rw [e2] at he
      have := orb_inj (i := s + (a + i - per)) (j := s + a) h.nodup (by omega) (by omega) (by rw [it_add, it_add f s a]; exact he)
      omega
/-- Behind fewer than s steps the way isn't in the circle. -/
theorem Rho.out {f : Int → Int} {n : Nat} {p : Int} {s per : Nat} (h : Rho f n p s per) {i : Nat} (hi : i < s) : it f i p ∉ orb f (it f s p) per := by
  intro hm
  obtain ⟨m, hm, he⟩ := orb_mem.1 hm
  rw [← it_add] at he
  have := orb_inj (i := s + m) (j := i) h.nodup (by omega) (by omega) he
  omega
end Go.Proofs.Ythjkhbfaenidpaa.M
namespace Go.Proofs.Ythjkhbfaenidpaa.M
open Go.RowKit Go.Proofs.Ythjkhbfaenidpaa.P Go.Proofs.Ythjkhbfaenidpaa.In Go.Proofs.YthjkhbfaenidpaaW.PrintWords Go.Proofs.YthjkhbfaenidpaaW.PrintLast
set_option linter.unusedVariables false
set_option linter.unusedSimpArgs false
/-- Are these rotors of these rows. -/
def rotB : List Int → List (List Int) → Bool
  | r :: rs, row :: rows => (decide (0 ≤ r) && decide (r ≤ if (row.length : Int) - 1 < 0 then 0 else (row.length : Int) - 1)) && rotB rs rows
  | _, _ => true
def nx (g : List (List Int)) (rot : List Int) (p : Int) : Int := if ((rd_L1 g p).length : Int) = 0 then -1 else rd (rd_L1 g p) (rd rot p)
theorem rot_at : ∀ (rot : List Int) (g : List (List Int)), rotB rot g = true → ∀ (i : Nat) (h1 : i < rot.length) (h2 : i < g.length), 0 ≤ rot[i] ∧ (rot[i] < (g[i].length : Int) ∨ rot[i] = 0) := by
  intro rot
  induction rot with
  | nil => intro g h i h1; simp at h1
  | cons r rot ih =>
    intro g h i h1 h2
    cases g with
    | nil => simp at h2
    | cons row g =>
      simp only [rotB, Bool.and_eq_true, decide_eq_true_eq] at h
      cases i with
      | zero =>
        simp only [List.getElem_cons_zero]
        have := h.1; unfold mx at this; split at this <;> omega
      | succ i =>
        simp only [List.getElem_cons_succ]
        exact ih g h.2 i (by simpa using h1) (by simpa using h2)
theorem rot_rd {g : List (List Int)} {rot : List Int} (hr : rotB rot g = true) (hl : rot.length = g.length) {p : Int} (h0 : 0 ≤ p) (h1 : p < (g.length : Int)) : 0 ≤ rd rot p ∧ (((rd_L1 g p).length : Int) = 0 ∨ rd rot p < ((rd_L1 g p).length : Int)) := by
  have := rot_at rot g hr p.toNat (by omega) (by omega)
  rw [rd_get h0 (by omega), rdL_get h0 h1]
  omega
theorem next_eq {g : List (List Int)} {rot : List Int} (hr : rotB rot g = true) (hl : rot.length = g.length) {p : Int} (h0 : 0 ≤ p) (h1 : p < (g.length : Int)) : impl_Graph_next.f g rot p = some (nx g rot p) := by
  obtain ⟨a, b⟩ := rot_rd hr hl h0 h1
  unfold impl_Graph_next.f nx
  rw [if_pos h0, if_pos h1]
  by_cases h : ((rd_L1 g p).length : Int) = 0
  · rw [if_pos h, if_pos h]
  · rw [if_neg h, if_neg h, if_pos (by omega), if_pos a, if_pos (by omega)]
theorem trNext_eq {g : List (List Int)} {rot : List Int} (hr : rotB rot g = true) (hl : rot.length = g.length) {p : Int} (h0 : 0 ≤ p) (h1 : p < (g.length : Int)) : spec_trNext.f g rot p = some (nx g rot p) := by
  obtain ⟨a, b⟩ := rot_rd hr hl h0 h1
  unfold spec_trNext.f nx
  rw [if_pos h0, if_pos h1]
  by_cases h : ((rd_L1 g p).length : Int) = 0
  · rw [if_pos h, if_pos h]
  · rw [if_neg h, if_neg h, if_pos (by omega), if_pos a, if_pos (by omega)]
theorem nx_lt {g : List (List Int)} (hg : goodG g = true) {rot : List Int} (hr : rotB rot g = true) (hl : rot.length = g.length) {p : Int} (h0 : 0 ≤ p) (h1 : p < (g.length : Int)) : nx g rot p < (g.length : Int) ∧ -1 ≤ nx g rot p := by
  obtain ⟨a, b⟩ := rot_rd hr hl h0 h1
  have hrow := ((good_iff hg).2 (rd_L1 g p) (by rw [rdL_get h0 h1]; exact List.getElem_mem _)).2
  unfold nx
  split
  · omega
  · have := hrow (rd (rd_L1 g p) (rd rot p)) (by rw [rd_get a (by omega)]; exact List.getElem_mem _)
    omega

/-- Rotors of a graph. -/
structure Rot (g : List (List Int)) (rot : List Int) : Prop where
  good : goodG g = true
  rb : rotB rot g = true
  len : rot.length = g.length
theorem Rot.it_ok {g : List (List Int)} {rot : List Int} (h : Rot g rot) {p : Int} (h0 : 0 ≤ p) (h1 : p < (g.length : Int)) : ∀ i, (∀ j, j < i → 0 ≤ nx g rot (it (nx g rot) j p)) → 0 ≤ it (nx g rot) i p ∧ it (nx g rot) i p < (g.length : Int) := by
  intro i
  induction i with
  | zero => intro _; exact ⟨h0, h1⟩
  | succ i ih =>
    intro ha
    obtain ⟨a, b⟩ := ih (fun j hj => ha j (by omega))
    rw [it_succ]
    exact ⟨ha i (by omega), (nx_lt h.good h.rb h.len a b).1⟩
theorem Rot.orb_ok {g : List (List Int)} {rot : List Int} (h : Rot g rot) {p : Int} (h0 : 0 ≤ p) (h1 : p < (g.length : Int)) {i : Nat} (ha : ∀ j, j + 1 < i → 0 ≤ nx g rot (it (nx g rot) j p)) : ∀ x ∈ orb (nx g rot) p i, 0 ≤ x ∧ x < (g.length : Int) := by
  intro x hx
  obtain ⟨j, hj, rfl⟩ := orb_mem.1 hx
  exact h.it_ok h0 h1 j (fun m hm => ha m (by omega))
/-- m next places lead to the sink, not fewer. -/
structure Hit (f : Int → Int) (sink p : Int) (m : Nat) : Prop where
  at_ : it f m p = sink
  on : ∀ j, j < m → it f j p ≠ sink ∧ 0 ≤ f (it f j p)
theorem Hit.uniq {f : Int → Int} {sink p : Int} {m m' : Nat} (h : Hit f sink p m) (h' : Hit f sink p m') : m = m' := by
  rcases Nat.lt_trichotomy m m' with h2 | h2 | h2
  · exact absurd h.at_ (h'.on m h2).1
  · exact h2
  · exact absurd h'.at_ (h.on m' h2).1
theorem Hit.nodup {f : Int → Int} {sink p : Int} {m : Nat} (h : Hit f sink p m) : (orb f p (m + 1)).Nodup := by
  unfold orb
  rw [List.nodup_iff_pairwise_ne, List.pairwise_map]
  refine List.Pairwise.imp_of_mem ?_ (List.pairwise_lt_range (n := m + 1))
  intro i j hi hj hlt he
  have hj2 : j < m + 1 := List.mem_range.1 hj
  have : it f (i + (m - j)) p = sink := by
    rw [it_add, he, ← it_add, show j + (m - j) = m by omega]; exact h.at_
  exact (h.on (i + (m - j)) (by omega)).1 this
theorem Hit.lt {g : List (List Int)} {rot : List Int} (hr : Rot g rot) {sink p : Int} (h0 : 0 ≤ p) (h1 : p < (g.length : Int)) {m : Nat} (h : Hit (nx g rot) sink p m) : m < g.length := by
  have := pigeon g.length _ h.nodup (hr.orb_ok h0 h1 (fun j hj => (h.on j (by omega)).2))
  rw [orb_len] at this; omega
open Classical in
noncomputable def dst (f : Int → Int) (sink p : Int) : Int := if h : ∃ m, Hit f sink p m then ((Classical.choose h : Nat) : Int) else -1
theorem dst_hit {f : Int → Int} {sink p : Int} {m : Nat} (h : Hit f sink p m) : dst f sink p = m := by
  have he : ∃ m, Hit f sink p m := ⟨m, h⟩
  unfold dst
  rw [dif_pos he]
  have := h.uniq (Classical.choose_spec he)
  omega
theorem dst_no {f : Int → Int} {sink p : Int} (h : ¬ ∃ m, Hit f sink p m) : dst f sink p = -1 := by unfold dst; rw [dif_neg h]
noncomputable def allFrom (g : List (List Int)) (rot : List Int) (sink : Int) : Nat → Nat → Bool
  | 0, _ => true
  | d + 1, i => if dst (nx g rot) sink i < 0 then false else allFrom g rot sink d (i + 1)
noncomputable def waysFrom (g : List (List Int)) (rot : List Int) (sink : Int) : Nat → Nat → List Int → List Int
  | 0, _, acc => acc
  | d + 1, i, acc => waysFrom g rot sink d (i + 1) (acc ++ [dst (nx g rot) sink i])
noncomputable def treeB (g : List (List Int)) (rot : List Int) (sink : Int) : Bool := allFrom g rot sink g.length 0
noncomputable def wayList (g : List (List Int)) (rot : List Int) (sink : Int) : List Int := waysFrom g rot sink g.length 0 []
theorem waysFrom_len (g : List (List Int)) (rot : List Int) (sink : Int) : ∀ (d i : Nat) (acc : List Int), (waysFrom g rot sink d i acc).length = acc.length + d := by
  intro d
  induction d with
  | zero => intro i acc; rfl
  | succ d ih => intro i acc; simp only [waysFrom]; rw [ih]; simp; omega
/-- The inner way of the program, from a place on. -/
theorem treeWays_l1 {g : List (List Int)} {rot : List Int} (hr : Rot g rot) {sink p : Int} (h0 : 0 ≤ p) (h1 : p < (g.length : Int)) (acc : List Int) (hacc : acc.length ≤ 100) (x : Int) : ∀ (d i : Nat), g.length + 1 - i = d → i ≤ g.length + 1 → (∀ j, j < i → it (nx g rot) j p ≠ sink ∧ 0 ≤ nx g rot (it (nx g rot) j p)) →
    (dst (nx g rot) sink p < 0 → Ev (fun k => impl_Graph_treeWays.l1 k sink rot acc i (it (nx g rot) i p) g.length x g) ([], false)) ∧
    (¬ dst (nx g rot) sink p < 0 → ∀ r, Ev (fun k => impl_Graph_treeWays.l0 k sink rot (acc ++ [dst (nx g rot) sink p]) g.length (wrap64 (x + 1)) g) r → Ev (fun k => impl_Graph_treeWays.l1 k sink rot acc i (it (nx g rot) i p) g.length x g) r) := by
  have h8 := (good_iff hr.good).1.2
  intro d
  induction d with
  | zero =>
    intro i hd hi ha
    have hp := hr.it_ok h0 h1 i (fun j hj => (ha j hj).2)
    have hno : ¬ ∃ m, Hit (nx g rot) sink p m := by
      rintro ⟨m, hm⟩
      have hlt := hm.lt hr h0 h1
      exact (ha m (by omega)).1 hm.at_
    have hns : it (nx g rot) i p ≠ sink := fun e => hno ⟨i, e, ha⟩
    refine ⟨fun _ => ?_, fun h => absurd (dst_no hno) (by omega)⟩
    refine Ev.succ ?_
    simp only [impl_Graph_treeWays.l1]
    refine Ev.neg hns (Ev.bind0 (next_eq hr.rb hr.len hp.1 hp.2) ?_)
    by_cases hneg : nx g rot (it (nx g rot) i p) < 0
    · exact Ev.pos hneg (Ev.now _)
    · exact Ev.neg hneg (Ev.pos (by omega) (Ev.now _))
  | succ d ih =>
    intro i hd hi ha
    have hp := hr.it_ok h0 h1 i (fun j hj => (ha j hj).2)
    by_cases hs : it (nx g rot) i p = sink
    · have hh : dst (nx g rot) sink p = i := dst_hit ⟨hs, ha⟩
      refine ⟨fun h => by omega, fun _ r hrr => ?_⟩
      rw [hh] at hrr
      refine Ev.succ ?_
      simp only [impl_Graph_treeWays.l1]
      exact Ev.pos hs (Ev.pos (by omega) hrr)
    · by_cases hneg : nx g rot (it (nx g rot) i p) < 0
      · have hno : ¬ ∃ m, Hit (nx g rot) sink p m := by
          rintro ⟨m, hm⟩
          rcases Nat.lt_trichotomy m i with h2 | h2 | h2
          · exact (ha m h2).1 hm.at_
          · subst h2; exact hs hm.at_
          · have := (hm.on i h2).2; omega
        refine ⟨fun _ => ?_, fun h => absurd (dst_no hno) (by omega)⟩
        refine Ev.succ ?_
        simp only [impl_Graph_treeWays.l1]
        exact Ev.neg hs (Ev.bind0 (next_eq hr.rb hr.len hp.1 hp.2) (Ev.pos hneg (Ev.now _)))
      · have hrec := ih (i + 1) (by omega) (by omega) (fun j hj => by
          by_cases hj2 : j = i
          · subst hj2; exact ⟨hs, by omega⟩
          · exact ha j (by omega))
        have hstep : ∀ r, Ev (fun k => impl_Graph_treeWays.l1 k sink rot acc (i + 1 : Nat) (it (nx g rot) (i + 1) p) g.length x g) r → Ev (fun k => impl_Graph_treeWays.l1 k sink rot acc i (it (nx g rot) i p) g.length x g) r := by
          intro r hrr
          rw [it_succ] at hrr
          refine Ev.succ ?_
          simp only [impl_Graph_treeWays.l1]
          refine Ev.neg hs (Ev.bind0 (next_eq hr.rb hr.len hp.1 hp.2) (Ev.neg hneg (Ev.neg (by omega) ?_)))
          rw [wrap_nat (by omega)]; exact hrr
        exact ⟨fun h => hstep _ (hrec.1 h), fun h r hrr => hstep _ (hrec.2 h r hrr)⟩
theorem treeWays_l0 {g : List (List Int)} {rot : List Int} (hr : Rot g rot) (sink : Int) : ∀ (d i : Nat) (acc : List Int), g.length - i = d → i ≤ g.length → acc.length = i → Ev (fun k => impl_Graph_treeWays.l0 k sink rot acc g.length i g) (cond (allFrom g rot sink d i) (waysFrom g rot sink d i acc, true) ([], false)) := by
  have h8 := (good_iff hr.good).1.2
  intro d
  induction d with
  | zero =>
    intro i acc hd hi hac
    refine Ev.succ ?_
    simp only [impl_Graph_treeWays.l0]
    exact Ev.neg (by omega) (Ev.now _)
  | succ d ih =>
    intro i acc hd hi hac
    have hl := treeWays_l1 hr (sink := sink) (p := (i : Int)) (by omega) (by omega) acc (by omega) (i : Int) (g.length + 1) 0 (by omega) (by omega) (fun j hj => by omega)
    refine Ev.succ ?_
    simp only [impl_Graph_treeWays.l0, allFrom, waysFrom]
    refine Ev.pos (by omega) ?_
    by_cases h : dst (nx g rot) sink i < 0
    · rw [if_pos h]; exact hl.1 h
    · rw [if_neg h]
      refine hl.2 h _ ?_
      rw [wrap_nat (by omega)]
      exact ih (i + 1) _ (by omega) (by omega) (by simp; omega)
theorem treeWays_ev {g : List (List Int)} {rot : List Int} (hr : Rot g rot) (sink : Int) : Ev (fun k => impl_Graph_treeWays.f k g sink rot) (cond (treeB g rot sink) (wayList g rot sink, true) ([], false)) :=
  treeWays_l0 hr sink g.length 0 [] (by omega) (by omega) rfl
theorem isTree_ev {g : List (List Int)} {rot : List Int} (hr : Rot g rot) (sink : Int) : Ev (fun k => impl_Graph_isTree.f k g sink rot) (treeB g rot sink) := by
  unfold impl_Graph_isTree.f
  refine Ev.bind (treeWays_ev hr sink) ((Ev.now _).val ?_)
  cases h : treeB g rot sink <;> simp
end Go.Proofs.Ythjkhbfaenidpaa.M
namespace Go.Proofs.Ythjkhbfaenidpaa.M
open Go.RowKit Go.Proofs.Ythjkhbfaenidpaa.P Go.Proofs.Ythjkhbfaenidpaa.In Go.Proofs.YthjkhbfaenidpaaW.PrintWords Go.Proofs.YthjkhbfaenidpaaW.PrintLast
set_option linter.unusedVariables false
set_option linter.unusedSimpArgs false
def lexL (g : List (List Int)) (s : Int) : Nat → Nat → List Int → List (List Int)
  | 0, _, r => [r]
  | d + 1, p, r => if (p : Int) = s then lexL g s d (p + 1) r else (List.range (max 1 (rd_L1 g (p : Int)).length)).flatMap fun (k : Nat) => lexL g s d (p + 1) (r.set p (k : Int))
/-- From q on, next places of places that are at most p lead to s or beyond p. -/
structure Goes (f : Int → Int) (s p q : Int) (m : Nat) : Prop where
  at_ : it f m q = s ∨ p < it f m q
  on : ∀ j, j < m → it f j q ≠ s ∧ it f j q ≤ p ∧ 0 ≤ f (it f j q)
open Classical in
noncomputable def loopsB (g : List (List Int)) (r : List Int) (s p : Int) : Bool := !decide (∃ m, Goes (nx g r) s p p m)
noncomputable def trL (g : List (List Int)) (s : Int) : Nat → Nat → List Int → List (List Int)
  | 0, _, r => [r]
  | d + 1, p, r => if (p : Int) = s then trL g s d (p + 1) r else (List.range (rd_L1 g (p : Int)).length).flatMap fun (k : Nat) => if loopsB g (r.set p (k : Int)) s p then [] else trL g s d (p + 1) (r.set p (k : Int))
theorem nx_congr {g : List (List Int)} {r r2 : List Int} {q : Int} (h : rd r q = rd r2 q) : nx g r q = nx g r2 q := by unfold nx; rw [h]
theorem it_congr {f f2 : Int → Int} {P q : Int} : ∀ (m : Nat), (∀ j, j < m → f (it f j q) = f2 (it f j q)) → it f m q = it f2 m q := by
  intro m
  induction m with
  | zero => intro _; rfl
  | succ m ih =>
    intro h
    rw [it_succ, it_succ, ← ih (fun j hj => h j (by omega)), h m (by omega)]
theorem Goes.congr {f f2 : Int → Int} {s p q : Int} {m : Nat} (h : Goes f s p q m) (he : ∀ x, 0 ≤ x → x ≤ p → f x = f2 x) (h0 : ∀ j, j < m → 0 ≤ it f j q) : Goes f2 s p q m := by
  have e : ∀ j, j ≤ m → it f j q = it f2 j q := fun j hj => it_congr (P := p) j (fun i hi => he _ (h0 i (by omega)) (h.on i (by omega)).2.1)
  refine ⟨by rw [← e m (Nat.le_refl m)]; exact h.at_, fun j hj => ?_⟩
  rw [← e j (by omega), ← he _ (h0 j hj) (h.on j hj).2.1]
  exact h.on j hj
theorem Rot.pos {g : List (List Int)} {rot : List Int} (h : Rot g rot) {q : Int} (h0 : 0 ≤ q) (h1 : q < (g.length : Int)) {m : Nat} (hm : ∀ j, j < m → 0 ≤ nx g rot (it (nx g rot) j q)) : ∀ j, j ≤ m → 0 ≤ it (nx g rot) j q ∧ it (nx g rot) j q < (g.length : Int) := fun j hj => h.it_ok h0 h1 j (fun i hi => hm i (by omega))
theorem rotB_of : ∀ (rot : List Int) (g : List (List Int)), (∀ (i : Nat) (h1 : i < rot.length) (h2 : i < g.length), 0 ≤ rot[i] ∧ (rot[i] < (g[i].length : Int) ∨ rot[i] = 0)) → rotB rot g = true := by
  intro rot
  induction rot with
  | nil => intro g _; unfold rotB; rfl
  | cons r rot ih =>
    intro g h
    cases g with
    | nil => unfold rotB; rfl
    | cons row g =>
      simp only [rotB, Bool.and_eq_true, decide_eq_true_eq]
      refine ⟨?_, ih g (fun i h1 h2 => ?_)⟩
      · have := h 0 (by simp) (by simp)
        simp only [List.getElem_cons_zero] at this
        split <;> omega
      · have := h (i + 1) (by simpa using h1) (by simpa using h2)
        simpa using this
theorem Rot.set {g : List (List Int)} {r : List Int} (h : Rot g r) {p : Nat} (hp : p < g.length) {k : Int} (k0 : 0 ≤ k) (k1 : k < ((rd_L1 g (p : Int)).length : Int) ∨ k = 0) : Rot g (r.set p k) := by
  have hl := h.len
  refine ⟨h.good, ?_, by simp [hl]⟩
  refine rotB_of _ _ (fun i h1 h2 => ?_)
  rw [List.getElem_set]
  split
  · rename_i e
    subst e
    rw [rdL_at hp] at k1
    exact ⟨k0, k1⟩
  · exact rot_at r g h.rb i (by simpa using h1) h2
theorem rd_set_nat {o : List Int} {p : Nat} (hp : p < o.length) {x v : Int} (hx : 0 ≤ x) : rd (o.set p v) x = if x = (p : Int) then v else rd o x := by
  have := rd_set (o := o) (q := (p : Int)) (x := x) (v := v) (by omega) (by omega) hx
  simpa using this
theorem mem_lexL {g : List (List Int)} (s : Int) : ∀ (d p : Nat) (r r2 : List Int), p + d = g.length → Rot g r → r2 ∈ lexL g s d p r → Rot g r2 ∧ ∀ i : Int, 0 ≤ i → i < (p : Int) → rd r2 i = rd r i := by
  intro d
  induction d with
  | zero =>
    intro p r r2 hp hr hm
    simp only [lexL, List.mem_singleton] at hm
    subst hm
    exact ⟨hr, fun _ _ _ => rfl⟩
  | succ d ih =>
    intro p r r2 hp hr hm
    simp only [lexL] at hm
    by_cases hs : (p : Int) = s
    · rw [if_pos hs] at hm
      obtain ⟨h1, h2⟩ := ih (p + 1) r r2 (by omega) hr hm
      exact ⟨h1, fun i h0 hi => h2 i h0 (by omega)⟩
    · rw [if_neg hs, List.mem_flatMap] at hm
      obtain ⟨k, hk, hm⟩ := hm
      rw [List.mem_range] at hk
      have hrk := hr.set (p := p) (by omega) (k := (k : Int)) (by omega) (by omega)
      obtain ⟨h1, h2⟩ := ih (p + 1) _ r2 (by omega) hrk hm
      refine ⟨h1, fun i h0 hi => ?_⟩
      rw [h2 i h0 (by omega), rd_set_nat (by have := hr.len; omega) h0, if_neg (by omega)]
theorem allFrom_iff {g : List (List Int)} {rot : List Int} {s : Int} : ∀ (d i : Nat), allFrom g rot s d i = true ↔ ∀ j, i ≤ j → j < i + d → ∃ m, Hit (nx g rot) s (j : Int) m := by
  intro d
  induction d with
  | zero => intro i; simp only [allFrom, true_iff]; intro j h1 h2; omega
  | succ d ih =>
    intro i
    simp only [allFrom]
    by_cases h : ∃ m, Hit (nx g rot) s (i : Int) m
    · obtain ⟨m, hm⟩ := h
      rw [if_neg (by rw [dst_hit hm]; omega), ih]
      constructor
      · intro h j h1 h2
        by_cases e : j = i
        · subst e; exact ⟨m, hm⟩
        · exact h j (by omega) (by omega)
      · intro h j h1 h2; exact h j (by omega) (by omega)
    · rw [if_pos (by rw [dst_no h]; omega)]
      constructor
      · intro h; cases h
      · intro h2; exact absurd (h2 i (Nat.le_refl i) (by omega)) h
theorem treeB_iff {g : List (List Int)} {rot : List Int} {s : Int} : treeB g rot s = true ↔ ∀ j, j < g.length → ∃ m, Hit (nx g rot) s (j : Int) m := by
  unfold treeB
  rw [allFrom_iff]
  exact ⟨fun h j hj => h j (by omega) (by omega), fun h j _ hj => h j (by omega)⟩
/-- A way to s goes to s or beyond p. -/
theorem goes_of_hit {f : Int → Int} {s p q : Int} : ∀ (m : Nat), Hit f s q m → ∃ m2, m2 ≤ m ∧ Goes f s p q m2 := by
  intro m h
  have key : ∀ d i, m - i = d → i ≤ m → (∀ j, j < i → it f j q ≠ s ∧ it f j q ≤ p ∧ 0 ≤ f (it f j q)) → ∃ m2, m2 ≤ m ∧ Goes f s p q m2 := by
    intro d
    induction d with
    | zero =>
      intro i hd hi ha
      obtain rfl : i = m := by omega
      exact ⟨i, Nat.le_refl i, .inl h.at_, ha⟩
    | succ d ih =>
      intro i hd hi ha
      by_cases hp : p < it f i q
      · exact ⟨i, hi, .inr hp, ha⟩
      · refine ih (i + 1) (by omega) (by omega) (fun j hj => ?_)
        rcases Nat.lt_or_ge j i with h2 | h2
        · exact ha j h2
        · obtain rfl : j = i := by omega
          exact ⟨(h.on j (by omega)).1, by omega, (h.on j (by omega)).2⟩
  exact key m 0 (by omega) (by omega) (fun j hj => by omega)
theorem Goes.append {f : Int → Int} {s p q : Int} {m m2 : Nat} (h : ∀ j, j < m → it f j q ≠ s ∧ it f j q ≤ p ∧ 0 ≤ f (it f j q)) (h2 : Goes f s p (it f m q) m2) : Goes f s p q (m + m2) := by
  refine ⟨by rw [it_add]; exact h2.at_, fun j hj => ?_⟩
  rcases Nat.lt_or_ge j m with h3 | h3
  · exact h j h3
  · have := h2.on (j - m) (by omega)
    rw [← it_add, show m + (j - m) = j by omega] at this
    exact this
def Inv (g : List (List Int)) (s : Int) (r : List Int) (p : Nat) : Prop := ∀ q : Int, 0 ≤ q → q < (p : Int) → q ≠ s → ∃ m, Goes (nx g r) s ((p : Int) - 1) q m
theorem filter_flat {α β : Type} (T : β → Bool) (F : α → List β) (xs : List α) : (xs.flatMap F).filter T = xs.flatMap fun x => (F x).filter T := by
  induction xs with
  | nil => rfl
  | cons x xs ih => simp only [List.flatMap_cons, List.filter_append, ih]
theorem flat_congr {α β : Type} {F G : α → List β} : ∀ (xs : List α), (∀ x, x ∈ xs → F x = G x) → xs.flatMap F = xs.flatMap G := by
  intro xs
  induction xs with
  | nil => intro _; rfl
  | cons x xs ih => intro h; simp only [List.flatMap_cons]; rw [h x (by simp), ih (fun y hy => h y (by simp [hy]))]
/-- **The trees among the rotors in order are those that are found place by place.** -/
theorem filter_lexL {g : List (List Int)} {s : Int} (hs0 : 0 ≤ s) (hs1 : s < (g.length : Int)) : ∀ (d p : Nat) (r : List Int), p + d = g.length → Rot g r → Inv g s r p → (lexL g s d p r).filter (fun r => treeB g r s) = trL g s d p r := by
  intro d
  induction d with
  | zero =>
    intro p r hp hr hi
    simp only [lexL, trL]
    rw [List.filter_cons_of_pos]
    · rfl
    · rw [treeB_iff]
      intro j hj
      by_cases hjs : (j : Int) = s
      · exact ⟨0, hjs, fun i hi => by omega⟩
      · obtain ⟨m, hm⟩ := hi (j : Int) (by omega) (by omega) hjs
        have hb := hr.pos (q := (j : Int)) (by omega) (by omega) (fun i hi => (hm.on i hi).2.2) m (Nat.le_refl m)
        refine ⟨m, ?_, fun i hi => ⟨(hm.on i hi).1, (hm.on i hi).2.2⟩⟩
        rcases hm.at_ with e | e
        · exact e
        · omega
  | succ d ih =>
    intro p r hp hr hi
    simp only [lexL, trL]
    by_cases hs : (p : Int) = s
    · rw [if_pos hs, if_pos hs]
      refine ih (p + 1) r (by omega) hr (fun q q0 q1 qs => ?_)
      obtain ⟨m, hm⟩ := hi q q0 (by omega) qs
      refine ⟨m, ?_, fun j hj => ⟨(hm.on j hj).1, by have := (hm.on j hj).2.1; omega, (hm.on j hj).2.2⟩⟩
      rcases hm.at_ with e | e
      · exact .inl e
      · by_cases e2 : it (nx g r) m q = s
        · exact .inl e2
        · exact .inr (by omega)
    · rw [if_neg hs, if_neg hs, filter_flat]
      have hl := hr.len
      by_cases hlen : (rd_L1 g (p : Int)).length = 0
      · rw [hlen]
        show (List.range 1).flatMap _ = []
        rw [show List.range 1 = [0] from rfl, List.flatMap_cons, List.flatMap_nil, List.append_nil, List.filter_eq_nil_iff]
        intro r2 hm hT
        obtain ⟨m, hh⟩ := treeB_iff.1 hT p (by omega)
        cases m with
        | zero => exact hs hh.at_
        | succ m =>
          have := (hh.on 0 (by omega)).2
          simp only [it] at this
          unfold nx at this
          rw [if_pos (by omega)] at this
          omega
      · rw [show max 1 (rd_L1 g (p : Int)).length = (rd_L1 g (p : Int)).length by omega]
        refine flat_congr _ (fun k hk => ?_)
        rw [List.mem_range] at hk
        have hrk := hr.set (p := p) (by omega) (k := (k : Int)) (by omega) (.inl (by omega))
        by_cases hloop : loopsB g (r.set p (k : Int)) s p = true
        · rw [if_pos hloop, List.filter_eq_nil_iff]
          intro r2 hm hT
          obtain ⟨hr2, hag⟩ := mem_lexL s d (p + 1) _ r2 (by omega) hrk hm
          obtain ⟨m, hh⟩ := treeB_iff.1 hT p (by omega)
          obtain ⟨m2, hm2, hgo⟩ := goes_of_hit (p := (p : Int)) m hh
          have hpos := hr2.pos (q := (p : Int)) (by omega) (by omega) (fun i hi => (hh.on i hi).2)
          have := hgo.congr (f2 := nx g (r.set p (k : Int))) (fun x x0 x1 => nx_congr (hag x x0 (by omega))) (fun j hj => (hpos j (by omega)).1)
          unfold loopsB at hloop
          simp only [Bool.not_eq_true', decide_eq_false_iff_not] at hloop
          exact hloop ⟨m2, this⟩
        · rw [if_neg hloop]
          have hgo : ∃ m, Goes (nx g (r.set p (k : Int))) s p p m := by
            unfold loopsB at hloop
            simpa using hloop
          refine ih (p + 1) _ (by omega) hrk (fun q q0 q1 qs => ?_)
          rw [show ((p + 1 : Nat) : Int) - 1 = (p : Int) by omega]
          by_cases hq : q = (p : Int)
          · rw [hq]; exact hgo
          · obtain ⟨m, hm⟩ := hi q q0 (by omega) qs
            have hpos := hr.pos (q := q) q0 (by omega) (fun i hi => (hm.on i hi).2.2)
            have hm2 := hm.congr (f2 := nx g (r.set p (k : Int))) (fun x x0 x1 => nx_congr (by rw [rd_set_nat (by omega) x0, if_neg (by omega)])) (fun j hj => (hpos j (by omega)).1)
            have hon : ∀ j, j < m → it (nx g (r.set p (k : Int))) j q ≠ s ∧ it (nx g (r.set p (k : Int))) j q ≤ p ∧ 0 ≤ nx g (r.set p (k : Int)) (it (nx g (r.set p (k : Int))) j q) := fun j hj => ⟨(hm2.on j hj).1, by have := (hm2.on j hj).2.1; omega, (hm2.on j hj).2.2⟩
            rcases hm2.at_ with e | e
            · exact ⟨m, .inl e, hon⟩
            · by_cases e2 : it (nx g (r.set p (k : Int))) m q = (p : Int)
              · obtain ⟨m3, hg3⟩ := hgo
                exact ⟨m + m3, Goes.append hon (by rw [e2]; exact hg3)⟩
              · exact ⟨m, .inr (by omega), hon⟩
theorem inv0 (g : List (List Int)) (s : Int) (r : List Int) : Inv g s r 0 := fun q h0 h1 => by omega
theorem rot0 {g : List (List Int)} (hg : goodG g = true) : Rot g (List.replicate g.length 0) := by
  refine ⟨hg, rotB_of _ _ (fun i h1 h2 => by simp), by simp⟩
end Go.Proofs.Ythjkhbfaenidpaa.M
namespace Go.Proofs.Ythjkhbfaenidpaa.M
open Go.RowKit Go.Proofs.Ythjkhbfaenidpaa.P Go.Proofs.Ythjkhbfaenidpaa.In Go.Proofs.YthjkhbfaenidpaaW.PrintWords Go.Proofs.YthjkhbfaenidpaaW.PrintLast
set_option linter.unusedVariables false
set_option linter.unusedSimpArgs false
def Zt (r : List Int) (p : Nat) : Prop := ∀ i : Nat, p ≤ i → i < r.length → rd r (i : Int) = 0
theorem Zt.set0 {r : List Int} {p : Nat} (h : Zt r p) (hp : p < r.length) : r.set p 0 = r := by
  have := h p (Nat.le_refl p) hp
  rw [rd_at hp] at this
  apply List.ext_getElem (by simp)
  intro i h1 h2
  rw [List.getElem_set]
  split
  · rename_i e; subst e; exact this.symm
  · rfl
theorem Zt.up {r : List Int} {p : Nat} (h : Zt r p) (hp : p < r.length) (k : Int) : Zt (r.set p k) (p + 1) := by
  intro i h1 h2
  rw [rd_set_nat hp (by omega), if_neg (by omega)]
  exact h i (by omega) (by simpa using h2)
theorem Zt.next {r : List Int} {p : Nat} (h : Zt r p) : Zt r (p + 1) := fun i h1 h2 => h i (by omega) h2
/-- What the search does behind all rotors that begin so. -/
def Next (g : List (List Int)) (s most : Int) (p : Nat) (r : List Int) (out res : List (List Int)) : Prop :=
  match odoN g s p r with
  | none => res = out
  | some r2 => Ev (fun k => rots g s most k out r2) res
theorem rots_lex {g : List (List Int)} {s : Int} (most : Nat) (hmost : most ≤ 1000) : ∀ (d p : Nat) (r : List Int) (out res : List (List Int)), p + d = g.length → Rot g r → Zt r p → out.length < most →
    (most ≤ (out ++ (lexL g s d p r).filter (fun r => treeB g r s)).length → res = (out ++ (lexL g s d p r).filter (fun r => treeB g r s)).take most) →
    ((out ++ (lexL g s d p r).filter (fun r => treeB g r s)).length < most → Next g s most p r (out ++ (lexL g s d p r).filter (fun r => treeB g r s)) res) →
    Ev (fun k => rots g s most k out r) res := by
  intro d
  induction d with
  | zero =>
    intro p r out res hp hr hz ho hstop hgo
    obtain rfl : p = g.length := by omega
    refine Ev.succ ?_
    simp only [rots]
    refine Ev.pos (by omega) (Ev.bind (isTree_ev hr s) ?_)
    simp only [lexL] at hstop hgo
    have hf : out ++ [r].filter (fun r => treeB g r s) = if treeB g r s then out ++ [r] else out := by
      by_cases h : treeB g r s = true
      · rw [List.filter_cons_of_pos (by exact h), if_pos h]; rfl
      · rw [List.filter_cons_of_neg (by exact h), if_neg h]; simp
    rw [hf] at hstop hgo
    by_cases hlt : (if treeB g r s then out ++ [r] else out).length < most
    · refine Ev.pos (by omega) ?_
      have := hgo hlt
      unfold Next at this
      cases ho2 : odoN g s g.length r with
      | none => rw [ho2] at this; exact (Ev.now _).val this.symm
      | some r2 => rw [ho2] at this; exact this
    · refine Ev.neg (by omega) ((Ev.now _).val ?_)
      rw [hstop (by omega), List.take_of_length_le]
      split
      · simp; omega
      · omega
  | succ d ih =>
    intro p r out res hp hr hz ho hstop hgo
    have hl := hr.len
    simp only [lexL] at hstop hgo
    by_cases hs : (p : Int) = s
    · rw [if_pos hs] at hstop hgo
      refine ih (p + 1) r out res (by omega) hr hz.next ho hstop (fun h => ?_)
      have := hgo h
      unfold Next at this ⊢
      rw [odoN, if_pos (.inl hs), hz.set0 (by omega)]
      exact this
    · rw [if_neg hs] at hstop hgo
      obtain ⟨m, hm⟩ : ∃ m, m = max 1 (rd_L1 g (p : Int)).length := ⟨_, rfl⟩
      rw [← hm] at hstop hgo
      have h5 := ((good_iff hr.good).2 (rd_L1 g (p : Int)) (by rw [rdL_at (by omega)]; exact List.getElem_mem _)).1
      -- from the j-th rotor on
      have key : ∀ e j (out : List (List Int)), m - j = e → j < m → out.length < most →
          (most ≤ (out ++ (((List.range m).drop j).flatMap fun (k : Nat) => lexL g s d (p + 1) (r.set p (k : Int))).filter (fun r => treeB g r s)).length → res = (out ++ (((List.range m).drop j).flatMap fun (k : Nat) => lexL g s d (p + 1) (r.set p (k : Int))).filter (fun r => treeB g r s)).take most) →
          ((out ++ (((List.range m).drop j).flatMap fun (k : Nat) => lexL g s d (p + 1) (r.set p (k : Int))).filter (fun r => treeB g r s)).length < most → Next g s most p r (out ++ (((List.range m).drop j).flatMap fun (k : Nat) => lexL g s d (p + 1) (r.set p (k : Int))).filter (fun r => treeB g r s)) res) →
          Ev (fun k => rots g s most k out (r.set p (j : Int))) res := by
        intro e
        induction e with
        | zero => intro j out he hj; omega
        | succ e ihe =>
          intro j out he hj ho hstop hgo
          have hd : (List.range m).drop j = j :: (List.range m).drop (j + 1) := by
            rw [List.drop_eq_getElem_cons (by simpa using hj)]; simp
          rw [hd, List.flatMap_cons, List.filter_append, ← List.append_assoc] at hstop hgo
          have hrj : Rot g (r.set p (j : Int)) := hr.set (by omega) (by omega) (by omega)
          refine ih (p + 1) (r.set p (j : Int)) out res (by omega) hrj (hz.up (by omega) _) ho (fun h => ?_) (fun h => ?_)
          · rw [hstop (by rw [List.length_append]; omega), List.take_append_of_le_length h]
          · unfold Next
            rw [odoN, rd_set_nat (by omega) (by omega), if_pos rfl, wrap_id (x := ((rd_L1 g (p : Int)).length : Int) - 1) (by omega), wrap_nat (by omega)]
            by_cases hlast : j + 1 < m
            · rw [if_neg (by omega)]
              simp only [List.set_set]
              exact ihe (j + 1) _ (by omega) hlast h hstop hgo
            · rw [if_pos (by omega)]
              have hnil : (List.range m).drop (j + 1) = [] := List.drop_eq_nil_of_le (by simp; omega)
              rw [hnil] at hgo
              simp only [List.flatMap_nil, List.filter_nil, List.append_nil] at hgo
              have := hgo h
              unfold Next at this
              rw [List.set_set, hz.set0 (by omega)]
              exact this
      have := key m 0 out (by omega) (by omega) ho (by simpa using hstop) (by simpa using hgo)
      have e0 : r.set p ((0 : Nat) : Int) = r := hz.set0 (by omega)
      rw [e0] at this
      exact this
theorem zt0 (n : Nat) : Zt (List.replicate n 0) 0 := by
  intro i _ h
  rw [rd_at h]
  simp
/-- **The program's search: the trees among all rotors, at most so many.** -/
theorem rots_ev {g : List (List Int)} (hg : goodG g = true) {s : Int} (hs0 : 0 ≤ s) (hs1 : s < (g.length : Int)) (most : Nat) (hm : 0 < most) (hm2 : most ≤ 1000) : Ev (fun k => rots g s most k [] (List.replicate g.length 0)) ((trL g s g.length 0 (List.replicate g.length 0)).take most) := by
  have hf := filter_lexL hs0 hs1 g.length 0 (List.replicate g.length 0) (by omega) (rot0 hg) (inv0 g s _)
  refine rots_lex most hm2 g.length 0 _ [] _ (by omega) (rot0 hg) (zt0 _) hm (fun h => ?_) (fun h => ?_)
  · rw [hf, List.nil_append]
  · rw [hf, List.nil_append] at h ⊢
    show _ = _
    exact List.take_of_length_le (by omega)
theorem allTrees_ev {g : List (List Int)} (hg : goodG g = true) {s : Int} (hs0 : 0 ≤ s) (hs1 : s < (g.length : Int)) (most : Nat) (hm : 0 < most) (hm2 : most ≤ 1000) : Ev (fun k => impl_allTrees.f k g s most) ((trL g s g.length 0 (List.replicate g.length 0)).take most) := by
  have h8 := (good_iff hg).1
  unfold impl_allTrees.f
  exact Ev.pos (by omega) (Ev.pos (by omega) (rots_ev hg hs0 hs1 most hm hm2))
end Go.Proofs.Ythjkhbfaenidpaa.M
namespace Go.Proofs.Ythjkhbfaenidpaa.M
open Go.RowKit Go.Proofs.Ythjkhbfaenidpaa.P Go.Proofs.Ythjkhbfaenidpaa.In Go.Proofs.YthjkhbfaenidpaaW.PrintWords Go.Proofs.YthjkhbfaenidpaaW.PrintLast
set_option linter.unusedVariables false
set_option linter.unusedSimpArgs false
theorem Goes.nodup {f : Int → Int} {s p q : Int} {m : Nat} (h : Goes f s p q m) : (orb f q (m + 1)).Nodup := by
  unfold orb
  rw [List.nodup_iff_pairwise_ne, List.pairwise_map]
  refine List.Pairwise.imp_of_mem ?_ (List.pairwise_lt_range (n := m + 1))
  intro i j hi hj hlt he
  have hj2 : j < m + 1 := List.mem_range.1 hj
  have e : it f (i + (m - j)) q = it f m q := by
    rw [it_add, he, ← it_add, show j + (m - j) = m by omega]
  have := h.on (i + (m - j)) (by omega)
  rw [e] at this
  rcases h.at_ with h2 | h2
  · exact this.1 h2
  · omega
theorem Goes.lt {g : List (List Int)} {rot : List Int} (hr : Rot g rot) {s p q : Int} (h0 : 0 ≤ q) (h1 : q < (g.length : Int)) {m : Nat} (h : Goes (nx g rot) s p q m) : m < g.length := by
  have := pigeon g.length _ h.nodup (hr.orb_ok h0 h1 (fun j hj => (h.on j (by omega)).2.2))
  rw [orb_len] at this; omega
theorem loopsL_ev {g : List (List Int)} {rot : List Int} (hr : Rot g rot) {s p : Int} (h0 : 0 ≤ p) (h1 : p < (g.length : Int)) : ∀ (d i : Nat), g.length + 1 - i = d → i ≤ g.length + 1 → (∀ j, j < i → it (nx g rot) j p ≠ s ∧ it (nx g rot) j p ≤ p ∧ 0 ≤ nx g rot (it (nx g rot) j p)) →
    Ev (fun k => loopsL g rot s p k (it (nx g rot) i p) (i : Int)) (loopsB g rot s p) := by
  have h8 := (good_iff hr.good).1.2
  have hno : (¬ ∃ m, Goes (nx g rot) s p p m) → loopsB g rot s p = true := fun h => by unfold loopsB; simp [h]
  have hyes : (∃ m, Goes (nx g rot) s p p m) → loopsB g rot s p = false := fun h => by unfold loopsB; simp [h]
  intro d
  induction d with
  | zero =>
    intro i hd hi ha
    refine Ev.succ ?_
    simp only [loopsL]
    refine Ev.neg (by omega) ((Ev.now _).val ?_)
    symm; apply hno
    rintro ⟨m, hm⟩
    have hlt := hm.lt hr h0 h1
    have := ha m (by omega)
    rcases hm.at_ with e | e
    · exact this.1 e
    · omega
  | succ d ih =>
    intro i hd hi ha
    have hp := hr.it_ok h0 h1 i (fun j hj => (ha j hj).2.2)
    refine Ev.succ ?_
    simp only [loopsL]
    refine Ev.pos (by omega) ?_
    by_cases hs : it (nx g rot) i p = s
    · exact Ev.pos hs ((Ev.now _).val (hyes ⟨i, .inl hs, ha⟩).symm)
    · refine Ev.neg hs ?_
      by_cases hq : p < it (nx g rot) i p
      · exact Ev.pos hq ((Ev.now _).val (hyes ⟨i, .inr hq, ha⟩).symm)
      · refine Ev.neg hq (Ev.bind0 (trNext_eq hr.rb hr.len hp.1 hp.2) ?_)
        by_cases hneg : nx g rot (it (nx g rot) i p) < 0
        · refine Ev.pos hneg ((Ev.now _).val ?_)
          symm; apply hno
          rintro ⟨m, hm⟩
          rcases Nat.lt_trichotomy m i with h2 | h2 | h2
          · have := ha m h2
            rcases hm.at_ with e | e
            · exact this.1 e
            · omega
          · subst h2
            rcases hm.at_ with e | e
            · exact hs e
            · omega
          · have := (hm.on i h2).2.2; omega
        · refine Ev.neg hneg ?_
          rw [← it_succ (nx g rot) i p, wrap_nat (by omega)]
          exact ih (i + 1) (by omega) (by omega) (fun j hj => by
            rcases Nat.lt_or_ge j i with h2 | h2
            · exact ha j h2
            · obtain rfl : j = i := by omega
              exact ⟨hs, by omega, by omega⟩)
theorem own_lk (l : List Int) (h : l.length ≤ 1048576) : spec_l1Own.f l = some l := by
  unfold spec_l1Own.f
  show (if ([] : List Int).length + l.length < 17592186044416 then some ([] ++ l) else none) = some l
  rw [if_pos (by simp; omega)]; rfl
def Zr (r : List Int) (p : Nat) : Prop := ∀ i : Nat, p ≤ i → i < r.length → rd r (i : Int) = 0
theorem Zr.set0 {r : List Int} {p : Nat} (h : Zr r p) (hp : p < r.length) : r.set p 0 = r := by
  have := h p (Nat.le_refl p) hp
  rw [rd_at hp] at this
  apply List.ext_getElem (by simp)
  intro i h1 h2
  rw [List.getElem_set]
  split
  · rename_i e; subst e; exact this.symm
  · rfl
theorem Zr.up {r : List Int} {p : Nat} (h : Zr r p) (hp : p < r.length) (k : Int) : Zr (r.set p k) (p + 1) := by
  intro i h1 h2
  rw [rd_set_nat hp (by omega), if_neg (by omega)]
  exact h i (by omega) (by simpa using h2)
/-- What is found: at most so many and one. -/
theorem lookF_ev {g : List (List Int)} {s : Int} (most : Nat) (hm : most ≤ 1000) : ∀ (d p : Nat) (r : List Int) (found : List (List Int)), p + d = g.length → Rot g r → Zr r p → found.length ≤ most + 1 →
    Ev (fun k => lookF g s most k none (p : Int) r found) (r, (found ++ trL g s d p r).take (most + 1)) := by
  intro d
  induction d with
  | zero =>
    intro p r found hp hr hz hf
    have h8 := (good_iff hr.good).1.2
    have hl := hr.len
    refine Ev.succ ?_
    simp only [lookF]
    by_cases h : (most : Int) < (found.length : Int)
    · refine Ev.pos h ((Ev.now _).val ?_)
      rw [List.take_append_of_le_length (by omega), List.take_of_length_le (by omega)]
    · refine Ev.neg h (Ev.pos (by omega) (Ev.bind0 (own_lk r (by omega)) (Ev.pos (by omega) ((Ev.now _).val ?_))))
      simp only [trL]
      rw [List.take_of_length_le (by simp; omega)]
  | succ d ih =>
    intro p r found hp hr hz hf
    have h8 := (good_iff hr.good).1.2
    have hl := hr.len
    refine Ev.succ ?_
    simp only [lookF]
    by_cases h : (most : Int) < (found.length : Int)
    · refine Ev.pos h ((Ev.now _).val ?_)
      rw [List.take_append_of_le_length (by omega), List.take_of_length_le (by omega)]
    · refine Ev.neg h (Ev.neg (by omega) ?_)
      simp only [trL]
      by_cases hs : (p : Int) = s
      · rw [if_pos hs]
        refine Ev.pos hs ?_
        rw [wrap_nat (by omega)]
        exact ih (p + 1) r found (by omega) hr (fun i h1 h2 => hz i (by omega) h2) hf
      · rw [if_neg hs]
        refine Ev.neg hs (Ev.pos (by omega) (Ev.pos (by omega) ?_))
        have h5 := ((good_iff hr.good).2 (rd_L1 g (p : Int)) (by rw [rdL_at (by omega)]; exact List.getElem_mem _)).1
        have key : ∀ e j (x : Int) (found : List (List Int)), (rd_L1 g (p : Int)).length - j = e → j ≤ (rd_L1 g (p : Int)).length → (x = 0 ∨ x < ((rd_L1 g (p : Int)).length : Int)) → 0 ≤ x → found.length ≤ most + 1 →
            Ev (fun k => lookF g s most k (some (j : Int)) (p : Int) (r.set p x) found) (r, (found ++ ((List.range (rd_L1 g (p : Int)).length).drop j).flatMap fun (k : Nat) => if loopsB g (r.set p (k : Int)) s p then [] else trL g s d (p + 1) (r.set p (k : Int))).take (most + 1)) := by
          intro e
          induction e with
          | zero =>
            intro j x found he hj hx hx0 hf
            refine Ev.succ ?_
            simp only [lookF]
            refine Ev.neg (by omega) (Ev.pos (by simp; omega) ((Ev.now _).val ?_))
            rw [Int.toNat_natCast, List.set_set, hz.set0 (by omega), List.drop_eq_nil_of_le (by simp; omega), List.flatMap_nil, List.append_nil, List.take_of_length_le hf]
          | succ e ihe =>
            intro j x found he hj hx hx0 hf
            have hd : (List.range (rd_L1 g (p : Int)).length).drop j = j :: (List.range (rd_L1 g (p : Int)).length).drop (j + 1) := by
              rw [List.drop_eq_getElem_cons (by simp; omega)]; simp
            rw [hd, List.flatMap_cons]
            have hrj : Rot g (r.set p (j : Int)) := hr.set (by omega) (by omega) (.inl (by omega))
            refine Ev.succ ?_
            simp only [lookF]
            refine Ev.pos (by omega) (Ev.pos (by simp; omega) ?_)
            rw [Int.toNat_natCast, List.set_set, wrap_nat (by omega)]
            have hlo := loopsL_ev hrj (s := s) (p := (p : Int)) (by omega) (by omega) (g.length + 1) 0 (by omega) (by omega) (fun j hj => by omega)
            refine Ev.bind hlo ?_
            by_cases hb : loopsB g (r.set p (j : Int)) s p = true
            · rw [if_pos hb, List.nil_append]
              exact Ev.pos hb (ihe (j + 1) _ found (by omega) (by omega) (.inr (by omega)) (by omega) hf)
            · rw [if_neg hb]
              refine Ev.neg hb ?_
              rw [wrap_nat (by omega)]
              refine Ev.bind (ih (p + 1) (r.set p (j : Int)) found (by omega) hrj (hz.up (by omega) _) hf) ?_
              refine (ihe (j + 1) _ _ (by omega) (by omega) (.inr (by omega)) (by omega) (by rw [List.length_take]; omega)).val ?_
              rw [← List.append_assoc, List.take_append (l₁ := found ++ trL g s d (p + 1) (r.set p (j : Int)))]
              rw [List.take_append (l₁ := (found ++ trL g s d (p + 1) (r.set p (j : Int))).take (most + 1)), List.take_take, Nat.min_self]
              congr 3
              rw [List.length_take]
              omega
        have := key (rd_L1 g (p : Int)).length 0 0 found (by omega) (by omega) (.inl rfl) (by omega) hf
        rw [hz.set0 (by omega)] at this
        simpa using this
theorem zr0 (n : Nat) : Zr (List.replicate n 0) 0 := by
  intro i _ h
  rw [rd_at h]
  simp
theorem trAll_ev {g : List (List Int)} (hg : goodG g = true) (s : Int) (most : Nat) (hm : most ≤ 1000) : Ev (fun k => spec_trAll.f k g s most) ((trL g s g.length 0 (List.replicate g.length 0)).take (most + 1)) := by
  have h8 := (good_iff hg).1
  unfold spec_trAll.f
  refine Ev.pos (by omega) (Ev.pos (by omega) (Ev.bind (lookF_ev most hm g.length 0 _ [] (by omega) (rot0 hg) (zr0 _) (by simp)) ((Ev.now _).val ?_)))
  rw [List.nil_append]
end Go.Proofs.Ythjkhbfaenidpaa.M
namespace Go.Proofs.Ythjkhbfaenidpaa.M
open Go.RowKit Go.Proofs.Ythjkhbfaenidpaa.P Go.Proofs.Ythjkhbfaenidpaa.In Go.Proofs.YthjkhbfaenidpaaW.PrintWords Go.Proofs.YthjkhbfaenidpaaW.PrintLast
set_option linter.unusedVariables false
set_option linter.unusedSimpArgs false
inductive Fw (g : List (List Int)) (q : Int) : Int → Prop
  | refl : Fw g q q
  | step {x y : Int} : Fw g q x → y ∈ rd_L1 g x → Fw g q y
inductive RTo (g : List (List Int)) (s : Int) : Nat → Int → Prop
  | refl : RTo g s 0 s
  | step {m : Nat} {q y : Int} : y ∈ rd_L1 g q → RTo g s m y → RTo g s (m + 1) q
theorem rto_of_fw {g : List (List Int)} {q s : Int} (h : Fw g q s) : ∃ m, RTo g s m q := by
  have key : ∀ x, Fw g q x → (∃ m, RTo g s m x) → ∃ m, RTo g s m q := by
    intro x hx
    induction hx with
    | refl => intro h; exact h
    | step _ hy ih => rintro ⟨m, hm⟩; exact ih ⟨m + 1, .step hy hm⟩
  exact key s h ⟨0, .refl⟩
theorem vis_fw {g : List (List Int)} {q : Int} {n : Nat} (hn : n = g.length) {c : Int} (hc : Fw g q c) : ∀ (row o qs : List Int), (∀ y ∈ row, y ∈ rd_L1 g c ∧ 0 ≤ y ∧ y < (n : Int)) → o.length = n → (∀ x : Int, 0 ≤ x → x < (n : Int) → 0 ≤ rd o x → Fw g q x) → (∀ x ∈ qs, Fw g q x ∧ 0 ≤ x ∧ x < (n : Int)) →
    (vis c row o qs).1.length = n ∧ (∀ x : Int, 0 ≤ x → x < (n : Int) → 0 ≤ rd (vis c row o qs).1 x → Fw g q x) ∧ (∀ x ∈ (vis c row o qs).2, Fw g q x ∧ 0 ≤ x ∧ x < (n : Int)) := by
  intro row
  induction row with
  | nil => intro o qs _ hl ho hq; exact ⟨hl, ho, hq⟩
  | cons y row ih =>
    intro o qs hrow hl ho hq
    obtain ⟨hy, y0, y1⟩ := hrow y (by simp)
    simp only [vis]
    split
    · refine ih _ _ (fun z hz => hrow z (by simp [hz])) (by simp [hl]) (fun x x0 x1 hx => ?_) (fun x hx => ?_)
      · rw [rd_set y0 (by omega) x0] at hx
        split at hx
        · rename_i e; rw [e]; exact .step hc hy
        · exact ho x x0 x1 hx
      · rcases List.mem_append.1 hx with h | h
        · exact hq x h
        · rw [List.mem_singleton.1 h]; exact ⟨.step hc hy, y0, y1⟩
    · exact ih _ _ (fun z hz => hrow z (by simp [hz])) hl ho hq
theorem bfs_fw {g : List (List Int)} (hg : goodG g = true) {q : Int} : ∀ (f : Nat) (o qs : List Int), o.length = g.length → (∀ x : Int, 0 ≤ x → x < (g.length : Int) → 0 ≤ rd o x → Fw g q x) → (∀ x ∈ qs, Fw g q x ∧ 0 ≤ x ∧ x < (g.length : Int)) →
    ∀ x : Int, 0 ≤ x → x < (g.length : Int) → 0 ≤ rd (bfs g f o qs) x → Fw g q x := by
  intro f
  induction f with
  | zero => intro o qs _ ho _; exact ho
  | succ f ih =>
    intro o qs hl ho hq
    cases qs with
    | nil => exact ho
    | cons c qs =>
      obtain ⟨hc, c0, c1⟩ := hq c (by simp)
      simp only [bfs]
      obtain ⟨a1, a2, a3⟩ := vis_fw (n := g.length) rfl hc (rd_L1 g c) o qs (fun y hy => ⟨hy, ((good_iff hg).2 (rd_L1 g c) (by rw [rdL_get c0 c1]; exact List.getElem_mem _)).2 y hy⟩) hl ho (fun x hx => hq x (by simp [hx]))
      exact ih _ _ a1 a2 a3
theorem far_fw {g : List (List Int)} {q x : Int} (h : placeB g q = true) (x0 : 0 ≤ x) (x1 : x < (g.length : Int)) (hx : 0 ≤ rd (far g q) x) : Fw g q x := by
  obtain ⟨hg, h0, h1⟩ := place_iff h
  refine bfs_fw hg g.length _ [q] (by simp) (fun x x0 x1 hx => ?_) (fun x hx => by rw [List.mem_singleton.1 hx]; exact ⟨.refl, h0, h1⟩) x x0 x1 hx
  rw [rd_set h0 (by simpa using h1) x0] at hx
  split at hx
  · rename_i e; rw [e]; exact .refl
  · rw [rd_get x0 (by simpa using x1)] at hx; simp at hx
theorem leadsFrom_at {g : List (List Int)} {p : Int} : ∀ (d i : Nat), leadsFrom g p d i = true → ∀ j : Nat, i ≤ j → j < i + d → 0 ≤ rd (far g (j : Int)) p := by
  intro d
  induction d with
  | zero => intro i _ j h1 h2; omega
  | succ d ih =>
    intro i h j h1 h2
    simp only [leadsFrom] at h
    split at h
    · cases h
    · by_cases e : j = i
      · subst e; omega
      · exact ih (i + 1) h j (by omega) (by omega)
theorem least {P : Nat → Prop} (h : ∃ n, P n) : ∃ n, P n ∧ ∀ m, m < n → ¬ P m := by
  obtain ⟨n, hn⟩ := h
  induction n using Nat.strongRecOn with
  | ind n ih =>
    by_cases h2 : ∃ m, m < n ∧ P m
    · obtain ⟨m, h3, h4⟩ := h2; exact ih m h3 h4
    · exact ⟨n, hn, fun m hm hp => h2 ⟨m, hm, hp⟩⟩
def Mn (g : List (List Int)) (s : Int) (m : Nat) (q : Int) : Prop := RTo g s m q ∧ ∀ j, j < m → ¬ RTo g s j q
open Classical in
/-- The exit by which the way to s is least. -/
noncomputable def bestK (g : List (List Int)) (s q : Int) : Int := if h : ∃ k : Nat, k < (rd_L1 g q).length ∧ ∃ m, Mn g s (m + 1) q ∧ Mn g s m (rd (rd_L1 g q) (k : Int)) then ((Classical.choose h : Nat) : Int) else 0
noncomputable def best (g : List (List Int)) (s : Int) : List Int := (List.range g.length).map fun (q : Nat) => if (q : Int) = s then 0 else bestK g s (q : Int)
theorem rd_best {g : List (List Int)} {s q : Int} (h0 : 0 ≤ q) (h1 : q < (g.length : Int)) : rd (best g s) q = if q = s then 0 else bestK g s q := by
  rw [rd_get h0 (by simpa [best] using h1)]
  simp only [best, List.getElem_map, List.getElem_range]
  rw [show ((q.toNat : Nat) : Int) = q by omega]
theorem best_rot {g : List (List Int)} (hg : goodG g = true) (s : Int) : Rot g (best g s) := by
  refine ⟨hg, rotB_of _ _ (fun i h1 h2 => ?_), by simp [best]⟩
  have e : (best g s)[i] = rd (best g s) (i : Int) := (rd_at h1).symm
  rw [e, rd_best (by omega) (by omega)]
  split
  · omega
  · unfold bestK
    split
    · rename_i hs hk
      have e2 : g[i].length = (rd_L1 g (i : Int)).length := by rw [rdL_at h2]
      rw [e2]
      exact ⟨by omega, .inl (by have := (Classical.choose_spec hk).1; omega)⟩
    · omega
theorem Hit.cons {f : Int → Int} {s q : Int} {m : Nat} (hq : q ≠ s) (h0 : 0 ≤ f q) (h : Hit f s (f q) m) : Hit f s q (m + 1) := by
  have e : ∀ j, it f (j + 1) q = it f j (f q) := fun j => by rw [Nat.add_comm, it_add]; rfl
  refine ⟨by rw [e]; exact h.at_, fun j hj => ?_⟩
  cases j with
  | zero => exact ⟨hq, h0⟩
  | succ j => rw [e]; exact h.on j (by omega)
theorem best_hit {g : List (List Int)} (hg : goodG g = true) {s : Int} : ∀ (m : Nat) (q : Int), 0 ≤ q → q < (g.length : Int) → Mn g s m q → Hit (nx g (best g s)) s q m := by
  intro m
  induction m with
  | zero =>
    intro q _ _ h
    obtain ⟨h1, _⟩ := h
    cases h1
    exact ⟨rfl, fun j hj => by omega⟩
  | succ m ih =>
    intro q q0 q1 h
    have hqs : q ≠ s := by
      rintro rfl
      exact h.2 0 (by omega) .refl
    have hk : ∃ k : Nat, k < (rd_L1 g q).length ∧ ∃ m, Mn g s (m + 1) q ∧ Mn g s m (rd (rd_L1 g q) (k : Int)) := by
      obtain ⟨h1, h2⟩ := h
      cases h1 with
      | step hy hr =>
        rename_i y
        obtain ⟨k, hk, e⟩ := List.mem_iff_getElem.1 hy
        refine ⟨k, hk, m, ⟨.step hy hr, h2⟩, ?_⟩
        rw [rd_at hk, e]
        exact ⟨hr, fun j hj hj2 => h2 (j + 1) (by omega) (.step hy hj2)⟩
    have hb : bestK g s q = ((Classical.choose hk : Nat) : Int) := by unfold bestK; rw [dif_pos hk]
    obtain ⟨k1, m2, k2, k3⟩ := Classical.choose_spec hk
    obtain rfl : m2 = m := by
      rcases Nat.lt_trichotomy m2 m with h3 | h3 | h3
      · exact absurd k2.1 (h.2 (m2 + 1) (by omega))
      · exact h3
      · exact absurd h.1 (k2.2 (m + 1) (by omega))
    have hn : nx g (best g s) q = rd (rd_L1 g q) ((Classical.choose hk : Nat) : Int) := by
      unfold nx
      rw [if_neg (by omega), rd_best q0 q1, if_neg hqs, hb]
    have hin : rd (rd_L1 g q) ((Classical.choose hk : Nat) : Int) ∈ rd_L1 g q := by rw [rd_at k1]; exact List.getElem_mem _
    have hy := ((good_iff hg).2 (rd_L1 g q) (by rw [rdL_get q0 q1]; exact List.getElem_mem _)).2 _ hin
    refine Hit.cons hqs (by rw [hn]; exact hy.1) ?_
    rw [hn]
    exact ih _ hy.1 hy.2 k3
theorem best_tree {g : List (List Int)} (hg : goodG g = true) {s : Int} (s0 : 0 ≤ s) (s1 : s < (g.length : Int)) (hl : leads g s = true) : treeB g (best g s) s = true := by
  rw [treeB_iff]
  intro j hj
  have h := leadsFrom_at g.length 0 hl j (by omega) (by omega)
  obtain ⟨m, hm, hm2⟩ := least (rto_of_fw (far_fw (place_of hg hj) s0 s1 h))
  exact ⟨m, best_hit hg m _ (by omega) (by omega) ⟨hm, hm2⟩⟩
theorem ext_rd {a b : List Int} (hl : a.length = b.length) (h : ∀ i : Nat, i < a.length → rd a (i : Int) = rd b (i : Int)) : a = b := by
  apply List.ext_getElem hl
  intro i h1 h2
  have := h i h1
  rwa [rd_at h1, rd_at h2] at this
/-- Rotors in order: all that have the sink's at 0. -/
theorem in_lexL {g : List (List Int)} {s : Int} : ∀ (d p : Nat) (r r2 : List Int), p + d = g.length → r.length = g.length → Rot g r2 → (∀ i : Nat, (i : Int) = s → rd r2 (i : Int) = rd r (i : Int)) → (∀ i : Nat, i < p → rd r2 (i : Int) = rd r (i : Int)) → r2 ∈ lexL g s d p r := by
  intro d
  induction d with
  | zero =>
    intro p r r2 hp hl hr hs ha
    simp only [lexL, List.mem_singleton]
    have := hr.len
    exact ext_rd (by omega) (fun i hi => ha i (by omega))
  | succ d ih =>
    intro p r r2 hp hl hr hs ha
    have hl2 := hr.len
    simp only [lexL]
    by_cases h : (p : Int) = s
    · rw [if_pos h]
      refine ih (p + 1) r r2 (by omega) hl hr hs (fun i hi => ?_)
      by_cases e : i = p
      · rw [e]; exact hs p h
      · exact ha i (by omega)
    · rw [if_neg h, List.mem_flatMap]
      obtain ⟨a, b⟩ := rot_rd hr.rb hl2 (p := (p : Int)) (by omega) (by omega)
      have h00 : (rd_L1 g (p : Int)).length = 0 → rd r2 (p : Int) = 0 := by
        intro h0
        have := rot_at r2 g hr.rb p (by omega) (by omega)
        rw [rd_at (by omega)]
        rw [rdL_at (by omega)] at h0
        omega
      refine ⟨(rd r2 (p : Int)).toNat, by rw [List.mem_range]; omega, ih (p + 1) _ r2 (by omega) (by simp [hl]) hr (fun i hi => ?_) (fun i hi => ?_)⟩
      · rw [rd_set_nat (by omega) (by omega), if_neg (by omega)]; exact hs i hi
      · rw [rd_set_nat (by omega) (by omega)]
        by_cases e : i = p
        · subst e; rw [if_pos rfl]; omega
        · rw [if_neg (by omega)]; exact ha i (by omega)
/-- **Where each place leads to the sink, a tree is found.** -/
theorem trL_some {g : List (List Int)} (hg : goodG g = true) {s : Int} (s0 : 0 ≤ s) (s1 : s < (g.length : Int)) (hl : leads g s = true) : trL g s g.length 0 (List.replicate g.length 0) ≠ [] := by
  rw [← filter_lexL s0 s1 g.length 0 _ (by omega) (rot0 hg) (inv0 g s _)]
  intro h
  rw [List.filter_eq_nil_iff] at h
  refine h (best g s) (in_lexL g.length 0 _ _ (by omega) (by simp) (best_rot hg s) (fun i hi => ?_) (fun i hi => by omega)) (best_tree hg s0 s1 hl)
  have hi2 : i < g.length := by omega
  rw [rd_best (by omega) (by omega), if_pos hi, rd_at (by simpa using hi2)]
  simp
end Go.Proofs.Ythjkhbfaenidpaa.M
namespace Go.Proofs.Ythjkhbfaenidpaa.M
open Go.RowKit Go.Proofs.Ythjkhbfaenidpaa.P Go.Proofs.Ythjkhbfaenidpaa.In Go.Proofs.YthjkhbfaenidpaaW.PrintWords Go.Proofs.YthjkhbfaenidpaaW.PrintLast
set_option linter.unusedVariables false
set_option linter.unusedSimpArgs false
def marks (a : Int) : Nat → List Int
  | 0 => []
  | n + 1 => a :: marks (a + 1) n
theorem marks_len (a : Int) (n : Nat) : (marks a n).length = n := by
  induction n generalizing a with
  | zero => rfl
  | succ n ih => simp [marks, ih]
theorem markIntS_l0 (n : Nat) (hn : n ≤ 4611686018427387904) : ∀ (d i : Nat) (x : List Int) (a : Int), x.length = n → n - i = d → i ≤ n → 0 ≤ a → a + d ≤ 4611686018427387904 → Ev (fun k => laws_markIntS.l0 k x a i) (a + d, x.take i ++ marks a d) := by
  intro d
  induction d with
  | zero =>
    intro i x a hx hd hi h0 h1
    refine Ev.succ ?_
    simp only [laws_markIntS.l0]
    refine Ev.neg (by omega) ((Ev.now _).val ?_)
    rw [List.take_of_length_le (by omega)]; simp [marks]
  | succ d ih =>
    intro i x a hx hd hi h0 h1
    refine Ev.succ ?_
    simp only [laws_markIntS.l0]
    refine Ev.pos (by omega) (Ev.pos (by omega) ?_)
    rw [wrap_id (x := a + 1) (by omega), wrap_nat (by omega), Int.toNat_natCast]
    refine (ih (i + 1) (x.set i a) (a + 1) (by rw [List.length_set]; exact hx) (by omega) (by omega) (by omega) (by omega)).val ?_
    rw [List.take_succ_eq_append_getElem (by rw [List.length_set]; omega), List.take_set_of_le (Nat.le_refl _), List.getElem_set_self]
    simp only [marks, List.append_assoc, List.singleton_append]
    congr 1; omega
theorem markIntS (x : List Int) (a : Int) (hn : x.length ≤ 4611686018427387904) (h0 : 0 ≤ a) (h1 : a + x.length ≤ 4611686018427387904) : Ev (fun k => laws_markIntS.f k x a) (a + x.length, marks a x.length) := by
  have := markIntS_l0 x.length hn x.length 0 x a rfl (by omega) (by omega) h0 h1
  unfold laws_markIntS.f
  simpa using this
theorem heldIntS_l0 (n : Nat) (hn : n ≤ 4611686018427387904) (y : List Int) (hy : y.length = n) : ∀ (d i : Nat) (a : Int), n - i = d → i ≤ n → 0 ≤ a → a + d ≤ 4611686018427387904 → y.drop i = marks a d → Ev (fun k => laws_heldIntS.l0 k y a i) (a + d) := by
  intro d
  induction d with
  | zero =>
    intro i a hd hi h0 h1 he
    refine Ev.succ ?_
    simp only [laws_heldIntS.l0]
    exact Ev.neg (by omega) ((Ev.now _).val (by simp))
  | succ d ih =>
    intro i a hd hi h0 h1 he
    have hlt : i < y.length := by omega
    rw [List.drop_eq_getElem_cons hlt] at he
    simp only [marks, List.cons.injEq] at he
    refine Ev.succ ?_
    simp only [laws_heldIntS.l0]
    refine Ev.pos (by omega) (Ev.pos (by omega) (Ev.pos (by rw [rd_at hlt]; exact he.1) ?_))
    rw [wrap_id (x := a + 1) (by omega), wrap_nat (by omega)]
    exact (ih (i + 1) (a + 1) (by omega) (by omega) (by omega) (by omega) he.2).val (by omega)
theorem heldIntS (a : Int) (n : Nat) (h0 : 0 ≤ a) (h1 : a + n ≤ 4611686018427387904) : Ev (fun k => laws_heldIntS.f k (marks a n) a) (a + n) :=
  heldIntS_l0 n (by omega) _ (marks_len a n) n 0 a (by omega) (by omega) h0 h1 (by simp)
theorem markR (r : List Int) (h : r.length ≤ 1048576) : ∃ q r', Ev (fun k => laws_markIntS.f k r 1) (q, r') ∧ 0 ≤ q ∧ Ev (fun k => laws_heldIntS.f k r' 1) q ∧ True :=
  ⟨_, _, markIntS r 1 (by omega) (by omega) (by omega), by omega, heldIntS 1 r.length (by omega) (by omega), trivial⟩
end Go.Proofs.Ythjkhbfaenidpaa.M
namespace Go.Proofs.Ythjkhbfaenidpaa.M
open Go.RowKit Go.Proofs.Ythjkhbfaenidpaa.P Go.Proofs.Ythjkhbfaenidpaa.In Go.Proofs.YthjkhbfaenidpaaW.PrintWords Go.Proofs.YthjkhbfaenidpaaW.PrintLast
set_option linter.unusedVariables false
set_option linter.unusedSimpArgs false
def markRows (a : Int) : List (List Int) → Int × List (List Int)
  | [] => (a, [])
  | row :: rest => ((markRows (a + row.length) rest).1, marks a row.length :: (markRows (a + row.length) rest).2)
theorem markIntSS_l0 (n : Nat) (hn : n ≤ 1048576) : ∀ (d i : Nat) (x : List (List Int)) (a : Int), x.length = n → (∀ row ∈ x.drop i, row.length ≤ 1048576) → n - i = d → i ≤ n → 0 ≤ a → a + 1048576 * d ≤ 4611686018427387904 → Ev (fun k => laws_markIntSS.l0 k x a i) ((markRows a (x.drop i)).1, x.take i ++ (markRows a (x.drop i)).2) ∧ a ≤ (markRows a (x.drop i)).1 ∧ (markRows a (x.drop i)).1 ≤ a + 1048576 * d := by
  intro d
  induction d with
  | zero =>
    intro i x a hx hr hd hi h0 h1
    rw [List.drop_of_length_le (by omega)]
    refine ⟨?_, by simp [markRows], by simp [markRows]⟩
    refine Ev.succ ?_
    simp only [laws_markIntSS.l0]
    refine Ev.neg (by omega) ((Ev.now _).val ?_)
    rw [List.take_of_length_le (by omega)]; simp [markRows]
  | succ d ih =>
    intro i x a hx hr hd hi h0 h1
    have hlt : i < x.length := by omega
    have hrow := hr x[i] (by rw [List.drop_eq_getElem_cons hlt]; exact List.mem_cons_self)
    have hdrop : (x.set i (marks a x[i].length)).drop (i + 1) = x.drop (i + 1) := List.drop_set_of_lt (by omega)
    obtain ⟨e1, e2, e3⟩ := ih (i + 1) (x.set i (marks a x[i].length)) (a + x[i].length) (by rw [List.length_set]; exact hx) (fun row hm => hr row (by rw [hdrop] at hm; rw [List.drop_eq_getElem_cons hlt]; exact List.mem_cons_of_mem _ hm)) (by omega) (by omega) (by omega) (by omega)
    rw [hdrop] at e1 e2 e3
    rw [List.drop_eq_getElem_cons hlt]
    simp only [markRows]
    refine ⟨?_, by omega, by omega⟩
    refine Ev.succ ?_
    simp only [laws_markIntSS.l0]
    refine Ev.pos (by omega) (Ev.pos (by omega) ?_)
    rw [rdL_at hlt]
    refine Ev.bind (markIntS x[i] a (by omega) h0 (by omega)) ?_
    rw [wrap_nat (by omega), Int.toNat_natCast]
    refine e1.val ?_
    rw [List.take_succ_eq_append_getElem (by rw [List.length_set]; omega), List.take_set_of_le (Nat.le_refl _), List.getElem_set_self]
    simp
theorem markIntSS (x : List (List Int)) (hx : small x) (a : Int) (h0 : 0 ≤ a) (h1 : a ≤ 1099511627776) : Ev (fun k => laws_markIntSS.f k x a) ((markRows a x).1, (markRows a x).2) ∧ a ≤ (markRows a x).1 ∧ (markRows a x).1 ≤ a + 1099511627776 := by
  have hl := hx.1
  obtain ⟨e1, e2, e3⟩ := markIntSS_l0 x.length hx.1 x.length 0 x a rfl (fun row hm => hx.2 row (by simpa using hm)) (by omega) (by omega) h0 (by omega)
  refine ⟨by unfold laws_markIntSS.f; simpa using e1, by simpa using e2, ?_⟩
  have : (markRows a x).1 ≤ a + 1048576 * x.length := by simpa using e3
  omega
theorem markG (x : List (List Int)) (hx : small x) : ∃ m x', Ev (fun k => laws_markGraph.f k x 1) (m, x') ∧ 0 ≤ m ∧ m ≤ 1099511627777 := by
  obtain ⟨e1, e2, e3⟩ := markIntSS x hx 1 (by omega) (by omega)
  exact ⟨_, _, e1, by omega, by omega⟩
end Go.Proofs.Ythjkhbfaenidpaa.M
namespace Go.Proofs.Ythjkhbfaenidpaa.Pure
open Go.RowKit Go.Proofs.Ythjkhbfaenidpaa.P Go.Proofs.Ythjkhbfaenidpaa.In Go.Proofs.Ythjkhbfaenidpaa.M Go.Proofs.YthjkhbfaenidpaaW.PrintWords Go.Proofs.YthjkhbfaenidpaaW.PrintLast
set_option linter.unusedVariables false
set_option linter.unusedSimpArgs false
theorem FnExactFirstTree (l : List (List Int)) (hl : okSS l) (p : Int) (hp : okI p) : laws_FnExactFirstTree.f l p = some true := by
  unfold laws_FnExactFirstTree.f
  rw [if_pos]
  unfold laws_FnExactFirstTree.Good
  obtain ⟨r, hr, _, hs⟩ := szGraph l hl
  refine ⟨r, hr, fun h => ?_⟩
  have sm := hs h
  obtain ⟨v, b, hS, hI, hv⟩ : ∃ (v : List Int) (b : Bool), Ev (fun k => spec_FirstTree.f k l p) (v, b) ∧ Ev (fun k => impl_FirstTree.f k l p) (v, b) ∧ v.length ≤ 1048576 := by
    by_cases hg : sunkB l p = true
    · obtain ⟨hpl, hle⟩ := sunk_iff hg
      obtain ⟨hgood, h0, h1⟩ := place_iff hpl
      have h8 := (good_iff hgood).1.2
      have hne := trL_some hgood h0 h1 hle
      obtain ⟨xs, hxs⟩ : ∃ xs, xs = trL l p l.length 0 (List.replicate l.length 0) := ⟨_, rfl⟩
      rw [← hxs] at hne
      have hlen : 0 < xs.length := List.length_pos_iff.2 hne
      have e1 : (xs.take 1).length = 1 := by rw [List.length_take]; omega
      refine ⟨rd_L1 (xs.take 1) 0, true, ?_, ?_, ?_⟩
      · unfold spec_FirstTree.f
        refine Ev.bind (grPlace l p hl) (Ev.pos hpl (Ev.bind (grLeads hpl) (Ev.pos hle (Ev.bind ((trAll_ev hgood p 0 (by omega)).val (by rw [← hxs])) (Ev.pos (by omega) (Ev.now _))))))
      · unfold impl_FirstTree.f
        exact Ev.bind (hasSink_ev l p) (Ev.pos hg (Ev.bind ((allTrees_ev hgood h0 h1 1 (by omega) (by omega)).val (by rw [← hxs])) (Ev.pos (by omega) (Ev.now _))))
      · have hin : rd_L1 (xs.take 1) ((0 : Nat) : Int) ∈ xs := by
          rw [rdL_at (by omega)]; exact List.mem_of_mem_take (List.getElem_mem _)
        rw [hxs, ← filter_lexL h0 h1 l.length 0 _ (by omega) (rot0 hgood) (inv0 l p _)] at hin
        have := (mem_lexL p l.length 0 _ _ (by omega) (rot0 hgood) (List.mem_filter.1 hin).1).1.len
        rw [filter_lexL h0 h1 l.length 0 _ (by omega) (rot0 hgood) (inv0 l p _), ← hxs] at this
        have e : rd_L1 (xs.take 1) ((0 : Nat) : Int) = rd_L1 (xs.take 1) 0 := rfl
        rw [e] at this
        omega
    · have hg' : sunkB l p = false := Bool.eq_false_iff.mpr hg
      refine ⟨[], false, ?_, ?_, by simp⟩
      · unfold spec_FirstTree.f
        by_cases hpl : placeB l p = true
        · have hle : ¬ leads l p = true := fun h => hg (by unfold sunkB; rw [hpl, h]; rfl)
          exact Ev.bind (grPlace l p hl) (Ev.pos hpl (Ev.bind (grLeads hpl) (Ev.neg hle (Ev.now _))))
        · exact Ev.bind (grPlace l p hl) (Ev.neg hpl (Ev.now _))
      · unfold impl_FirstTree.f
        exact Ev.bind (hasSink_ev l p) (Ev.neg hg (Ev.now _))
  obtain ⟨m, l', hm, hm0, _⟩ := markG l sm
  exact ⟨toGraph l sm, v, b, hS, hI, (eqIntS v v (by omega)).val (decide_eq_true rfl), small_eq l sm, m, l', hm, hm0, markR v hv⟩
end Go.Proofs.Ythjkhbfaenidpaa.Pure
namespace Go.Proofs.Ythjkhbfaenidpaa.fnExactFirstTree
open Go.ChangeShapes Go.WideShapes Go.ChangeAt Go.RowKit
open Go.ChangeMaps (open_string shut_string)
open Go.Proofs.Ythjkhbfaenidpaa.In Go.Proofs.Ythjkhbfaenidpaa.P
set_option linter.unusedVariables false
theorem own : ownKnob Try.prog.godebug = none := by kernel_rfl
theorem laidOut : laidOutB Try.prog = true := by kernel_rfl
set_option maxRecDepth 100000 in
theorem lifted (os : Os) (started : os.Started) (H : Type) (enc : TypeId × Value → H) :
    ReturnsInHanded {} Try.checked os 4 .any (Rows.fnExactFirstTreeSpec.pre6 enc Try.prog Try.f4 Rows.fnExactFirstTreeRow.domain false) (Rows.fnExactFirstTreeSpec.post enc Try.prog Try.f4 false true false false) := by
  refine returnsInHanded_of_change_sized (C := Try.checked) own started (by kernel_rfl) Try.func4
    (ChangeSpec.witness6 (enc := enc) (C := Try.checked) false ⟨#[], #[.agg #[.slice none 0 0], .int .i64 0], []⟩ 8 (by kernel_rfl) (by kernel_rfl) (by kernel_rfl) (by kernel_rfl)) ?_
  intro W base args ds gs before hval0 hW hcnd hsz0 _
  have hsz : (DataW.weightsEach Try.prog (Try.f4.params.toList ++ Rows.fnExactFirstTreeSpec.plain.varTypes Try.prog) (ds ++ gs)).all (· ≤ reachBytes) = true := hsz0
  have hval : ∀ (j : Nat) t v, Try.f4.params[j]? = some t → args[j]? = some v → Value.okWide Try.prog W .any base t v := hval0
  have hW' := hW
  obtain ⟨p, q, hA0, hV, rfl, hfz, hnd⟩ := hW
  have hA : DataW.TrodAll enc Try.prog W 0 (fun _ => true) true Try.f4.params.toList args.toList ds p := hA0
  rw [Try.params4] at hA hval hsz
  obtain ⟨v0, vs0, d0, ds0, p0, q0, hargs, rfl, rfl, h0, r0⟩ := trodAll_cons hA
  obtain ⟨v1, vs1, d1, ds1, p1, q1, rfl, rfl, rfl, h1, r1⟩ := trodAll_cons r0
  obtain ⟨rfl, rfl, rfl⟩ := trodAll_nil r1
  obtain rfl : args = #[v0, v1] := by cases args; simp_all
  obtain ⟨rfl, rfl⟩ := trodVars_none hV
  have k0 := h0
  have lt0 : ∀ x ∈ p0, x.block < W.heap.size := by obtain ⟨m, hm⟩ := k0; exact DataW.trod_lt m _ _ _ hm
  obtain ⟨A0, l0, cap0, rfl, hl0, hc0, hw0⟩ := in_graph (q := 3) Try.underlying24 (by kernel_rfl) (by kernel_rfl) rfl Try.underlying22 Try.underlying35 Try.underlying3 (by kernel_rfl) (by kernel_rfl) (hval 0 24 v0 rfl rfl) h0
  obtain ⟨a1, rfl, rfl, rfl, w1⟩ := open_int Try.underlying3 (hval 1 3 v1 rfl rfl) h1
  clear hA0 hval0 hsz0 hsz
  have h := Pure.FnExactFirstTree l0 (okSS_wf hc0 hw0) a1 (okI_wf w1)
  refine (laws_FnExactFirstTree.calls _ _ l0 a1 true W hc0 hl0 h).mono fun e W' ⟨he, bel0⟩ => ?_
  have bel : Below W.heap.size W W' := bel0
  subst he
  exact ⟨_, rfl, _, _, _, [], _, [], hW', trodAll_mk1 (shut_bool Try.underlying4 _), (trodAll_cons_mk (Below.trod laidOut (by kernel_rfl) (of_decide_eq_true (by kernel_rfl)) k0 bel lt0) (trodAll_cons_mk (shut_int Try.underlying3 w1) trodAll_mk0)), rfl, bel.frame _, fun h => by cases h⟩
theorem over : Rows.fnExactFirstTreeRow.holds Try.pinned (OpenSpec.ofChange Rows.fnExactFirstTreeSpec) :=
  OpenClaim.holds_of_wide 4 Try.f4 rfl rfl rfl rfl rfl rfl rfl ⟨rfl, rfl, rfl, rfl, rfl⟩ rfl rfl rfl rfl rfl (by kernel_rfl) Try.func4 (by kernel_rfl)
    (of_decide_eq_true (by kernel_rfl)) (by unfold Func.isWrapper; first | (rw [if_pos (by decide +kernel)]; kernel_rfl) | (rw [if_neg (by decide +kernel)]; exact ⟨rfl, rfl⟩))
    (fun os started H enc _ => lifted os started H enc)
theorem proved : Rows.FnExactFirstTreeSaid := over
end Go.Proofs.Ythjkhbfaenidpaa.fnExactFirstTree
namespace Go.Proofs.Ythjkhbfaenidpaa
/-- The law, under a short name, for the claim. -/
theorem fnExactFirstTree_holds : Rows.FnExactFirstTreeSaid := fnExactFirstTree.proved
#print axioms fnExactFirstTree_holds
end Go.Proofs.Ythjkhbfaenidpaa
